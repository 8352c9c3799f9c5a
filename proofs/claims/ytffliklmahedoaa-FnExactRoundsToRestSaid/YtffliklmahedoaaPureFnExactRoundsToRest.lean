/- The statement FnExactRoundsToRest over lists alone: the program tells what the reference tells.
Conditions: those of the statement. -/
import Derived.Test.YtffliklmahedoaaPx18
import Derived.Test.YtffliklmahedoaaPx19
import Derived.Test.YtffliklmahedoaaChipK
namespace Go.Proofs.Ytffliklmahedoaa.Pure
open Go.RowKit Go.Proofs.Ytffliklmahedoaa.P Go.Proofs.YtffliklmahedoaaW.PrintWords Go.Proofs.YtffliklmahedoaaW.PrintLast Go.Proofs.Ytffliklmahedoaa.Chips
set_option linter.unusedSimpArgs false

theorem Rounds_l0 (n : Nat) : ∀ (l : List Int) (c : Int), Calm l → phi l < n → 0 ≤ c ∧ c + phi l ≤ 1125899906842624 → ∃ K, ∀ k, K ≤ k → impl_RoundsToRest.l0 k l c = some (c + (rounds n l).2.2, true) := by
  induction n with
  | zero => intro l c hc hp _; have := phi_nonneg hc.nonneg; omega
  | succ n ih =>
    intro l c hc hp h0
    have hL := hc.len
    by_cases e : places l = []
    · refine ⟨l.length + 2, fun k hk => ?_⟩
      obtain ⟨k, rfl⟩ : ∃ m, k = m + 1 := ⟨k - 1, by omega⟩
      simp only [impl_RoundsToRest.l0, rounds]
      rw [firing_at (by omega) (by omega)]
      simp only [Option.bind_some]
      rw [if_neg (by rw [e]; simp [pl]), if_pos e]; simp
    · have hpl := places_legal l
      have hne := nonempty_length e
      obtain ⟨K, hK⟩ := ih (runs l (places l)) (c + 1) (hc.runs hpl) (by have := phi_round e; omega) (by rw [phi_runs _ _ hpl]; omega)
      refine ⟨K + 2 * l.length + 8, fun k hk => ?_⟩
      obtain ⟨k, rfl⟩ : ∃ m, k = m + 1 := ⟨k - 1, by omega⟩
      simp only [impl_RoundsToRest.l0, rounds]
      rw [firing_at (by omega) (by omega)]
      simp only [Option.bind_some]
      rw [if_pos (by rw [len_pl]; omega), fireAll_at hc (by omega), if_neg e]
      simp only [Option.bind_some]
      have := phi_nonneg hc.nonneg
      rw [wrap_id (by omega) (by omega), hK k (by omega)]
      congr 2; omega
theorem RoundsToRest_both {l : List Int} (hL : l.length ≤ 1099511627776) : ∃ (K : Nat) (r : Int × Bool), (∀ k, K ≤ k → spec_RoundsToRest.f k l = some r) ∧ (∀ k, K ≤ k → impl_RoundsToRest.f k l = some r) := by
  cases h : good l with
  | false =>
    refine ⟨l.length + 1, (0, false), fun k hk => ?_, fun k hk => ?_⟩
    · unfold spec_RoundsToRest.f; rw [chGood_at hL (by omega), h]; rfl
    · unfold impl_RoundsToRest.f; rw [impl_AreChips_eq, h]; rfl
  | true =>
    have hc := good_calm h
    have hl := good_len h
    have hn : phi l < (480001 : Nat) := by have := good_phi h; omega
    obtain ⟨K, hK⟩ := chRest_ev hc 480001 hn
    obtain ⟨K2, hK2⟩ := Rounds_l0 480001 l 0 hc hn (by have := good_phi h; omega)
    refine ⟨K + K2 + l.length + 1, ((rounds 480001 l).2.2, true), fun k hk => ?_, fun k hk => ?_⟩
    · unfold spec_RoundsToRest.f; rw [chGood_at hL (by omega), h, hK k (by omega)]; rfl
    · unfold impl_RoundsToRest.f; rw [impl_AreChips_eq, h, Clone_eq hL]
      simp only [Option.bind_some, if_true]
      rw [hK2 k (by omega)]; simp
theorem FnExactRoundsToRest : laws_FnExactRoundsToRest.Pure := by
  intro l _ _ _
  unfold laws_FnExactRoundsToRest.f
  by_cases hl : (l.length : Int) > 1048576
  · exact ⟨0, by rw [if_pos hl]⟩
  · have h0l : l.length ≤ 1099511627776 := by omega
    obtain ⟨K, r, hs, hi⟩ := RoundsToRest_both h0l
    have hTl : ∀ k, l.length < k → laws_toIntS.f k l = some l := fun k hk => toIntS_at h0l hk
    have hEl : ∀ k, l.length < k → laws_eqIntS.f k l l = some true := fun k hk => eqIntS_at h0l hk
    refine ⟨K + l.length + 8, ?_⟩
    rw [if_neg hl]
    simp (disch := omega) only [eq_self, hTl, hEl, hs, hi, Option.bind_some, bne_self_eq_false, if_true, if_false, Bool.false_eq_true, Bool.true_eq_false, laws_FnExactRoundsToRest.j0]
end Go.Proofs.Ytffliklmahedoaa.Pure
