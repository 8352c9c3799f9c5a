/- The statement FnExactCanFire over lists alone: the program tells what the reference tells.
Conditions: those of the statement. -/
import Derived.Test.YtffliklmahedoaaPx2
import Derived.Test.YtffliklmahedoaaChipG
namespace Go.Proofs.Ytffliklmahedoaa.Pure
open Go.RowKit Go.Proofs.Ytffliklmahedoaa.P Go.Proofs.YtffliklmahedoaaW.PrintWords Go.Proofs.YtffliklmahedoaaW.PrintLast Go.Proofs.Ytffliklmahedoaa.Chips
set_option linter.unusedSimpArgs false

theorem CanFire_both {l : List Int} (hL : l.length ≤ 1099511627776) (a : Int) : ∃ (K : Nat) (r : Bool × Bool), (∀ k, K ≤ k → spec_CanFire.f k l a = some r) ∧ impl_CanFire.f l a = some r := by
  cases h : asked l a with
  | false =>
    refine ⟨l.length + 1, (false, false), fun k hk => ?_, ?_⟩
    · unfold spec_CanFire.f; rw [chAsked_at hL a hk, h]; rfl
    · unfold impl_CanFire.f; rw [isPlace_eq hL, h]; rfl
  | true =>
    obtain ⟨i, rfl, hi, _⟩ := asked_nat h
    refine ⟨l.length + 1, (decide (2 ≤ g l i), true), fun k hk => ?_, ?_⟩
    · unfold spec_CanFire.f; rw [chAsked_at hL _ hk, h]
      simp only [Option.bind_some, if_true]
      rw [if_pos (by omega), if_pos (by omega), rd_g]
      congr 2
    · unfold impl_CanFire.f; rw [isPlace_eq hL, h]
      simp only [Option.bind_some, if_true]
      rw [if_pos (by omega), if_pos (by omega), rd_g]
theorem FnExactCanFire : laws_FnExactCanFire.Pure := by
  intro l a _ _ _ _
  unfold laws_FnExactCanFire.f
  by_cases hl : (l.length : Int) > 1048576
  · exact ⟨0, by rw [if_pos hl]⟩
  · have h0l : l.length ≤ 1099511627776 := by omega
    obtain ⟨K, r, hs, hi⟩ := CanFire_both h0l a
    have hTl : ∀ k, l.length < k → laws_toIntS.f k l = some l := fun k hk => toIntS_at h0l hk
    have hEl : ∀ k, l.length < k → laws_eqIntS.f k l l = some true := fun k hk => eqIntS_at h0l hk
    refine ⟨K + l.length + 8, ?_⟩
    rw [if_neg hl]
    simp (disch := omega) only [eq_self, hTl, hEl, hs, hi, Option.bind_some, bne_self_eq_false, if_true, if_false, Bool.false_eq_true, Bool.true_eq_false, laws_FnExactCanFire.j0]
end Go.Proofs.Ytffliklmahedoaa.Pure
