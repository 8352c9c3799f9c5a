/- The statement FnExactLostChips over lists alone: the program tells what the reference tells.
Conditions: those of the statement. -/
import Derived.Test.YtffliklmahedoaaPx19
import Derived.Test.YtffliklmahedoaaChipM
namespace Go.Proofs.Ytffliklmahedoaa.Pure
open Go.RowKit Go.Proofs.Ytffliklmahedoaa.P Go.Proofs.YtffliklmahedoaaW.PrintWords Go.Proofs.YtffliklmahedoaaW.PrintLast Go.Proofs.Ytffliklmahedoaa.Chips
set_option linter.unusedSimpArgs false

theorem LostChips_both {l : List Int} (hL : l.length ≤ 1099511627776) : ∃ (K : Nat) (r : Int × Int × Bool), (∀ k, K ≤ k → spec_LostChips.f k l = some r) ∧ (∀ k, K ≤ k → impl_LostChips.f k l = some r) := by
  cases h : good l with
  | false =>
    refine ⟨l.length + 1, (0, 0, false), fun k hk => ?_, fun k hk => ?_⟩
    · unfold spec_LostChips.f; rw [chGood_at hL (by omega), h]; rfl
    · unfold impl_LostChips.f impl_FiringsOf.f; rw [impl_AreChips_eq, h]; rfl
  | true =>
    have hl := good_len h
    obtain ⟨K, hK⟩ := rest_good h
    obtain ⟨K2, hK2⟩ := settle_good h
    have hlen : (addc (List.replicate l.length 0) (rounds 480001 l).2.1).length = l.length := by rw [len_addc, List.length_replicate]
    have hw : wrap64 ((l.length : Int) - 1) = (l.length : Int) - 1 := wrap_id (by omega) (by omega)
    refine ⟨K + K2 + l.length + 1, (rd (addc (List.replicate l.length 0) (rounds 480001 l).2.1) 0, rd (addc (List.replicate l.length 0) (rounds 480001 l).2.1) ((l.length : Int) - 1), true), fun k hk => ?_, fun k hk => ?_⟩
    · unfold spec_LostChips.f; rw [chGood_at hL (by omega), h, hK k (by omega)]
      simp only [Option.bind_some, if_true, hlen, hw]
      rw [if_pos (by omega), if_pos (by omega), if_pos (by omega)]
    · unfold impl_LostChips.f impl_FiringsOf.f; rw [impl_AreChips_eq, h, ]
      simp only [Option.bind_some, if_true]
      rw [hK2 k (by omega)]
      simp only [Option.bind_some, if_true, hlen, hw]
      rw [if_pos (by omega), if_pos (by omega), if_pos (by omega)]
theorem FnExactLostChips : laws_FnExactLostChips.Pure := by
  intro l _ _ _
  unfold laws_FnExactLostChips.f
  by_cases hl : (l.length : Int) > 1048576
  · exact ⟨0, by rw [if_pos hl]⟩
  · have h0l : l.length ≤ 1099511627776 := by omega
    obtain ⟨K, r, hs, hi⟩ := LostChips_both h0l
    have hTl : ∀ k, l.length < k → laws_toIntS.f k l = some l := fun k hk => toIntS_at h0l hk
    have hEl : ∀ k, l.length < k → laws_eqIntS.f k l l = some true := fun k hk => eqIntS_at h0l hk
    refine ⟨K + l.length + 8, ?_⟩
    rw [if_neg hl]
    simp (disch := omega) only [eq_self, hTl, hEl, hs, hi, Option.bind_some, bne_self_eq_false, if_true, if_false, Bool.false_eq_true, Bool.true_eq_false]
    simp only [laws_FnExactLostChips.j0]
    simp (disch := omega) only [eq_self, hTl, hEl, hs, hi, Option.bind_some, bne_self_eq_false, if_true, if_false, Bool.false_eq_true, Bool.true_eq_false]
end Go.Proofs.Ytffliklmahedoaa.Pure
