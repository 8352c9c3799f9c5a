/- The statement FnExactClassOfChips over lists alone: the program tells what the reference tells.
Conditions: those of the statement. -/
import Derived.Test.YtffliklmahedoaaPx3
import Derived.Test.YtffliklmahedoaaChipH
namespace Go.Proofs.Ytffliklmahedoaa.Pure
open Go.RowKit Go.Proofs.Ytffliklmahedoaa.P Go.Proofs.YtffliklmahedoaaW.PrintWords Go.Proofs.YtffliklmahedoaaW.PrintLast Go.Proofs.Ytffliklmahedoaa.Chips
set_option linter.unusedSimpArgs false

theorem ClassOfChips_both {l : List Int} (hL : l.length ≤ 1099511627776) : ∃ (K : Nat) (r : Int × Bool), (∀ k, K ≤ k → spec_ClassOfChips.f k l = some r) ∧ (∀ k, K ≤ k → impl_ClassOfChips.f k l = some r) := by
  cases h : good l with
  | false =>
    refine ⟨l.length + 1, (0, false), fun k hk => ?_, fun k hk => ?_⟩
    · unfold spec_ClassOfChips.f; rw [chGood_at hL (by omega), h]; rfl
    · unfold impl_ClassOfChips.f; rw [impl_AreChips_eq, h]; rfl
  | true =>
    refine ⟨l.length + 1, (cls l, true), fun k hk => ?_, fun k hk => ?_⟩
    · unfold spec_ClassOfChips.f; rw [chGood_at hL (by omega), h, chClass_at h (by omega)]; rfl
    · unfold impl_ClassOfChips.f; rw [impl_AreChips_eq, h, classOf_at h (by omega)]; rfl
theorem FnExactClassOfChips : laws_FnExactClassOfChips.Pure := by
  intro l _ _ _
  unfold laws_FnExactClassOfChips.f
  by_cases hl : (l.length : Int) > 1048576
  · exact ⟨0, by rw [if_pos hl]⟩
  · have h0l : l.length ≤ 1099511627776 := by omega
    obtain ⟨K, r, hs, hi⟩ := ClassOfChips_both h0l
    have hTl : ∀ k, l.length < k → laws_toIntS.f k l = some l := fun k hk => toIntS_at h0l hk
    have hEl : ∀ k, l.length < k → laws_eqIntS.f k l l = some true := fun k hk => eqIntS_at h0l hk
    refine ⟨K + l.length + 8, ?_⟩
    rw [if_neg hl]
    simp (disch := omega) only [eq_self, hTl, hEl, hs, hi, Option.bind_some, bne_self_eq_false, if_true, if_false, Bool.false_eq_true, Bool.true_eq_false, laws_FnExactClassOfChips.j0]
end Go.Proofs.Ytffliklmahedoaa.Pure
