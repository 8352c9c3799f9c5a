/- The statement FnExactDoComeAgain over lists alone: the program tells what the reference tells.
Conditions: those of the statement. -/
import Derived.Test.YtffliklmahedoaaPx4
import Derived.Test.YtffliklmahedoaaPx5
import Derived.Test.YtffliklmahedoaaChipI
namespace Go.Proofs.Ytffliklmahedoaa.Pure
open Go.RowKit Go.Proofs.Ytffliklmahedoaa.P Go.Proofs.YtffliklmahedoaaW.PrintWords Go.Proofs.YtffliklmahedoaaW.PrintLast Go.Proofs.Ytffliklmahedoaa.Chips
set_option linter.unusedSimpArgs false

theorem DoComeAgain_both {l : List Int} (hL : l.length ≤ 1099511627776) : ∃ (K : Nat) (r : Bool × Bool), (∀ k, K ≤ k → spec_DoComeAgain.f k l = some r) ∧ (∀ k, K ≤ k → impl_DoComeAgain.f k l = some r) := by
  cases h : good l with
  | false =>
    refine ⟨l.length + 1, (false, false), fun k hk => ?_, fun k hk => ?_⟩
    · unfold spec_DoComeAgain.f; rw [chGood_at hL (by omega), h]; rfl
    · unfold impl_DoComeAgain.f; rw [impl_AreChips_eq, h]; rfl
  | true =>
    refine ⟨l.length + 1, (comes l, true), fun k hk => ?_, fun k hk => ?_⟩
    · unfold spec_DoComeAgain.f; rw [chGood_at hL (by omega), h, chComes_at h (by omega)]; rfl
    · unfold impl_DoComeAgain.f; rw [impl_AreChips_eq, h, doComeAgain_at h (by omega)]; rfl
theorem FnExactDoComeAgain : laws_FnExactDoComeAgain.Pure := by
  intro l _ _ _
  unfold laws_FnExactDoComeAgain.f
  by_cases hl : (l.length : Int) > 1048576
  · exact ⟨0, by rw [if_pos hl]⟩
  · have h0l : l.length ≤ 1099511627776 := by omega
    obtain ⟨K, r, hs, hi⟩ := DoComeAgain_both h0l
    have hTl : ∀ k, l.length < k → laws_toIntS.f k l = some l := fun k hk => toIntS_at h0l hk
    have hEl : ∀ k, l.length < k → laws_eqIntS.f k l l = some true := fun k hk => eqIntS_at h0l hk
    refine ⟨K + l.length + 8, ?_⟩
    rw [if_neg hl]
    simp (disch := omega) only [eq_self, hTl, hEl, hs, hi, Option.bind_some, bne_self_eq_false, if_true, if_false, Bool.false_eq_true, Bool.true_eq_false, laws_FnExactDoComeAgain.j0]
end Go.Proofs.Ytffliklmahedoaa.Pure
