/- The statement FnExactAreSameClass over lists alone: the program tells what the reference tells.
Conditions: those of the statement. -/
import Derived.Test.YtffliklmahedoaaPx3
import Derived.Test.YtffliklmahedoaaPx4
import Derived.Test.YtffliklmahedoaaChipH
namespace Go.Proofs.Ytffliklmahedoaa.Pure
open Go.RowKit Go.Proofs.Ytffliklmahedoaa.P Go.Proofs.YtffliklmahedoaaW.PrintWords Go.Proofs.YtffliklmahedoaaW.PrintLast Go.Proofs.Ytffliklmahedoaa.Chips
set_option linter.unusedSimpArgs false

theorem FnExactAreSameClass : laws_FnExactAreSameClass.Pure := by
  intro la lb _ _ _ _ _ _
  unfold laws_FnExactAreSameClass.f
  by_cases hla : (la.length : Int) > 1048576
  · exact ⟨0, by rw [if_pos hla]⟩
  · skip
    by_cases hlb : (lb.length : Int) > 1048576
    · exact ⟨0, by rw [if_neg hla, if_pos hlb]⟩
    · have h0lb : lb.length ≤ 1099511627776 := by omega
      have h0la : la.length ≤ 1099511627776 := by omega
      obtain ⟨K, r, hs, hi⟩ := AreSameClass_both h0la h0lb
      have hTla : ∀ k, la.length < k → laws_toIntS.f k la = some la := fun k hk => toIntS_at h0la hk
      have hEla : ∀ k, la.length < k → laws_eqIntS.f k la la = some true := fun k hk => eqIntS_at h0la hk
      have hTlb : ∀ k, lb.length < k → laws_toIntS.f k lb = some lb := fun k hk => toIntS_at h0lb hk
      have hElb : ∀ k, lb.length < k → laws_eqIntS.f k lb lb = some true := fun k hk => eqIntS_at h0lb hk
      refine ⟨K + la.length + lb.length + 8, ?_⟩
      rw [if_neg hla, if_neg hlb]
      simp (disch := omega) only [eq_self, hTla, hTlb, hEla, hElb, hs, hi, Option.bind_some, bne_self_eq_false, if_true, if_false, Bool.false_eq_true, Bool.true_eq_false, laws_FnExactAreSameClass.j0]
end Go.Proofs.Ytffliklmahedoaa.Pure
