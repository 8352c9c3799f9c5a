/- The program's AreChips tells what the reference's tells, for all lists: the statement over lists alone.
Conditions: those of the statement. -/
import Derived.Test.YtffliklmahedoaaPx2
import Derived.Test.YtffliklmahedoaaChipC
namespace Go.Proofs.Ytffliklmahedoaa.Pure
open Go.RowKit Go.Proofs.Ytffliklmahedoaa.P Go.Proofs.YtffliklmahedoaaW.PrintWords Go.Proofs.YtffliklmahedoaaW.PrintLast Go.Proofs.Ytffliklmahedoaa.Chips

theorem FnExactAreChips : laws_FnExactAreChips.Pure := by
  intro l _ _ _
  unfold laws_FnExactAreChips.f
  by_cases hl : (l.length : Int) > 1048576
  · exact ⟨0, by rw [if_pos hl]⟩
  · have h0 : l.length ≤ 1099511627776 := by omega
    refine ⟨l.length + 1, ?_⟩
    rw [if_neg hl, toIntS_at h0 (by omega)]
    simp only [Option.bind_some]
    unfold spec_AreChips.f
    rw [chGood_at h0 (by omega), impl_AreChips_eq, eqIntS_at h0 (by omega)]
    simp
end Go.Proofs.Ytffliklmahedoaa.Pure
