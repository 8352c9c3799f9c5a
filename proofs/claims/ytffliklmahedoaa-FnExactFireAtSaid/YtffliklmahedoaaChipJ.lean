/- A round of firings, and how many chips are lost.
Conditions: none beyond those of each theorem. -/
import Derived.Test.YtffliklmahedoaaPx9
import Derived.Test.YtffliklmahedoaaChipC
namespace Go.Proofs.Ytffliklmahedoaa.Pure
open Go.RowKit Go.Proofs.Ytffliklmahedoaa.P Go.Proofs.YtffliklmahedoaaW.PrintWords Go.Proofs.YtffliklmahedoaaW.PrintLast Go.Proofs.Ytffliklmahedoaa.Chips
set_option linter.unusedSimpArgs false

theorem chLost_eq {t : List Int} (h1 : 1 ≤ t.length) (h2 : t.length ≤ 1099511627776) (hb : ∀ j, j < t.length → 0 ≤ g t j ∧ g t j ≤ 1) : spec_chLost.f t = some (g t 0 + g t (t.length - 1)) := by
  unfold spec_chLost.f
  have a := hb 0 (by omega)
  have b := hb (t.length - 1) (by omega)
  rw [if_pos (by omega), wrap_id (x := (t.length : Int) - 1) (by omega) (by omega), if_pos (by omega), if_pos (by omega), show (t.length : Int) - 1 = ((t.length - 1 : Nat) : Int) by omega, show (0 : Int) = ((0 : Nat) : Int) from rfl, rd_g, rd_g, wrap_id (by omega) (by omega)]
end Go.Proofs.Ytffliklmahedoaa.Pure
