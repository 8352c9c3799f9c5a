/- Rest of valid chips.
Conditions: none beyond those of each theorem. -/
import Derived.Test.YtffliklmahedoaaChipF
namespace Go.Proofs.Ytffliklmahedoaa.Pure
open Go.RowKit Go.Proofs.Ytffliklmahedoaa.P Go.Proofs.YtffliklmahedoaaW.PrintWords Go.Proofs.YtffliklmahedoaaW.PrintLast Go.Proofs.Ytffliklmahedoaa.Chips
set_option linter.unusedSimpArgs false

theorem settle_good {l : List Int} (h : good l = true) : ∃ K, ∀ k, K ≤ k → impl_settle.f k l = some ((rounds 480001 l).1, addc (List.replicate l.length 0) (rounds 480001 l).2.1) :=
  settle_ev (good_calm h) 480001 (by have := good_phi h; omega)
theorem rest_good {l : List Int} (h : good l = true) : ∃ K, ∀ k, K ≤ k → spec_chRest.f k l = some ((rounds 480001 l).1, addc (List.replicate l.length 0) (rounds 480001 l).2.1, ((rounds 480001 l).2.2 : Int)) :=
  chRest_ev (good_calm h) 480001 (by have := good_phi h; omega)
end Go.Proofs.Ytffliklmahedoaa.Pure
