/- Chips and a place that they have.
Conditions: none beyond those of each theorem. -/
import Derived.Test.YtffliklmahedoaaPx2
import Derived.Test.YtffliklmahedoaaChipC
namespace Go.Proofs.Ytffliklmahedoaa.Pure
open Go.RowKit Go.Proofs.Ytffliklmahedoaa.P Go.Proofs.YtffliklmahedoaaW.PrintWords Go.Proofs.YtffliklmahedoaaW.PrintLast Go.Proofs.Ytffliklmahedoaa.Chips
set_option linter.unusedSimpArgs false

/-- Chips and a place that they have. -/
def asked (l : List Int) (a : Int) : Bool := good l && inB 0 ((l.length : Int) - 1) a
theorem isPlace_eq {l : List Int} (hL : l.length ≤ 1099511627776) (a : Int) : impl_isPlace.f l a = some (asked l a) := by
  unfold impl_isPlace.f asked
  rw [impl_AreChips_eq, within_eq, wrap_id (by omega) (by omega)]
  cases good l <;> simp
theorem chAsked_at {l : List Int} (hL : l.length ≤ 1099511627776) (a : Int) {k : Nat} (hk : l.length < k) : spec_chAsked.f k l a = some (asked l a) := by
  unfold spec_chAsked.f asked
  rw [chGood_at hL hk, l1In_eq, wrap_id (by omega) (by omega)]
  cases good l <;> simp
theorem asked_nat {l : List Int} {a : Int} (h : asked l a = true) : ∃ i : Nat, a = (i : Int) ∧ i < l.length ∧ good l = true := by
  simp only [asked, inB, Bool.and_eq_true, decide_eq_true_eq] at h
  exact ⟨a.toNat, by omega, by omega, h.1⟩
end Go.Proofs.Ytffliklmahedoaa.Pure
