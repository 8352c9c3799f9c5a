/- Chips that come again: the program and the reference alike.
Conditions: none beyond those of each theorem. -/
import Derived.Test.YtffliklmahedoaaPx4
import Derived.Test.YtffliklmahedoaaPx5
import Derived.Test.YtffliklmahedoaaChipC
namespace Go.Proofs.Ytffliklmahedoaa.Pure
open Go.RowKit Go.Proofs.Ytffliklmahedoaa.P Go.Proofs.YtffliklmahedoaaW.PrintWords Go.Proofs.YtffliklmahedoaaW.PrintLast Go.Proofs.Ytffliklmahedoaa.Chips
set_option linter.unusedSimpArgs false

def tot (l : List Int) (i : Nat) : Int := sumTo i (g l)
theorem tot_succ (l : List Int) (i : Nat) : tot l (i + 1) = tot l i + g l i := rfl
theorem tot_bound {l : List Int} {M : Int} (hM : 0 ≤ M ∧ M ≤ 1099511627776) (hL : l.length ≤ 1048576) (hb : ∀ j, j < l.length → 0 ≤ g l j ∧ g l j ≤ M) {i : Nat} (hi : i ≤ l.length) : 0 ≤ tot l i ∧ tot l i ≤ 1152921504606846976 := by
  refine ⟨sumTo_nonneg fun j hj => (hb j (by omega)).1, ?_⟩
  have h2 := sumTo_le (n := i) (f := g l) (M := M) fun j hj => (hb j (by omega)).2
  have h3 : (i : Int) * M ≤ 1048576 * 1099511627776 := Int.mul_le_mul (by omega) hM.2 hM.1 (by omega)
  unfold tot; omega
theorem sum_l0 {l : List Int} {M : Int} (hM : 0 ≤ M ∧ M ≤ 1099511627776) (hL : l.length ≤ 1048576) (hb : ∀ j, j < l.length → 0 ≤ g l j ∧ g l j ≤ M) (d : Nat) : ∀ (k : Nat) (i : Nat), i + d = l.length → d < k →
    impl_sum.l0 k (tot l i) l (l.length : Int) (i : Int) = some (tot l l.length) := by
  induction d with
  | zero =>
    intro k i hi hk
    obtain ⟨k, rfl⟩ : ∃ m, k = m + 1 := ⟨k - 1, by omega⟩
    simp only [impl_sum.l0]
    rw [if_neg (by omega), show i = l.length by omega]
  | succ d ih =>
    intro k i hi hk
    obtain ⟨k, rfl⟩ : ∃ m, k = m + 1 := ⟨k - 1, by omega⟩
    have h1 := tot_bound hM hL hb (i := i) (by omega)
    have h2 := tot_bound hM hL hb (i := i + 1) (by omega)
    rw [tot_succ] at h2
    simp only [impl_sum.l0]
    rw [if_pos (by omega), if_pos (by omega), if_pos (by omega), wrap_succ (by omega), rd_g, wrap_id (by omega) (by omega)]
    exact ih k (i + 1) (by omega) (by omega)
theorem sum_at {l : List Int} {M : Int} (hM : 0 ≤ M ∧ M ≤ 1099511627776) (hL : l.length ≤ 1048576) (hb : ∀ j, j < l.length → 0 ≤ g l j ∧ g l j ≤ M) {k : Nat} (hk : l.length < k) : impl_sum.f k l = some (tot l l.length) := by
  unfold impl_sum.f
  exact sum_l0 hM hL hb l.length k 0 (by omega) hk
/-- Chips at rest that come again. -/
def comes (l : List Int) : Bool := l.all (inB 0 1) && decide ((l.length : Int) - 1 ≤ tot l l.length)
theorem doComeAgain_at {l : List Int} (h : good l = true) {k : Nat} (hk : l.length < k) : impl_doComeAgain.f k l = some (comes l) := by
  have hl := good_len h
  unfold impl_doComeAgain.f impl_areIn.f comes
  simp only [Option.bind_some]
  rw [sum_at (M := 60) (by omega) (by omega) (fun j hj => good_g h hj) hk, wrap_id (by omega) (by omega)]
  cases l.all (inB 0 1) <;> simp
theorem chComes_l0 {l : List Int} (h : good l = true) (d : Nat) : ∀ (k : Nat) (i : Nat), i + d = l.length → d < k → (∀ j, j < i → g l j ≤ 1) →
    spec_chComes.l0 k ((i : Int) - tot l i) l (l.length : Int) (i : Int) = some (comes l) := by
  have hl := good_len h
  induction d with
  | zero =>
    intro k i hi hk h1
    obtain ⟨k, rfl⟩ : ∃ m, k = m + 1 := ⟨k - 1, by omega⟩
    simp only [spec_chComes.l0]
    rw [if_neg (by omega), show i = l.length by omega]
    have : l.all (inB 0 1) = true := all_g.2 fun j hj => inB_iff.2 ⟨(good_g h hj).1, h1 j (by omega)⟩
    unfold comes
    rw [this, Bool.true_and, Option.some.injEq, decide_eq_decide]; omega
  | succ d ih =>
    intro k i hi hk h1
    obtain ⟨k, rfl⟩ : ∃ m, k = m + 1 := ⟨k - 1, by omega⟩
    have h2 := good_g h (i := i) (by omega)
    have h3 : 0 ≤ tot l i ∧ tot l i ≤ i := ⟨sumTo_nonneg fun j hj => (good_g h (by omega)).1, by have := sumTo_le (n := i) (f := g l) (M := 1) h1; unfold tot; omega⟩
    simp only [spec_chComes.l0]
    rw [if_pos (by omega), if_pos (by omega), if_pos (by omega), wrap_succ (by omega), rd_g]
    by_cases c : g l i > 1
    · rw [if_pos c]
      have : l.all (inB 0 1) = false := by
        rw [Bool.eq_false_iff]; intro e
        have := inB_iff.1 (all_g.1 e i (by omega)); omega
      unfold comes; rw [this]; rfl
    · have h4 : ∀ j, j < i + 1 → g l j ≤ 1 := fun j hj => by
        by_cases e : j = i
        · subst e; omega
        · exact h1 j (by omega)
      have hih := ih k (i + 1) (by omega) (by omega) h4
      rw [tot_succ] at hih
      rw [if_neg c]
      by_cases e : g l i = 0
      · rw [if_pos e, wrap_id (by omega) (by omega), ← hih]; congr 1; omega
      · rw [if_neg e, ← hih]; congr 1; omega
theorem chComes_at {l : List Int} (h : good l = true) {k : Nat} (hk : l.length < k) : spec_chComes.f k l = some (comes l) := by
  unfold spec_chComes.f
  exact chComes_l0 h l.length k 0 (by omega) hk (fun j hj => by omega)
end Go.Proofs.Ytffliklmahedoaa.Pure
