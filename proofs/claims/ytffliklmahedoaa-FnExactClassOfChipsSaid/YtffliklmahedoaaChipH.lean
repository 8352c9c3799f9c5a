/- The class of chips, and two lists of as many places.
Conditions: none beyond those of each theorem. -/
import Derived.Test.YtffliklmahedoaaPx3
import Derived.Test.YtffliklmahedoaaPx4
import Derived.Test.YtffliklmahedoaaChipC
namespace Go.Proofs.Ytffliklmahedoaa.Pure
open Go.RowKit Go.Proofs.Ytffliklmahedoaa.P Go.Proofs.YtffliklmahedoaaW.PrintWords Go.Proofs.YtffliklmahedoaaW.PrintLast Go.Proofs.Ytffliklmahedoaa.Chips
set_option linter.unusedSimpArgs false

/-- The sum of the class's terms from place i on. -/
def clsum (l : List Int) (i : Nat) : Int := sumTo i (fun j => g l j * ((j : Int) + 1))
theorem clsum_succ (l : List Int) (i : Nat) : clsum l (i + 1) = clsum l i + g l i * ((i : Int) + 1) := rfl
theorem clsum_bound {l : List Int} (hL : l.length ≤ 20) (hb : ∀ j, j < l.length → 0 ≤ g l j ∧ g l j ≤ 60) {i : Nat} (hi : i ≤ l.length) : 0 ≤ clsum l i ∧ clsum l i ≤ 24000 := by
  refine ⟨sumTo_nonneg fun j hj => Int.mul_nonneg (hb j (by omega)).1 (by omega), ?_⟩
  have h1 : ∀ j, j < i → g l j * ((j : Int) + 1) ≤ 60 * 20 := fun j hj => Int.mul_le_mul (hb j (by omega)).2 (by omega) (by omega) (by omega)
  have h2 := sumTo_le h1
  unfold clsum
  omega
def cls (l : List Int) : Int := clsum l l.length % ((l.length : Int) + 1)
theorem chClass_l0 {l : List Int} (hL : l.length ≤ 20) (hb : ∀ j, j < l.length → 0 ≤ g l j ∧ g l j ≤ 60) (d : Nat) : ∀ (k : Nat) (i : Nat), i + d = l.length → d < k →
    spec_chClass.l0 k l (clsum l i) l (l.length : Int) (i : Int) = some (cls l) := by
  induction d with
  | zero =>
    intro k i hi hk
    obtain ⟨k, rfl⟩ : ∃ m, k = m + 1 := ⟨k - 1, by omega⟩
    have h1 := clsum_bound hL hb (i := i) (by omega)
    simp only [spec_chClass.l0]
    rw [if_neg (by omega), wrap_id (by omega) (by omega), if_neg (by omega), Int.tmod_eq_emod_of_nonneg h1.1, show i = l.length by omega]; rfl
  | succ d ih =>
    intro k i hi hk
    obtain ⟨k, rfl⟩ : ∃ m, k = m + 1 := ⟨k - 1, by omega⟩
    have h1 := clsum_bound hL hb (i := i) (by omega)
    have h2 := clsum_bound hL hb (i := i + 1) (by omega)
    have h3 := hb i (by omega)
    have h4 : 0 ≤ g l i * ((i : Int) + 1) := Int.mul_nonneg h3.1 (by omega)
    have h5 : g l i * ((i : Int) + 1) ≤ 60 * 20 := Int.mul_le_mul h3.2 (by omega) (by omega) (by omega)
    rw [clsum_succ] at h2
    simp only [spec_chClass.l0]
    rw [if_pos (by omega), if_pos (by omega), if_pos (by omega), wrap_succ (by omega), rd_g, show ((i + 1 : Nat) : Int) = (i : Int) + 1 by omega, wrap_id (x := g l i * ((i : Int) + 1)) (by omega) (by omega), wrap_id (by omega) (by omega)]
    exact ih k (i + 1) (by omega) (by omega)
theorem chClass_at {l : List Int} (h : good l = true) {k : Nat} (hk : l.length < k) : spec_chClass.f k l = some (cls l) := by
  unfold spec_chClass.f
  exact chClass_l0 (good_len h).2 (fun j hj => good_g h hj) l.length k 0 (by omega) hk
theorem classOf_l0 {l : List Int} (hL : l.length ≤ 20) (hb : ∀ j, j < l.length → 0 ≤ g l j ∧ g l j ≤ 60) (d : Nat) : ∀ (k : Nat) (i : Nat), i + d = l.length → d < k →
    impl_classOf.l0 k l (clsum l i) l (l.length : Int) (i : Int) = some (cls l) := by
  induction d with
  | zero =>
    intro k i hi hk
    obtain ⟨k, rfl⟩ : ∃ m, k = m + 1 := ⟨k - 1, by omega⟩
    have h1 := clsum_bound hL hb (i := i) (by omega)
    simp only [impl_classOf.l0]
    rw [if_neg (by omega), wrap_id (by omega) (by omega), if_neg (by omega), Int.tmod_eq_emod_of_nonneg h1.1, show i = l.length by omega]; rfl
  | succ d ih =>
    intro k i hi hk
    obtain ⟨k, rfl⟩ : ∃ m, k = m + 1 := ⟨k - 1, by omega⟩
    have h1 := clsum_bound hL hb (i := i) (by omega)
    have h2 := clsum_bound hL hb (i := i + 1) (by omega)
    have h3 := hb i (by omega)
    have h4 : 0 ≤ g l i * ((i : Int) + 1) := Int.mul_nonneg h3.1 (by omega)
    have h5 : g l i * ((i : Int) + 1) ≤ 60 * 20 := Int.mul_le_mul h3.2 (by omega) (by omega) (by omega)
    rw [clsum_succ] at h2
    simp only [impl_classOf.l0]
    rw [if_pos (by omega), if_pos (by omega), if_pos (by omega), wrap_succ (by omega), rd_g, show ((i + 1 : Nat) : Int) = (i : Int) + 1 by omega, wrap_id (x := g l i * ((i : Int) + 1)) (by omega) (by omega), wrap_id (by omega) (by omega)]
    exact ih k (i + 1) (by omega) (by omega)
theorem classOf_at {l : List Int} (h : good l = true) {k : Nat} (hk : l.length < k) : impl_classOf.f k l = some (cls l) := by
  unfold impl_classOf.f
  exact classOf_l0 (good_len h).2 (fun j hj => good_g h hj) l.length k 0 (by omega) hk
/-- Two lists of chips of as many places. -/
def both (a b : List Int) : Bool := good a && good b && (a.length == b.length)
theorem chBoth_at {a b : List Int} (ha : a.length ≤ 1099511627776) (hb : b.length ≤ 1099511627776) {k : Nat} (hk : a.length < k) (hk2 : b.length < k) : spec_chBoth.f k a b = some (both a b) := by
  unfold spec_chBoth.f both
  rw [chGood_at ha hk, chGood_at hb hk2]
  cases good a <;> cases good b <;> simp
  rw [Bool.eq_iff_iff]; simp; omega
theorem AreSameClass_both {a b : List Int} (ha : a.length ≤ 1099511627776) (hb : b.length ≤ 1099511627776) : ∃ (K : Nat) (r : Bool × Bool), (∀ k, K ≤ k → spec_AreSameClass.f k a b = some r) ∧ (∀ k, K ≤ k → impl_AreSameClass.f k a b = some r) := by
  cases h : both a b with
  | false =>
    refine ⟨a.length + b.length + 3, (false, false), fun k hk => ?_, fun k hk => ?_⟩
    · unfold spec_AreSameClass.f; rw [chBoth_at ha hb (by omega) (by omega), h]; rfl
    · obtain ⟨k, rfl⟩ : ∃ m, k = m + 1 := ⟨k - 1, by omega⟩
      unfold impl_AreSameClass.f; rw [impl_AreChips_eq, impl_AreChips_eq]
      unfold both at h
      cases h1 : good a with
      | false => simp [impl_AreSameClass.j0]
      | true =>
        cases h2 : good b with
        | false => simp [impl_AreSameClass.j0]
        | true =>
          rw [h1, h2] at h
          have h3 : ¬ a.length = b.length := by simpa using h
          have h4 : ((a.length : Int) != (b.length : Int)) = true := by simp; omega
          simp [impl_AreSameClass.j0, h4]
  | true =>
    simp only [both, Bool.and_eq_true, beq_iff_eq] at h
    obtain ⟨⟨h1, h2⟩, h3⟩ := h
    refine ⟨a.length + b.length + 3, (cls a == cls b, true), fun k hk => ?_, fun k hk => ?_⟩
    · unfold spec_AreSameClass.f; rw [chBoth_at ha hb (by omega) (by omega), chClass_at h1 (by omega), chClass_at h2 (by omega)]
      simp [both, h1, h2, h3]
    · obtain ⟨k, rfl⟩ : ∃ m, k = m + 1 := ⟨k - 1, by omega⟩
      unfold impl_AreSameClass.f; rw [impl_AreChips_eq, impl_AreChips_eq, h1, h2]
      simp only [Option.bind_some, if_true, impl_AreSameClass.j0]
      rw [show ((a.length : Int) != (b.length : Int)) = false by simp; omega, classOf_at h1 (by omega), classOf_at h2 (by omega)]
      simp
end Go.Proofs.Ytffliklmahedoaa.Pure
