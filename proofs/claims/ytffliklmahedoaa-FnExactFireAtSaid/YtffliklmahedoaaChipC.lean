/- Which lists are chips: the program and the reference agree, and the statements' tests of places.
Conditions: none beyond those of each theorem. -/
import Derived.Test.YtffliklmahedoaaPx1
import Derived.Test.YtffliklmahedoaaBase
import Derived.Test.YtffliklmahedoaaChipB
namespace Go.Proofs.Ytffliklmahedoaa.Pure
open Go.RowKit Go.Proofs.Ytffliklmahedoaa.P Go.Proofs.YtffliklmahedoaaW.PrintWords Go.Proofs.YtffliklmahedoaaW.PrintLast Go.Proofs.Ytffliklmahedoaa.Chips

theorem rd_g (l : List Int) (i : Nat) : rd l (i : Int) = g l i := by simp [rd, g]
theorem rd_toNat (l : List Int) (i : Int) : rd l i = g l i.toNat := rfl
theorem drop_eq_self {l : List Int} {i : Nat} (h : i < l.length) : l.drop i = g l i :: l.drop (i + 1) := by rw [List.drop_eq_getElem_cons h, g_lt h]
theorem inB_iff {p q x : Int} : inB p q x = true ↔ p ≤ x ∧ x ≤ q := by simp [inB]
theorem all_g {l : List Int} {p : Int → Bool} : l.all p = true ↔ ∀ j, j < l.length → p (g l j) = true := by
  rw [List.all_eq_true]
  constructor
  · intro h j hj; exact h _ (g_mem hj)
  · intro h x hx; obtain ⟨i, hi, rfl⟩ := mem_g hx; exact h i hi
/-- Valid chips, as a Bool. -/
def good (l : List Int) : Bool := decide (1 ≤ l.length) && decide (l.length ≤ 20) && l.all (inB 0 60)
theorem within_eq (a b c : Int) : impl_within.f a b c = some (inB b c a) := by
  unfold impl_within.f inB
  by_cases h : a ≥ b <;> simp [h] <;> omega
theorem l1In_eq (a b c : Int) : spec_l1In.f a b c = some (inB b c a) := by
  unfold spec_l1In.f inB
  by_cases h : a ≥ b <;> simp [h] <;> omega
theorem impl_AreChips_eq (l : List Int) : impl_AreChips.f l = some (good l) := by
  unfold impl_AreChips.f impl_areIn.f
  rw [within_eq]
  simp only [Option.bind_some]
  by_cases h : inB 1 20 (l.length : Int) = true
  · rw [if_pos h]
    simp only [inB, Bool.and_eq_true, decide_eq_true_eq] at h
    congr 1; unfold good
    rw [decide_eq_true (by omega : 1 ≤ l.length), decide_eq_true (by omega : l.length ≤ 20)]; rfl
  · rw [if_neg h]
    congr 1; unfold good
    simp only [inB, Bool.and_eq_true, decide_eq_true_eq] at h
    by_cases a : 1 ≤ l.length
    · rw [decide_eq_false (by omega : ¬ l.length ≤ 20)]; simp
    · rw [decide_eq_false a]; simp
theorem l1All_l0 (p q : Int) (l : List Int) (hl : l.length ≤ 1099511627776) (d : Nat) : ∀ (k : Nat) (i : Nat), i + d = l.length → d < k →
    spec_l1All.l0 k p q l (l.length : Int) (i : Int) = some ((l.drop i).all (inB p q)) := by
  induction d with
  | zero =>
    intro k i hi hk
    obtain ⟨k, rfl⟩ : ∃ m, k = m + 1 := ⟨k - 1, by omega⟩
    simp only [spec_l1All.l0]
    rw [if_neg (by omega), List.drop_of_length_le (by omega)]; rfl
  | succ d ih =>
    intro k i hi hk
    obtain ⟨k, rfl⟩ : ∃ m, k = m + 1 := ⟨k - 1, by omega⟩
    simp only [spec_l1All.l0]
    rw [if_pos (by omega), if_pos (by omega), if_pos (by omega), l1In_eq, rd_lt (by omega), List.drop_eq_getElem_cons (show i < l.length by omega), List.all_cons]
    simp only [Option.bind_some]
    by_cases h : inB p q l[i] = true
    · rw [if_pos h, h, wrap_succ (by omega), ih k (i + 1) (by omega) (by omega)]; rfl
    · rw [if_neg h, Bool.eq_false_iff.2 h]; rfl
theorem l1All_at (p q : Int) {l : List Int} (hl : l.length ≤ 1099511627776) {k : Nat} (hk : l.length < k) : spec_l1All.f k l p q = some (l.all (inB p q)) := by
  unfold spec_l1All.f
  have := l1All_l0 p q l hl l.length k 0 (by omega) hk
  simpa using this
theorem chGood_at {l : List Int} (hl : l.length ≤ 1099511627776) {k : Nat} (hk : l.length < k) : spec_chGood.f k l = some (good l) := by
  unfold spec_chGood.f
  rw [l1In_eq]
  simp only [Option.bind_some]
  have e := impl_AreChips_eq l
  unfold impl_AreChips.f impl_areIn.f at e
  rw [within_eq] at e
  simp only [Option.bind_some] at e
  rw [← e, l1All_at _ _ hl hk]
  rfl
theorem good_len {l : List Int} (h : good l = true) : 1 ≤ l.length ∧ l.length ≤ 20 := by
  simp only [good, Bool.and_eq_true, decide_eq_true_eq] at h; exact h.1
theorem good_g {l : List Int} (h : good l = true) {i : Nat} (hi : i < l.length) : 0 ≤ g l i ∧ g l i ≤ 60 := by
  simp only [good, Bool.and_eq_true, List.all_eq_true] at h
  have := h.2 _ (g_mem hi)
  simp only [inB, Bool.and_eq_true, decide_eq_true_eq] at this; exact this
theorem good_phi {l : List Int} (h : good l = true) : phi l ≤ 480000 := by
  have := phi_le (l := l) (M := 60) (by omega) (fun j hj => good_g h hj) (good_len h).2
  omega
end Go.Proofs.Ytffliklmahedoaa.Pure
