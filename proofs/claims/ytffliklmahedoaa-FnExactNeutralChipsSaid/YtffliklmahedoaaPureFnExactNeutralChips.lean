/- The statement FnExactNeutralChips over numbers and lists alone, and what it is proved by.
Conditions: those of the statement. -/
import Derived.Test.YtffliklmahedoaaPx1
import Derived.Test.YtffliklmahedoaaPx2
import Derived.Test.YtffliklmahedoaaPx3
import Derived.Test.YtffliklmahedoaaPx6
import Derived.Test.YtffliklmahedoaaPx13
import Derived.Test.YtffliklmahedoaaPx14
import Derived.Test.YtffliklmahedoaaPx20
import Derived.Test.YtffliklmahedoaaPx21
import Derived.Test.YtffliklmahedoaaPx46
namespace Go.Proofs.Ytffliklmahedoaa.Pure
open Go.RowKit Go.Proofs.Ytffliklmahedoaa.P Go.Proofs.YtffliklmahedoaaW.PrintWords Go.Proofs.YtffliklmahedoaaW.PrintLast
set_option linter.unusedSimpArgs false
set_option linter.unusedVariables false

theorem wrap_id {x : Int} (h0 : -9223372036854775808 ≤ x) (h1 : x ≤ 9223372036854775807) : wrap64 x = x := by
  unfold wrap64; omega
theorem wrap_succ {i : Nat} (h : i < 1152921504606846976) : wrap64 ((i : Int) + 1) = ((i + 1 : Nat) : Int) := by
  rw [wrap_id (by omega) (by omega)]; omega
theorem rd_lt {l : List Int} {i : Nat} (h : i < l.length) : rd l (i : Int) = l[i] := by
  simp [rd, List.getD_eq_getElem?_getD, List.getElem?_eq_getElem h]
theorem eqIntS_l0 (l : List Int) (hl : l.length ≤ 1099511627776) (d : Nat) : ∀ (k : Nat) (i : Nat), i + d = l.length → d < k → laws_eqIntS.l0 k l l i = some true := by
  induction d with
  | zero =>
    intro k i hi hk
    obtain ⟨k, rfl⟩ : ∃ m, k = m + 1 := ⟨k - 1, by omega⟩
    simp only [laws_eqIntS.l0]
    rw [if_neg (by omega)]
  | succ d ih =>
    intro k i hi hk
    obtain ⟨k, rfl⟩ : ∃ m, k = m + 1 := ⟨k - 1, by omega⟩
    simp only [laws_eqIntS.l0]
    rw [if_pos (by omega), if_pos (by omega), if_pos (by omega), if_pos trivial, wrap_succ (by omega)]
    exact ih k (i + 1) (by omega) (by omega)
theorem eqIntS_at {l : List Int} (hl : l.length ≤ 1099511627776) {k : Nat} (hk : l.length < k) : laws_eqIntS.f k l l = some true := by
  unfold laws_eqIntS.f
  rw [if_pos rfl]
  exact eqIntS_l0 l hl l.length k 0 (by omega) hk
/-- The numbers from m on. -/
def marks (m : Int) (n : Nat) : List Int := (List.range n).map fun (i : Nat) => m + (i : Int)
theorem marks_len (m : Int) (n : Nat) : (marks m n).length = n := by simp [marks]
theorem marks_get (m : Int) (n i : Nat) (h : i < (marks m n).length) : (marks m n)[i] = m + (i : Int) := by simp [marks]
theorem markIntS_l0 (m : Int) (n : Nat) (hm : 0 ≤ m) (hm2 : m ≤ 1099511627776) (hn : n ≤ 1099511627776) (d : Nat) : ∀ (k : Nat) (l : List Int) (i : Nat), i + d = n → l.length = n → d < k →
    laws_markIntS.l0 k l (m + (i : Int)) (i : Int) = some (m + n, l.take i ++ (marks m n).drop i) := by
  induction d with
  | zero =>
    intro k l i hi hl hk
    obtain ⟨k, rfl⟩ : ∃ m, k = m + 1 := ⟨k - 1, by omega⟩
    simp only [laws_markIntS.l0]
    rw [if_neg (by omega), List.take_of_length_le (by omega), List.drop_of_length_le (by rw [marks_len]; omega), List.append_nil]
    congr 3; omega
  | succ d ih =>
    intro k l i hi hl hk
    obtain ⟨k, rfl⟩ : ∃ m, k = m + 1 := ⟨k - 1, by omega⟩
    simp only [laws_markIntS.l0]
    rw [if_pos (by omega), if_pos (by omega), wrap_succ (by omega), wrap_id (by omega) (by omega)]
    rw [show m + (i : Int) + 1 = m + ((i + 1 : Nat) : Int) by omega, ih k _ (i + 1) (by omega) (by simpa using hl) (by omega)]
    congr 2
    rw [Int.toNat_natCast, List.drop_eq_getElem_cons (show i < (marks m n).length by rw [marks_len]; omega), marks_get, List.take_succ_eq_append_getElem (by simp; omega)]
    simp [List.take_set_of_le]
theorem markIntS_at {m : Int} {l : List Int} (hm : 0 ≤ m) (hm2 : m ≤ 1099511627776) (hl : l.length ≤ 1099511627776) {k : Nat} (hk : l.length < k) : laws_markIntS.f k l m = some (m + l.length, marks m l.length) := by
  unfold laws_markIntS.f
  have := markIntS_l0 m l.length hm hm2 hl l.length k l 0 (by omega) rfl hk
  simpa using this
theorem heldIntS_l0 (m : Int) (n : Nat) (hm : 0 ≤ m) (hm2 : m ≤ 1099511627776) (hn : n ≤ 1099511627776) (d : Nat) : ∀ (k : Nat) (i : Nat), i + d = n → d < k →
    laws_heldIntS.l0 k (marks m n) (m + (i : Int)) (i : Int) = some (m + n) := by
  induction d with
  | zero =>
    intro k i hi hk
    obtain ⟨k, rfl⟩ : ∃ m, k = m + 1 := ⟨k - 1, by omega⟩
    simp only [laws_heldIntS.l0]
    rw [marks_len, if_neg (by omega)]
    congr 2; omega
  | succ d ih =>
    intro k i hi hk
    obtain ⟨k, rfl⟩ : ∃ m, k = m + 1 := ⟨k - 1, by omega⟩
    simp only [laws_heldIntS.l0]
    rw [marks_len, if_pos (by omega), if_pos (by omega), rd_lt (by rw [marks_len]; omega), marks_get, if_pos rfl, wrap_succ (by omega), wrap_id (by omega) (by omega)]
    rw [show m + (i : Int) + 1 = m + ((i + 1 : Nat) : Int) by omega, ih k (i + 1) (by omega) (by omega)]
theorem heldIntS_at {m : Int} {n : Nat} (hm : 0 ≤ m) (hm2 : m ≤ 1099511627776) (hn : n ≤ 1099511627776) {k : Nat} (hk : n < k) : laws_heldIntS.f k (marks m n) m = some (m + n) := by
  unfold laws_heldIntS.f
  have := heldIntS_l0 m n hm hm2 hn n k 0 (by omega) hk
  simpa using this
/-- The number at a place, 0 beyond the list. -/
def g (l : List Int) (i : Nat) : Int := l.getD i 0
theorem g_ge {l : List Int} {i : Nat} (h : l.length ≤ i) : g l i = 0 := by
  simp [g, List.getD_eq_getElem?_getD, List.getElem?_eq_none h]
theorem g_lt {l : List Int} {i : Nat} (h : i < l.length) : g l i = l[i] := by
  simp [g, List.getD_eq_getElem?_getD, List.getElem?_eq_getElem h]
theorem g_mem {l : List Int} {i : Nat} (h : i < l.length) : g l i ∈ l := by
  rw [g_lt h]; exact List.getElem_mem h
theorem mem_g {l : List Int} {x : Int} (h : x ∈ l) : ∃ i, i < l.length ∧ g l i = x := by
  obtain ⟨i, hi, rfl⟩ := List.getElem_of_mem h
  exact ⟨i, hi, g_lt hi⟩
theorem ext_g {a b : List Int} (h : a.length = b.length) (hg : ∀ i, i < a.length → g a i = g b i) : a = b := by
  apply List.ext_getElem h
  intro i h1 h2
  have := hg i h1
  rwa [g_lt h1, g_lt h2] at this
theorem g_set (l : List Int) (i : Nat) (v : Int) (j : Nat) : g (l.set i v) j = if i = j ∧ j < l.length then v else g l j := by
  by_cases hj : j < l.length
  · rw [g_lt (by simpa using hj), g_lt hj, List.getElem_set]
    by_cases e : i = j <;> simp [e, hj]
  · rw [g_ge (by simp; omega), g_ge (by omega), if_neg (by omega)]
theorem g_replicate (n : Nat) (v : Int) (j : Nat) : g (List.replicate n v) j = if j < n then v else 0 := by
  by_cases hj : j < n
  · rw [g_lt (by simpa using hj)]; simp [hj]
  · rw [g_ge (by simp; omega), if_neg hj]
def sumTo : Nat → (Nat → Int) → Int
  | 0, _ => 0
  | n + 1, f => sumTo n f + f n
theorem sumTo_congr {n : Nat} {f h : Nat → Int} (e : ∀ i, i < n → f i = h i) : sumTo n f = sumTo n h := by
  induction n with
  | zero => rfl
  | succ n ih => simp only [sumTo]; rw [ih (fun i hi => e i (by omega)), e n (by omega)]
theorem sumTo_add (n : Nat) (f h : Nat → Int) : sumTo n (fun i => f i + h i) = sumTo n f + sumTo n h := by
  induction n with
  | zero => rfl
  | succ n ih => simp only [sumTo]; rw [ih]; omega
theorem sumTo_delta (n i : Nat) (f : Nat → Int) : sumTo n (fun j => if j = i then f j else 0) = if i < n then f i else 0 := by
  induction n with
  | zero => rfl
  | succ n ih =>
    simp only [sumTo]; rw [ih]
    by_cases e : n = i
    · subst e; rw [if_neg (by omega), if_pos rfl, if_pos (by omega)]; omega
    · rw [if_neg e]
      by_cases h : i < n
      · rw [if_pos h, if_pos (by omega)]; omega
      · rw [if_neg h, if_neg (by omega)]; omega
theorem sumTo_nonneg {n : Nat} {f : Nat → Int} (h : ∀ i, i < n → 0 ≤ f i) : 0 ≤ sumTo n f := by
  induction n with
  | zero => exact Int.le_refl _
  | succ n ih => simp only [sumTo]; have := ih (fun i hi => h i (by omega)); have := h n (by omega); omega
theorem sumTo_le {n : Nat} {f : Nat → Int} {M : Int} (h : ∀ i, i < n → f i ≤ M) : sumTo n f ≤ n * M := by
  induction n with
  | zero => simp [sumTo]
  | succ n ih =>
    simp only [sumTo]
    have := ih (fun i hi => h i (by omega)); have := h n (by omega)
    have e : ((n + 1 : Nat) : Int) * M = (n : Int) * M + M := by rw [Int.natCast_add, Int.add_mul]; simp
    rw [e]; omega
/-- The places that can fire. -/
def places (l : List Int) : List Nat := (List.range l.length).filter fun i => decide (2 ≤ g l i)
theorem rd_g (l : List Int) (i : Nat) : rd l (i : Int) = g l i := by simp [rd, g]
theorem inB_iff {p q x : Int} : inB p q x = true ↔ p ≤ x ∧ x ≤ q := by simp [inB]
/-- Valid chips, as a Bool. -/
def good (l : List Int) : Bool := decide (1 ≤ l.length) && decide (l.length ≤ 20) && l.all (inB 0 60)
theorem within_eq (a b c : Int) : impl_within.f a b c = some (inB b c a) := by
  unfold impl_within.f inB
  by_cases h : a ≥ b <;> simp [h] <;> omega
theorem l1In_eq (a b c : Int) : spec_l1In.f a b c = some (inB b c a) := by
  unfold spec_l1In.f inB
  by_cases h : a ≥ b <;> simp [h] <;> omega
theorem good_len {l : List Int} (h : good l = true) : 1 ≤ l.length ∧ l.length ≤ 20 := by
  simp only [good, Bool.and_eq_true, decide_eq_true_eq] at h; exact h.1
theorem good_g {l : List Int} (h : good l = true) {i : Nat} (hi : i < l.length) : 0 ≤ g l i ∧ g l i ≤ 60 := by
  simp only [good, Bool.and_eq_true, List.all_eq_true] at h
  have := h.2 _ (g_mem hi)
  simp only [inB, Bool.and_eq_true, decide_eq_true_eq] at this; exact this
/-- The sum of the class's terms from place i on. -/
def clsum (l : List Int) (i : Nat) : Int := sumTo i (fun j => g l j * ((j : Int) + 1))
theorem clsum_succ (l : List Int) (i : Nat) : clsum l (i + 1) = clsum l i + g l i * ((i : Int) + 1) := rfl
theorem clsum_bound {l : List Int} (hL : l.length ≤ 20) (hb : ∀ j, j < l.length → 0 ≤ g l j ∧ g l j ≤ 60) {i : Nat} (hi : i ≤ l.length) : 0 ≤ clsum l i ∧ clsum l i ≤ 24000 := by
  refine ⟨sumTo_nonneg fun j hj => Int.mul_nonneg (hb j (by omega)).1 (by omega), ?_⟩
  have h1 : ∀ j, j < i → g l j * ((j : Int) + 1) ≤ 60 * 20 := fun j hj => Int.mul_le_mul (hb j (by omega)).2 (by omega) (by omega) (by omega)
  have h2 := sumTo_le h1
  unfold clsum
  omega
def cls (l : List Int) : Int := clsum l l.length % ((l.length : Int) + 1)
theorem chClass_l0 {l : List Int} (hL : l.length ≤ 20) (hb : ∀ j, j < l.length → 0 ≤ g l j ∧ g l j ≤ 60) (d : Nat) : ∀ (k : Nat) (i : Nat), i + d = l.length → d < k →
    spec_chClass.l0 k l (clsum l i) l (l.length : Int) (i : Int) = some (cls l) := by
  induction d with
  | zero =>
    intro k i hi hk
    obtain ⟨k, rfl⟩ : ∃ m, k = m + 1 := ⟨k - 1, by omega⟩
    have h1 := clsum_bound hL hb (i := i) (by omega)
    simp only [spec_chClass.l0]
    rw [if_neg (by omega), wrap_id (by omega) (by omega), if_neg (by omega), Int.tmod_eq_emod_of_nonneg h1.1, show i = l.length by omega]; rfl
  | succ d ih =>
    intro k i hi hk
    obtain ⟨k, rfl⟩ : ∃ m, k = m + 1 := ⟨k - 1, by omega⟩
    have h1 := clsum_bound hL hb (i := i) (by omega)
    have h2 := clsum_bound hL hb (i := i + 1) (by omega)
    have h3 := hb i (by omega)
    have h4 : 0 ≤ g l i * ((i : Int) + 1) := Int.mul_nonneg h3.1 (by omega)
    have h5 : g l i * ((i : Int) + 1) ≤ 60 * 20 := Int.mul_le_mul h3.2 (by omega) (by omega) (by omega)
    rw [clsum_succ] at h2
    simp only [spec_chClass.l0]
    rw [if_pos (by omega), if_pos (by omega), if_pos (by omega), wrap_succ (by omega), rd_g, show ((i + 1 : Nat) : Int) = (i : Int) + 1 by omega, wrap_id (x := g l i * ((i : Int) + 1)) (by omega) (by omega), wrap_id (by omega) (by omega)]
    exact ih k (i + 1) (by omega) (by omega)
theorem chClass_at {l : List Int} (h : good l = true) {k : Nat} (hk : l.length < k) : spec_chClass.f k l = some (cls l) := by
  unfold spec_chClass.f
  exact chClass_l0 (good_len h).2 (fun j hj => good_g h hj) l.length k 0 (by omega) hk
theorem classOf_l0 {l : List Int} (hL : l.length ≤ 20) (hb : ∀ j, j < l.length → 0 ≤ g l j ∧ g l j ≤ 60) (d : Nat) : ∀ (k : Nat) (i : Nat), i + d = l.length → d < k →
    impl_classOf.l0 k l (clsum l i) l (l.length : Int) (i : Int) = some (cls l) := by
  induction d with
  | zero =>
    intro k i hi hk
    obtain ⟨k, rfl⟩ : ∃ m, k = m + 1 := ⟨k - 1, by omega⟩
    have h1 := clsum_bound hL hb (i := i) (by omega)
    simp only [impl_classOf.l0]
    rw [if_neg (by omega), wrap_id (by omega) (by omega), if_neg (by omega), Int.tmod_eq_emod_of_nonneg h1.1, show i = l.length by omega]; rfl
  | succ d ih =>
    intro k i hi hk
    obtain ⟨k, rfl⟩ : ∃ m, k = m + 1 := ⟨k - 1, by omega⟩
    have h1 := clsum_bound hL hb (i := i) (by omega)
    have h2 := clsum_bound hL hb (i := i + 1) (by omega)
    have h3 := hb i (by omega)
    have h4 : 0 ≤ g l i * ((i : Int) + 1) := Int.mul_nonneg h3.1 (by omega)
    have h5 : g l i * ((i : Int) + 1) ≤ 60 * 20 := Int.mul_le_mul h3.2 (by omega) (by omega) (by omega)
    rw [clsum_succ] at h2
    simp only [impl_classOf.l0]
    rw [if_pos (by omega), if_pos (by omega), if_pos (by omega), wrap_succ (by omega), rd_g, show ((i + 1 : Nat) : Int) = (i : Int) + 1 by omega, wrap_id (x := g l i * ((i : Int) + 1)) (by omega) (by omega), wrap_id (by omega) (by omega)]
    exact ih k (i + 1) (by omega) (by omega)
theorem classOf_at {l : List Int} (h : good l = true) {k : Nat} (hk : l.length < k) : impl_classOf.f k l = some (cls l) := by
  unfold impl_classOf.f
  exact classOf_l0 (good_len h).2 (fun j hj => good_g h hj) l.length k 0 (by omega) hk
theorem good_of {l : List Int} (h1 : 1 ≤ l.length) (h2 : l.length ≤ 20) (h : ∀ j, j < l.length → 0 ≤ g l j ∧ g l j ≤ 60) : good l = true := by
  simp only [good, Bool.and_eq_true, decide_eq_true_eq]
  refine ⟨⟨h1, h2⟩, ?_⟩
  rw [List.all_eq_true]
  intro x hx
  obtain ⟨i, hi, rfl⟩ := mem_g hx
  exact inB_iff.2 (h i hi)
theorem mod_back (a c : Int) {n : Nat} (h0 : 0 ≤ c) (h1 : c ≤ n) : (a - (a - c) % ((n : Int) + 1)) % ((n : Int) + 1) = c := by
  have h := Int.mul_ediv_add_emod (a - c) ((n : Int) + 1)
  have e : a - (a - c) % ((n : Int) + 1) = c + ((n : Int) + 1) * ((a - c) / ((n : Int) + 1)) := by omega
  rw [e, Int.add_mul_emod_self_left]
  exact Int.emod_eq_of_lt h0 (by omega)
/-- All places with a chip but the one before place i, none left out at 0. -/
def comeAt (n i : Nat) : List Int := if i = 0 then List.replicate n 1 else (List.replicate n (1 : Int)).set (i - 1) 0
theorem len_comeAt (n i : Nat) : (comeAt n i).length = n := by unfold comeAt; split <;> simp
theorem g_comeAt {n i j : Nat} (hj : j < n) : g (comeAt n i) j = if i = j + 1 then 0 else 1 := by
  unfold comeAt
  split
  · rw [g_replicate, if_pos hj, if_neg (by omega)]
  · rw [g_set, g_replicate, List.length_replicate, if_pos hj]
    by_cases h : i = j + 1
    · rw [if_pos (by omega), if_pos h]
    · rw [if_neg (by omega), if_neg h]
def tri (n : Nat) : Int := sumTo n (fun j => (j : Int) + 1)
theorem clsum_comeAt {n i : Nat} (hi : i ≤ n) : clsum (comeAt n i) n = tri n - i := by
  unfold clsum tri
  rw [sumTo_congr (h := fun j => ((j : Int) + 1) + (if j = i - 1 then (if i = 0 then 0 else -((j : Int) + 1)) else 0)) (fun j hj => ?_), sumTo_add, sumTo_delta _ _ (fun j => if i = 0 then 0 else -((j : Int) + 1))]
  · by_cases h : i = 0
    · subst h; simp
    · rw [if_pos (by omega), if_neg h]; omega
  · rw [g_comeAt hj]
    by_cases h : i = j + 1
    · rw [if_pos h, if_pos (by omega), if_neg (by omega)]; omega
    · rw [if_neg h]
      by_cases h2 : j = i - 1
      · rw [if_pos h2, if_pos (by omega)]; omega
      · rw [if_neg h2]; omega
theorem good_comeAt {n i : Nat} (h1 : 1 ≤ n) (h2 : n ≤ 20) : good (comeAt n i) = true := by
  refine good_of (by rw [len_comeAt]; exact h1) (by rw [len_comeAt]; exact h2) fun j hj => ?_
  rw [len_comeAt] at hj
  rw [g_comeAt hj]; split <;> omega
theorem cls_comeAt {n i : Nat} (hi : i ≤ n) : cls (comeAt n i) = (tri n - i) % ((n : Int) + 1) := by
  unfold cls; rw [len_comeAt, clsum_comeAt hi]
/-- The place before which the chip is missing, for a class. -/
def gapOf (n : Nat) (c : Int) : Nat := ((tri n - c) % ((n : Int) + 1)).toNat
theorem gapOf_le (n : Nat) (c : Int) : gapOf n c ≤ n := by
  unfold gapOf
  have h1 := Int.emod_nonneg (tri n - c) (show (n : Int) + 1 ≠ 0 by omega)
  have h2 := Int.emod_lt_of_pos (tri n - c) (show 0 < (n : Int) + 1 by omega)
  omega
theorem cls_gap {n : Nat} {c : Int} (h0 : 0 ≤ c) (h1 : c ≤ n) : cls (comeAt n (gapOf n c)) = c := by
  rw [cls_comeAt (gapOf_le n c)]
  have h3 := Int.emod_nonneg (tri n - c) (show (n : Int) + 1 ≠ 0 by omega)
  have e : ((gapOf n c : Nat) : Int) = (tri n - c) % ((n : Int) + 1) := by unfold gapOf; omega
  rw [e, mod_back (tri n) c h0 h1]
theorem cls_before {n i : Nat} {c : Int} (h0 : 0 ≤ c) (h1 : c ≤ n) (hi : i < gapOf n c) : cls (comeAt n i) ≠ c := by
  have hg := gapOf_le n c
  rw [cls_comeAt (by omega)]
  intro h
  have h3 := Int.emod_nonneg (tri n - c) (show (n : Int) + 1 ≠ 0 by omega)
  have e : ((gapOf n c : Nat) : Int) = (tri n - c) % ((n : Int) + 1) := by unfold gapOf; omega
  have h4 := Int.mul_ediv_add_emod (tri n - c) ((n : Int) + 1)
  have h5 := Int.mul_ediv_add_emod (tri n - i) ((n : Int) + 1)
  rw [h] at h5
  rw [← e] at h4
  have h6 : ((n : Int) + 1) * ((tri n - i) / ((n : Int) + 1) - (tri n - c) / ((n : Int) + 1)) = (gapOf n c : Int) - i := by rw [Int.mul_sub]; omega
  generalize (tri n - i) / ((n : Int) + 1) - (tri n - c) / ((n : Int) + 1) = q at h6
  have h7 : 0 < q := by
    rcases Int.lt_or_le 0 q with h | h
    · exact h
    · have := Int.mul_nonpos_of_nonneg_of_nonpos (show (0 : Int) ≤ (n : Int) + 1 by omega) h; omega
  have h8 := Int.mul_le_mul_of_nonneg_left (show 1 ≤ q by omega) (show (0 : Int) ≤ (n : Int) + 1 by omega)
  omega
theorem chComing_l0 (c : Int) {n : Nat} (hn : n ≤ 1099511627776) (d : Nat) : ∀ (k : Nat) (x : List Int) (i : Nat), i + d = n → x.length = n → (∀ j, j < i → g x j = 1) →
    spec_chComing.l0 (k + d + 1) c x (n : Int) (i : Int) = spec_chComing.l1 k c (List.replicate n 1) 0 := by
  induction d with
  | zero =>
    intro k x i hi hx hj
    simp only [spec_chComing.l0]
    rw [if_neg (by omega), show x = List.replicate n 1 from ext_g (by simp [hx]) fun j h => by rw [g_replicate, if_pos (by omega), hj j (by omega)]]
  | succ d ih =>
    intro k x i hi hx hj
    generalize hm : k + (d + 1) = m
    simp only [spec_chComing.l0]
    rw [if_pos (by omega), if_pos (by omega), if_pos (by omega), wrap_succ (by omega), show m = k + d + 1 by omega, Int.toNat_natCast]
    exact ih k _ (i + 1) (by omega) (by rw [List.length_set, hx]) fun j h => by
      rw [g_set]; split
      · rfl
      · exact hj j (by omega)
theorem chComing_l2 (c : Int) {n : Nat} (hn : n ≤ 1099511627776) {m : Nat} (hm : m < n) (d : Nat) : ∀ (k : Nat) (x : List Int) (i : Nat), i + d = n → x.length = n → (∀ j, j < i → g x j = 1) →
    spec_chComing.l2 (k + d + 1) c x (m : Int) (n : Int) (i : Int) = spec_chComing.l1 k c (comeAt n (m + 1)) ((m + 1 : Nat) : Int) := by
  induction d with
  | zero =>
    intro k x i hi hx hj
    simp only [spec_chComing.l2]
    rw [if_neg (by omega), if_pos (by omega), if_pos (by omega), wrap_succ (by omega), show x = List.replicate n 1 from ext_g (by simp [hx]) fun j h => by rw [g_replicate, if_pos (by omega), hj j (by omega)]]
    unfold comeAt
    rw [if_neg (by omega), Int.toNat_natCast]; rfl
  | succ d ih =>
    intro k x i hi hx hj
    generalize hm : k + (d + 1) = m
    simp only [spec_chComing.l2]
    rw [if_pos (by omega), if_pos (by omega), if_pos (by omega), wrap_succ (by omega), show m = k + d + 1 by omega, Int.toNat_natCast]
    exact ih k _ (i + 1) (by omega) (by rw [List.length_set, hx]) fun j h => by
      rw [g_set]; split
      · rfl
      · exact hj j (by omega)
theorem chComing_l1 {c : Int} {n : Nat} (h1 : 1 ≤ n) (h2 : n ≤ 20) (c0 : 0 ≤ c) (c1 : c ≤ n) (d : Nat) : ∀ (i : Nat), i + d = gapOf n c →
    ∃ K, ∀ k, K ≤ k → spec_chComing.l1 k c (comeAt n i) (i : Int) = some (comeAt n (gapOf n c)) := by
  induction d with
  | zero =>
    intro i hi
    refine ⟨n + 2, fun k hk => ?_⟩
    obtain ⟨k, rfl⟩ : ∃ m, k = m + 1 := ⟨k - 1, by omega⟩
    simp only [spec_chComing.l1]
    rw [chClass_at (good_comeAt h1 h2) (by rw [len_comeAt]; omega), show i = gapOf n c by omega, cls_gap c0 c1, Option.bind_some, if_pos rfl]
  | succ d ih =>
    intro i hi
    obtain ⟨K, hK⟩ := ih (i + 1) (by omega)
    refine ⟨K + n + 4, fun k hk => ?_⟩
    have hg := gapOf_le n c
    obtain ⟨k, rfl⟩ : ∃ m, k = m + n + 2 := ⟨k - n - 2, by omega⟩
    simp only [spec_chComing.l1]
    rw [chClass_at (good_comeAt h1 h2) (by rw [len_comeAt]; omega), Option.bind_some, if_neg (cls_before c0 c1 (by omega)), len_comeAt]
    have := chComing_l2 c (n := n) (by omega) (m := i) (by omega) n k (comeAt n i) 0 (by omega) (len_comeAt _ _) (fun j h => absurd h (by omega))
    refine Eq.trans this ?_
    exact hK k (by omega)
theorem chComing_ev {c : Int} {n : Nat} (h1 : 1 ≤ n) (h2 : n ≤ 20) (c0 : 0 ≤ c) (c1 : c ≤ n) : ∃ K, ∀ k, K ≤ k → spec_chComing.f k (n : Int) c = some (comeAt n (gapOf n c)) := by
  obtain ⟨K, hK⟩ := chComing_l1 h1 h2 c0 c1 (gapOf n c) 0 (by omega)
  refine ⟨K + n + 2, fun k hk => ?_⟩
  obtain ⟨k, rfl⟩ : ∃ m, k = m + n + 1 := ⟨k - n - 1, by omega⟩
  unfold spec_chComing.f
  rw [if_pos (by omega), if_pos (by omega)]
  simp only [Option.bind_some, List.length_replicate, Int.toNat_natCast]
  have := chComing_l0 c (n := n) (by omega) n k (List.replicate n 0) 0 (by omega) (by simp) (fun j h => absurd h (by omega))
  refine Eq.trans this ?_
  have e : List.replicate n (1 : Int) = comeAt n 0 := by unfold comeAt; rw [if_pos rfl]
  rw [e]
  exact hK k (by omega)
theorem cls_ones (n : Nat) : cls (List.replicate n 1) = tri n % ((n : Int) + 1) := by
  have e : List.replicate n (1 : Int) = comeAt n 0 := by unfold comeAt; rw [if_pos rfl]
  rw [e, cls_comeAt (by omega)]; simp
theorem gap_eq (n : Nat) {c : Int} (c0 : 0 ≤ c) (c1 : c ≤ n) : Int.tmod (tri n % ((n : Int) + 1) - c + n + 1) ((n : Int) + 1) = (gapOf n c : Int) := by
  have h1 := Int.emod_nonneg (tri n) (show (n : Int) + 1 ≠ 0 by omega)
  have h3 := Int.emod_nonneg (tri n - c) (show (n : Int) + 1 ≠ 0 by omega)
  have e : ((gapOf n c : Nat) : Int) = (tri n - c) % ((n : Int) + 1) := by unfold gapOf; omega
  rw [Int.tmod_eq_emod_of_nonneg (by omega), e, show tri n % ((n : Int) + 1) - c + n + 1 = tri n % ((n : Int) + 1) - c + ((n : Int) + 1) by omega, Int.add_emod_right, Int.emod_sub_emod]
theorem Repeat_ones {n : Nat} (h1 : 1 ≤ n) (h2 : n ≤ 20) : slices_Repeat_int_int.f [1] (n : Int) = some (List.replicate n 1) := by
  unfold slices_Repeat_int_int.f
  have h : ([1] : List Int).length = 1 ∧ 1 ≤ (n : Int) ∧ (n : Int) ≤ 1048576 := ⟨rfl, by omega, by omega⟩
  have e : rd [1] 0 = 1 := rfl
  rw [if_pos h, e, Int.toNat_natCast]
theorem gap_wraps {T c n G : Int} (h1 : 1 ≤ n) (h2 : n ≤ 20) (h3 : 0 ≤ c) (h4 : c ≤ n) (h5 : 0 ≤ T) (h6 : T < n + 1) (h7 : 0 ≤ G) (h8 : G ≤ n) :
    wrap64 (T - c) = T - c ∧ wrap64 (T - c + n) = T - c + n ∧ wrap64 (T - c + n + 1) = T - c + n + 1 ∧ wrap64 (n + 1) = n + 1 ∧ wrap64 (G - 1) = G - 1 ∧ ¬ (n + 1 = 0) :=
  ⟨wrap_id (by omega) (by omega), wrap_id (by omega) (by omega), wrap_id (by omega) (by omega), wrap_id (by omega) (by omega), wrap_id (by omega) (by omega), by omega⟩
theorem gap_store {n i : Nat} (h : i ≤ n) : (if ((i : Int) - 1) ≥ 0 then (if 0 ≤ ((i : Int) - 1) then (if ((i : Int) - 1) < ((List.replicate n (1 : Int)).length : Int) then (some ((List.replicate n (1 : Int)).set (((i : Int) - 1) : Int).toNat 0, true)) else (none)) else (none)) else (some (List.replicate n (1 : Int), true))) = some (comeAt n i, true) := by
  by_cases hg : i = 0
  · rw [if_neg (by omega)]; unfold comeAt; rw [if_pos hg]
  · rw [if_pos (by omega), if_pos (by omega), if_pos (by rw [List.length_replicate]; omega)]
    unfold comeAt
    rw [if_neg hg, show ((i : Int) - 1).toNat = i - 1 by omega]
theorem classOf_ones {n : Nat} (h1 : 1 ≤ n) (h2 : n ≤ 20) {k : Nat} (hk : 24 ≤ k) : impl_classOf.f k (List.replicate n 1) = some (tri n % ((n : Int) + 1)) := by
  have e : List.replicate n (1 : Int) = comeAt n 0 := by unfold comeAt; rw [if_pos rfl]
  rw [← cls_ones n]; exact classOf_at (by rw [e]; exact good_comeAt h1 h2) (by rw [List.length_replicate]; omega)
theorem impl_Coming_in {n : Nat} {c : Int} (hn1 : 1 ≤ n) (hn2 : n ≤ 20) (hc1 : 0 ≤ c) (hc2 : c ≤ n) {k : Nat} (hk : 24 ≤ k) : impl_ComingChips.j0 (k + 1) (n : Int) c false = some (comeAt n (gapOf n c), true) := by
  obtain ⟨w1, w2, w3, w4, w5, w6⟩ := gap_wraps (T := tri n % ((n : Int) + 1)) (c := c) (n := n) (G := gapOf n c) (by omega) (by omega) hc1 hc2 (Int.emod_nonneg _ (by omega)) (Int.emod_lt_of_pos _ (by omega)) (by omega) (by have := gapOf_le n c; omega)
  have hC := classOf_ones hn1 hn2 hk
  have hR := Repeat_ones hn1 hn2
  have h7 := gap_eq n hc1 hc2
  have h8 := gap_store (gapOf_le n c)
  have hu : ∀ x : Option (List Int × Bool), (if (false : Bool) = true then some (([] : List Int), false) else x) = x := fun x => if_neg (by decide)
  rw [impl_ComingChips.j0, hu, hR, Option.bind_some, hC, Option.bind_some, w1, w2, w3, w4, h7, w5, if_neg w6]
  exact h8
theorem impl_Coming_ev {a c : Int} {k : Nat} (hk : 25 ≤ k) : impl_ComingChips.f k a c =
    some (if inB 1 20 a = true ∧ inB 0 a c = true then (comeAt a.toNat (gapOf a.toNat c), true) else ([], false)) := by
  obtain ⟨k, rfl⟩ : ∃ m, k = m + 1 := ⟨k - 1, by omega⟩
  unfold impl_ComingChips.f
  rw [within_eq, within_eq]
  cases h : inB 1 20 a with
  | false => simp [impl_ComingChips.j0]
  | true =>
    cases h' : inB 0 a c with
    | false => simp [impl_ComingChips.j0]
    | true =>
      simp only [inB, Bool.and_eq_true, decide_eq_true_eq] at h h'
      obtain ⟨n, rfl⟩ : ∃ n : Nat, a = (n : Int) := ⟨a.toNat, by omega⟩
      simp only [Option.bind_some, if_true, Bool.not_true, and_self, Int.toNat_natCast]
      exact impl_Coming_in (by omega) (by omega) (by omega) (by omega) (by omega)
theorem NeutralChips_both (a : Int) : ∃ (K : Nat) (r : List Int × Bool), r.1.length ≤ 1099511627776 ∧ (∀ k, K ≤ k → spec_NeutralChips.f k a = some r) ∧ (∀ k, K ≤ k → impl_NeutralChips.f k a = some r) := by
  by_cases h : inB 1 20 a = true
  · have h1 := h
    simp only [inB, Bool.and_eq_true, decide_eq_true_eq] at h1
    obtain ⟨n, rfl⟩ : ∃ n : Nat, a = (n : Int) := ⟨a.toNat, by omega⟩
    obtain ⟨K, hK⟩ := chComing_ev (n := n) (c := 0) (by omega) (by omega) (by omega) (by omega)
    refine ⟨K + 25, (comeAt n (gapOf n 0), true), by rw [len_comeAt]; omega, fun k hk => ?_, fun k hk => ?_⟩
    · unfold spec_NeutralChips.f
      rw [l1In_eq, h, hK k (by omega)]; rfl
    · unfold impl_NeutralChips.f
      rw [impl_Coming_ev (by omega), if_pos ⟨h, inB_iff.2 (by omega)⟩]; rfl
  · refine ⟨25, ([], false), by simp, fun k hk => ?_, fun k hk => ?_⟩
    · unfold spec_NeutralChips.f
      rw [l1In_eq]
      rw [Bool.not_eq_true] at h
      rw [h]; rfl
    · unfold impl_NeutralChips.f
      rw [impl_Coming_ev (by omega), if_neg (fun x => h x.1)]; rfl
theorem FnExactNeutralChips : laws_FnExactNeutralChips.Pure := by
  intro a0 _
  unfold laws_FnExactNeutralChips.f
  obtain ⟨K, r, hr, hs, hi⟩ := NeutralChips_both a0
  have hEr : ∀ k, r.1.length < k → laws_eqIntS.f k r.1 r.1 = some true := fun k hk => eqIntS_at hr hk
  have hMr : ∀ k, r.1.length < k → laws_markIntS.f k r.1 1 = some ((1 : Int) + (r.1.length : Int), marks 1 r.1.length) := fun k hk => markIntS_at (by omega) (by omega) hr hk
  have hHr : ∀ k, r.1.length < k → laws_heldIntS.f k (marks 1 r.1.length) 1 = some ((1 : Int) + (r.1.length : Int)) := fun k hk => heldIntS_at (by omega) (by omega) hr hk
  have hn1 : ¬ ((1 : Int) < 0) := by omega
  have hn2 : ¬ ((1 : Int) + (r.1.length : Int) < 0) := by omega
  refine ⟨K + r.1.length + 8, ?_⟩
  simp (disch := omega) only [eq_self, hs, hi, Option.bind_some, bne_self_eq_false, if_true, if_false, Bool.false_eq_true, Bool.true_eq_false, hEr, hMr, hHr, if_neg hn1, if_neg hn2]
  simp only [laws_FnExactNeutralChips.j0]
  simp (disch := omega) only [eq_self, hs, hi, Option.bind_some, bne_self_eq_false, if_true, if_false, Bool.false_eq_true, Bool.true_eq_false, hEr, hMr, hHr, if_neg hn1, if_neg hn2]
  simp only [laws_FnExactNeutralChips.j1]
  simp (disch := omega) only [eq_self, hs, hi, Option.bind_some, bne_self_eq_false, if_true, if_false, Bool.false_eq_true, Bool.true_eq_false, hEr, hMr, hHr, if_neg hn1, if_neg hn2]
end Go.Proofs.Ytffliklmahedoaa.Pure
