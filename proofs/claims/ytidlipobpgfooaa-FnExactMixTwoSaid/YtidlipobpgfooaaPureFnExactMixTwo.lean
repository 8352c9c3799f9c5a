/- The statement FnExactMixTwo over numbers and lists alone, and what it is proved by.
Conditions: those of the statement. -/
import Derived.Test.YtidlipobpgfooaaPx1
import Derived.Test.YtidlipobpgfooaaPx2
import Derived.Test.YtidlipobpgfooaaPx3
import Derived.Test.YtidlipobpgfooaaPx4
import Derived.Test.YtidlipobpgfooaaPx5
import Derived.Test.YtidlipobpgfooaaPx6
import Derived.Test.YtidlipobpgfooaaPx8
import Derived.Test.YtidlipobpgfooaaPx9
import Derived.Test.YtidlipobpgfooaaPx10
import Derived.Test.YtidlipobpgfooaaPx11
import Derived.Test.YtidlipobpgfooaaPx12
import Derived.Test.YtidlipobpgfooaaPx32
import Derived.Test.YtidlipobpgfooaaPx33
namespace Go.Proofs.Ytidlipobpgfooaa.Pure
open Go.RowKit Go.Proofs.Ytidlipobpgfooaa.P Go.Proofs.YtidlipobpgfooaaW.PrintWords Go.Proofs.YtidlipobpgfooaaW.PrintLast
set_option linter.unusedSimpArgs false
set_option linter.unusedVariables false

theorem wrap_id {x : Int} (h0 : -9223372036854775808 ≤ x) (h1 : x ≤ 9223372036854775807) : wrap64 x = x := by
  unfold wrap64; omega
theorem wrap_succ {i : Nat} (h : i < 1152921504606846976) : wrap64 ((i : Int) + 1) = ((i + 1 : Nat) : Int) := by
  rw [wrap_id (by omega) (by omega)]; omega
theorem rd_lt {l : List Int} {i : Nat} (h : i < l.length) : rd l (i : Int) = l[i] := by
  simp [rd, List.getD_eq_getElem?_getD, List.getElem?_eq_getElem h]
theorem toIntS_l0 (l : List Int) (hl : l.length ≤ 1099511627776) (d : Nat) : ∀ (k : Nat) (out : List Int) (i : Nat), i + d = l.length → out.length = l.length → d < k →
    laws_toIntS.l0 k l out i = some (out.take i ++ l.drop i) := by
  induction d with
  | zero =>
    intro k out i hi ho hk
    obtain ⟨k, rfl⟩ : ∃ m, k = m + 1 := ⟨k - 1, by omega⟩
    simp only [laws_toIntS.l0]
    rw [if_neg (by omega), List.take_of_length_le (by omega), List.drop_of_length_le (by omega), List.append_nil]
  | succ d ih =>
    intro k out i hi ho hk
    obtain ⟨k, rfl⟩ : ∃ m, k = m + 1 := ⟨k - 1, by omega⟩
    simp only [laws_toIntS.l0]
    rw [if_pos (by omega), if_pos (by omega), if_pos (by omega), wrap_succ (by omega), ih k _ (i + 1) (by omega) (by simpa using ho) (by omega)]
    congr 1
    rw [Int.toNat_natCast, rd_lt (by omega), List.drop_eq_getElem_cons (show i < l.length by omega), List.take_succ_eq_append_getElem (by simp; omega)]
    simp [List.take_set_of_le, List.getElem_set]
theorem toIntS_at {l : List Int} (hl : l.length ≤ 1099511627776) {k : Nat} (hk : l.length < k) : laws_toIntS.f k l = some l := by
  unfold laws_toIntS.f
  rw [if_pos (by omega), if_pos (by omega)]
  have := toIntS_l0 l hl l.length k (List.replicate l.length 0) 0 (by omega) (by simp) hk
  simpa using this
theorem eqIntS_l0 (l : List Int) (hl : l.length ≤ 1099511627776) (d : Nat) : ∀ (k : Nat) (i : Nat), i + d = l.length → d < k → laws_eqIntS.l0 k l l i = some true := by
  induction d with
  | zero =>
    intro k i hi hk
    obtain ⟨k, rfl⟩ : ∃ m, k = m + 1 := ⟨k - 1, by omega⟩
    simp only [laws_eqIntS.l0]
    rw [if_neg (by omega)]
  | succ d ih =>
    intro k i hi hk
    obtain ⟨k, rfl⟩ : ∃ m, k = m + 1 := ⟨k - 1, by omega⟩
    simp only [laws_eqIntS.l0]
    rw [if_pos (by omega), if_pos (by omega), if_pos (by omega), if_pos trivial, wrap_succ (by omega)]
    exact ih k (i + 1) (by omega) (by omega)
theorem eqIntS_at {l : List Int} (hl : l.length ≤ 1099511627776) {k : Nat} (hk : l.length < k) : laws_eqIntS.f k l l = some true := by
  unfold laws_eqIntS.f
  rw [if_pos rfl]
  exact eqIntS_l0 l hl l.length k 0 (by omega) hk
/-- The numbers from m on. -/
def marks (m : Int) (n : Nat) : List Int := (List.range n).map fun (i : Nat) => m + (i : Int)
theorem marks_len (m : Int) (n : Nat) : (marks m n).length = n := by simp [marks]
theorem marks_get (m : Int) (n i : Nat) (h : i < (marks m n).length) : (marks m n)[i] = m + (i : Int) := by simp [marks]
theorem markIntS_l0 (m : Int) (n : Nat) (hm : 0 ≤ m) (hm2 : m ≤ 1099511627776) (hn : n ≤ 1099511627776) (d : Nat) : ∀ (k : Nat) (l : List Int) (i : Nat), i + d = n → l.length = n → d < k →
    laws_markIntS.l0 k l (m + (i : Int)) (i : Int) = some (m + n, l.take i ++ (marks m n).drop i) := by
  induction d with
  | zero =>
    intro k l i hi hl hk
    obtain ⟨k, rfl⟩ : ∃ m, k = m + 1 := ⟨k - 1, by omega⟩
    simp only [laws_markIntS.l0]
    rw [if_neg (by omega), List.take_of_length_le (by omega), List.drop_of_length_le (by rw [marks_len]; omega), List.append_nil]
    congr 3; omega
  | succ d ih =>
    intro k l i hi hl hk
    obtain ⟨k, rfl⟩ : ∃ m, k = m + 1 := ⟨k - 1, by omega⟩
    simp only [laws_markIntS.l0]
    rw [if_pos (by omega), if_pos (by omega), wrap_succ (by omega), wrap_id (by omega) (by omega)]
    rw [show m + (i : Int) + 1 = m + ((i + 1 : Nat) : Int) by omega, ih k _ (i + 1) (by omega) (by simpa using hl) (by omega)]
    congr 2
    rw [Int.toNat_natCast, List.drop_eq_getElem_cons (show i < (marks m n).length by rw [marks_len]; omega), marks_get, List.take_succ_eq_append_getElem (by simp; omega)]
    simp [List.take_set_of_le]
theorem markIntS_at {m : Int} {l : List Int} (hm : 0 ≤ m) (hm2 : m ≤ 1099511627776) (hl : l.length ≤ 1099511627776) {k : Nat} (hk : l.length < k) : laws_markIntS.f k l m = some (m + l.length, marks m l.length) := by
  unfold laws_markIntS.f
  have := markIntS_l0 m l.length hm hm2 hl l.length k l 0 (by omega) rfl hk
  simpa using this
theorem heldIntS_l0 (m : Int) (n : Nat) (hm : 0 ≤ m) (hm2 : m ≤ 1099511627776) (hn : n ≤ 1099511627776) (d : Nat) : ∀ (k : Nat) (i : Nat), i + d = n → d < k →
    laws_heldIntS.l0 k (marks m n) (m + (i : Int)) (i : Int) = some (m + n) := by
  induction d with
  | zero =>
    intro k i hi hk
    obtain ⟨k, rfl⟩ : ∃ m, k = m + 1 := ⟨k - 1, by omega⟩
    simp only [laws_heldIntS.l0]
    rw [marks_len, if_neg (by omega)]
    congr 2; omega
  | succ d ih =>
    intro k i hi hk
    obtain ⟨k, rfl⟩ : ∃ m, k = m + 1 := ⟨k - 1, by omega⟩
    simp only [laws_heldIntS.l0]
    rw [marks_len, if_pos (by omega), if_pos (by omega), rd_lt (by rw [marks_len]; omega), marks_get, if_pos rfl, wrap_succ (by omega), wrap_id (by omega) (by omega)]
    rw [show m + (i : Int) + 1 = m + ((i + 1 : Nat) : Int) by omega, ih k (i + 1) (by omega) (by omega)]
theorem heldIntS_at {m : Int} {n : Nat} (hm : 0 ≤ m) (hm2 : m ≤ 1099511627776) (hn : n ≤ 1099511627776) {k : Nat} (hk : n < k) : laws_heldIntS.f k (marks m n) m = some (m + n) := by
  unfold laws_heldIntS.f
  have := heldIntS_l0 m n hm hm2 hn n k 0 (by omega) hk
  simpa using this
/-- The number at a place, 0 beyond the list. -/
def g (l : List Int) (i : Nat) : Int := l.getD i 0
theorem g_ge {l : List Int} {i : Nat} (h : l.length ≤ i) : g l i = 0 := by
  simp [g, List.getD_eq_getElem?_getD, List.getElem?_eq_none h]
theorem g_lt {l : List Int} {i : Nat} (h : i < l.length) : g l i = l[i] := by
  simp [g, List.getD_eq_getElem?_getD, List.getElem?_eq_getElem h]
theorem g_mem {l : List Int} {i : Nat} (h : i < l.length) : g l i ∈ l := by
  rw [g_lt h]; exact List.getElem_mem h
theorem mem_g {l : List Int} {x : Int} (h : x ∈ l) : ∃ i, i < l.length ∧ g l i = x := by
  obtain ⟨i, hi, rfl⟩ := List.getElem_of_mem h
  exact ⟨i, hi, g_lt hi⟩
theorem ext_g {a b : List Int} (h : a.length = b.length) (hg : ∀ i, i < a.length → g a i = g b i) : a = b := by
  apply List.ext_getElem h
  intro i h1 h2
  have := hg i h1
  rwa [g_lt h1, g_lt h2] at this
theorem g_set (l : List Int) (i : Nat) (v : Int) (j : Nat) : g (l.set i v) j = if i = j ∧ j < l.length then v else g l j := by
  by_cases hj : j < l.length
  · rw [g_lt (by simpa using hj), g_lt hj, List.getElem_set]
    by_cases e : i = j <;> simp [e, hj]
  · rw [g_ge (by simp; omega), g_ge (by omega), if_neg (by omega)]
theorem g_range (n : Nat) (f : Nat → Int) (j : Nat) (hj : j < n) : g ((List.range n).map f) j = f j := by
  rw [g_lt (by simpa using hj)]; simp
theorem g_map (l : List Int) (f : Int → Int) (j : Nat) (hj : j < l.length) : g (l.map f) j = f (g l j) := by
  rw [g_lt (by simpa using hj), g_lt hj]; simp
/-- One place fires. -/
def fire1 (l : List Int) (i : Nat) : List Int :=
  (List.range l.length).map fun j => g l j - (if j = i then 2 else 0) + (if j + 1 = i then 1 else 0) + (if j = i + 1 then 1 else 0)
/-- The places that can fire. -/
def places (l : List Int) : List Nat := (List.range l.length).filter fun i => decide (2 ≤ g l i)
theorem rd_g (l : List Int) (i : Nat) : rd l (i : Int) = g l i := by simp [rd, g]
theorem inB_iff {p q x : Int} : inB p q x = true ↔ p ≤ x ∧ x ≤ q := by simp [inB]
/-- Valid chips, as a Bool. -/
def good (l : List Int) : Bool := decide (1 ≤ l.length) && decide (l.length ≤ 20) && l.all (inB 0 60)
theorem within_eq (a b c : Int) : impl_within.f a b c = some (inB b c a) := by
  unfold impl_within.f inB
  by_cases h : a ≥ b <;> simp [h] <;> omega
theorem l1In_eq (a b c : Int) : spec_l1In.f a b c = some (inB b c a) := by
  unfold spec_l1In.f inB
  by_cases h : a ≥ b <;> simp [h] <;> omega
theorem l1All_l0 (p q : Int) (l : List Int) (hl : l.length ≤ 1099511627776) (d : Nat) : ∀ (k : Nat) (i : Nat), i + d = l.length → d < k →
    spec_l1All.l0 k p q l (l.length : Int) (i : Int) = some ((l.drop i).all (inB p q)) := by
  induction d with
  | zero =>
    intro k i hi hk
    obtain ⟨k, rfl⟩ : ∃ m, k = m + 1 := ⟨k - 1, by omega⟩
    simp only [spec_l1All.l0]
    rw [if_neg (by omega), List.drop_of_length_le (by omega)]; rfl
  | succ d ih =>
    intro k i hi hk
    obtain ⟨k, rfl⟩ : ∃ m, k = m + 1 := ⟨k - 1, by omega⟩
    simp only [spec_l1All.l0]
    rw [if_pos (by omega), if_pos (by omega), if_pos (by omega), l1In_eq, rd_lt (by omega), List.drop_eq_getElem_cons (show i < l.length by omega), List.all_cons]
    simp only [Option.bind_some]
    by_cases h : inB p q l[i] = true
    · rw [if_pos h, h, wrap_succ (by omega), ih k (i + 1) (by omega) (by omega)]; rfl
    · rw [if_neg h, Bool.eq_false_iff.2 h]; rfl
theorem l1All_at (p q : Int) {l : List Int} (hl : l.length ≤ 1099511627776) {k : Nat} (hk : l.length < k) : spec_l1All.f k l p q = some (l.all (inB p q)) := by
  unfold spec_l1All.f
  have := l1All_l0 p q l hl l.length k 0 (by omega) hk
  simpa using this
theorem take_snoc (l : List Int) (i : Nat) (h : i < l.length) : l.take (i + 1) = l.take i ++ [g l i] := by
  rw [List.take_succ_eq_append_getElem h, g_lt h]
theorem l1Own_eq {l : List Int} (h : l.length ≤ 1099511627776) : spec_l1Own.f l = some l := by
  unfold spec_l1Own.f
  simp only [Option.bind_some, List.length_nil, List.nil_append]
  rw [if_pos (by omega)]
/-- Two lists of chips of as many places. -/
def both (a b : List Int) : Bool := good a && good b && (a.length == b.length)
/-- Firings of places in an order, if each of them can fire. -/
def play (l : List Int) : List Int → Option (List Int)
  | [] => some l
  | p :: ps => if 0 ≤ p ∧ p < l.length ∧ 2 ≤ g l p.toNat then play (fire1 l p.toNat) ps else none
theorem tdiv2 {x : Int} (h : 0 ≤ x) : Int.tdiv x 2 = x / 2 := Int.tdiv_eq_ediv_of_nonneg h
theorem beq_oddx (x : Int) : (Int.tmod x 2 == 1) = oddx x := by
  unfold oddx; rw [Bool.eq_iff_iff, beq_iff_eq, decide_eq_true_eq]
/-- Valid cups, as a Bool. -/
def vcup (l : List Int) (u : Int) : Bool := inB 2 6 (l.length : Int) && (inB 1 1048576 u && (Go.bits .and .i64 u (wrap64 (u - 1)) == 0)) && l.all (inB 0 (wrap64 (1000 * u))) && (decide (u = 1) || l.any oddx)
theorem contains_odd1 (l : List Int) : slices_ContainsFunc_int_int.f l 59 = some (l.any oddx) := by
  unfold slices_ContainsFunc_int_int.f; rw [if_pos (by rfl)]
theorem impl_AreCups_at (l : List Int) (u : Int) {k : Nat} (hk : 1 ≤ k) : impl_AreCups.f k l u = some (vcup l u) := by
  obtain ⟨k, rfl⟩ : ∃ m, k = m + 1 := ⟨k - 1, by omega⟩
  unfold impl_AreCups.f vcup
  rw [within_eq, within_eq]
  simp only [Option.bind_some, impl_AreCups.j0, contains_odd1, impl_areIn.f]
  cases h1 : inB 2 6 (l.length : Int) with
  | false => simp
  | true =>
    cases h2 : inB 1 1048576 u with
    | false => simp
    | true =>
      generalize Go.bits .and .i64 u (wrap64 (u - 1)) = b
      by_cases h3 : b = 0
      · subst h3
        cases h4 : l.all (inB 0 (wrap64 (1000 * u))) with
        | false => simp
        | true => by_cases h5 : u = 1 <;> simp [h5]
      · have h4 : (b != 0) = true := by simpa using h3
        have h5 : (b == 0) = false := by simpa using h3
        rw [h4, h5]; simp
theorem cuUnit_eq (u : Int) : spec_cuUnit.f u = some (inB 1 1048576 u && (Go.bits .and .i64 u (wrap64 (u - 1)) == 0)) := by
  unfold spec_cuUnit.f
  rw [l1In_eq]
  cases h2 : inB 1 1048576 u with
  | false => rfl
  | true => simp
theorem cuGood_l0 {l : List Int} (hL : l.length ≤ 1099511627776) (l' : List Int) (u : Int) (d : Nat) : ∀ (k i : Nat) (b : Bool), i + d = l.length → d < k →
    spec_cuGood.l0 k b l (l.length : Int) (i : Int) l' u = some (decide (u = 1) || (b || (l.drop i).any oddx)) := by
  induction d with
  | zero =>
    intro k i b hi hk
    obtain ⟨k, rfl⟩ : ∃ m, k = m + 1 := ⟨k - 1, by omega⟩
    simp only [spec_cuGood.l0]
    rw [if_neg (by omega), List.drop_eq_nil_of_le (by omega)]
    by_cases h : u = 1 <;> simp [h]
  | succ d ih =>
    intro k i b hi hk
    obtain ⟨k, rfl⟩ : ∃ m, k = m + 1 := ⟨k - 1, by omega⟩
    simp only [spec_cuGood.l0]
    rw [if_pos (by omega), if_pos (by omega), if_pos (by omega), wrap_succ (by omega), beq_oddx, rd_g, ih k (i + 1) _ (by omega) (by omega), ih k (i + 1) _ (by omega) (by omega), List.drop_eq_getElem_cons (by omega : i < l.length), List.any_cons, g_lt (by omega)]
    cases b <;> simp
theorem cuGood_at {l : List Int} (hL : l.length ≤ 1099511627776) (u : Int) {k : Nat} (hk : l.length + 1 < k) : spec_cuGood.f k l u = some (vcup l u) := by
  obtain ⟨k, rfl⟩ : ∃ m, k = m + 1 := ⟨k - 1, by omega⟩
  have e : ∀ b, spec_cuGood.j0 (k + 1) b l u = some (!b && (decide (u = 1) || l.any oddx)) := fun b => by
    simp only [spec_cuGood.j0]
    cases b with
    | true => simp
    | false =>
      have := cuGood_l0 hL l u l.length k 0 false (by omega) (by omega)
      simpa using this
  unfold spec_cuGood.f vcup
  rw [l1In_eq, cuUnit_eq, l1All_at _ _ hL (by omega)]
  simp only [Option.bind_some, e]
  cases inB 2 6 (l.length : Int) with
  | false => simp
  | true =>
    cases (inB 1 1048576 u && (Go.bits .and .i64 u (wrap64 (u - 1)) == 0)) with
    | false => simp
    | true => simp
/-- What valid cups are. -/
structure VCup (l : List Int) (u : Int) : Prop where
  lo : 2 ≤ l.length
  hi : l.length ≤ 6
  u1 : 1 ≤ u
  u2 : u ≤ 1048576
  b : ∀ j, j < l.length → 0 ≤ g l j ∧ g l j ≤ 1000 * u
theorem vcup_V {l : List Int} {u : Int} (h : vcup l u = true) : VCup l u := by
  simp only [vcup, Bool.and_eq_true, List.all_eq_true] at h
  obtain ⟨⟨⟨h1, h2, _⟩, h3⟩, _⟩ := h
  have h1 := inB_iff.1 h1; have h2 := inB_iff.1 h2
  refine ⟨by omega, by omega, h2.1, h2.2, fun j hj => ?_⟩
  have := inB_iff.1 (h3 _ (g_mem hj))
  rw [wrap_id (by omega) (by omega)] at this; exact this
theorem VCup.b' {l : List Int} {u : Int} (h : VCup l u) : ∀ j, j < l.length → 0 ≤ g l j ∧ g l j ≤ 1099511627776 := fun j hj => by
  have h1 := h.b j hj; have h2 := h.u2; omega
theorem szCups_in {l : List Int} (u : Int) (h : l.length ≤ 1048576) : laws_szCups.f l u 1048576 = some (1048576 - (l.length : Int)) := by
  unfold laws_szCups.f laws_szIntS.f
  rw [wrap_id (by omega) (by omega), if_neg (by omega), Option.bind_some, if_neg (by omega)]
theorem szCups_out {l : List Int} (u : Int) (h : ¬ l.length ≤ 1048576) (hm : l.length ≤ maxLen) : laws_szCups.f l u 1048576 = some (-1) := by
  simp only [maxLen] at hm
  unfold laws_szCups.f laws_szIntS.f
  rw [wrap_id (by omega) (by omega), if_pos (by omega)]; rfl
theorem toCups_at {l : List Int} (hl : l.length ≤ 1099511627776) (u : Int) {k : Nat} (hk : l.length < k) : laws_toCups.f k l u = some (l, u) := by
  unfold laws_toCups.f; rw [toIntS_at hl hk]; rfl
theorem eqCups_at {l : List Int} (hl : l.length ≤ 1099511627776) (u : Int) {k : Nat} (hk : l.length < k) : laws_eqCups.f k l u l u = some true := by
  unfold laws_eqCups.f; rw [eqIntS_at hl hk, Option.bind_some, if_pos rfl, if_pos rfl]
theorem and_i64_nat (a b : Nat) (ha : a < 9223372036854775808) (hb : b < 9223372036854775808) : Go.bits .and .i64 (a : Int) (b : Int) = ((a &&& b : Nat) : Int) := by
  have h : a &&& b ≤ a := Nat.and_le_left
  have h1 : (BitVec.ofInt 64 (a : Int)).toNat = a := by
    rw [BitVec.ofInt_natCast, BitVec.toNat_ofNat]; exact Nat.mod_eq_of_lt (by omega)
  have h2 : (BitVec.ofInt 64 (b : Int)).toNat = b := by
    rw [BitVec.ofInt_natCast, BitVec.toNat_ofNat]; exact Nat.mod_eq_of_lt (by omega)
  show IntKind.i64.wrap ((BitVec.ofInt 64 (a : Int) &&& BitVec.ofInt 64 (b : Int)).toNat : Int) = _
  rw [BitVec.toNat_and, h1, h2, i64_w, wrap_id (by omega) (by omega)]
/-- A unit, as the code asks for it. -/
def isUnit (u : Int) : Bool := inB 1 1048576 u && (Go.bits .and .i64 u (wrap64 (u - 1)) == 0)
theorem isUnit_iff (u : Int) : isUnit u = true ↔ ∃ e : Nat, e ≤ 20 ∧ u = ((2 ^ e : Nat) : Int) := by
  unfold isUnit
  rw [Bool.and_eq_true, inB_iff, beq_iff_eq]
  have key : ∀ n : Nat, 1 ≤ n → n ≤ 1048576 → (Go.bits .and .i64 (n : Int) (wrap64 ((n : Int) - 1)) = 0 ↔ ∃ e : Nat, n = 2 ^ e) := fun n h1 h2 => by
    have e : wrap64 ((n : Int) - 1) = ((n - 1 : Nat) : Int) := by rw [wrap_id (by omega) (by omega)]; omega
    rw [e, and_i64_nat n (n - 1) (by omega) (by omega)]
    have := Nat.and_sub_one_eq_zero_iff_isPowerOfTwo (n := n) (by omega)
    constructor
    · intro h; exact this.1 (by omega)
    · intro h; have := this.2 h; omega
  constructor
  · intro ⟨⟨h1, h2⟩, h3⟩
    obtain ⟨n, rfl⟩ : ∃ n : Nat, u = (n : Int) := ⟨u.toNat, by omega⟩
    obtain ⟨e, he⟩ := (key n (by omega) (by omega)).1 h3
    refine ⟨e, ?_, by rw [he]⟩
    rcases Nat.lt_or_ge 20 e with h | h
    · have : 2 ^ 21 ≤ 2 ^ e := Nat.pow_le_pow_right (by omega) (by omega)
      omega
    · exact h
  · intro ⟨e, he, hu⟩
    have h1 : 2 ^ e ≤ 2 ^ 20 := Nat.pow_le_pow_right (by omega) he
    have h2 : 0 < 2 ^ e := Nat.pow_pos (by omega)
    subst hu
    exact ⟨⟨by omega, by omega⟩, (key (2 ^ e) (by omega) (by omega)).2 ⟨e, rfl⟩⟩
theorem isUnit_b {u : Int} (h : isUnit u = true) : 1 ≤ u ∧ u ≤ 1048576 := by
  unfold isUnit at h
  rw [Bool.and_eq_true, inB_iff] at h; exact h.1
theorem vcup_def (l : List Int) (u : Int) : vcup l u = (inB 2 6 (l.length : Int) && isUnit u && l.all (inB 0 (wrap64 (1000 * u))) && (decide (u = 1) || l.any oddx)) := rfl
/-- Each halved. -/
def halved (l : List Int) : List Int := l.map fun x => x / 2
theorem len_halved (l : List Int) : (halved l).length = l.length := by simp [halved]
theorem g_halved {l : List Int} {j : Nat} (h : j < l.length) : g (halved l) j = g l j / 2 := g_map l _ j h
/-- Lowered so many times at most. -/
def red : Nat → List Int → Int → List Int × Int
  | 0, l, u => (l, u)
  | n + 1, l, u => if u > 1 ∧ l.any oddx = false then red n (halved l) (u / 2) else (l, u)
def halfFrom (l : List Int) (i : Nat) : List Int := (List.range l.length).map fun j => if i ≤ j then g l j / 2 else g l j
theorem len_halfFrom (l : List Int) (i : Nat) : (halfFrom l i).length = l.length := by simp [halfFrom]
theorem g_halfFrom {l : List Int} (i : Nat) {j : Nat} (h : j < l.length) : g (halfFrom l i) j = if i ≤ j then g l j / 2 else g l j := by unfold halfFrom; rw [g_range _ _ _ h]
theorem halfFrom_zero (l : List Int) : halfFrom l 0 = halved l := by
  apply ext_g (by rw [len_halfFrom, len_halved])
  intro j hj; rw [len_halfFrom] at hj
  rw [g_halfFrom _ hj, g_halved hj, if_pos (by omega)]
theorem halfFrom_end {l : List Int} {i : Nat} (h : l.length ≤ i) : halfFrom l i = l := by
  apply ext_g (len_halfFrom l i)
  intro j hj; rw [len_halfFrom] at hj
  rw [g_halfFrom _ hj, if_neg (by omega)]
theorem halfFrom_set {l : List Int} {i : Nat} (h : i < l.length) : halfFrom (l.set i (g l i / 2)) (i + 1) = halfFrom l i := by
  apply ext_g (by rw [len_halfFrom, len_halfFrom, List.length_set])
  intro j hj; rw [len_halfFrom, List.length_set] at hj
  rw [g_halfFrom _ (by rw [List.length_set]; exact hj), g_halfFrom _ hj]
  have e1 : g (l.set i (g l i / 2)) j = if i = j then g l i / 2 else g l j := by
    rw [g_set]
    by_cases e : i = j
    · rw [if_pos ⟨e, hj⟩, if_pos e]
    · rw [if_neg (fun q => e q.1), if_neg e]
  rw [e1]
  by_cases e : i = j
  · subst e; rw [if_neg (by omega), if_pos rfl, if_pos (by omega)]
  · rw [if_neg e]
    by_cases q : i ≤ j
    · rw [if_pos q, if_pos (by omega)]
    · rw [if_neg q, if_neg (by omega)]
/-- Numbers that never leave their range. -/
def Low (l : List Int) : Prop := l.length ≤ 1099511627776 ∧ ∀ j, j < l.length → 0 ≤ g l j ∧ g l j ≤ 1125899906842624
theorem Low.halved {l : List Int} (h : Low l) : Low (halved l) := ⟨by rw [len_halved]; exact h.1, fun j hj => by rw [len_halved] at hj; rw [g_halved hj]; have := h.2 j hj; omega⟩
theorem reduced_l1 (u : Int) (d : Nat) : ∀ (k i : Nat) (l : List Int), i + d = l.length → Low l → impl_reduced.l1 (k + d + 1) (l.length : Int) (i : Int) l u = impl_reduced.l0 k (halfFrom l i) u := by
  induction d with
  | zero =>
    intro k i l hi hl
    simp only [impl_reduced.l1]
    rw [if_neg (by omega), halfFrom_end (by omega)]
  | succ d ih =>
    intro k i l hi hl
    have h1 := hl.1; have h2 := hl.2 i (by omega)
    generalize hm : k + (d + 1) = m
    simp only [impl_reduced.l1]
    rw [if_pos (by omega), if_pos (by omega), if_pos (by omega), rd_g, tdiv2 h2.1, wrap_id (x := g l i / 2) (by omega) (by omega), wrap_succ (by omega), Int.toNat_natCast, show m = k + d + 1 by omega, ← halfFrom_set (l := l) (by omega)]
    have := ih k (i + 1) (l.set i (g l i / 2)) (by rw [List.length_set]; omega) ⟨by rw [List.length_set]; exact h1, fun j hj => by
      rw [List.length_set] at hj
      rw [g_set]; split
      · omega
      · exact hl.2 j hj⟩
    rw [List.length_set] at this
    exact this
theorem cuLow_l2 (u : Int) (d : Nat) : ∀ (k i : Nat) (l : List Int), i + d = l.length → Low l → spec_cuLow.l2 (k + d + 1) (l.length : Int) (i : Int) l u = spec_cuLow.l0 k (halfFrom l i) (wrap64 (Int.tdiv u 2)) := by
  induction d with
  | zero =>
    intro k i l hi hl
    simp only [spec_cuLow.l2]
    rw [if_neg (by omega), halfFrom_end (by omega)]
  | succ d ih =>
    intro k i l hi hl
    have h1 := hl.1; have h2 := hl.2 i (by omega)
    generalize hm : k + (d + 1) = m
    simp only [spec_cuLow.l2]
    rw [if_pos (by omega), if_pos (by omega), if_pos (by omega), rd_g, tdiv2 h2.1, wrap_id (x := g l i / 2) (by omega) (by omega), wrap_succ (by omega), Int.toNat_natCast, show m = k + d + 1 by omega, ← halfFrom_set (l := l) (by omega)]
    have := ih k (i + 1) (l.set i (g l i / 2)) (by rw [List.length_set]; omega) ⟨by rw [List.length_set]; exact h1, fun j hj => by
      rw [List.length_set] at hj
      rw [g_set]; split
      · omega
      · exact hl.2 j hj⟩
    rw [List.length_set] at this
    exact this
theorem cuLow_l1 {l : List Int} (u : Int) (hl : Low l) (d : Nat) : ∀ (k i : Nat), i + d = l.length →
    spec_cuLow.l1 (k + d + 1) l (l.length : Int) (i : Int) l u = if (l.drop i).any oddx = true then some (l, u) else spec_cuLow.l2 k (l.length : Int) 0 l u := by
  induction d with
  | zero =>
    intro k i hi
    simp only [spec_cuLow.l1]
    rw [if_neg (by omega), List.drop_eq_nil_of_le (by omega)]; simp
  | succ d ih =>
    intro k i hi
    have h1 := hl.1
    generalize hm : k + (d + 1) = m
    simp only [spec_cuLow.l1]
    rw [if_pos (by omega), if_pos (by omega), if_pos (by omega), rd_g, wrap_succ (by omega), List.drop_eq_getElem_cons (by omega : i < l.length), List.any_cons, ← g_lt (by omega)]
    by_cases c : Int.tmod (g l i) 2 = 1
    · have e : oddx (g l i) = true := decide_eq_true c
      rw [if_pos c, e]; simp
    · have e : oddx (g l i) = false := decide_eq_false c
      rw [if_neg c, e, Bool.false_or, show m = k + d + 1 by omega]
      exact ih k (i + 1) (by omega)
theorem contains_odd2 (l : List Int) : slices_ContainsFunc_int_int.f l 97 = some (l.any oddx) := by
  unfold slices_ContainsFunc_int_int.f; rw [if_pos (by rfl)]
theorem reduced_l0 (n : Nat) : ∀ (l : List Int) (u : Int), Low l → 0 ≤ u → u < n → u ≤ 1125899906842624 → ∃ K, ∀ k, K ≤ k → impl_reduced.l0 k l u = some (red n l u) := by
  induction n with
  | zero => intro l u _ h; omega
  | succ n ih =>
    intro l u hl h0 hn hu
    by_cases c : u > 1 ∧ l.any oddx = false
    · obtain ⟨K, hK⟩ := ih (halved l) (u / 2) hl.halved (by omega) (by omega) (by omega)
      refine ⟨K + l.length + 3, fun k hk => ?_⟩
      obtain ⟨k, rfl⟩ : ∃ m, k = m + l.length + 1 + 1 + 1 := ⟨k - l.length - 3, by omega⟩
      simp only [impl_reduced.l0, impl_reduced.j1]
      rw [if_pos c.1, contains_odd2, c.2, Option.bind_some, Bool.not_false, if_pos rfl, tdiv2 h0, wrap_id (by omega) (by omega)]
      have := reduced_l1 (u / 2) l.length k 0 l (by omega) hl
      refine Eq.trans this ?_
      rw [halfFrom_zero, hK k (by omega)]
      simp only [red]; rw [if_pos c]
    · refine ⟨3, fun k hk => ?_⟩
      obtain ⟨k, rfl⟩ : ∃ m, k = m + 1 + 1 := ⟨k - 2, by omega⟩
      simp only [impl_reduced.l0, impl_reduced.j1, contains_odd2, red]
      rw [if_neg c]
      by_cases c1 : u > 1
      · have e : l.any oddx = true := by
          cases q : l.any oddx with
          | true => rfl
          | false => exact absurd ⟨c1, q⟩ c
        rw [if_pos c1, e]; simp
      · rw [if_neg c1]; simp
theorem cuLow_l0 (n : Nat) : ∀ (l : List Int) (u : Int), Low l → 0 ≤ u → u < n → u ≤ 1125899906842624 → ∃ K, ∀ k, K ≤ k → spec_cuLow.l0 k l u = some (red n l u) := by
  induction n with
  | zero => intro l u _ h; omega
  | succ n ih =>
    intro l u hl h0 hn hu
    by_cases c1 : u > 1
    · cases q : l.any oddx with
      | false =>
        obtain ⟨K, hK⟩ := ih (halved l) (u / 2) hl.halved (by omega) (by omega) (by omega)
        refine ⟨K + l.length + l.length + 3, fun k hk => ?_⟩
        obtain ⟨k, rfl⟩ : ∃ m, k = m + l.length + 1 + l.length + 1 + 1 := ⟨k - l.length - l.length - 3, by omega⟩
        simp only [spec_cuLow.l0]
        rw [if_pos c1]
        have e1 := cuLow_l1 u hl l.length (k + l.length + 1) 0 (by omega)
        refine Eq.trans e1 ?_
        rw [List.drop_zero, q, if_neg (by decide)]
        have e2 := cuLow_l2 u l.length k 0 l (by omega) hl
        refine Eq.trans e2 ?_
        rw [tdiv2 h0, wrap_id (by omega) (by omega), halfFrom_zero, hK k (by omega)]
        simp only [red]; rw [if_pos ⟨c1, q⟩]
      | true =>
        refine ⟨l.length + 3, fun k hk => ?_⟩
        obtain ⟨k, rfl⟩ : ∃ m, k = m + l.length + 1 + 1 := ⟨k - l.length - 2, by omega⟩
        simp only [spec_cuLow.l0]
        rw [if_pos c1]
        have e1 := cuLow_l1 u hl l.length k 0 (by omega)
        refine Eq.trans e1 ?_
        rw [List.drop_zero, if_pos q]
        simp only [red]; rw [if_neg (by rw [q]; simp)]
    · refine ⟨1, fun k hk => ?_⟩
      obtain ⟨k, rfl⟩ : ∃ m, k = m + 1 := ⟨k - 1, by omega⟩
      simp only [spec_cuLow.l0, red]
      rw [if_neg c1, if_neg (fun x => c1 x.1)]
theorem len_red (n : Nat) : ∀ l u, (red n l u).1.length = l.length := by
  induction n with
  | zero => intro l u; rfl
  | succ n ih => intro l u; simp only [red]; split; rw [ih, len_halved]; rfl
theorem red_succ (n : Nat) (l : List Int) (u : Int) : red (n + 1) l u = if u > 1 ∧ l.any oddx = false then red n (halved l) (u / 2) else (l, u) := rfl
theorem red_done (n : Nat) : ∀ (l : List Int) (u : Int), 1 ≤ u → u < n → 1 ≤ (red n l u).2 ∧ (red n l u).2 ≤ u ∧ ((red n l u).2 = 1 ∨ (red n l u).1.any oddx = true) := by
  induction n with
  | zero => intro l u h1 h; omega
  | succ n ih =>
    intro l u h1 hn
    have e := red_succ n l u
    by_cases c : u > 1 ∧ l.any oddx = false
    · rw [if_pos c] at e
      rw [e]
      have := ih (halved l) (u / 2) (by omega) (by omega)
      exact ⟨this.1, by have := this.2.1; omega, this.2.2⟩
    · rw [if_neg c] at e
      rw [e]
      refine ⟨h1, Int.le_refl _, ?_⟩
      show u = 1 ∨ l.any oddx = true
      by_cases q : u = 1
      · exact Or.inl q
      · cases q2 : l.any oddx with
        | true => exact Or.inr rfl
        | false => exact absurd ⟨by omega, q2⟩ c
def dbl (l : List Int) : List Int := l.map fun x => 2 * x
theorem len_dbl (l : List Int) : (dbl l).length = l.length := by simp [dbl]
theorem g_dbl {l : List Int} {j : Nat} (h : j < l.length) : g (dbl l) j = 2 * g l j := g_map l _ j h
theorem vcup_unit {l : List Int} {u : Int} (h : vcup l u = true) : isUnit u = true := by
  rw [vcup_def] at h
  simp only [Bool.and_eq_true] at h
  exact h.1.1.2
theorem pow_half {u : Int} (h : ∃ e : Nat, u = ((2 ^ e : Nat) : Int)) (h1 : 1 < u) : (∃ e : Nat, u / 2 = ((2 ^ e : Nat) : Int)) ∧ u % 2 = 0 := by
  obtain ⟨e, he⟩ := h
  match e, he with
  | 0, he => simp at he; omega
  | e + 1, he =>
    rw [Nat.pow_succ] at he
    exact ⟨⟨e, by omega⟩, by omega⟩
theorem red_bound (n : Nat) : ∀ (l : List Int) (u : Int), (∃ e : Nat, u = ((2 ^ e : Nat) : Int)) → (∀ j, j < l.length → 0 ≤ g l j ∧ g l j ≤ 1000 * u) → ∀ j, j < (red n l u).1.length → 0 ≤ g (red n l u).1 j ∧ g (red n l u).1 j ≤ 1000 * (red n l u).2 := by
  induction n with
  | zero => intro l u _ h; exact h
  | succ n ih =>
    intro l u h hb
    rw [red_succ]
    by_cases c : u > 1 ∧ l.any oddx = false
    · rw [if_pos c]
      have hp := pow_half h c.1
      exact ih _ _ hp.1 fun j hj => by
        rw [len_halved] at hj; rw [g_halved hj]
        have := hb j hj; have := hp.2; omega
    · rw [if_neg c]; exact hb
/-- Lowered cups are valid just if their unit is one. -/
theorem vcup_low {l : List Int} {u : Int} (n : Nat) (h1 : 2 ≤ l.length) (h2 : l.length ≤ 6) (hp : ∃ e : Nat, u = ((2 ^ e : Nat) : Int)) (hu : 1 ≤ u) (hn : u < n) (hb : ∀ j, j < l.length → 0 ≤ g l j ∧ g l j ≤ 1000 * u) : vcup (red n l u).1 (red n l u).2 = isUnit (red n l u).2 := by
  have hd := red_done n l u hu hn
  have hl := len_red n l u
  have hbb := red_bound n l u hp hb
  rw [vcup_def]
  have e1 : inB 2 6 ((red n l u).1.length : Int) = true := inB_iff.2 (by omega)
  have e2 : (decide ((red n l u).2 = 1) || (red n l u).1.any oddx) = true := by
    rcases hd.2.2 with q | q
    · rw [decide_eq_true q]; rfl
    · rw [q]; simp
  rw [e1, e2]
  cases q : isUnit (red n l u).2 with
  | false => rfl
  | true =>
    have hq := isUnit_b q
    have e3 : (red n l u).1.all (inB 0 (wrap64 (1000 * (red n l u).2))) = true := by
      rw [List.all_eq_true]
      intro x hx
      obtain ⟨j, hj, rfl⟩ := mem_g hx
      have := hbb j hj
      rw [wrap_id (by omega) (by omega)]
      exact inB_iff.2 this
    rw [e3]; rfl
/-- The parts behind a mix. -/
def mixl (l : List Int) (a b : Nat) : List Int := (List.range l.length).map fun j => if j = a ∨ j = b then g l a + g l b else 2 * g l j
theorem len_mixl (l : List Int) (a b : Nat) : (mixl l a b).length = l.length := by simp [mixl]
theorem g_mixl {l : List Int} (a b : Nat) {j : Nat} (h : j < l.length) : g (mixl l a b) j = if j = a ∨ j = b then g l a + g l b else 2 * g l j := by unfold mixl; rw [g_range _ _ _ h]
theorem mixl_b {l : List Int} {u : Int} (h : ∀ j, j < l.length → 0 ≤ g l j ∧ g l j ≤ 1000 * u) {a b : Nat} (ha : a < l.length) (hb : b < l.length) : ∀ j, j < (mixl l a b).length → 0 ≤ g (mixl l a b) j ∧ g (mixl l a b) j ≤ 1000 * (2 * u) := fun j hj => by
  rw [len_mixl] at hj; rw [g_mixl _ _ hj]
  have h1 := h a ha; have h2 := h b hb; have h3 := h j hj
  split <;> omega
theorem mix_set {l : List Int} {a b : Nat} (ha : a < l.length) (hb : b < l.length) : ((dbl l).set a (g l a + g l b)).set b (g l a + g l b) = mixl l a b := by
  apply ext_g (by rw [List.length_set, List.length_set, len_dbl, len_mixl])
  intro j hj
  rw [List.length_set, List.length_set, len_dbl] at hj
  rw [g_mixl _ _ hj, g_set, List.length_set, len_dbl, g_set, len_dbl, g_dbl hj]
  by_cases e1 : j = b
  · rw [if_pos ⟨e1.symm, hj⟩, if_pos (Or.inr e1)]
  · rw [if_neg (fun q => e1 q.1.symm)]
    by_cases e2 : j = a
    · rw [if_pos ⟨e2.symm, hj⟩, if_pos (Or.inl e2)]
    · rw [if_neg (fun q => e2 q.1.symm), if_neg (fun q => q.elim e2 e1)]
/-- Cups as both find them in play: valid but for the unit's bound. -/
structure Fits (l : List Int) (u : Int) : Prop where
  lo : 2 ≤ l.length
  hi : l.length ≤ 6
  u1 : 1 ≤ u
  u2 : u ≤ 1048576
  p : ∃ e : Nat, u = ((2 ^ e : Nat) : Int)
  b : ∀ j, j < l.length → 0 ≤ g l j ∧ g l j ≤ 1000 * u
theorem vcup_fits {l : List Int} {u : Int} (h : vcup l u = true) : Fits l u := by
  have hv := vcup_V h
  obtain ⟨e, _, he⟩ := (isUnit_iff u).1 (vcup_unit h)
  exact ⟨hv.lo, hv.hi, hv.u1, hv.u2, ⟨e, he⟩, hv.b⟩
theorem mixl_low {l : List Int} {u : Int} (h : Fits l u) {a b : Nat} (ha : a < l.length) (hb : b < l.length) : Low (mixl l a b) := by
  have h1 := h.hi; have h2 := h.u2
  exact ⟨by rw [len_mixl]; omega, fun j hj => by have := mixl_b h.b ha hb j hj; omega⟩
/-- Cups behind a mix. -/
def mixu (l : List Int) (u : Int) (a b : Nat) : List Int × Int := red ((2 * u).toNat + 1) (mixl l a b) (2 * u)
theorem pow_two {u : Int} (h : ∃ e : Nat, u = ((2 ^ e : Nat) : Int)) : ∃ e : Nat, 2 * u = ((2 ^ e : Nat) : Int) := by
  obtain ⟨e, he⟩ := h
  exact ⟨e + 1, by rw [Nat.pow_succ]; omega⟩
theorem len_mixu (l : List Int) (u : Int) (a b : Nat) : (mixu l u a b).1.length = l.length := by unfold mixu; rw [len_red, len_mixl]
theorem vcup_mixu {l : List Int} {u : Int} (h : Fits l u) {a b : Nat} (ha : a < l.length) (hb : b < l.length) : vcup (mixu l u a b).1 (mixu l u a b).2 = isUnit (mixu l u a b).2 := by
  have h1 := h.u1
  exact vcup_low _ (by rw [len_mixl]; exact h.lo) (by rw [len_mixl]; exact h.hi) (pow_two h.p) (by omega) (by omega) (mixl_b h.b ha hb)
theorem impl_mix_l0 {l : List Int} {u : Int} (h : Fits l u) {a b : Nat} (ha : a < l.length) (hb : b < l.length) (u0 : Int) (d : Nat) : ∀ (k i : Nat), i + d = l.length →
    impl_mix.l0 (k + d + 1) (a : Int) (b : Int) l (l.length : Int) (i : Int) l u0 ((dbl l).take i) (2 * u) = (impl_reduced.f k (mixl l a b) (2 * u)).bind fun bt => some (bt.1, bt.2) := by
  induction d with
  | zero =>
    intro k i hi
    have h1 := h.hi; have h3 := h.u2; have b1 := h.b a ha; have b2 := h.b b hb
    simp only [impl_mix.l0]
    rw [if_neg (by omega), List.take_of_length_le (by rw [len_dbl]; omega), if_pos (by omega), if_pos (by omega), if_pos (by omega), if_pos (by omega), len_dbl, if_pos (by omega), if_pos (by omega), rd_g, rd_g, wrap_id (x := g l a + g l b) (by omega) (by omega), Int.toNat_natCast, Int.toNat_natCast, mix_set ha hb]
  | succ d ih =>
    intro k i hi
    have h1 := h.hi; have h2 := h.b i (by omega); have h3 := h.u2
    generalize hm : k + (d + 1) = m
    simp only [impl_mix.l0]
    rw [if_pos (by omega), if_pos (by omega), if_pos (by omega), if_pos (by rw [List.length_take, len_dbl]; omega), rd_g, wrap_id (x := 2 * g l i) (by omega) (by omega), wrap_succ (by omega), show m = k + d + 1 by omega]
    have := ih k (i + 1) (by omega)
    rw [take_snoc _ _ (by rw [len_dbl]; omega), g_dbl (by omega)] at this
    exact this
theorem impl_mix_ev {l : List Int} {u : Int} (h : Fits l u) {a b : Nat} (ha : a < l.length) (hb : b < l.length) : ∃ K, ∀ k, K ≤ k → impl_mix.f k l u (a : Int) (b : Int) = some (mixu l u a b) := by
  have h1 := h.u1; have h2 := h.u2; have h3 := h.hi
  obtain ⟨K, hK⟩ := reduced_l0 ((2 * u).toNat + 1) (mixl l a b) (2 * u) (mixl_low h ha hb) (by omega) (by omega) (by omega)
  refine ⟨K + l.length + 1, fun k hk => ?_⟩
  obtain ⟨k, rfl⟩ : ∃ m, k = m + l.length + 1 := ⟨k - l.length - 1, by omega⟩
  unfold impl_mix.f
  rw [wrap_id (x := 2 * u) (by omega) (by omega)]
  have e := impl_mix_l0 h ha hb u l.length k 0 (by omega)
  refine Eq.trans e ?_
  unfold impl_reduced.f
  rw [hK k (by omega)]; rfl
theorem spec_mix_l0 {l : List Int} {u : Int} (h : Fits l u) {a b : Nat} (ha : a < l.length) (hb : b < l.length) (d : Nat) : ∀ (k i : Nat), i + d = l.length →
    spec_cuMix.l0 (k + d + 1) (a : Int) (b : Int) (g l a + g l b) l (l.length : Int) (i : Int) ((mixl l a b).take i) (2 * u) = (spec_cuLow.f k (mixl l a b) (2 * u)).bind fun bt => (spec_cuUnit.f bt.2).bind fun t => some (bt.1, bt.2, t) := by
  induction d with
  | zero =>
    intro k i hi
    have h1 := h.hi
    simp only [spec_cuMix.l0]
    rw [if_neg (by omega), List.take_of_length_le (by rw [len_mixl]; omega)]
  | succ d ih =>
    intro k i hi
    have h1 := h.hi; have h2 := h.b i (by omega); have h3 := h.u2
    have := ih k (i + 1) (by omega)
    rw [take_snoc _ _ (by rw [len_mixl]; omega), g_mixl _ _ (by omega)] at this
    generalize hm : k + (d + 1) = m
    have hlim : (List.take i (mixl l a b)).length < 17592186044416 := by rw [List.length_take, len_mixl]; omega
    simp only [spec_cuMix.l0]
    rw [if_pos (by omega), if_pos (by omega), if_pos (by omega), if_pos hlim, rd_g, wrap_id (x := 2 * g l i) (by omega) (by omega), wrap_succ (by omega), show m = k + d + 1 by omega]
    by_cases e1 : i = a
    · rw [if_pos (by omega)]; rw [if_pos (Or.inl e1)] at this; exact this
    · rw [if_neg (by omega)]
      by_cases e2 : i = b
      · rw [if_pos (by omega)]; rw [if_pos (Or.inr e2)] at this; exact this
      · rw [if_neg (by omega), if_pos hlim]; rw [if_neg (fun q => q.elim e1 e2)] at this; exact this
theorem cuUnit_isUnit (u : Int) : spec_cuUnit.f u = some (isUnit u) := cuUnit_eq u
theorem spec_mix_ev {l : List Int} {u : Int} (h : Fits l u) {a b : Nat} (ha : a < l.length) (hb : b < l.length) : ∃ K, ∀ k, K ≤ k → spec_cuMix.f k l u (a : Int) (b : Int) = some ((mixu l u a b).1, (mixu l u a b).2, isUnit (mixu l u a b).2) := by
  have h1 := h.u1; have h2 := h.u2; have h3 := h.hi; have b1 := h.b a ha; have b2 := h.b b hb
  have hlow := mixl_low h ha hb
  obtain ⟨K, hK⟩ := cuLow_l0 ((2 * u).toNat + 1) (mixl l a b) (2 * u) hlow (by omega) (by omega) (by omega)
  refine ⟨K + l.length + 1, fun k hk => ?_⟩
  obtain ⟨k, rfl⟩ : ∃ m, k = m + l.length + 1 := ⟨k - l.length - 1, by omega⟩
  unfold spec_cuMix.f
  rw [if_pos (by omega), if_pos (by omega), if_pos (by omega), if_pos (by omega), rd_g, rd_g, wrap_id (x := 2 * u) (by omega) (by omega), wrap_id (x := g l a + g l b) (by omega) (by omega)]
  have e := spec_mix_l0 h ha hb l.length k 0 (by omega)
  refine Eq.trans e ?_
  unfold spec_cuLow.f
  rw [l1Own_eq hlow.1, Option.bind_some, hK k (by omega), Option.bind_some, cuUnit_isUnit]; rfl
theorem MixTwo_both {l : List Int} (hL : l.length ≤ 1099511627776) (u a b : Int) : ∃ (K : Nat) (r : List Int × Int × Bool), r.1.length ≤ 1099511627776 ∧ (∀ k, K ≤ k → spec_MixTwo.f k l u a b = some r) ∧ (∀ k, K ≤ k → impl_MixTwo.f k l u a b = some r) := by
  have hw : wrap64 ((l.length : Int) - 1) = (l.length : Int) - 1 := wrap_id (by omega) (by omega)
  by_cases h : vcup l u = true ∧ inB 0 ((l.length : Int) - 1) a = true ∧ inB 0 ((l.length : Int) - 1) b = true ∧ a ≠ b
  · obtain ⟨hv, ha, hb, hab⟩ := h
    have hf := vcup_fits hv
    have ha' := inB_iff.1 ha; have hb' := inB_iff.1 hb
    obtain ⟨i, rfl⟩ : ∃ n : Nat, a = (n : Int) := ⟨a.toNat, by omega⟩
    obtain ⟨j, rfl⟩ : ∃ n : Nat, b = (n : Int) := ⟨b.toNat, by omega⟩
    obtain ⟨K, hK⟩ := spec_mix_ev hf (a := i) (b := j) (by omega) (by omega)
    obtain ⟨K', hK'⟩ := impl_mix_ev hf (a := i) (b := j) (by omega) (by omega)
    have hvm := vcup_mixu hf (a := i) (b := j) (by omega) (by omega)
    have hlen := len_mixu l u i j
    refine ⟨K + K' + l.length + 5, if isUnit (mixu l u i j).2 = true then ((mixu l u i j).1, (mixu l u i j).2, true) else ([], 0, false), by split; (show (mixu l u i j).1.length ≤ _; omega); simp, fun k hk => ?_, fun k hk => ?_⟩
    · obtain ⟨k, rfl⟩ : ∃ m, k = m + 1 := ⟨k - 1, by omega⟩
      have hne : ((i : Int) != (j : Int)) = true := by rw [bne_iff_ne]; exact hab
      unfold spec_MixTwo.f spec_cuTwo.f
      rw [cuGood_at hL u (by omega), hv, Option.bind_some, if_pos rfl, hw, l1In_eq, l1In_eq, ha, hb, hne]
      simp only [Option.bind_some, if_true, Bool.not_true, spec_MixTwo.j0]
      rw [if_neg (by decide), hK k (by omega), Option.bind_some]
      cases isUnit (mixu l u i j).2 <;> rfl
    · obtain ⟨k, rfl⟩ : ∃ m, k = m + 1 := ⟨k - 1, by omega⟩
      have hne : ((i : Int) == (j : Int)) = false := beq_eq_false_iff_ne.2 hab
      unfold impl_MixTwo.f impl_isCup.f
      rw [impl_AreCups_at l u (by omega), hv, Option.bind_some, if_pos rfl, hw, within_eq, within_eq, ha, hb, hne]
      simp only [Option.bind_some, if_true, impl_MixTwo.j0]
      rw [if_neg (by decide), hK' k (by omega), Option.bind_some, impl_AreCups_at _ _ (by omega), hvm, Option.bind_some]
      cases isUnit (mixu l u i j).2 <;> rfl
  · refine ⟨l.length + 5, ([], 0, false), by simp, fun k hk => ?_, fun k hk => ?_⟩
    · obtain ⟨k, rfl⟩ : ∃ m, k = m + 1 := ⟨k - 1, by omega⟩
      unfold spec_MixTwo.f spec_cuTwo.f
      rw [cuGood_at hL u (by omega), Option.bind_some, hw, l1In_eq, l1In_eq]
      simp only [spec_MixTwo.j0]
      cases h1 : vcup l u with
      | false => rfl
      | true =>
        cases h2 : inB 0 ((l.length : Int) - 1) a with
        | false => rfl
        | true =>
          cases h3 : inB 0 ((l.length : Int) - 1) b with
          | false => rfl
          | true =>
            have h4 : a = b := Decidable.byContradiction fun x => h ⟨h1, h2, h3, x⟩
            subst h4
            simp
    · obtain ⟨k, rfl⟩ : ∃ m, k = m + 1 := ⟨k - 1, by omega⟩
      unfold impl_MixTwo.f impl_isCup.f
      rw [impl_AreCups_at l u (by omega), Option.bind_some, hw, within_eq, within_eq]
      simp only [impl_MixTwo.j0]
      cases h1 : vcup l u with
      | false => rfl
      | true =>
        cases h2 : inB 0 ((l.length : Int) - 1) a with
        | false => rfl
        | true =>
          cases h3 : inB 0 ((l.length : Int) - 1) b with
          | false => rfl
          | true =>
            have h4 : a = b := Decidable.byContradiction fun x => h ⟨h1, h2, h3, x⟩
            subst h4
            simp
theorem FnExactMixTwo (l : List Int) (u a b : Int) (hm : l.length ≤ maxLen) (hw : ∀ x ∈ l, (Lit.int .i64 x).wf = true) (hu : (Lit.int .i64 u).wf = true) (_ : (Lit.int .i64 a).wf = true) (_ : (Lit.int .i64 b).wf = true) : ∃ k, laws_FnExactMixTwo.f k l u a b = some true := by
  by_cases hl : l.length ≤ 1048576
  · have h0 : l.length ≤ 1099511627776 := by omega
    obtain ⟨K, r, hr, hs, hi⟩ := MixTwo_both h0 u a b
    have hT : ∀ k, l.length < k → laws_toCups.f k l u = some (l, u) := fun k hk => toCups_at h0 u hk
    have hE : ∀ k, l.length < k → laws_eqCups.f k l u l u = some true := fun k hk => eqCups_at h0 u hk
    have hn : ¬ (1048576 - (l.length : Int) < 0) := by omega
    have hn1 : ¬ ((1 : Int) + (l.length : Int) < 0) := by omega
    have hn2 : ¬ ((1 : Int) + (r.1.length : Int) < 0) := by omega
    have hMl : ∀ k, l.length < k → laws_markCups.f k l u 1 = some ((1 : Int) + (l.length : Int), marks 1 l.length) := fun k hk => by
      unfold laws_markCups.f; rw [markIntS_at (by omega) (by omega) h0 hk]; rfl
    have hEr : ∀ k, r.1.length < k → laws_eqCups.f k r.1 r.2.1 r.1 r.2.1 = some true := fun k hk => eqCups_at hr _ hk
    have hMr : ∀ k, r.1.length < k → laws_markCups.f k r.1 r.2.1 1 = some ((1 : Int) + (r.1.length : Int), marks 1 r.1.length) := fun k hk => by
      unfold laws_markCups.f; rw [markIntS_at (by omega) (by omega) hr hk]; rfl
    have hHr : ∀ k, r.1.length < k → laws_heldCups.f k (marks 1 r.1.length) r.2.1 1 = some ((1 : Int) + (r.1.length : Int)) := fun k hk => by
      unfold laws_heldCups.f; rw [heldIntS_at (by omega) (by omega) hr hk, Option.bind_some, if_neg hn2]
    refine ⟨K + l.length + r.1.length + 8, ?_⟩
    unfold laws_FnExactMixTwo.f
    rw [szCups_in u hl, Option.bind_some, if_neg hn]
    simp (disch := omega) only [eq_self, hT, hE, hs, hi, Option.bind_some, bne_self_eq_false, if_true, if_false, Bool.false_eq_true, Bool.true_eq_false, hMl, hEr, hMr, hHr, if_neg hn1, if_neg hn2]
    simp only [laws_FnExactMixTwo.j0]
    simp (disch := omega) only [eq_self, hT, hE, hs, hi, Option.bind_some, bne_self_eq_false, if_true, if_false, Bool.false_eq_true, Bool.true_eq_false, hMl, hEr, hMr, hHr, if_neg hn1, if_neg hn2]
    simp only [laws_FnExactMixTwo.j1]
    simp (disch := omega) only [eq_self, hT, hE, hs, hi, Option.bind_some, bne_self_eq_false, if_true, if_false, Bool.false_eq_true, Bool.true_eq_false, hMl, hEr, hMr, hHr, if_neg hn1, if_neg hn2]
    simp only [laws_FnExactMixTwo.j2]
    simp (disch := omega) only [eq_self, hT, hE, hs, hi, Option.bind_some, bne_self_eq_false, if_true, if_false, Bool.false_eq_true, Bool.true_eq_false, hMl, hEr, hMr, hHr, if_neg hn1, if_neg hn2]
  · exact ⟨0, by unfold laws_FnExactMixTwo.f; rw [szCups_out u hl hm]; rfl⟩
end Go.Proofs.Ytidlipobpgfooaa.Pure
