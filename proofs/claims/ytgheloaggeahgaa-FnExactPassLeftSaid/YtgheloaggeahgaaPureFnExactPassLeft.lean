/- The statement FnExactPassLeft over numbers and lists alone, and what it is proved by.
Conditions: those of the statement. -/
import Derived.Test.YtgheloaggeahgaaPx1
import Derived.Test.YtgheloaggeahgaaPx3
import Derived.Test.YtgheloaggeahgaaPx5
import Derived.Test.YtgheloaggeahgaaPx6
import Derived.Test.YtgheloaggeahgaaPx9
import Derived.Test.YtgheloaggeahgaaPx13
import Derived.Test.YtgheloaggeahgaaPx30
import Derived.Test.YtgheloaggeahgaaPx40
namespace Go.Proofs.Ytgheloaggeahgaa.Pure
open Go.RowKit Go.Proofs.Ytgheloaggeahgaa.P Go.Proofs.YtgheloaggeahgaaW.PrintWords Go.Proofs.YtgheloaggeahgaaW.PrintLast
set_option linter.unusedSimpArgs false
set_option linter.unusedVariables false

theorem wrap_id {x : Int} (h0 : -9223372036854775808 ≤ x) (h1 : x ≤ 9223372036854775807) : wrap64 x = x := by
  unfold wrap64; omega
theorem wrap_succ {i : Nat} (h : i < 1152921504606846976) : wrap64 ((i : Int) + 1) = ((i + 1 : Nat) : Int) := by
  rw [wrap_id (by omega) (by omega)]; omega
theorem rd_lt {l : List Int} {i : Nat} (h : i < l.length) : rd l (i : Int) = l[i] := by
  simp [rd, List.getD_eq_getElem?_getD, List.getElem?_eq_getElem h]
theorem toIntS_l0 (l : List Int) (hl : l.length ≤ 1099511627776) (d : Nat) : ∀ (k : Nat) (out : List Int) (i : Nat), i + d = l.length → out.length = l.length → d < k →
    laws_toIntS.l0 k l out i = some (out.take i ++ l.drop i) := by
  induction d with
  | zero =>
    intro k out i hi ho hk
    obtain ⟨k, rfl⟩ : ∃ m, k = m + 1 := ⟨k - 1, by omega⟩
    simp only [laws_toIntS.l0]
    rw [if_neg (by omega), List.take_of_length_le (by omega), List.drop_of_length_le (by omega), List.append_nil]
  | succ d ih =>
    intro k out i hi ho hk
    obtain ⟨k, rfl⟩ : ∃ m, k = m + 1 := ⟨k - 1, by omega⟩
    simp only [laws_toIntS.l0]
    rw [if_pos (by omega), if_pos (by omega), if_pos (by omega), wrap_succ (by omega), ih k _ (i + 1) (by omega) (by simpa using ho) (by omega)]
    congr 1
    rw [Int.toNat_natCast, rd_lt (by omega), List.drop_eq_getElem_cons (show i < l.length by omega), List.take_succ_eq_append_getElem (by simp; omega)]
    simp [List.take_set_of_le, List.getElem_set]
theorem toIntS_at {l : List Int} (hl : l.length ≤ 1099511627776) {k : Nat} (hk : l.length < k) : laws_toIntS.f k l = some l := by
  unfold laws_toIntS.f
  rw [if_pos (by omega), if_pos (by omega)]
  have := toIntS_l0 l hl l.length k (List.replicate l.length 0) 0 (by omega) (by simp) hk
  simpa using this
theorem eqIntS_l0 (l : List Int) (hl : l.length ≤ 1099511627776) (d : Nat) : ∀ (k : Nat) (i : Nat), i + d = l.length → d < k → laws_eqIntS.l0 k l l i = some true := by
  induction d with
  | zero =>
    intro k i hi hk
    obtain ⟨k, rfl⟩ : ∃ m, k = m + 1 := ⟨k - 1, by omega⟩
    simp only [laws_eqIntS.l0]
    rw [if_neg (by omega)]
  | succ d ih =>
    intro k i hi hk
    obtain ⟨k, rfl⟩ : ∃ m, k = m + 1 := ⟨k - 1, by omega⟩
    simp only [laws_eqIntS.l0]
    rw [if_pos (by omega), if_pos (by omega), if_pos (by omega), if_pos trivial, wrap_succ (by omega)]
    exact ih k (i + 1) (by omega) (by omega)
theorem eqIntS_at {l : List Int} (hl : l.length ≤ 1099511627776) {k : Nat} (hk : l.length < k) : laws_eqIntS.f k l l = some true := by
  unfold laws_eqIntS.f
  rw [if_pos rfl]
  exact eqIntS_l0 l hl l.length k 0 (by omega) hk
/-- The numbers from m on. -/
def marks (m : Int) (n : Nat) : List Int := (List.range n).map fun (i : Nat) => m + (i : Int)
theorem marks_len (m : Int) (n : Nat) : (marks m n).length = n := by simp [marks]
theorem marks_get (m : Int) (n i : Nat) (h : i < (marks m n).length) : (marks m n)[i] = m + (i : Int) := by simp [marks]
theorem markIntS_l0 (m : Int) (n : Nat) (hm : 0 ≤ m) (hm2 : m ≤ 1099511627776) (hn : n ≤ 1099511627776) (d : Nat) : ∀ (k : Nat) (l : List Int) (i : Nat), i + d = n → l.length = n → d < k →
    laws_markIntS.l0 k l (m + (i : Int)) (i : Int) = some (m + n, l.take i ++ (marks m n).drop i) := by
  induction d with
  | zero =>
    intro k l i hi hl hk
    obtain ⟨k, rfl⟩ : ∃ m, k = m + 1 := ⟨k - 1, by omega⟩
    simp only [laws_markIntS.l0]
    rw [if_neg (by omega), List.take_of_length_le (by omega), List.drop_of_length_le (by rw [marks_len]; omega), List.append_nil]
    congr 3; omega
  | succ d ih =>
    intro k l i hi hl hk
    obtain ⟨k, rfl⟩ : ∃ m, k = m + 1 := ⟨k - 1, by omega⟩
    simp only [laws_markIntS.l0]
    rw [if_pos (by omega), if_pos (by omega), wrap_succ (by omega), wrap_id (by omega) (by omega)]
    rw [show m + (i : Int) + 1 = m + ((i + 1 : Nat) : Int) by omega, ih k _ (i + 1) (by omega) (by simpa using hl) (by omega)]
    congr 2
    rw [Int.toNat_natCast, List.drop_eq_getElem_cons (show i < (marks m n).length by rw [marks_len]; omega), marks_get, List.take_succ_eq_append_getElem (by simp; omega)]
    simp [List.take_set_of_le]
theorem markIntS_at {m : Int} {l : List Int} (hm : 0 ≤ m) (hm2 : m ≤ 1099511627776) (hl : l.length ≤ 1099511627776) {k : Nat} (hk : l.length < k) : laws_markIntS.f k l m = some (m + l.length, marks m l.length) := by
  unfold laws_markIntS.f
  have := markIntS_l0 m l.length hm hm2 hl l.length k l 0 (by omega) rfl hk
  simpa using this
theorem heldIntS_l0 (m : Int) (n : Nat) (hm : 0 ≤ m) (hm2 : m ≤ 1099511627776) (hn : n ≤ 1099511627776) (d : Nat) : ∀ (k : Nat) (i : Nat), i + d = n → d < k →
    laws_heldIntS.l0 k (marks m n) (m + (i : Int)) (i : Int) = some (m + n) := by
  induction d with
  | zero =>
    intro k i hi hk
    obtain ⟨k, rfl⟩ : ∃ m, k = m + 1 := ⟨k - 1, by omega⟩
    simp only [laws_heldIntS.l0]
    rw [marks_len, if_neg (by omega)]
    congr 2; omega
  | succ d ih =>
    intro k i hi hk
    obtain ⟨k, rfl⟩ : ∃ m, k = m + 1 := ⟨k - 1, by omega⟩
    simp only [laws_heldIntS.l0]
    rw [marks_len, if_pos (by omega), if_pos (by omega), rd_lt (by rw [marks_len]; omega), marks_get, if_pos rfl, wrap_succ (by omega), wrap_id (by omega) (by omega)]
    rw [show m + (i : Int) + 1 = m + ((i + 1 : Nat) : Int) by omega, ih k (i + 1) (by omega) (by omega)]
theorem heldIntS_at {m : Int} {n : Nat} (hm : 0 ≤ m) (hm2 : m ≤ 1099511627776) (hn : n ≤ 1099511627776) {k : Nat} (hk : n < k) : laws_heldIntS.f k (marks m n) m = some (m + n) := by
  unfold laws_heldIntS.f
  have := heldIntS_l0 m n hm hm2 hn n k 0 (by omega) hk
  simpa using this
/-- The number at a place, 0 beyond the list. -/
def g (l : List Int) (i : Nat) : Int := l.getD i 0
theorem g_lt {l : List Int} {i : Nat} (h : i < l.length) : g l i = l[i] := by
  simp [g, List.getD_eq_getElem?_getD, List.getElem?_eq_getElem h]
theorem g_mem {l : List Int} {i : Nat} (h : i < l.length) : g l i ∈ l := by
  rw [g_lt h]; exact List.getElem_mem h
theorem ext_g {a b : List Int} (h : a.length = b.length) (hg : ∀ i, i < a.length → g a i = g b i) : a = b := by
  apply List.ext_getElem h
  intro i h1 h2
  have := hg i h1
  rwa [g_lt h1, g_lt h2] at this
theorem g_range (n : Nat) (f : Nat → Int) (j : Nat) (hj : j < n) : g ((List.range n).map f) j = f j := by
  rw [g_lt (by simpa using hj)]; simp
theorem g_map (l : List Int) (f : Int → Int) (j : Nat) (hj : j < l.length) : g (l.map f) j = f (g l j) := by
  rw [g_lt (by simpa using hj), g_lt hj]; simp
theorem rd_g (l : List Int) (i : Nat) : rd l (i : Int) = g l i := by simp [rd, g]
theorem within_eq (a b c : Int) : impl_within.f a b c = some (inB b c a) := by
  unfold impl_within.f inB
  by_cases h : a ≥ b <;> simp [h] <;> omega
theorem l1In_eq (a b c : Int) : spec_l1In.f a b c = some (inB b c a) := by
  unfold spec_l1In.f inB
  by_cases h : a ≥ b <;> simp [h] <;> omega
theorem l1All_l0 (p q : Int) (l : List Int) (hl : l.length ≤ 1099511627776) (d : Nat) : ∀ (k : Nat) (i : Nat), i + d = l.length → d < k →
    spec_l1All.l0 k p q l (l.length : Int) (i : Int) = some ((l.drop i).all (inB p q)) := by
  induction d with
  | zero =>
    intro k i hi hk
    obtain ⟨k, rfl⟩ : ∃ m, k = m + 1 := ⟨k - 1, by omega⟩
    simp only [spec_l1All.l0]
    rw [if_neg (by omega), List.drop_of_length_le (by omega)]; rfl
  | succ d ih =>
    intro k i hi hk
    obtain ⟨k, rfl⟩ : ∃ m, k = m + 1 := ⟨k - 1, by omega⟩
    simp only [spec_l1All.l0]
    rw [if_pos (by omega), if_pos (by omega), if_pos (by omega), l1In_eq, rd_lt (by omega), List.drop_eq_getElem_cons (show i < l.length by omega), List.all_cons]
    simp only [Option.bind_some]
    by_cases h : inB p q l[i] = true
    · rw [if_pos h, h, wrap_succ (by omega), ih k (i + 1) (by omega) (by omega)]; rfl
    · rw [if_neg h, Bool.eq_false_iff.2 h]; rfl
theorem l1All_at (p q : Int) {l : List Int} (hl : l.length ≤ 1099511627776) {k : Nat} (hk : l.length < k) : spec_l1All.f k l p q = some (l.all (inB p q)) := by
  unfold spec_l1All.f
  have := l1All_l0 p q l hl l.length k 0 (by omega) hk
  simpa using this
theorem take_snoc (l : List Int) (i : Nat) (h : i < l.length) : l.take (i + 1) = l.take i ++ [g l i] := by
  rw [List.take_succ_eq_append_getElem h, g_lt h]
/-- A number made even. -/
def evn (x : Int) : Int := x + x % 2
theorem evn_b {x : Int} (h : 0 ≤ x ∧ x ≤ 200) : 0 ≤ evn x ∧ evn x ≤ 200 := by unfold evn; omega
def evens (l : List Int) : List Int := l.map evn
theorem len_evens (l : List Int) : (evens l).length = l.length := by simp [evens]
theorem g_evens {l : List Int} {j : Nat} (h : j < l.length) : g (evens l) j = evn (g l j) := g_map l evn j h
/-- Halves passed on: place i has the half of its own and the half of place p i's. -/
def halve (e : List Int) (p : Nat → Nat) : List Int := (List.range e.length).map fun i => g e i / 2 + g e (p i) / 2
theorem len_halve (e : List Int) (p : Nat → Nat) : (halve e p).length = e.length := by simp [halve]
theorem g_halve {e : List Int} (p : Nat → Nat) {j : Nat} (h : j < e.length) : g (halve e p) j = g e j / 2 + g e (p j) / 2 := by
  unfold halve; rw [g_range _ _ _ h]
/-- The place before place i, in a circle of n. -/
def befo (n i : Nat) : Nat := if i = 0 then n - 1 else i - 1
theorem befo_lt {n i : Nat} (h : i < n) : befo n i < n := by unfold befo; split <;> omega
/-- The place behind place i, in a circle of n. -/
def behi (n i : Nat) : Nat := if i + 1 = n then 0 else i + 1
theorem behi_lt {n i : Nat} (h : i < n) : behi n i < n := by unfold behi; split <;> omega
/-- A step. -/
def cstep (l : List Int) : List Int := halve (evens l) (befo l.length)
theorem len_cstep (l : List Int) : (cstep l).length = l.length := by unfold cstep; rw [len_halve, len_evens]
theorem g_cstep {l : List Int} {j : Nat} (h : j < l.length) : g (cstep l) j = evn (g l j) / 2 + evn (g l (befo l.length j)) / 2 := by
  unfold cstep
  rw [g_halve _ (by rw [len_evens]; exact h), g_evens h, g_evens (befo_lt h)]
/-- Valid candies. -/
structure Nice (l : List Int) : Prop where
  lo : 2 ≤ l.length
  hi : l.length ≤ 12
  b : ∀ j, j < l.length → 0 ≤ g l j ∧ g l j ≤ 200
theorem Nice.evens {l : List Int} (h : Nice l) : Nice (evens l) :=
  ⟨by rw [len_evens]; exact h.lo, by rw [len_evens]; exact h.hi, fun j hj => by rw [len_evens] at hj; rw [g_evens hj]; exact evn_b (h.b j hj)⟩
theorem Nice.halve {e : List Int} (h : Nice e) {p : Nat → Nat} (hp : ∀ j, j < e.length → p j < e.length) : Nice (halve e p) :=
  ⟨by rw [len_halve]; exact h.lo, by rw [len_halve]; exact h.hi, fun j hj => by
    rw [len_halve] at hj; rw [g_halve p hj]
    have h1 := h.b j hj; have h2 := h.b _ (hp j hj); omega⟩
theorem Nice.step {l : List Int} (h : Nice l) : Nice (cstep l) :=
  h.evens.halve fun j hj => by rw [len_evens] at hj ⊢; exact befo_lt hj
def half (l : List Int) (i : Nat) : Int := evn (g l i) / 2
theorem tmod2 {x : Int} (h : 0 ≤ x) : Int.tmod x 2 = x % 2 := Int.tmod_eq_emod_of_nonneg h
theorem tdiv2 {x : Int} (h : 0 ≤ x) : Int.tdiv x 2 = x / 2 := Int.tdiv_eq_ediv_of_nonneg h
theorem madeEven_l0 {l : List Int} (h : Nice l) (d : Nat) : ∀ (k i : Nat), i + d = l.length → d < k → impl_madeEven.l0 k ((evens l).take i) l (l.length : Int) (i : Int) = some (evens l) := by
  induction d with
  | zero =>
    intro k i hi hk
    obtain ⟨k, rfl⟩ : ∃ m, k = m + 1 := ⟨k - 1, by omega⟩
    have := h.hi
    simp only [impl_madeEven.l0]
    rw [if_neg (by omega), List.take_of_length_le (by rw [len_evens]; omega)]
  | succ d ih =>
    intro k i hi hk
    obtain ⟨k, rfl⟩ : ∃ m, k = m + 1 := ⟨k - 1, by omega⟩
    have h1 := h.hi; have h2 := h.b i (by omega)
    simp only [impl_madeEven.l0]
    rw [if_pos (by omega), if_pos (by omega), if_pos (by omega), if_pos (by rw [List.length_take, len_evens]; omega), rd_g, tmod2 h2.1, wrap_id (by omega) (by omega), wrap_succ (by omega)]
    have := ih k (i + 1) (by omega) (by omega)
    rw [take_snoc _ _ (by rw [len_evens]; omega), g_evens (by omega)] at this
    exact this
theorem madeEven_at {l : List Int} (h : Nice l) {k : Nat} (hk : l.length < k) : impl_madeEven.f k l = some (evens l) := by
  unfold impl_madeEven.f
  exact madeEven_l0 h l.length k 0 (by omega) hk
theorem cyEven_l0 {l : List Int} (h : Nice l) (d : Nat) : ∀ (k i : Nat), i + d = l.length → d < k → spec_cyEven.l0 k ((evens l).take i) l (l.length : Int) (i : Int) = some (evens l) := by
  induction d with
  | zero =>
    intro k i hi hk
    obtain ⟨k, rfl⟩ : ∃ m, k = m + 1 := ⟨k - 1, by omega⟩
    have := h.hi
    simp only [spec_cyEven.l0]
    rw [if_neg (by omega), List.take_of_length_le (by rw [len_evens]; omega)]
  | succ d ih =>
    intro k i hi hk
    obtain ⟨k, rfl⟩ : ∃ m, k = m + 1 := ⟨k - 1, by omega⟩
    have h1 := h.hi; have h2 := h.b i (by omega)
    simp only [spec_cyEven.l0]
    rw [if_pos (by omega), if_pos (by omega), if_pos (by omega), if_pos (by rw [List.length_take, len_evens]; omega), rd_g, tmod2 h2.1, wrap_id (by omega) (by omega), wrap_succ (by omega)]
    have := ih k (i + 1) (by omega) (by omega)
    rw [take_snoc _ _ (by rw [len_evens]; omega), g_evens (by omega)] at this
    exact this
theorem cyEven_at {l : List Int} (h : Nice l) {k : Nat} (hk : l.length < k) : spec_cyEven.f k l = some (evens l) := by
  unfold spec_cyEven.f
  exact cyEven_l0 h l.length k 0 (by omega) hk
theorem passed_l0 {e : List Int} (h : Nice e) (by_ : Int) {p : Nat → Nat} (hp : ∀ j, j < e.length → p j < e.length ∧ Int.tmod (wrap64 ((wrap64 ((j : Int) - by_)) + (e.length : Int))) (e.length : Int) = (p j : Int)) (d : Nat) :
    ∀ (k i : Nat), i + d = e.length → d < k → impl_passed.l0 k e by_ ((halve e p).take i) e (e.length : Int) (i : Int) = some (halve e p) := by
  induction d with
  | zero =>
    intro k i hi hk
    obtain ⟨k, rfl⟩ : ∃ m, k = m + 1 := ⟨k - 1, by omega⟩
    have := h.hi
    simp only [impl_passed.l0]
    rw [if_neg (by omega), List.take_of_length_le (by rw [len_halve]; omega)]
  | succ d ih =>
    intro k i hi hk
    obtain ⟨k, rfl⟩ : ∃ m, k = m + 1 := ⟨k - 1, by omega⟩
    have h1 := h.hi; have h2 := h.b i (by omega); obtain ⟨h3, h4⟩ := hp i (by omega); have h5 := h.b _ h3
    simp only [impl_passed.l0]
    rw [h4, if_pos (by omega), if_pos (by omega), if_pos (by omega), if_neg (by omega), if_pos (by omega), if_pos (by omega), if_pos (by rw [List.length_take, len_halve]; omega), rd_g, rd_g, tdiv2 h2.1, tdiv2 h5.1, wrap_id (x := g e i / 2) (by omega) (by omega), wrap_id (x := g e (p i) / 2) (by omega) (by omega), wrap_id (by omega) (by omega), wrap_succ (by omega)]
    have := ih k (i + 1) (by omega) (by omega)
    rw [take_snoc _ _ (by rw [len_halve]; omega), g_halve p (by omega)] at this
    exact this
theorem befo_mod {n i : Nat} (h : i < n) (hn : n ≤ 12) : Int.tmod (wrap64 ((wrap64 ((i : Int) - 1)) + (n : Int))) (n : Int) = (befo n i : Int) := by
  rw [wrap_id (x := (i : Int) - 1) (by omega) (by omega), wrap_id (by omega) (by omega), Int.tmod_eq_emod_of_nonneg (by omega)]
  unfold befo
  split
  · rw [Int.emod_eq_of_lt (by omega) (by omega)]; omega
  · rw [Int.add_emod_right, Int.emod_eq_of_lt (by omega) (by omega)]; omega
theorem befo_mod' {n i : Nat} (h : i < n) (hn : n ≤ 12) : Int.tmod (wrap64 ((wrap64 ((i : Int) + (n : Int))) - 1)) (n : Int) = (befo n i : Int) := by
  have e := befo_mod h hn
  rw [wrap_id (x := (i : Int) - 1) (by omega) (by omega), wrap_id (by omega) (by omega)] at e
  rw [wrap_id (x := (i : Int) + n) (by omega) (by omega), wrap_id (by omega) (by omega), show (i : Int) + n - 1 = i - 1 + n by omega, e]
theorem behi_mod {n i : Nat} (h : i < n) (hn : n ≤ 12) : Int.tmod (wrap64 ((wrap64 ((i : Int) - (-1))) + (n : Int))) (n : Int) = (behi n i : Int) := by
  rw [wrap_id (x := (i : Int) - (-1)) (by omega) (by omega), wrap_id (by omega) (by omega), Int.tmod_eq_emod_of_nonneg (by omega), Int.add_emod_right]
  unfold behi
  split
  · rw [show (i : Int) - (-1) = n by omega, Int.emod_self]; rfl
  · rw [Int.emod_eq_of_lt (by omega) (by omega)]; omega
theorem cyPass_l0 {e : List Int} (h : Nice e) {n : Nat} (hn : e.length = n) (d : Nat) :
    ∀ (k i : Nat), i + d = e.length → d < k → spec_cyPass.l0 k e ((halve e (befo n)).take i) e (e.length : Int) (i : Int) = some (halve e (befo n)) := by
  induction d with
  | zero =>
    intro k i hi hk
    obtain ⟨k, rfl⟩ : ∃ m, k = m + 1 := ⟨k - 1, by omega⟩
    have := h.hi
    simp only [spec_cyPass.l0]
    rw [if_neg (by omega), List.take_of_length_le (by rw [len_halve]; omega)]
  | succ d ih =>
    intro k i hi hk
    obtain ⟨k, rfl⟩ : ∃ m, k = m + 1 := ⟨k - 1, by omega⟩
    have h1 := h.hi; have h2 := h.b i (by omega); have h3 := befo_lt (show i < n by omega); have h4 := befo_mod' (show i < n by omega) (by omega); have h5 := h.b _ (by rw [hn]; exact h3)
    rw [← hn] at h4 h3 h5
    simp only [spec_cyPass.l0]
    rw [h4, if_pos (by omega), if_pos (by omega), if_pos (by omega), if_neg (by omega), if_pos (by omega), if_pos (by omega), if_pos (by rw [List.length_take, len_halve]; omega), rd_g, rd_g, tdiv2 h2.1, tdiv2 h5.1, wrap_id (x := g e i / 2) (by omega) (by omega), wrap_id (x := g e (befo e.length i) / 2) (by omega) (by omega), wrap_id (by omega) (by omega), wrap_succ (by omega)]
    have := ih k (i + 1) (by omega) (by omega)
    rw [take_snoc _ _ (by rw [len_halve]; omega), g_halve _ (by omega), ← hn] at this
    rw [← hn]
    exact this
theorem cyStep_at {l : List Int} (h : Nice l) {k : Nat} (hk : l.length < k) : spec_cyStep.f k l = some (cstep l) := by
  unfold spec_cyStep.f
  rw [cyEven_at h hk, Option.bind_some]
  have e : spec_cyPass.f k (evens l) = some (cstep l) := by
    unfold spec_cyPass.f cstep
    have := cyPass_l0 h.evens (len_evens l) l.length k 0 (by rw [len_evens]; omega) hk
    simpa using this
  rw [e]; rfl
/-- Valid candies, as a Bool. -/
def cgood (l : List Int) : Bool := decide (2 ≤ l.length) && decide (l.length ≤ 12) && l.all (inB 0 200)
theorem cgood_nice {l : List Int} (h : cgood l = true) : Nice l := by
  simp only [cgood, Bool.and_eq_true, decide_eq_true_eq, List.all_eq_true] at h
  refine ⟨h.1.1, h.1.2, fun j hj => ?_⟩
  have := h.2 _ (g_mem hj)
  simp only [inB, Bool.and_eq_true, decide_eq_true_eq] at this; exact this
theorem impl_AreCandies_eq (l : List Int) : impl_AreCandies.f l = some (cgood l) := by
  unfold impl_AreCandies.f impl_areIn.f
  rw [within_eq]
  simp only [Option.bind_some]
  by_cases h : inB 2 12 (l.length : Int) = true
  · rw [if_pos h]
    simp only [inB, Bool.and_eq_true, decide_eq_true_eq] at h
    congr 1; unfold cgood
    rw [decide_eq_true (by omega : 2 ≤ l.length), decide_eq_true (by omega : l.length ≤ 12)]; rfl
  · rw [if_neg h]
    congr 1; unfold cgood
    simp only [inB, Bool.and_eq_true, decide_eq_true_eq] at h
    by_cases a : 2 ≤ l.length
    · rw [decide_eq_false (by omega : ¬ l.length ≤ 12)]; simp
    · rw [decide_eq_false a]; simp
theorem cyGood_at {l : List Int} (hl : l.length ≤ 1099511627776) {k : Nat} (hk : l.length < k) : spec_cyGood.f k l = some (cgood l) := by
  unfold spec_cyGood.f
  rw [l1In_eq]
  simp only [Option.bind_some]
  have e := impl_AreCandies_eq l
  unfold impl_AreCandies.f impl_areIn.f at e
  rw [within_eq] at e
  simp only [Option.bind_some] at e
  rw [← e, l1All_at _ _ hl hk]
  rfl
/-- The numbers in the other order. -/
def cmir (l : List Int) : List Int := (List.range l.length).map fun i => g l (l.length - 1 - i)
theorem len_cmir (l : List Int) : (cmir l).length = l.length := by simp [cmir]
theorem g_cmir {l : List Int} {j : Nat} (h : j < l.length) : g (cmir l) j = g l (l.length - 1 - j) := by unfold cmir; rw [g_range _ _ _ h]
theorem Nice.mir {l : List Int} (h : Nice l) : Nice (cmir l) :=
  ⟨by rw [len_cmir]; exact h.lo, by rw [len_cmir]; exact h.hi, fun j hj => by rw [len_cmir] at hj; rw [g_cmir hj]; exact h.b _ (by omega)⟩
theorem cyMirror_l0 {l : List Int} (hL : l.length ≤ 1099511627776) (d : Nat) : ∀ (k : Nat), d ≤ l.length → d < k → spec_cyMirror.l0 k l ((cmir l).take (l.length - d)) ((d : Int) - 1) = some (cmir l) := by
  induction d with
  | zero =>
    intro k hd hk
    obtain ⟨k, rfl⟩ : ∃ m, k = m + 1 := ⟨k - 1, by omega⟩
    simp only [spec_cyMirror.l0]
    rw [if_neg (by omega), List.take_of_length_le (by rw [len_cmir]; omega)]
  | succ d ih =>
    intro k hd hk
    obtain ⟨k, rfl⟩ : ∃ m, k = m + 1 := ⟨k - 1, by omega⟩
    have e := ih k (by omega) (by omega)
    rw [show l.length - d = l.length - (d + 1) + 1 by omega, take_snoc _ _ (by rw [len_cmir]; omega), g_cmir (by omega), show l.length - 1 - (l.length - (d + 1)) = d by omega] at e
    rw [show ((d + 1 : Nat) : Int) - 1 = (d : Int) by omega]
    simp only [spec_cyMirror.l0]
    rw [if_pos (by omega), if_pos (by omega), if_pos (by omega), if_pos (by rw [List.length_take, len_cmir]; omega), rd_g, wrap_id (by omega) (by omega)]
    exact e
theorem cyMirror_at {l : List Int} (hL : l.length ≤ 1099511627776) {k : Nat} (hk : l.length < k) : spec_cyMirror.f k l = some (cmir l) := by
  unfold spec_cyMirror.f
  rw [wrap_id (by omega) (by omega)]
  have := cyMirror_l0 hL l.length k (by omega) hk
  simpa using this
theorem cmir_step {l : List Int} (h : 1 ≤ l.length) : cmir (cstep (cmir l)) = halve (evens l) (behi l.length) := by
  apply ext_g (by rw [len_cmir, len_cstep, len_cmir, len_halve, len_evens])
  intro j hj
  rw [len_cmir, len_cstep, len_cmir] at hj
  have hb : befo l.length (l.length - 1 - j) < l.length := befo_lt (by omega)
  rw [g_cmir (by rw [len_cstep, len_cmir]; exact hj), len_cstep, len_cmir, g_cstep (by rw [len_cmir]; omega), len_cmir, g_cmir (by omega), g_cmir hb, g_halve _ (by rw [len_evens]; exact hj), g_evens hj, g_evens (behi_lt hj)]
  have e1 : l.length - 1 - (l.length - 1 - j) = j := by omega
  have e2 : l.length - 1 - befo l.length (l.length - 1 - j) = behi l.length j := by
    unfold befo behi; split <;> split <;> omega
  rw [e1, e2]
theorem PassLeft_both {l : List Int} (hL : l.length ≤ 1099511627776) : ∃ (K : Nat) (r : List Int × Bool), r.1.length ≤ 1099511627776 ∧ (∀ k, K ≤ k → spec_PassLeft.f k l = some r) ∧ (∀ k, K ≤ k → impl_PassLeft.f k l = some r) := by
  cases h : cgood l with
  | false =>
    refine ⟨l.length + 2, ([], false), by simp, fun k hk => ?_, fun k hk => ?_⟩
    · unfold spec_PassLeft.f; rw [cyGood_at hL (by omega), h]; rfl
    · unfold impl_PassLeft.f; rw [impl_AreCandies_eq, h]; rfl
  | true =>
    have hn := cgood_nice h
    have h1 := hn.lo
    refine ⟨l.length + 2, (halve (evens l) (behi l.length), true), by rw [len_halve, len_evens]; exact hL, fun k hk => ?_, fun k hk => ?_⟩
    · unfold spec_PassLeft.f
      rw [cyGood_at hL (by omega), h, Option.bind_some, if_pos rfl, cyMirror_at hL (by omega), Option.bind_some, cyStep_at hn.mir (by rw [len_cmir]; omega), Option.bind_some, cyMirror_at (by rw [len_cstep, len_cmir]; exact hL) (by rw [len_cstep, len_cmir]; omega), Option.bind_some, cmir_step (by omega)]
    · unfold impl_PassLeft.f
      rw [impl_AreCandies_eq, h, Option.bind_some, if_pos rfl, madeEven_at hn (by omega), Option.bind_some]
      have e : impl_passed.f k (evens l) (-1) = some (halve (evens l) (behi l.length)) := by
        unfold impl_passed.f
        have := passed_l0 hn.evens (-1) (p := behi l.length) (fun j hj => by rw [len_evens] at hj ⊢; exact ⟨behi_lt hj, behi_mod hj hn.hi⟩) l.length k 0 (by rw [len_evens]; omega) (by omega)
        simpa using this
      rw [e]; rfl
theorem FnExactPassLeft : laws_FnExactPassLeft.Pure := by
  intro l0 _ _ _
  unfold laws_FnExactPassLeft.f
  by_cases hl0 : (l0.length : Int) > 1048576
  · exact ⟨0, by rw [if_pos hl0]⟩
  · have h0l0 : l0.length ≤ 1099511627776 := by omega
    obtain ⟨K, r, hr, hs, hi⟩ := PassLeft_both h0l0
    have hTl0 : ∀ k, l0.length < k → laws_toIntS.f k l0 = some l0 := fun k hk => toIntS_at h0l0 hk
    have hEl0 : ∀ k, l0.length < k → laws_eqIntS.f k l0 l0 = some true := fun k hk => eqIntS_at h0l0 hk
    have hEr : ∀ k, r.1.length < k → laws_eqIntS.f k r.1 r.1 = some true := fun k hk => eqIntS_at hr hk
    have hMl0 : ∀ k, l0.length < k → laws_markIntS.f k l0 ((1 : Int)) = some ((1 : Int) + (l0.length : Int), marks ((1 : Int)) l0.length) := fun k hk => markIntS_at (by omega) (by omega) h0l0 hk
    have hMr : ∀ k, r.1.length < k → laws_markIntS.f k r.1 1 = some ((1 : Int) + (r.1.length : Int), marks 1 r.1.length) := fun k hk => markIntS_at (by omega) (by omega) hr hk
    have hHr : ∀ k, r.1.length < k → laws_heldIntS.f k (marks 1 r.1.length) 1 = some ((1 : Int) + (r.1.length : Int)) := fun k hk => heldIntS_at (by omega) (by omega) hr hk
    have hn1 : ¬ ((1 : Int) + (l0.length : Int) < 0) := by omega
    have hn2 : ¬ ((1 : Int) + (r.1.length : Int) < 0) := by omega
    refine ⟨K + l0.length + r.1.length + 8, ?_⟩
    rw [if_neg hl0]
    simp (disch := omega) only [eq_self, hTl0, hEl0, hs, hi, Option.bind_some, bne_self_eq_false, if_true, if_false, Bool.false_eq_true, Bool.true_eq_false, hMl0, hEr, hMr, hHr, if_neg hn1, if_neg hn2]
    simp only [laws_FnExactPassLeft.j0]
    simp (disch := omega) only [eq_self, hTl0, hEl0, hs, hi, Option.bind_some, bne_self_eq_false, if_true, if_false, Bool.false_eq_true, Bool.true_eq_false, hMl0, hEr, hMr, hHr, if_neg hn1, if_neg hn2]
    simp only [laws_FnExactPassLeft.j1]
    simp (disch := omega) only [eq_self, hTl0, hEl0, hs, hi, Option.bind_some, bne_self_eq_false, if_true, if_false, Bool.false_eq_true, Bool.true_eq_false, hMl0, hEr, hMr, hHr, if_neg hn1, if_neg hn2]
    simp only [laws_FnExactPassLeft.j2]
    simp (disch := omega) only [eq_self, hTl0, hEl0, hs, hi, Option.bind_some, bne_self_eq_false, if_true, if_false, Bool.false_eq_true, Bool.true_eq_false, hMl0, hEr, hMr, hHr, if_neg hn1, if_neg hn2]
end Go.Proofs.Ytgheloaggeahgaa.Pure
