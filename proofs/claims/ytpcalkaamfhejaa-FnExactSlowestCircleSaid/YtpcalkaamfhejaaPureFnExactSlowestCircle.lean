/- The statement FnExactSlowestCircle over numbers and lists alone, and what it is proved by.
Conditions: those of the statement. -/
import Derived.Test.YtpcalkaamfhejaaPx0
import Derived.Test.YtpcalkaamfhejaaPx1
import Derived.Test.YtpcalkaamfhejaaPx2
import Derived.Test.YtpcalkaamfhejaaPx3
import Derived.Test.YtpcalkaamfhejaaPx4
import Derived.Test.YtpcalkaamfhejaaPx6
import Derived.Test.YtpcalkaamfhejaaPx7
import Derived.Test.YtpcalkaamfhejaaPx9
import Derived.Test.YtpcalkaamfhejaaPx12
import Derived.Test.YtpcalkaamfhejaaPx22
namespace Go.Proofs.Ytpcalkaamfhejaa.Pure
open Go.RowKit Go.Proofs.Ytpcalkaamfhejaa.P Go.Proofs.YtpcalkaamfhejaaW.PrintWords Go.Proofs.YtpcalkaamfhejaaW.PrintLast
set_option linter.unusedSimpArgs false
set_option linter.unusedVariables false

theorem wrap_id {x : Int} (h0 : -9223372036854775808 ≤ x) (h1 : x ≤ 9223372036854775807) : wrap64 x = x := by
 unfold wrap64;omega
theorem wrap_succ {i : Nat} (h : i < 1152921504606846976) : wrap64 ((i : Int) + 1) = ((i + 1 : Nat) : Int) := by
 rw [wrap_id (by omega) (by omega)];omega
theorem rd_lt {l : List Int} {i : Nat} (h : i < l.length) : rd l (i : Int) = l[i] := by
 simp [rd,List.getD_eq_getElem?_getD,List.getElem?_eq_getElem h]
theorem eqIntS_l0 (l : List Int) (hl : l.length ≤ 1099511627776) (d : Nat) : ∀ (k : Nat) (i : Nat),i + d = l.length → d < k → laws_eqIntS.l0 k l l i = some true := by
 induction d with
 | zero =>
  intro k i hi hk
  obtain ⟨k,rfl⟩ : ∃ m,k = m + 1 := ⟨k - 1,by omega⟩
  simp only [laws_eqIntS.l0]
  rw [if_neg (by omega)]
 | succ d ih =>
  intro k i hi hk
  obtain ⟨k,rfl⟩ : ∃ m,k = m + 1 := ⟨k - 1,by omega⟩
  simp only [laws_eqIntS.l0]
  rw [if_pos (by omega),if_pos (by omega),if_pos (by omega),if_pos trivial,wrap_succ (by omega)]
  exact ih k (i + 1) (by omega) (by omega)
theorem eqIntS_at {l : List Int} (hl : l.length ≤ 1099511627776) {k : Nat} (hk : l.length < k) : laws_eqIntS.f k l l = some true := by
 unfold laws_eqIntS.f
 rw [if_pos rfl]
 exact eqIntS_l0 l hl l.length k 0 (by omega) hk
/-- The numbers from m on. -/
def marks (m : Int) (n : Nat) : List Int := (List.range n).map fun (i : Nat) => m + (i : Int)
theorem marks_len (m : Int) (n : Nat) : (marks m n).length = n := by simp [marks]
theorem marks_get (m : Int) (n i : Nat) (h : i < (marks m n).length) : (marks m n)[i] = m + (i : Int) := by simp [marks]
theorem markIntS_l0 (m : Int) (n : Nat) (hm : 0 ≤ m) (hm2 : m ≤ 1099511627776) (hn : n ≤ 1099511627776) (d : Nat) : ∀ (k : Nat) (l : List Int) (i : Nat),i + d = n → l.length = n → d < k →
  laws_markIntS.l0 k l (m + (i : Int)) (i : Int) = some (m + n,l.take i ++ (marks m n).drop i) := by
 induction d with
 | zero =>
  intro k l i hi hl hk
  obtain ⟨k,rfl⟩ : ∃ m,k = m + 1 := ⟨k - 1,by omega⟩
  simp only [laws_markIntS.l0]
  rw [if_neg (by omega),List.take_of_length_le (by omega),List.drop_of_length_le (by rw [marks_len];omega),List.append_nil]
  congr 3;omega
 | succ d ih =>
  intro k l i hi hl hk
  obtain ⟨k,rfl⟩ : ∃ m,k = m + 1 := ⟨k - 1,by omega⟩
  simp only [laws_markIntS.l0]
  rw [if_pos (by omega),if_pos (by omega),wrap_succ (by omega),wrap_id (by omega) (by omega)]
  rw [show m + (i : Int) + 1 = m + ((i + 1 : Nat) : Int) by omega,ih k _ (i + 1) (by omega) (by simpa using hl) (by omega)]
  congr 2
  rw [Int.toNat_natCast,List.drop_eq_getElem_cons (show i < (marks m n).length by rw [marks_len];omega),marks_get,List.take_succ_eq_append_getElem (by simp;omega)]
  simp [List.take_set_of_le]
theorem markIntS_at {m : Int} {l : List Int} (hm : 0 ≤ m) (hm2 : m ≤ 1099511627776) (hl : l.length ≤ 1099511627776) {k : Nat} (hk : l.length < k) : laws_markIntS.f k l m = some (m + l.length,marks m l.length) := by
 unfold laws_markIntS.f
 have := markIntS_l0 m l.length hm hm2 hl l.length k l 0 (by omega) rfl hk
 simpa using this
theorem heldIntS_l0 (m : Int) (n : Nat) (hm : 0 ≤ m) (hm2 : m ≤ 1099511627776) (hn : n ≤ 1099511627776) (d : Nat) : ∀ (k : Nat) (i : Nat),i + d = n → d < k →
  laws_heldIntS.l0 k (marks m n) (m + (i : Int)) (i : Int) = some (m + n) := by
 induction d with
 | zero =>
  intro k i hi hk
  obtain ⟨k,rfl⟩ : ∃ m,k = m + 1 := ⟨k - 1,by omega⟩
  simp only [laws_heldIntS.l0]
  rw [marks_len,if_neg (by omega)]
  congr 2;omega
 | succ d ih =>
  intro k i hi hk
  obtain ⟨k,rfl⟩ : ∃ m,k = m + 1 := ⟨k - 1,by omega⟩
  simp only [laws_heldIntS.l0]
  rw [marks_len,if_pos (by omega),if_pos (by omega),rd_lt (by rw [marks_len];omega),marks_get,if_pos rfl,wrap_succ (by omega),wrap_id (by omega) (by omega)]
  rw [show m + (i : Int) + 1 = m + ((i + 1 : Nat) : Int) by omega,ih k (i + 1) (by omega) (by omega)]
theorem heldIntS_at {m : Int} {n : Nat} (hm : 0 ≤ m) (hm2 : m ≤ 1099511627776) (hn : n ≤ 1099511627776) {k : Nat} (hk : n < k) : laws_heldIntS.f k (marks m n) m = some (m + n) := by
 unfold laws_heldIntS.f
 have := heldIntS_l0 m n hm hm2 hn n k 0 (by omega) hk
 simpa using this
theorem rowAt (pre rest : List (List Int)) (r : List Int) : rd_L1 (pre ++ r :: rest) ((pre.length : Nat) : Int) = r := by
 simp [rd_L1,List.getD_eq_getElem?_getD]
/-- The number at a place,0 beyond the list. -/
def g (l : List Int) (i : Nat) : Int := l.getD i 0
theorem g_ge {l : List Int} {i : Nat} (h : l.length ≤ i) : g l i = 0 := by
 simp [g,List.getD_eq_getElem?_getD,List.getElem?_eq_none h]
theorem g_lt {l : List Int} {i : Nat} (h : i < l.length) : g l i = l[i] := by
 simp [g,List.getD_eq_getElem?_getD,List.getElem?_eq_getElem h]
theorem g_mem {l : List Int} {i : Nat} (h : i < l.length) : g l i ∈ l := by
 rw [g_lt h];exact List.getElem_mem h
theorem ext_g {a b : List Int} (h : a.length = b.length) (hg : ∀ i,i < a.length → g a i = g b i) : a = b := by
 apply List.ext_getElem h
 intro i h1 h2
 have := hg i h1
 rwa [g_lt h1,g_lt h2] at this
theorem g_set (l : List Int) (i : Nat) (v : Int) (j : Nat) : g (l.set i v) j = if i = j ∧ j < l.length then v else g l j := by
 by_cases hj : j < l.length
 ·rw [g_lt (by simpa using hj),g_lt hj,List.getElem_set]
  by_cases e : i = j <;> simp [e,hj]
 ·rw [g_ge (by simp;omega),g_ge (by omega),if_neg (by omega)]
theorem g_replicate (n : Nat) (v : Int) (j : Nat) : g (List.replicate n v) j = if j < n then v else 0 := by
 by_cases hj : j < n
 ·rw [g_lt (by simpa using hj)];simp [hj]
 ·rw [g_ge (by simp;omega),if_neg hj]
theorem g_range (n : Nat) (f : Nat → Int) (j : Nat) (hj : j < n) : g ((List.range n).map f) j = f j := by
 rw [g_lt (by simpa using hj)];simp
theorem g_map (l : List Int) (f : Int → Int) (j : Nat) (hj : j < l.length) : g (l.map f) j = f (g l j) := by
 rw [g_lt (by simpa using hj),g_lt hj];simp
def sumTo : Nat → (Nat → Int) → Int
 | 0,_ => 0
 | n + 1,f => sumTo n f + f n
theorem sumTo_congr {n : Nat} {f h : Nat → Int} (e : ∀ i,i < n → f i = h i) : sumTo n f = sumTo n h := by
 induction n with
 | zero => rfl
 | succ n ih => simp only [sumTo];rw [ih (fun i hi => e i (by omega)),e n (by omega)]
theorem sumTo_add (n : Nat) (f h : Nat → Int) : sumTo n (fun i => f i + h i) = sumTo n f + sumTo n h := by
 induction n with
 | zero => rfl
 | succ n ih => simp only [sumTo];rw [ih];omega
theorem sumTo_nonneg {n : Nat} {f : Nat → Int} (h : ∀ i,i < n → 0 ≤ f i) : 0 ≤ sumTo n f := by
 induction n with
 | zero => exact Int.le_refl _
 | succ n ih => simp only [sumTo];have := ih (fun i hi => h i (by omega));have := h n (by omega);omega
theorem sumTo_ge {n : Nat} {f : Nat → Int} (h : ∀ i,i < n → 0 ≤ f i) (i : Nat) (hi : i < n) : f i ≤ sumTo n f := by
 induction n with
 | zero => omega
 | succ n ih =>
  simp only [sumTo]
  have h0 := sumTo_nonneg (n := n) (fun i hi => h i (by omega))
  by_cases e : i = n
  ·subst e;omega
  ·have := ih (fun i hi => h i (by omega)) (by omega);have := h n (by omega);omega
theorem sumTo_le {n : Nat} {f : Nat → Int} {M : Int} (h : ∀ i,i < n → f i ≤ M) : sumTo n f ≤ n * M := by
 induction n with
 | zero => simp [sumTo]
 | succ n ih =>
  simp only [sumTo]
  have := ih (fun i hi => h i (by omega));have := h n (by omega)
  have e : ((n + 1 : Nat) : Int) * M = (n : Int) * M + M := by rw [Int.natCast_add,Int.add_mul];simp
  rw [e];omega
theorem rd_g (l : List Int) (i : Nat) : rd l (i : Int) = g l i := by simp [rd,g]
theorem inB_iff {p q x : Int} : inB p q x = true ↔ p ≤ x ∧ x ≤ q := by simp [inB]
theorem within_eq (a b c : Int) : impl_within.f a b c = some (inB b c a) := by
 unfold impl_within.f inB
 by_cases h : a ≥ b <;> simp [h] <;> omega
theorem l1In_eq (a b c : Int) : spec_l1In.f a b c = some (inB b c a) := by
 unfold spec_l1In.f inB
 by_cases h : a ≥ b <;> simp [h] <;> omega
theorem take_snoc (l : List Int) (i : Nat) (h : i < l.length) : l.take (i + 1) = l.take i ++ [g l i] := by
 rw [List.take_succ_eq_append_getElem h,g_lt h]
theorem l1Own_eq {l : List Int} (h : l.length ≤ 1099511627776) : spec_l1Own.f l = some l := by
 unfold spec_l1Own.f
 simp only [Option.bind_some,List.length_nil,List.nil_append]
 rw [if_pos (by omega)]
theorem Clone_eq {l : List Int} (h : l.length ≤ 1099511627776) : slices_Clone_int_int.f l = some l := by
 unfold slices_Clone_int_int.f
 rw [if_pos (by omega)]
/-- A number made even. -/
def evn (x : Int) : Int := x + x % 2
theorem evn_b {x : Int} (h : 0 ≤ x ∧ x ≤ 200) : 0 ≤ evn x ∧ evn x ≤ 200 := by unfold evn;omega
theorem evn_even (x : Int) : evn x % 2 = 0 := by unfold evn;omega
theorem evn_of {x : Int} (h : x % 2 = 0) : evn x = x := by unfold evn;omega
def evens (l : List Int) : List Int := l.map evn
theorem len_evens (l : List Int) : (evens l).length = l.length := by simp [evens]
theorem g_evens {l : List Int} {j : Nat} (h : j < l.length) : g (evens l) j = evn (g l j) := g_map l evn j h
/-- Halves passed on: place i has the half of its own and the half of place p i's. -/
def halve (e : List Int) (p : Nat → Nat) : List Int := (List.range e.length).map fun i => g e i / 2 + g e (p i) / 2
theorem len_halve (e : List Int) (p : Nat → Nat) : (halve e p).length = e.length := by simp [halve]
theorem g_halve {e : List Int} (p : Nat → Nat) {j : Nat} (h : j < e.length) : g (halve e p) j = g e j / 2 + g e (p j) / 2 := by
 unfold halve;rw [g_range _ _ _ h]
/-- The place before place i,in a circle of n. -/
def befo (n i : Nat) : Nat := if i = 0 then n - 1 else i - 1
theorem befo_lt {n i : Nat} (h : i < n) : befo n i < n := by unfold befo;split <;> omega
/-- A step. -/
def cstep (l : List Int) : List Int := halve (evens l) (befo l.length)
theorem len_cstep (l : List Int) : (cstep l).length = l.length := by unfold cstep;rw [len_halve,len_evens]
theorem g_cstep {l : List Int} {j : Nat} (h : j < l.length) : g (cstep l) j = evn (g l j) / 2 + evn (g l (befo l.length j)) / 2 := by
 unfold cstep
 rw [g_halve _ (by rw [len_evens];exact h),g_evens h,g_evens (befo_lt h)]
/-- Valid candies. -/
structure Nice (l : List Int) : Prop where
 lo : 2 ≤ l.length
 hi : l.length ≤ 12
 b : ∀ j,j < l.length → 0 ≤ g l j ∧ g l j ≤ 200
theorem Nice.evens {l : List Int} (h : Nice l) : Nice (evens l) :=
 ⟨by rw [len_evens];exact h.lo,by rw [len_evens];exact h.hi,fun j hj => by rw [len_evens] at hj;rw [g_evens hj];exact evn_b (h.b j hj)⟩
theorem Nice.halve {e : List Int} (h : Nice e) {p : Nat → Nat} (hp : ∀ j,j < e.length → p j < e.length) : Nice (halve e p) :=
 ⟨by rw [len_halve];exact h.lo,by rw [len_halve];exact h.hi,fun j hj => by
  rw [len_halve] at hj;rw [g_halve p hj]
  have h1 := h.b j hj;have h2 := h.b _ (hp j hj);omega⟩
theorem Nice.step {l : List Int} (h : Nice l) : Nice (cstep l) :=
 h.evens.halve fun j hj => by rw [len_evens] at hj ⊢;exact befo_lt hj
theorem sumTo_shift (n : Nat) (f : Nat → Int) : sumTo (n + 1) f = f 0 + sumTo n (fun i => f (i + 1)) := by
 induction n with
 | zero => simp [sumTo]
 | succ n ih =>
  have e : sumTo (n + 1 + 1) f = sumTo (n + 1) f + f (n + 1) := rfl
  rw [e,ih];simp only [sumTo];omega
theorem sumTo_befo {n : Nat} (h : 1 ≤ n) (f : Nat → Int) : sumTo n (fun i => f (befo n i)) = sumTo n f := by
 obtain ⟨m,rfl⟩ : ∃ m,n = m + 1 := ⟨n - 1,by omega⟩
 rw [sumTo_shift]
 have e : sumTo m (fun i => f (befo (m + 1) (i + 1))) = sumTo m f := sumTo_congr fun i hi => by unfold befo;rw [if_neg (by omega)];rfl
 rw [e]
 have e2 : befo (m + 1) 0 = m := by unfold befo;simp
 rw [e2];simp only [sumTo];omega
theorem sumTo_pos {n : Nat} {f : Nat → Int} (h : ∀ i,i < n → 0 ≤ f i) (hz : sumTo n f = 0) : ∀ i,i < n → f i = 0 := fun i hi => by
 have h1 := sumTo_ge h i hi;have h2 := h i hi;omega
theorem sumTo_two (n : Nat) (f : Nat → Int) : sumTo n (fun i => 2 * f i) = 2 * sumTo n f := by
 induction n with
 | zero => rfl
 | succ n ih => simp only [sumTo];rw [ih];omega
/-- In a circle where each has as much as the one before,all have the same. -/
theorem befo_const {n : Nat} {f : Nat → Int} (h : ∀ i,i < n → f i = f (befo n i)) : ∀ i,i < n → f i = f 0 := by
 intro i
 induction i with
 | zero => intro _;rfl
 | succ i ih => intro hi;rw [h (i + 1) hi];unfold befo;rw [if_neg (by omega)];exact ih (by omega)
def half (l : List Int) (i : Nat) : Int := evn (g l i) / 2
theorem half_two (l : List Int) (i : Nat) : evn (g l i) = 2 * half l i := by unfold half;have := evn_even (g l i);omega
theorem g_cstep' {l : List Int} {j : Nat} (h : j < l.length) : g (cstep l) j = half l j + half l (befo l.length j) := g_cstep h
def sumE (l : List Int) : Int := sumTo l.length (fun i => evn (g l i))
def sqE (l : List Int) : Int := sumTo l.length (fun i => evn (g l i) * evn (g l i))
/-- All candies stay when halves are passed. -/
theorem sum_cstep {l : List Int} (h : 1 ≤ l.length) : sumTo l.length (g (cstep l)) = sumE l := by
 rw [sumTo_congr (h := fun j => half l j + half l (befo l.length j)) (fun j hj => g_cstep' hj),sumTo_add,sumTo_befo h (half l)]
 unfold sumE
 rw [sumTo_congr (f := fun i => evn (g l i)) (h := fun i => 2 * half l i) (fun i _ => half_two l i),sumTo_two];omega
theorem sumE_odd (l : List Int) : sumE l = sumTo l.length (g l) + sumTo l.length (fun i => g l i % 2) := by
 unfold sumE evn;rw [← sumTo_add]
theorem odd_nonneg (l : List Int) : ∀ i,i < l.length → 0 ≤ g l i % 2 := fun i _ => by omega
theorem sumE_cstep {l : List Int} (h : 1 ≤ l.length) : sumE (cstep l) = sumE l + sumTo l.length (fun i => g (cstep l) i % 2) := by
 rw [sumE_odd (cstep l),len_cstep,sum_cstep h]
theorem sq_cstep {l : List Int} (h : 1 ≤ l.length) (he : ∀ i,i < l.length → g (cstep l) i % 2 = 0) :
  sqE (cstep l) + sumTo l.length (fun i => (half l i - half l (befo l.length i)) * (half l i - half l (befo l.length i))) = sqE l := by
 unfold sqE
 rw [len_cstep, ← sumTo_add]
 rw [sumTo_congr (h := fun i => 2 * (half l i * half l i) + 2 * (half l (befo l.length i) * half l (befo l.length i))) (fun i hi => ?_),sumTo_add,sumTo_two,sumTo_two,sumTo_befo h (fun i => half l i * half l i)]
 ·rw [sumTo_congr (f := fun i => evn (g l i) * evn (g l i)) (h := fun i => 2 * (2 * (half l i * half l i))) (fun i _ => ?_),sumTo_two,sumTo_two]
  ·omega
  ·rw [half_two l i,Int.mul_assoc,Int.mul_left_comm (half l i)]
 ·rw [evn_of (he i hi),g_cstep' hi]
  generalize half l i = a
  generalize half l (befo l.length i) = b
  simp only [Int.add_mul,Int.mul_add,Int.sub_mul,Int.mul_sub]
  rw [Int.mul_comm b a];omega
/-- At rest: a step changes nothing: all have the same even number. -/
theorem rest_iff {l : List Int} (h : Nice l) : cstep l = l ↔ (∀ j,j < l.length → g l j = g l 0) ∧ g l 0 % 2 = 0 := by
 have h1 := h.lo
 constructor
 ·intro e
  have s := sum_cstep (l := l) (by omega)
  rw [e,sumE_odd l] at s
  have z := sumTo_pos (odd_nonneg l) (by omega)
  have c : ∀ j,j < l.length → half l j = half l (befo l.length j) := fun j hj => by
   have e1 := g_cstep' hj
   rw [e] at e1
   have e2 := half_two l j
   rw [evn_of (z j hj)] at e2
   omega
  refine ⟨fun j hj => ?_,z 0 (by omega)⟩
  have e1 := half_two l j;have e2 := half_two l 0
  rw [evn_of (z j hj)] at e1;rw [evn_of (z 0 (by omega))] at e2
  have e3 := befo_const c j hj
  omega
 ·intro ⟨a,b⟩
  apply ext_g (len_cstep l)
  intro j hj
  rw [len_cstep] at hj
  rw [g_cstep hj,a j hj,a _ (befo_lt hj),evn_of b];omega
/-- What falls with each step that changes anything. -/
def mu (l : List Int) : Int := 2 * ((2400 - sumE l) * 480001 + sqE l) + (if cstep l = l then 0 else 1)
theorem sumE_b {l : List Int} (h : Nice l) : 0 ≤ sumE l ∧ sumE l ≤ 2400 := by
 have h2 := h.hi
 refine ⟨sumTo_nonneg fun i hi => (evn_b (h.b i hi)).1,?_⟩
 have := sumTo_le (n := l.length) (f := fun i => evn (g l i)) (M := 200) fun i hi => (evn_b (h.b i hi)).2
 unfold sumE;omega
theorem sqE_b {l : List Int} (h : Nice l) : 0 ≤ sqE l ∧ sqE l ≤ 480000 := by
 have h2 := h.hi
 refine ⟨sumTo_nonneg fun i hi => Int.mul_nonneg (evn_b (h.b i hi)).1 (evn_b (h.b i hi)).1,?_⟩
 have := sumTo_le (n := l.length) (f := fun i => evn (g l i) * evn (g l i)) (M := 40000) fun i hi => by
  have := evn_b (h.b i hi)
  have := Int.mul_le_mul this.2 this.2 this.1 (by omega)
  omega
 unfold sqE;omega
theorem mu_b {l : List Int} (h : Nice l) : 0 ≤ mu l ∧ mu l ≤ 2400000000 := by
 have h1 := sumE_b h;have h2 := sqE_b h
 unfold mu;split <;> omega
theorem mu_step {l : List Int} (h : Nice l) (hn : cstep l ≠ l) : mu (cstep l) < mu l := by
 have h1 := h.lo
 have a1 := sumE_b h;have a2 := sqE_b h;have b1 := sumE_b h.step;have b2 := sqE_b h.step
 have e1 := sumE_cstep (l := l) (by omega)
 have n1 := sumTo_nonneg (n := l.length) (f := fun i => g (cstep l) i % 2) (fun i _ => by show 0 ≤ g (cstep l) i % 2;omega)
 have hm : mu l = 2 * ((2400 - sumE l) * 480001 + sqE l) + 1 := by unfold mu;rw [if_neg hn]
 have hm' : mu (cstep l) ≤ 2 * ((2400 - sumE (cstep l)) * 480001 + sqE (cstep l)) + 1 := by unfold mu;split <;> omega
 by_cases c : sumTo l.length (fun i => g (cstep l) i % 2) = 0
 ·have z := sumTo_pos (n := l.length) (f := fun i => g (cstep l) i % 2) (fun i _ => by show 0 ≤ g (cstep l) i % 2;omega) c
  have e2 := sq_cstep (l := l) (by omega) z
  have n2 : ∀ i,i < l.length → 0 ≤ (half l i - half l (befo l.length i)) * (half l i - half l (befo l.length i)) := fun i _ => by
   rcases Int.le_total 0 (half l i - half l (befo l.length i)) with p | p
   ·exact Int.mul_nonneg p p
   ·exact Int.mul_nonneg_of_nonpos_of_nonpos p p
  have n3 := sumTo_nonneg n2
  by_cases c2 : sumTo l.length (fun i => (half l i - half l (befo l.length i)) * (half l i - half l (befo l.length i))) = 0
  ·have z2 := sumTo_pos n2 c2
   have hc : ∀ j,j < l.length → half l j = half l (befo l.length j) := fun j hj => by
    have := z2 j hj
    rcases Int.mul_eq_zero.1 this with q | q <;> omega
   have hc2 := befo_const hc
   have hr : cstep (cstep l) = cstep l := (rest_iff h.step).2 ⟨fun j hj => by
    rw [len_cstep] at hj
    have q1 := hc2 j hj;have q2 := hc j hj;have q3 := hc 0 (by omega)
    rw [g_cstep' hj,g_cstep' (show 0 < l.length by omega)];omega,z 0 (by omega)⟩
   have hm2 : mu (cstep l) = 2 * ((2400 - sumE (cstep l)) * 480001 + sqE (cstep l)) := by unfold mu;rw [if_pos hr];omega
   omega
  ·omega
 ·omega
theorem tmod2 {x : Int} (h : 0 ≤ x) : Int.tmod x 2 = x % 2 := Int.tmod_eq_emod_of_nonneg h
theorem tdiv2 {x : Int} (h : 0 ≤ x) : Int.tdiv x 2 = x / 2 := Int.tdiv_eq_ediv_of_nonneg h
theorem madeEven_l0 {l : List Int} (h : Nice l) (d : Nat) : ∀ (k i : Nat),i + d = l.length → d < k → impl_madeEven.l0 k ((evens l).take i) l (l.length : Int) (i : Int) = some (evens l) := by
 induction d with
 | zero =>
  intro k i hi hk
  obtain ⟨k,rfl⟩ : ∃ m,k = m + 1 := ⟨k - 1,by omega⟩
  have := h.hi
  simp only [impl_madeEven.l0]
  rw [if_neg (by omega),List.take_of_length_le (by rw [len_evens];omega)]
 | succ d ih =>
  intro k i hi hk
  obtain ⟨k,rfl⟩ : ∃ m,k = m + 1 := ⟨k - 1,by omega⟩
  have h1 := h.hi;have h2 := h.b i (by omega)
  simp only [impl_madeEven.l0]
  rw [if_pos (by omega),if_pos (by omega),if_pos (by omega),if_pos (by rw [List.length_take,len_evens];omega),rd_g,tmod2 h2.1,wrap_id (by omega) (by omega),wrap_succ (by omega)]
  have := ih k (i + 1) (by omega) (by omega)
  rw [take_snoc _ _ (by rw [len_evens];omega),g_evens (by omega)] at this
  exact this
theorem madeEven_at {l : List Int} (h : Nice l) {k : Nat} (hk : l.length < k) : impl_madeEven.f k l = some (evens l) := by
 unfold impl_madeEven.f
 exact madeEven_l0 h l.length k 0 (by omega) hk
theorem cyEven_l0 {l : List Int} (h : Nice l) (d : Nat) : ∀ (k i : Nat),i + d = l.length → d < k → spec_cyEven.l0 k ((evens l).take i) l (l.length : Int) (i : Int) = some (evens l) := by
 induction d with
 | zero =>
  intro k i hi hk
  obtain ⟨k,rfl⟩ : ∃ m,k = m + 1 := ⟨k - 1,by omega⟩
  have := h.hi
  simp only [spec_cyEven.l0]
  rw [if_neg (by omega),List.take_of_length_le (by rw [len_evens];omega)]
 | succ d ih =>
  intro k i hi hk
  obtain ⟨k,rfl⟩ : ∃ m,k = m + 1 := ⟨k - 1,by omega⟩
  have h1 := h.hi;have h2 := h.b i (by omega)
  simp only [spec_cyEven.l0]
  rw [if_pos (by omega),if_pos (by omega),if_pos (by omega),if_pos (by rw [List.length_take,len_evens];omega),rd_g,tmod2 h2.1,wrap_id (by omega) (by omega),wrap_succ (by omega)]
  have := ih k (i + 1) (by omega) (by omega)
  rw [take_snoc _ _ (by rw [len_evens];omega),g_evens (by omega)] at this
  exact this
theorem cyEven_at {l : List Int} (h : Nice l) {k : Nat} (hk : l.length < k) : spec_cyEven.f k l = some (evens l) := by
 unfold spec_cyEven.f
 exact cyEven_l0 h l.length k 0 (by omega) hk
theorem passed_l0 {e : List Int} (h : Nice e) (by_ : Int) {p : Nat → Nat} (hp : ∀ j,j < e.length → p j < e.length ∧ Int.tmod (wrap64 ((wrap64 ((j : Int) - by_)) + (e.length : Int))) (e.length : Int) = (p j : Int)) (d : Nat) :
  ∀ (k i : Nat),i + d = e.length → d < k → impl_passed.l0 k e by_ ((halve e p).take i) e (e.length : Int) (i : Int) = some (halve e p) := by
 induction d with
 | zero =>
  intro k i hi hk
  obtain ⟨k,rfl⟩ : ∃ m,k = m + 1 := ⟨k - 1,by omega⟩
  have := h.hi
  simp only [impl_passed.l0]
  rw [if_neg (by omega),List.take_of_length_le (by rw [len_halve];omega)]
 | succ d ih =>
  intro k i hi hk
  obtain ⟨k,rfl⟩ : ∃ m,k = m + 1 := ⟨k - 1,by omega⟩
  have h1 := h.hi;have h2 := h.b i (by omega);obtain ⟨h3,h4⟩ := hp i (by omega);have h5 := h.b _ h3
  simp only [impl_passed.l0]
  rw [h4,if_pos (by omega),if_pos (by omega),if_pos (by omega),if_neg (by omega),if_pos (by omega),if_pos (by omega),if_pos (by rw [List.length_take,len_halve];omega),rd_g,rd_g,tdiv2 h2.1,tdiv2 h5.1,wrap_id (x := g e i / 2) (by omega) (by omega),wrap_id (x := g e (p i) / 2) (by omega) (by omega),wrap_id (by omega) (by omega),wrap_succ (by omega)]
  have := ih k (i + 1) (by omega) (by omega)
  rw [take_snoc _ _ (by rw [len_halve];omega),g_halve p (by omega)] at this
  exact this
theorem befo_mod {n i : Nat} (h : i < n) (hn : n ≤ 12) : Int.tmod (wrap64 ((wrap64 ((i : Int) - 1)) + (n : Int))) (n : Int) = (befo n i : Int) := by
 rw [wrap_id (x := (i : Int) - 1) (by omega) (by omega),wrap_id (by omega) (by omega),Int.tmod_eq_emod_of_nonneg (by omega)]
 unfold befo
 split
 ·rw [Int.emod_eq_of_lt (by omega) (by omega)];omega
 ·rw [Int.add_emod_right,Int.emod_eq_of_lt (by omega) (by omega)];omega
theorem befo_mod' {n i : Nat} (h : i < n) (hn : n ≤ 12) : Int.tmod (wrap64 ((wrap64 ((i : Int) + (n : Int))) - 1)) (n : Int) = (befo n i : Int) := by
 have e := befo_mod h hn
 rw [wrap_id (x := (i : Int) - 1) (by omega) (by omega),wrap_id (by omega) (by omega)] at e
 rw [wrap_id (x := (i : Int) + n) (by omega) (by omega),wrap_id (by omega) (by omega),show (i : Int) + n - 1 = i - 1 + n by omega,e]
theorem candyStep_at {l : List Int} (h : Nice l) {k : Nat} (hk : l.length < k) : impl_candyStep.f k l = some (cstep l) := by
 unfold impl_candyStep.f
 rw [madeEven_at h hk,Option.bind_some]
 have e : impl_passed.f k (evens l) 1 = some (cstep l) := by
  unfold impl_passed.f cstep
  have := passed_l0 h.evens 1 (p := befo l.length) (fun j hj => by rw [len_evens] at hj ⊢;exact ⟨befo_lt hj,befo_mod hj h.hi⟩) l.length k 0 (by rw [len_evens];omega) hk
  simpa using this
 rw [e];rfl
theorem cyPass_l0 {e : List Int} (h : Nice e) {n : Nat} (hn : e.length = n) (d : Nat) :
  ∀ (k i : Nat),i + d = e.length → d < k → spec_cyPass.l0 k e ((halve e (befo n)).take i) e (e.length : Int) (i : Int) = some (halve e (befo n)) := by
 induction d with
 | zero =>
  intro k i hi hk
  obtain ⟨k,rfl⟩ : ∃ m,k = m + 1 := ⟨k - 1,by omega⟩
  have := h.hi
  simp only [spec_cyPass.l0]
  rw [if_neg (by omega),List.take_of_length_le (by rw [len_halve];omega)]
 | succ d ih =>
  intro k i hi hk
  obtain ⟨k,rfl⟩ : ∃ m,k = m + 1 := ⟨k - 1,by omega⟩
  have h1 := h.hi;have h2 := h.b i (by omega);have h3 := befo_lt (show i < n by omega);have h4 := befo_mod' (show i < n by omega) (by omega);have h5 := h.b _ (by rw [hn];exact h3)
  rw [← hn] at h4 h3 h5
  simp only [spec_cyPass.l0]
  rw [h4,if_pos (by omega),if_pos (by omega),if_pos (by omega),if_neg (by omega),if_pos (by omega),if_pos (by omega),if_pos (by rw [List.length_take,len_halve];omega),rd_g,rd_g,tdiv2 h2.1,tdiv2 h5.1,wrap_id (x := g e i / 2) (by omega) (by omega),wrap_id (x := g e (befo e.length i) / 2) (by omega) (by omega),wrap_id (by omega) (by omega),wrap_succ (by omega)]
  have := ih k (i + 1) (by omega) (by omega)
  rw [take_snoc _ _ (by rw [len_halve];omega),g_halve _ (by omega), ← hn] at this
  rw [← hn]
  exact this
theorem cyStep_at {l : List Int} (h : Nice l) {k : Nat} (hk : l.length < k) : spec_cyStep.f k l = some (cstep l) := by
 unfold spec_cyStep.f
 rw [cyEven_at h hk,Option.bind_some]
 have e : spec_cyPass.f k (evens l) = some (cstep l) := by
  unfold spec_cyPass.f cstep
  have := cyPass_l0 h.evens (len_evens l) l.length k 0 (by rw [len_evens];omega) hk
  simpa using this
 rw [e];rfl
theorem l1Same_l0 {a b : List Int} (hab : a.length = b.length) (hL : a.length ≤ 1099511627776) (d : Nat) : ∀ (k i : Nat),i + d = a.length → d < k → (∀ j,j < i → g a j = g b j) → spec_l1Same.l0 k a b (a.length : Int) (i : Int) = some (decide (a = b)) := by
 induction d with
 | zero =>
  intro k i hi hk hj
  obtain ⟨k,rfl⟩ : ∃ m,k = m + 1 := ⟨k - 1,by omega⟩
  simp only [spec_l1Same.l0]
  rw [if_neg (by omega),decide_eq_true (ext_g hab fun j h => hj j (by omega))]
 | succ d ih =>
  intro k i hi hk hj
  obtain ⟨k,rfl⟩ : ∃ m,k = m + 1 := ⟨k - 1,by omega⟩
  simp only [spec_l1Same.l0]
  rw [if_pos (by omega),if_pos (by omega),if_pos (by omega),if_pos (by omega),rd_g,rd_g,wrap_succ (by omega)]
  by_cases e : g a i = g b i
  ·rw [if_pos e]
   exact ih k (i + 1) (by omega) (by omega) fun j h => by
    by_cases q : j = i
    ·rw [q];exact e
    ·exact hj j (by omega)
  ·rw [if_neg e,decide_eq_false (fun h => e (by rw [h]))]
theorem l1Same_at {a b : List Int} (hab : a.length = b.length) (hL : a.length ≤ 1099511627776) {k : Nat} (hk : a.length < k) : spec_l1Same.f k a b = some (decide (a = b)) := by
 unfold spec_l1Same.f
 rw [if_pos (by omega)]
 exact l1Same_l0 hab hL a.length k 0 (by omega) hk (fun j h => absurd h (by omega))
theorem cyRest_at {l : List Int} (h : Nice l) {k : Nat} (hk : l.length < k) : spec_cyRest.f k l = some (decide (cstep l = l)) := by
 have := h.hi
 unfold spec_cyRest.f
 rw [cyStep_at h hk,Option.bind_some,l1Same_at (len_cstep l) (by rw [len_cstep];omega) (by rw [len_cstep];exact hk)];rfl
/-- The greatest of the numbers up to place i. -/
def top (l : List Int) : Nat → Int
 | 0 => g l 0
 | i + 1 => mx (top l i) (g l (i + 1))
/-- The least of the numbers up to place i. -/
def low (l : List Int) : Nat → Int
 | 0 => g l 0
 | i + 1 => mn (low l i) (g l (i + 1))
theorem top_ge (l : List Int) (i : Nat) : ∀ j,j ≤ i → g l j ≤ top l i := by
 induction i with
 | zero => intro j h;rw [show j = 0 by omega];exact Int.le_refl _
 | succ i ih =>
  intro j h
  simp only [top,mx]
  by_cases e : j = i + 1
  ·rw [e];split <;> omega
  ·have := ih j (by omega);split <;> omega
theorem low_le (l : List Int) (i : Nat) : ∀ j,j ≤ i → low l i ≤ g l j := by
 induction i with
 | zero => intro j h;rw [show j = 0 by omega];exact Int.le_refl _
 | succ i ih =>
  intro j h
  simp only [low,mn]
  by_cases e : j = i + 1
  ·rw [e];split <;> omega
  ·have := ih j (by omega);split <;> omega
theorem top_in (l : List Int) (i : Nat) : ∃ j,j ≤ i ∧ top l i = g l j := by
 induction i with
 | zero => exact ⟨0,by omega,rfl⟩
 | succ i ih =>
  obtain ⟨j,h,e⟩ := ih
  simp only [top,mx]
  split
  ·exact ⟨i + 1,by omega,rfl⟩
  ·exact ⟨j,by omega,e⟩
theorem low_in (l : List Int) (i : Nat) : ∃ j,j ≤ i ∧ low l i = g l j := by
 induction i with
 | zero => exact ⟨0,by omega,rfl⟩
 | succ i ih =>
  obtain ⟨j,h,e⟩ := ih
  simp only [low,mn]
  split
  ·exact ⟨i + 1,by omega,rfl⟩
  ·exact ⟨j,by omega,e⟩
def spread (l : List Int) : Int := top l (l.length - 1) - low l (l.length - 1)
theorem spread_b {l : List Int} (h : Nice l) : 0 ≤ spread l ∧ spread l ≤ 200 := by
 have := h.lo
 obtain ⟨i,hi,e⟩ := top_in l (l.length - 1)
 obtain ⟨j,hj,e2⟩ := low_in l (l.length - 1)
 have a := h.b i (by omega);have b := h.b j (by omega);have c := low_le l (l.length - 1) i hi
 unfold spread;omega
theorem spread_zero {l : List Int} (h : Nice l) : spread l = 0 ↔ ∀ j,j < l.length → g l j = g l 0 := by
 have := h.lo
 unfold spread
 constructor
 ·intro e j hj
  have a := top_ge l (l.length - 1) j (by omega);have b := low_le l (l.length - 1) j (by omega)
  have c := top_ge l (l.length - 1) 0 (by omega);have d := low_le l (l.length - 1) 0 (by omega)
  omega
 ·intro e
  obtain ⟨i,hi,e1⟩ := top_in l (l.length - 1)
  obtain ⟨j,hj,e2⟩ := low_in l (l.length - 1)
  have a := e i (by omega);have b := e j (by omega);omega
theorem Max_l0 {l : List Int} (hL : l.length ≤ 1099511627776) (d : Nat) : ∀ (k i : Nat),i + 1 + d = l.length → d < k → slices_Max_int_int.l0 k l (top l i) ((i + 1 : Nat) : Int) = some (top l (l.length - 1)) := by
 induction d with
 | zero =>
  intro k i hi hk
  obtain ⟨k,rfl⟩ : ∃ m,k = m + 1 := ⟨k - 1,by omega⟩
  simp only [slices_Max_int_int.l0]
  rw [if_neg (by omega),show i = l.length - 1 by omega]
 | succ d ih =>
  intro k i hi hk
  obtain ⟨k,rfl⟩ : ∃ m,k = m + 1 := ⟨k - 1,by omega⟩
  simp only [slices_Max_int_int.l0]
  rw [if_pos (by omega),if_pos (by omega),rd_g,wrap_succ (by omega)]
  exact ih k (i + 1) (by omega) (by omega)
theorem Max_at {l : List Int} (h1 : 1 ≤ l.length) (hL : l.length ≤ 1099511627776) {k : Nat} (hk : l.length < k) : slices_Max_int_int.f k l = some (top l (l.length - 1)) := by
 unfold slices_Max_int_int.f
 rw [if_neg (by omega),if_pos (by omega)]
 exact Max_l0 hL (l.length - 1) k 0 (by omega) (by omega)
theorem Min_l0 {l : List Int} (hL : l.length ≤ 1099511627776) (d : Nat) : ∀ (k i : Nat),i + 1 + d = l.length → d < k → slices_Min_int_int.l0 k l (low l i) ((i + 1 : Nat) : Int) = some (low l (l.length - 1)) := by
 induction d with
 | zero =>
  intro k i hi hk
  obtain ⟨k,rfl⟩ : ∃ m,k = m + 1 := ⟨k - 1,by omega⟩
  simp only [slices_Min_int_int.l0]
  rw [if_neg (by omega),show i = l.length - 1 by omega]
 | succ d ih =>
  intro k i hi hk
  obtain ⟨k,rfl⟩ : ∃ m,k = m + 1 := ⟨k - 1,by omega⟩
  simp only [slices_Min_int_int.l0]
  rw [if_pos (by omega),if_pos (by omega),rd_g,wrap_succ (by omega)]
  exact ih k (i + 1) (by omega) (by omega)
theorem Min_at {l : List Int} (h1 : 1 ≤ l.length) (hL : l.length ≤ 1099511627776) {k : Nat} (hk : l.length < k) : slices_Min_int_int.f k l = some (low l (l.length - 1)) := by
 unfold slices_Min_int_int.f
 rw [if_neg (by omega),if_pos (by omega)]
 exact Min_l0 hL (l.length - 1) k 0 (by omega) (by omega)
theorem spread_at {l : List Int} (h : Nice l) {k : Nat} (hk : l.length < k) : impl_spread.f k l = some (spread l) := by
 have h1 := h.lo;have h2 := h.hi;have h3 := spread_b h
 unfold impl_spread.f
 unfold spread at h3 ⊢
 rw [Max_at (by omega) (by omega) hk,Min_at (by omega) (by omega) hk,Option.bind_some,Option.bind_some,wrap_id (by omega) (by omega)]
theorem isLevel_at {l : List Int} (h : Nice l) {k : Nat} (hk : l.length < k) : impl_isLevel.f k l = some (spread l == 0) := by
 unfold impl_isLevel.f
 rw [spread_at h hk];rfl
theorem isResting_at {l : List Int} (h : Nice l) {k : Nat} (hk : l.length < k) : impl_isResting.f k l = some (decide (cstep l = l)) := by
 have h1 := h.lo
 have h2 := h.b 0 (by omega)
 unfold impl_isResting.f
 rw [isLevel_at h hk,Option.bind_some]
 have e := rest_iff h
 by_cases c : spread l = 0
 ·rw [if_pos (by rw [c];rfl),if_pos (by omega)]
  have c2 := (spread_zero h).1 c
  have hr : rd l 0 = g l 0 := rd_g l 0
  rw [hr,tmod2 h2.1]
  congr 1
  rw [Bool.eq_iff_iff,beq_iff_eq,decide_eq_true_eq,e]
  exact ⟨fun x => ⟨c2,x⟩,fun x => x.2⟩
 ·rw [if_neg (by rw [beq_iff_eq];exact c),decide_eq_false]
  intro x
  exact c ((spread_zero h).2 (e.1 x).1)
/-- So many steps,or to the rest: how many there were,and what each has then. -/
def crun : Nat → List Int → Nat × List Int
 | 0,l => (0,l)
 | n + 1,l => if cstep l = l then (0,l) else ((crun n (cstep l)).1 + 1,(crun n (cstep l)).2)
def addOdd (f l : List Int) : List Int := (List.range f.length).map fun j => g f j + g l j % 2
theorem len_addOdd (f l : List Int) : (addOdd f l).length = f.length := by simp [addOdd]
theorem g_addOdd (f l : List Int) {j : Nat} (h : j < f.length) : g (addOdd f l) j = g f j + g l j % 2 := by unfold addOdd;rw [g_range _ _ _ h]
def cgive : Nat → List Int → List Int → List Int
 | 0,_,f => f
 | n + 1,l,f => if cstep l = l then f else cgive n (cstep l) (addOdd f l)
theorem cyRun_l0 (n : Nat) : ∀ (l : List Int) (s : Nat),Nice l → mu l < n → s + n ≤ 1125899906842624 → ∃ K, ∀ k,K ≤ k → spec_cyRun.l0 k l (s : Int) = some ((crun n l).2,((s + (crun n l).1 : Nat) : Int)) := by
 induction n with
 | zero => intro l s h hm;have := mu_b h;omega
 | succ n ih =>
  intro l s h hm hs
  have hL := h.hi
  by_cases c : cstep l = l
  ·refine ⟨14,fun k hk => ?_⟩
   obtain ⟨k,rfl⟩ : ∃ m,k = m + 1 := ⟨k - 1,by omega⟩
   simp only [spec_cyRun.l0]
   rw [cyRest_at h (by omega),Option.bind_some,decide_eq_true c,if_pos rfl]
   simp only [crun];rw [if_pos c];rfl
  ·have hd := mu_step h c
   obtain ⟨K,hK⟩ := ih (cstep l) (s + 1) h.step (by omega) (by omega)
   refine ⟨K + 14,fun k hk => ?_⟩
   obtain ⟨k,rfl⟩ : ∃ m,k = m + 1 := ⟨k - 1,by omega⟩
   simp only [spec_cyRun.l0]
   rw [cyRest_at h (by omega),Option.bind_some,decide_eq_false c,if_neg (by decide),cyStep_at h (by omega),Option.bind_some,wrap_succ (by omega),hK k (by omega)]
   simp only [crun];rw [if_neg c]
   simp only [Option.some.injEq,Prod.mk.injEq,true_and];omega
/-- Steps enough for every list to come to rest. -/
def big : Nat := 2400000001
theorem mu_big {l : List Int} (h : Nice l) : mu l < big := by have := mu_b h;unfold big;omega
theorem cyRun_ev {l : List Int} (h : Nice l) : ∃ K, ∀ k,K ≤ k → spec_cyRun.f k l = some ((crun big l).2,((crun big l).1 : Int)) := by
 obtain ⟨K,hK⟩ := cyRun_l0 big l 0 h (mu_big h) (by unfold big;omega)
 refine ⟨K,fun k hk => ?_⟩
 unfold spec_cyRun.f
 have := hK k hk
 simpa using this
/-- Odd numbers counted from place i on. -/
def oddFrom (f l : List Int) (i : Nat) : List Int := (List.range f.length).map fun j => g f j + if i ≤ j then g l j % 2 else 0
theorem len_oddFrom (f l : List Int) (i : Nat) : (oddFrom f l i).length = f.length := by simp [oddFrom]
theorem g_oddFrom (f l : List Int) (i : Nat) {j : Nat} (h : j < f.length) : g (oddFrom f l i) j = g f j + if i ≤ j then g l j % 2 else 0 := by unfold oddFrom;rw [g_range _ _ _ h]
theorem oddFrom_zero (f l : List Int) : oddFrom f l 0 = addOdd f l := by
 apply ext_g (by rw [len_oddFrom,len_addOdd])
 intro j hj;rw [len_oddFrom] at hj
 rw [g_oddFrom _ _ _ hj,g_addOdd _ _ hj,if_pos (by omega)]
theorem oddFrom_end {f l : List Int} {i : Nat} (h : f.length ≤ i) : oddFrom f l i = f := by
 apply ext_g (by rw [len_oddFrom])
 intro j hj;rw [len_oddFrom] at hj
 rw [g_oddFrom _ _ _ hj,if_neg (by omega)];omega
theorem oddFrom_set {f l : List Int} {i : Nat} (h : i < f.length) : oddFrom (f.set i (g f i + g l i % 2)) l (i + 1) = oddFrom f l i := by
 apply ext_g (by rw [len_oddFrom,len_oddFrom,List.length_set])
 intro j hj;rw [len_oddFrom,List.length_set] at hj
 rw [g_oddFrom _ _ _ (by rw [List.length_set];exact hj),g_oddFrom _ _ _ hj,g_set]
 by_cases e : i = j
 ·subst e;rw [if_pos ⟨rfl,hj⟩,if_neg (by omega),if_pos (by omega)];omega
 ·rw [if_neg (fun q => e q.1)]
  by_cases q : i ≤ j
  ·rw [if_pos q,if_pos (by omega)]
  ·rw [if_neg q,if_neg (by omega)]
/-- Counts that leave room for so many steps. -/
def Free (f l : List Int) (n : Nat) : Prop := f.length = l.length ∧ ∀ j,j < f.length → 0 ≤ g f j ∧ g f j + n ≤ 1125899906842624
theorem Free.add {f l l' : List Int} {n : Nat} (h : Free f l (n + 1)) (hl : l'.length = l.length) (x : List Int) : Free (addOdd f x) l' n := by
 refine ⟨by rw [len_addOdd,hl];exact h.1,fun j hj => ?_⟩
 rw [len_addOdd] at hj
 have := h.2 j hj
 rw [g_addOdd _ _ hj];omega
theorem crest_l1 {l : List Int} (h : Nice l) (s : Int) (d : Nat) : ∀ (k : Nat) (f : List Int) (i : Nat),i + d = l.length → f.length = l.length → (∀ j,i ≤ j → j < f.length → 0 ≤ g f j ∧ g f j ≤ 1125899906842623) →
  impl_rest.l1 (k + d + 1) f l s l (l.length : Int) (i : Int) = (impl_candyStep.f k l).bind fun t => impl_rest.l0 k (oddFrom f l i) t (wrap64 (s + 1)) := by
 induction d with
 | zero =>
  intro k f i hi hf hb
  simp only [impl_rest.l1]
  rw [if_neg (by omega),oddFrom_end (by omega)]
 | succ d ih =>
  intro k f i hi hf hb
  have h1 := h.hi;have h2 := h.b i (by omega);have h4 := hb i (by omega) (by omega)
  generalize hm : k + (d + 1) = m
  simp only [impl_rest.l1]
  rw [if_pos (by omega),if_pos (by omega),if_pos (by omega),if_pos (by omega),rd_g,rd_g,tmod2 h2.1,wrap_id (by omega) (by omega),wrap_succ (by omega),Int.toNat_natCast,show m = k + d + 1 by omega, ← oddFrom_set (f := f) (by omega)]
  exact ih k _ (i + 1) (by omega) (by rw [List.length_set];exact hf) fun j hij hj => by
   rw [List.length_set] at hj
   have := hb j (by omega) hj
   rw [g_set,if_neg (by omega)];exact this
theorem Free.one {f l : List Int} {n : Nat} (h : Free f l (n + 1)) : ∀ j,0 ≤ j → j < f.length → 0 ≤ g f j ∧ g f j ≤ 1125899906842623 := fun j _ hj => by
 have := h.2 j hj;omega
theorem crest_l0 (n : Nat) : ∀ (l f : List Int) (s : Nat),Nice l → mu l < n → s + n ≤ 1125899906842624 → Free f l n →
  ∃ K, ∀ k,K ≤ k → impl_rest.l0 k f l (s : Int) = some (((s + (crun n l).1 : Nat) : Int),(crun n l).2,cgive n l f) := by
 induction n with
 | zero => intro l f s h hm;have := mu_b h;omega
 | succ n ih =>
  intro l f s h hm hs hf
  have hL := h.hi
  by_cases c : cstep l = l
  ·refine ⟨14,fun k hk => ?_⟩
   obtain ⟨k,rfl⟩ : ∃ m,k = m + 1 := ⟨k - 1,by omega⟩
   simp only [impl_rest.l0]
   rw [isResting_at h (by omega),Option.bind_some,decide_eq_true c,if_pos rfl]
   simp only [crun,cgive];rw [if_pos c,if_pos c];rfl
  ·have hd := mu_step h c
   obtain ⟨K,hK⟩ := ih (cstep l) (addOdd f l) (s + 1) h.step (by omega) (by omega) (hf.add (len_cstep l) l)
   refine ⟨K + 40,fun k hk => ?_⟩
   obtain ⟨k,rfl⟩ : ∃ m,k = m + l.length + 2 := ⟨k - l.length - 2,by omega⟩
   simp only [impl_rest.l0]
   rw [isResting_at h (by omega),Option.bind_some,decide_eq_false c,if_neg (by decide)]
   have e := crest_l1 h (s : Int) l.length k f 0 (by omega) hf.1 hf.one
   refine Eq.trans e ?_
   rw [candyStep_at h (by omega),Option.bind_some,wrap_succ (by omega),oddFrom_zero,hK k (by omega)]
   simp only [crun,cgive];rw [if_neg c,if_neg c]
   simp only [Option.some.injEq,Prod.mk.injEq,and_true];omega
theorem free_zeros (l : List Int) : Free (List.replicate l.length 0) l big := by
 refine ⟨by simp,fun j hj => ?_⟩
 rw [List.length_replicate] at hj
 rw [g_replicate,if_pos hj];unfold big;omega
theorem rest_ev {l : List Int} (h : Nice l) : ∃ K, ∀ k,K ≤ k → impl_rest.f k l = some (((crun big l).1 : Int),(crun big l).2,cgive big l (List.replicate l.length 0)) := by
 have hL := h.hi
 obtain ⟨K,hK⟩ := crest_l0 big l (List.replicate l.length 0) 0 h (mu_big h) (by unfold big;omega) (free_zeros l)
 refine ⟨K,fun k hk => ?_⟩
 unfold impl_rest.f
 rw [if_pos (by omega),if_pos (by omega),Int.toNat_natCast]
 have := hK k hk
 simpa using this
/-- The digits of j to base B,n of them. -/
def dig (B : Nat) : Nat → Nat → List Int
 | 0,_ => []
 | n + 1,j => dig B n (j / B) ++ [((j % B : Nat) : Int)]
theorem len_dig (B : Nat) : ∀ n j,(dig B n j).length = n
 | 0,_ => rfl
 | n + 1,j => by simp only [dig,List.length_append,List.length_cons,List.length_nil,len_dig B n]
theorem dig_b {B : Nat} (hB : 0 < B) : ∀ n j, ∀ x ∈ dig B n j,0 ≤ x ∧ x < (B : Int)
 | 0,_,x,hx => by cases hx
 | n + 1,j,x,hx => by
  simp only [dig] at hx
  rcases List.mem_append.1 hx with hx | hx
  ·exact dig_b hB n _ x hx
  ·rw [List.mem_singleton.1 hx]
   have := Nat.mod_lt j hB
   omega
/-- All lists of n numbers below B,in order. -/
def allL (B : Nat) : Nat → List (List Int)
 | 0 => [[]]
 | n + 1 => (allL B n).flatMap fun l => (List.range B).map fun (y : Nat) => l ++ [(y : Int)]
theorem range_mul {α : Type} (B : Nat) (h : Nat → α) : ∀ a : Nat,(List.range (a * B)).map h = (List.range a).flatMap fun i => (List.range B).map fun x => h (i * B + x)
 | 0 => by simp
 | a + 1 => by
  rw [Nat.succ_mul,List.range_add,List.map_append,range_mul B h a,List.range_succ,List.flatMap_append]
  simp [Function.comp_def]
theorem allL_dig {B : Nat} (hB : 0 < B) : ∀ n,allL B n = (List.range (B ^ n)).map (dig B n)
 | 0 => by simp [allL,dig]
 | n + 1 => by
  simp only [allL]
  rw [allL_dig hB n,Nat.pow_succ,range_mul,List.flatMap_map]
  congr 1
  funext i
  refine List.map_congr_left fun x hx => ?_
  have hx := List.mem_range.1 hx
  simp only [dig]
  rw [show (i * B + x) / B = i by rw [Nat.mul_comm,Nat.mul_add_div hB,Nat.div_eq_of_lt hx,Nat.add_zero],show (i * B + x) % B = x by rw [Nat.mul_comm,Nat.mul_add_mod,Nat.mod_eq_of_lt hx]]
theorem len_allL {B : Nat} (hB : 0 < B) (n : Nat) : (allL B n).length = B ^ n := by rw [allL_dig hB];simp
theorem rd_mid (a b : List Int) (x : Int) {n : Nat} (h : a.length = n) : rd (a ++ x :: b) (n : Int) = x := by
 subst h;simp [rd,List.getD_eq_getElem?_getD]
theorem set_mid (a b : List Int) (x y : Int) {n : Nat} (h : a.length = n) : (a ++ x :: b).set n y = a ++ y :: b := by
 subst h;rw [List.set_append_right _ _ (Nat.le_refl _),Nat.sub_self,List.set_cons_zero]
theorem lback_dig {m : Nat} (hm : m ≤ 50) : ∀ (n j : Nat) (suf : List Int) (k : Nat),n ≤ 50 → n + 1 < k → j < (m + 1) ^ n →
  (j + 1 < (m + 1) ^ n → ∃ l' i,lback k (m : Int) (dig (m + 1) n j ++ suf) ((n : Int) - 1) = some (l',i) ∧ ¬ i < 0 ∧ i < (l'.length : Int) ∧ l'.set i.toNat (wrap64 (rd l' i + 1)) = dig (m + 1) n (j + 1) ++ suf) ∧
  (¬ j + 1 < (m + 1) ^ n → ∃ l',lback k (m : Int) (dig (m + 1) n j ++ suf) ((n : Int) - 1) = some (l', -1))
 | 0,j,suf,k,hn,hk,hj => by
  obtain ⟨k,rfl⟩ : ∃ m,k = m + 1 := ⟨k - 1,by omega⟩
  rw [Nat.pow_zero] at hj ⊢
  refine ⟨fun h => by omega,fun _ => ⟨suf,?_⟩⟩
  simp only [lback,dig]
  rw [if_neg (by omega)]
  rfl
 | n + 1,j,suf,k,hn,hk,hj => by
  obtain ⟨k,rfl⟩ : ∃ m,k = m + 1 := ⟨k - 1,by omega⟩
  have hB : 0 < m + 1 := by omega
  have hdm := Nat.div_add_mod j (m + 1)
  have hr := Nat.mod_lt j hB
  have hq : j / (m + 1) < (m + 1) ^ n := by
   rw [Nat.pow_succ] at hj
   exact Nat.div_lt_of_lt_mul (by rw [Nat.mul_comm];exact hj)
  generalize hqe : j / (m + 1) = q at hdm hq
  generalize hre : j % (m + 1) = r at hdm hr
  have hd : dig (m + 1) (n + 1) j ++ suf = dig (m + 1) n q ++ (r : Int) :: suf := by
   simp only [dig];rw [hqe,hre];simp
  have hl : (dig (m + 1) n q).length = n := len_dig _ _ _
  have e1 : (((n + 1 : Nat) : Int) - 1) = (n : Int) := by omega
  have hlt : ((n : Nat) : Int) < ((dig (m + 1) n q ++ (r : Int) :: suf).length : Int) := by simp only [List.length_append,List.length_cons,hl];omega
  rw [hd,e1]
  simp only [lback]
  rw [if_pos (by omega),if_pos hlt,rd_mid _ _ _ hl,Int.toNat_natCast,set_mid _ _ _ _ hl]
  by_cases hrm : r = m
  ·rw [if_pos (by omega),wrap_id (by omega) (by omega)]
   obtain ⟨i1,i2⟩ := lback_dig hm n q (0 :: suf) k (by omega) (by omega) hq
   have hj1 : j + 1 = (m + 1) * (q + 1) := by rw [Nat.mul_succ];omega
   have hiff : j + 1 < (m + 1) ^ (n + 1) ↔ q + 1 < (m + 1) ^ n := by
    rw [hj1,Nat.pow_succ,Nat.mul_comm ((m + 1) ^ n)]
    exact Nat.mul_lt_mul_left hB
   rw [hiff]
   refine ⟨fun h => ?_,fun h => i2 h⟩
   obtain ⟨l',i,h1,h2,h3,h4⟩ := i1 h
   refine ⟨l',i,h1,h2,h3,?_⟩
   rw [h4,hj1]
   simp only [dig]
   rw [Nat.mul_div_cancel_left _ hB,Nat.mul_mod_right]
   simp
  ·rw [if_neg (by omega)]
   have hr2 : r < m := by omega
   have e2 : (j + 1) / (m + 1) = q := by
    rw [← hdm,Nat.add_assoc,Nat.mul_add_div hB,Nat.div_eq_of_lt (by omega),Nat.add_zero]
   have e3 : (j + 1) % (m + 1) = r + 1 := by
    rw [← hdm,Nat.add_assoc,Nat.mul_add_mod,Nat.mod_eq_of_lt (by omega)]
   have hb : j + 1 < (m + 1) ^ (n + 1) := by
    rw [Nat.pow_succ]
    have h1 : (m + 1) * (q + 1) ≤ (m + 1) * (m + 1) ^ n := Nat.mul_le_mul_left _ hq
    rw [Nat.mul_succ] at h1
    rw [Nat.mul_comm ((m + 1) ^ n)]
    omega
   refine ⟨fun _ => ⟨_,_,rfl,by omega,hlt,?_⟩,fun h => absurd hb h⟩
   rw [rd_mid _ _ _ hl,Int.toNat_natCast,set_mid _ _ _ _ hl,wrap_id (by omega) (by omega)]
   simp only [dig]
   rw [e2,e3]
   simp
theorem lists_run {T : Type} (step : Nat → List Int → T → Option T) (st : T → List Int → T) {n m : Nat} (hn : n ≤ 50) (hm : m ≤ 50) (hst : ∀ j s,j < (m + 1) ^ n → ∃ K, ∀ k,K ≤ k → step k (dig (m + 1) n j) s = some (st s (dig (m + 1) n j))) :
  ∀ (d j : Nat) (s : T),j + d + 1 = (m + 1) ^ n → ∃ K, ∀ k,K ≤ k → lists step k (n : Int) (m : Int) (dig (m + 1) n j) s = some (((List.range (d + 1)).map fun i => dig (m + 1) n (j + i)).foldl st s)
 | 0,j,s,h => by
  obtain ⟨K,hK⟩ := hst j s (by omega)
  refine ⟨K + n + 5,fun k hk => ?_⟩
  obtain ⟨k,rfl⟩ : ∃ m,k = m + 1 := ⟨k - 1,by omega⟩
  obtain ⟨l',hl⟩ := (lback_dig hm n j [] k hn (by omega) (by omega)).2 (by omega)
  rw [List.append_nil] at hl
  simp only [lists]
  rw [hK k (by omega),Option.bind_some,wrap_id (by omega) (by omega),hl,Option.bind_some,if_pos (by show (-1 : Int) < 0;decide)]
  rfl
 | d + 1,j,s,h => by
  obtain ⟨K,hK⟩ := hst j s (by omega)
  obtain ⟨K',hK'⟩ := lists_run step st hn hm hst d (j + 1) (st s (dig (m + 1) n j)) (by omega)
  refine ⟨K + K' + n + 5,fun k hk => ?_⟩
  obtain ⟨k,rfl⟩ : ∃ m,k = m + 1 := ⟨k - 1,by omega⟩
  obtain ⟨l',i,hl,h1,h2,h3⟩ := (lback_dig hm n j [] k hn (by omega) (by omega)).1 (by omega)
  rw [List.append_nil] at hl h3
  simp only [lists]
  rw [hK k (by omega),Option.bind_some,wrap_id (by omega) (by omega),hl,Option.bind_some,if_neg h1,if_pos h2,h3,hK' k (by omega),List.range_succ_eq_map (n := d + 1)]
  simp only [List.map_cons,List.foldl_cons,Nat.add_zero,List.map_map,Function.comp_def]
  rw [show (fun x => dig (m + 1) n (j + 1 + x)) = (fun x => dig (m + 1) n (j + Nat.succ x)) by funext x;congr 1;omega]
theorem dig_zero (B : Nat) : ∀ n,dig B n 0 = List.replicate n 0
 | 0 => rfl
 | n + 1 => by
  simp only [dig]
  rw [Nat.zero_div,Nat.zero_mod,dig_zero B n,List.replicate_succ']
  rfl
theorem lists_all {T : Type} (step : Nat → List Int → T → Option T) (st : T → List Int → T) {n m : Nat} (hn : n ≤ 50) (hm : m ≤ 50) (hst : ∀ j s,j < (m + 1) ^ n → ∃ K, ∀ k,K ≤ k → step k (dig (m + 1) n j) s = some (st s (dig (m + 1) n j))) (s : T) :
  ∃ K, ∀ k,K ≤ k → lists step k (n : Int) (m : Int) (List.replicate n 0) s = some ((allL (m + 1) n).foldl st s) := by
 have hp : 0 < (m + 1) ^ n := Nat.pow_pos (by omega)
 obtain ⟨K,hK⟩ := lists_run step st hn hm hst ((m + 1) ^ n - 1) 0 s (by omega)
 refine ⟨K,fun k hk => ?_⟩
 have := hK k hk
 rw [dig_zero,Nat.sub_add_cancel hp] at this
 rw [this,allL_dig (by omega)]
 simp only [Nat.zero_add]
theorem cyAll_l2 (n0 : Int) {m : Nat} (hm : m ≤ 50) {l : List Int} (hl : l.length ≤ 100) (out : List (List Int)) (len i : Int) (d : Nat) : ∀ (x : Nat) (next : List (List Int)) (k : Nat),x + d = m + 1 → next.length + d ≤ 1000000 →
  spec_cyAll.l2 (k + d + 1) n0 (m : Int) next l (x : Int) out len i = spec_cyAll.l1 k n0 (m : Int) (next ++ (List.range d).map fun (y : Nat) => l ++ [((x + y : Nat) : Int)]) out len (wrap64 (i + 1)) := by
 induction d with
 | zero =>
  intro x next k hx hn
  simp only [spec_cyAll.l2]
  rw [if_neg (by omega)];simp
 | succ d ih =>
  intro x next k hx hn
  rw [show k + (d + 1) + 1 = (k + d + 1) + 1 by omega]
  generalize hq : k + d + 1 = q
  simp only [spec_cyAll.l2]
  rw [if_pos (by omega),l1Own_eq (by omega),Option.bind_some,if_pos (by omega),if_pos (by omega),wrap_succ (by omega), ← hq,ih (x + 1) _ k (by omega) (by simp only [List.length_append,List.length_cons,List.length_nil];omega),List.range_succ_eq_map]
  simp only [List.map_cons,List.map_map,Function.comp_def,List.append_assoc,List.singleton_append,Nat.add_zero]
  rw [show (fun (y : Nat) => l ++ [((x + 1 + y : Nat) : Int)]) = (fun (y : Nat) => l ++ [((x + y.succ : Nat) : Int)]) by funext y;congr 3;omega]
theorem cyAll_l1 (n0 : Int) {m : Nat} (hm : m ≤ 50) : ∀ (rest pre next : List (List Int)) (k : Nat),(∀ l ∈ rest,l.length ≤ 100) → (pre ++ rest).length ≤ 1000000 → next.length + rest.length * (m + 1) ≤ 1000000 →
  spec_cyAll.l1 (k + rest.length * (m + 3) + 1) n0 (m : Int) next (pre ++ rest) ((pre ++ rest).length : Int) (pre.length : Int) = spec_cyAll.l0 k (wrap64 (n0 - 1)) (m : Int) (next ++ rest.flatMap fun l => (List.range (m + 1)).map fun (y : Nat) => l ++ [(y : Int)])
 | [],pre,next,k,_,_,_ => by
  simp only [spec_cyAll.l1,List.length_nil,Nat.zero_mul,Nat.add_zero]
  rw [if_neg (by simp)];simp
 | l :: rs,pre,next,k,hl,hp,hn => by
  have hlt : ((pre.length : Nat) : Int) < ((pre ++ l :: rs).length : Int) := by simp only [List.length_append,List.length_cons];omega
  have hp' : pre.length ≤ 1000000 := by simp only [List.length_append,List.length_cons] at hp;omega
  simp only [List.length_cons,Nat.succ_mul] at hn
  rw [show k + (l :: rs).length * (m + 3) + 1 = ((k + rs.length * (m + 3) + 1) + (m + 1) + 1) + 1 by simp only [List.length_cons,Nat.succ_mul];omega]
  simp only [spec_cyAll.l1]
  rw [if_pos hlt,if_pos (by omega),if_pos hlt,rowAt]
  have h2 := cyAll_l2 n0 hm (hl l List.mem_cons_self) (pre ++ l :: rs) ((pre ++ l :: rs).length : Int) (pre.length : Int) (m + 1) 0 next (k + rs.length * (m + 3) + 1) (by omega) (by omega)
  refine h2.trans ?_
  rw [wrap_succ (by omega)]
  have h3 := cyAll_l1 n0 hm rs (pre ++ [l]) (next ++ (List.range (m + 1)).map fun (y : Nat) => l ++ [((0 + y : Nat) : Int)]) k (fun x hx => hl x (List.mem_cons_of_mem _ hx)) (by simpa using hp) (by simp only [List.length_append,List.length_map,List.length_range];omega)
  simp only [List.append_assoc,List.singleton_append,List.length_append,List.length_cons,List.length_nil] at h3
  simp only [List.length_append,List.length_cons]
  refine h3.trans ?_
  simp only [List.flatMap_cons,Nat.zero_add,List.append_assoc]
theorem allL_len (B : Nat) : ∀ n, ∀ l ∈ allL B n,l.length = n
 | 0,l,h => by rw [List.mem_singleton.1 h];rfl
 | n + 1,l,h => by
  obtain ⟨a,ha,h⟩ := List.mem_flatMap.1 h
  obtain ⟨y,_,rfl⟩ := List.mem_map.1 h
  rw [List.length_append,allL_len B n a ha];rfl
theorem pow_b {m a : Nat} (hm : m ≤ 8) (ha : a ≤ 4) : (m + 1) ^ a ≤ 6561 :=
 Nat.le_trans (Nat.pow_le_pow_left (show m + 1 ≤ 9 by omega) a) (Nat.le_trans (Nat.pow_le_pow_right (show 0 < 9 by omega) ha) (by decide))
theorem cyAll_l0 {m : Nat} (hm : m ≤ 8) : ∀ (n a : Nat),a + n ≤ 4 → ∃ c, ∀ k,spec_cyAll.l0 (k + c) (n : Int) (m : Int) (allL (m + 1) a) = some (allL (m + 1) (a + n))
 | 0,a,h => ⟨1,fun k => by simp only [spec_cyAll.l0];rw [if_neg (by omega)];rfl⟩
 | n + 1,a,h => by
  obtain ⟨c,hc⟩ := cyAll_l0 hm n (a + 1) (by omega)
  have hl := len_allL (B := m + 1) (by omega) a
  have h1 := pow_b hm (show a ≤ 4 by omega)
  have h2 := pow_b hm (show a + 1 ≤ 4 by omega)
  rw [Nat.pow_succ] at h2
  refine ⟨c + (allL (m + 1) a).length * (m + 3) + 1 + 1,fun k => ?_⟩
  rw [show k + (c + (allL (m + 1) a).length * (m + 3) + 1 + 1) = ((k + c) + (allL (m + 1) a).length * (m + 3) + 1) + 1 by omega]
  simp only [spec_cyAll.l0]
  rw [if_pos (by omega)]
  have h3 := cyAll_l1 ((n + 1 : Nat) : Int) (show m ≤ 50 by omega) (allL (m + 1) a) [] [] (k + c) (fun l hl => by rw [allL_len _ _ l hl];omega) (by simp only [List.nil_append];omega) (by simp only [List.length_nil,Nat.zero_add];rw [hl];omega)
  simp only [List.nil_append,List.length_nil] at h3
  refine h3.trans ?_
  rw [wrap_id (by omega) (by omega),show ((n + 1 : Nat) : Int) - 1 = (n : Int) by omega]
  have := hc k
  rw [show a + 1 + n = a + (n + 1) by omega] at this
  exact this
theorem cyAll_ev {n m : Nat} (hn : n ≤ 4) (hm : m ≤ 8) : ∃ K, ∀ k,K ≤ k → spec_cyAll.f k (n : Int) (m : Int) = some (allL (m + 1) n) := by
 obtain ⟨c,hc⟩ := cyAll_l0 hm n 0 (by omega)
 refine ⟨c,fun k hk => ?_⟩
 unfold spec_cyAll.f
 have := hc (k - c)
 rw [show k - c + c = k by omega,Nat.zero_add] at this
 exact this
theorem cyFew_eq (a b : Int) : spec_cyFew.f a b = some (inB 2 4 a && inB 0 8 b) := by
 unfold spec_cyFew.f
 rw [l1In_eq,l1In_eq,Option.bind_some]
 cases inB 2 4 a <;> rfl
theorem dig_nice {n m j : Nat} (h1 : 2 ≤ n) (h2 : n ≤ 4) (hm : m ≤ 8) : Nice (dig (m + 1) n j) :=
 ⟨by rw [len_dig];exact h1,by rw [len_dig];omega,fun i hi => by have := dig_b (B := m + 1) (by omega) n j _ (g_mem hi);omega⟩
theorem allL_nice {n m : Nat} (h1 : 2 ≤ n) (h2 : n ≤ 4) (hm : m ≤ 8) : ∀ l ∈ allL (m + 1) n,Nice l := fun l hl => by
 rw [allL_dig (by omega)] at hl
 obtain ⟨j,_,rfl⟩ := List.mem_map.1 hl
 exact dig_nice h1 h2 hm
/-- The numbers in the other order. -/
def cmir (l : List Int) : List Int := (List.range l.length).map fun i => g l (l.length - 1 - i)
theorem len_cmir (l : List Int) : (cmir l).length = l.length := by simp [cmir]
theorem g_cmir {l : List Int} {j : Nat} (h : j < l.length) : g (cmir l) j = g l (l.length - 1 - j) := by unfold cmir;rw [g_range _ _ _ h]
theorem Nice.mir {l : List Int} (h : Nice l) : Nice (cmir l) :=
 ⟨by rw [len_cmir];exact h.lo,by rw [len_cmir];exact h.hi,fun j hj => by rw [len_cmir] at hj;rw [g_cmir hj];exact h.b _ (by omega)⟩
def sst (s : List Int × Int) (l : List Int) : List Int × Int := if ((crun big l).1 : Int) > s.2 then (l,((crun big l).1 : Int)) else s
theorem implSlow_step {l : List Int} (h : Nice l) (s : List Int × Int) : ∃ K, ∀ k,K ≤ k → impl_SlowestCircle.step k l s = some (sst s l) := by
 obtain ⟨K,hK⟩ := rest_ev h
 have hi := h.hi
 refine ⟨K,fun k hk => ?_⟩
 unfold impl_SlowestCircle.step sst
 rw [hK k hk,Option.bind_some]
 simp only
 by_cases c : ((crun big l).1 : Int) > s.2
 ·rw [if_pos c,if_pos c,Clone_eq (by omega)];rfl
 ·rw [if_neg c,if_neg c]
theorem specSlow_l0 : ∀ (rest pre : List (List Int)) (s : List Int × Int),(∀ l ∈ rest,Nice l) → (pre ++ rest).length ≤ 1000000 → ∃ K, ∀ k,K ≤ k → spec_SlowestCircle.l0 k (pre ++ rest) (pre.length : Int) s.1 s.2 = some ((rest.foldl sst s).1,(rest.foldl sst s).2,true)
 | [],pre,s,_,_ => ⟨1,fun k hk => by
  obtain ⟨k,rfl⟩ : ∃ m,k = m + 1 := ⟨k - 1,by omega⟩
  simp only [spec_SlowestCircle.l0]
  rw [if_neg (by simp)];rfl⟩
 | l :: rs,pre,s,hl,hp => by
  have hlt : ((pre.length : Nat) : Int) < ((pre ++ l :: rs).length : Int) := by simp only [List.length_append,List.length_cons];omega
  have hp' : pre.length ≤ 1000000 := by simp only [List.length_append,List.length_cons] at hp;omega
  have hN := hl l List.mem_cons_self
  obtain ⟨K,hK⟩ := cyRun_ev hN
  obtain ⟨K',hK'⟩ := specSlow_l0 rs (pre ++ [l]) (sst s l) (fun x hx => hl x (List.mem_cons_of_mem _ hx)) (by simpa using hp)
  refine ⟨K + K' + 1,fun k hk => ?_⟩
  obtain ⟨k,rfl⟩ : ∃ m,k = m + 1 := ⟨k - 1,by omega⟩
  have := hK' k (by omega)
  simp only [List.append_assoc,List.singleton_append,List.length_append,List.length_cons,List.length_nil] at this
  simp only [spec_SlowestCircle.l0]
  rw [if_pos hlt,if_pos (by omega),rowAt,hK k (by omega),Option.bind_some]
  simp only
  rw [wrap_succ (by omega),List.foldl_cons, ← this]
  unfold sst
  by_cases c : ((crun big l).1 : Int) > s.2
  ·rw [if_pos c,if_pos c]
  ·rw [if_neg c,if_neg c]
theorem sst_len {M : Nat} : ∀ (rs : List (List Int)) (s : List Int × Int),(∀ l ∈ rs,l.length ≤ M) → s.1.length ≤ M → (rs.foldl sst s).1.length ≤ M
 | [],s,_,h => h
 | l :: rs,s,hl,h => by
  rw [List.foldl_cons]
  refine sst_len rs _ (fun x hx => hl x (List.mem_cons_of_mem _ hx)) ?_
  unfold sst
  split
  ·exact hl l List.mem_cons_self
  ·exact h
theorem SlowestCircle_both (a b : Int) : ∃ (K : Nat) (r : List Int × Int × Bool),r.1.length ≤ 1099511627776 ∧ (∀ k,K ≤ k → spec_SlowestCircle.f k a b = some r) ∧ (∀ k,K ≤ k → impl_SlowestCircle.f k a b = some r) := by
 have es : ∀ k,spec_SlowestCircle.f k a b = if (inB 2 4 a && inB 0 8 b) = true then (spec_cyAll.f k a b).bind (fun xs => spec_SlowestCircle.l0 k xs 0 [] (-1)) else some ([],0,false) := fun k => by
  unfold spec_SlowestCircle.f
  rw [cyFew_eq,Option.bind_some]
 have ei : ∀ k,impl_SlowestCircle.f k a b = if (inB 2 4 a && inB 0 8 b) = true then (lists impl_SlowestCircle.step k a b (List.replicate a.toNat 0) ([], -1)).bind (fun c => some (c.1,c.2,true)) else some ([],0,false) := fun k => by
  unfold impl_SlowestCircle.f
  rw [within_eq,within_eq]
  cases inB 2 4 a <;> cases inB 0 8 b <;> rfl
 by_cases h : (inB 2 4 a && inB 0 8 b) = true
 ·have h' := h
  rw [Bool.and_eq_true,inB_iff,inB_iff] at h'
  obtain ⟨ha,hb⟩ := h'
  obtain ⟨n,rfl⟩ : ∃ n : Nat,a = (n : Int) := ⟨a.toNat,by omega⟩
  obtain ⟨m,rfl⟩ : ∃ n : Nat,b = (n : Int) := ⟨b.toNat,by omega⟩
  obtain ⟨K1,hK1⟩ := cyAll_ev (n := n) (m := m) (by omega) (by omega)
  have hN := allL_nice (n := n) (m := m) (by omega) (by omega) (by omega)
  have hL := len_allL (B := m + 1) (by omega) n
  have hP := pow_b (m := m) (a := n) (by omega) (by omega)
  obtain ⟨K2,hK2⟩ := specSlow_l0 (allL (m + 1) n) [] ([], -1) hN (by simp only [List.nil_append];omega)
  obtain ⟨K3,hK3⟩ := lists_all impl_SlowestCircle.step sst (n := n) (m := m) (by omega) (by omega) (fun j s _ => implSlow_step (dig_nice (by omega) (by omega) (by omega)) s) ([], -1)
  refine ⟨K1 + K2 + K3 + 1,(((allL (m + 1) n).foldl sst ([], -1)).1,((allL (m + 1) n).foldl sst ([], -1)).2,true),?_,fun k hk => ?_,fun k hk => ?_⟩
  ·have := sst_len (M := 4) (allL (m + 1) n) ([], -1) (fun l hl => by rw [allL_len _ _ l hl];omega) (by simp)
   simp only;omega
  ·rw [es,if_pos h,hK1 k (by omega),Option.bind_some]
   exact hK2 k (by omega)
  ·rw [ei,if_pos h,Int.toNat_natCast,hK3 k (by omega)];rfl
 ·refine ⟨1,([],0,false),by simp,fun k hk => ?_,fun k hk => ?_⟩
  ·rw [es,if_neg h]
  ·rw [ei,if_neg h]
theorem FnExactSlowestCircle : laws_FnExactSlowestCircle.Pure := by
 intro a b _ _
 obtain ⟨K,r,hr,hs,hi⟩ := SlowestCircle_both a b
 have hEr : ∀ k,r.1.length < k → laws_eqIntS.f k r.1 r.1 = some true := fun k hk => eqIntS_at hr hk
 have hMr : ∀ k,r.1.length < k → laws_markIntS.f k r.1 1 = some ((1 : Int) + (r.1.length : Int),marks 1 r.1.length) := fun k hk => markIntS_at (by omega) (by omega) hr hk
 have hHr : ∀ k,r.1.length < k → laws_heldIntS.f k (marks 1 r.1.length) 1 = some ((1 : Int) + (r.1.length : Int)) := fun k hk => heldIntS_at (by omega) (by omega) hr hk
 have hn2 : ¬ ((1 : Int) + (r.1.length : Int) < 0) := by omega
 refine ⟨K + r.1.length + 8,?_⟩
 unfold laws_FnExactSlowestCircle.f
 simp (disch := omega) only [eq_self,hs,hi,Option.bind_some,bne_self_eq_false,if_true,if_false,Bool.false_eq_true,Bool.true_eq_false,hEr,hMr,hHr,if_neg hn2]
 simp only [laws_FnExactSlowestCircle.j0]
 simp (disch := omega) only [eq_self,hs,hi,Option.bind_some,bne_self_eq_false,if_true,if_false,Bool.false_eq_true,Bool.true_eq_false,hEr,hMr,hHr,if_neg hn2]
 simp only [laws_FnExactSlowestCircle.j1]
 simp (disch := omega) only [eq_self,hs,hi,Option.bind_some,bne_self_eq_false,if_true,if_false,Bool.false_eq_true,Bool.true_eq_false,hEr,hMr,hHr,if_neg hn2]
end Go.Proofs.Ytpcalkaamfhejaa.Pure
