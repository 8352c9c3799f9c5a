/- The statement FnExactPlayMixes over numbers and lists alone, and what it is proved by.
Conditions: those of the statement. -/
import Derived.Test.YtmkpngmdikbbeaaPx0
import Derived.Test.YtmkpngmdikbbeaaPx1
import Derived.Test.YtmkpngmdikbbeaaPx2
import Derived.Test.YtmkpngmdikbbeaaPx3
import Derived.Test.YtmkpngmdikbbeaaPx5
import Derived.Test.YtmkpngmdikbbeaaPx6
import Derived.Test.YtmkpngmdikbbeaaPx7
import Derived.Test.YtmkpngmdikbbeaaPx8
import Derived.Test.YtmkpngmdikbbeaaPx9
import Derived.Test.YtmkpngmdikbbeaaPx11
import Derived.Test.YtmkpngmdikbbeaaPx12
import Derived.Test.YtmkpngmdikbbeaaPx14
import Derived.Test.YtmkpngmdikbbeaaPx18
import Derived.Test.YtmkpngmdikbbeaaPx19
import Derived.Test.YtmkpngmdikbbeaaPx20
import Derived.Test.YtmkpngmdikbbeaaPx21
namespace Go.Proofs.Ytmkpngmdikbbeaa.Pure
open Go.RowKit Go.Proofs.Ytmkpngmdikbbeaa.P Go.Proofs.YtmkpngmdikbbeaaW.PrintWords Go.Proofs.YtmkpngmdikbbeaaW.PrintLast
set_option linter.unusedSimpArgs false
set_option linter.unusedVariables false

theorem wrap_id {x : Int} (h0 : -9223372036854775808 ≤ x) (h1 : x ≤ 9223372036854775807) : wrap64 x = x := by
 unfold wrap64;omega
theorem wrap_succ {i : Nat} (h : i < 1152921504606846976) : wrap64 ((i : Int) + 1) = ((i + 1 : Nat) : Int) := by
 rw [wrap_id (by omega) (by omega)];omega
theorem rd_lt {l : List Int} {i : Nat} (h : i < l.length) : rd l (i : Int) = l[i] := by
 simp [rd,List.getD_eq_getElem?_getD,List.getElem?_eq_getElem h]
theorem toIntS_l0 (l : List Int) (hl : l.length ≤ 1099511627776) (d : Nat) : ∀ (k : Nat) (out : List Int) (i : Nat),i + d = l.length → out.length = l.length → d < k →
  laws_toIntS.l0 k l out i = some (out.take i ++ l.drop i) := by
 induction d with
 | zero =>
  intro k out i hi ho hk
  obtain ⟨k,rfl⟩ : ∃ m,k = m + 1 := ⟨k - 1,by omega⟩
  simp only [laws_toIntS.l0]
  rw [if_neg (by omega),List.take_of_length_le (by omega),List.drop_of_length_le (by omega),List.append_nil]
 | succ d ih =>
  intro k out i hi ho hk
  obtain ⟨k,rfl⟩ : ∃ m,k = m + 1 := ⟨k - 1,by omega⟩
  simp only [laws_toIntS.l0]
  rw [if_pos (by omega),if_pos (by omega),if_pos (by omega),wrap_succ (by omega),ih k _ (i + 1) (by omega) (by simpa using ho) (by omega)]
  congr 1
  rw [Int.toNat_natCast,rd_lt (by omega),List.drop_eq_getElem_cons (show i < l.length by omega),List.take_succ_eq_append_getElem (by simp;omega)]
  simp [List.take_set_of_le,List.getElem_set]
theorem toIntS_at {l : List Int} (hl : l.length ≤ 1099511627776) {k : Nat} (hk : l.length < k) : laws_toIntS.f k l = some l := by
 unfold laws_toIntS.f
 rw [if_pos (by omega),if_pos (by omega)]
 have := toIntS_l0 l hl l.length k (List.replicate l.length 0) 0 (by omega) (by simp) hk
 simpa using this
theorem eqIntS_l0 (l : List Int) (hl : l.length ≤ 1099511627776) (d : Nat) : ∀ (k : Nat) (i : Nat),i + d = l.length → d < k → laws_eqIntS.l0 k l l i = some true := by
 induction d with
 | zero =>
  intro k i hi hk
  obtain ⟨k,rfl⟩ : ∃ m,k = m + 1 := ⟨k - 1,by omega⟩
  simp only [laws_eqIntS.l0]
  rw [if_neg (by omega)]
 | succ d ih =>
  intro k i hi hk
  obtain ⟨k,rfl⟩ : ∃ m,k = m + 1 := ⟨k - 1,by omega⟩
  simp only [laws_eqIntS.l0]
  rw [if_pos (by omega),if_pos (by omega),if_pos (by omega),if_pos trivial,wrap_succ (by omega)]
  exact ih k (i + 1) (by omega) (by omega)
theorem eqIntS_at {l : List Int} (hl : l.length ≤ 1099511627776) {k : Nat} (hk : l.length < k) : laws_eqIntS.f k l l = some true := by
 unfold laws_eqIntS.f
 rw [if_pos rfl]
 exact eqIntS_l0 l hl l.length k 0 (by omega) hk
/-- The numbers from m on. -/
def marks (m : Int) (n : Nat) : List Int := (List.range n).map fun (i : Nat) => m + (i : Int)
theorem marks_len (m : Int) (n : Nat) : (marks m n).length = n := by simp [marks]
theorem marks_get (m : Int) (n i : Nat) (h : i < (marks m n).length) : (marks m n)[i] = m + (i : Int) := by simp [marks]
theorem markIntS_l0 (m : Int) (n : Nat) (hm : 0 ≤ m) (hm2 : m ≤ 1099511627776) (hn : n ≤ 1099511627776) (d : Nat) : ∀ (k : Nat) (l : List Int) (i : Nat),i + d = n → l.length = n → d < k →
  laws_markIntS.l0 k l (m + (i : Int)) (i : Int) = some (m + n,l.take i ++ (marks m n).drop i) := by
 induction d with
 | zero =>
  intro k l i hi hl hk
  obtain ⟨k,rfl⟩ : ∃ m,k = m + 1 := ⟨k - 1,by omega⟩
  simp only [laws_markIntS.l0]
  rw [if_neg (by omega),List.take_of_length_le (by omega),List.drop_of_length_le (by rw [marks_len];omega),List.append_nil]
  congr 3;omega
 | succ d ih =>
  intro k l i hi hl hk
  obtain ⟨k,rfl⟩ : ∃ m,k = m + 1 := ⟨k - 1,by omega⟩
  simp only [laws_markIntS.l0]
  rw [if_pos (by omega),if_pos (by omega),wrap_succ (by omega),wrap_id (by omega) (by omega)]
  rw [show m + (i : Int) + 1 = m + ((i + 1 : Nat) : Int) by omega,ih k _ (i + 1) (by omega) (by simpa using hl) (by omega)]
  congr 2
  rw [Int.toNat_natCast,List.drop_eq_getElem_cons (show i < (marks m n).length by rw [marks_len];omega),marks_get,List.take_succ_eq_append_getElem (by simp;omega)]
  simp [List.take_set_of_le]
theorem markIntS_at {m : Int} {l : List Int} (hm : 0 ≤ m) (hm2 : m ≤ 1099511627776) (hl : l.length ≤ 1099511627776) {k : Nat} (hk : l.length < k) : laws_markIntS.f k l m = some (m + l.length,marks m l.length) := by
 unfold laws_markIntS.f
 have := markIntS_l0 m l.length hm hm2 hl l.length k l 0 (by omega) rfl hk
 simpa using this
theorem heldIntS_l0 (m : Int) (n : Nat) (hm : 0 ≤ m) (hm2 : m ≤ 1099511627776) (hn : n ≤ 1099511627776) (d : Nat) : ∀ (k : Nat) (i : Nat),i + d = n → d < k →
  laws_heldIntS.l0 k (marks m n) (m + (i : Int)) (i : Int) = some (m + n) := by
 induction d with
 | zero =>
  intro k i hi hk
  obtain ⟨k,rfl⟩ : ∃ m,k = m + 1 := ⟨k - 1,by omega⟩
  simp only [laws_heldIntS.l0]
  rw [marks_len,if_neg (by omega)]
  congr 2;omega
 | succ d ih =>
  intro k i hi hk
  obtain ⟨k,rfl⟩ : ∃ m,k = m + 1 := ⟨k - 1,by omega⟩
  simp only [laws_heldIntS.l0]
  rw [marks_len,if_pos (by omega),if_pos (by omega),rd_lt (by rw [marks_len];omega),marks_get,if_pos rfl,wrap_succ (by omega),wrap_id (by omega) (by omega)]
  rw [show m + (i : Int) + 1 = m + ((i + 1 : Nat) : Int) by omega,ih k (i + 1) (by omega) (by omega)]
theorem heldIntS_at {m : Int} {n : Nat} (hm : 0 ≤ m) (hm2 : m ≤ 1099511627776) (hn : n ≤ 1099511627776) {k : Nat} (hk : n < k) : laws_heldIntS.f k (marks m n) m = some (m + n) := by
 unfold laws_heldIntS.f
 have := heldIntS_l0 m n hm hm2 hn n k 0 (by omega) hk
 simpa using this
/-- How many numbers lie in rows. -/
def totSS : List (List Int) → Nat
 | [] => 0
 | r :: rs => r.length + totSS rs
/-- Rows of the same lengths,with the numbers from m on. -/
def marksSS : Int → List (List Int) → List (List Int)
 | _,[] => []
 | m,r :: rs => marks m r.length :: marksSS (m + r.length) rs
theorem rowAt (pre rest : List (List Int)) (r : List Int) : rd_L1 (pre ++ r :: rest) ((pre.length : Nat) : Int) = r := by
 simp [rd_L1,List.getD_eq_getElem?_getD]
theorem eqIntSS_l0 : ∀ (rest pre : List (List Int)) (k : Nat),(pre ++ rest).length ≤ 1099511627776 → totSS rest ≤ 1099511627776 → totSS rest + rest.length < k → laws_eqIntSS.l0 k (pre ++ rest) (pre ++ rest) (pre.length : Int) = some true
 | [],pre,k,_,_,hk => by
  obtain ⟨k,rfl⟩ : ∃ m,k = m + 1 := ⟨k - 1,by omega⟩
  simp only [laws_eqIntSS.l0]
  rw [if_neg (by simp)]
 | r :: rs,pre,k,hp,ht,hk => by
  obtain ⟨k,rfl⟩ : ∃ m,k = m + 1 := ⟨k - 1,by omega⟩
  simp only [totSS,List.length_cons,List.length_append] at hk ht hp
  have hlt : ((pre.length : Nat) : Int) < ((pre ++ r :: rs).length : Int) := by simp only [List.length_append,List.length_cons];omega
  simp only [laws_eqIntSS.l0]
  rw [if_pos hlt,if_pos (by omega),if_pos hlt,rowAt,eqIntS_at (by omega) (by omega),Option.bind_some,if_pos rfl,wrap_succ (by omega)]
  have := eqIntSS_l0 rs (pre ++ [r]) k (by simp only [List.length_append,List.length_cons,List.length_nil];omega) (by omega) (by omega)
  simpa using this
theorem eqIntSS_at {rs : List (List Int)} (hl : rs.length ≤ 1099511627776) (ht : totSS rs ≤ 1099511627776) {k : Nat} (hk : totSS rs + rs.length < k) : laws_eqIntSS.f k rs rs = some true := by
 unfold laws_eqIntSS.f
 rw [if_pos rfl]
 exact eqIntSS_l0 rs [] k hl ht hk
theorem markIntSS_l0 : ∀ (rest pre : List (List Int)) (m : Int) (k : Nat),0 ≤ m → m + totSS rest ≤ 1099511627776 → (pre ++ rest).length ≤ 1099511627776 → totSS rest + rest.length < k → laws_markIntSS.l0 k (pre ++ rest) m (pre.length : Int) = some (m + totSS rest,pre ++ marksSS m rest)
 | [],pre,m,k,_,_,_,hk => by
  obtain ⟨k,rfl⟩ : ∃ m,k = m + 1 := ⟨k - 1,by omega⟩
  simp only [laws_markIntSS.l0]
  rw [if_neg (by simp)]
  simp [totSS,marksSS]
 | r :: rs,pre,m,k,h0,hm,hp,hk => by
  obtain ⟨k,rfl⟩ : ∃ m,k = m + 1 := ⟨k - 1,by omega⟩
  simp only [totSS,List.length_cons,List.length_append] at hk hm hp
  have hlt : ((pre.length : Nat) : Int) < ((pre ++ r :: rs).length : Int) := by simp only [List.length_append,List.length_cons];omega
  have he : (pre ++ r :: rs).getD ((pre.length : Nat) : Int).toNat [] = r := rowAt pre rs r
  simp only [laws_markIntSS.l0]
  rw [if_pos hlt,if_pos (by omega),he,markIntS_at h0 (by omega) (by omega) (by omega),Option.bind_some,wrap_succ (by omega)]
  have := markIntSS_l0 rs (pre ++ [marks m r.length]) (m + r.length) k (by omega) (by omega) (by simp only [List.length_append,List.length_cons,List.length_nil];omega) (by omega)
  simp only [List.length_append,List.length_cons,List.length_nil,List.append_assoc,List.singleton_append] at this
  rw [Int.toNat_natCast,List.set_append_right _ _ (Nat.le_refl _),Nat.sub_self,List.set_cons_zero]
  rw [show pre.length + 1 = pre.length + (0 + 1) from rfl,this]
  simp only [totSS,marksSS]
  congr 2
  omega
theorem markIntSS_at {m : Int} {rs : List (List Int)} (h0 : 0 ≤ m) (hm : m + totSS rs ≤ 1099511627776) (hl : rs.length ≤ 1099511627776) {k : Nat} (hk : totSS rs + rs.length < k) : laws_markIntSS.f k rs m = some (m + totSS rs,marksSS m rs) :=
 markIntSS_l0 rs [] m k h0 hm hl hk
/-- The number at a place,0 beyond the list. -/
def g (l : List Int) (i : Nat) : Int := l.getD i 0
theorem g_ge {l : List Int} {i : Nat} (h : l.length ≤ i) : g l i = 0 := by
 simp [g,List.getD_eq_getElem?_getD,List.getElem?_eq_none h]
theorem g_lt {l : List Int} {i : Nat} (h : i < l.length) : g l i = l[i] := by
 simp [g,List.getD_eq_getElem?_getD,List.getElem?_eq_getElem h]
theorem g_mem {l : List Int} {i : Nat} (h : i < l.length) : g l i ∈ l := by
 rw [g_lt h];exact List.getElem_mem h
theorem mem_g {l : List Int} {x : Int} (h : x ∈ l) : ∃ i,i < l.length ∧ g l i = x := by
 obtain ⟨i,hi,rfl⟩ := List.getElem_of_mem h
 exact ⟨i,hi,g_lt hi⟩
theorem ext_g {a b : List Int} (h : a.length = b.length) (hg : ∀ i,i < a.length → g a i = g b i) : a = b := by
 apply List.ext_getElem h
 intro i h1 h2
 have := hg i h1
 rwa [g_lt h1,g_lt h2] at this
theorem g_set (l : List Int) (i : Nat) (v : Int) (j : Nat) : g (l.set i v) j = if i = j ∧ j < l.length then v else g l j := by
 by_cases hj : j < l.length
 ·rw [g_lt (by simpa using hj),g_lt hj,List.getElem_set]
  by_cases e : i = j <;> simp [e,hj]
 ·rw [g_ge (by simp;omega),g_ge (by omega),if_neg (by omega)]
theorem g_range (n : Nat) (f : Nat → Int) (j : Nat) (hj : j < n) : g ((List.range n).map f) j = f j := by
 rw [g_lt (by simpa using hj)];simp
theorem g_map (l : List Int) (f : Int → Int) (j : Nat) (hj : j < l.length) : g (l.map f) j = f (g l j) := by
 rw [g_lt (by simpa using hj),g_lt hj];simp
/-- One place fires. -/
def fire1 (l : List Int) (i : Nat) : List Int :=
 (List.range l.length).map fun j => g l j - (if j = i then 2 else 0) + (if j + 1 = i then 1 else 0) + (if j = i + 1 then 1 else 0)
/-- The places that can fire. -/
def places (l : List Int) : List Nat := (List.range l.length).filter fun i => decide (2 ≤ g l i)
theorem rd_g (l : List Int) (i : Nat) : rd l (i : Int) = g l i := by simp [rd,g]
theorem inB_iff {p q x : Int} : inB p q x = true ↔ p ≤ x ∧ x ≤ q := by simp [inB]
/-- Valid chips,as a Bool. -/
def good (l : List Int) : Bool := decide (1 ≤ l.length) && decide (l.length ≤ 20) && l.all (inB 0 60)
theorem within_eq (a b c : Int) : impl_within.f a b c = some (inB b c a) := by
 unfold impl_within.f inB
 by_cases h : a ≥ b <;> simp [h] <;> omega
theorem l1In_eq (a b c : Int) : spec_l1In.f a b c = some (inB b c a) := by
 unfold spec_l1In.f inB
 by_cases h : a ≥ b <;> simp [h] <;> omega
theorem l1All_l0 (p q : Int) (l : List Int) (hl : l.length ≤ 1099511627776) (d : Nat) : ∀ (k : Nat) (i : Nat),i + d = l.length → d < k →
  spec_l1All.l0 k p q l (l.length : Int) (i : Int) = some ((l.drop i).all (inB p q)) := by
 induction d with
 | zero =>
  intro k i hi hk
  obtain ⟨k,rfl⟩ : ∃ m,k = m + 1 := ⟨k - 1,by omega⟩
  simp only [spec_l1All.l0]
  rw [if_neg (by omega),List.drop_of_length_le (by omega)];rfl
 | succ d ih =>
  intro k i hi hk
  obtain ⟨k,rfl⟩ : ∃ m,k = m + 1 := ⟨k - 1,by omega⟩
  simp only [spec_l1All.l0]
  rw [if_pos (by omega),if_pos (by omega),if_pos (by omega),l1In_eq,rd_lt (by omega),List.drop_eq_getElem_cons (show i < l.length by omega),List.all_cons]
  simp only [Option.bind_some]
  by_cases h : inB p q l[i] = true
  ·rw [if_pos h,h,wrap_succ (by omega),ih k (i + 1) (by omega) (by omega)];rfl
  ·rw [if_neg h,Bool.eq_false_iff.2 h];rfl
theorem l1All_at (p q : Int) {l : List Int} (hl : l.length ≤ 1099511627776) {k : Nat} (hk : l.length < k) : spec_l1All.f k l p q = some (l.all (inB p q)) := by
 unfold spec_l1All.f
 have := l1All_l0 p q l hl l.length k 0 (by omega) hk
 simpa using this
theorem take_snoc (l : List Int) (i : Nat) (h : i < l.length) : l.take (i + 1) = l.take i ++ [g l i] := by
 rw [List.take_succ_eq_append_getElem h,g_lt h]
theorem l1Own_eq {l : List Int} (h : l.length ≤ 1099511627776) : spec_l1Own.f l = some l := by
 unfold spec_l1Own.f
 simp only [Option.bind_some,List.length_nil,List.nil_append]
 rw [if_pos (by omega)]
theorem Clone_eq {l : List Int} (h : l.length ≤ 1099511627776) : slices_Clone_int_int_41.f l = some l := by
 unfold slices_Clone_int_int_41.f
 rw [if_pos (by omega)]
/-- Two lists of chips of as many places. -/
def both (a b : List Int) : Bool := good a && good b && (a.length == b.length)
/-- Firings of places in an order,if each of them can fire. -/
def play (l : List Int) : List Int → Option (List Int)
 | [] => some l
 | p :: ps => if 0 ≤ p ∧ p < l.length ∧ 2 ≤ g l p.toNat then play (fire1 l p.toNat) ps else none
theorem tdiv2 {x : Int} (h : 0 ≤ x) : Int.tdiv x 2 = x / 2 := Int.tdiv_eq_ediv_of_nonneg h
theorem beq_oddx (x : Int) : (Int.tmod x 2 == 1) = oddx x := by
 unfold oddx;rw [Bool.eq_iff_iff,beq_iff_eq,decide_eq_true_eq]
/-- Valid cups,as a Bool. -/
def vcup (l : List Int) (u : Int) : Bool := inB 2 6 (l.length : Int) && (inB 1 1048576 u && (Go.bits .and .i64 u (wrap64 (u - 1)) == 0)) && l.all (inB 0 (wrap64 (1000 * u))) && (decide (u = 1) || l.any oddx)
theorem contains_odd1 (l : List Int) : slices_ContainsFunc_int_int.f l 53 = some (l.any oddx) := by
 unfold slices_ContainsFunc_int_int.f;rw [if_pos (by rfl)]
theorem impl_AreCups_at (l : List Int) (u : Int) {k : Nat} (hk : 1 ≤ k) : impl_AreCups.f k l u = some (vcup l u) := by
 obtain ⟨k,rfl⟩ : ∃ m,k = m + 1 := ⟨k - 1,by omega⟩
 unfold impl_AreCups.f vcup
 rw [within_eq,within_eq]
 simp only [Option.bind_some,impl_AreCups.j0,contains_odd1,impl_areIn.f]
 cases h1 : inB 2 6 (l.length : Int) with
 | false => simp
 | true =>
  cases h2 : inB 1 1048576 u with
  | false => simp
  | true =>
   generalize Go.bits .and .i64 u (wrap64 (u - 1)) = b
   by_cases h3 : b = 0
   ·subst h3
    cases h4 : l.all (inB 0 (wrap64 (1000 * u))) with
    | false => simp
    | true => by_cases h5 : u = 1 <;> simp [h5]
   ·have h4 : (b != 0) = true := by simpa using h3
    have h5 : (b == 0) = false := by simpa using h3
    rw [h4,h5];simp
theorem cuUnit_eq (u : Int) : spec_cuUnit.f u = some (inB 1 1048576 u && (Go.bits .and .i64 u (wrap64 (u - 1)) == 0)) := by
 unfold spec_cuUnit.f
 rw [l1In_eq]
 cases h2 : inB 1 1048576 u with
 | false => rfl
 | true => simp
theorem cuGood_l0 {l : List Int} (hL : l.length ≤ 1099511627776) (l' : List Int) (u : Int) (d : Nat) : ∀ (k i : Nat) (b : Bool),i + d = l.length → d < k →
  spec_cuGood.l0 k b l (l.length : Int) (i : Int) l' u = some (decide (u = 1) || (b || (l.drop i).any oddx)) := by
 induction d with
 | zero =>
  intro k i b hi hk
  obtain ⟨k,rfl⟩ : ∃ m,k = m + 1 := ⟨k - 1,by omega⟩
  simp only [spec_cuGood.l0]
  rw [if_neg (by omega),List.drop_eq_nil_of_le (by omega)]
  by_cases h : u = 1 <;> simp [h]
 | succ d ih =>
  intro k i b hi hk
  obtain ⟨k,rfl⟩ : ∃ m,k = m + 1 := ⟨k - 1,by omega⟩
  simp only [spec_cuGood.l0]
  rw [if_pos (by omega),if_pos (by omega),if_pos (by omega),wrap_succ (by omega),beq_oddx,rd_g,ih k (i + 1) _ (by omega) (by omega),ih k (i + 1) _ (by omega) (by omega),List.drop_eq_getElem_cons (by omega : i < l.length),List.any_cons,g_lt (by omega)]
  cases b <;> simp
theorem cuGood_at {l : List Int} (hL : l.length ≤ 1099511627776) (u : Int) {k : Nat} (hk : l.length + 1 < k) : spec_cuGood.f k l u = some (vcup l u) := by
 obtain ⟨k,rfl⟩ : ∃ m,k = m + 1 := ⟨k - 1,by omega⟩
 have e : ∀ b,spec_cuGood.j0 (k + 1) b l u = some (!b && (decide (u = 1) || l.any oddx)) := fun b => by
  simp only [spec_cuGood.j0]
  cases b with
  | true => simp
  | false =>
   have := cuGood_l0 hL l u l.length k 0 false (by omega) (by omega)
   simpa using this
 unfold spec_cuGood.f vcup
 rw [l1In_eq,cuUnit_eq,l1All_at _ _ hL (by omega)]
 simp only [Option.bind_some,e]
 cases inB 2 6 (l.length : Int) with
 | false => simp
 | true =>
  cases (inB 1 1048576 u && (Go.bits .and .i64 u (wrap64 (u - 1)) == 0)) with
  | false => simp
  | true => simp
/-- What valid cups are. -/
structure VCup (l : List Int) (u : Int) : Prop where
 lo : 2 ≤ l.length
 hi : l.length ≤ 6
 u1 : 1 ≤ u
 u2 : u ≤ 1048576
 b : ∀ j,j < l.length → 0 ≤ g l j ∧ g l j ≤ 1000 * u
theorem vcup_V {l : List Int} {u : Int} (h : vcup l u = true) : VCup l u := by
 simp only [vcup,Bool.and_eq_true,List.all_eq_true] at h
 obtain ⟨⟨⟨h1,h2,_⟩,h3⟩,_⟩ := h
 have h1 := inB_iff.1 h1;have h2 := inB_iff.1 h2
 refine ⟨by omega,by omega,h2.1,h2.2,fun j hj => ?_⟩
 have := inB_iff.1 (h3 _ (g_mem hj))
 rw [wrap_id (by omega) (by omega)] at this;exact this
theorem VCup.b' {l : List Int} {u : Int} (h : VCup l u) : ∀ j,j < l.length → 0 ≤ g l j ∧ g l j ≤ 1099511627776 := fun j hj => by
 have h1 := h.b j hj;have h2 := h.u2;omega
theorem szCups_in {l : List Int} (u : Int) (h : l.length ≤ 1048576) : laws_szCups.f l u 1048576 = some (1048576 - (l.length : Int)) := by
 unfold laws_szCups.f laws_szIntS.f
 rw [wrap_id (by omega) (by omega),if_neg (by omega),Option.bind_some,if_neg (by omega)]
theorem szCups_out {l : List Int} (u : Int) (h : ¬ l.length ≤ 1048576) (hm : l.length ≤ maxLen) : laws_szCups.f l u 1048576 = some (-1) := by
 simp only [maxLen] at hm
 unfold laws_szCups.f laws_szIntS.f
 rw [wrap_id (by omega) (by omega),if_pos (by omega)];rfl
theorem toCups_at {l : List Int} (hl : l.length ≤ 1099511627776) (u : Int) {k : Nat} (hk : l.length < k) : laws_toCups.f k l u = some (l,u) := by
 unfold laws_toCups.f;rw [toIntS_at hl hk];rfl
theorem eqCups_at {l : List Int} (hl : l.length ≤ 1099511627776) (u : Int) {k : Nat} (hk : l.length < k) : laws_eqCups.f k l u l u = some true := by
 unfold laws_eqCups.f;rw [eqIntS_at hl hk,Option.bind_some,if_pos rfl,if_pos rfl]
theorem and_i64_nat (a b : Nat) (ha : a < 9223372036854775808) (hb : b < 9223372036854775808) : Go.bits .and .i64 (a : Int) (b : Int) = ((a &&& b : Nat) : Int) := by
 have h : a &&& b ≤ a := Nat.and_le_left
 have h1 : (BitVec.ofInt 64 (a : Int)).toNat = a := by
  rw [BitVec.ofInt_natCast,BitVec.toNat_ofNat];exact Nat.mod_eq_of_lt (by omega)
 have h2 : (BitVec.ofInt 64 (b : Int)).toNat = b := by
  rw [BitVec.ofInt_natCast,BitVec.toNat_ofNat];exact Nat.mod_eq_of_lt (by omega)
 show IntKind.i64.wrap ((BitVec.ofInt 64 (a : Int) &&& BitVec.ofInt 64 (b : Int)).toNat : Int) = _
 rw [BitVec.toNat_and,h1,h2,i64_w,wrap_id (by omega) (by omega)]
/-- A unit,as the code asks for it. -/
def isUnit (u : Int) : Bool := inB 1 1048576 u && (Go.bits .and .i64 u (wrap64 (u - 1)) == 0)
theorem isUnit_iff (u : Int) : isUnit u = true ↔ ∃ e : Nat,e ≤ 20 ∧ u = ((2 ^ e : Nat) : Int) := by
 unfold isUnit
 rw [Bool.and_eq_true,inB_iff,beq_iff_eq]
 have key : ∀ n : Nat,1 ≤ n → n ≤ 1048576 → (Go.bits .and .i64 (n : Int) (wrap64 ((n : Int) - 1)) = 0 ↔ ∃ e : Nat,n = 2 ^ e) := fun n h1 h2 => by
  have e : wrap64 ((n : Int) - 1) = ((n - 1 : Nat) : Int) := by rw [wrap_id (by omega) (by omega)];omega
  rw [e,and_i64_nat n (n - 1) (by omega) (by omega)]
  have := Nat.and_sub_one_eq_zero_iff_isPowerOfTwo (n := n) (by omega)
  constructor
  ·intro h;exact this.1 (by omega)
  ·intro h;have := this.2 h;omega
 constructor
 ·intro ⟨⟨h1,h2⟩,h3⟩
  obtain ⟨n,rfl⟩ : ∃ n : Nat,u = (n : Int) := ⟨u.toNat,by omega⟩
  obtain ⟨e,he⟩ := (key n (by omega) (by omega)).1 h3
  refine ⟨e,?_,by rw [he]⟩
  rcases Nat.lt_or_ge 20 e with h | h
  ·have : 2 ^ 21 ≤ 2 ^ e := Nat.pow_le_pow_right (by omega) (by omega)
   omega
  ·exact h
 ·intro ⟨e,he,hu⟩
  have h1 : 2 ^ e ≤ 2 ^ 20 := Nat.pow_le_pow_right (by omega) he
  have h2 : 0 < 2 ^ e := Nat.pow_pos (by omega)
  subst hu
  exact ⟨⟨by omega,by omega⟩,(key (2 ^ e) (by omega) (by omega)).2 ⟨e,rfl⟩⟩
theorem isUnit_b {u : Int} (h : isUnit u = true) : 1 ≤ u ∧ u ≤ 1048576 := by
 unfold isUnit at h
 rw [Bool.and_eq_true,inB_iff] at h;exact h.1
theorem vcup_def (l : List Int) (u : Int) : vcup l u = (inB 2 6 (l.length : Int) && isUnit u && l.all (inB 0 (wrap64 (1000 * u))) && (decide (u = 1) || l.any oddx)) := rfl
/-- Each halved. -/
def halved (l : List Int) : List Int := l.map fun x => x / 2
theorem len_halved (l : List Int) : (halved l).length = l.length := by simp [halved]
theorem g_halved {l : List Int} {j : Nat} (h : j < l.length) : g (halved l) j = g l j / 2 := g_map l _ j h
/-- Lowered so many times at most. -/
def red : Nat → List Int → Int → List Int × Int
 | 0,l,u => (l,u)
 | n + 1,l,u => if u > 1 ∧ l.any oddx = false then red n (halved l) (u / 2) else (l,u)
def halfFrom (l : List Int) (i : Nat) : List Int := (List.range l.length).map fun j => if i ≤ j then g l j / 2 else g l j
theorem len_halfFrom (l : List Int) (i : Nat) : (halfFrom l i).length = l.length := by simp [halfFrom]
theorem g_halfFrom {l : List Int} (i : Nat) {j : Nat} (h : j < l.length) : g (halfFrom l i) j = if i ≤ j then g l j / 2 else g l j := by unfold halfFrom;rw [g_range _ _ _ h]
theorem halfFrom_zero (l : List Int) : halfFrom l 0 = halved l := by
 apply ext_g (by rw [len_halfFrom,len_halved])
 intro j hj;rw [len_halfFrom] at hj
 rw [g_halfFrom _ hj,g_halved hj,if_pos (by omega)]
theorem halfFrom_end {l : List Int} {i : Nat} (h : l.length ≤ i) : halfFrom l i = l := by
 apply ext_g (len_halfFrom l i)
 intro j hj;rw [len_halfFrom] at hj
 rw [g_halfFrom _ hj,if_neg (by omega)]
theorem halfFrom_set {l : List Int} {i : Nat} (h : i < l.length) : halfFrom (l.set i (g l i / 2)) (i + 1) = halfFrom l i := by
 apply ext_g (by rw [len_halfFrom,len_halfFrom,List.length_set])
 intro j hj;rw [len_halfFrom,List.length_set] at hj
 rw [g_halfFrom _ (by rw [List.length_set];exact hj),g_halfFrom _ hj]
 have e1 : g (l.set i (g l i / 2)) j = if i = j then g l i / 2 else g l j := by
  rw [g_set]
  by_cases e : i = j
  ·rw [if_pos ⟨e,hj⟩,if_pos e]
  ·rw [if_neg (fun q => e q.1),if_neg e]
 rw [e1]
 by_cases e : i = j
 ·subst e;rw [if_neg (by omega),if_pos rfl,if_pos (by omega)]
 ·rw [if_neg e]
  by_cases q : i ≤ j
  ·rw [if_pos q,if_pos (by omega)]
  ·rw [if_neg q,if_neg (by omega)]
/-- Numbers that never leave their range. -/
def Low (l : List Int) : Prop := l.length ≤ 1099511627776 ∧ ∀ j,j < l.length → 0 ≤ g l j ∧ g l j ≤ 1125899906842624
theorem Low.halved {l : List Int} (h : Low l) : Low (halved l) := ⟨by rw [len_halved];exact h.1,fun j hj => by rw [len_halved] at hj;rw [g_halved hj];have := h.2 j hj;omega⟩
theorem reduced_l1 (u : Int) (d : Nat) : ∀ (k i : Nat) (l : List Int),i + d = l.length → Low l → impl_reduced.l1 (k + d + 1) (l.length : Int) (i : Int) l u = impl_reduced.l0 k (halfFrom l i) u := by
 induction d with
 | zero =>
  intro k i l hi hl
  simp only [impl_reduced.l1]
  rw [if_neg (by omega),halfFrom_end (by omega)]
 | succ d ih =>
  intro k i l hi hl
  have h1 := hl.1;have h2 := hl.2 i (by omega)
  generalize hm : k + (d + 1) = m
  simp only [impl_reduced.l1]
  rw [if_pos (by omega),if_pos (by omega),if_pos (by omega),rd_g,tdiv2 h2.1,wrap_id (x := g l i / 2) (by omega) (by omega),wrap_succ (by omega),Int.toNat_natCast,show m = k + d + 1 by omega, ← halfFrom_set (l := l) (by omega)]
  have := ih k (i + 1) (l.set i (g l i / 2)) (by rw [List.length_set];omega) ⟨by rw [List.length_set];exact h1,fun j hj => by
   rw [List.length_set] at hj
   rw [g_set];split
   ·omega
   ·exact hl.2 j hj⟩
  rw [List.length_set] at this
  exact this
theorem cuLow_l2 (u : Int) (d : Nat) : ∀ (k i : Nat) (l : List Int),i + d = l.length → Low l → spec_cuLow.l2 (k + d + 1) (l.length : Int) (i : Int) l u = spec_cuLow.l0 k (halfFrom l i) (wrap64 (Int.tdiv u 2)) := by
 induction d with
 | zero =>
  intro k i l hi hl
  simp only [spec_cuLow.l2]
  rw [if_neg (by omega),halfFrom_end (by omega)]
 | succ d ih =>
  intro k i l hi hl
  have h1 := hl.1;have h2 := hl.2 i (by omega)
  generalize hm : k + (d + 1) = m
  simp only [spec_cuLow.l2]
  rw [if_pos (by omega),if_pos (by omega),if_pos (by omega),rd_g,tdiv2 h2.1,wrap_id (x := g l i / 2) (by omega) (by omega),wrap_succ (by omega),Int.toNat_natCast,show m = k + d + 1 by omega, ← halfFrom_set (l := l) (by omega)]
  have := ih k (i + 1) (l.set i (g l i / 2)) (by rw [List.length_set];omega) ⟨by rw [List.length_set];exact h1,fun j hj => by
   rw [List.length_set] at hj
   rw [g_set];split
   ·omega
   ·exact hl.2 j hj⟩
  rw [List.length_set] at this
  exact this
theorem cuLow_l1 {l : List Int} (u : Int) (hl : Low l) (d : Nat) : ∀ (k i : Nat),i + d = l.length →
  spec_cuLow.l1 (k + d + 1) l (l.length : Int) (i : Int) l u = if (l.drop i).any oddx = true then some (l,u) else spec_cuLow.l2 k (l.length : Int) 0 l u := by
 induction d with
 | zero =>
  intro k i hi
  simp only [spec_cuLow.l1]
  rw [if_neg (by omega),List.drop_eq_nil_of_le (by omega)];simp
 | succ d ih =>
  intro k i hi
  have h1 := hl.1
  generalize hm : k + (d + 1) = m
  simp only [spec_cuLow.l1]
  rw [if_pos (by omega),if_pos (by omega),if_pos (by omega),rd_g,wrap_succ (by omega),List.drop_eq_getElem_cons (by omega : i < l.length),List.any_cons, ← g_lt (by omega)]
  by_cases c : Int.tmod (g l i) 2 = 1
  ·have e : oddx (g l i) = true := decide_eq_true c
   rw [if_pos c,e];simp
  ·have e : oddx (g l i) = false := decide_eq_false c
   rw [if_neg c,e,Bool.false_or,show m = k + d + 1 by omega]
   exact ih k (i + 1) (by omega)
theorem contains_odd2 (l : List Int) : slices_ContainsFunc_int_int.f l 75 = some (l.any oddx) := by
 unfold slices_ContainsFunc_int_int.f;rw [if_pos (by rfl)]
theorem reduced_l0 (n : Nat) : ∀ (l : List Int) (u : Int),Low l → 0 ≤ u → u < n → u ≤ 1125899906842624 → ∃ K, ∀ k,K ≤ k → impl_reduced.l0 k l u = some (red n l u) := by
 induction n with
 | zero => intro l u _ h;omega
 | succ n ih =>
  intro l u hl h0 hn hu
  by_cases c : u > 1 ∧ l.any oddx = false
  ·obtain ⟨K,hK⟩ := ih (halved l) (u / 2) hl.halved (by omega) (by omega) (by omega)
   refine ⟨K + l.length + 3,fun k hk => ?_⟩
   obtain ⟨k,rfl⟩ : ∃ m,k = m + l.length + 1 + 1 + 1 := ⟨k - l.length - 3,by omega⟩
   simp only [impl_reduced.l0,impl_reduced.j1]
   rw [if_pos c.1,contains_odd2,c.2,Option.bind_some,Bool.not_false,if_pos rfl,tdiv2 h0,wrap_id (by omega) (by omega)]
   have := reduced_l1 (u / 2) l.length k 0 l (by omega) hl
   refine Eq.trans this ?_
   rw [halfFrom_zero,hK k (by omega)]
   simp only [red];rw [if_pos c]
  ·refine ⟨3,fun k hk => ?_⟩
   obtain ⟨k,rfl⟩ : ∃ m,k = m + 1 + 1 := ⟨k - 2,by omega⟩
   simp only [impl_reduced.l0,impl_reduced.j1,contains_odd2,red]
   rw [if_neg c]
   by_cases c1 : u > 1
   ·have e : l.any oddx = true := by
     cases q : l.any oddx with
     | true => rfl
     | false => exact absurd ⟨c1,q⟩ c
    rw [if_pos c1,e];simp
   ·rw [if_neg c1];simp
theorem cuLow_l0 (n : Nat) : ∀ (l : List Int) (u : Int),Low l → 0 ≤ u → u < n → u ≤ 1125899906842624 → ∃ K, ∀ k,K ≤ k → spec_cuLow.l0 k l u = some (red n l u) := by
 induction n with
 | zero => intro l u _ h;omega
 | succ n ih =>
  intro l u hl h0 hn hu
  by_cases c1 : u > 1
  ·cases q : l.any oddx with
   | false =>
    obtain ⟨K,hK⟩ := ih (halved l) (u / 2) hl.halved (by omega) (by omega) (by omega)
    refine ⟨K + l.length + l.length + 3,fun k hk => ?_⟩
    obtain ⟨k,rfl⟩ : ∃ m,k = m + l.length + 1 + l.length + 1 + 1 := ⟨k - l.length - l.length - 3,by omega⟩
    simp only [spec_cuLow.l0]
    rw [if_pos c1]
    have e1 := cuLow_l1 u hl l.length (k + l.length + 1) 0 (by omega)
    refine Eq.trans e1 ?_
    rw [List.drop_zero,q,if_neg (by decide)]
    have e2 := cuLow_l2 u l.length k 0 l (by omega) hl
    refine Eq.trans e2 ?_
    rw [tdiv2 h0,wrap_id (by omega) (by omega),halfFrom_zero,hK k (by omega)]
    simp only [red];rw [if_pos ⟨c1,q⟩]
   | true =>
    refine ⟨l.length + 3,fun k hk => ?_⟩
    obtain ⟨k,rfl⟩ : ∃ m,k = m + l.length + 1 + 1 := ⟨k - l.length - 2,by omega⟩
    simp only [spec_cuLow.l0]
    rw [if_pos c1]
    have e1 := cuLow_l1 u hl l.length k 0 (by omega)
    refine Eq.trans e1 ?_
    rw [List.drop_zero,if_pos q]
    simp only [red];rw [if_neg (by rw [q];simp)]
  ·refine ⟨1,fun k hk => ?_⟩
   obtain ⟨k,rfl⟩ : ∃ m,k = m + 1 := ⟨k - 1,by omega⟩
   simp only [spec_cuLow.l0,red]
   rw [if_neg c1,if_neg (fun x => c1 x.1)]
theorem len_red (n : Nat) : ∀ l u,(red n l u).1.length = l.length := by
 induction n with
 | zero => intro l u;rfl
 | succ n ih => intro l u;simp only [red];split;rw [ih,len_halved];rfl
theorem red_succ (n : Nat) (l : List Int) (u : Int) : red (n + 1) l u = if u > 1 ∧ l.any oddx = false then red n (halved l) (u / 2) else (l,u) := rfl
theorem red_done (n : Nat) : ∀ (l : List Int) (u : Int),1 ≤ u → u < n → 1 ≤ (red n l u).2 ∧ (red n l u).2 ≤ u ∧ ((red n l u).2 = 1 ∨ (red n l u).1.any oddx = true) := by
 induction n with
 | zero => intro l u h1 h;omega
 | succ n ih =>
  intro l u h1 hn
  have e := red_succ n l u
  by_cases c : u > 1 ∧ l.any oddx = false
  ·rw [if_pos c] at e
   rw [e]
   have := ih (halved l) (u / 2) (by omega) (by omega)
   exact ⟨this.1,by have := this.2.1;omega,this.2.2⟩
  ·rw [if_neg c] at e
   rw [e]
   refine ⟨h1,Int.le_refl _,?_⟩
   show u = 1 ∨ l.any oddx = true
   by_cases q : u = 1
   ·exact Or.inl q
   ·cases q2 : l.any oddx with
    | true => exact Or.inr rfl
    | false => exact absurd ⟨by omega,q2⟩ c
def dbl (l : List Int) : List Int := l.map fun x => 2 * x
theorem len_dbl (l : List Int) : (dbl l).length = l.length := by simp [dbl]
theorem g_dbl {l : List Int} {j : Nat} (h : j < l.length) : g (dbl l) j = 2 * g l j := g_map l _ j h
theorem vcup_unit {l : List Int} {u : Int} (h : vcup l u = true) : isUnit u = true := by
 rw [vcup_def] at h
 simp only [Bool.and_eq_true] at h
 exact h.1.1.2
theorem pow_half {u : Int} (h : ∃ e : Nat,u = ((2 ^ e : Nat) : Int)) (h1 : 1 < u) : (∃ e : Nat,u / 2 = ((2 ^ e : Nat) : Int)) ∧ u % 2 = 0 := by
 obtain ⟨e,he⟩ := h
 match e,he with
 | 0,he => simp at he;omega
 | e + 1,he =>
  rw [Nat.pow_succ] at he
  exact ⟨⟨e,by omega⟩,by omega⟩
theorem red_bound (n : Nat) : ∀ (l : List Int) (u : Int),(∃ e : Nat,u = ((2 ^ e : Nat) : Int)) → (∀ j,j < l.length → 0 ≤ g l j ∧ g l j ≤ 1000 * u) → ∀ j,j < (red n l u).1.length → 0 ≤ g (red n l u).1 j ∧ g (red n l u).1 j ≤ 1000 * (red n l u).2 := by
 induction n with
 | zero => intro l u _ h;exact h
 | succ n ih =>
  intro l u h hb
  rw [red_succ]
  by_cases c : u > 1 ∧ l.any oddx = false
  ·rw [if_pos c]
   have hp := pow_half h c.1
   exact ih _ _ hp.1 fun j hj => by
    rw [len_halved] at hj;rw [g_halved hj]
    have := hb j hj;have := hp.2;omega
  ·rw [if_neg c];exact hb
/-- Lowered cups are valid just if their unit is one. -/
theorem vcup_low {l : List Int} {u : Int} (n : Nat) (h1 : 2 ≤ l.length) (h2 : l.length ≤ 6) (hp : ∃ e : Nat,u = ((2 ^ e : Nat) : Int)) (hu : 1 ≤ u) (hn : u < n) (hb : ∀ j,j < l.length → 0 ≤ g l j ∧ g l j ≤ 1000 * u) : vcup (red n l u).1 (red n l u).2 = isUnit (red n l u).2 := by
 have hd := red_done n l u hu hn
 have hl := len_red n l u
 have hbb := red_bound n l u hp hb
 rw [vcup_def]
 have e1 : inB 2 6 ((red n l u).1.length : Int) = true := inB_iff.2 (by omega)
 have e2 : (decide ((red n l u).2 = 1) || (red n l u).1.any oddx) = true := by
  rcases hd.2.2 with q | q
  ·rw [decide_eq_true q];rfl
  ·rw [q];simp
 rw [e1,e2]
 cases q : isUnit (red n l u).2 with
 | false => rfl
 | true =>
  have hq := isUnit_b q
  have e3 : (red n l u).1.all (inB 0 (wrap64 (1000 * (red n l u).2))) = true := by
   rw [List.all_eq_true]
   intro x hx
   obtain ⟨j,hj,rfl⟩ := mem_g hx
   have := hbb j hj
   rw [wrap_id (by omega) (by omega)]
   exact inB_iff.2 this
  rw [e3];rfl
/-- The parts behind a mix. -/
def mixl (l : List Int) (a b : Nat) : List Int := (List.range l.length).map fun j => if j = a ∨ j = b then g l a + g l b else 2 * g l j
theorem len_mixl (l : List Int) (a b : Nat) : (mixl l a b).length = l.length := by simp [mixl]
theorem g_mixl {l : List Int} (a b : Nat) {j : Nat} (h : j < l.length) : g (mixl l a b) j = if j = a ∨ j = b then g l a + g l b else 2 * g l j := by unfold mixl;rw [g_range _ _ _ h]
theorem mixl_b {l : List Int} {u : Int} (h : ∀ j,j < l.length → 0 ≤ g l j ∧ g l j ≤ 1000 * u) {a b : Nat} (ha : a < l.length) (hb : b < l.length) : ∀ j,j < (mixl l a b).length → 0 ≤ g (mixl l a b) j ∧ g (mixl l a b) j ≤ 1000 * (2 * u) := fun j hj => by
 rw [len_mixl] at hj;rw [g_mixl _ _ hj]
 have h1 := h a ha;have h2 := h b hb;have h3 := h j hj
 split <;> omega
theorem mix_set {l : List Int} {a b : Nat} (ha : a < l.length) (hb : b < l.length) : ((dbl l).set a (g l a + g l b)).set b (g l a + g l b) = mixl l a b := by
 apply ext_g (by rw [List.length_set,List.length_set,len_dbl,len_mixl])
 intro j hj
 rw [List.length_set,List.length_set,len_dbl] at hj
 rw [g_mixl _ _ hj,g_set,List.length_set,len_dbl,g_set,len_dbl,g_dbl hj]
 by_cases e1 : j = b
 ·rw [if_pos ⟨e1.symm,hj⟩,if_pos (Or.inr e1)]
 ·rw [if_neg (fun q => e1 q.1.symm)]
  by_cases e2 : j = a
  ·rw [if_pos ⟨e2.symm,hj⟩,if_pos (Or.inl e2)]
  ·rw [if_neg (fun q => e2 q.1.symm),if_neg (fun q => q.elim e2 e1)]
/-- Cups as both find them in play: valid but for the unit's bound. -/
structure Fits (l : List Int) (u : Int) : Prop where
 lo : 2 ≤ l.length
 hi : l.length ≤ 6
 u1 : 1 ≤ u
 u2 : u ≤ 1048576
 p : ∃ e : Nat,u = ((2 ^ e : Nat) : Int)
 b : ∀ j,j < l.length → 0 ≤ g l j ∧ g l j ≤ 1000 * u
theorem vcup_fits {l : List Int} {u : Int} (h : vcup l u = true) : Fits l u := by
 have hv := vcup_V h
 obtain ⟨e,_,he⟩ := (isUnit_iff u).1 (vcup_unit h)
 exact ⟨hv.lo,hv.hi,hv.u1,hv.u2,⟨e,he⟩,hv.b⟩
theorem mixl_low {l : List Int} {u : Int} (h : Fits l u) {a b : Nat} (ha : a < l.length) (hb : b < l.length) : Low (mixl l a b) := by
 have h1 := h.hi;have h2 := h.u2
 exact ⟨by rw [len_mixl];omega,fun j hj => by have := mixl_b h.b ha hb j hj;omega⟩
/-- Cups behind a mix. -/
def mixu (l : List Int) (u : Int) (a b : Nat) : List Int × Int := red ((2 * u).toNat + 1) (mixl l a b) (2 * u)
theorem pow_two {u : Int} (h : ∃ e : Nat,u = ((2 ^ e : Nat) : Int)) : ∃ e : Nat,2 * u = ((2 ^ e : Nat) : Int) := by
 obtain ⟨e,he⟩ := h
 exact ⟨e + 1,by rw [Nat.pow_succ];omega⟩
theorem len_mixu (l : List Int) (u : Int) (a b : Nat) : (mixu l u a b).1.length = l.length := by unfold mixu;rw [len_red,len_mixl]
theorem vcup_mixu {l : List Int} {u : Int} (h : Fits l u) {a b : Nat} (ha : a < l.length) (hb : b < l.length) : vcup (mixu l u a b).1 (mixu l u a b).2 = isUnit (mixu l u a b).2 := by
 have h1 := h.u1
 exact vcup_low _ (by rw [len_mixl];exact h.lo) (by rw [len_mixl];exact h.hi) (pow_two h.p) (by omega) (by omega) (mixl_b h.b ha hb)
theorem impl_mix_l0 {l : List Int} {u : Int} (h : Fits l u) {a b : Nat} (ha : a < l.length) (hb : b < l.length) (u0 : Int) (d : Nat) : ∀ (k i : Nat),i + d = l.length →
  impl_mix.l0 (k + d + 1) (a : Int) (b : Int) l (l.length : Int) (i : Int) l u0 ((dbl l).take i) (2 * u) = (impl_reduced.f k (mixl l a b) (2 * u)).bind fun bt => some (bt.1,bt.2) := by
 induction d with
 | zero =>
  intro k i hi
  have h1 := h.hi;have h3 := h.u2;have b1 := h.b a ha;have b2 := h.b b hb
  simp only [impl_mix.l0]
  rw [if_neg (by omega),List.take_of_length_le (by rw [len_dbl];omega),if_pos (by omega),if_pos (by omega),if_pos (by omega),if_pos (by omega),len_dbl,if_pos (by omega),if_pos (by omega),rd_g,rd_g,wrap_id (x := g l a + g l b) (by omega) (by omega),Int.toNat_natCast,Int.toNat_natCast,mix_set ha hb]
 | succ d ih =>
  intro k i hi
  have h1 := h.hi;have h2 := h.b i (by omega);have h3 := h.u2
  generalize hm : k + (d + 1) = m
  simp only [impl_mix.l0]
  rw [if_pos (by omega),if_pos (by omega),if_pos (by omega),if_pos (by rw [List.length_take,len_dbl];omega),rd_g,wrap_id (x := 2 * g l i) (by omega) (by omega),wrap_succ (by omega),show m = k + d + 1 by omega]
  have := ih k (i + 1) (by omega)
  rw [take_snoc _ _ (by rw [len_dbl];omega),g_dbl (by omega)] at this
  exact this
theorem impl_mix_ev {l : List Int} {u : Int} (h : Fits l u) {a b : Nat} (ha : a < l.length) (hb : b < l.length) : ∃ K, ∀ k,K ≤ k → impl_mix.f k l u (a : Int) (b : Int) = some (mixu l u a b) := by
 have h1 := h.u1;have h2 := h.u2;have h3 := h.hi
 obtain ⟨K,hK⟩ := reduced_l0 ((2 * u).toNat + 1) (mixl l a b) (2 * u) (mixl_low h ha hb) (by omega) (by omega) (by omega)
 refine ⟨K + l.length + 1,fun k hk => ?_⟩
 obtain ⟨k,rfl⟩ : ∃ m,k = m + l.length + 1 := ⟨k - l.length - 1,by omega⟩
 unfold impl_mix.f
 rw [wrap_id (x := 2 * u) (by omega) (by omega)]
 have e := impl_mix_l0 h ha hb u l.length k 0 (by omega)
 refine Eq.trans e ?_
 unfold impl_reduced.f
 rw [hK k (by omega)];rfl
theorem spec_mix_l0 {l : List Int} {u : Int} (h : Fits l u) {a b : Nat} (ha : a < l.length) (hb : b < l.length) (d : Nat) : ∀ (k i : Nat),i + d = l.length →
  spec_cuMix.l0 (k + d + 1) (a : Int) (b : Int) (g l a + g l b) l (l.length : Int) (i : Int) ((mixl l a b).take i) (2 * u) = (spec_cuLow.f k (mixl l a b) (2 * u)).bind fun bt => (spec_cuUnit.f bt.2).bind fun t => some (bt.1,bt.2,t) := by
 induction d with
 | zero =>
  intro k i hi
  have h1 := h.hi
  simp only [spec_cuMix.l0]
  rw [if_neg (by omega),List.take_of_length_le (by rw [len_mixl];omega)]
 | succ d ih =>
  intro k i hi
  have h1 := h.hi;have h2 := h.b i (by omega);have h3 := h.u2
  have := ih k (i + 1) (by omega)
  rw [take_snoc _ _ (by rw [len_mixl];omega),g_mixl _ _ (by omega)] at this
  generalize hm : k + (d + 1) = m
  have hlim : (List.take i (mixl l a b)).length < 17592186044416 := by rw [List.length_take,len_mixl];omega
  simp only [spec_cuMix.l0]
  rw [if_pos (by omega),if_pos (by omega),if_pos (by omega),if_pos hlim,rd_g,wrap_id (x := 2 * g l i) (by omega) (by omega),wrap_succ (by omega),show m = k + d + 1 by omega]
  by_cases e1 : i = a
  ·rw [if_pos (by omega)];rw [if_pos (Or.inl e1)] at this;exact this
  ·rw [if_neg (by omega)]
   by_cases e2 : i = b
   ·rw [if_pos (by omega)];rw [if_pos (Or.inr e2)] at this;exact this
   ·rw [if_neg (by omega),if_pos hlim];rw [if_neg (fun q => q.elim e1 e2)] at this;exact this
theorem cuUnit_isUnit (u : Int) : spec_cuUnit.f u = some (isUnit u) := cuUnit_eq u
theorem spec_mix_ev {l : List Int} {u : Int} (h : Fits l u) {a b : Nat} (ha : a < l.length) (hb : b < l.length) : ∃ K, ∀ k,K ≤ k → spec_cuMix.f k l u (a : Int) (b : Int) = some ((mixu l u a b).1,(mixu l u a b).2,isUnit (mixu l u a b).2) := by
 have h1 := h.u1;have h2 := h.u2;have h3 := h.hi;have b1 := h.b a ha;have b2 := h.b b hb
 have hlow := mixl_low h ha hb
 obtain ⟨K,hK⟩ := cuLow_l0 ((2 * u).toNat + 1) (mixl l a b) (2 * u) hlow (by omega) (by omega) (by omega)
 refine ⟨K + l.length + 1,fun k hk => ?_⟩
 obtain ⟨k,rfl⟩ : ∃ m,k = m + l.length + 1 := ⟨k - l.length - 1,by omega⟩
 unfold spec_cuMix.f
 rw [if_pos (by omega),if_pos (by omega),if_pos (by omega),if_pos (by omega),rd_g,rd_g,wrap_id (x := 2 * u) (by omega) (by omega),wrap_id (x := g l a + g l b) (by omega) (by omega)]
 have e := spec_mix_l0 h ha hb l.length k 0 (by omega)
 refine Eq.trans e ?_
 unfold spec_cuLow.f
 rw [l1Own_eq hlow.1,Option.bind_some,hK k (by omega),Option.bind_some,cuUnit_isUnit];rfl
/-- A mix of so many cups,as both take it. -/
def mval (n : Nat) (m : List Int) : Bool := decide (m.length = 2) && (inB 0 ((n : Int) - 1) (g m 0) && (inB 0 ((n : Int) - 1) (g m 1) && decide (g m 0 < g m 1)))
/-- Cups behind mixes,if no unit becomes too great. -/
def mrun : List (List Int) → List Int → Int → Option (List Int × Int)
 | [],l,u => some (l,u)
 | m :: ms,l,u => if isUnit (mixu l u (g m 0).toNat (g m 1).toNat).2 = true then mrun ms (mixu l u (g m 0).toNat (g m 1).toNat).1 (mixu l u (g m 0).toNat (g m 1).toNat).2 else none
def mtell : Option (List Int × Int) → List Int × Int × Bool
 | some p => (p.1,p.2,true)
 | none => ([],0,false)
def mres (n : Nat) (ms : List (List Int)) (l : List Int) (u : Int) : List Int × Int × Bool := if ms.all (mval n) = true then mtell (mrun ms l u) else ([],0,false)
theorem mval_iff {n : Nat} {m : List Int} : mval n m = true ↔ m.length = 2 ∧ (0 ≤ g m 0 ∧ g m 0 ≤ (n : Int) - 1) ∧ (0 ≤ g m 1 ∧ g m 1 ≤ (n : Int) - 1) ∧ g m 0 < g m 1 := by
 unfold mval
 rw [Bool.and_eq_true,Bool.and_eq_true,Bool.and_eq_true,inB_iff,inB_iff,decide_eq_true_eq,decide_eq_true_eq]
theorem mres_bad {n : Nat} {m : List Int} (h : mval n m = false) (ms : List (List Int)) (l : List Int) (u : Int) : mres n (m :: ms) l u = ([],0,false) := by
 unfold mres;rw [List.all_cons,h,Bool.false_and,if_neg (by simp)]
theorem mrun_no {m : List Int} {l : List Int} {u : Int} (h : isUnit (mixu l u (g m 0).toNat (g m 1).toNat).2 = false) (ms : List (List Int)) : mrun (m :: ms) l u = none := by
 simp only [mrun];rw [h,if_neg (by simp)]
theorem mrun_go {m : List Int} {l : List Int} {u : Int} (h : isUnit (mixu l u (g m 0).toNat (g m 1).toNat).2 = true) (ms : List (List Int)) : mrun (m :: ms) l u = mrun ms (mixu l u (g m 0).toNat (g m 1).toNat).1 (mixu l u (g m 0).toNat (g m 1).toNat).2 := by
 simp only [mrun];rw [if_pos h]
theorem mres_no {n : Nat} {m : List Int} {l : List Int} {u : Int} (h : isUnit (mixu l u (g m 0).toNat (g m 1).toNat).2 = false) (ms : List (List Int)) : mres n (m :: ms) l u = ([],0,false) := by
 unfold mres;rw [mrun_no h];split <;> rfl
theorem mres_go {n : Nat} {m : List Int} {l : List Int} {u : Int} (hv : mval n m = true) (h : isUnit (mixu l u (g m 0).toNat (g m 1).toNat).2 = true) (ms : List (List Int)) : mres n (m :: ms) l u = mres n ms (mixu l u (g m 0).toNat (g m 1).toNat).1 (mixu l u (g m 0).toNat (g m 1).toNat).2 := by
 unfold mres;rw [mrun_go h,List.all_cons,hv,Bool.true_and]
theorem Fits.mix {l : List Int} {u : Int} (h : Fits l u) {a b : Nat} (ha : a < l.length) (hb : b < l.length) (hu : isUnit (mixu l u a b).2 = true) : Fits (mixu l u a b).1 (mixu l u a b).2 := vcup_fits (by rw [vcup_mixu h ha hb];exact hu)
theorem mrun_fits : ∀ (ms : List (List Int)) (l : List Int) (u : Int) (p : List Int × Int),Fits l u → (∀ m ∈ ms,mval l.length m = true) → mrun ms l u = some p → Fits p.1 p.2 ∧ p.1.length = l.length
 | [],l,u,p,h,_,e => by
  simp only [mrun,Option.some.injEq] at e
  subst e;exact ⟨h,rfl⟩
 | m :: ms,l,u,p,h,hv,e => by
  obtain ⟨h2,ha,hb,hab⟩ := mval_iff.1 (hv m List.mem_cons_self)
  cases hu : isUnit (mixu l u (g m 0).toNat (g m 1).toNat).2 with
  | false => rw [mrun_no hu] at e;cases e
  | true =>
   rw [mrun_go hu] at e
   have hl := len_mixu l u (g m 0).toNat (g m 1).toNat
   have := mrun_fits ms _ _ p (h.mix (by omega) (by omega) hu) (fun x hx => by rw [hl];exact hv x (List.mem_cons_of_mem _ hx)) e
   exact ⟨this.1,this.2.trans hl⟩
theorem red_id {n : Nat} {l : List Int} {u : Int} (h : u = 1 ∨ l.any oddx = true) : red (n + 1) l u = (l,u) := by
 rw [red_succ,if_neg]
 rintro ⟨h1,h2⟩
 rcases h with h | h
 ·omega
 ·rw [h] at h2;cases h2
theorem vcup_odd {l : List Int} {u : Int} (h : vcup l u = true) : u = 1 ∨ l.any oddx = true := by
 rw [vcup_def] at h
 simp only [Bool.and_eq_true,Bool.or_eq_true,decide_eq_true_eq] at h
 exact h.2
theorem Fits.low {l : List Int} {u : Int} (h : Fits l u) : Low l := by
 have h1 := h.hi;have h2 := h.u2
 exact ⟨by omega,fun j hj => by have := h.b j hj;omega⟩
theorem cuLow_ev {l : List Int} {u : Int} (h : vcup l u = true) : ∃ K, ∀ k,K ≤ k → spec_cuLow.f k l u = some (l,u) := by
 have hf := vcup_fits h
 have h1 := hf.u1;have h2 := hf.u2
 obtain ⟨K,hK⟩ := cuLow_l0 (u.toNat + 1) l u hf.low (by omega) (by omega) (by omega)
 refine ⟨K,fun k hk => ?_⟩
 unfold spec_cuLow.f
 rw [l1Own_eq hf.low.1,Option.bind_some,hK k hk,red_id (vcup_odd h)]
theorem cuTwo_eq (l : List Int) (u a b : Int) (hL : l.length ≤ 1099511627776) : spec_cuTwo.f l u a b = some (inB 0 ((l.length : Int) - 1) a && (inB 0 ((l.length : Int) - 1) b && (a != b))) := by
 unfold spec_cuTwo.f
 rw [wrap_id (by omega) (by omega),l1In_eq,l1In_eq,Option.bind_some]
 cases inB 0 ((l.length : Int) - 1) a with
 | false => rfl
 | true => cases inB 0 ((l.length : Int) - 1) b <;> rfl
theorem isCup_at (l : List Int) (u a : Int) (hL : l.length ≤ 1099511627776) {k : Nat} (hk : 1 ≤ k) : impl_isCup.f k l u a = some (vcup l u && inB 0 ((l.length : Int) - 1) a) := by
 unfold impl_isCup.f
 rw [impl_AreCups_at l u hk,Option.bind_some,wrap_id (by omega) (by omega),within_eq]
 cases vcup l u <;> rfl
theorem rd0 (m : List Int) : rd m 0 = g m 0 := rfl
theorem rd1 (m : List Int) : rd m 1 = g m 1 := rfl
theorem cuPlay_l0 (c : List Int) (u0 : Int) (hc : c.length ≤ 6) : ∀ (rest pre : List (List Int)) (l : List Int) (u : Int),Fits l u → l.length = c.length → (pre ++ rest).length ≤ 50 → ∃ K, ∀ k,K ≤ k → spec_cuPlay.l0 k (pre ++ rest) ((pre ++ rest).length : Int) (pre.length : Int) c u0 l u = some (mres c.length rest l u)
 | [],pre,l,u,h,hl,hp => by
  refine ⟨1,fun k hk => ?_⟩
  obtain ⟨k,rfl⟩ : ∃ m,k = m + 1 := ⟨k - 1,by omega⟩
  simp only [spec_cuPlay.l0]
  rw [if_neg (by simp)];rfl
 | m :: rs,pre,l,u,h,hl,hp => by
  have hlt : ((pre.length : Nat) : Int) < ((pre ++ m :: rs).length : Int) := by simp only [List.length_append,List.length_cons];omega
  have hp' : pre.length ≤ 50 := by simp only [List.length_append,List.length_cons] at hp;omega
  have hbad : ∀ k,spec_cuPlay.j1 (k + 1) m (pre ++ m :: rs) ((pre ++ m :: rs).length : Int) (pre.length : Int) true c u0 l u = some ([],0,false) := fun k => by
   simp only [spec_cuPlay.j1];rw [if_pos trivial]
  by_cases h2 : m.length = 2
  ·cases hv : mval c.length m with
   | false =>
    refine ⟨3,fun k hk => ?_⟩
    obtain ⟨k,rfl⟩ : ∃ m,k = m + 1 + 1 := ⟨k - 2,by omega⟩
    simp only [spec_cuPlay.l0]
    rw [if_pos hlt,if_pos (by omega),if_pos hlt,rowAt,if_pos (by omega),if_pos (by omega),if_pos (by omega),cuTwo_eq _ _ _ _ (by omega),Option.bind_some,rd0,rd1,mres_bad hv,hbad]
    unfold mval at hv
    rw [decide_eq_true h2,Bool.true_and] at hv
    cases i0 : inB 0 ((c.length : Int) - 1) (g m 0) with
    | false => rfl
    | true =>
     cases i1 : inB 0 ((c.length : Int) - 1) (g m 1) with
     | false => rfl
     | true =>
      rw [i0,i1,Bool.true_and,Bool.true_and,decide_eq_false_iff_not] at hv
      by_cases e : g m 0 = g m 1
      ·rw [show (g m 0 != g m 1) = false by rw [e];exact bne_self_eq_false _];rfl
      ·rw [show (g m 0 != g m 1) = true by rw [bne_iff_ne];exact e,decide_eq_true (show g m 0 > g m 1 by omega),hbad];rfl
   | true =>
    obtain ⟨_,ha,hb,hab⟩ := mval_iff.1 hv
    obtain ⟨i,hi⟩ : ∃ n : Nat,g m 0 = (n : Int) := ⟨(g m 0).toNat,by omega⟩
    obtain ⟨j,hj⟩ : ∃ n : Nat,g m 1 = (n : Int) := ⟨(g m 1).toNat,by omega⟩
    obtain ⟨K,hK⟩ := spec_mix_ev h (a := i) (b := j) (by omega) (by omega)
    have e1 : (g m 0).toNat = i := by omega
    have e2 : (g m 1).toNat = j := by omega
    have step : ∀ k,spec_cuPlay.l0 (k + 1 + 1) (pre ++ m :: rs) ((pre ++ m :: rs).length : Int) (pre.length : Int) c u0 l u = (spec_cuMix.f k l u (i : Int) (j : Int)).bind fun bt => (if bt.2.2 = true then spec_cuPlay.l0 k (pre ++ m :: rs) ((pre ++ m :: rs).length : Int) ((pre.length + 1 : Nat) : Int) c u0 bt.1 bt.2.1 else some ([],0,false)) := fun k => by
     simp only [spec_cuPlay.l0]
     rw [if_pos hlt,if_pos (by omega),if_pos hlt,rowAt,if_pos (by omega),if_pos (by omega),if_pos (by omega),cuTwo_eq _ _ _ _ (by omega),Option.bind_some,rd0,rd1,inB_iff.2 ha,inB_iff.2 hb,show (g m 0 != g m 1) = true by rw [bne_iff_ne];omega,decide_eq_false (show ¬ g m 0 > g m 1 by omega)]
     rw [if_pos (by rfl)]
     simp only [spec_cuPlay.j1]
     rw [if_neg (by simp),if_pos (by omega),if_pos (by omega),rd0,rd1,hi,hj,wrap_succ (by omega)]
    cases hu : isUnit (mixu l u i j).2 with
    | false =>
     refine ⟨K + 2,fun k hk => ?_⟩
     obtain ⟨k,rfl⟩ : ∃ m,k = m + 1 + 1 := ⟨k - 2,by omega⟩
     rw [step,hK k (by omega),Option.bind_some,mres_no (by rw [e1,e2];exact hu),hu];rfl
    | true =>
     obtain ⟨K',hK'⟩ := cuPlay_l0 c u0 hc rs (pre ++ [m]) (mixu l u i j).1 (mixu l u i j).2 (h.mix (by omega) (by omega) hu) (by rw [len_mixu];exact hl) (by simpa using hp)
     refine ⟨K + K' + 2,fun k hk => ?_⟩
     obtain ⟨k,rfl⟩ : ∃ m,k = m + 1 + 1 := ⟨k - 2,by omega⟩
     have := hK' k (by omega)
     simp only [List.append_assoc,List.singleton_append,List.length_append,List.length_cons,List.length_nil] at this
     rw [step,hK k (by omega),Option.bind_some,mres_go hv (by rw [e1,e2];exact hu),e1,e2,hu,if_pos rfl]
     simp only [List.length_append,List.length_cons]
     exact this
  ·refine ⟨3,fun k hk => ?_⟩
   obtain ⟨k,rfl⟩ : ∃ m,k = m + 1 + 1 := ⟨k - 2,by omega⟩
   have hv : mval c.length m = false := by unfold mval;rw [decide_eq_false h2,Bool.false_and]
   simp only [spec_cuPlay.l0]
   rw [if_pos hlt,if_pos (by omega),if_pos hlt,rowAt,if_neg (by omega),mres_bad hv,hbad]
theorem cuPlay_ev {l : List Int} {u : Int} (h : vcup l u = true) {ms : List (List Int)} (hm : ms.length ≤ 50) : ∃ K, ∀ k,K ≤ k → spec_cuPlay.f k l u ms = some (mres l.length ms l u) := by
 have hf := vcup_fits h
 obtain ⟨K,hK⟩ := cuLow_ev h
 obtain ⟨K',hK'⟩ := cuPlay_l0 l u hf.hi ms [] l u hf rfl (by simpa using hm)
 refine ⟨K + K',fun k hk => ?_⟩
 unfold spec_cuPlay.f
 rw [hK k (by omega),Option.bind_some]
 exact hK' k (by omega)
theorem implPlay_l1 (n : Nat) : ∀ (rest pre : List (List Int)) (l : List Int) (u : Int),Fits l u → l.length = n → (∀ m ∈ rest,mval n m = true) → (pre ++ rest).length ≤ 50 → ∃ K, ∀ k,K ≤ k → impl_PlayMixes.l1 k (pre ++ rest) ((pre ++ rest).length : Int) (pre.length : Int) l u = some (mtell (mrun rest l u))
 | [],pre,l,u,h,hl,_,hp => by
  refine ⟨1,fun k hk => ?_⟩
  obtain ⟨k,rfl⟩ : ∃ m,k = m + 1 := ⟨k - 1,by omega⟩
  simp only [impl_PlayMixes.l1]
  rw [if_neg (by simp)];rfl
 | m :: rs,pre,l,u,h,hl,hv,hp => by
  have hlt : ((pre.length : Nat) : Int) < ((pre ++ m :: rs).length : Int) := by simp only [List.length_append,List.length_cons];omega
  have hp' : pre.length ≤ 50 := by simp only [List.length_append,List.length_cons] at hp;omega
  obtain ⟨h2,ha,hb,hab⟩ := mval_iff.1 (hv m List.mem_cons_self)
  obtain ⟨i,hi⟩ : ∃ n : Nat,g m 0 = (n : Int) := ⟨(g m 0).toNat,by omega⟩
  obtain ⟨j,hj⟩ : ∃ n : Nat,g m 1 = (n : Int) := ⟨(g m 1).toNat,by omega⟩
  obtain ⟨K,hK⟩ := impl_mix_ev h (a := i) (b := j) (by omega) (by omega)
  have e1 : (g m 0).toNat = i := by omega
  have e2 : (g m 1).toNat = j := by omega
  have hvm := vcup_mixu h (a := i) (b := j) (by omega) (by omega)
  have step : ∀ k,K + 1 ≤ k → impl_PlayMixes.l1 (k + 1) (pre ++ m :: rs) ((pre ++ m :: rs).length : Int) (pre.length : Int) l u = if isUnit (mixu l u i j).2 = true then impl_PlayMixes.l1 k (pre ++ m :: rs) ((pre ++ m :: rs).length : Int) ((pre.length + 1 : Nat) : Int) (mixu l u i j).1 (mixu l u i j).2 else some ([],0,false) := fun k hk => by
   simp only [impl_PlayMixes.l1]
   rw [if_pos hlt,if_pos (by omega),if_pos hlt,rowAt,if_pos (by omega),if_pos (by omega),rd0,rd1,hi,hj,hK k (by omega),Option.bind_some,impl_AreCups_at _ _ (by omega),hvm,Option.bind_some,wrap_succ (by omega)]
  cases hu : isUnit (mixu l u i j).2 with
  | false =>
   refine ⟨K + 2,fun k hk => ?_⟩
   obtain ⟨k,rfl⟩ : ∃ m,k = m + 1 := ⟨k - 1,by omega⟩
   rw [step k (by omega),hu,mrun_no (by rw [e1,e2];exact hu)];rfl
  | true =>
   obtain ⟨K',hK'⟩ := implPlay_l1 n rs (pre ++ [m]) (mixu l u i j).1 (mixu l u i j).2 (h.mix (by omega) (by omega) hu) (by rw [len_mixu];exact hl) (fun x hx => hv x (List.mem_cons_of_mem _ hx)) (by simpa using hp)
   refine ⟨K + K' + 2,fun k hk => ?_⟩
   obtain ⟨k,rfl⟩ : ∃ m,k = m + 1 := ⟨k - 1,by omega⟩
   have := hK' k (by omega)
   simp only [List.append_assoc,List.singleton_append,List.length_append,List.length_cons,List.length_nil] at this
   rw [step k (by omega),hu,if_pos rfl,mrun_go (by rw [e1,e2];exact hu),e1,e2]
   simp only [List.length_append,List.length_cons]
   exact this
theorem implPlay_l0 {c : List Int} {u : Int} (h : vcup c u = true) (ms : List (List Int)) (R : List Int × Int × Bool) (K1 : Nat) : ∀ (rest pre : List (List Int)),(rest.all (mval c.length) = true → ∀ k,K1 ≤ k → impl_PlayMixes.l1 k ms (ms.length : Int) 0 c u = some R) → (pre ++ rest).length ≤ 50 → ∃ K, ∀ k,K ≤ k → impl_PlayMixes.l0 k ms (pre ++ rest) ((pre ++ rest).length : Int) (pre.length : Int) c u = some (if rest.all (mval c.length) = true then R else ([],0,false))
 | [],pre,hR,hp => by
  have hf := vcup_fits h
  have h6 := hf.hi
  refine ⟨K1 + 1,fun k hk => ?_⟩
  obtain ⟨k,rfl⟩ : ∃ m,k = m + 1 := ⟨k - 1,by omega⟩
  simp only [impl_PlayMixes.l0]
  rw [if_neg (by simp),Clone_eq (by omega),Option.bind_some,hR rfl k (by omega)];rfl
 | m :: rs,pre,hR,hp => by
  have hf := vcup_fits h
  have h6 := hf.hi
  have hlt : ((pre.length : Nat) : Int) < ((pre ++ m :: rs).length : Int) := by simp only [List.length_append,List.length_cons];omega
  have hp' : pre.length ≤ 50 := by simp only [List.length_append,List.length_cons] at hp;omega
  cases hv : mval c.length m with
  | true =>
   obtain ⟨h2,ha,hb,hab⟩ := mval_iff.1 hv
   obtain ⟨K',hK'⟩ := implPlay_l0 h ms R K1 rs (pre ++ [m]) (fun q => hR (by rw [List.all_cons,hv,q];rfl)) (by simpa using hp)
   refine ⟨K' + 2,fun k hk => ?_⟩
   obtain ⟨k,rfl⟩ : ∃ m,k = m + 1 := ⟨k - 1,by omega⟩
   have hrec := hK' k (by omega)
   simp only [List.append_assoc,List.singleton_append,List.length_append,List.length_cons,List.length_nil] at hrec
   simp only [impl_PlayMixes.l0]
   rw [if_pos hlt,if_pos (by omega),if_pos hlt,rowAt,isCup_at _ _ _ (by omega) (by omega),isCup_at _ _ _ (by omega) (by omega),h,rd0,rd1,List.all_cons,hv,if_pos (by omega),if_pos (by omega),Option.bind_some,Option.bind_some,if_pos (by omega : (1 : Int) < (m.length : Int)),inB_iff.2 ha,inB_iff.2 hb,if_pos (by rfl),if_pos (by rfl),if_neg (by omega),wrap_succ (by omega)]
   simp only [List.length_append,List.length_cons,Bool.true_and]
   exact hrec
  | false =>
   refine ⟨2,fun k hk => ?_⟩
   obtain ⟨k,rfl⟩ : ∃ m,k = m + 1 := ⟨k - 1,by omega⟩
   simp only [impl_PlayMixes.l0]
   rw [if_pos hlt,if_pos (by omega),if_pos hlt,rowAt,isCup_at _ _ _ (by omega) (by omega),isCup_at _ _ _ (by omega) (by omega),h,rd0,rd1,List.all_cons,hv]
   by_cases h2 : m.length = 2
   ·rw [if_pos (by omega),if_pos (by omega),Option.bind_some,Option.bind_some,if_pos (by omega : (1 : Int) < (m.length : Int))]
    unfold mval at hv
    rw [decide_eq_true h2] at hv
    cases i0 : inB 0 ((c.length : Int) - 1) (g m 0) with
    | false => rfl
    | true =>
     cases i1 : inB 0 ((c.length : Int) - 1) (g m 1) with
     | false => rfl
     | true =>
      rw [i0,i1,Bool.true_and,Bool.true_and,Bool.true_and,decide_eq_false_iff_not] at hv
      rw [if_pos (by rfl),if_pos (by rfl),if_pos (by omega)];rfl
   ·rw [if_neg (by omega)];rfl
theorem PlayMixes_both {l : List Int} (hL : l.length ≤ 1099511627776) (u : Int) (ms : List (List Int)) : ∃ (K : Nat) (r : List Int × Int × Bool),r.1.length ≤ 1099511627776 ∧ (∀ k,K ≤ k → spec_PlayMixes.f k l u ms = some r) ∧ (∀ k,K ≤ k → impl_PlayMixes.f k l u ms = some r) := by
 cases h : vcup l u with
 | false =>
  refine ⟨l.length + 3,([],0,false),by simp,fun k hk => ?_,fun k hk => ?_⟩
  ·unfold spec_PlayMixes.f;rw [cuGood_at hL u (by omega),h];rfl
  ·obtain ⟨k,rfl⟩ : ∃ m,k = m + 1 := ⟨k - 1,by omega⟩
   unfold impl_PlayMixes.f;rw [impl_AreCups_at l u (by omega),h,Option.bind_some,if_neg (by simp)];rfl
 | true =>
  have hf := vcup_fits h
  have h6 := hf.hi
  by_cases hm : (ms.length : Int) > 50
  ·refine ⟨l.length + 3,([],0,false),by simp,fun k hk => ?_,fun k hk => ?_⟩
   ·unfold spec_PlayMixes.f;rw [cuGood_at hL u (by omega),h,Option.bind_some,if_pos rfl,if_pos hm]
   ·obtain ⟨k,rfl⟩ : ∃ m,k = m + 1 := ⟨k - 1,by omega⟩
    unfold impl_PlayMixes.f;rw [impl_AreCups_at l u (by omega),h,Option.bind_some,if_pos rfl,decide_eq_true hm];rfl
  ·obtain ⟨K,hK⟩ := cuPlay_ev h (ms := ms) (by omega)
   have hi : ∃ K, ∀ k,K ≤ k → impl_PlayMixes.f k l u ms = some (mres l.length ms l u) := by
    have key : ∃ K1,ms.all (mval l.length) = true → ∀ k,K1 ≤ k → impl_PlayMixes.l1 k ms (ms.length : Int) 0 l u = some (mtell (mrun ms l u)) := by
     cases ha : ms.all (mval l.length) with
     | true =>
      obtain ⟨K1,hK1⟩ := implPlay_l1 l.length ms [] l u hf rfl (List.all_eq_true.1 ha) (by simp;omega)
      exact ⟨K1,fun _ => hK1⟩
     | false => exact ⟨0,fun q => by cases q⟩
    obtain ⟨K1,hK1⟩ := key
    obtain ⟨K',hK'⟩ := implPlay_l0 h ms _ K1 ms [] hK1 (by simp;omega)
    refine ⟨K' + 2,fun k hk => ?_⟩
    obtain ⟨k,rfl⟩ : ∃ m,k = m + 1 := ⟨k - 1,by omega⟩
    have := hK' k (by omega)
    unfold impl_PlayMixes.f
    rw [impl_AreCups_at l u (by omega),h,Option.bind_some,if_pos rfl,decide_eq_false hm]
    simp only [impl_PlayMixes.j0]
    rw [if_neg (by simp)]
    exact this
   obtain ⟨K',hK'⟩ := hi
   refine ⟨K + K' + l.length + 3,mres l.length ms l u,?_,fun k hk => ?_,fun k hk => hK' k (by omega)⟩
   ·unfold mres
    split
    ·rename_i ha
     cases hr : mrun ms l u with
     | none => simp [mtell]
     | some p =>
      have := mrun_fits ms l u p hf (List.all_eq_true.1 ha) hr
      simp only [mtell];omega
    ·simp
   ·unfold spec_PlayMixes.f
    rw [cuGood_at hL u (by omega),h,Option.bind_some,if_pos rfl,if_neg hm,hK k (by omega)];rfl
/-- The rows' sizes: so many numbers are left,or there are too many. -/
theorem szIntSS_l0 : ∀ (rest pre : List (List Int)) (left : Int) (k : Nat),0 ≤ left → left ≤ 1048576 → (pre ++ rest).length ≤ 1099511627776 → (∀ r ∈ rest,r.length ≤ maxLen) → rest.length < k → ∃ s,laws_szIntSS.l0 k (pre ++ rest) left (pre.length : Int) = some s ∧ (¬ s < 0 → (totSS rest : Int) ≤ left)
 | [],pre,left,k,h0,h1,hp,_,hk => by
  obtain ⟨k,rfl⟩ : ∃ m,k = m + 1 := ⟨k - 1,by omega⟩
  refine ⟨left,?_,fun _ => h0⟩
  simp only [laws_szIntSS.l0]
  rw [if_neg (by simp)]
 | r :: rs,pre,left,k,h0,h1,hp,hr,hk => by
  obtain ⟨k,rfl⟩ : ∃ m,k = m + 1 := ⟨k - 1,by omega⟩
  have hlt : ((pre.length : Nat) : Int) < ((pre ++ r :: rs).length : Int) := by simp only [List.length_append,List.length_cons];omega
  have hp' : pre.length ≤ 1099511627776 := by simp only [List.length_append,List.length_cons] at hp;omega
  have hm := hr r List.mem_cons_self
  simp only [maxLen] at hm
  simp only [List.length_cons] at hk
  have e : laws_szIntS.f r left = some (if left - (r.length : Int) < 0 then -1 else left - (r.length : Int)) := by
   unfold laws_szIntS.f
   rw [wrap_id (by omega) (by omega)]
   split <;> rfl
  simp only [laws_szIntSS.l0]
  rw [if_pos hlt,if_pos (by omega),rowAt,e,Option.bind_some,wrap_succ (by omega)]
  by_cases c : left - (r.length : Int) < 0
  ·rw [if_pos c,if_pos (by decide)]
   exact ⟨-1,rfl,fun q => absurd (by decide) q⟩
  ·rw [if_neg c,if_neg c]
   obtain ⟨s,hs,h⟩ := szIntSS_l0 rs (pre ++ [r]) (left - r.length) k (by omega) (by omega) (by simpa using hp) (fun x hx => hr x (List.mem_cons_of_mem _ hx)) (by omega)
   simp only [List.append_assoc,List.singleton_append,List.length_append,List.length_cons,List.length_nil] at hs
   exact ⟨s,hs,fun q => by have := h q;simp only [totSS];omega⟩
theorem szIntSS_at {ms : List (List Int)} {left : Int} (h0 : 0 ≤ left) (h1 : left ≤ 1048576) (hm : ms.length ≤ maxLen) (hr : ∀ r ∈ ms,r.length ≤ maxLen) : ∃ K s,laws_szIntSS.f K ms left = some s ∧ (¬ s < 0 → ms.length + totSS ms ≤ 1048576) ∧ ∀ k,K ≤ k → laws_szIntSS.f k ms left = some s := by
 simp only [maxLen] at hm
 by_cases c : left - (ms.length : Int) < 0
 ·have e : ∀ k,laws_szIntSS.f k ms left = some (-1) := fun k => by
   unfold laws_szIntSS.f;rw [wrap_id (by omega) (by omega),if_pos c]
  exact ⟨0, -1,e 0,fun q => absurd (by decide) q,fun k _ => e k⟩
 ·obtain ⟨s,hs,h⟩ := szIntSS_l0 ms [] (left - ms.length) (ms.length + 1) (by omega) (by omega) (by simp;omega) hr (by omega)
  have e : laws_szIntSS.f (ms.length + 1) ms left = some s := by
   unfold laws_szIntSS.f;rw [wrap_id (by omega) (by omega),if_neg c];exact hs
  exact ⟨ms.length + 1,s,e,fun q => by have := h q;omega,fun k hk => at_rounds (g := fun k => laws_szIntSS.f k ms left) (fun k => laws_szIntSS.mono _ _ k) hk e⟩
theorem toIntSS_l0 : ∀ (rest pre : List (List Int)) (k : Nat),(pre ++ rest).length ≤ 1099511627776 → totSS rest ≤ 1099511627776 → totSS rest + rest.length < k → laws_toIntSS.l0 k (pre ++ rest) (pre ++ List.replicate rest.length []) (pre.length : Int) = some (pre ++ rest)
 | [],pre,k,hp,ht,hk => by
  obtain ⟨k,rfl⟩ : ∃ m,k = m + 1 := ⟨k - 1,by omega⟩
  simp only [laws_toIntSS.l0]
  rw [if_neg (by simp)];simp
 | r :: rs,pre,k,hp,ht,hk => by
  obtain ⟨k,rfl⟩ : ∃ m,k = m + 1 := ⟨k - 1,by omega⟩
  simp only [totSS,List.length_cons,List.length_append] at hk ht hp
  have hlt : ((pre.length : Nat) : Int) < ((pre ++ r :: rs).length : Int) := by simp only [List.length_append,List.length_cons];omega
  have hlt2 : ((pre.length : Nat) : Int) < ((pre ++ List.replicate (r :: rs).length []).length : Int) := by simp only [List.length_append,List.length_cons,List.length_replicate];omega
  simp only [laws_toIntSS.l0]
  rw [if_pos hlt,if_pos (by omega),rowAt,toIntS_at (by omega) (by omega),Option.bind_some,if_pos hlt2,wrap_succ (by omega),Int.toNat_natCast]
  have := toIntSS_l0 rs (pre ++ [r]) k (by simp only [List.length_append,List.length_cons,List.length_nil];omega) (by omega) (by omega)
  simp only [List.length_append,List.length_cons,List.length_nil,List.append_assoc,List.singleton_append] at this
  rw [List.set_append_right _ _ (Nat.le_refl _),Nat.sub_self,List.length_cons,List.replicate_succ,List.set_cons_zero]
  exact this
theorem toIntSS_at {ms : List (List Int)} (hl : ms.length ≤ 1099511627776) (ht : totSS ms ≤ 1099511627776) {k : Nat} (hk : totSS ms + ms.length < k) : laws_toIntSS.f k ms = some ms := by
 unfold laws_toIntSS.f
 rw [if_pos (by omega),if_pos (by omega),Int.toNat_natCast]
 exact toIntSS_l0 ms [] k hl ht hk
theorem FnExactPlayMixes (l : List Int) (u : Int) (ms : List (List Int)) (hm : l.length ≤ maxLen) (hw : ∀ x ∈ l,(Lit.int .i64 x).wf = true) (hu : (Lit.int .i64 u).wf = true) (hms : ms.length ≤ maxLen) (hr : ∀ r ∈ ms,r.length ≤ maxLen) : laws_FnExactPlayMixes.Ok l u ms := by
 by_cases hl : l.length ≤ 1048576
 ·obtain ⟨K2,s2,hs2,hb,hs⟩ := szIntSS_at (left := 1048576 - (l.length : Int)) (by omega) (by omega) hms hr
  by_cases c : s2 < 0
  ·exact .inr (.inl ⟨K2,_,s2,szCups_in u hl,by omega,hs2,c⟩)
  ·have hb := hb c
   obtain ⟨K,r,hrl,hsp,him⟩ := PlayMixes_both (l := l) (by omega) u ms
   refine .inr (.inr ⟨K + K2 + l.length + totSS ms + ms.length + r.1.length + 8,r.1,r.2.1,r.2.2,1048576 - (l.length : Int),s2,1 + (l.length : Int),1 + (l.length : Int) + (totSS ms : Int),1 + (r.1.length : Int),marks 1 l.length,marksSS (1 + (l.length : Int)) ms,marks 1 r.1.length,?_⟩)
   exact { sz1 := szCups_in u hl,p1 := by omega,sz2 := hs _ (by omega),p2 := c,toC := toCups_at (by omega) u (by omega),toM := toIntSS_at (by omega) (by omega) (by omega),sp := hsp _ (by omega),im := him _ (by omega),eqr := eqCups_at hrl _ (by omega),eqx := eqCups_at (by omega) u (by omega),eqm := eqIntSS_at (by omega) (by omega) (by omega),mk1 := (by unfold laws_markCups.f;rw [markIntS_at (by omega) (by omega) (by omega) (by omega)];rfl),mk2 := markIntSS_at (by omega) (by omega) (by omega) (by omega),p3 := by omega,mk3 := (by unfold laws_markCups.f;rw [markIntS_at (by omega) (by omega) hrl (by omega)];rfl),p4 := by omega,ln := by simp [marks],hd := (by unfold laws_heldCups.f;rw [heldIntS_at (by omega) (by omega) hrl (by omega),Option.bind_some,if_neg (by omega)]) }
 ·exact .inl ⟨-1,szCups_out u hl hm,by decide⟩
end Go.Proofs.Ytmkpngmdikbbeaa.Pure
