/- The statement FnExactIdleMixes over numbers and lists alone, and what it is proved by.
Conditions: those of the statement. -/
import Derived.Test.YtmkpngmdikbbeaaPx0
import Derived.Test.YtmkpngmdikbbeaaPx1
import Derived.Test.YtmkpngmdikbbeaaPx2
import Derived.Test.YtmkpngmdikbbeaaPx3
import Derived.Test.YtmkpngmdikbbeaaPx4
import Derived.Test.YtmkpngmdikbbeaaPx14
import Derived.Test.YtmkpngmdikbbeaaPx17
import Derived.Test.YtmkpngmdikbbeaaPx18
import Derived.Test.YtmkpngmdikbbeaaPx19
namespace Go.Proofs.Ytmkpngmdikbbeaa.Pure
open Go.RowKit Go.Proofs.Ytmkpngmdikbbeaa.P Go.Proofs.YtmkpngmdikbbeaaW.PrintWords Go.Proofs.YtmkpngmdikbbeaaW.PrintLast
set_option linter.unusedSimpArgs false
set_option linter.unusedVariables false

theorem wrap_id {x : Int} (h0 : -9223372036854775808 ≤ x) (h1 : x ≤ 9223372036854775807) : wrap64 x = x := by
 unfold wrap64;omega
theorem wrap_succ {i : Nat} (h : i < 1152921504606846976) : wrap64 ((i : Int) + 1) = ((i + 1 : Nat) : Int) := by
 rw [wrap_id (by omega) (by omega)];omega
theorem rd_lt {l : List Int} {i : Nat} (h : i < l.length) : rd l (i : Int) = l[i] := by
 simp [rd,List.getD_eq_getElem?_getD,List.getElem?_eq_getElem h]
theorem toIntS_l0 (l : List Int) (hl : l.length ≤ 1099511627776) (d : Nat) : ∀ (k : Nat) (out : List Int) (i : Nat),i + d = l.length → out.length = l.length → d < k →
  laws_toIntS.l0 k l out i = some (out.take i ++ l.drop i) := by
 induction d with
 | zero =>
  intro k out i hi ho hk
  obtain ⟨k,rfl⟩ : ∃ m,k = m + 1 := ⟨k - 1,by omega⟩
  simp only [laws_toIntS.l0]
  rw [if_neg (by omega),List.take_of_length_le (by omega),List.drop_of_length_le (by omega),List.append_nil]
 | succ d ih =>
  intro k out i hi ho hk
  obtain ⟨k,rfl⟩ : ∃ m,k = m + 1 := ⟨k - 1,by omega⟩
  simp only [laws_toIntS.l0]
  rw [if_pos (by omega),if_pos (by omega),if_pos (by omega),wrap_succ (by omega),ih k _ (i + 1) (by omega) (by simpa using ho) (by omega)]
  congr 1
  rw [Int.toNat_natCast,rd_lt (by omega),List.drop_eq_getElem_cons (show i < l.length by omega),List.take_succ_eq_append_getElem (by simp;omega)]
  simp [List.take_set_of_le,List.getElem_set]
theorem toIntS_at {l : List Int} (hl : l.length ≤ 1099511627776) {k : Nat} (hk : l.length < k) : laws_toIntS.f k l = some l := by
 unfold laws_toIntS.f
 rw [if_pos (by omega),if_pos (by omega)]
 have := toIntS_l0 l hl l.length k (List.replicate l.length 0) 0 (by omega) (by simp) hk
 simpa using this
theorem eqIntS_l0 (l : List Int) (hl : l.length ≤ 1099511627776) (d : Nat) : ∀ (k : Nat) (i : Nat),i + d = l.length → d < k → laws_eqIntS.l0 k l l i = some true := by
 induction d with
 | zero =>
  intro k i hi hk
  obtain ⟨k,rfl⟩ : ∃ m,k = m + 1 := ⟨k - 1,by omega⟩
  simp only [laws_eqIntS.l0]
  rw [if_neg (by omega)]
 | succ d ih =>
  intro k i hi hk
  obtain ⟨k,rfl⟩ : ∃ m,k = m + 1 := ⟨k - 1,by omega⟩
  simp only [laws_eqIntS.l0]
  rw [if_pos (by omega),if_pos (by omega),if_pos (by omega),if_pos trivial,wrap_succ (by omega)]
  exact ih k (i + 1) (by omega) (by omega)
theorem eqIntS_at {l : List Int} (hl : l.length ≤ 1099511627776) {k : Nat} (hk : l.length < k) : laws_eqIntS.f k l l = some true := by
 unfold laws_eqIntS.f
 rw [if_pos rfl]
 exact eqIntS_l0 l hl l.length k 0 (by omega) hk
/-- The numbers from m on. -/
def marks (m : Int) (n : Nat) : List Int := (List.range n).map fun (i : Nat) => m + (i : Int)
theorem marks_len (m : Int) (n : Nat) : (marks m n).length = n := by simp [marks]
theorem marks_get (m : Int) (n i : Nat) (h : i < (marks m n).length) : (marks m n)[i] = m + (i : Int) := by simp [marks]
theorem markIntS_l0 (m : Int) (n : Nat) (hm : 0 ≤ m) (hm2 : m ≤ 1099511627776) (hn : n ≤ 1099511627776) (d : Nat) : ∀ (k : Nat) (l : List Int) (i : Nat),i + d = n → l.length = n → d < k →
  laws_markIntS.l0 k l (m + (i : Int)) (i : Int) = some (m + n,l.take i ++ (marks m n).drop i) := by
 induction d with
 | zero =>
  intro k l i hi hl hk
  obtain ⟨k,rfl⟩ : ∃ m,k = m + 1 := ⟨k - 1,by omega⟩
  simp only [laws_markIntS.l0]
  rw [if_neg (by omega),List.take_of_length_le (by omega),List.drop_of_length_le (by rw [marks_len];omega),List.append_nil]
  congr 3;omega
 | succ d ih =>
  intro k l i hi hl hk
  obtain ⟨k,rfl⟩ : ∃ m,k = m + 1 := ⟨k - 1,by omega⟩
  simp only [laws_markIntS.l0]
  rw [if_pos (by omega),if_pos (by omega),wrap_succ (by omega),wrap_id (by omega) (by omega)]
  rw [show m + (i : Int) + 1 = m + ((i + 1 : Nat) : Int) by omega,ih k _ (i + 1) (by omega) (by simpa using hl) (by omega)]
  congr 2
  rw [Int.toNat_natCast,List.drop_eq_getElem_cons (show i < (marks m n).length by rw [marks_len];omega),marks_get,List.take_succ_eq_append_getElem (by simp;omega)]
  simp [List.take_set_of_le]
theorem markIntS_at {m : Int} {l : List Int} (hm : 0 ≤ m) (hm2 : m ≤ 1099511627776) (hl : l.length ≤ 1099511627776) {k : Nat} (hk : l.length < k) : laws_markIntS.f k l m = some (m + l.length,marks m l.length) := by
 unfold laws_markIntS.f
 have := markIntS_l0 m l.length hm hm2 hl l.length k l 0 (by omega) rfl hk
 simpa using this
theorem heldIntS_l0 (m : Int) (n : Nat) (hm : 0 ≤ m) (hm2 : m ≤ 1099511627776) (hn : n ≤ 1099511627776) (d : Nat) : ∀ (k : Nat) (i : Nat),i + d = n → d < k →
  laws_heldIntS.l0 k (marks m n) (m + (i : Int)) (i : Int) = some (m + n) := by
 induction d with
 | zero =>
  intro k i hi hk
  obtain ⟨k,rfl⟩ : ∃ m,k = m + 1 := ⟨k - 1,by omega⟩
  simp only [laws_heldIntS.l0]
  rw [marks_len,if_neg (by omega)]
  congr 2;omega
 | succ d ih =>
  intro k i hi hk
  obtain ⟨k,rfl⟩ : ∃ m,k = m + 1 := ⟨k - 1,by omega⟩
  simp only [laws_heldIntS.l0]
  rw [marks_len,if_pos (by omega),if_pos (by omega),rd_lt (by rw [marks_len];omega),marks_get,if_pos rfl,wrap_succ (by omega),wrap_id (by omega) (by omega)]
  rw [show m + (i : Int) + 1 = m + ((i + 1 : Nat) : Int) by omega,ih k (i + 1) (by omega) (by omega)]
theorem heldIntS_at {m : Int} {n : Nat} (hm : 0 ≤ m) (hm2 : m ≤ 1099511627776) (hn : n ≤ 1099511627776) {k : Nat} (hk : n < k) : laws_heldIntS.f k (marks m n) m = some (m + n) := by
 unfold laws_heldIntS.f
 have := heldIntS_l0 m n hm hm2 hn n k 0 (by omega) hk
 simpa using this
/-- How many numbers lie in rows. -/
def totSS : List (List Int) → Nat
 | [] => 0
 | r :: rs => r.length + totSS rs
/-- Rows of the same lengths,with the numbers from m on. -/
def marksSS : Int → List (List Int) → List (List Int)
 | _,[] => []
 | m,r :: rs => marks m r.length :: marksSS (m + r.length) rs
theorem marksSS_len : ∀ (rs : List (List Int)) (m : Int),(marksSS m rs).length = rs.length
 | [],_ => rfl
 | r :: rs,m => by simp [marksSS,marksSS_len rs]
theorem rowAt (pre rest : List (List Int)) (r : List Int) : rd_L1 (pre ++ r :: rest) ((pre.length : Nat) : Int) = r := by
 simp [rd_L1,List.getD_eq_getElem?_getD]
theorem eqIntSS_l0 : ∀ (rest pre : List (List Int)) (k : Nat),(pre ++ rest).length ≤ 1099511627776 → totSS rest ≤ 1099511627776 → totSS rest + rest.length < k → laws_eqIntSS.l0 k (pre ++ rest) (pre ++ rest) (pre.length : Int) = some true
 | [],pre,k,_,_,hk => by
  obtain ⟨k,rfl⟩ : ∃ m,k = m + 1 := ⟨k - 1,by omega⟩
  simp only [laws_eqIntSS.l0]
  rw [if_neg (by simp)]
 | r :: rs,pre,k,hp,ht,hk => by
  obtain ⟨k,rfl⟩ : ∃ m,k = m + 1 := ⟨k - 1,by omega⟩
  simp only [totSS,List.length_cons,List.length_append] at hk ht hp
  have hlt : ((pre.length : Nat) : Int) < ((pre ++ r :: rs).length : Int) := by simp only [List.length_append,List.length_cons];omega
  simp only [laws_eqIntSS.l0]
  rw [if_pos hlt,if_pos (by omega),if_pos hlt,rowAt,eqIntS_at (by omega) (by omega),Option.bind_some,if_pos rfl,wrap_succ (by omega)]
  have := eqIntSS_l0 rs (pre ++ [r]) k (by simp only [List.length_append,List.length_cons,List.length_nil];omega) (by omega) (by omega)
  simpa using this
theorem eqIntSS_at {rs : List (List Int)} (hl : rs.length ≤ 1099511627776) (ht : totSS rs ≤ 1099511627776) {k : Nat} (hk : totSS rs + rs.length < k) : laws_eqIntSS.f k rs rs = some true := by
 unfold laws_eqIntSS.f
 rw [if_pos rfl]
 exact eqIntSS_l0 rs [] k hl ht hk
theorem markIntSS_l0 : ∀ (rest pre : List (List Int)) (m : Int) (k : Nat),0 ≤ m → m + totSS rest ≤ 1099511627776 → (pre ++ rest).length ≤ 1099511627776 → totSS rest + rest.length < k → laws_markIntSS.l0 k (pre ++ rest) m (pre.length : Int) = some (m + totSS rest,pre ++ marksSS m rest)
 | [],pre,m,k,_,_,_,hk => by
  obtain ⟨k,rfl⟩ : ∃ m,k = m + 1 := ⟨k - 1,by omega⟩
  simp only [laws_markIntSS.l0]
  rw [if_neg (by simp)]
  simp [totSS,marksSS]
 | r :: rs,pre,m,k,h0,hm,hp,hk => by
  obtain ⟨k,rfl⟩ : ∃ m,k = m + 1 := ⟨k - 1,by omega⟩
  simp only [totSS,List.length_cons,List.length_append] at hk hm hp
  have hlt : ((pre.length : Nat) : Int) < ((pre ++ r :: rs).length : Int) := by simp only [List.length_append,List.length_cons];omega
  have he : (pre ++ r :: rs).getD ((pre.length : Nat) : Int).toNat [] = r := rowAt pre rs r
  simp only [laws_markIntSS.l0]
  rw [if_pos hlt,if_pos (by omega),he,markIntS_at h0 (by omega) (by omega) (by omega),Option.bind_some,wrap_succ (by omega)]
  have := markIntSS_l0 rs (pre ++ [marks m r.length]) (m + r.length) k (by omega) (by omega) (by simp only [List.length_append,List.length_cons,List.length_nil];omega) (by omega)
  simp only [List.length_append,List.length_cons,List.length_nil,List.append_assoc,List.singleton_append] at this
  rw [Int.toNat_natCast,List.set_append_right _ _ (Nat.le_refl _),Nat.sub_self,List.set_cons_zero]
  rw [show pre.length + 1 = pre.length + (0 + 1) from rfl,this]
  simp only [totSS,marksSS]
  congr 2
  omega
theorem markIntSS_at {m : Int} {rs : List (List Int)} (h0 : 0 ≤ m) (hm : m + totSS rs ≤ 1099511627776) (hl : rs.length ≤ 1099511627776) {k : Nat} (hk : totSS rs + rs.length < k) : laws_markIntSS.f k rs m = some (m + totSS rs,marksSS m rs) :=
 markIntSS_l0 rs [] m k h0 hm hl hk
theorem heldIntSS_l0 : ∀ (rest pre : List (List Int)) (m : Int) (k : Nat),0 ≤ m → m + totSS rest ≤ 1099511627776 → (pre ++ rest).length ≤ 1099511627776 → totSS rest + rest.length < k → laws_heldIntSS.l0 k (pre ++ marksSS m rest) m (pre.length : Int) = some (m + totSS rest)
 | [],pre,m,k,_,_,_,hk => by
  obtain ⟨k,rfl⟩ : ∃ m,k = m + 1 := ⟨k - 1,by omega⟩
  rw [show marksSS m [] = [] from rfl]
  simp only [laws_heldIntSS.l0]
  rw [if_neg (by simp)]
  simp [totSS]
 | r :: rs,pre,m,k,h0,hm,hp,hk => by
  obtain ⟨k,rfl⟩ : ∃ m,k = m + 1 := ⟨k - 1,by omega⟩
  simp only [totSS,List.length_cons,List.length_append] at hk hm hp
  have hlt : ((pre.length : Nat) : Int) < ((pre ++ marks m r.length :: marksSS (m + r.length) rs).length : Int) := by simp only [List.length_append,List.length_cons];omega
  rw [show marksSS m (r :: rs) = marks m r.length :: marksSS (m + r.length) rs from rfl]
  simp only [laws_heldIntSS.l0]
  rw [if_pos hlt,if_pos (by omega),rowAt,heldIntS_at h0 (by omega) (by omega) (by omega),Option.bind_some,if_neg (by omega),wrap_succ (by omega)]
  have := heldIntSS_l0 rs (pre ++ [marks m r.length]) (m + r.length) k (by omega) (by omega) (by simp only [List.length_append,List.length_cons,List.length_nil];omega) (by omega)
  simp only [List.length_append,List.length_cons,List.length_nil,List.append_assoc,List.singleton_append] at this
  rw [show pre.length + 1 = pre.length + (0 + 1) from rfl,this]
  simp only [totSS]
  congr 1
  omega
theorem heldIntSS_at {m : Int} {rs : List (List Int)} (h0 : 0 ≤ m) (hm : m + totSS rs ≤ 1099511627776) (hl : rs.length ≤ 1099511627776) {k : Nat} (hk : totSS rs + rs.length < k) : laws_heldIntSS.f k (marksSS m rs) m = some (m + totSS rs) :=
 heldIntSS_l0 rs [] m k h0 hm hl hk
/-- The number at a place,0 beyond the list. -/
def g (l : List Int) (i : Nat) : Int := l.getD i 0
theorem g_lt {l : List Int} {i : Nat} (h : i < l.length) : g l i = l[i] := by
 simp [g,List.getD_eq_getElem?_getD,List.getElem?_eq_getElem h]
theorem g_mem {l : List Int} {i : Nat} (h : i < l.length) : g l i ∈ l := by
 rw [g_lt h];exact List.getElem_mem h
theorem mem_g {l : List Int} {x : Int} (h : x ∈ l) : ∃ i,i < l.length ∧ g l i = x := by
 obtain ⟨i,hi,rfl⟩ := List.getElem_of_mem h
 exact ⟨i,hi,g_lt hi⟩
theorem g_range (n : Nat) (f : Nat → Int) (j : Nat) (hj : j < n) : g ((List.range n).map f) j = f j := by
 rw [g_lt (by simpa using hj)];simp
theorem g_map (l : List Int) (f : Int → Int) (j : Nat) (hj : j < l.length) : g (l.map f) j = f (g l j) := by
 rw [g_lt (by simpa using hj),g_lt hj];simp
/-- One place fires. -/
def fire1 (l : List Int) (i : Nat) : List Int :=
 (List.range l.length).map fun j => g l j - (if j = i then 2 else 0) + (if j + 1 = i then 1 else 0) + (if j = i + 1 then 1 else 0)
/-- The places that can fire. -/
def places (l : List Int) : List Nat := (List.range l.length).filter fun i => decide (2 ≤ g l i)
theorem rd_g (l : List Int) (i : Nat) : rd l (i : Int) = g l i := by simp [rd,g]
theorem inB_iff {p q x : Int} : inB p q x = true ↔ p ≤ x ∧ x ≤ q := by simp [inB]
/-- Valid chips,as a Bool. -/
def good (l : List Int) : Bool := decide (1 ≤ l.length) && decide (l.length ≤ 20) && l.all (inB 0 60)
theorem within_eq (a b c : Int) : impl_within.f a b c = some (inB b c a) := by
 unfold impl_within.f inB
 by_cases h : a ≥ b <;> simp [h] <;> omega
theorem l1In_eq (a b c : Int) : spec_l1In.f a b c = some (inB b c a) := by
 unfold spec_l1In.f inB
 by_cases h : a ≥ b <;> simp [h] <;> omega
theorem l1All_l0 (p q : Int) (l : List Int) (hl : l.length ≤ 1099511627776) (d : Nat) : ∀ (k : Nat) (i : Nat),i + d = l.length → d < k →
  spec_l1All.l0 k p q l (l.length : Int) (i : Int) = some ((l.drop i).all (inB p q)) := by
 induction d with
 | zero =>
  intro k i hi hk
  obtain ⟨k,rfl⟩ : ∃ m,k = m + 1 := ⟨k - 1,by omega⟩
  simp only [spec_l1All.l0]
  rw [if_neg (by omega),List.drop_of_length_le (by omega)];rfl
 | succ d ih =>
  intro k i hi hk
  obtain ⟨k,rfl⟩ : ∃ m,k = m + 1 := ⟨k - 1,by omega⟩
  simp only [spec_l1All.l0]
  rw [if_pos (by omega),if_pos (by omega),if_pos (by omega),l1In_eq,rd_lt (by omega),List.drop_eq_getElem_cons (show i < l.length by omega),List.all_cons]
  simp only [Option.bind_some]
  by_cases h : inB p q l[i] = true
  ·rw [if_pos h,h,wrap_succ (by omega),ih k (i + 1) (by omega) (by omega)];rfl
  ·rw [if_neg h,Bool.eq_false_iff.2 h];rfl
theorem l1All_at (p q : Int) {l : List Int} (hl : l.length ≤ 1099511627776) {k : Nat} (hk : l.length < k) : spec_l1All.f k l p q = some (l.all (inB p q)) := by
 unfold spec_l1All.f
 have := l1All_l0 p q l hl l.length k 0 (by omega) hk
 simpa using this
/-- Two lists of chips of as many places. -/
def both (a b : List Int) : Bool := good a && good b && (a.length == b.length)
/-- Firings of places in an order,if each of them can fire. -/
def play (l : List Int) : List Int → Option (List Int)
 | [] => some l
 | p :: ps => if 0 ≤ p ∧ p < l.length ∧ 2 ≤ g l p.toNat then play (fire1 l p.toNat) ps else none
theorem beq_oddx (x : Int) : (Int.tmod x 2 == 1) = oddx x := by
 unfold oddx;rw [Bool.eq_iff_iff,beq_iff_eq,decide_eq_true_eq]
/-- Valid cups,as a Bool. -/
def vcup (l : List Int) (u : Int) : Bool := inB 2 6 (l.length : Int) && (inB 1 1048576 u && (Go.bits .and .i64 u (wrap64 (u - 1)) == 0)) && l.all (inB 0 (wrap64 (1000 * u))) && (decide (u = 1) || l.any oddx)
theorem contains_odd1 (l : List Int) : slices_ContainsFunc_int_int.f l 53 = some (l.any oddx) := by
 unfold slices_ContainsFunc_int_int.f;rw [if_pos (by rfl)]
theorem impl_AreCups_at (l : List Int) (u : Int) {k : Nat} (hk : 1 ≤ k) : impl_AreCups.f k l u = some (vcup l u) := by
 obtain ⟨k,rfl⟩ : ∃ m,k = m + 1 := ⟨k - 1,by omega⟩
 unfold impl_AreCups.f vcup
 rw [within_eq,within_eq]
 simp only [Option.bind_some,impl_AreCups.j0,contains_odd1,impl_areIn.f]
 cases h1 : inB 2 6 (l.length : Int) with
 | false => simp
 | true =>
  cases h2 : inB 1 1048576 u with
  | false => simp
  | true =>
   generalize Go.bits .and .i64 u (wrap64 (u - 1)) = b
   by_cases h3 : b = 0
   ·subst h3
    cases h4 : l.all (inB 0 (wrap64 (1000 * u))) with
    | false => simp
    | true => by_cases h5 : u = 1 <;> simp [h5]
   ·have h4 : (b != 0) = true := by simpa using h3
    have h5 : (b == 0) = false := by simpa using h3
    rw [h4,h5];simp
theorem cuUnit_eq (u : Int) : spec_cuUnit.f u = some (inB 1 1048576 u && (Go.bits .and .i64 u (wrap64 (u - 1)) == 0)) := by
 unfold spec_cuUnit.f
 rw [l1In_eq]
 cases h2 : inB 1 1048576 u with
 | false => rfl
 | true => simp
theorem cuGood_l0 {l : List Int} (hL : l.length ≤ 1099511627776) (l' : List Int) (u : Int) (d : Nat) : ∀ (k i : Nat) (b : Bool),i + d = l.length → d < k →
  spec_cuGood.l0 k b l (l.length : Int) (i : Int) l' u = some (decide (u = 1) || (b || (l.drop i).any oddx)) := by
 induction d with
 | zero =>
  intro k i b hi hk
  obtain ⟨k,rfl⟩ : ∃ m,k = m + 1 := ⟨k - 1,by omega⟩
  simp only [spec_cuGood.l0]
  rw [if_neg (by omega),List.drop_eq_nil_of_le (by omega)]
  by_cases h : u = 1 <;> simp [h]
 | succ d ih =>
  intro k i b hi hk
  obtain ⟨k,rfl⟩ : ∃ m,k = m + 1 := ⟨k - 1,by omega⟩
  simp only [spec_cuGood.l0]
  rw [if_pos (by omega),if_pos (by omega),if_pos (by omega),wrap_succ (by omega),beq_oddx,rd_g,ih k (i + 1) _ (by omega) (by omega),ih k (i + 1) _ (by omega) (by omega),List.drop_eq_getElem_cons (by omega : i < l.length),List.any_cons,g_lt (by omega)]
  cases b <;> simp
theorem cuGood_at {l : List Int} (hL : l.length ≤ 1099511627776) (u : Int) {k : Nat} (hk : l.length + 1 < k) : spec_cuGood.f k l u = some (vcup l u) := by
 obtain ⟨k,rfl⟩ : ∃ m,k = m + 1 := ⟨k - 1,by omega⟩
 have e : ∀ b,spec_cuGood.j0 (k + 1) b l u = some (!b && (decide (u = 1) || l.any oddx)) := fun b => by
  simp only [spec_cuGood.j0]
  cases b with
  | true => simp
  | false =>
   have := cuGood_l0 hL l u l.length k 0 false (by omega) (by omega)
   simpa using this
 unfold spec_cuGood.f vcup
 rw [l1In_eq,cuUnit_eq,l1All_at _ _ hL (by omega)]
 simp only [Option.bind_some,e]
 cases inB 2 6 (l.length : Int) with
 | false => simp
 | true =>
  cases (inB 1 1048576 u && (Go.bits .and .i64 u (wrap64 (u - 1)) == 0)) with
  | false => simp
  | true => simp
/-- What valid cups are. -/
structure VCup (l : List Int) (u : Int) : Prop where
 lo : 2 ≤ l.length
 hi : l.length ≤ 6
 u1 : 1 ≤ u
 u2 : u ≤ 1048576
 b : ∀ j,j < l.length → 0 ≤ g l j ∧ g l j ≤ 1000 * u
theorem vcup_V {l : List Int} {u : Int} (h : vcup l u = true) : VCup l u := by
 simp only [vcup,Bool.and_eq_true,List.all_eq_true] at h
 obtain ⟨⟨⟨h1,h2,_⟩,h3⟩,_⟩ := h
 have h1 := inB_iff.1 h1;have h2 := inB_iff.1 h2
 refine ⟨by omega,by omega,h2.1,h2.2,fun j hj => ?_⟩
 have := inB_iff.1 (h3 _ (g_mem hj))
 rw [wrap_id (by omega) (by omega)] at this;exact this
theorem VCup.b' {l : List Int} {u : Int} (h : VCup l u) : ∀ j,j < l.length → 0 ≤ g l j ∧ g l j ≤ 1099511627776 := fun j hj => by
 have h1 := h.b j hj;have h2 := h.u2;omega
theorem szCups_in {l : List Int} (u : Int) (h : l.length ≤ 1048576) : laws_szCups.f l u 1048576 = some (1048576 - (l.length : Int)) := by
 unfold laws_szCups.f laws_szIntS.f
 rw [wrap_id (by omega) (by omega),if_neg (by omega),Option.bind_some,if_neg (by omega)]
theorem szCups_out {l : List Int} (u : Int) (h : ¬ l.length ≤ 1048576) (hm : l.length ≤ maxLen) : laws_szCups.f l u 1048576 = some (-1) := by
 simp only [maxLen] at hm
 unfold laws_szCups.f laws_szIntS.f
 rw [wrap_id (by omega) (by omega),if_pos (by omega)];rfl
theorem toCups_at {l : List Int} (hl : l.length ≤ 1099511627776) (u : Int) {k : Nat} (hk : l.length < k) : laws_toCups.f k l u = some (l,u) := by
 unfold laws_toCups.f;rw [toIntS_at hl hk];rfl
theorem eqCups_at {l : List Int} (hl : l.length ≤ 1099511627776) (u : Int) {k : Nat} (hk : l.length < k) : laws_eqCups.f k l u l u = some true := by
 unfold laws_eqCups.f;rw [eqIntS_at hl hk,Option.bind_some,if_pos rfl,if_pos rfl]
theorem and_i64_nat (a b : Nat) (ha : a < 9223372036854775808) (hb : b < 9223372036854775808) : Go.bits .and .i64 (a : Int) (b : Int) = ((a &&& b : Nat) : Int) := by
 have h : a &&& b ≤ a := Nat.and_le_left
 have h1 : (BitVec.ofInt 64 (a : Int)).toNat = a := by
  rw [BitVec.ofInt_natCast,BitVec.toNat_ofNat];exact Nat.mod_eq_of_lt (by omega)
 have h2 : (BitVec.ofInt 64 (b : Int)).toNat = b := by
  rw [BitVec.ofInt_natCast,BitVec.toNat_ofNat];exact Nat.mod_eq_of_lt (by omega)
 show IntKind.i64.wrap ((BitVec.ofInt 64 (a : Int) &&& BitVec.ofInt 64 (b : Int)).toNat : Int) = _
 rw [BitVec.toNat_and,h1,h2,i64_w,wrap_id (by omega) (by omega)]
/-- A unit,as the code asks for it. -/
def isUnit (u : Int) : Bool := inB 1 1048576 u && (Go.bits .and .i64 u (wrap64 (u - 1)) == 0)
theorem isUnit_iff (u : Int) : isUnit u = true ↔ ∃ e : Nat,e ≤ 20 ∧ u = ((2 ^ e : Nat) : Int) := by
 unfold isUnit
 rw [Bool.and_eq_true,inB_iff,beq_iff_eq]
 have key : ∀ n : Nat,1 ≤ n → n ≤ 1048576 → (Go.bits .and .i64 (n : Int) (wrap64 ((n : Int) - 1)) = 0 ↔ ∃ e : Nat,n = 2 ^ e) := fun n h1 h2 => by
  have e : wrap64 ((n : Int) - 1) = ((n - 1 : Nat) : Int) := by rw [wrap_id (by omega) (by omega)];omega
  rw [e,and_i64_nat n (n - 1) (by omega) (by omega)]
  have := Nat.and_sub_one_eq_zero_iff_isPowerOfTwo (n := n) (by omega)
  constructor
  ·intro h;exact this.1 (by omega)
  ·intro h;have := this.2 h;omega
 constructor
 ·intro ⟨⟨h1,h2⟩,h3⟩
  obtain ⟨n,rfl⟩ : ∃ n : Nat,u = (n : Int) := ⟨u.toNat,by omega⟩
  obtain ⟨e,he⟩ := (key n (by omega) (by omega)).1 h3
  refine ⟨e,?_,by rw [he]⟩
  rcases Nat.lt_or_ge 20 e with h | h
  ·have : 2 ^ 21 ≤ 2 ^ e := Nat.pow_le_pow_right (by omega) (by omega)
   omega
  ·exact h
 ·intro ⟨e,he,hu⟩
  have h1 : 2 ^ e ≤ 2 ^ 20 := Nat.pow_le_pow_right (by omega) he
  have h2 : 0 < 2 ^ e := Nat.pow_pos (by omega)
  subst hu
  exact ⟨⟨by omega,by omega⟩,(key (2 ^ e) (by omega) (by omega)).2 ⟨e,rfl⟩⟩
theorem isUnit_b {u : Int} (h : isUnit u = true) : 1 ≤ u ∧ u ≤ 1048576 := by
 unfold isUnit at h
 rw [Bool.and_eq_true,inB_iff] at h;exact h.1
theorem vcup_def (l : List Int) (u : Int) : vcup l u = (inB 2 6 (l.length : Int) && isUnit u && l.all (inB 0 (wrap64 (1000 * u))) && (decide (u = 1) || l.any oddx)) := rfl
/-- Each halved. -/
def halved (l : List Int) : List Int := l.map fun x => x / 2
theorem len_halved (l : List Int) : (halved l).length = l.length := by simp [halved]
theorem g_halved {l : List Int} {j : Nat} (h : j < l.length) : g (halved l) j = g l j / 2 := g_map l _ j h
/-- Lowered so many times at most. -/
def red : Nat → List Int → Int → List Int × Int
 | 0,l,u => (l,u)
 | n + 1,l,u => if u > 1 ∧ l.any oddx = false then red n (halved l) (u / 2) else (l,u)
/-- Numbers that never leave their range. -/
def Low (l : List Int) : Prop := l.length ≤ 1099511627776 ∧ ∀ j,j < l.length → 0 ≤ g l j ∧ g l j ≤ 1125899906842624
theorem Low.halved {l : List Int} (h : Low l) : Low (halved l) := ⟨by rw [len_halved];exact h.1,fun j hj => by rw [len_halved] at hj;rw [g_halved hj];have := h.2 j hj;omega⟩
theorem len_red (n : Nat) : ∀ l u,(red n l u).1.length = l.length := by
 induction n with
 | zero => intro l u;rfl
 | succ n ih => intro l u;simp only [red];split;rw [ih,len_halved];rfl
theorem red_succ (n : Nat) (l : List Int) (u : Int) : red (n + 1) l u = if u > 1 ∧ l.any oddx = false then red n (halved l) (u / 2) else (l,u) := rfl
theorem red_done (n : Nat) : ∀ (l : List Int) (u : Int),1 ≤ u → u < n → 1 ≤ (red n l u).2 ∧ (red n l u).2 ≤ u ∧ ((red n l u).2 = 1 ∨ (red n l u).1.any oddx = true) := by
 induction n with
 | zero => intro l u h1 h;omega
 | succ n ih =>
  intro l u h1 hn
  have e := red_succ n l u
  by_cases c : u > 1 ∧ l.any oddx = false
  ·rw [if_pos c] at e
   rw [e]
   have := ih (halved l) (u / 2) (by omega) (by omega)
   exact ⟨this.1,by have := this.2.1;omega,this.2.2⟩
  ·rw [if_neg c] at e
   rw [e]
   refine ⟨h1,Int.le_refl _,?_⟩
   show u = 1 ∨ l.any oddx = true
   by_cases q : u = 1
   ·exact Or.inl q
   ·cases q2 : l.any oddx with
    | true => exact Or.inr rfl
    | false => exact absurd ⟨by omega,q2⟩ c
theorem vcup_unit {l : List Int} {u : Int} (h : vcup l u = true) : isUnit u = true := by
 rw [vcup_def] at h
 simp only [Bool.and_eq_true] at h
 exact h.1.1.2
theorem pow_half {u : Int} (h : ∃ e : Nat,u = ((2 ^ e : Nat) : Int)) (h1 : 1 < u) : (∃ e : Nat,u / 2 = ((2 ^ e : Nat) : Int)) ∧ u % 2 = 0 := by
 obtain ⟨e,he⟩ := h
 match e,he with
 | 0,he => simp at he;omega
 | e + 1,he =>
  rw [Nat.pow_succ] at he
  exact ⟨⟨e,by omega⟩,by omega⟩
theorem red_bound (n : Nat) : ∀ (l : List Int) (u : Int),(∃ e : Nat,u = ((2 ^ e : Nat) : Int)) → (∀ j,j < l.length → 0 ≤ g l j ∧ g l j ≤ 1000 * u) → ∀ j,j < (red n l u).1.length → 0 ≤ g (red n l u).1 j ∧ g (red n l u).1 j ≤ 1000 * (red n l u).2 := by
 induction n with
 | zero => intro l u _ h;exact h
 | succ n ih =>
  intro l u h hb
  rw [red_succ]
  by_cases c : u > 1 ∧ l.any oddx = false
  ·rw [if_pos c]
   have hp := pow_half h c.1
   exact ih _ _ hp.1 fun j hj => by
    rw [len_halved] at hj;rw [g_halved hj]
    have := hb j hj;have := hp.2;omega
  ·rw [if_neg c];exact hb
/-- Lowered cups are valid just if their unit is one. -/
theorem vcup_low {l : List Int} {u : Int} (n : Nat) (h1 : 2 ≤ l.length) (h2 : l.length ≤ 6) (hp : ∃ e : Nat,u = ((2 ^ e : Nat) : Int)) (hu : 1 ≤ u) (hn : u < n) (hb : ∀ j,j < l.length → 0 ≤ g l j ∧ g l j ≤ 1000 * u) : vcup (red n l u).1 (red n l u).2 = isUnit (red n l u).2 := by
 have hd := red_done n l u hu hn
 have hl := len_red n l u
 have hbb := red_bound n l u hp hb
 rw [vcup_def]
 have e1 : inB 2 6 ((red n l u).1.length : Int) = true := inB_iff.2 (by omega)
 have e2 : (decide ((red n l u).2 = 1) || (red n l u).1.any oddx) = true := by
  rcases hd.2.2 with q | q
  ·rw [decide_eq_true q];rfl
  ·rw [q];simp
 rw [e1,e2]
 cases q : isUnit (red n l u).2 with
 | false => rfl
 | true =>
  have hq := isUnit_b q
  have e3 : (red n l u).1.all (inB 0 (wrap64 (1000 * (red n l u).2))) = true := by
   rw [List.all_eq_true]
   intro x hx
   obtain ⟨j,hj,rfl⟩ := mem_g hx
   have := hbb j hj
   rw [wrap_id (by omega) (by omega)]
   exact inB_iff.2 this
  rw [e3];rfl
/-- The parts behind a mix. -/
def mixl (l : List Int) (a b : Nat) : List Int := (List.range l.length).map fun j => if j = a ∨ j = b then g l a + g l b else 2 * g l j
theorem len_mixl (l : List Int) (a b : Nat) : (mixl l a b).length = l.length := by simp [mixl]
theorem g_mixl {l : List Int} (a b : Nat) {j : Nat} (h : j < l.length) : g (mixl l a b) j = if j = a ∨ j = b then g l a + g l b else 2 * g l j := by unfold mixl;rw [g_range _ _ _ h]
theorem mixl_b {l : List Int} {u : Int} (h : ∀ j,j < l.length → 0 ≤ g l j ∧ g l j ≤ 1000 * u) {a b : Nat} (ha : a < l.length) (hb : b < l.length) : ∀ j,j < (mixl l a b).length → 0 ≤ g (mixl l a b) j ∧ g (mixl l a b) j ≤ 1000 * (2 * u) := fun j hj => by
 rw [len_mixl] at hj;rw [g_mixl _ _ hj]
 have h1 := h a ha;have h2 := h b hb;have h3 := h j hj
 split <;> omega
/-- Cups as both find them in play: valid but for the unit's bound. -/
structure Fits (l : List Int) (u : Int) : Prop where
 lo : 2 ≤ l.length
 hi : l.length ≤ 6
 u1 : 1 ≤ u
 u2 : u ≤ 1048576
 p : ∃ e : Nat,u = ((2 ^ e : Nat) : Int)
 b : ∀ j,j < l.length → 0 ≤ g l j ∧ g l j ≤ 1000 * u
theorem vcup_fits {l : List Int} {u : Int} (h : vcup l u = true) : Fits l u := by
 have hv := vcup_V h
 obtain ⟨e,_,he⟩ := (isUnit_iff u).1 (vcup_unit h)
 exact ⟨hv.lo,hv.hi,hv.u1,hv.u2,⟨e,he⟩,hv.b⟩
/-- Cups behind a mix. -/
def mixu (l : List Int) (u : Int) (a b : Nat) : List Int × Int := red ((2 * u).toNat + 1) (mixl l a b) (2 * u)
theorem pow_two {u : Int} (h : ∃ e : Nat,u = ((2 ^ e : Nat) : Int)) : ∃ e : Nat,2 * u = ((2 ^ e : Nat) : Int) := by
 obtain ⟨e,he⟩ := h
 exact ⟨e + 1,by rw [Nat.pow_succ];omega⟩
theorem vcup_mixu {l : List Int} {u : Int} (h : Fits l u) {a b : Nat} (ha : a < l.length) (hb : b < l.length) : vcup (mixu l u a b).1 (mixu l u a b).2 = isUnit (mixu l u a b).2 := by
 have h1 := h.u1
 exact vcup_low _ (by rw [len_mixl];exact h.lo) (by rw [len_mixl];exact h.hi) (pow_two h.p) (by omega) (by omega) (mixl_b h.b ha hb)
theorem Fits.mix {l : List Int} {u : Int} (h : Fits l u) {a b : Nat} (ha : a < l.length) (hb : b < l.length) (hu : isUnit (mixu l u a b).2 = true) : Fits (mixu l u a b).1 (mixu l u a b).2 := vcup_fits (by rw [vcup_mixu h ha hb];exact hu)
theorem Fits.low {l : List Int} {u : Int} (h : Fits l u) : Low l := by
 have h1 := h.hi;have h2 := h.u2
 exact ⟨by omega,fun j hj => by have := h.b j hj;omega⟩
/-- All pairs of so many cups. -/
def prs (n : Nat) : List (List Int) := (List.range n).flatMap fun a => ((List.range n).filter fun (b : Nat) => decide (a < b)).map fun (b : Nat) => [(a : Int),(b : Int)]
theorem prs_all : ∀ n ∈ [2,3,4,5,6],spec_cuPairs.f 60 ((n : Nat) : Int) = some (prs n) ∧ impl_mixesOf.f 60 ((n : Nat) : Int) = some (prs n) ∧ (prs n).length ≤ 15 ∧ ∀ m ∈ prs n,m.length = 2 ∧ (0 ≤ rd m 0 ∧ rd m 0 < (n : Int)) ∧ (0 ≤ rd m 1 ∧ rd m 1 < (n : Int)) := by decide +kernel
theorem idle_l0 {l : List Int} (hl : l.length ≤ 6) (u : Int) : ∀ (rest pre out : List (List Int)) (k : Nat),(∀ m ∈ rest,m.length = 2 ∧ (0 ≤ rd m 0 ∧ rd m 0 < (l.length : Int)) ∧ (0 ≤ rd m 1 ∧ rd m 1 < (l.length : Int))) → (pre ++ rest).length ≤ 15 → out.length + rest.length ≤ 15 → rest.length < k → spec_IdleMixes.l0 k out (pre ++ rest) ((pre ++ rest).length : Int) (pre.length : Int) l u = some (out ++ rest.filter fun m => !turns l m,true)
 | [],pre,out,k,_,hp,ho,hk => by
  obtain ⟨k,rfl⟩ : ∃ m,k = m + 1 := ⟨k - 1,by omega⟩
  simp only [spec_IdleMixes.l0]
  rw [if_neg (by simp)];simp
 | m :: rs,pre,out,k,hm,hp,ho,hk => by
  obtain ⟨k,rfl⟩ : ∃ m,k = m + 1 := ⟨k - 1,by omega⟩
  have hlt : ((pre.length : Nat) : Int) < ((pre ++ m :: rs).length : Int) := by simp only [List.length_append,List.length_cons];omega
  have hp' : pre.length ≤ 15 := by simp only [List.length_append,List.length_cons] at hp;omega
  simp only [List.length_cons] at hk ho
  obtain ⟨h2,ha,hb⟩ := hm m List.mem_cons_self
  have h0 : (0 : Int) < (m.length : Int) := by omega
  have h1 : (1 : Int) < (m.length : Int) := by omega
  simp only [spec_IdleMixes.l0]
  rw [if_pos hlt,if_pos (by omega),if_pos hlt,rowAt,if_pos h0,if_pos ha.1,if_pos ha.2,if_pos h1,if_pos hb.1,if_pos hb.2,wrap_succ (by omega)]
  by_cases c : rd l (rd m 0) = rd l (rd m 1)
  ·have hrec := idle_l0 hl u rs (pre ++ [m]) (out ++ [m]) k (fun x hx => hm x (List.mem_cons_of_mem _ hx)) (by simpa using hp) (by simp only [List.length_append,List.length_cons,List.length_nil];omega) (by omega)
   simp only [List.append_assoc,List.singleton_append,List.length_append,List.length_cons,List.length_nil] at hrec
   have ht : (!turns l m) = true := by unfold turns;rw [c,bne_self_eq_false];rfl
   rw [if_pos c,if_pos (by omega),List.filter_cons,if_pos ht]
   simp only [List.length_append,List.length_cons]
   exact hrec
  ·have hrec := idle_l0 hl u rs (pre ++ [m]) out k (fun x hx => hm x (List.mem_cons_of_mem _ hx)) (by simpa using hp) (by omega) (by omega)
   simp only [List.append_assoc,List.singleton_append,List.length_append,List.length_cons,List.length_nil] at hrec
   have ht : ¬ (!turns l m) = true := by unfold turns;rw [show (rd l (rd m 0) != rd l (rd m 1)) = true by rw [bne_iff_ne];exact c];decide
   rw [if_neg c,List.filter_cons,if_neg ht]
   simp only [List.length_append,List.length_cons]
   exact hrec
theorem totSS_two : ∀ (rs : List (List Int)),(∀ r ∈ rs,r.length = 2) → totSS rs = 2 * rs.length
 | [],_ => rfl
 | r :: rs,h => by
  have := totSS_two rs (fun x hx => h x (List.mem_cons_of_mem _ hx))
  have := h r List.mem_cons_self
  simp only [totSS,List.length_cons];omega
theorem IdleMixes_both {l : List Int} (hL : l.length ≤ 1099511627776) (u : Int) : ∃ (K : Nat) (s : List (List Int)) (b : Bool),s.length ≤ 15 ∧ totSS s ≤ 30 ∧ (∀ k,K ≤ k → spec_IdleMixes.f k l u = some (s,b)) ∧ (∀ k,K ≤ k → impl_IdleMixes.f k l u = some (s,b)) := by
 cases h : vcup l u with
 | false =>
  refine ⟨l.length + 3,[],false,by simp,by simp [totSS],fun k hk => ?_,fun k hk => ?_⟩
  ·unfold spec_IdleMixes.f;rw [cuGood_at hL u (by omega),h];rfl
  ·unfold impl_IdleMixes.f;rw [impl_AreCups_at l u (by omega),h];rfl
 | true =>
  have hf := vcup_fits h
  have h6 := hf.hi
  have h2 : 2 ≤ l.length := by
   rw [vcup_def] at h
   simp only [Bool.and_eq_true] at h
   have := inB_iff.1 h.1.1.1
   omega
  obtain ⟨p1,p2,p3,p4⟩ := prs_all l.length (by simp only [List.mem_cons,List.not_mem_nil,or_false];omega)
  have q1 : ∀ k,60 ≤ k → spec_cuPairs.f k (l.length : Int) = some (prs l.length) := fun k hk => at_rounds (g := fun k => spec_cuPairs.f k (l.length : Int)) (fun k => spec_cuPairs.mono _ k) hk p1
  have q2 : ∀ k,60 ≤ k → impl_mixesOf.f k (l.length : Int) = some (prs l.length) := fun k hk => at_rounds (g := fun k => impl_mixesOf.f k (l.length : Int)) (fun k => impl_mixesOf.mono _ k) hk p2
  have hle := List.length_filter_le (fun m => !turns l m) (prs l.length)
  refine ⟨l.length + 70,(prs l.length).filter fun m => !turns l m,true,by omega,?_,fun k hk => ?_,fun k hk => ?_⟩
  ·rw [totSS_two _ (fun r hr => (p4 r (List.mem_filter.1 hr).1).1)];omega
  ·unfold spec_IdleMixes.f
   rw [cuGood_at hL u (by omega),h,Option.bind_some,if_pos rfl,q1 k (by omega),Option.bind_some]
   have := idle_l0 h6 u (prs l.length) [] [] k p4 (by simpa using p3) (by simpa using p3) (by omega)
   simpa using this
  ·unfold impl_IdleMixes.f
   rw [impl_AreCups_at l u (by omega),h,Option.bind_some,if_pos rfl,q2 k (by omega),Option.bind_some,if_pos]
   rw [List.all_eq_true]
   intro m hm
   obtain ⟨r1,r2,r3⟩ := p4 m hm
   exact decide_eq_true ⟨by omega,r2.1,r2.2,r3.1,r3.2⟩
theorem FnExactIdleMixes (l : List Int) (u : Int) (hm : l.length ≤ maxLen) (hw : ∀ x ∈ l,(Lit.int .i64 x).wf = true) (hu : (Lit.int .i64 u).wf = true) : laws_FnExactIdleMixes.Ok l u := by
 by_cases hl : l.length ≤ 1048576
 ·obtain ⟨K,s,b,hs1,hs2,hsp,him⟩ := IdleMixes_both (l := l) (by omega) u
  refine .inr ⟨K + l.length + 60,s,b,1048576 - (l.length : Int),1 + (l.length : Int),1 + (totSS s : Int),marks 1 l.length,marksSS 1 s,?_⟩
  exact { sz1 := szCups_in u hl,p1 := by omega,toC := toCups_at (by omega) u (by omega),sp := hsp _ (by omega),im := him _ (by omega),eqr := eqIntSS_at (by omega) (by omega) (by omega),eqx := eqCups_at (by omega) u (by omega),mk1 := (by unfold laws_markCups.f;rw [markIntS_at (by omega) (by omega) (by omega) (by omega)];rfl),p3 := by omega,mk3 := markIntSS_at (by omega) (by omega) (by omega) (by omega),p4 := by omega,ln := marksSS_len _ _,hd := heldIntSS_at (by omega) (by omega) (by omega) (by omega) }
 ·exact .inl ⟨-1,szCups_out u hl hm,by decide⟩
end Go.Proofs.Ytmkpngmdikbbeaa.Pure
