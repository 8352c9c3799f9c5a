/- The statement FnExactLeastIn over numbers and lists alone, and what it is proved by.
Conditions: those of the statement. -/
import Derived.Test.YtmkpngmdikbbeaaPx0
import Derived.Test.YtmkpngmdikbbeaaPx1
import Derived.Test.YtmkpngmdikbbeaaPx2
import Derived.Test.YtmkpngmdikbbeaaPx3
import Derived.Test.YtmkpngmdikbbeaaPx4
import Derived.Test.YtmkpngmdikbbeaaPx5
import Derived.Test.YtmkpngmdikbbeaaPx6
import Derived.Test.YtmkpngmdikbbeaaPx7
import Derived.Test.YtmkpngmdikbbeaaPx8
import Derived.Test.YtmkpngmdikbbeaaPx9
import Derived.Test.YtmkpngmdikbbeaaPx10
import Derived.Test.YtmkpngmdikbbeaaPx11
import Derived.Test.YtmkpngmdikbbeaaPx12
import Derived.Test.YtmkpngmdikbbeaaPx14
import Derived.Test.YtmkpngmdikbbeaaPx15
import Derived.Test.YtmkpngmdikbbeaaPx16
import Derived.Test.YtmkpngmdikbbeaaPx26
namespace Go.Proofs.Ytmkpngmdikbbeaa.Pure
open Go.RowKit Go.Proofs.Ytmkpngmdikbbeaa.P Go.Proofs.YtmkpngmdikbbeaaW.PrintWords Go.Proofs.YtmkpngmdikbbeaaW.PrintLast
set_option linter.unusedSimpArgs false
set_option linter.unusedVariables false

theorem wrap_id {x : Int} (h0 : -9223372036854775808 ≤ x) (h1 : x ≤ 9223372036854775807) : wrap64 x = x := by
 unfold wrap64;omega
theorem wrap_succ {i : Nat} (h : i < 1152921504606846976) : wrap64 ((i : Int) + 1) = ((i + 1 : Nat) : Int) := by
 rw [wrap_id (by omega) (by omega)];omega
theorem rd_lt {l : List Int} {i : Nat} (h : i < l.length) : rd l (i : Int) = l[i] := by
 simp [rd,List.getD_eq_getElem?_getD,List.getElem?_eq_getElem h]
theorem toIntS_l0 (l : List Int) (hl : l.length ≤ 1099511627776) (d : Nat) : ∀ (k : Nat) (out : List Int) (i : Nat),i + d = l.length → out.length = l.length → d < k →
  laws_toIntS.l0 k l out i = some (out.take i ++ l.drop i) := by
 induction d with
 | zero =>
  intro k out i hi ho hk
  obtain ⟨k,rfl⟩ : ∃ m,k = m + 1 := ⟨k - 1,by omega⟩
  simp only [laws_toIntS.l0]
  rw [if_neg (by omega),List.take_of_length_le (by omega),List.drop_of_length_le (by omega),List.append_nil]
 | succ d ih =>
  intro k out i hi ho hk
  obtain ⟨k,rfl⟩ : ∃ m,k = m + 1 := ⟨k - 1,by omega⟩
  simp only [laws_toIntS.l0]
  rw [if_pos (by omega),if_pos (by omega),if_pos (by omega),wrap_succ (by omega),ih k _ (i + 1) (by omega) (by simpa using ho) (by omega)]
  congr 1
  rw [Int.toNat_natCast,rd_lt (by omega),List.drop_eq_getElem_cons (show i < l.length by omega),List.take_succ_eq_append_getElem (by simp;omega)]
  simp [List.take_set_of_le,List.getElem_set]
theorem toIntS_at {l : List Int} (hl : l.length ≤ 1099511627776) {k : Nat} (hk : l.length < k) : laws_toIntS.f k l = some l := by
 unfold laws_toIntS.f
 rw [if_pos (by omega),if_pos (by omega)]
 have := toIntS_l0 l hl l.length k (List.replicate l.length 0) 0 (by omega) (by simp) hk
 simpa using this
theorem eqIntS_l0 (l : List Int) (hl : l.length ≤ 1099511627776) (d : Nat) : ∀ (k : Nat) (i : Nat),i + d = l.length → d < k → laws_eqIntS.l0 k l l i = some true := by
 induction d with
 | zero =>
  intro k i hi hk
  obtain ⟨k,rfl⟩ : ∃ m,k = m + 1 := ⟨k - 1,by omega⟩
  simp only [laws_eqIntS.l0]
  rw [if_neg (by omega)]
 | succ d ih =>
  intro k i hi hk
  obtain ⟨k,rfl⟩ : ∃ m,k = m + 1 := ⟨k - 1,by omega⟩
  simp only [laws_eqIntS.l0]
  rw [if_pos (by omega),if_pos (by omega),if_pos (by omega),if_pos trivial,wrap_succ (by omega)]
  exact ih k (i + 1) (by omega) (by omega)
theorem eqIntS_at {l : List Int} (hl : l.length ≤ 1099511627776) {k : Nat} (hk : l.length < k) : laws_eqIntS.f k l l = some true := by
 unfold laws_eqIntS.f
 rw [if_pos rfl]
 exact eqIntS_l0 l hl l.length k 0 (by omega) hk
theorem rowAt (pre rest : List (List Int)) (r : List Int) : rd_L1 (pre ++ r :: rest) ((pre.length : Nat) : Int) = r := by
 simp [rd_L1,List.getD_eq_getElem?_getD]
/-- The number at a place,0 beyond the list. -/
def g (l : List Int) (i : Nat) : Int := l.getD i 0
theorem g_ge {l : List Int} {i : Nat} (h : l.length ≤ i) : g l i = 0 := by
 simp [g,List.getD_eq_getElem?_getD,List.getElem?_eq_none h]
theorem g_lt {l : List Int} {i : Nat} (h : i < l.length) : g l i = l[i] := by
 simp [g,List.getD_eq_getElem?_getD,List.getElem?_eq_getElem h]
theorem g_mem {l : List Int} {i : Nat} (h : i < l.length) : g l i ∈ l := by
 rw [g_lt h];exact List.getElem_mem h
theorem mem_g {l : List Int} {x : Int} (h : x ∈ l) : ∃ i,i < l.length ∧ g l i = x := by
 obtain ⟨i,hi,rfl⟩ := List.getElem_of_mem h
 exact ⟨i,hi,g_lt hi⟩
theorem ext_g {a b : List Int} (h : a.length = b.length) (hg : ∀ i,i < a.length → g a i = g b i) : a = b := by
 apply List.ext_getElem h
 intro i h1 h2
 have := hg i h1
 rwa [g_lt h1,g_lt h2] at this
theorem g_set (l : List Int) (i : Nat) (v : Int) (j : Nat) : g (l.set i v) j = if i = j ∧ j < l.length then v else g l j := by
 by_cases hj : j < l.length
 ·rw [g_lt (by simpa using hj),g_lt hj,List.getElem_set]
  by_cases e : i = j <;> simp [e,hj]
 ·rw [g_ge (by simp;omega),g_ge (by omega),if_neg (by omega)]
theorem g_range (n : Nat) (f : Nat → Int) (j : Nat) (hj : j < n) : g ((List.range n).map f) j = f j := by
 rw [g_lt (by simpa using hj)];simp
theorem g_map (l : List Int) (f : Int → Int) (j : Nat) (hj : j < l.length) : g (l.map f) j = f (g l j) := by
 rw [g_lt (by simpa using hj),g_lt hj];simp
/-- One place fires. -/
def fire1 (l : List Int) (i : Nat) : List Int :=
 (List.range l.length).map fun j => g l j - (if j = i then 2 else 0) + (if j + 1 = i then 1 else 0) + (if j = i + 1 then 1 else 0)
/-- The places that can fire. -/
def places (l : List Int) : List Nat := (List.range l.length).filter fun i => decide (2 ≤ g l i)
theorem rd_g (l : List Int) (i : Nat) : rd l (i : Int) = g l i := by simp [rd,g]
theorem inB_iff {p q x : Int} : inB p q x = true ↔ p ≤ x ∧ x ≤ q := by simp [inB]
/-- Valid chips,as a Bool. -/
def good (l : List Int) : Bool := decide (1 ≤ l.length) && decide (l.length ≤ 20) && l.all (inB 0 60)
theorem within_eq (a b c : Int) : impl_within.f a b c = some (inB b c a) := by
 unfold impl_within.f inB
 by_cases h : a ≥ b <;> simp [h] <;> omega
theorem l1In_eq (a b c : Int) : spec_l1In.f a b c = some (inB b c a) := by
 unfold spec_l1In.f inB
 by_cases h : a ≥ b <;> simp [h] <;> omega
theorem l1All_l0 (p q : Int) (l : List Int) (hl : l.length ≤ 1099511627776) (d : Nat) : ∀ (k : Nat) (i : Nat),i + d = l.length → d < k →
  spec_l1All.l0 k p q l (l.length : Int) (i : Int) = some ((l.drop i).all (inB p q)) := by
 induction d with
 | zero =>
  intro k i hi hk
  obtain ⟨k,rfl⟩ : ∃ m,k = m + 1 := ⟨k - 1,by omega⟩
  simp only [spec_l1All.l0]
  rw [if_neg (by omega),List.drop_of_length_le (by omega)];rfl
 | succ d ih =>
  intro k i hi hk
  obtain ⟨k,rfl⟩ : ∃ m,k = m + 1 := ⟨k - 1,by omega⟩
  simp only [spec_l1All.l0]
  rw [if_pos (by omega),if_pos (by omega),if_pos (by omega),l1In_eq,rd_lt (by omega),List.drop_eq_getElem_cons (show i < l.length by omega),List.all_cons]
  simp only [Option.bind_some]
  by_cases h : inB p q l[i] = true
  ·rw [if_pos h,h,wrap_succ (by omega),ih k (i + 1) (by omega) (by omega)];rfl
  ·rw [if_neg h,Bool.eq_false_iff.2 h];rfl
theorem l1All_at (p q : Int) {l : List Int} (hl : l.length ≤ 1099511627776) {k : Nat} (hk : l.length < k) : spec_l1All.f k l p q = some (l.all (inB p q)) := by
 unfold spec_l1All.f
 have := l1All_l0 p q l hl l.length k 0 (by omega) hk
 simpa using this
theorem take_snoc (l : List Int) (i : Nat) (h : i < l.length) : l.take (i + 1) = l.take i ++ [g l i] := by
 rw [List.take_succ_eq_append_getElem h,g_lt h]
theorem l1Own_eq {l : List Int} (h : l.length ≤ 1099511627776) : spec_l1Own.f l = some l := by
 unfold spec_l1Own.f
 simp only [Option.bind_some,List.length_nil,List.nil_append]
 rw [if_pos (by omega)]
/-- Two lists of chips of as many places. -/
def both (a b : List Int) : Bool := good a && good b && (a.length == b.length)
/-- Firings of places in an order,if each of them can fire. -/
def play (l : List Int) : List Int → Option (List Int)
 | [] => some l
 | p :: ps => if 0 ≤ p ∧ p < l.length ∧ 2 ≤ g l p.toNat then play (fire1 l p.toNat) ps else none
theorem tdiv2 {x : Int} (h : 0 ≤ x) : Int.tdiv x 2 = x / 2 := Int.tdiv_eq_ediv_of_nonneg h
theorem beq_oddx (x : Int) : (Int.tmod x 2 == 1) = oddx x := by
 unfold oddx;rw [Bool.eq_iff_iff,beq_iff_eq,decide_eq_true_eq]
/-- Valid cups,as a Bool. -/
def vcup (l : List Int) (u : Int) : Bool := inB 2 6 (l.length : Int) && (inB 1 1048576 u && (Go.bits .and .i64 u (wrap64 (u - 1)) == 0)) && l.all (inB 0 (wrap64 (1000 * u))) && (decide (u = 1) || l.any oddx)
theorem contains_odd1 (l : List Int) : slices_ContainsFunc_int_int.f l 53 = some (l.any oddx) := by
 unfold slices_ContainsFunc_int_int.f;rw [if_pos (by rfl)]
theorem impl_AreCups_at (l : List Int) (u : Int) {k : Nat} (hk : 1 ≤ k) : impl_AreCups.f k l u = some (vcup l u) := by
 obtain ⟨k,rfl⟩ : ∃ m,k = m + 1 := ⟨k - 1,by omega⟩
 unfold impl_AreCups.f vcup
 rw [within_eq,within_eq]
 simp only [Option.bind_some,impl_AreCups.j0,contains_odd1,impl_areIn.f]
 cases h1 : inB 2 6 (l.length : Int) with
 | false => simp
 | true =>
  cases h2 : inB 1 1048576 u with
  | false => simp
  | true =>
   generalize Go.bits .and .i64 u (wrap64 (u - 1)) = b
   by_cases h3 : b = 0
   ·subst h3
    cases h4 : l.all (inB 0 (wrap64 (1000 * u))) with
    | false => simp
    | true => by_cases h5 : u = 1 <;> simp [h5]
   ·have h4 : (b != 0) = true := by simpa using h3
    have h5 : (b == 0) = false := by simpa using h3
    rw [h4,h5];simp
theorem cuUnit_eq (u : Int) : spec_cuUnit.f u = some (inB 1 1048576 u && (Go.bits .and .i64 u (wrap64 (u - 1)) == 0)) := by
 unfold spec_cuUnit.f
 rw [l1In_eq]
 cases h2 : inB 1 1048576 u with
 | false => rfl
 | true => simp
theorem cuGood_l0 {l : List Int} (hL : l.length ≤ 1099511627776) (l' : List Int) (u : Int) (d : Nat) : ∀ (k i : Nat) (b : Bool),i + d = l.length → d < k →
  spec_cuGood.l0 k b l (l.length : Int) (i : Int) l' u = some (decide (u = 1) || (b || (l.drop i).any oddx)) := by
 induction d with
 | zero =>
  intro k i b hi hk
  obtain ⟨k,rfl⟩ : ∃ m,k = m + 1 := ⟨k - 1,by omega⟩
  simp only [spec_cuGood.l0]
  rw [if_neg (by omega),List.drop_eq_nil_of_le (by omega)]
  by_cases h : u = 1 <;> simp [h]
 | succ d ih =>
  intro k i b hi hk
  obtain ⟨k,rfl⟩ : ∃ m,k = m + 1 := ⟨k - 1,by omega⟩
  simp only [spec_cuGood.l0]
  rw [if_pos (by omega),if_pos (by omega),if_pos (by omega),wrap_succ (by omega),beq_oddx,rd_g,ih k (i + 1) _ (by omega) (by omega),ih k (i + 1) _ (by omega) (by omega),List.drop_eq_getElem_cons (by omega : i < l.length),List.any_cons,g_lt (by omega)]
  cases b <;> simp
theorem cuGood_at {l : List Int} (hL : l.length ≤ 1099511627776) (u : Int) {k : Nat} (hk : l.length + 1 < k) : spec_cuGood.f k l u = some (vcup l u) := by
 obtain ⟨k,rfl⟩ : ∃ m,k = m + 1 := ⟨k - 1,by omega⟩
 have e : ∀ b,spec_cuGood.j0 (k + 1) b l u = some (!b && (decide (u = 1) || l.any oddx)) := fun b => by
  simp only [spec_cuGood.j0]
  cases b with
  | true => simp
  | false =>
   have := cuGood_l0 hL l u l.length k 0 false (by omega) (by omega)
   simpa using this
 unfold spec_cuGood.f vcup
 rw [l1In_eq,cuUnit_eq,l1All_at _ _ hL (by omega)]
 simp only [Option.bind_some,e]
 cases inB 2 6 (l.length : Int) with
 | false => simp
 | true =>
  cases (inB 1 1048576 u && (Go.bits .and .i64 u (wrap64 (u - 1)) == 0)) with
  | false => simp
  | true => simp
/-- What valid cups are. -/
structure VCup (l : List Int) (u : Int) : Prop where
 lo : 2 ≤ l.length
 hi : l.length ≤ 6
 u1 : 1 ≤ u
 u2 : u ≤ 1048576
 b : ∀ j,j < l.length → 0 ≤ g l j ∧ g l j ≤ 1000 * u
theorem vcup_V {l : List Int} {u : Int} (h : vcup l u = true) : VCup l u := by
 simp only [vcup,Bool.and_eq_true,List.all_eq_true] at h
 obtain ⟨⟨⟨h1,h2,_⟩,h3⟩,_⟩ := h
 have h1 := inB_iff.1 h1;have h2 := inB_iff.1 h2
 refine ⟨by omega,by omega,h2.1,h2.2,fun j hj => ?_⟩
 have := inB_iff.1 (h3 _ (g_mem hj))
 rw [wrap_id (by omega) (by omega)] at this;exact this
/-- Euclid's numbers. -/
def eu : Nat → Int → Int → Int
 | 0,a,_ => a
 | n + 1,a,b => if b > 0 then eu n b (Int.tmod a b) else a
theorem tmod_in {a b : Int} (h : 0 ≤ a) (h2 : b > 0) : 0 ≤ Int.tmod a b ∧ Int.tmod a b < b := ⟨Int.tmod_nonneg b h,Int.tmod_lt_of_pos a h2⟩
theorem eu_pos (n : Nat) : ∀ a b : Int,0 ≤ a → 0 ≤ b → b < n → (1 ≤ a ∨ 1 ≤ b) → 1 ≤ eu n a b := by
 induction n with
 | zero => intro a b _ _ h;omega
 | succ n ih =>
  intro a b ha hb hn h
  simp only [eu]
  by_cases c : b > 0
  ·rw [if_pos c];have := tmod_in ha c;exact ih b _ hb this.1 (by omega) (Or.inl (by omega))
  ·rw [if_neg c];omega
theorem divisor_l0 (n : Nat) : ∀ a b : Int,0 ≤ a → 0 ≤ b → b < n → ∃ K, ∀ k,K ≤ k → impl_divisor.l0 k a b = some (eu n a b) := by
 induction n with
 | zero => intro a b _ _ h;omega
 | succ n ih =>
  intro a b ha hb hn
  by_cases c : b > 0
  ·have := tmod_in ha c
   obtain ⟨K,hK⟩ := ih b _ hb this.1 (by omega)
   refine ⟨K + 1,fun k hk => ?_⟩
   obtain ⟨k,rfl⟩ : ∃ m,k = m + 1 := ⟨k - 1,by omega⟩
   simp only [impl_divisor.l0,eu]
   rw [if_pos c,if_neg (by omega),if_pos c,hK k (by omega)]
  ·refine ⟨1,fun k hk => ?_⟩
   obtain ⟨k,rfl⟩ : ∃ m,k = m + 1 := ⟨k - 1,by omega⟩
   simp only [impl_divisor.l0,eu]
   rw [if_neg c,if_neg c]
theorem cuPart_l0 (x y : Int) (n : Nat) : ∀ a b : Int,0 ≤ a → 0 ≤ b → b < n → (1 ≤ a ∨ 1 ≤ b) → ∃ K, ∀ k,K ≤ k → spec_cuPart.l0 k x y a b = some (wrap64 (Int.tdiv x (eu n a b)),wrap64 (Int.tdiv y (eu n a b))) := by
 induction n with
 | zero => intro a b _ _ h;omega
 | succ n ih =>
  intro a b ha hb hn h
  by_cases c : b > 0
  ·have := tmod_in ha c
   obtain ⟨K,hK⟩ := ih b _ hb this.1 (by omega) (Or.inl (by omega))
   refine ⟨K + 1,fun k hk => ?_⟩
   obtain ⟨k,rfl⟩ : ∃ m,k = m + 1 := ⟨k - 1,by omega⟩
   simp only [spec_cuPart.l0,eu]
   rw [if_pos c,if_neg (by omega),if_pos c,hK k (by omega)]
  ·refine ⟨1,fun k hk => ?_⟩
   obtain ⟨k,rfl⟩ : ∃ m,k = m + 1 := ⟨k - 1,by omega⟩
   simp only [spec_cuPart.l0,eu]
   rw [if_neg c,if_neg (by omega),if_neg c]
/-- Both tell a fraction in lowest terms alike. -/
theorem lowest_both {x y : Int} (hx : 0 ≤ x) (hy : 1 ≤ y) : ∃ (K : Nat) (r : Int × Int),(∀ k,K ≤ k → spec_cuPart.f k x y = some r) ∧ (∀ k,K ≤ k → impl_lowest.f k x y = some r) := by
 have hn : y < ((y.toNat + 1 : Nat) : Int) := by omega
 obtain ⟨K,hK⟩ := divisor_l0 (y.toNat + 1) x y hx (by omega) hn
 obtain ⟨K',hK'⟩ := cuPart_l0 x y (y.toNat + 1) x y hx (by omega) hn (Or.inr hy)
 have hp := eu_pos (y.toNat + 1) x y hx (by omega) hn (Or.inr hy)
 refine ⟨K + K',(wrap64 (Int.tdiv x (eu (y.toNat + 1) x y)),wrap64 (Int.tdiv y (eu (y.toNat + 1) x y))),fun k hk => ?_,fun k hk => ?_⟩
 ·unfold spec_cuPart.f;exact hK' k (by omega)
 ·unfold impl_lowest.f impl_divisor.f;rw [hK k (by omega),Option.bind_some,if_neg (by omega)]
theorem VCup.b' {l : List Int} {u : Int} (h : VCup l u) : ∀ j,j < l.length → 0 ≤ g l j ∧ g l j ≤ 1099511627776 := fun j hj => by
 have h1 := h.b j hj;have h2 := h.u2;omega
theorem szCups_in {l : List Int} (u : Int) (h : l.length ≤ 1048576) : laws_szCups.f l u 1048576 = some (1048576 - (l.length : Int)) := by
 unfold laws_szCups.f laws_szIntS.f
 rw [wrap_id (by omega) (by omega),if_neg (by omega),Option.bind_some,if_neg (by omega)]
theorem szCups_out {l : List Int} (u : Int) (h : ¬ l.length ≤ 1048576) (hm : l.length ≤ maxLen) : laws_szCups.f l u 1048576 = some (-1) := by
 simp only [maxLen] at hm
 unfold laws_szCups.f laws_szIntS.f
 rw [wrap_id (by omega) (by omega),if_pos (by omega)];rfl
theorem toCups_at {l : List Int} (hl : l.length ≤ 1099511627776) (u : Int) {k : Nat} (hk : l.length < k) : laws_toCups.f k l u = some (l,u) := by
 unfold laws_toCups.f;rw [toIntS_at hl hk];rfl
theorem eqCups_at {l : List Int} (hl : l.length ≤ 1099511627776) (u : Int) {k : Nat} (hk : l.length < k) : laws_eqCups.f k l u l u = some true := by
 unfold laws_eqCups.f;rw [eqIntS_at hl hk,Option.bind_some,if_pos rfl,if_pos rfl]
theorem and_i64_nat (a b : Nat) (ha : a < 9223372036854775808) (hb : b < 9223372036854775808) : Go.bits .and .i64 (a : Int) (b : Int) = ((a &&& b : Nat) : Int) := by
 have h : a &&& b ≤ a := Nat.and_le_left
 have h1 : (BitVec.ofInt 64 (a : Int)).toNat = a := by
  rw [BitVec.ofInt_natCast,BitVec.toNat_ofNat];exact Nat.mod_eq_of_lt (by omega)
 have h2 : (BitVec.ofInt 64 (b : Int)).toNat = b := by
  rw [BitVec.ofInt_natCast,BitVec.toNat_ofNat];exact Nat.mod_eq_of_lt (by omega)
 show IntKind.i64.wrap ((BitVec.ofInt 64 (a : Int) &&& BitVec.ofInt 64 (b : Int)).toNat : Int) = _
 rw [BitVec.toNat_and,h1,h2,i64_w,wrap_id (by omega) (by omega)]
/-- A unit,as the code asks for it. -/
def isUnit (u : Int) : Bool := inB 1 1048576 u && (Go.bits .and .i64 u (wrap64 (u - 1)) == 0)
theorem isUnit_iff (u : Int) : isUnit u = true ↔ ∃ e : Nat,e ≤ 20 ∧ u = ((2 ^ e : Nat) : Int) := by
 unfold isUnit
 rw [Bool.and_eq_true,inB_iff,beq_iff_eq]
 have key : ∀ n : Nat,1 ≤ n → n ≤ 1048576 → (Go.bits .and .i64 (n : Int) (wrap64 ((n : Int) - 1)) = 0 ↔ ∃ e : Nat,n = 2 ^ e) := fun n h1 h2 => by
  have e : wrap64 ((n : Int) - 1) = ((n - 1 : Nat) : Int) := by rw [wrap_id (by omega) (by omega)];omega
  rw [e,and_i64_nat n (n - 1) (by omega) (by omega)]
  have := Nat.and_sub_one_eq_zero_iff_isPowerOfTwo (n := n) (by omega)
  constructor
  ·intro h;exact this.1 (by omega)
  ·intro h;have := this.2 h;omega
 constructor
 ·intro ⟨⟨h1,h2⟩,h3⟩
  obtain ⟨n,rfl⟩ : ∃ n : Nat,u = (n : Int) := ⟨u.toNat,by omega⟩
  obtain ⟨e,he⟩ := (key n (by omega) (by omega)).1 h3
  refine ⟨e,?_,by rw [he]⟩
  rcases Nat.lt_or_ge 20 e with h | h
  ·have : 2 ^ 21 ≤ 2 ^ e := Nat.pow_le_pow_right (by omega) (by omega)
   omega
  ·exact h
 ·intro ⟨e,he,hu⟩
  have h1 : 2 ^ e ≤ 2 ^ 20 := Nat.pow_le_pow_right (by omega) he
  have h2 : 0 < 2 ^ e := Nat.pow_pos (by omega)
  subst hu
  exact ⟨⟨by omega,by omega⟩,(key (2 ^ e) (by omega) (by omega)).2 ⟨e,rfl⟩⟩
theorem isUnit_b {u : Int} (h : isUnit u = true) : 1 ≤ u ∧ u ≤ 1048576 := by
 unfold isUnit at h
 rw [Bool.and_eq_true,inB_iff] at h;exact h.1
theorem vcup_def (l : List Int) (u : Int) : vcup l u = (inB 2 6 (l.length : Int) && isUnit u && l.all (inB 0 (wrap64 (1000 * u))) && (decide (u = 1) || l.any oddx)) := rfl
/-- Each halved. -/
def halved (l : List Int) : List Int := l.map fun x => x / 2
theorem len_halved (l : List Int) : (halved l).length = l.length := by simp [halved]
theorem g_halved {l : List Int} {j : Nat} (h : j < l.length) : g (halved l) j = g l j / 2 := g_map l _ j h
/-- Lowered so many times at most. -/
def red : Nat → List Int → Int → List Int × Int
 | 0,l,u => (l,u)
 | n + 1,l,u => if u > 1 ∧ l.any oddx = false then red n (halved l) (u / 2) else (l,u)
def halfFrom (l : List Int) (i : Nat) : List Int := (List.range l.length).map fun j => if i ≤ j then g l j / 2 else g l j
theorem len_halfFrom (l : List Int) (i : Nat) : (halfFrom l i).length = l.length := by simp [halfFrom]
theorem g_halfFrom {l : List Int} (i : Nat) {j : Nat} (h : j < l.length) : g (halfFrom l i) j = if i ≤ j then g l j / 2 else g l j := by unfold halfFrom;rw [g_range _ _ _ h]
theorem halfFrom_zero (l : List Int) : halfFrom l 0 = halved l := by
 apply ext_g (by rw [len_halfFrom,len_halved])
 intro j hj;rw [len_halfFrom] at hj
 rw [g_halfFrom _ hj,g_halved hj,if_pos (by omega)]
theorem halfFrom_end {l : List Int} {i : Nat} (h : l.length ≤ i) : halfFrom l i = l := by
 apply ext_g (len_halfFrom l i)
 intro j hj;rw [len_halfFrom] at hj
 rw [g_halfFrom _ hj,if_neg (by omega)]
theorem halfFrom_set {l : List Int} {i : Nat} (h : i < l.length) : halfFrom (l.set i (g l i / 2)) (i + 1) = halfFrom l i := by
 apply ext_g (by rw [len_halfFrom,len_halfFrom,List.length_set])
 intro j hj;rw [len_halfFrom,List.length_set] at hj
 rw [g_halfFrom _ (by rw [List.length_set];exact hj),g_halfFrom _ hj]
 have e1 : g (l.set i (g l i / 2)) j = if i = j then g l i / 2 else g l j := by
  rw [g_set]
  by_cases e : i = j
  ·rw [if_pos ⟨e,hj⟩,if_pos e]
  ·rw [if_neg (fun q => e q.1),if_neg e]
 rw [e1]
 by_cases e : i = j
 ·subst e;rw [if_neg (by omega),if_pos rfl,if_pos (by omega)]
 ·rw [if_neg e]
  by_cases q : i ≤ j
  ·rw [if_pos q,if_pos (by omega)]
  ·rw [if_neg q,if_neg (by omega)]
/-- Numbers that never leave their range. -/
def Low (l : List Int) : Prop := l.length ≤ 1099511627776 ∧ ∀ j,j < l.length → 0 ≤ g l j ∧ g l j ≤ 1125899906842624
theorem Low.halved {l : List Int} (h : Low l) : Low (halved l) := ⟨by rw [len_halved];exact h.1,fun j hj => by rw [len_halved] at hj;rw [g_halved hj];have := h.2 j hj;omega⟩
theorem reduced_l1 (u : Int) (d : Nat) : ∀ (k i : Nat) (l : List Int),i + d = l.length → Low l → impl_reduced.l1 (k + d + 1) (l.length : Int) (i : Int) l u = impl_reduced.l0 k (halfFrom l i) u := by
 induction d with
 | zero =>
  intro k i l hi hl
  simp only [impl_reduced.l1]
  rw [if_neg (by omega),halfFrom_end (by omega)]
 | succ d ih =>
  intro k i l hi hl
  have h1 := hl.1;have h2 := hl.2 i (by omega)
  generalize hm : k + (d + 1) = m
  simp only [impl_reduced.l1]
  rw [if_pos (by omega),if_pos (by omega),if_pos (by omega),rd_g,tdiv2 h2.1,wrap_id (x := g l i / 2) (by omega) (by omega),wrap_succ (by omega),Int.toNat_natCast,show m = k + d + 1 by omega, ← halfFrom_set (l := l) (by omega)]
  have := ih k (i + 1) (l.set i (g l i / 2)) (by rw [List.length_set];omega) ⟨by rw [List.length_set];exact h1,fun j hj => by
   rw [List.length_set] at hj
   rw [g_set];split
   ·omega
   ·exact hl.2 j hj⟩
  rw [List.length_set] at this
  exact this
theorem cuLow_l2 (u : Int) (d : Nat) : ∀ (k i : Nat) (l : List Int),i + d = l.length → Low l → spec_cuLow.l2 (k + d + 1) (l.length : Int) (i : Int) l u = spec_cuLow.l0 k (halfFrom l i) (wrap64 (Int.tdiv u 2)) := by
 induction d with
 | zero =>
  intro k i l hi hl
  simp only [spec_cuLow.l2]
  rw [if_neg (by omega),halfFrom_end (by omega)]
 | succ d ih =>
  intro k i l hi hl
  have h1 := hl.1;have h2 := hl.2 i (by omega)
  generalize hm : k + (d + 1) = m
  simp only [spec_cuLow.l2]
  rw [if_pos (by omega),if_pos (by omega),if_pos (by omega),rd_g,tdiv2 h2.1,wrap_id (x := g l i / 2) (by omega) (by omega),wrap_succ (by omega),Int.toNat_natCast,show m = k + d + 1 by omega, ← halfFrom_set (l := l) (by omega)]
  have := ih k (i + 1) (l.set i (g l i / 2)) (by rw [List.length_set];omega) ⟨by rw [List.length_set];exact h1,fun j hj => by
   rw [List.length_set] at hj
   rw [g_set];split
   ·omega
   ·exact hl.2 j hj⟩
  rw [List.length_set] at this
  exact this
theorem cuLow_l1 {l : List Int} (u : Int) (hl : Low l) (d : Nat) : ∀ (k i : Nat),i + d = l.length →
  spec_cuLow.l1 (k + d + 1) l (l.length : Int) (i : Int) l u = if (l.drop i).any oddx = true then some (l,u) else spec_cuLow.l2 k (l.length : Int) 0 l u := by
 induction d with
 | zero =>
  intro k i hi
  simp only [spec_cuLow.l1]
  rw [if_neg (by omega),List.drop_eq_nil_of_le (by omega)];simp
 | succ d ih =>
  intro k i hi
  have h1 := hl.1
  generalize hm : k + (d + 1) = m
  simp only [spec_cuLow.l1]
  rw [if_pos (by omega),if_pos (by omega),if_pos (by omega),rd_g,wrap_succ (by omega),List.drop_eq_getElem_cons (by omega : i < l.length),List.any_cons, ← g_lt (by omega)]
  by_cases c : Int.tmod (g l i) 2 = 1
  ·have e : oddx (g l i) = true := decide_eq_true c
   rw [if_pos c,e];simp
  ·have e : oddx (g l i) = false := decide_eq_false c
   rw [if_neg c,e,Bool.false_or,show m = k + d + 1 by omega]
   exact ih k (i + 1) (by omega)
theorem contains_odd2 (l : List Int) : slices_ContainsFunc_int_int.f l 75 = some (l.any oddx) := by
 unfold slices_ContainsFunc_int_int.f;rw [if_pos (by rfl)]
theorem reduced_l0 (n : Nat) : ∀ (l : List Int) (u : Int),Low l → 0 ≤ u → u < n → u ≤ 1125899906842624 → ∃ K, ∀ k,K ≤ k → impl_reduced.l0 k l u = some (red n l u) := by
 induction n with
 | zero => intro l u _ h;omega
 | succ n ih =>
  intro l u hl h0 hn hu
  by_cases c : u > 1 ∧ l.any oddx = false
  ·obtain ⟨K,hK⟩ := ih (halved l) (u / 2) hl.halved (by omega) (by omega) (by omega)
   refine ⟨K + l.length + 3,fun k hk => ?_⟩
   obtain ⟨k,rfl⟩ : ∃ m,k = m + l.length + 1 + 1 + 1 := ⟨k - l.length - 3,by omega⟩
   simp only [impl_reduced.l0,impl_reduced.j1]
   rw [if_pos c.1,contains_odd2,c.2,Option.bind_some,Bool.not_false,if_pos rfl,tdiv2 h0,wrap_id (by omega) (by omega)]
   have := reduced_l1 (u / 2) l.length k 0 l (by omega) hl
   refine Eq.trans this ?_
   rw [halfFrom_zero,hK k (by omega)]
   simp only [red];rw [if_pos c]
  ·refine ⟨3,fun k hk => ?_⟩
   obtain ⟨k,rfl⟩ : ∃ m,k = m + 1 + 1 := ⟨k - 2,by omega⟩
   simp only [impl_reduced.l0,impl_reduced.j1,contains_odd2,red]
   rw [if_neg c]
   by_cases c1 : u > 1
   ·have e : l.any oddx = true := by
     cases q : l.any oddx with
     | true => rfl
     | false => exact absurd ⟨c1,q⟩ c
    rw [if_pos c1,e];simp
   ·rw [if_neg c1];simp
theorem cuLow_l0 (n : Nat) : ∀ (l : List Int) (u : Int),Low l → 0 ≤ u → u < n → u ≤ 1125899906842624 → ∃ K, ∀ k,K ≤ k → spec_cuLow.l0 k l u = some (red n l u) := by
 induction n with
 | zero => intro l u _ h;omega
 | succ n ih =>
  intro l u hl h0 hn hu
  by_cases c1 : u > 1
  ·cases q : l.any oddx with
   | false =>
    obtain ⟨K,hK⟩ := ih (halved l) (u / 2) hl.halved (by omega) (by omega) (by omega)
    refine ⟨K + l.length + l.length + 3,fun k hk => ?_⟩
    obtain ⟨k,rfl⟩ : ∃ m,k = m + l.length + 1 + l.length + 1 + 1 := ⟨k - l.length - l.length - 3,by omega⟩
    simp only [spec_cuLow.l0]
    rw [if_pos c1]
    have e1 := cuLow_l1 u hl l.length (k + l.length + 1) 0 (by omega)
    refine Eq.trans e1 ?_
    rw [List.drop_zero,q,if_neg (by decide)]
    have e2 := cuLow_l2 u l.length k 0 l (by omega) hl
    refine Eq.trans e2 ?_
    rw [tdiv2 h0,wrap_id (by omega) (by omega),halfFrom_zero,hK k (by omega)]
    simp only [red];rw [if_pos ⟨c1,q⟩]
   | true =>
    refine ⟨l.length + 3,fun k hk => ?_⟩
    obtain ⟨k,rfl⟩ : ∃ m,k = m + l.length + 1 + 1 := ⟨k - l.length - 2,by omega⟩
    simp only [spec_cuLow.l0]
    rw [if_pos c1]
    have e1 := cuLow_l1 u hl l.length k 0 (by omega)
    refine Eq.trans e1 ?_
    rw [List.drop_zero,if_pos q]
    simp only [red];rw [if_neg (by rw [q];simp)]
  ·refine ⟨1,fun k hk => ?_⟩
   obtain ⟨k,rfl⟩ : ∃ m,k = m + 1 := ⟨k - 1,by omega⟩
   simp only [spec_cuLow.l0,red]
   rw [if_neg c1,if_neg (fun x => c1 x.1)]
theorem len_red (n : Nat) : ∀ l u,(red n l u).1.length = l.length := by
 induction n with
 | zero => intro l u;rfl
 | succ n ih => intro l u;simp only [red];split;rw [ih,len_halved];rfl
theorem red_succ (n : Nat) (l : List Int) (u : Int) : red (n + 1) l u = if u > 1 ∧ l.any oddx = false then red n (halved l) (u / 2) else (l,u) := rfl
theorem red_done (n : Nat) : ∀ (l : List Int) (u : Int),1 ≤ u → u < n → 1 ≤ (red n l u).2 ∧ (red n l u).2 ≤ u ∧ ((red n l u).2 = 1 ∨ (red n l u).1.any oddx = true) := by
 induction n with
 | zero => intro l u h1 h;omega
 | succ n ih =>
  intro l u h1 hn
  have e := red_succ n l u
  by_cases c : u > 1 ∧ l.any oddx = false
  ·rw [if_pos c] at e
   rw [e]
   have := ih (halved l) (u / 2) (by omega) (by omega)
   exact ⟨this.1,by have := this.2.1;omega,this.2.2⟩
  ·rw [if_neg c] at e
   rw [e]
   refine ⟨h1,Int.le_refl _,?_⟩
   show u = 1 ∨ l.any oddx = true
   by_cases q : u = 1
   ·exact Or.inl q
   ·cases q2 : l.any oddx with
    | true => exact Or.inr rfl
    | false => exact absurd ⟨by omega,q2⟩ c
def dbl (l : List Int) : List Int := l.map fun x => 2 * x
theorem len_dbl (l : List Int) : (dbl l).length = l.length := by simp [dbl]
theorem g_dbl {l : List Int} {j : Nat} (h : j < l.length) : g (dbl l) j = 2 * g l j := g_map l _ j h
theorem vcup_unit {l : List Int} {u : Int} (h : vcup l u = true) : isUnit u = true := by
 rw [vcup_def] at h
 simp only [Bool.and_eq_true] at h
 exact h.1.1.2
theorem pow_half {u : Int} (h : ∃ e : Nat,u = ((2 ^ e : Nat) : Int)) (h1 : 1 < u) : (∃ e : Nat,u / 2 = ((2 ^ e : Nat) : Int)) ∧ u % 2 = 0 := by
 obtain ⟨e,he⟩ := h
 match e,he with
 | 0,he => simp at he;omega
 | e + 1,he =>
  rw [Nat.pow_succ] at he
  exact ⟨⟨e,by omega⟩,by omega⟩
theorem red_pow (n : Nat) : ∀ (l : List Int) (u : Int),(∃ e : Nat,u = ((2 ^ e : Nat) : Int)) → ∃ e : Nat,(red n l u).2 = ((2 ^ e : Nat) : Int) := by
 induction n with
 | zero => intro l u h;exact h
 | succ n ih =>
  intro l u h
  rw [red_succ]
  by_cases c : u > 1 ∧ l.any oddx = false
  ·rw [if_pos c];exact ih _ _ (pow_half h c.1).1
  ·rw [if_neg c];exact h
theorem red_bound (n : Nat) : ∀ (l : List Int) (u : Int),(∃ e : Nat,u = ((2 ^ e : Nat) : Int)) → (∀ j,j < l.length → 0 ≤ g l j ∧ g l j ≤ 1000 * u) → ∀ j,j < (red n l u).1.length → 0 ≤ g (red n l u).1 j ∧ g (red n l u).1 j ≤ 1000 * (red n l u).2 := by
 induction n with
 | zero => intro l u _ h;exact h
 | succ n ih =>
  intro l u h hb
  rw [red_succ]
  by_cases c : u > 1 ∧ l.any oddx = false
  ·rw [if_pos c]
   have hp := pow_half h c.1
   exact ih _ _ hp.1 fun j hj => by
    rw [len_halved] at hj;rw [g_halved hj]
    have := hb j hj;have := hp.2;omega
  ·rw [if_neg c];exact hb
theorem isUnit_pow {u : Int} (h : ∃ e : Nat,u = ((2 ^ e : Nat) : Int)) (hu : u ≤ 1048576) : isUnit u = true := by
 obtain ⟨e,he⟩ := h
 refine (isUnit_iff u).2 ⟨e,?_,he⟩
 rcases Nat.lt_or_ge 20 e with q | q
 ·have : 2 ^ 21 ≤ 2 ^ e := Nat.pow_le_pow_right (by omega) (by omega)
  omega
 ·exact q
/-- Lowered cups are valid just if their unit is one. -/
theorem vcup_low {l : List Int} {u : Int} (n : Nat) (h1 : 2 ≤ l.length) (h2 : l.length ≤ 6) (hp : ∃ e : Nat,u = ((2 ^ e : Nat) : Int)) (hu : 1 ≤ u) (hn : u < n) (hb : ∀ j,j < l.length → 0 ≤ g l j ∧ g l j ≤ 1000 * u) : vcup (red n l u).1 (red n l u).2 = isUnit (red n l u).2 := by
 have hd := red_done n l u hu hn
 have hl := len_red n l u
 have hbb := red_bound n l u hp hb
 rw [vcup_def]
 have e1 : inB 2 6 ((red n l u).1.length : Int) = true := inB_iff.2 (by omega)
 have e2 : (decide ((red n l u).2 = 1) || (red n l u).1.any oddx) = true := by
  rcases hd.2.2 with q | q
  ·rw [decide_eq_true q];rfl
  ·rw [q];simp
 rw [e1,e2]
 cases q : isUnit (red n l u).2 with
 | false => rfl
 | true =>
  have hq := isUnit_b q
  have e3 : (red n l u).1.all (inB 0 (wrap64 (1000 * (red n l u).2))) = true := by
   rw [List.all_eq_true]
   intro x hx
   obtain ⟨j,hj,rfl⟩ := mem_g hx
   have := hbb j hj
   rw [wrap_id (by omega) (by omega)]
   exact inB_iff.2 this
  rw [e3];rfl
/-- The parts behind a mix. -/
def mixl (l : List Int) (a b : Nat) : List Int := (List.range l.length).map fun j => if j = a ∨ j = b then g l a + g l b else 2 * g l j
theorem len_mixl (l : List Int) (a b : Nat) : (mixl l a b).length = l.length := by simp [mixl]
theorem g_mixl {l : List Int} (a b : Nat) {j : Nat} (h : j < l.length) : g (mixl l a b) j = if j = a ∨ j = b then g l a + g l b else 2 * g l j := by unfold mixl;rw [g_range _ _ _ h]
theorem mixl_b {l : List Int} {u : Int} (h : ∀ j,j < l.length → 0 ≤ g l j ∧ g l j ≤ 1000 * u) {a b : Nat} (ha : a < l.length) (hb : b < l.length) : ∀ j,j < (mixl l a b).length → 0 ≤ g (mixl l a b) j ∧ g (mixl l a b) j ≤ 1000 * (2 * u) := fun j hj => by
 rw [len_mixl] at hj;rw [g_mixl _ _ hj]
 have h1 := h a ha;have h2 := h b hb;have h3 := h j hj
 split <;> omega
theorem mix_set {l : List Int} {a b : Nat} (ha : a < l.length) (hb : b < l.length) : ((dbl l).set a (g l a + g l b)).set b (g l a + g l b) = mixl l a b := by
 apply ext_g (by rw [List.length_set,List.length_set,len_dbl,len_mixl])
 intro j hj
 rw [List.length_set,List.length_set,len_dbl] at hj
 rw [g_mixl _ _ hj,g_set,List.length_set,len_dbl,g_set,len_dbl,g_dbl hj]
 by_cases e1 : j = b
 ·rw [if_pos ⟨e1.symm,hj⟩,if_pos (Or.inr e1)]
 ·rw [if_neg (fun q => e1 q.1.symm)]
  by_cases e2 : j = a
  ·rw [if_pos ⟨e2.symm,hj⟩,if_pos (Or.inl e2)]
  ·rw [if_neg (fun q => e2 q.1.symm),if_neg (fun q => q.elim e2 e1)]
/-- Cups as both find them in play: valid but for the unit's bound. -/
structure Fits (l : List Int) (u : Int) : Prop where
 lo : 2 ≤ l.length
 hi : l.length ≤ 6
 u1 : 1 ≤ u
 u2 : u ≤ 1048576
 p : ∃ e : Nat,u = ((2 ^ e : Nat) : Int)
 b : ∀ j,j < l.length → 0 ≤ g l j ∧ g l j ≤ 1000 * u
theorem vcup_fits {l : List Int} {u : Int} (h : vcup l u = true) : Fits l u := by
 have hv := vcup_V h
 obtain ⟨e,_,he⟩ := (isUnit_iff u).1 (vcup_unit h)
 exact ⟨hv.lo,hv.hi,hv.u1,hv.u2,⟨e,he⟩,hv.b⟩
theorem mixl_low {l : List Int} {u : Int} (h : Fits l u) {a b : Nat} (ha : a < l.length) (hb : b < l.length) : Low (mixl l a b) := by
 have h1 := h.hi;have h2 := h.u2
 exact ⟨by rw [len_mixl];omega,fun j hj => by have := mixl_b h.b ha hb j hj;omega⟩
/-- Cups behind a mix. -/
def mixu (l : List Int) (u : Int) (a b : Nat) : List Int × Int := red ((2 * u).toNat + 1) (mixl l a b) (2 * u)
theorem pow_two {u : Int} (h : ∃ e : Nat,u = ((2 ^ e : Nat) : Int)) : ∃ e : Nat,2 * u = ((2 ^ e : Nat) : Int) := by
 obtain ⟨e,he⟩ := h
 exact ⟨e + 1,by rw [Nat.pow_succ];omega⟩
theorem len_mixu (l : List Int) (u : Int) (a b : Nat) : (mixu l u a b).1.length = l.length := by unfold mixu;rw [len_red,len_mixl]
theorem vcup_mixu {l : List Int} {u : Int} (h : Fits l u) {a b : Nat} (ha : a < l.length) (hb : b < l.length) : vcup (mixu l u a b).1 (mixu l u a b).2 = isUnit (mixu l u a b).2 := by
 have h1 := h.u1
 exact vcup_low _ (by rw [len_mixl];exact h.lo) (by rw [len_mixl];exact h.hi) (pow_two h.p) (by omega) (by omega) (mixl_b h.b ha hb)
theorem impl_mix_l0 {l : List Int} {u : Int} (h : Fits l u) {a b : Nat} (ha : a < l.length) (hb : b < l.length) (u0 : Int) (d : Nat) : ∀ (k i : Nat),i + d = l.length →
  impl_mix.l0 (k + d + 1) (a : Int) (b : Int) l (l.length : Int) (i : Int) l u0 ((dbl l).take i) (2 * u) = (impl_reduced.f k (mixl l a b) (2 * u)).bind fun bt => some (bt.1,bt.2) := by
 induction d with
 | zero =>
  intro k i hi
  have h1 := h.hi;have h3 := h.u2;have b1 := h.b a ha;have b2 := h.b b hb
  simp only [impl_mix.l0]
  rw [if_neg (by omega),List.take_of_length_le (by rw [len_dbl];omega),if_pos (by omega),if_pos (by omega),if_pos (by omega),if_pos (by omega),len_dbl,if_pos (by omega),if_pos (by omega),rd_g,rd_g,wrap_id (x := g l a + g l b) (by omega) (by omega),Int.toNat_natCast,Int.toNat_natCast,mix_set ha hb]
 | succ d ih =>
  intro k i hi
  have h1 := h.hi;have h2 := h.b i (by omega);have h3 := h.u2
  generalize hm : k + (d + 1) = m
  simp only [impl_mix.l0]
  rw [if_pos (by omega),if_pos (by omega),if_pos (by omega),if_pos (by rw [List.length_take,len_dbl];omega),rd_g,wrap_id (x := 2 * g l i) (by omega) (by omega),wrap_succ (by omega),show m = k + d + 1 by omega]
  have := ih k (i + 1) (by omega)
  rw [take_snoc _ _ (by rw [len_dbl];omega),g_dbl (by omega)] at this
  exact this
theorem impl_mix_ev {l : List Int} {u : Int} (h : Fits l u) {a b : Nat} (ha : a < l.length) (hb : b < l.length) : ∃ K, ∀ k,K ≤ k → impl_mix.f k l u (a : Int) (b : Int) = some (mixu l u a b) := by
 have h1 := h.u1;have h2 := h.u2;have h3 := h.hi
 obtain ⟨K,hK⟩ := reduced_l0 ((2 * u).toNat + 1) (mixl l a b) (2 * u) (mixl_low h ha hb) (by omega) (by omega) (by omega)
 refine ⟨K + l.length + 1,fun k hk => ?_⟩
 obtain ⟨k,rfl⟩ : ∃ m,k = m + l.length + 1 := ⟨k - l.length - 1,by omega⟩
 unfold impl_mix.f
 rw [wrap_id (x := 2 * u) (by omega) (by omega)]
 have e := impl_mix_l0 h ha hb u l.length k 0 (by omega)
 refine Eq.trans e ?_
 unfold impl_reduced.f
 rw [hK k (by omega)];rfl
theorem spec_mix_l0 {l : List Int} {u : Int} (h : Fits l u) {a b : Nat} (ha : a < l.length) (hb : b < l.length) (d : Nat) : ∀ (k i : Nat),i + d = l.length →
  spec_cuMix.l0 (k + d + 1) (a : Int) (b : Int) (g l a + g l b) l (l.length : Int) (i : Int) ((mixl l a b).take i) (2 * u) = (spec_cuLow.f k (mixl l a b) (2 * u)).bind fun bt => (spec_cuUnit.f bt.2).bind fun t => some (bt.1,bt.2,t) := by
 induction d with
 | zero =>
  intro k i hi
  have h1 := h.hi
  simp only [spec_cuMix.l0]
  rw [if_neg (by omega),List.take_of_length_le (by rw [len_mixl];omega)]
 | succ d ih =>
  intro k i hi
  have h1 := h.hi;have h2 := h.b i (by omega);have h3 := h.u2
  have := ih k (i + 1) (by omega)
  rw [take_snoc _ _ (by rw [len_mixl];omega),g_mixl _ _ (by omega)] at this
  generalize hm : k + (d + 1) = m
  have hlim : (List.take i (mixl l a b)).length < 17592186044416 := by rw [List.length_take,len_mixl];omega
  simp only [spec_cuMix.l0]
  rw [if_pos (by omega),if_pos (by omega),if_pos (by omega),if_pos hlim,rd_g,wrap_id (x := 2 * g l i) (by omega) (by omega),wrap_succ (by omega),show m = k + d + 1 by omega]
  by_cases e1 : i = a
  ·rw [if_pos (by omega)];rw [if_pos (Or.inl e1)] at this;exact this
  ·rw [if_neg (by omega)]
   by_cases e2 : i = b
   ·rw [if_pos (by omega)];rw [if_pos (Or.inr e2)] at this;exact this
   ·rw [if_neg (by omega),if_pos hlim];rw [if_neg (fun q => q.elim e1 e2)] at this;exact this
theorem cuUnit_isUnit (u : Int) : spec_cuUnit.f u = some (isUnit u) := cuUnit_eq u
theorem spec_mix_ev {l : List Int} {u : Int} (h : Fits l u) {a b : Nat} (ha : a < l.length) (hb : b < l.length) : ∃ K, ∀ k,K ≤ k → spec_cuMix.f k l u (a : Int) (b : Int) = some ((mixu l u a b).1,(mixu l u a b).2,isUnit (mixu l u a b).2) := by
 have h1 := h.u1;have h2 := h.u2;have h3 := h.hi;have b1 := h.b a ha;have b2 := h.b b hb
 have hlow := mixl_low h ha hb
 obtain ⟨K,hK⟩ := cuLow_l0 ((2 * u).toNat + 1) (mixl l a b) (2 * u) hlow (by omega) (by omega) (by omega)
 refine ⟨K + l.length + 1,fun k hk => ?_⟩
 obtain ⟨k,rfl⟩ : ∃ m,k = m + l.length + 1 := ⟨k - l.length - 1,by omega⟩
 unfold spec_cuMix.f
 rw [if_pos (by omega),if_pos (by omega),if_pos (by omega),if_pos (by omega),rd_g,rd_g,wrap_id (x := 2 * u) (by omega) (by omega),wrap_id (x := g l a + g l b) (by omega) (by omega)]
 have e := spec_mix_l0 h ha hb l.length k 0 (by omega)
 refine Eq.trans e ?_
 unfold spec_cuLow.f
 rw [l1Own_eq hlow.1,Option.bind_some,hK k (by omega),Option.bind_some,cuUnit_isUnit];rfl
/-- A mix of so many cups,as both take it. -/
def mval (n : Nat) (m : List Int) : Bool := decide (m.length = 2) && (inB 0 ((n : Int) - 1) (g m 0) && (inB 0 ((n : Int) - 1) (g m 1) && decide (g m 0 < g m 1)))
/-- Cups behind mixes,if no unit becomes too great. -/
def mrun : List (List Int) → List Int → Int → Option (List Int × Int)
 | [],l,u => some (l,u)
 | m :: ms,l,u => if isUnit (mixu l u (g m 0).toNat (g m 1).toNat).2 = true then mrun ms (mixu l u (g m 0).toNat (g m 1).toNat).1 (mixu l u (g m 0).toNat (g m 1).toNat).2 else none
def mtell : Option (List Int × Int) → List Int × Int × Bool
 | some p => (p.1,p.2,true)
 | none => ([],0,false)
def mres (n : Nat) (ms : List (List Int)) (l : List Int) (u : Int) : List Int × Int × Bool := if ms.all (mval n) = true then mtell (mrun ms l u) else ([],0,false)
theorem mval_iff {n : Nat} {m : List Int} : mval n m = true ↔ m.length = 2 ∧ (0 ≤ g m 0 ∧ g m 0 ≤ (n : Int) - 1) ∧ (0 ≤ g m 1 ∧ g m 1 ≤ (n : Int) - 1) ∧ g m 0 < g m 1 := by
 unfold mval
 rw [Bool.and_eq_true,Bool.and_eq_true,Bool.and_eq_true,inB_iff,inB_iff,decide_eq_true_eq,decide_eq_true_eq]
theorem mres_bad {n : Nat} {m : List Int} (h : mval n m = false) (ms : List (List Int)) (l : List Int) (u : Int) : mres n (m :: ms) l u = ([],0,false) := by
 unfold mres;rw [List.all_cons,h,Bool.false_and,if_neg (by simp)]
theorem mrun_no {m : List Int} {l : List Int} {u : Int} (h : isUnit (mixu l u (g m 0).toNat (g m 1).toNat).2 = false) (ms : List (List Int)) : mrun (m :: ms) l u = none := by
 simp only [mrun];rw [h,if_neg (by simp)]
theorem mrun_go {m : List Int} {l : List Int} {u : Int} (h : isUnit (mixu l u (g m 0).toNat (g m 1).toNat).2 = true) (ms : List (List Int)) : mrun (m :: ms) l u = mrun ms (mixu l u (g m 0).toNat (g m 1).toNat).1 (mixu l u (g m 0).toNat (g m 1).toNat).2 := by
 simp only [mrun];rw [if_pos h]
theorem mres_no {n : Nat} {m : List Int} {l : List Int} {u : Int} (h : isUnit (mixu l u (g m 0).toNat (g m 1).toNat).2 = false) (ms : List (List Int)) : mres n (m :: ms) l u = ([],0,false) := by
 unfold mres;rw [mrun_no h];split <;> rfl
theorem mres_go {n : Nat} {m : List Int} {l : List Int} {u : Int} (hv : mval n m = true) (h : isUnit (mixu l u (g m 0).toNat (g m 1).toNat).2 = true) (ms : List (List Int)) : mres n (m :: ms) l u = mres n ms (mixu l u (g m 0).toNat (g m 1).toNat).1 (mixu l u (g m 0).toNat (g m 1).toNat).2 := by
 unfold mres;rw [mrun_go h,List.all_cons,hv,Bool.true_and]
theorem Fits.mix {l : List Int} {u : Int} (h : Fits l u) {a b : Nat} (ha : a < l.length) (hb : b < l.length) (hu : isUnit (mixu l u a b).2 = true) : Fits (mixu l u a b).1 (mixu l u a b).2 := vcup_fits (by rw [vcup_mixu h ha hb];exact hu)
theorem red_id {n : Nat} {l : List Int} {u : Int} (h : u = 1 ∨ l.any oddx = true) : red (n + 1) l u = (l,u) := by
 rw [red_succ,if_neg]
 rintro ⟨h1,h2⟩
 rcases h with h | h
 ·omega
 ·rw [h] at h2;cases h2
theorem vcup_odd {l : List Int} {u : Int} (h : vcup l u = true) : u = 1 ∨ l.any oddx = true := by
 rw [vcup_def] at h
 simp only [Bool.and_eq_true,Bool.or_eq_true,decide_eq_true_eq] at h
 exact h.2
theorem Fits.low {l : List Int} {u : Int} (h : Fits l u) : Low l := by
 have h1 := h.hi;have h2 := h.u2
 exact ⟨by omega,fun j hj => by have := h.b j hj;omega⟩
theorem cuLow_ev {l : List Int} {u : Int} (h : vcup l u = true) : ∃ K, ∀ k,K ≤ k → spec_cuLow.f k l u = some (l,u) := by
 have hf := vcup_fits h
 have h1 := hf.u1;have h2 := hf.u2
 obtain ⟨K,hK⟩ := cuLow_l0 (u.toNat + 1) l u hf.low (by omega) (by omega) (by omega)
 refine ⟨K,fun k hk => ?_⟩
 unfold spec_cuLow.f
 rw [l1Own_eq hf.low.1,Option.bind_some,hK k hk,red_id (vcup_odd h)]
theorem cuTwo_eq (l : List Int) (u a b : Int) (hL : l.length ≤ 1099511627776) : spec_cuTwo.f l u a b = some (inB 0 ((l.length : Int) - 1) a && (inB 0 ((l.length : Int) - 1) b && (a != b))) := by
 unfold spec_cuTwo.f
 rw [wrap_id (by omega) (by omega),l1In_eq,l1In_eq,Option.bind_some]
 cases inB 0 ((l.length : Int) - 1) a with
 | false => rfl
 | true => cases inB 0 ((l.length : Int) - 1) b <;> rfl
theorem isCup_at (l : List Int) (u a : Int) (hL : l.length ≤ 1099511627776) {k : Nat} (hk : 1 ≤ k) : impl_isCup.f k l u a = some (vcup l u && inB 0 ((l.length : Int) - 1) a) := by
 unfold impl_isCup.f
 rw [impl_AreCups_at l u hk,Option.bind_some,wrap_id (by omega) (by omega),within_eq]
 cases vcup l u <;> rfl
theorem rd0 (m : List Int) : rd m 0 = g m 0 := rfl
theorem rd1 (m : List Int) : rd m 1 = g m 1 := rfl
theorem cuPlay_l0 (c : List Int) (u0 : Int) (hc : c.length ≤ 6) : ∀ (rest pre : List (List Int)) (l : List Int) (u : Int),Fits l u → l.length = c.length → (pre ++ rest).length ≤ 50 → ∃ K, ∀ k,K ≤ k → spec_cuPlay.l0 k (pre ++ rest) ((pre ++ rest).length : Int) (pre.length : Int) c u0 l u = some (mres c.length rest l u)
 | [],pre,l,u,h,hl,hp => by
  refine ⟨1,fun k hk => ?_⟩
  obtain ⟨k,rfl⟩ : ∃ m,k = m + 1 := ⟨k - 1,by omega⟩
  simp only [spec_cuPlay.l0]
  rw [if_neg (by simp)];rfl
 | m :: rs,pre,l,u,h,hl,hp => by
  have hlt : ((pre.length : Nat) : Int) < ((pre ++ m :: rs).length : Int) := by simp only [List.length_append,List.length_cons];omega
  have hp' : pre.length ≤ 50 := by simp only [List.length_append,List.length_cons] at hp;omega
  have hbad : ∀ k,spec_cuPlay.j1 (k + 1) m (pre ++ m :: rs) ((pre ++ m :: rs).length : Int) (pre.length : Int) true c u0 l u = some ([],0,false) := fun k => by
   simp only [spec_cuPlay.j1];rw [if_pos trivial]
  by_cases h2 : m.length = 2
  ·cases hv : mval c.length m with
   | false =>
    refine ⟨3,fun k hk => ?_⟩
    obtain ⟨k,rfl⟩ : ∃ m,k = m + 1 + 1 := ⟨k - 2,by omega⟩
    simp only [spec_cuPlay.l0]
    rw [if_pos hlt,if_pos (by omega),if_pos hlt,rowAt,if_pos (by omega),if_pos (by omega),if_pos (by omega),cuTwo_eq _ _ _ _ (by omega),Option.bind_some,rd0,rd1,mres_bad hv,hbad]
    unfold mval at hv
    rw [decide_eq_true h2,Bool.true_and] at hv
    cases i0 : inB 0 ((c.length : Int) - 1) (g m 0) with
    | false => rfl
    | true =>
     cases i1 : inB 0 ((c.length : Int) - 1) (g m 1) with
     | false => rfl
     | true =>
      rw [i0,i1,Bool.true_and,Bool.true_and,decide_eq_false_iff_not] at hv
      by_cases e : g m 0 = g m 1
      ·rw [show (g m 0 != g m 1) = false by rw [e];exact bne_self_eq_false _];rfl
      ·rw [show (g m 0 != g m 1) = true by rw [bne_iff_ne];exact e,decide_eq_true (show g m 0 > g m 1 by omega),hbad];rfl
   | true =>
    obtain ⟨_,ha,hb,hab⟩ := mval_iff.1 hv
    obtain ⟨i,hi⟩ : ∃ n : Nat,g m 0 = (n : Int) := ⟨(g m 0).toNat,by omega⟩
    obtain ⟨j,hj⟩ : ∃ n : Nat,g m 1 = (n : Int) := ⟨(g m 1).toNat,by omega⟩
    obtain ⟨K,hK⟩ := spec_mix_ev h (a := i) (b := j) (by omega) (by omega)
    have e1 : (g m 0).toNat = i := by omega
    have e2 : (g m 1).toNat = j := by omega
    have step : ∀ k,spec_cuPlay.l0 (k + 1 + 1) (pre ++ m :: rs) ((pre ++ m :: rs).length : Int) (pre.length : Int) c u0 l u = (spec_cuMix.f k l u (i : Int) (j : Int)).bind fun bt => (if bt.2.2 = true then spec_cuPlay.l0 k (pre ++ m :: rs) ((pre ++ m :: rs).length : Int) ((pre.length + 1 : Nat) : Int) c u0 bt.1 bt.2.1 else some ([],0,false)) := fun k => by
     simp only [spec_cuPlay.l0]
     rw [if_pos hlt,if_pos (by omega),if_pos hlt,rowAt,if_pos (by omega),if_pos (by omega),if_pos (by omega),cuTwo_eq _ _ _ _ (by omega),Option.bind_some,rd0,rd1,inB_iff.2 ha,inB_iff.2 hb,show (g m 0 != g m 1) = true by rw [bne_iff_ne];omega,decide_eq_false (show ¬ g m 0 > g m 1 by omega)]
     rw [if_pos (by rfl)]
     simp only [spec_cuPlay.j1]
     rw [if_neg (by simp),if_pos (by omega),if_pos (by omega),rd0,rd1,hi,hj,wrap_succ (by omega)]
    cases hu : isUnit (mixu l u i j).2 with
    | false =>
     refine ⟨K + 2,fun k hk => ?_⟩
     obtain ⟨k,rfl⟩ : ∃ m,k = m + 1 + 1 := ⟨k - 2,by omega⟩
     rw [step,hK k (by omega),Option.bind_some,mres_no (by rw [e1,e2];exact hu),hu];rfl
    | true =>
     obtain ⟨K',hK'⟩ := cuPlay_l0 c u0 hc rs (pre ++ [m]) (mixu l u i j).1 (mixu l u i j).2 (h.mix (by omega) (by omega) hu) (by rw [len_mixu];exact hl) (by simpa using hp)
     refine ⟨K + K' + 2,fun k hk => ?_⟩
     obtain ⟨k,rfl⟩ : ∃ m,k = m + 1 + 1 := ⟨k - 2,by omega⟩
     have := hK' k (by omega)
     simp only [List.append_assoc,List.singleton_append,List.length_append,List.length_cons,List.length_nil] at this
     rw [step,hK k (by omega),Option.bind_some,mres_go hv (by rw [e1,e2];exact hu),e1,e2,hu,if_pos rfl]
     simp only [List.length_append,List.length_cons]
     exact this
  ·refine ⟨3,fun k hk => ?_⟩
   obtain ⟨k,rfl⟩ : ∃ m,k = m + 1 + 1 := ⟨k - 2,by omega⟩
   have hv : mval c.length m = false := by unfold mval;rw [decide_eq_false h2,Bool.false_and]
   simp only [spec_cuPlay.l0]
   rw [if_pos hlt,if_pos (by omega),if_pos hlt,rowAt,if_neg (by omega),mres_bad hv,hbad]
theorem cuPlay_ev {l : List Int} {u : Int} (h : vcup l u = true) {ms : List (List Int)} (hm : ms.length ≤ 50) : ∃ K, ∀ k,K ≤ k → spec_cuPlay.f k l u ms = some (mres l.length ms l u) := by
 have hf := vcup_fits h
 obtain ⟨K,hK⟩ := cuLow_ev h
 obtain ⟨K',hK'⟩ := cuPlay_l0 l u hf.hi ms [] l u hf rfl (by simpa using hm)
 refine ⟨K + K',fun k hk => ?_⟩
 unfold spec_cuPlay.f
 rw [hK k (by omega),Option.bind_some]
 exact hK' k (by omega)
/-- All pairs of so many cups. -/
def prs (n : Nat) : List (List Int) := (List.range n).flatMap fun a => ((List.range n).filter fun (b : Nat) => decide (a < b)).map fun (b : Nat) => [(a : Int),(b : Int)]
/-- Cups behind mixes,whatever their unit. -/
def behind : List (List Int) → List Int × Int → List Int × Int
 | [],p => p
 | m :: ms,p => behind ms (mixu p.1 p.2 (g m 0).toNat (g m 1).toNat)
theorem behind_snoc (m : List Int) : ∀ (ms : List (List Int)) (p : List Int × Int),behind (ms ++ [m]) p = mixu (behind ms p).1 (behind ms p).2 (g m 0).toNat (g m 1).toNat
 | [],p => rfl
 | x :: ms,p => by
  show behind (ms ++ [m]) _ = _
  rw [behind_snoc m ms];rfl
theorem mixu_unit {l : List Int} {u : Int} (h : Fits l u) (hu : 2 * u ≤ 1048576) (a b : Nat) : isUnit (mixu l u a b).2 = true ∧ (mixu l u a b).2 ≤ 2 * u := by
 have h1 := h.u1
 have h2 := red_done ((2 * u).toNat + 1) (mixl l a b) (2 * u) (by omega) (by omega)
 refine ⟨isUnit_pow (red_pow _ _ _ (pow_two h.p)) ?_,h2.2.1⟩
 show (red ((2 * u).toNat + 1) (mixl l a b) (2 * u)).2 ≤ _
 omega
theorem behind_fits {n : Nat} : ∀ (ms : List (List Int)) (l : List Int) (u : Int),Fits l u → l.length = n → (∀ m ∈ ms,mval n m = true) → u * 2 ^ ms.length ≤ 1048576 → Fits (behind ms (l,u)).1 (behind ms (l,u)).2 ∧ (behind ms (l,u)).1.length = n ∧ (behind ms (l,u)).2 ≤ u * 2 ^ ms.length ∧ mrun ms l u = some (behind ms (l,u))
 | [],l,u,h,hl,_,_ => ⟨h,hl,by simp [behind],rfl⟩
 | m :: ms,l,u,h,hl,hv,hu => by
  obtain ⟨h2,ha,hb,hab⟩ := mval_iff.1 (hv m List.mem_cons_self)
  have h1 := h.u1
  have e : u * 2 ^ (m :: ms).length = (2 * u) * 2 ^ ms.length := by rw [List.length_cons,Int.pow_succ,Int.mul_comm (2 ^ ms.length) 2, ← Int.mul_assoc,Int.mul_comm u 2]
  have hp : (1 : Int) ≤ 2 ^ ms.length := by have := Int.pow_pos (n := (2 : Int)) (m := ms.length) (by decide);omega
  have hu2 : 2 * u ≤ 1048576 := Int.le_trans (by have := Int.mul_le_mul_of_nonneg_left hp (show (0 : Int) ≤ 2 * u by omega);omega) (e ▸ hu)
  obtain ⟨k1,k2⟩ := mixu_unit h hu2 (g m 0).toNat (g m 1).toNat
  have hm := len_mixu l u (g m 0).toNat (g m 1).toNat
  have hmul := Int.mul_le_mul_of_nonneg_right k2 (show (0 : Int) ≤ 2 ^ ms.length by omega)
  obtain ⟨q1,q2,q3,q4⟩ := behind_fits ms _ _ (h.mix (by omega) (by omega) k1) (hm.trans hl) (fun x hx => hv x (List.mem_cons_of_mem _ hx)) (by rw [e] at hu;exact Int.le_trans hmul hu)
  exact ⟨q1,q2,by rw [e];exact Int.le_trans q3 hmul,by rw [mrun_go k1];exact q4⟩
theorem few_bound {u : Int} (h0 : 1 ≤ u) (h1 : u ≤ 1024) {n : Nat} (hn : n ≤ 5) : u * 2 ^ n ≤ 1048576 := by
 match n,hn with
 | 0,_ => omega
 | 1,_ => omega
 | 2,_ => omega
 | 3,_ => omega
 | 4,_ => omega
 | 5,_ => omega
/-- A list of mixes,and the cups behind it. -/
def toldC (p : List Int × Int) (ls : List (List Int)) : (List Int × Int) × List (List Int) := (behind ls p,ls)
theorem mixAll_ev {l : List Int} {u : Int} (h : Fits l u) (hu : u ≤ 1024) {ls : List (List Int)} (hv : ∀ m ∈ ls,mval l.length m = true) (h5 : ls.length ≤ 5) : ∀ (ps : List (List Int)) (acc : List ((List Int × Int) × List (List Int))),(∀ m ∈ ps,mval l.length m = true) → ∃ K, ∀ k,K ≤ k → mixAll k (toldC (l,u) ls) ps acc = some (acc ++ ps.map fun m => toldC (l,u) (ls ++ [m]))
 | [],acc,_ => ⟨0,fun k _ => by simp [mixAll]⟩
 | m :: ps,acc,hp => by
  obtain ⟨h2,ha,hb,hab⟩ := mval_iff.1 (hp m List.mem_cons_self)
  have hf := behind_fits ls l u h rfl hv (few_bound h.u1 hu h5)
  obtain ⟨i,hi⟩ : ∃ n : Nat,g m 0 = (n : Int) := ⟨(g m 0).toNat,by omega⟩
  obtain ⟨j,hj⟩ : ∃ n : Nat,g m 1 = (n : Int) := ⟨(g m 1).toNat,by omega⟩
  obtain ⟨K,hK⟩ := impl_mix_ev hf.1 (a := i) (b := j) (by rw [hf.2.1];omega) (by rw [hf.2.1];omega)
  obtain ⟨K',hK'⟩ := mixAll_ev h hu hv h5 ps (acc ++ [toldC (l,u) (ls ++ [m])]) (fun x hx => hp x (List.mem_cons_of_mem _ hx))
  refine ⟨K + K',fun k hk => ?_⟩
  have e1 : (g m 0).toNat = i := by omega
  have e2 : (g m 1).toNat = j := by omega
  have e3 : toldC (l,u) (ls ++ [m]) = (mixu (behind ls (l,u)).1 (behind ls (l,u)).2 i j,ls ++ [m]) := by unfold toldC;rw [behind_snoc,e1,e2]
  simp only [mixAll]
  rw [if_pos (by omega),rd0,rd1,hi,hj]
  show (impl_mix.f k (behind ls (l,u)).1 (behind ls (l,u)).2 (i : Int) (j : Int)).bind _ = _
  rw [hK k (by omega),Option.bind_some]
  have := hK' k (by omega)
  rw [e3] at this
  show mixAll k (toldC (l,u) ls) ps (acc ++ [(mixu (behind ls (l,u)).1 (behind ls (l,u)).2 i j,ls ++ [m])]) = _
  rw [this,List.map_cons, ← e3,List.append_assoc];rfl
theorem levelUp_ev {l : List Int} {u : Int} (h : Fits l u) (hu : u ≤ 1024) {ps : List (List Int)} (hp : ∀ m ∈ ps,mval l.length m = true) : ∀ (L : List (List (List Int))) (acc : List ((List Int × Int) × List (List Int))),(∀ ls ∈ L,ls.length ≤ 5 ∧ ∀ m ∈ ls,mval l.length m = true) → ∃ K, ∀ k,K ≤ k → levelUp k ps (L.map (toldC (l,u))) acc = some (acc ++ (longer ps L).map (toldC (l,u)))
 | [],acc,_ => ⟨0,fun k _ => by simp [levelUp,longer]⟩
 | ls :: L,acc,hL => by
  obtain ⟨h5,hv⟩ := hL ls List.mem_cons_self
  obtain ⟨K,hK⟩ := mixAll_ev h hu hv h5 ps acc hp
  obtain ⟨K',hK'⟩ := levelUp_ev h hu hp L (acc ++ ps.map fun m => toldC (l,u) (ls ++ [m])) (fun x hx => hL x (List.mem_cons_of_mem _ hx))
  refine ⟨K + K',fun k hk => ?_⟩
  simp only [List.map_cons,levelUp]
  rw [hK k (by omega),Option.bind_some,hK' k (by omega)]
  unfold longer
  rw [List.flatMap_cons,List.map_append,List.map_map,List.append_assoc];rfl
theorem longest_snoc (ps : List (List Int)) : ∀ (d : Nat) (L : List (List (List Int))),longest ps (d + 1) L = longer ps (longest ps d L)
 | 0,_ => rfl
 | d + 1,L => longest_snoc ps d (longer ps L)
theorem longest_mem {ps : List (List Int)} {n : Nat} (hp : ∀ m ∈ ps,mval n m = true) : ∀ (d : Nat), ∀ ls ∈ longest ps d [[]],ls.length = d ∧ ∀ m ∈ ls,mval n m = true
 | 0,ls,h => by
  simp only [longest,List.mem_singleton] at h
  subst h;exact ⟨rfl,fun m hm => absurd hm List.not_mem_nil⟩
 | d + 1,ls,h => by
  rw [longest_snoc] at h
  obtain ⟨l0,h1,h2⟩ := List.mem_flatMap.1 h
  obtain ⟨m,hm,rfl⟩ := List.mem_map.1 h2
  obtain ⟨k1,k2⟩ := longest_mem hp d l0 h1
  refine ⟨by rw [List.length_append,List.length_singleton,k1],fun x hx => ?_⟩
  rcases List.mem_append.1 hx with hx | hx
  ·exact k2 x hx
  ·rw [List.mem_singleton.1 hx];exact hp m hm
/-- The lists of e,e + 1, .. mixes. -/
def lists_of (ps : List (List Int)) : Nat → Nat → List (List (List (List Int)))
 | _,0 => []
 | e,d + 1 => longest ps e [[]] :: lists_of ps (e + 1) d
theorem levels_ev {l : List Int} {u : Int} (h : Fits l u) (hu : u ≤ 1024) {ps : List (List Int)} (hp : ∀ m ∈ ps,mval l.length m = true) : ∀ (d e : Nat) (out : List (List ((List Int × Int) × List (List Int)))),e + d ≤ 5 → ∃ K, ∀ k,K ≤ k → levels k ps d ((longest ps e [[]]).map (toldC (l,u))) out = some (out ++ (lists_of ps (e + 1) d).map fun L => L.map (toldC (l,u)))
 | 0,e,out,_ => ⟨0,fun k _ => by simp [levels,lists_of]⟩
 | d + 1,e,out,hd => by
  obtain ⟨K,hK⟩ := levelUp_ev h hu hp (longest ps e [[]]) [] (fun ls hls => by obtain ⟨a,b⟩ := longest_mem hp e ls hls;exact ⟨by omega,b⟩)
  obtain ⟨K',hK'⟩ := levels_ev h hu hp d (e + 1) (out ++ [(longest ps (e + 1) [[]]).map (toldC (l,u))]) (by omega)
  refine ⟨K + K',fun k hk => ?_⟩
  simp only [levels]
  rw [hK k (by omega),Option.bind_some,List.nil_append, ← longest_snoc,hK' k (by omega)]
  simp [lists_of]
theorem prs_few : ∀ n ∈ [2,3,4],spec_cuPairs.f 60 ((n : Nat) : Int) = some (prs n) ∧ impl_mixesOf.f 60 ((n : Nat) : Int) = some (prs n) ∧ (prs n).length ≤ 6 ∧ ∀ m ∈ prs n,mval n m = true := by decide +kernel
theorem longest_len {ps : List (List Int)} (hp : ps.length ≤ 6) : ∀ d,(longest ps d [[]]).length ≤ 6 ^ d
 | 0 => by simp [longest]
 | d + 1 => by
  rw [longest_snoc,longer_len,Nat.pow_succ]
  exact Nat.mul_le_mul (longest_len hp d) hp
theorem lists_len {ps : List (List Int)} : ∀ (d e : Nat),(lists_of ps e d).length = d
 | 0,_ => rfl
 | d + 1,e => by simp [lists_of,lists_len d]
theorem lists_mem {ps : List (List Int)} (hp : ps.length ≤ 6) : ∀ (d e : Nat),e + d ≤ 6 → ∀ L ∈ lists_of ps e d,L.length ≤ 7776
 | 0,_,_,L,h => absurd h List.not_mem_nil
 | d + 1,e,he,L,h => by
  simp only [lists_of,List.mem_cons] at h
  rcases h with rfl | h
  ·exact Nat.le_trans (longest_len hp e) (Nat.le_trans (Nat.pow_le_pow_right (by omega) (show e ≤ 5 by omega)) (by decide))
  ·exact lists_mem hp d (e + 1) (by omega) L h
/-- The better of two lists,as a cup stands behind them. -/
def stepC (most : Bool) (cup : Int) (p : List Int × Int) (b ls : List (List Int)) : List (List Int) := if better most (rd (behind b p).1 cup) (behind b p).2 (rd (behind ls p).1 cup) (behind ls p).2 = true then ls else b
theorem stepC_mem {q : List (List Int) → Prop} (most : Bool) (cup : Int) (p : List Int × Int) : ∀ (L : List (List (List Int))) (b : List (List Int)),q b → (∀ ls ∈ L,q ls) → q (L.foldl (stepC most cup p) b)
 | [],b,hb,_ => hb
 | ls :: L,b,hb,hL => by
  refine stepC_mem most cup p L _ ?_ (fun x hx => hL x (List.mem_cons_of_mem _ hx))
  unfold stepC
  split
  ·exact hL ls List.mem_cons_self
  ·exact hb
/-- A list of few mixes. -/
def FewL (n : Nat) (ls : List (List Int)) : Prop := ls.length ≤ 5 ∧ ∀ m ∈ ls,mval n m = true
theorem seekIn_ev {l : List Int} {u : Int} (hc : vcup l u = true) (hu : u ≤ 1024) (cup : Int) (h0 : 0 ≤ cup) (h1 : cup < (l.length : Int)) (most : Bool) : ∀ (L : List (List (List Int))) (b : List (List Int)),(∀ ls ∈ L,FewL l.length ls) → ∃ K, ∀ k,K ≤ k → seekIn k l u cup most L (b,rd (behind b (l,u)).1 cup,(behind b (l,u)).2) = some (some (L.foldl (stepC most cup (l,u)) b,rd (behind (L.foldl (stepC most cup (l,u)) b) (l,u)).1 cup,(behind (L.foldl (stepC most cup (l,u)) b) (l,u)).2))
 | [],b,_ => ⟨0,fun k _ => rfl⟩
 | ls :: L,b,hL => by
  have h := vcup_fits hc
  obtain ⟨h5,hv⟩ := hL ls List.mem_cons_self
  obtain ⟨f1,f2,f3,f4⟩ := behind_fits ls l u h rfl hv (few_bound h.u1 hu h5)
  obtain ⟨K,hK⟩ := cuPlay_ev hc (ms := ls) (by omega)
  obtain ⟨K',hK'⟩ := seekIn_ev hc hu cup h0 h1 most L (stepC most cup (l,u) b ls) (fun x hx => hL x (List.mem_cons_of_mem _ hx))
  have em : mres l.length ls l u = ((behind ls (l,u)).1,(behind ls (l,u)).2,true) := by
   unfold mres;rw [if_pos (List.all_eq_true.2 hv),f4];rfl
  refine ⟨K + K',fun k hk => ?_⟩
  simp only [seekIn]
  rw [hK k (by omega),Option.bind_some,em]
  dsimp only
  rw [if_pos rfl,if_pos ⟨h0,by omega⟩,List.foldl_cons]
  have e := hK' k (by omega)
  rw [← e]
  congr 1
  unfold stepC
  split <;> rfl
theorem search_ev {l : List Int} {u : Int} (hc : vcup l u = true) (hu : u ≤ 1024) (cup : Int) (h0 : 0 ≤ cup) (h1 : cup < (l.length : Int)) (most : Bool) {ps : List (List Int)} (hps : ∀ k,60 ≤ k → spec_cuPairs.f k (l.length : Int) = some ps) (h6 : ps.length ≤ 6) (hp : ∀ m ∈ ps,mval l.length m = true) : ∀ (d e : Nat) (b : List (List Int)),e + d ≤ 6 → ∃ K, ∀ k,K ≤ k → search k l u cup most d e (b,rd (behind b (l,u)).1 cup,(behind b (l,u)).2) = some ((lists_of ps e d).flatten.foldl (stepC most cup (l,u)) b,true)
 | 0,e,b,_ => ⟨0,fun k _ => rfl⟩
 | d + 1,e,b,he => by
  obtain ⟨K,hK⟩ := seekIn_ev hc hu cup h0 h1 most (longest ps e [[]]) b (fun ls hls => by obtain ⟨a,b⟩ := longest_mem hp e ls hls;exact ⟨by omega,b⟩)
  obtain ⟨K',hK'⟩ := search_ev hc hu cup h0 h1 most hps h6 hp d (e + 1) ((longest ps e [[]]).foldl (stepC most cup (l,u)) b) (by omega)
  refine ⟨K + K' + 60,fun k hk => ?_⟩
  have el : spec_cuLists.f k (l.length : Int) (e : Int) = some (longest ps e [[]]) := by
   unfold spec_cuLists.f
   rw [hps k (by omega),Option.bind_some,if_pos ⟨by omega,by omega,h6⟩,Int.toNat_natCast]
  have h7 : (longest ps e [[]]).length ≤ 7776 := Nat.le_trans (longest_len h6 e) (Nat.le_trans (Nat.pow_le_pow_right (by omega) (show e ≤ 5 by omega)) (by decide))
  simp only [search]
  rw [el,Option.bind_some,if_pos (by omega),hK k (by omega),Option.bind_some]
  dsimp only
  rw [hK' k (by omega)]
  simp only [lists_of,List.flatten_cons,List.foldl_append]
theorem part_small {l : List Int} {u : Int} (h : Fits l u) {cup : Int} (h0 : 0 ≤ cup) (h1 : cup < (l.length : Int)) : 0 ≤ rd l cup ∧ rd l cup ≤ 1048576000 := by
 obtain ⟨i,rfl⟩ : ∃ n : Nat,cup = (n : Int) := ⟨cup.toNat,by omega⟩
 rw [rd_g]
 have := h.b i (by omega);have := h.u2
 omega
theorem prod_small {x y : Int} (h0 : 0 ≤ x) (h1 : x ≤ 1048576000) (h2 : 1 ≤ y) (h3 : y ≤ 1048576) : 0 ≤ x * y ∧ x * y ≤ 1099511627776000 := by
 refine ⟨Int.mul_nonneg h0 (by omega),?_⟩
 have := Int.mul_le_mul h1 h3 (by omega) (by omega)
 omega
/-- The sign of what is sought. -/
def sgn (most : Bool) : Int := if most then 1 else -1
theorem pickOne_eq (most : Bool) {l : List Int} {u : Int} {cup : Int} (h0 : 0 ≤ cup) (h1 : cup < (l.length : Int)) (b ls : List (List Int)) (hb : Fits (behind b (l,u)).1 (behind b (l,u)).2 ∧ (behind b (l,u)).1.length = l.length) (hl : Fits (behind ls (l,u)).1 (behind ls (l,u)).2 ∧ (behind ls (l,u)).1.length = l.length) :
  pickOne cup (sgn most) (toldC (l,u) b) (toldC (l,u) ls) = some (toldC (l,u) (stepC most cup (l,u) b ls)) := by
 have b1 := part_small hb.1 h0 (by omega)
 have b2 := part_small hl.1 h0 (by omega)
 have u1 := hb.1.u1;have u2 := hb.1.u2;have u3 := hl.1.u1;have u4 := hl.1.u2
 have p1 := prod_small b1.1 b1.2 u3 u4
 have p2 := prod_small b2.1 b2.2 u1 u2
 have e : (decide (wrap64 (wrap64 (sgn most * rd (behind b (l,u)).1 cup) * (behind ls (l,u)).2) < wrap64 (wrap64 (sgn most * rd (behind ls (l,u)).1 cup) * (behind b (l,u)).2))) = better most (rd (behind b (l,u)).1 cup) (behind b (l,u)).2 (rd (behind ls (l,u)).1 cup) (behind ls (l,u)).2 := by
  cases most with
  | true =>
   simp only [sgn,better,if_true,Int.one_mul]
   rw [wrap_id (x := rd (behind b (l,u)).1 cup) (by omega) (by omega),wrap_id (x := rd (behind ls (l,u)).1 cup) (by omega) (by omega)]
  | false =>
   simp only [sgn,better,Bool.false_eq_true,if_false]
   have m1 : (-1 * rd (behind b (l,u)).1 cup) * (behind ls (l,u)).2 = - (rd (behind b (l,u)).1 cup * (behind ls (l,u)).2) := by rw [Int.mul_assoc,Int.neg_mul,Int.one_mul]
   have m2 : (-1 * rd (behind ls (l,u)).1 cup) * (behind b (l,u)).2 = - (rd (behind ls (l,u)).1 cup * (behind b (l,u)).2) := by rw [Int.mul_assoc,Int.neg_mul,Int.one_mul]
   rw [wrap_id (x := -1 * rd (behind b (l,u)).1 cup) (by omega) (by omega),wrap_id (x := -1 * rd (behind ls (l,u)).1 cup) (by omega) (by omega),m1,m2,wrap_id (x := - (rd (behind b (l,u)).1 cup * (behind ls (l,u)).2)) (by omega) (by omega),wrap_id (x := - (rd (behind ls (l,u)).1 cup * (behind b (l,u)).2)) (by omega) (by omega),wrap_id (x := rd (behind b (l,u)).1 cup * (behind ls (l,u)).2) (by omega) (by omega),wrap_id (x := rd (behind ls (l,u)).1 cup * (behind b (l,u)).2) (by omega) (by omega)]
   exact decide_eq_decide.2 (by omega)
 unfold pickOne stepC toldC
 dsimp only
 rw [if_pos ⟨h0,by omega,by omega⟩, ← e]
 by_cases c : wrap64 (wrap64 (sgn most * rd (behind b (l,u)).1 cup) * (behind ls (l,u)).2) < wrap64 (wrap64 (sgn most * rd (behind ls (l,u)).1 cup) * (behind b (l,u)).2)
 ·rw [if_pos c,decide_eq_true c,if_pos rfl]
 ·rw [if_neg c,decide_eq_false c,if_neg (by decide)]
theorem pickRow_ev {l : List Int} {u : Int} (h : Fits l u) (hu : u ≤ 1024) {cup : Int} (h0 : 0 ≤ cup) (h1 : cup < (l.length : Int)) (most : Bool) : ∀ (L : List (List (List Int))) (b : List (List Int)),FewL l.length b → (∀ ls ∈ L,FewL l.length ls) → pickRow cup (sgn most) (L.map (toldC (l,u))) (some (toldC (l,u) b)) = some (some (toldC (l,u) (L.foldl (stepC most cup (l,u)) b)))
 | [],b,_,_ => rfl
 | ls :: L,b,hb,hL => by
  have hl := hL ls List.mem_cons_self
  obtain ⟨f1,f2,f3,f4⟩ := behind_fits ls l u h rfl hl.2 (few_bound h.u1 hu hl.1)
  obtain ⟨g1,g2,g3,g4⟩ := behind_fits b l u h rfl hb.2 (few_bound h.u1 hu hb.1)
  simp only [List.map_cons,pickRow,List.foldl_cons]
  rw [pickOne_eq most h0 h1 b ls ⟨g1,g2⟩ ⟨f1,f2⟩,Option.bind_some]
  refine pickRow_ev h hu h0 h1 most L _ ?_ (fun x hx => hL x (List.mem_cons_of_mem _ hx))
  unfold stepC;split
  ·exact hl
  ·exact hb
theorem pickAll_ev {l : List Int} {u : Int} (h : Fits l u) (hu : u ≤ 1024) {cup : Int} (h0 : 0 ≤ cup) (h1 : cup < (l.length : Int)) (most : Bool) {ps : List (List Int)} (hp : ∀ m ∈ ps,mval l.length m = true) : ∀ (d e : Nat) (b : List (List Int)),e + d ≤ 6 → FewL l.length b → pickAll cup (sgn most) ((lists_of ps e d).map fun L => L.map (toldC (l,u))) (some (toldC (l,u) b)) = some (some (toldC (l,u) ((lists_of ps e d).flatten.foldl (stepC most cup (l,u)) b)))
 | 0,_,_,_,_ => rfl
 | d + 1,e,b,hd,hb => by
  have hL : ∀ ls ∈ longest ps e [[]],FewL l.length ls := fun ls hls => by obtain ⟨a,b⟩ := longest_mem hp e ls hls;exact ⟨by omega,b⟩
  simp only [lists_of,List.map_cons,pickAll,List.flatten_cons,List.foldl_append]
  rw [pickRow_ev h hu h0 h1 most _ b hb hL,Option.bind_some]
  exact pickAll_ev h hu h0 h1 most hp d (e + 1) _ (by omega) (stepC_mem most cup (l,u) _ b hb hL)
theorem Extreme_both {l : List Int} (hL : l.length ≤ 1099511627776) (u cup mixes : Int) (most : Bool) : ∃ (K : Nat) (r : Int × Int × Bool),(∀ k,K ≤ k → spec_cuExtreme.f k l u cup mixes most = some r) ∧ (∀ k,K ≤ k → impl_bestIn.f k l u cup mixes (sgn most) = some r) := by
 have hsA : ∀ k,l.length + 1 < k → spec_cuFew.f k l u cup mixes = some (vcup l u && (decide ((l.length : Int) ≤ 4) && (decide (u ≤ 1024) && (inB 0 ((l.length : Int) - 1) cup && inB 0 4 mixes)))) := fun k hk => by
  unfold spec_cuFew.f
  rw [cuGood_at hL u hk,Option.bind_some,l1In_eq,l1In_eq,wrap_id (x := (l.length : Int) - 1) (by omega) (by omega)]
  cases vcup l u with
  | false => rfl
  | true =>
   by_cases c1 : (l.length : Int) ≤ 4
   ·by_cases c2 : u ≤ 1024
    ·rw [if_pos rfl,if_pos c1,if_pos c2,decide_eq_true c1,decide_eq_true c2]
     cases inB 0 ((l.length : Int) - 1) cup <;> rfl
    ·rw [if_pos rfl,if_pos c1,if_neg c2,decide_eq_true c1,decide_eq_false c2];rfl
   ·rw [if_pos rfl,if_neg c1,decide_eq_false c1];rfl
 have hiF : ∀ k,1 ≤ k → impl_canAsk.f k l u cup mixes = some (vcup l u && (decide ((l.length : Int) ≤ 4) && (decide (u ≤ 1024) && (inB 0 ((l.length : Int) - 1) cup && inB 0 4 mixes)))) := fun k hk => by
  unfold impl_canAsk.f impl_areFew.f
  rw [impl_AreCups_at l u hk,Option.bind_some,isCup_at l u cup hL hk,within_eq]
  cases vcup l u with
  | false => rfl
  | true =>
   by_cases c1 : (l.length : Int) ≤ 4
   ·by_cases c2 : u ≤ 1024
    ·rw [if_pos rfl,if_pos c1,decide_eq_true c1,decide_eq_true c2]
     cases inB 0 ((l.length : Int) - 1) cup <;> rfl
    ·rw [if_pos rfl,if_pos c1,decide_eq_true c1,decide_eq_false c2];rfl
   ·rw [if_pos rfl,if_neg c1,decide_eq_false c1];rfl
 cases hc : (vcup l u && (decide ((l.length : Int) ≤ 4) && (decide (u ≤ 1024) && (inB 0 ((l.length : Int) - 1) cup && inB 0 4 mixes)))) with
 | false =>
  refine ⟨l.length + 3,(0,0,false),fun k hk => ?_,fun k hk => ?_⟩
  ·unfold spec_cuExtreme.f;rw [hsA k (by omega),hc];rfl
  ·unfold impl_bestIn.f;rw [hiF k (by omega),hc];rfl
 | true =>
  have hq := hc
  simp only [Bool.and_eq_true,decide_eq_true_eq] at hq
  obtain ⟨hv,h4,hu,hcu,hm⟩ := hq
  have hf := vcup_fits hv
  have h2 := hf.lo
  have hmm := inB_iff.1 hm
  have hcc := inB_iff.1 hcu
  have h0 : 0 ≤ cup := hcc.1
  have h1 : cup < (l.length : Int) := by omega
  obtain ⟨d,rfl⟩ : ∃ d : Nat,mixes = (d : Int) := ⟨mixes.toNat,by omega⟩
  obtain ⟨p1,p2,p3,p4⟩ := prs_few l.length (by simp only [List.mem_cons,List.not_mem_nil,or_false];omega)
  have q1 : ∀ k,60 ≤ k → spec_cuPairs.f k (l.length : Int) = some (prs l.length) := fun k hk => at_rounds (g := fun k => spec_cuPairs.f k (l.length : Int)) (fun k => spec_cuPairs.mono _ k) hk p1
  have q2 : ∀ k,60 ≤ k → impl_mixesOf.f k (l.length : Int) = some (prs l.length) := fun k hk => at_rounds (g := fun k => impl_mixesOf.f k (l.length : Int)) (fun k => impl_mixesOf.mono _ k) hk p2
  obtain ⟨K1,hK1⟩ := search_ev hv hu cup h0 h1 most q1 p3 p4 d 1 [] (by omega)
  obtain ⟨K2,hK2⟩ := levels_ev hf hu p4 d 0 [(longest (prs l.length) 0 [[]]).map (toldC (l,u))] (by omega)
  have n0 : FewL l.length [] := ⟨Nat.zero_le _,fun m hm => absurd hm List.not_mem_nil⟩
  have hp := pickAll_ev hf hu h0 h1 most p4 d 1 [] (by omega) n0
  have hF : FewL l.length ((lists_of (prs l.length) 1 d).flatten.foldl (stepC most cup (l,u)) []) := by
   refine stepC_mem most cup (l,u) _ _ n0 (fun ls hls => ?_)
   obtain ⟨L,hL1,hL2⟩ := List.mem_flatten.1 hls
   have key : ∀ (d e : Nat),e + d ≤ 6 → ∀ L ∈ lists_of (prs l.length) e d, ∀ ls ∈ L,FewL l.length ls := by
    intro d
    induction d with
    | zero => intro e _ L h;exact absurd h List.not_mem_nil
    | succ d ih =>
     intro e he L h ls hls
     simp only [lists_of,List.mem_cons] at h
     rcases h with rfl | h
     ·obtain ⟨a,b⟩ := longest_mem p4 e ls hls;exact ⟨by omega,b⟩
     ·exact ih (e + 1) (by omega) L h ls hls
   exact key d 1 (by omega) L hL1 ls hL2
  generalize (lists_of (prs l.length) 1 d).flatten.foldl (stepC most cup (l,u)) [] = F at hK1 hp hF
  obtain ⟨f1,f2,f3,f4⟩ := behind_fits F l u hf rfl hF.2 (few_bound hf.u1 hu hF.1)
  obtain ⟨K3,hK3⟩ := cuPlay_ev hv (ms := F) (by have := hF.1;omega)
  have em : mres l.length F l u = ((behind F (l,u)).1,(behind F (l,u)).2,true) := by
   unfold mres;rw [if_pos (List.all_eq_true.2 hF.2),f4];rfl
  have b1 := part_small f1 h0 (by omega)
  obtain ⟨K4,r,hs,hi⟩ := lowest_both b1.1 f1.u1
  have hr : ∀ k,K2 + 60 ≤ k → impl_rounds.f k l u (d : Int) = some ((lists_of (prs l.length) 0 (d + 1)).map fun L => L.map (toldC (l,u))) := fun k hk => by
   unfold impl_rounds.f
   rw [q2 k (by omega),Option.bind_some,if_pos ⟨by omega,by omega,p3⟩,Int.toNat_natCast]
   exact hK2 k (by omega)
  refine ⟨K1 + K2 + K3 + K4 + l.length + 70,(r.1,r.2,true),fun k hk => ?_,fun k hk => ?_⟩
  ·unfold spec_cuExtreme.f
   rw [hsA k (by omega),hc,Option.bind_some,if_pos rfl]
   have es : spec_cuSearch.f k l u cup (d : Int) most = some (F,true) := by
    unfold spec_cuSearch.f
    rw [if_pos ⟨h0,h1,by omega,by omega⟩,Int.toNat_natCast]
    exact hK1 k (by omega)
   rw [es,Option.bind_some,if_pos rfl,hK3 k (by omega),Option.bind_some,em]
   dsimp only
   rw [if_pos h0,if_pos (by omega),hs k (by omega)];rfl
  ·unfold impl_bestIn.f
   rw [hiF k (by omega),hc,Option.bind_some,if_pos rfl]
   have eb : impl_bestFor.f k l u cup (d : Int) (sgn most) = some (toldC (l,u) F) := by
    unfold impl_bestFor.f
    rw [hr k (by omega),Option.bind_some,if_pos]
    ·show (pickAll cup (sgn most) (((lists_of (prs l.length) 1 d).map fun L => L.map (toldC (l,u)))) (some (toldC (l,u) []))).bind (fun o => o) = _
     rw [hp];rfl
    ·refine ⟨by rw [List.length_map,lists_len];omega,List.all_eq_true.2 fun v hv2 => ?_⟩
     obtain ⟨L,hL2,rfl⟩ := List.mem_map.1 hv2
     have := lists_mem p3 (d + 1) 0 (by omega) L hL2
     exact decide_eq_true (by rw [List.length_map];omega)
   rw [eb,Option.bind_some]
   show (if 0 ≤ cup ∧ cup < ((behind F (l,u)).1.length : Int) then _ else _) = _
   rw [if_pos ⟨h0,by omega⟩]
   show (impl_lowest.f k (rd (behind F (l,u)).1 cup) (behind F (l,u)).2).bind _ = _
   rw [hi k (by omega)];rfl
theorem LeastIn_both {l : List Int} (hL : l.length ≤ 1099511627776) (u cup mixes : Int) : ∃ (K : Nat) (r : Int × Int × Bool),(∀ k,K ≤ k → spec_LeastIn.f k l u cup mixes = some r) ∧ (∀ k,K ≤ k → impl_LeastIn.f k l u cup mixes = some r) := by
 obtain ⟨K,r,h1,h2⟩ := Extreme_both hL u cup mixes false
 exact ⟨K,r,fun k hk => by unfold spec_LeastIn.f;rw [h1 k hk];rfl,fun k hk => h2 k hk⟩
theorem FnExactLeastIn (l : List Int) (u : Int) (cup : Int) (mixes : Int) (hm : l.length ≤ maxLen) (hw : ∀ x ∈ l,(Lit.int .i64 x).wf = true) (hu : (Lit.int .i64 u).wf = true) (wcup : (Lit.int .i64 cup).wf = true) (wmixes : (Lit.int .i64 mixes).wf = true) : ∃ k,laws_FnExactLeastIn.f k l u cup mixes = some true := by
 by_cases hl : l.length ≤ 1048576
 ·have h0 : l.length ≤ 1099511627776 := by omega
  obtain ⟨K,r,hs,hi⟩ := LeastIn_both h0 u cup mixes
  have hT : ∀ k,l.length < k → laws_toCups.f k l u = some (l,u) := fun k hk => toCups_at h0 u hk
  have hE : ∀ k,l.length < k → laws_eqCups.f k l u l u = some true := fun k hk => eqCups_at h0 u hk
  have hn : ¬ (1048576 - (l.length : Int) < 0) := by omega
  refine ⟨K + l.length + 8,?_⟩
  unfold laws_FnExactLeastIn.f
  rw [szCups_in u hl,Option.bind_some,if_neg hn]
  simp (disch := omega) only [eq_self,hT,hE,hs,hi,Option.bind_some,bne_self_eq_false,if_true,if_false,Bool.false_eq_true,Bool.true_eq_false,if_neg hn]
  simp only [laws_FnExactLeastIn.j0]
  simp (disch := omega) only [eq_self,hT,hE,hs,hi,Option.bind_some,bne_self_eq_false,if_true,if_false,Bool.false_eq_true,Bool.true_eq_false,if_neg hn]
 ·exact ⟨0,by unfold laws_FnExactLeastIn.f;rw [szCups_out u hl hm];rfl⟩
end Go.Proofs.Ytmkpngmdikbbeaa.Pure
