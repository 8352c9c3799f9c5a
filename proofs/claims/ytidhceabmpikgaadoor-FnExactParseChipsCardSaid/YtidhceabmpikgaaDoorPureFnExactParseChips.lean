/- The statement FnExactParseChips over numbers and lists alone, and what it is proved by.
Conditions: those of the statement. -/
import Derived.Test.YtidhceabmpikgaaDoorPx1
import Derived.Test.YtidhceabmpikgaaDoorPx2
import Derived.Test.YtidhceabmpikgaaDoorPx4
import Derived.Test.YtidhceabmpikgaaDoorPx5
import Derived.Test.YtidhceabmpikgaaDoorPx6
namespace Go.Proofs.YtidhceabmpikgaaDoor.Pure
open Go.RowKit Go.Proofs.YtidhceabmpikgaaDoor.P Go.Proofs.YtidhceabmpikgaaDoorW.PrintWords Go.Proofs.YtidhceabmpikgaaDoorW.PrintLast
set_option linter.unusedSimpArgs false
set_option linter.unusedVariables false

theorem wrap_id {x : Int} (h0 : -9223372036854775808 ≤ x) (h1 : x ≤ 9223372036854775807) : wrap64 x = x := by
 unfold wrap64;omega
theorem wrap_succ {i : Nat} (h : i < 1152921504606846976) : wrap64 ((i : Int) + 1) = ((i + 1 : Nat) : Int) := by
 rw [wrap_id (by omega) (by omega)];omega
theorem rd_lt {l : List Int} {i : Nat} (h : i < l.length) : rd l (i : Int) = l[i] := by
 simp [rd,List.getD_eq_getElem?_getD,List.getElem?_eq_getElem h]
theorem eqIntS_l0 (l : List Int) (hl : l.length ≤ 1099511627776) (d : Nat) : ∀ (k : Nat) (i : Nat),i + d = l.length → d < k → laws_eqIntS.l0 k l l i = some true := by
 induction d with
 | zero =>
  intro k i hi hk
  obtain ⟨k,rfl⟩ : ∃ m,k = m + 1 := ⟨k - 1,by omega⟩
  simp only [laws_eqIntS.l0]
  rw [if_neg (by omega)]
 | succ d ih =>
  intro k i hi hk
  obtain ⟨k,rfl⟩ : ∃ m,k = m + 1 := ⟨k - 1,by omega⟩
  simp only [laws_eqIntS.l0]
  rw [if_pos (by omega),if_pos (by omega),if_pos (by omega),if_pos trivial,wrap_succ (by omega)]
  exact ih k (i + 1) (by omega) (by omega)
theorem eqIntS_at {l : List Int} (hl : l.length ≤ 1099511627776) {k : Nat} (hk : l.length < k) : laws_eqIntS.f k l l = some true := by
 unfold laws_eqIntS.f
 rw [if_pos rfl]
 exact eqIntS_l0 l hl l.length k 0 (by omega) hk
/-- The numbers from m on. -/
def marks (m : Int) (n : Nat) : List Int := (List.range n).map fun (i : Nat) => m + (i : Int)
theorem marks_len (m : Int) (n : Nat) : (marks m n).length = n := by simp [marks]
theorem marks_get (m : Int) (n i : Nat) (h : i < (marks m n).length) : (marks m n)[i] = m + (i : Int) := by simp [marks]
theorem markIntS_l0 (m : Int) (n : Nat) (hm : 0 ≤ m) (hm2 : m ≤ 1099511627776) (hn : n ≤ 1099511627776) (d : Nat) : ∀ (k : Nat) (l : List Int) (i : Nat),i + d = n → l.length = n → d < k →
  laws_markIntS.l0 k l (m + (i : Int)) (i : Int) = some (m + n,l.take i ++ (marks m n).drop i) := by
 induction d with
 | zero =>
  intro k l i hi hl hk
  obtain ⟨k,rfl⟩ : ∃ m,k = m + 1 := ⟨k - 1,by omega⟩
  simp only [laws_markIntS.l0]
  rw [if_neg (by omega),List.take_of_length_le (by omega),List.drop_of_length_le (by rw [marks_len];omega),List.append_nil]
  congr 3;omega
 | succ d ih =>
  intro k l i hi hl hk
  obtain ⟨k,rfl⟩ : ∃ m,k = m + 1 := ⟨k - 1,by omega⟩
  simp only [laws_markIntS.l0]
  rw [if_pos (by omega),if_pos (by omega),wrap_succ (by omega),wrap_id (by omega) (by omega)]
  rw [show m + (i : Int) + 1 = m + ((i + 1 : Nat) : Int) by omega,ih k _ (i + 1) (by omega) (by simpa using hl) (by omega)]
  congr 2
  rw [Int.toNat_natCast,List.drop_eq_getElem_cons (show i < (marks m n).length by rw [marks_len];omega),marks_get,List.take_succ_eq_append_getElem (by simp;omega)]
  simp [List.take_set_of_le]
theorem markIntS_at {m : Int} {l : List Int} (hm : 0 ≤ m) (hm2 : m ≤ 1099511627776) (hl : l.length ≤ 1099511627776) {k : Nat} (hk : l.length < k) : laws_markIntS.f k l m = some (m + l.length,marks m l.length) := by
 unfold laws_markIntS.f
 have := markIntS_l0 m l.length hm hm2 hl l.length k l 0 (by omega) rfl hk
 simpa using this
theorem heldIntS_l0 (m : Int) (n : Nat) (hm : 0 ≤ m) (hm2 : m ≤ 1099511627776) (hn : n ≤ 1099511627776) (d : Nat) : ∀ (k : Nat) (i : Nat),i + d = n → d < k →
  laws_heldIntS.l0 k (marks m n) (m + (i : Int)) (i : Int) = some (m + n) := by
 induction d with
 | zero =>
  intro k i hi hk
  obtain ⟨k,rfl⟩ : ∃ m,k = m + 1 := ⟨k - 1,by omega⟩
  simp only [laws_heldIntS.l0]
  rw [marks_len,if_neg (by omega)]
  congr 2;omega
 | succ d ih =>
  intro k i hi hk
  obtain ⟨k,rfl⟩ : ∃ m,k = m + 1 := ⟨k - 1,by omega⟩
  simp only [laws_heldIntS.l0]
  rw [marks_len,if_pos (by omega),if_pos (by omega),rd_lt (by rw [marks_len];omega),marks_get,if_pos rfl,wrap_succ (by omega),wrap_id (by omega) (by omega)]
  rw [show m + (i : Int) + 1 = m + ((i + 1 : Nat) : Int) by omega,ih k (i + 1) (by omega) (by omega)]
theorem heldIntS_at {m : Int} {n : Nat} (hm : 0 ≤ m) (hm2 : m ≤ 1099511627776) (hn : n ≤ 1099511627776) {k : Nat} (hk : n < k) : laws_heldIntS.f k (marks m n) m = some (m + n) := by
 unfold laws_heldIntS.f
 have := heldIntS_l0 m n hm hm2 hn n k 0 (by omega) hk
 simpa using this
/-- The number at a place,0 beyond the list. -/
def g (l : List Int) (i : Nat) : Int := l.getD i 0
theorem g_lt {l : List Int} {i : Nat} (h : i < l.length) : g l i = l[i] := by
 simp [g,List.getD_eq_getElem?_getD,List.getElem?_eq_getElem h]
theorem g_mem {l : List Int} {i : Nat} (h : i < l.length) : g l i ∈ l := by
 rw [g_lt h];exact List.getElem_mem h
theorem mem_g {l : List Int} {x : Int} (h : x ∈ l) : ∃ i,i < l.length ∧ g l i = x := by
 obtain ⟨i,hi,rfl⟩ := List.getElem_of_mem h
 exact ⟨i,hi,g_lt hi⟩
/-- The places that can fire. -/
def places (l : List Int) : List Nat := (List.range l.length).filter fun i => decide (2 ≤ g l i)
theorem rd_g (l : List Int) (i : Nat) : rd l (i : Int) = g l i := by simp [rd,g]
theorem inB_iff {p q x : Int} : inB p q x = true ↔ p ≤ x ∧ x ≤ q := by simp [inB]
/-- Valid chips,as a Bool. -/
def good (l : List Int) : Bool := decide (1 ≤ l.length) && decide (l.length ≤ 20) && l.all (inB 0 60)
theorem within_eq (a b c : Int) : impl_within.f a b c = some (inB b c a) := by
 unfold impl_within.f inB
 by_cases h : a ≥ b <;> simp [h] <;> omega
theorem l1In_eq (a b c : Int) : spec_l1In.f a b c = some (inB b c a) := by
 unfold spec_l1In.f inB
 by_cases h : a ≥ b <;> simp [h] <;> omega
theorem impl_AreChips_eq (l : List Int) : impl_AreChips.f l = some (good l) := by
 unfold impl_AreChips.f impl_areIn.f
 rw [within_eq]
 simp only [Option.bind_some]
 by_cases h : inB 1 20 (l.length : Int) = true
 ·rw [if_pos h]
  simp only [inB,Bool.and_eq_true,decide_eq_true_eq] at h
  congr 1;unfold good
  rw [decide_eq_true (by omega : 1 ≤ l.length),decide_eq_true (by omega : l.length ≤ 20)];rfl
 ·rw [if_neg h]
  congr 1;unfold good
  simp only [inB,Bool.and_eq_true,decide_eq_true_eq] at h
  by_cases a : 1 ≤ l.length
  ·rw [decide_eq_false (by omega : ¬ l.length ≤ 20)];simp
  ·rw [decide_eq_false a];simp
theorem l1All_l0 (p q : Int) (l : List Int) (hl : l.length ≤ 1099511627776) (d : Nat) : ∀ (k : Nat) (i : Nat),i + d = l.length → d < k →
  spec_l1All.l0 k p q l (l.length : Int) (i : Int) = some ((l.drop i).all (inB p q)) := by
 induction d with
 | zero =>
  intro k i hi hk
  obtain ⟨k,rfl⟩ : ∃ m,k = m + 1 := ⟨k - 1,by omega⟩
  simp only [spec_l1All.l0]
  rw [if_neg (by omega),List.drop_of_length_le (by omega)];rfl
 | succ d ih =>
  intro k i hi hk
  obtain ⟨k,rfl⟩ : ∃ m,k = m + 1 := ⟨k - 1,by omega⟩
  simp only [spec_l1All.l0]
  rw [if_pos (by omega),if_pos (by omega),if_pos (by omega),l1In_eq,rd_lt (by omega),List.drop_eq_getElem_cons (show i < l.length by omega),List.all_cons]
  simp only [Option.bind_some]
  by_cases h : inB p q l[i] = true
  ·rw [if_pos h,h,wrap_succ (by omega),ih k (i + 1) (by omega) (by omega)];rfl
  ·rw [if_neg h,Bool.eq_false_iff.2 h];rfl
theorem l1All_at (p q : Int) {l : List Int} (hl : l.length ≤ 1099511627776) {k : Nat} (hk : l.length < k) : spec_l1All.f k l p q = some (l.all (inB p q)) := by
 unfold spec_l1All.f
 have := l1All_l0 p q l hl l.length k 0 (by omega) hk
 simpa using this
theorem chGood_at {l : List Int} (hl : l.length ≤ 1099511627776) {k : Nat} (hk : l.length < k) : spec_chGood.f k l = some (good l) := by
 unfold spec_chGood.f
 rw [l1In_eq]
 simp only [Option.bind_some]
 have e := impl_AreChips_eq l
 unfold impl_AreChips.f impl_areIn.f at e
 rw [within_eq] at e
 simp only [Option.bind_some] at e
 rw [← e,l1All_at _ _ hl hk]
 rfl
theorem good_len {l : List Int} (h : good l = true) : 1 ≤ l.length ∧ l.length ≤ 20 := by
 simp only [good,Bool.and_eq_true,decide_eq_true_eq] at h;exact h.1
theorem good_g {l : List Int} (h : good l = true) {i : Nat} (hi : i < l.length) : 0 ≤ g l i ∧ g l i ≤ 60 := by
 simp only [good,Bool.and_eq_true,List.all_eq_true] at h
 have := h.2 _ (g_mem hi)
 simp only [inB,Bool.and_eq_true,decide_eq_true_eq] at this;exact this
theorem take_snoc (l : List Int) (i : Nat) (h : i < l.length) : l.take (i + 1) = l.take i ++ [g l i] := by
 rw [List.take_succ_eq_append_getElem h,g_lt h]
/-- Two lists of chips of as many places. -/
def both (a b : List Int) : Bool := good a && good b && (a.length == b.length)
/-- A string of these bytes. -/
def bs (l : List UInt8) : ByteArray := ⟨l.toArray⟩
theorem bs_size (l : List UInt8) : (bs l).size = l.length := by simp [bs,ByteArray.size]
theorem bs_append (a b : List UInt8) : bs a ++ bs b = bs (a ++ b) := by
 apply ByteArray.ext
 simp [bs,ByteArray.data_append]
theorem bs_dot : (⟨#[46]⟩ : ByteArray) = bs [46] := rfl
/-- A number's decimal digits. -/
def dec (n : Int) : List UInt8 := Lib.decDigits n.toNat
theorem dec_small {n : Int} (h0 : 0 ≤ n) (h1 : n < 10) : dec n = [UInt8.ofNat (48 + n.toNat)] := by
 unfold dec;rw [Lib.decDigits,dif_pos (by omega)]
theorem dec_big {n : Int} (h0 : 10 ≤ n) : dec n = dec (n / 10) ++ [UInt8.ofNat (48 + n.toNat % 10)] := by
 unfold dec;rw [Lib.decDigits,dif_neg (by omega)]
 congr 2
 omega
theorem dec_len {n : Int} (h0 : 0 ≤ n) (h1 : n < 100) : 1 ≤ (dec n).length ∧ (dec n).length ≤ 2 := by
 by_cases h : n < 10
 ·rw [dec_small h0 h];simp
 ·rw [dec_big (by omega),dec_small (by omega) (by omega)];simp
theorem digit_at {d : Int} (h0 : 0 ≤ d) (h1 : d < 10) : strOfNums [(wrap64 (48 + d)) % 256] = bs [UInt8.ofNat (48 + d.toNat)] := by
 unfold strOfNums bs
 rw [wrap_id (by omega) (by omega),Int.emod_eq_of_lt (by omega) (by omega)]
 simp only [List.map_cons,List.map_nil]
 congr 4
 omega
theorem l1Num_dec {n : Int} (h0 : 0 ≤ n) (h1 : n < 100) {k : Nat} (hk : 2 ≤ k) : spec_l1Num.f k n = some (bs (dec n)) := by
 have hs : ∀ (m : Int) (j : Nat),1 ≤ j → 0 ≤ m → m < 10 → spec_l1Num.f j m = some (bs (dec m)) := fun m j hj a b => by
  obtain ⟨j,rfl⟩ : ∃ i,j = i + 1 := ⟨j - 1,by omega⟩
  simp only [spec_l1Num.f]
  rw [if_pos b,digit_at a b,dec_small a b]
 obtain ⟨k,rfl⟩ : ∃ m,k = m + 1 := ⟨k - 1,by omega⟩
 by_cases h : n < 10
 ·exact hs n (k + 1) (by omega) h0 h
 ·have e1 : Int.tdiv n 10 = n / 10 := Int.tdiv_eq_ediv_of_nonneg h0
  have e2 : Int.tmod n 10 = n % 10 := Int.tmod_eq_emod_of_nonneg h0
  simp only [spec_l1Num.f]
  rw [if_neg h,e1,e2,wrap_id (x := n / 10) (by omega) (by omega),hs (n / 10) k (by omega) (by omega) (by omega),Option.bind_some,Option.bind_some,digit_at (d := n % 10) (by omega) (by omega),bs_size,bs_size,if_pos (by have := dec_len (n := n / 10) (by omega) (by omega);simp only [List.length_cons,List.length_nil];omega),bs_append,dec_big (n := n) (by omega)]
  have e3 : (n % 10).toNat = n.toNat % 10 := by omega
  rw [e3]
/-- The text of numbers with dots between. -/
def txt (l : List Int) : List UInt8 := Lib.join (l.map dec) [46]
theorem txt_nil : txt [] = [] := rfl
theorem joinTail_snoc (sep : List UInt8) (r : List (List UInt8)) (x : List UInt8) : Lib.joinTail sep (r ++ [x]) = Lib.joinTail sep r ++ (sep ++ x) := by simp [Lib.joinTail]
theorem txt_one (x : Int) : txt [x] = dec x := by unfold txt;exact Lib.join_one _ _
theorem txt_snoc {l : List Int} (h : l ≠ []) (x : Int) : txt (l ++ [x]) = txt l ++ (46 :: dec x) := by
 cases l with
 | nil => exact absurd rfl h
 | cons y r =>
  unfold txt
  rw [List.map_append,show List.map dec (y :: r) = dec y :: r.map dec from rfl,List.cons_append,Lib.join_cons,Lib.join_cons,show List.map dec [x] = [dec x] from rfl,joinTail_snoc,List.append_assoc];rfl
theorem lens_dec : ∀ (l : List Int),(∀ x ∈ l,0 ≤ x ∧ x < 100) → Lib.lens (l.map dec) ≤ 2 * l.length
 | [],_ => by simp [Lib.lens]
 | x :: l,h => by
  have hx := dec_len (h x List.mem_cons_self).1 (h x List.mem_cons_self).2
  have hl := lens_dec l fun y hy => h y (List.mem_cons_of_mem _ hy)
  simp only [Lib.lens,List.map_cons,List.sum_cons,List.length_cons] at hl ⊢
  omega
theorem txt_len : ∀ (l : List Int),(∀ x ∈ l,0 ≤ x ∧ x < 100) → (txt l).length ≤ 3 * l.length
 | [],_ => by simp [txt_nil]
 | x :: l,h => by
  have hx := dec_len (h x List.mem_cons_self).1 (h x List.mem_cons_self).2
  have hl := lens_dec l fun y hy => h y (List.mem_cons_of_mem _ hy)
  unfold txt
  rw [List.map_cons,Lib.join_cons,List.length_append,Lib.joinTail_length,List.length_map]
  simp only [List.length_cons,List.length_nil]
  omega
theorem chText_l0 {l : List Int} (hg : good l = true) (d : Nat) : ∀ (k i : Nat),i + d = l.length → d + 3 ≤ k → spec_chText.l0 k (bs (txt (l.take i))) l (l.length : Int) (i : Int) = some (bs (txt l)) := by
 have hb := good_len hg
 induction d with
 | zero =>
  intro k i hi hk
  obtain ⟨m,rfl⟩ : ∃ m,k = m + 1 := ⟨k - 1,by omega⟩
  simp only [spec_chText.l0]
  rw [if_neg (by omega),List.take_of_length_le (by omega)]
 | succ d ih =>
  intro k i hi hk
  obtain ⟨m,rfl⟩ : ∃ m,k = m + 1 := ⟨k - 1,by omega⟩
  have hgi := good_g hg (i := i) (by omega)
  have hrec := ih m (i + 1) (by omega) (by omega)
  rw [take_snoc _ _ (by omega)] at hrec
  have hlen : (txt (l.take i)).length ≤ 60 := by
   have := txt_len (l.take i) (fun x hx => by
    obtain ⟨j,hj,rfl⟩ := mem_g (List.mem_of_mem_take hx)
    have := good_g hg hj;omega)
   rw [List.length_take] at this;omega
  have hd := dec_len hgi.1 (show g l i < 100 by omega)
  simp only [spec_chText.l0]
  rw [if_pos (by omega),if_pos (by omega),if_pos (by omega),rd_g,l1Num_dec hgi.1 (by omega) (by omega),wrap_succ (by omega)]
  by_cases h0 : i = 0
  ·subst h0
   rw [if_neg (by omega),Option.bind_some,if_pos (by rw [bs_size,bs_size];omega),bs_append]
   rw [List.take_zero,List.nil_append,txt_one] at hrec
   rw [List.take_zero,txt_nil,List.nil_append];exact hrec
  ·have hne : l.take i ≠ [] := fun e => by have e2 := congrArg List.length e;rw [List.length_take,List.length_nil] at e2;omega
   rw [if_pos (by omega),if_pos (by rw [bs_size];omega),Option.bind_some,bs_dot,bs_append,if_pos (by rw [bs_size,bs_size,List.length_append,show ([46] : List UInt8).length = 1 from rfl];omega),bs_append,List.append_assoc]
   rw [txt_snoc hne] at hrec
   exact hrec
/-- The parts of a text between its dots. -/
def parts : List UInt8 → List (List UInt8)
 | [] => [[]]
 | c :: r => if c = 46 then [] :: parts r else (match parts r with
  | [] => [[c]]
  | p :: ps => (c :: p) :: ps)
theorem parts_cons (c : UInt8) (r : List UInt8) : parts (c :: r) = if c = 46 then [] :: parts r else (match parts r with
  | [] => [[c]]
  | p :: ps => (c :: p) :: ps) := rfl
theorem parts_hit (r : List UInt8) : ∀ (a : List UInt8),(∀ x ∈ a,x ≠ 46) → parts (a ++ 46 :: r) = a :: parts r
 | [],_ => by simp [parts]
 | c :: a,h => by
  have ih := parts_hit r a fun x hx => h x (List.mem_cons_of_mem _ hx)
  rw [List.cons_append,parts_cons,if_neg (h c List.mem_cons_self),ih]
theorem parts_miss : ∀ (a : List UInt8),(∀ x ∈ a,x ≠ 46) → parts a = [a]
 | [],_ => rfl
 | c :: a,h => by
  have ih := parts_miss a fun x hx => h x (List.mem_cons_of_mem _ hx)
  unfold parts
  rw [if_neg (h c List.mem_cons_self),ih]
theorem cut_at : ∀ (l : List UInt8),(∀ x ∈ l,x ≠ 46) ∨ ∃ a r,l = a ++ 46 :: r ∧ ∀ x ∈ a,x ≠ 46
 | [] => .inl fun x hx => absurd hx List.not_mem_nil
 | c :: l => by
  by_cases hc : c = 46
  ·exact .inr ⟨[],l,by rw [hc];rfl,fun x hx => absurd hx List.not_mem_nil⟩
  ·rcases cut_at l with h | ⟨a,r,rfl,h⟩
   ·refine .inl fun x hx => ?_
    rcases List.mem_cons.1 hx with rfl | hx
    ·exact hc
    ·exact h x hx
   ·refine .inr ⟨c :: a,r,rfl,fun x hx => ?_⟩
    rcases List.mem_cons.1 hx with rfl | hx
    ·exact hc
    ·exact h x hx
theorem idx_miss : ∀ (a : List UInt8),(∀ x ∈ a,x ≠ 46) → Lib.index a [46] = -1
 | [],_ => rfl
 | c :: a,h => by
  have ih := idx_miss a fun x hx => h x (List.mem_cons_of_mem _ hx)
  unfold Lib.index
  have e : List.isPrefixOf [46] (c :: a) = false := by
   simp only [List.isPrefixOf,Bool.and_true]
   rw [beq_eq_false_iff_ne];exact fun e => h c List.mem_cons_self e.symm
  rw [e,ih];rfl
theorem idx_hit (r : List UInt8) : ∀ (a : List UInt8),(∀ x ∈ a,x ≠ 46) → Lib.index (a ++ 46 :: r) [46] = (a.length : Int)
 | [],_ => by simp [Lib.index,List.isPrefixOf]
 | c :: a,h => by
  have ih := idx_hit r a fun x hx => h x (List.mem_cons_of_mem _ hx)
  rw [List.cons_append]
  unfold Lib.index
  have e : List.isPrefixOf [46] (c :: (a ++ 46 :: r)) = false := by
   simp only [List.isPrefixOf,Bool.and_true]
   rw [beq_eq_false_iff_ne];exact fun e => h c List.mem_cons_self e.symm
  rw [e,ih,if_neg (by decide),if_neg (by rw [beq_iff_eq];omega),List.length_cons];omega
theorem drop_hit (a r : List UInt8) : (a ++ 46 :: r).drop (a.length + 1) = r := by
 rw [← List.drop_drop,List.drop_left];rfl
theorem split_parts : ∀ (n : Nat) (l : List UInt8),l.length ≤ n → Lib.splitK [46] 0 (Lib.count l [46]) l = parts l ∧ (parts l).length = Lib.count l [46] + 1 ∧ Lib.join (parts l) [46] = l
 | n,l,hn => by
  rcases cut_at l with h | ⟨a,r,rfl,h⟩
  ·rw [Lib.count_miss (idx_miss l h),parts_miss l h]
   exact ⟨rfl,rfl,Lib.join_one _ _⟩
  ·have hi := idx_hit r a h
   have hc := Lib.count_hit (i := a.length) (by simp) hi
   have hd : (a ++ 46 :: r).drop (a.length + ([46] : List UInt8).length) = r := drop_hit a r
   rw [hd] at hc
   match n,hn with
   | 0,hn => exact absurd hn (by simp)
   | n + 1,hn =>
    obtain ⟨i1,i2,i3⟩ := split_parts n r (by simp only [List.length_append,List.length_cons] at hn;omega)
    rw [hc,parts_hit r a h]
    refine ⟨?_,by rw [List.length_cons,i2];omega,?_⟩
    ·rw [Nat.add_comm]
     unfold Lib.splitK
     rw [hi,if_neg (by rw [beq_iff_eq];omega),Int.toNat_natCast,hd,i1,Nat.add_zero,List.take_left]
    ·cases hp : parts r with
     | nil => rw [hp] at i2;simp at i2
     | cons p ps =>
      rw [hp,Lib.join_cons] at i3
      rw [Lib.join_cons]
      show a ++ ((([46] ++ p) :: ps.map ([46] ++ ·)).flatten) = _
      rw [List.flatten_cons,List.append_assoc]
      show a ++ ([46] ++ (p ++ Lib.joinTail [46] ps)) = _
      rw [i3];rfl
theorem bs_eta (s : ByteArray) : bs s.data.toList = s := by cases s;simp [bs]
theorem Split_at {l : List UInt8} (hl : l.length ≤ 1048576) : strings_Split.f (bs l) (bs [46]) = some ((parts l).map bs) := by
 obtain ⟨h1,h2,_⟩ := split_parts l.length l (Nat.le_refl _)
 have e : Lib.splitB (bs [46]) 0 (Lib.countB (bs l) (bs [46])) (bs l) = (parts l).map bs := by
  have h3 := Lib.splitB_data (bs [46]) 0 (Lib.countB (bs l) (bs [46])) (bs l)
  have h4 : (Lib.splitB (bs [46]) 0 (Lib.countB (bs l) (bs [46])) (bs l)).map (fun b => b.data.toList) = parts l := h3.trans h1
  rw [← h4,List.map_map]
  conv => lhs;rw [← List.map_id (Lib.splitB (bs [46]) 0 (Lib.countB (bs l) (bs [46])) (bs l))]
  exact List.map_congr_left fun b _ => (bs_eta b).symm
 have hc : Lib.countB (bs l) (bs [46]) ≤ 1048576 := by
  have : ∀ (n : Nat) (l : List UInt8),l.length ≤ n → Lib.count l [46] ≤ l.length := fun n => by
   induction n with
   | zero => intro l h;cases l with
    | nil => exact Nat.le_of_eq (Lib.count_miss rfl)
    | cons c l => simp at h
   | succ n ih =>
    intro l h
    rcases cut_at l with hm | ⟨a,r,rfl,hm⟩
    ·rw [Lib.count_miss (idx_miss l hm)];exact Nat.zero_le _
    ·have hc := Lib.count_hit (i := a.length) (by simp) (idx_hit r a hm)
     rw [show (a ++ 46 :: r).drop (a.length + ([46] : List UInt8).length) = r from drop_hit a r] at hc
     have := ih r (by simp only [List.length_append,List.length_cons] at h;omega)
     rw [hc];simp only [List.length_append,List.length_cons];omega
  exact Nat.le_trans (this l.length l (Nat.le_refl _)) hl
 unfold strings_Split.f
 rw [e,if_pos ⟨by rw [bs_size];exact hl,rfl,by rw [List.length_map,h2];rfl,hc⟩]
theorem bt_bs (l : List UInt8) {i : Nat} (hi : i < l.length) : bt (bs l) (i : Int) = ((l[i]).toNat : Int) := by
 unfold bt
 rw [dif_pos (by rw [Int.toNat_natCast,bs_size];exact hi)]
 congr 1
theorem ext_bs (l : List UInt8) (a b : Nat) : (bs l).extract a b = bs ((l.drop a).take (b - a)) := by
 rw [← bs_eta ((bs l).extract a b),Lib.extract_data];rfl
theorem u8_ne {c d : UInt8} (h : c ≠ d) : (c.toNat : Int) ≠ (d.toNat : Int) := fun e => h (UInt8.toNat.inj (by omega))
theorem l1Split_l0 {l : List UInt8} (hl : l.length ≤ 1048576) (d : Nat) : ∀ (k i fr : Nat) (acc : List ByteArray),i + d = l.length → fr ≤ i → (∀ x ∈ (l.drop fr).take (i - fr),x ≠ 46) → acc.length + d ≤ 1048576 → d < k → spec_l1Split.l0 k (bs l) 46 acc (fr : Int) (i : Int) = some (acc ++ (parts (l.drop fr)).map bs) := by
 induction d with
 | zero =>
  intro k i fr acc hi hf hn ha hk
  obtain ⟨k,rfl⟩ : ∃ m,k = m + 1 := ⟨k - 1,by omega⟩
  simp only [spec_l1Split.l0]
  rw [bs_size,if_neg (by omega),if_pos (by omega),if_pos (by omega),if_pos (by omega),Int.toNat_natCast,ext_bs]
  rw [List.take_of_length_le (by rw [List.length_drop];omega)] at hn
  rw [parts_miss _ hn,List.take_of_length_le (by rw [List.length_drop];exact Nat.le_refl _)];rfl
 | succ d ih =>
  intro k i fr acc hi hf hn ha hk
  obtain ⟨k,rfl⟩ : ∃ m,k = m + 1 := ⟨k - 1,by omega⟩
  have hil : i < l.length := by omega
  have et : (l.drop fr).take (i + 1 - fr) = (l.drop fr).take (i - fr) ++ [l[i]] := by
   rw [show i + 1 - fr = (i - fr) + 1 by omega,List.take_add_one,List.getElem?_drop,show fr + (i - fr) = i by omega,List.getElem?_eq_getElem hil];rfl
  simp only [spec_l1Split.l0]
  rw [bs_size,if_pos (by omega),if_pos (by omega),bt_bs l hil,wrap_succ (by omega)]
  by_cases hc : l[i] = 46
  ·rw [if_pos (by rw [hc];rfl),if_pos (by omega),if_pos (by omega),if_pos (by omega),if_pos (by omega),Int.toNat_natCast,Int.toNat_natCast,ext_bs]
   have hrec := ih k (i + 1) (i + 1) (acc ++ [bs ((l.drop fr).take (i - fr))]) (by omega) (Nat.le_refl _) (by rw [Nat.sub_self,List.take_zero];exact fun x hx => absurd hx List.not_mem_nil) (by rw [List.length_append,List.length_singleton];omega) (by omega)
   rw [hrec]
   have es : l.drop fr = (l.drop fr).take (i - fr) ++ 46 :: l.drop (i + 1) := by
    conv => lhs;rw [← List.take_append_drop (i - fr) (l.drop fr)]
    rw [List.drop_drop,show fr + (i - fr) = i by omega,List.drop_eq_getElem_cons hil,hc]
   conv => rhs;rw [es]
   rw [parts_hit _ _ hn,List.map_cons,List.append_assoc];rfl
  ·rw [if_neg (show ¬ ((l[i].toNat : Int) = 46) from fun e => u8_ne hc e)]
   exact ih k (i + 1) fr acc (by omega) (by omega) (by
    rw [et]
    intro x hx
    rcases List.mem_append.1 hx with hx | hx
    ·exact hn x hx
    ·rw [List.mem_singleton.1 hx];exact hc) (by omega) (by omega)
theorem l1Split_at {l : List UInt8} (hl : l.length ≤ 1048576) {k : Nat} (hk : l.length < k) : spec_l1Split.f k (bs l) 46 = some ((parts l).map bs) := by
 unfold spec_l1Split.f
 exact l1Split_l0 hl l.length k 0 0 [] (by omega) (Nat.le_refl _) (by simp) (by simpa using hl) hk
/-- The number that digits spell after others; -1 if one is none. -/
def rdFrom (acc : Int) : List UInt8 → Int
 | [] => acc
 | c :: r => if 48 ≤ c.toNat ∧ c.toNat ≤ 57 then rdFrom (10 * acc + ((c.toNat : Int) - 48)) r else -1
/-- What the reference reads of a word. -/
def rdw (p : List UInt8) : Int := if p.length < 1 ∨ 6 < p.length then -1 else if p.head? = some 48 ∧ 1 < p.length then -1 else rdFrom 0 p
theorem ten_small : ∀ i : Nat,i < 7 → (10 : Int) ^ i ≤ 1000000 := by decide
theorem l1Read_l0 {p : List UInt8} (hp : p.length ≤ 6) (d : Nat) : ∀ (k i : Nat) (acc : Int),i + d = p.length → 0 ≤ acc → acc < 10 ^ i → d < k → spec_l1Read.l0 k (bs p) acc (i : Int) = some (rdFrom acc (p.drop i)) := by
 induction d with
 | zero =>
  intro k i acc hi h0 h1 hk
  obtain ⟨k,rfl⟩ : ∃ m,k = m + 1 := ⟨k - 1,by omega⟩
  simp only [spec_l1Read.l0]
  rw [bs_size,if_neg (by omega),List.drop_of_length_le (by omega)];rfl
 | succ d ih =>
  intro k i acc hi h0 h1 hk
  obtain ⟨k,rfl⟩ : ∃ m,k = m + 1 := ⟨k - 1,by omega⟩
  have hil : i < p.length := by omega
  have hs := ten_small i (by omega)
  have hp1 : (10 : Int) ^ (i + 1) = 10 * 10 ^ i := by rw [Int.pow_succ,Int.mul_comm]
  rw [List.drop_eq_getElem_cons hil]
  unfold rdFrom
  simp only [spec_l1Read.l0]
  rw [bs_size,if_pos (by omega),if_pos (by omega),bt_bs p hil,wrap_succ (by omega)]
  by_cases c1 : 48 ≤ p[i].toNat
  ·rw [if_neg (by omega)]
   by_cases c2 : p[i].toNat ≤ 57
   ·rw [if_neg (by omega),if_pos ⟨c1,c2⟩,Int.emod_eq_of_lt (by omega) (by omega),wrap_id (x := 10 * acc) (by omega) (by omega),wrap_id (by omega) (by omega)]
    exact ih k (i + 1) _ (by omega) (by omega) (by omega) (by omega)
   ·rw [if_pos (by omega),if_neg (fun q => c2 q.2)]
  ·rw [if_pos (by omega),if_neg (fun q => c1 q.1)]
theorem l1Read_at (p : List UInt8) (hL : p.length ≤ 1048576) {k : Nat} (hk : 8 ≤ k) : spec_l1Read.f k (bs p) = some (rdw p) := by
 obtain ⟨k,rfl⟩ : ∃ m,k = m + 1 := ⟨k - 1,by omega⟩
 have hl : spec_l1In.f (p.length : Int) 1 6 = some (inB 1 6 (p.length : Int)) := l1In_eq _ _ _
 by_cases hc : 1 ≤ p.length ∧ p.length ≤ 6
 ·have hr : rdw p = if p.head? = some 48 ∧ 1 < p.length then -1 else rdFrom 0 p := by unfold rdw;rw [if_neg (by omega)]
  have e0 : bt (bs p) 0 = ((p[0]'(by omega)).toNat : Int) := bt_bs p (i := 0) (by omega)
  have eh : p.head? = some (p[0]'(by omega)) := by rw [List.head?_eq_getElem?,List.getElem?_eq_getElem (by omega)]
  have hrd := l1Read_l0 hc.2 p.length k 0 0 (by omega) (Int.le_refl _) (by decide) (by omega)
  rw [List.drop_zero] at hrd
  have hj : spec_l1Read.j0 (k + 1) (bs p) false = some (rdFrom 0 p) := by
   simp only [spec_l1Read.j0]
   rw [if_neg (by decide)];exact hrd
  have hj1 : spec_l1Read.j0 (k + 1) (bs p) true = some (-1) := by
   simp only [spec_l1Read.j0];rw [if_pos trivial]
  rw [hr]
  unfold spec_l1Read.f
  rw [bs_size,hl,Option.bind_some,if_pos (inB_iff.2 (by omega)),if_pos (show (0 : Int) < (p.length : Int) by omega),e0,eh]
  by_cases h48 : p[0]'(by omega) = 48
  ·rw [if_pos (show ((p[0]'(by omega)).toNat : Int) = 48 by rw [h48];rfl),h48]
   by_cases h1 : 1 < p.length
   ·rw [decide_eq_true (show (p.length : Int) > 1 by omega),if_pos ⟨rfl,h1⟩];exact hj1
   ·rw [decide_eq_false (show ¬ (p.length : Int) > 1 by omega),if_neg (fun q => h1 q.2)];exact hj
  ·rw [if_neg (show ¬ (((p[0]'(by omega)).toNat : Int) = 48) from fun e => u8_ne h48 e),if_neg (fun q => h48 (Option.some.inj q.1))];exact hj
 ·have e : inB 1 6 (p.length : Int) = false := Bool.eq_false_iff.2 fun q => hc (by have := inB_iff.1 q;omega)
  have hr : rdw p = -1 := by unfold rdw;rw [if_pos (by omega)]
  rw [hr]
  unfold spec_l1Read.f
  rw [bs_size,hl,Option.bind_some,e,if_neg (by decide)]
  simp only [spec_l1Read.j0];rw [if_pos trivial]
theorem rdFrom_ge : ∀ (r : List UInt8) (acc : Int),0 ≤ acc → rdFrom acc r = -1 ∨ acc ≤ rdFrom acc r
 | [],acc,_ => .inr (Int.le_refl _)
 | c :: r,acc,h => by
  unfold rdFrom
  by_cases hc : 48 ≤ c.toNat ∧ c.toNat ≤ 57
  ·rw [if_pos hc]
   rcases rdFrom_ge r (10 * acc + ((c.toNat : Int) - 48)) (by omega) with q | q
   ·exact .inl q
   ·exact .inr (by omega)
  ·rw [if_neg hc];exact .inl rfl
theorem dg_u8 {c : UInt8} (h : 48 ≤ c.toNat ∧ c.toNat ≤ 57) : UInt8.ofNat (48 + (c.toNat - 48)) = c := by
 rw [show 48 + (c.toNat - 48) = c.toNat by omega];exact UInt8.ofNat_toNat
theorem rdw_dec {p : List UInt8} (h0 : 0 ≤ rdw p) (h1 : rdw p ≤ 60) : p = dec (rdw p) := by
 revert h0 h1
 unfold rdw
 by_cases hc : p.length < 1 ∨ 6 < p.length
 ·rw [if_pos hc];omega
 ·rw [if_neg hc]
  by_cases hz : p.head? = some 48 ∧ 1 < p.length
  ·rw [if_pos hz];omega
  ·rw [if_neg hz]
   match p,hc,hz with
   | [],hc,_ => exact absurd (Or.inl (by simp)) hc
   | [c],_,_ =>
    unfold rdFrom
    by_cases h : 48 ≤ c.toNat ∧ c.toNat ≤ 57
    ·rw [if_pos h]
     simp only [rdFrom]
     intro _ _
     rw [dec_small (by omega) (by omega),show (10 * 0 + ((c.toNat : Int) - 48)).toNat = c.toNat - 48 by omega,dg_u8 h]
    ·rw [if_neg h];omega
   | [c,d],_,hz =>
    unfold rdFrom
    by_cases h : 48 ≤ c.toNat ∧ c.toNat ≤ 57
    ·rw [if_pos h]
     unfold rdFrom
     by_cases h2 : 48 ≤ d.toNat ∧ d.toNat ≤ 57
     ·rw [if_pos h2]
      simp only [rdFrom]
      intro _ _
      have hne : c.toNat ≠ 48 := fun e => hz ⟨by simp only [List.head?_cons];congr 1;exact UInt8.toNat.inj e,by simp⟩
      rw [dec_big (by omega),dec_small (by omega) (by omega)]
      have e1 : ((10 * (10 * 0 + ((c.toNat : Int) - 48)) + ((d.toNat : Int) - 48)) / 10).toNat = c.toNat - 48 := by omega
      have e2 : (10 * (10 * 0 + ((c.toNat : Int) - 48)) + ((d.toNat : Int) - 48)).toNat % 10 = d.toNat - 48 := by omega
      rw [e1,e2,dg_u8 h,dg_u8 h2];rfl
     ·rw [if_neg h2];omega
    ·rw [if_neg h];omega
   | c :: d :: e :: r,_,hz =>
    unfold rdFrom
    by_cases h : 48 ≤ c.toNat ∧ c.toNat ≤ 57
    ·rw [if_pos h]
     unfold rdFrom
     by_cases h2 : 48 ≤ d.toNat ∧ d.toNat ≤ 57
     ·rw [if_pos h2]
      unfold rdFrom
      by_cases h3 : 48 ≤ e.toNat ∧ e.toNat ≤ 57
      ·rw [if_pos h3]
       have hne : c.toNat ≠ 48 := fun e => hz ⟨by simp only [List.head?_cons];congr 1;exact UInt8.toNat.inj e,by simp⟩
       have := rdFrom_ge r (10 * (10 * (10 * 0 + ((c.toNat : Int) - 48)) + ((d.toNat : Int) - 48)) + ((e.toNat : Int) - 48)) (by omega)
       omega
      ·rw [if_neg h3];omega
     ·rw [if_neg h2];omega
    ·rw [if_neg h];omega
theorem two_digits : (∀ a : Nat,a < 10 → Lib.atoiAll [UInt8.ofNat (48 + a)] = .ok (a : Int) ∧ rdw [UInt8.ofNat (48 + a)] = (a : Int)) ∧ ∀ a : Nat,a < 10 → ∀ b : Nat,b < 10 → 1 ≤ a → Lib.atoiAll [UInt8.ofNat (48 + a),UInt8.ofNat (48 + b)] = .ok ((10 * a + b : Nat) : Int) ∧ rdw [UInt8.ofNat (48 + a),UInt8.ofNat (48 + b)] = ((10 * a + b : Nat) : Int) := by decide +kernel
theorem of_dec {u : Int} (h0 : 0 ≤ u) (h1 : u ≤ 60) : Lib.atoiAll (dec u) = .ok u ∧ rdw (dec u) = u := by
 by_cases h : u < 10
 ·rw [dec_small h0 h]
  have := two_digits.1 u.toNat (by omega)
  rw [show ((u.toNat : Nat) : Int) = u by omega] at this;exact this
 ·rw [dec_big (by omega),dec_small (by omega) (by omega)]
  have := two_digits.2 (u / 10).toNat (by omega) (u.toNat % 10) (by omega) (by omega)
  rw [show ((10 * (u / 10).toNat + u.toNat % 10 : Nat) : Int) = u by omega] at this;exact this
/-- What the program reads of a word. -/
def numb (p : List UInt8) : Int := match Lib.atoiAll p with
 | .ok v => if 0 ≤ v ∧ Lib.itoa v = p then v else -1
 | _ => -1
theorem number_at {p : List UInt8} (hp : p.length ≤ 1048576) : impl_number.f (bs p) = some (numb p) := by
 unfold impl_number.f
 rw [bs_size,if_pos (by omega)];rfl
theorem itoa_dec {v : Int} (h : 0 ≤ v) : Lib.itoa v = dec v := by
 unfold Lib.itoa dec;rw [if_neg (by omega)]
theorem numb_dec {p : List UInt8} (h0 : 0 ≤ numb p) : p = dec (numb p) := by
 revert h0
 unfold numb
 cases Lib.atoiAll p with
 | ok v =>
  dsimp only
  by_cases h : 0 ≤ v ∧ Lib.itoa v = p
  ·rw [if_pos h];intro _;rw [← itoa_dec h.1];exact h.2.symm
  ·rw [if_neg h];omega
 | «syntax» => dsimp only;omega
 | range => dsimp only;omega
theorem numb_of {u : Int} (h0 : 0 ≤ u) (h1 : u ≤ 60) : numb (dec u) = u := by
 unfold numb
 rw [(of_dec h0 h1).1]
 dsimp only
 rw [if_pos ⟨h0,itoa_dec h0⟩]
/-- A word is in range for both or for none,and then they read the same. -/
theorem words_same (p : List UInt8) : (inB 0 60 (numb p) = inB 0 60 (rdw p)) ∧ (inB 0 60 (rdw p) = true → numb p = rdw p) := by
 have a : inB 0 60 (rdw p) = true → numb p = rdw p := fun h => by
  have hb := inB_iff.1 h
  have e := rdw_dec hb.1 hb.2
  conv => lhs;rw [e]
  exact numb_of hb.1 hb.2
 have b : inB 0 60 (numb p) = true → inB 0 60 (rdw p) = true := fun h => by
  have hb := inB_iff.1 h
  have e := numb_dec hb.1
  rw [e,(of_dec hb.1 hb.2).2];exact h
 refine ⟨?_,a⟩
 cases h : inB 0 60 (rdw p) with
 | true => rw [a h];exact h
 | false => exact Bool.eq_false_iff.2 fun q => by rw [b q] at h;cases h
theorem good_same : ∀ (ps : List (List UInt8)),good (ps.map numb) = good (ps.map rdw) ∧ (good (ps.map rdw) = true → ps.map numb = ps.map rdw ∧ (ps.map rdw).map dec = ps) := fun ps => by
 have key : ∀ ps : List (List UInt8),(ps.map numb).all (inB 0 60) = (ps.map rdw).all (inB 0 60) ∧ ((ps.map rdw).all (inB 0 60) = true → ps.map numb = ps.map rdw ∧ (ps.map rdw).map dec = ps) := fun ps => by
  induction ps with
  | nil => exact ⟨rfl,fun _ => ⟨rfl,rfl⟩⟩
  | cons p ps ih =>
   obtain ⟨w1,w2⟩ := words_same p
   refine ⟨by simp only [List.map_cons,List.all_cons];rw [w1,ih.1],fun h => ?_⟩
   simp only [List.map_cons,List.all_cons,Bool.and_eq_true] at h
   obtain ⟨i1,i2⟩ := ih.2 h.2
   have hb := inB_iff.1 h.1
   exact ⟨by simp only [List.map_cons];rw [w2 h.1,i1],by simp only [List.map_cons];rw [i2, ← rdw_dec hb.1 hb.2]⟩
 obtain ⟨k1,k2⟩ := key ps
 refine ⟨by unfold good;rw [List.length_map,List.length_map,k1],fun h => k2 ?_⟩
 unfold good at h
 simp only [Bool.and_eq_true] at h
 exact h.2
theorem split_l0 {ps : List (List UInt8)} (hp : ∀ p ∈ ps,p.length ≤ 1048576) (hl : ps.length ≤ 2097152) (d : Nat) : ∀ (k i : Nat),i + d = ps.length → d < k → impl_split.l0 k ((ps.take i).map numb) (ps.map bs) (ps.length : Int) (i : Int) = some (ps.map numb) := by
 induction d with
 | zero =>
  intro k i hi hk
  obtain ⟨k,rfl⟩ : ∃ m,k = m + 1 := ⟨k - 1,by omega⟩
  simp only [impl_split.l0]
  rw [if_neg (by omega),List.take_of_length_le (by omega)]
 | succ d ih =>
  intro k i hi hk
  obtain ⟨k,rfl⟩ : ∃ m,k = m + 1 := ⟨k - 1,by omega⟩
  have hil : i < ps.length := by omega
  have er : rdOf ByteArray.empty (ps.map bs) (i : Int) = bs ps[i] := by
   unfold rdOf
   rw [Int.toNat_natCast,List.getD_eq_getElem?_getD,List.getElem?_map,List.getElem?_eq_getElem hil];rfl
  have hrec := ih k (i + 1) (by omega) (by omega)
  rw [List.take_succ_eq_append_getElem hil,List.map_append] at hrec
  simp only [impl_split.l0]
  rw [List.length_map,if_pos (by omega),if_pos (by omega),if_pos (by omega),er,number_at (hp _ (List.getElem_mem hil)),Option.bind_some,if_pos (by rw [List.length_map,List.length_take];omega),wrap_succ (by omega)]
  exact hrec
theorem parse_l0 {s : List UInt8} {ps : List (List UInt8)} (hp : ∀ p ∈ ps,p.length ≤ 1048576) (hl : ps.length ≤ 2097152) (d : Nat) : ∀ (k i : Nat),i + d = ps.length → d + 9 < k → ∃ m,8 + d ≤ m + d + 1 ∧ k ≤ m + d + 1 ∧ spec_ParseChips.l0 k (bs s) ((ps.take i).map rdw) (ps.map bs) (ps.length : Int) (i : Int) = (spec_chGood.f m (ps.map rdw)).bind fun t => if t = true then ((spec_chText.f m (ps.map rdw)).bind fun u => if u.toList = (bs s).toList then some (ps.map rdw,true) else some ([],false)) else some ([],false) := by
 induction d with
 | zero =>
  intro k i hi hk
  obtain ⟨k,rfl⟩ : ∃ m,k = m + 1 := ⟨k - 1,by omega⟩
  refine ⟨k,by omega,by omega,?_⟩
  simp only [spec_ParseChips.l0]
  rw [if_neg (by omega),List.take_of_length_le (by omega)]
 | succ d ih =>
  intro k i hi hk
  obtain ⟨k,rfl⟩ : ∃ m,k = m + 1 := ⟨k - 1,by omega⟩
  have hil : i < ps.length := by omega
  have er : rdOf ByteArray.empty (ps.map bs) (i : Int) = bs ps[i] := by
   unfold rdOf
   rw [Int.toNat_natCast,List.getD_eq_getElem?_getD,List.getElem?_map,List.getElem?_eq_getElem hil];rfl
  obtain ⟨m,h1,h2,hrec⟩ := ih k (i + 1) (by omega) (by omega)
  rw [List.take_succ_eq_append_getElem hil,List.map_append] at hrec
  refine ⟨m,by omega,by omega,?_⟩
  simp only [spec_ParseChips.l0]
  rw [List.length_map,if_pos (by omega),if_pos (by omega),if_pos (by omega),er,l1Read_at _ (hp _ (List.getElem_mem hil)) (by omega),Option.bind_some,if_pos (by rw [List.length_map,List.length_take];omega),wrap_succ (by omega)]
  exact hrec
theorem parts_sizes : ∀ (l : List UInt8),(parts l).length ≤ l.length + 1 ∧ ∀ p ∈ parts l,p.length ≤ l.length
 | [] => ⟨by simp [parts],fun p hp => by simp [parts] at hp;subst hp;simp⟩
 | c :: r => by
  obtain ⟨h1,h2⟩ := parts_sizes r
  rw [parts_cons]
  by_cases hc : c = 46
  ·rw [if_pos hc]
   refine ⟨by simp only [List.length_cons];omega,fun p hp => ?_⟩
   rcases List.mem_cons.1 hp with rfl | hp
   ·simp
   ·have := h2 p hp;simp only [List.length_cons];omega
  ·rw [if_neg hc]
   cases hp : parts r with
   | nil => exact ⟨by simp,fun p hp2 => by simp at hp2;subst hp2;simp⟩
   | cons q qs =>
    rw [hp] at h1 h2
    refine ⟨by simp only [List.length_cons] at h1 ⊢;omega,fun p hp2 => ?_⟩
    rcases List.mem_cons.1 hp2 with rfl | hp2
    ·have := h2 q List.mem_cons_self;simp only [List.length_cons];omega
    ·have := h2 p (List.mem_cons_of_mem _ hp2);simp only [List.length_cons];omega
theorem good_txt {s : List UInt8} (h : good ((parts s).map rdw) = true) : txt ((parts s).map rdw) = s ∧ s.length ≤ 60 := by
 have e := ((good_same (parts s)).2 h).2
 have e2 : txt ((parts s).map rdw) = s := by
  unfold txt;rw [e];exact (split_parts s.length s (Nat.le_refl _)).2.2
 have hl := txt_len ((parts s).map rdw) (fun x hx => by
  obtain ⟨j,hj,rfl⟩ := mem_g hx
  have := good_g h hj;omega)
 have hb := good_len h
 rw [e2] at hl
 exact ⟨e2,by omega⟩
theorem ParseChips_both {s : List UInt8} (hs : s.length ≤ 1048576) : ∃ (K : Nat) (r : List Int × Bool),r.1.length ≤ 1048577 ∧ (∀ k,K ≤ k → spec_ParseChips.f k (bs s) = some r) ∧ (∀ k,K ≤ k → impl_ParseChips.f k (bs s) = some r) := by
 obtain ⟨z1,z2⟩ := parts_sizes s
 have z3 : ∀ p ∈ parts s,p.length ≤ 1048576 := fun p hp => Nat.le_trans (z2 p hp) hs
 obtain ⟨g1,g2⟩ := good_same (parts s)
 have hi : ∀ k,(parts s).length < k → impl_split.f k (bs s) (⟨#[46]⟩ : ByteArray) = some ((parts s).map numb) := fun k hk => by
  unfold impl_split.f
  rw [bs_dot,Split_at hs,Option.bind_some,List.length_map]
  exact split_l0 z3 (by omega) (parts s).length k 0 (by omega) hk
 have hsp : ∀ k,2 * s.length + 60 ≤ k → s.length ≤ 60 → ∃ m,(parts s).length + 30 ≤ m ∧ spec_ParseChips.f k (bs s) = (spec_chGood.f m ((parts s).map rdw)).bind fun t => if t = true then ((spec_chText.f m ((parts s).map rdw)).bind fun u => if u.toList = (bs s).toList then some ((parts s).map rdw,true) else some ([],false)) else some ([],false) := fun k hk h6 => by
  obtain ⟨m,m1,m2,m3⟩ := parse_l0 (s := s) z3 (by omega) (parts s).length k 0 (by omega) (by omega)
  refine ⟨m,by omega,?_⟩
  unfold spec_ParseChips.f
  rw [bs_size,if_neg (by omega),l1Split_at hs (by omega),Option.bind_some,List.length_map]
  exact m3
 cases hg : good ((parts s).map rdw) with
 | false =>
  refine ⟨2 * s.length + 80,([],false),by simp,fun k hk => ?_,fun k hk => ?_⟩
  ·by_cases h6 : s.length ≤ 60
   ·obtain ⟨m,m1,m2⟩ := hsp k (by omega) h6
    rw [m2,chGood_at (by rw [List.length_map];omega) (by rw [List.length_map];omega),hg,Option.bind_some,if_neg (by decide)]
   ·unfold spec_ParseChips.f
    rw [bs_size,if_pos (by omega)]
  ·unfold impl_ParseChips.f
   rw [hi k (by omega),Option.bind_some,impl_AreChips_eq,g1,hg,Option.bind_some,if_neg (by decide)]
 | true =>
  obtain ⟨t1,t2⟩ := good_txt hg
  obtain ⟨e1,e2⟩ := g2 hg
  have hb := good_len hg
  refine ⟨2 * s.length + 80,((parts s).map rdw,true),by show ((parts s).map rdw).length ≤ _;omega,fun k hk => ?_,fun k hk => ?_⟩
  ·obtain ⟨m,m1,m2⟩ := hsp k (by omega) t2
   have hct : spec_chText.f m ((parts s).map rdw) = some (bs (txt ((parts s).map rdw))) := by
    unfold spec_chText.f
    have := chText_l0 hg ((parts s).map rdw).length m 0 (by omega) (by omega)
    rw [List.take_zero,txt_nil] at this
    exact this
   rw [m2,chGood_at (by rw [List.length_map];omega) (by rw [List.length_map];omega),hg,Option.bind_some,if_pos rfl,hct,Option.bind_some,t1,if_pos rfl]
  ·unfold impl_ParseChips.f
   rw [hi k (by omega),Option.bind_some,impl_AreChips_eq,g1,hg,Option.bind_some,if_pos rfl,e1]
theorem FnExactParseChips : laws_FnExactParseChips.Pure := by
 intro a0 _
 obtain ⟨s,rfl⟩ : ∃ s,a0 = bs s := ⟨a0.data.toList,(bs_eta a0).symm⟩
 unfold laws_FnExactParseChips.f
 by_cases hl : ((bs s).size : Int) > 1048576
 ·exact ⟨0,by rw [if_pos hl]⟩
 ·have hs : s.length ≤ 1048576 := by rw [bs_size] at hl;omega
  obtain ⟨K,r,hr0,hsp,hi⟩ := ParseChips_both hs
  have hr : r.1.length ≤ 1099511627776 := by omega
  have hEr : ∀ k,r.1.length < k → laws_eqIntS.f k r.1 r.1 = some true := fun k hk => eqIntS_at hr hk
  have hMr : ∀ k,r.1.length < k → laws_markIntS.f k r.1 1 = some ((1 : Int) + (r.1.length : Int),marks 1 r.1.length) := fun k hk => markIntS_at (by omega) (by omega) hr hk
  have hHr : ∀ k,r.1.length < k → laws_heldIntS.f k (marks 1 r.1.length) 1 = some ((1 : Int) + (r.1.length : Int)) := fun k hk => heldIntS_at (by omega) (by omega) hr hk
  have hn2 : ¬ ((1 : Int) + (r.1.length : Int) < 0) := by omega
  refine ⟨K + r.1.length + 8,?_⟩
  rw [if_neg hl]
  simp (disch := omega) only [eq_self,hsp,hi,Option.bind_some,bne_self_eq_false,if_true,if_false,Bool.false_eq_true,Bool.true_eq_false,hEr,hMr,hHr,if_neg hn2]
  simp only [laws_FnExactParseChips.j0]
  simp (disch := omega) only [eq_self,hsp,hi,Option.bind_some,bne_self_eq_false,if_true,if_false,Bool.false_eq_true,Bool.true_eq_false,hEr,hMr,hHr,if_neg hn2]
  simp only [laws_FnExactParseChips.j1]
  simp (disch := omega) only [eq_self,hsp,hi,Option.bind_some,bne_self_eq_false,if_true,if_false,Bool.false_eq_true,Bool.true_eq_false,hEr,hMr,hHr,if_neg hn2]
end Go.Proofs.YtidhceabmpikgaaDoor.Pure
