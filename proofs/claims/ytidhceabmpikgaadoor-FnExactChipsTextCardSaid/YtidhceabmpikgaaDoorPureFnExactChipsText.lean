/- The statement FnExactChipsText over numbers and lists alone, and what it is proved by.
Conditions: those of the statement. -/
import Derived.Test.YtidhceabmpikgaaDoorPx1
import Derived.Test.YtidhceabmpikgaaDoorPx2
import Derived.Test.YtidhceabmpikgaaDoorPx3
namespace Go.Proofs.YtidhceabmpikgaaDoor.Pure
open Go.RowKit Go.Proofs.YtidhceabmpikgaaDoor.P Go.Proofs.YtidhceabmpikgaaDoorW.PrintWords Go.Proofs.YtidhceabmpikgaaDoorW.PrintLast
set_option linter.unusedSimpArgs false
set_option linter.unusedVariables false

theorem wrap_id {x : Int} (h0 : -9223372036854775808 ≤ x) (h1 : x ≤ 9223372036854775807) : wrap64 x = x := by
 unfold wrap64;omega
theorem wrap_succ {i : Nat} (h : i < 1152921504606846976) : wrap64 ((i : Int) + 1) = ((i + 1 : Nat) : Int) := by
 rw [wrap_id (by omega) (by omega)];omega
theorem rd_lt {l : List Int} {i : Nat} (h : i < l.length) : rd l (i : Int) = l[i] := by
 simp [rd,List.getD_eq_getElem?_getD,List.getElem?_eq_getElem h]
theorem toIntS_l0 (l : List Int) (hl : l.length ≤ 1099511627776) (d : Nat) : ∀ (k : Nat) (out : List Int) (i : Nat),i + d = l.length → out.length = l.length → d < k →
  laws_toIntS.l0 k l out i = some (out.take i ++ l.drop i) := by
 induction d with
 | zero =>
  intro k out i hi ho hk
  obtain ⟨k,rfl⟩ : ∃ m,k = m + 1 := ⟨k - 1,by omega⟩
  simp only [laws_toIntS.l0]
  rw [if_neg (by omega),List.take_of_length_le (by omega),List.drop_of_length_le (by omega),List.append_nil]
 | succ d ih =>
  intro k out i hi ho hk
  obtain ⟨k,rfl⟩ : ∃ m,k = m + 1 := ⟨k - 1,by omega⟩
  simp only [laws_toIntS.l0]
  rw [if_pos (by omega),if_pos (by omega),if_pos (by omega),wrap_succ (by omega),ih k _ (i + 1) (by omega) (by simpa using ho) (by omega)]
  congr 1
  rw [Int.toNat_natCast,rd_lt (by omega),List.drop_eq_getElem_cons (show i < l.length by omega),List.take_succ_eq_append_getElem (by simp;omega)]
  simp [List.take_set_of_le,List.getElem_set]
theorem toIntS_at {l : List Int} (hl : l.length ≤ 1099511627776) {k : Nat} (hk : l.length < k) : laws_toIntS.f k l = some l := by
 unfold laws_toIntS.f
 rw [if_pos (by omega),if_pos (by omega)]
 have := toIntS_l0 l hl l.length k (List.replicate l.length 0) 0 (by omega) (by simp) hk
 simpa using this
theorem eqIntS_l0 (l : List Int) (hl : l.length ≤ 1099511627776) (d : Nat) : ∀ (k : Nat) (i : Nat),i + d = l.length → d < k → laws_eqIntS.l0 k l l i = some true := by
 induction d with
 | zero =>
  intro k i hi hk
  obtain ⟨k,rfl⟩ : ∃ m,k = m + 1 := ⟨k - 1,by omega⟩
  simp only [laws_eqIntS.l0]
  rw [if_neg (by omega)]
 | succ d ih =>
  intro k i hi hk
  obtain ⟨k,rfl⟩ : ∃ m,k = m + 1 := ⟨k - 1,by omega⟩
  simp only [laws_eqIntS.l0]
  rw [if_pos (by omega),if_pos (by omega),if_pos (by omega),if_pos trivial,wrap_succ (by omega)]
  exact ih k (i + 1) (by omega) (by omega)
theorem eqIntS_at {l : List Int} (hl : l.length ≤ 1099511627776) {k : Nat} (hk : l.length < k) : laws_eqIntS.f k l l = some true := by
 unfold laws_eqIntS.f
 rw [if_pos rfl]
 exact eqIntS_l0 l hl l.length k 0 (by omega) hk
/-- The number at a place,0 beyond the list. -/
def g (l : List Int) (i : Nat) : Int := l.getD i 0
theorem g_lt {l : List Int} {i : Nat} (h : i < l.length) : g l i = l[i] := by
 simp [g,List.getD_eq_getElem?_getD,List.getElem?_eq_getElem h]
theorem g_mem {l : List Int} {i : Nat} (h : i < l.length) : g l i ∈ l := by
 rw [g_lt h];exact List.getElem_mem h
theorem mem_g {l : List Int} {x : Int} (h : x ∈ l) : ∃ i,i < l.length ∧ g l i = x := by
 obtain ⟨i,hi,rfl⟩ := List.getElem_of_mem h
 exact ⟨i,hi,g_lt hi⟩
theorem rd_g (l : List Int) (i : Nat) : rd l (i : Int) = g l i := by simp [rd,g]
/-- Valid chips,as a Bool. -/
def good (l : List Int) : Bool := decide (1 ≤ l.length) && decide (l.length ≤ 20) && l.all (inB 0 60)
theorem within_eq (a b c : Int) : impl_within.f a b c = some (inB b c a) := by
 unfold impl_within.f inB
 by_cases h : a ≥ b <;> simp [h] <;> omega
theorem l1In_eq (a b c : Int) : spec_l1In.f a b c = some (inB b c a) := by
 unfold spec_l1In.f inB
 by_cases h : a ≥ b <;> simp [h] <;> omega
theorem impl_AreChips_eq (l : List Int) : impl_AreChips.f l = some (good l) := by
 unfold impl_AreChips.f impl_areIn.f
 rw [within_eq]
 simp only [Option.bind_some]
 by_cases h : inB 1 20 (l.length : Int) = true
 ·rw [if_pos h]
  simp only [inB,Bool.and_eq_true,decide_eq_true_eq] at h
  congr 1;unfold good
  rw [decide_eq_true (by omega : 1 ≤ l.length),decide_eq_true (by omega : l.length ≤ 20)];rfl
 ·rw [if_neg h]
  congr 1;unfold good
  simp only [inB,Bool.and_eq_true,decide_eq_true_eq] at h
  by_cases a : 1 ≤ l.length
  ·rw [decide_eq_false (by omega : ¬ l.length ≤ 20)];simp
  ·rw [decide_eq_false a];simp
theorem l1All_l0 (p q : Int) (l : List Int) (hl : l.length ≤ 1099511627776) (d : Nat) : ∀ (k : Nat) (i : Nat),i + d = l.length → d < k →
  spec_l1All.l0 k p q l (l.length : Int) (i : Int) = some ((l.drop i).all (inB p q)) := by
 induction d with
 | zero =>
  intro k i hi hk
  obtain ⟨k,rfl⟩ : ∃ m,k = m + 1 := ⟨k - 1,by omega⟩
  simp only [spec_l1All.l0]
  rw [if_neg (by omega),List.drop_of_length_le (by omega)];rfl
 | succ d ih =>
  intro k i hi hk
  obtain ⟨k,rfl⟩ : ∃ m,k = m + 1 := ⟨k - 1,by omega⟩
  simp only [spec_l1All.l0]
  rw [if_pos (by omega),if_pos (by omega),if_pos (by omega),l1In_eq,rd_lt (by omega),List.drop_eq_getElem_cons (show i < l.length by omega),List.all_cons]
  simp only [Option.bind_some]
  by_cases h : inB p q l[i] = true
  ·rw [if_pos h,h,wrap_succ (by omega),ih k (i + 1) (by omega) (by omega)];rfl
  ·rw [if_neg h,Bool.eq_false_iff.2 h];rfl
theorem l1All_at (p q : Int) {l : List Int} (hl : l.length ≤ 1099511627776) {k : Nat} (hk : l.length < k) : spec_l1All.f k l p q = some (l.all (inB p q)) := by
 unfold spec_l1All.f
 have := l1All_l0 p q l hl l.length k 0 (by omega) hk
 simpa using this
theorem chGood_at {l : List Int} (hl : l.length ≤ 1099511627776) {k : Nat} (hk : l.length < k) : spec_chGood.f k l = some (good l) := by
 unfold spec_chGood.f
 rw [l1In_eq]
 simp only [Option.bind_some]
 have e := impl_AreChips_eq l
 unfold impl_AreChips.f impl_areIn.f at e
 rw [within_eq] at e
 simp only [Option.bind_some] at e
 rw [← e,l1All_at _ _ hl hk]
 rfl
theorem good_len {l : List Int} (h : good l = true) : 1 ≤ l.length ∧ l.length ≤ 20 := by
 simp only [good,Bool.and_eq_true,decide_eq_true_eq] at h;exact h.1
theorem good_g {l : List Int} (h : good l = true) {i : Nat} (hi : i < l.length) : 0 ≤ g l i ∧ g l i ≤ 60 := by
 simp only [good,Bool.and_eq_true,List.all_eq_true] at h
 have := h.2 _ (g_mem hi)
 simp only [inB,Bool.and_eq_true,decide_eq_true_eq] at this;exact this
theorem take_snoc (l : List Int) (i : Nat) (h : i < l.length) : l.take (i + 1) = l.take i ++ [g l i] := by
 rw [List.take_succ_eq_append_getElem h,g_lt h]
/-- A string of these bytes. -/
def bs (l : List UInt8) : ByteArray := ⟨l.toArray⟩
theorem bs_size (l : List UInt8) : (bs l).size = l.length := by simp [bs,ByteArray.size]
theorem bs_append (a b : List UInt8) : bs a ++ bs b = bs (a ++ b) := by
 apply ByteArray.ext
 simp [bs,ByteArray.data_append]
theorem bs_nil : (⟨#[]⟩ : ByteArray) = bs [] := rfl
theorem bs_dot : (⟨#[46]⟩ : ByteArray) = bs [46] := rfl
/-- A number's decimal digits. -/
def dec (n : Int) : List UInt8 := Lib.decDigits n.toNat
theorem dec_small {n : Int} (h0 : 0 ≤ n) (h1 : n < 10) : dec n = [UInt8.ofNat (48 + n.toNat)] := by
 unfold dec;rw [Lib.decDigits,dif_pos (by omega)]
theorem dec_big {n : Int} (h0 : 10 ≤ n) : dec n = dec (n / 10) ++ [UInt8.ofNat (48 + n.toNat % 10)] := by
 unfold dec;rw [Lib.decDigits,dif_neg (by omega)]
 congr 2
 omega
theorem dec_len {n : Int} (h0 : 0 ≤ n) (h1 : n < 100) : 1 ≤ (dec n).length ∧ (dec n).length ≤ 2 := by
 by_cases h : n < 10
 ·rw [dec_small h0 h];simp
 ·rw [dec_big (by omega),dec_small (by omega) (by omega)];simp
theorem Itoa_dec {n : Int} (h0 : 0 ≤ n) (h1 : n < 100) : strconv_Itoa.f n = some (bs (dec n)) := by
 unfold strconv_Itoa.f
 rw [if_pos ⟨h0,h1⟩];rfl
theorem digit_at {d : Int} (h0 : 0 ≤ d) (h1 : d < 10) : strOfNums [(wrap64 (48 + d)) % 256] = bs [UInt8.ofNat (48 + d.toNat)] := by
 unfold strOfNums bs
 rw [wrap_id (by omega) (by omega),Int.emod_eq_of_lt (by omega) (by omega)]
 simp only [List.map_cons,List.map_nil]
 congr 4
 omega
theorem l1Num_dec {n : Int} (h0 : 0 ≤ n) (h1 : n < 100) {k : Nat} (hk : 2 ≤ k) : spec_l1Num.f k n = some (bs (dec n)) := by
 have hs : ∀ (m : Int) (j : Nat),1 ≤ j → 0 ≤ m → m < 10 → spec_l1Num.f j m = some (bs (dec m)) := fun m j hj a b => by
  obtain ⟨j,rfl⟩ : ∃ i,j = i + 1 := ⟨j - 1,by omega⟩
  simp only [spec_l1Num.f]
  rw [if_pos b,digit_at a b,dec_small a b]
 obtain ⟨k,rfl⟩ : ∃ m,k = m + 1 := ⟨k - 1,by omega⟩
 by_cases h : n < 10
 ·exact hs n (k + 1) (by omega) h0 h
 ·have e1 : Int.tdiv n 10 = n / 10 := Int.tdiv_eq_ediv_of_nonneg h0
  have e2 : Int.tmod n 10 = n % 10 := Int.tmod_eq_emod_of_nonneg h0
  simp only [spec_l1Num.f]
  rw [if_neg h,e1,e2,wrap_id (x := n / 10) (by omega) (by omega),hs (n / 10) k (by omega) (by omega) (by omega),Option.bind_some,Option.bind_some,digit_at (d := n % 10) (by omega) (by omega),bs_size,bs_size,if_pos (by have := dec_len (n := n / 10) (by omega) (by omega);simp only [List.length_cons,List.length_nil];omega),bs_append,dec_big (n := n) (by omega)]
  have e3 : (n % 10).toNat = n.toNat % 10 := by omega
  rw [e3]
/-- The text of numbers with dots between. -/
def txt (l : List Int) : List UInt8 := Lib.join (l.map dec) [46]
theorem txt_nil : txt [] = [] := rfl
theorem joinTail_snoc (sep : List UInt8) (r : List (List UInt8)) (x : List UInt8) : Lib.joinTail sep (r ++ [x]) = Lib.joinTail sep r ++ (sep ++ x) := by simp [Lib.joinTail]
theorem txt_one (x : Int) : txt [x] = dec x := by unfold txt;exact Lib.join_one _ _
theorem txt_snoc {l : List Int} (h : l ≠ []) (x : Int) : txt (l ++ [x]) = txt l ++ (46 :: dec x) := by
 cases l with
 | nil => exact absurd rfl h
 | cons y r =>
  unfold txt
  rw [List.map_append,show List.map dec (y :: r) = dec y :: r.map dec from rfl,List.cons_append,Lib.join_cons,Lib.join_cons,show List.map dec [x] = [dec x] from rfl,joinTail_snoc,List.append_assoc];rfl
theorem lens_dec : ∀ (l : List Int),(∀ x ∈ l,0 ≤ x ∧ x < 100) → Lib.lens (l.map dec) ≤ 2 * l.length
 | [],_ => by simp [Lib.lens]
 | x :: l,h => by
  have hx := dec_len (h x List.mem_cons_self).1 (h x List.mem_cons_self).2
  have hl := lens_dec l fun y hy => h y (List.mem_cons_of_mem _ hy)
  simp only [Lib.lens,List.map_cons,List.sum_cons,List.length_cons] at hl ⊢
  omega
theorem txt_len : ∀ (l : List Int),(∀ x ∈ l,0 ≤ x ∧ x < 100) → (txt l).length ≤ 3 * l.length
 | [],_ => by simp [txt_nil]
 | x :: l,h => by
  have hx := dec_len (h x List.mem_cons_self).1 (h x List.mem_cons_self).2
  have hl := lens_dec l fun y hy => h y (List.mem_cons_of_mem _ hy)
  unfold txt
  rw [List.map_cons,Lib.join_cons,List.length_append,Lib.joinTail_length,List.length_map]
  simp only [List.length_cons,List.length_nil]
  omega
theorem chText_l0 {l : List Int} (hg : good l = true) (d : Nat) : ∀ (k i : Nat),i + d = l.length → d + 3 ≤ k → spec_chText.l0 k (bs (txt (l.take i))) l (l.length : Int) (i : Int) = some (bs (txt l)) := by
 have hb := good_len hg
 induction d with
 | zero =>
  intro k i hi hk
  obtain ⟨m,rfl⟩ : ∃ m,k = m + 1 := ⟨k - 1,by omega⟩
  simp only [spec_chText.l0]
  rw [if_neg (by omega),List.take_of_length_le (by omega)]
 | succ d ih =>
  intro k i hi hk
  obtain ⟨m,rfl⟩ : ∃ m,k = m + 1 := ⟨k - 1,by omega⟩
  have hgi := good_g hg (i := i) (by omega)
  have hrec := ih m (i + 1) (by omega) (by omega)
  rw [take_snoc _ _ (by omega)] at hrec
  have hlen : (txt (l.take i)).length ≤ 60 := by
   have := txt_len (l.take i) (fun x hx => by
    obtain ⟨j,hj,rfl⟩ := mem_g (List.mem_of_mem_take hx)
    have := good_g hg hj;omega)
   rw [List.length_take] at this;omega
  have hd := dec_len hgi.1 (show g l i < 100 by omega)
  simp only [spec_chText.l0]
  rw [if_pos (by omega),if_pos (by omega),if_pos (by omega),rd_g,l1Num_dec hgi.1 (by omega) (by omega),wrap_succ (by omega)]
  by_cases h0 : i = 0
  ·subst h0
   rw [if_neg (by omega),Option.bind_some,if_pos (by rw [bs_size,bs_size];omega),bs_append]
   rw [List.take_zero,List.nil_append,txt_one] at hrec
   rw [List.take_zero,txt_nil,List.nil_append];exact hrec
  ·have hne : l.take i ≠ [] := fun e => by have e2 := congrArg List.length e;rw [List.length_take,List.length_nil] at e2;omega
   rw [if_pos (by omega),if_pos (by rw [bs_size];omega),Option.bind_some,bs_dot,bs_append,if_pos (by rw [bs_size,bs_size,List.length_append,show ([46] : List UInt8).length = 1 from rfl];omega),bs_append,List.append_assoc]
   rw [txt_snoc hne] at hrec
   exact hrec
theorem joined_l0 {l : List Int} (hg : good l = true) (d : Nat) : ∀ (k i : Nat),i + d = l.length → d < k → impl_joined.l0 k (bs [46]) ((l.take i).map fun x => bs (dec x)) l (l.length : Int) (i : Int) = some (bs (txt l)) := by
 have hb := good_len hg
 induction d with
 | zero =>
  intro k i hi hk
  obtain ⟨m,rfl⟩ : ∃ m,k = m + 1 := ⟨k - 1,by omega⟩
  have e : ((l.map fun x => bs (dec x)).map fun b => b.data.toList) = l.map dec := by rw [List.map_map];rfl
  simp only [impl_joined.l0]
  rw [if_neg (by omega),List.take_of_length_le (by omega)]
  unfold strings_Join.f
  rw [e]
  have hlen := txt_len l (fun x hx => by
    obtain ⟨j,hj,rfl⟩ := mem_g hx
    have := good_g hg hj;omega)
  unfold txt at hlen
  rw [if_pos ⟨by rw [List.length_map];omega,by show (Lib.join (l.map dec) [46]).length ≤ _;omega⟩];rfl
 | succ d ih =>
  intro k i hi hk
  obtain ⟨m,rfl⟩ : ∃ m,k = m + 1 := ⟨k - 1,by omega⟩
  have hgi := good_g hg (i := i) (by omega)
  have hrec := ih m (i + 1) (by omega) (by omega)
  rw [take_snoc _ _ (by omega),List.map_append] at hrec
  simp only [impl_joined.l0]
  rw [if_pos (by omega),if_pos (by omega),if_pos (by omega),rd_g,Itoa_dec hgi.1 (by omega),Option.bind_some,if_pos (by rw [List.length_map,List.length_take];omega),wrap_succ (by omega)]
  exact hrec
theorem ChipsText_both {l : List Int} (hL : l.length ≤ 1099511627776) : ∃ (K : Nat) (r : ByteArray × Bool),(∀ k,K ≤ k → spec_ChipsText.f k l = some r) ∧ (∀ k,K ≤ k → impl_ChipsText.f k l = some r) := by
 cases h : good l with
 | false =>
  refine ⟨l.length + 1,(⟨#[]⟩,false),fun k hk => ?_,fun k hk => ?_⟩
  ·unfold spec_ChipsText.f;rw [chGood_at hL (by omega),h];rfl
  ·unfold impl_ChipsText.f;rw [impl_AreChips_eq,h];rfl
 | true =>
  refine ⟨l.length + 4,(bs (txt l),true),fun k hk => ?_,fun k hk => ?_⟩
  ·unfold spec_ChipsText.f spec_chText.f
   rw [chGood_at hL (by omega),h,Option.bind_some,if_pos rfl]
   have := chText_l0 h l.length k 0 (by omega) (by omega)
   rw [List.take_zero,txt_nil] at this
   rw [bs_nil,show (0 : Int) = ((0 : Nat) : Int) from rfl,this];rfl
  ·unfold impl_ChipsText.f impl_joined.f
   rw [impl_AreChips_eq,h,Option.bind_some,if_pos rfl]
   have := joined_l0 h l.length k 0 (by omega) (by omega)
   rw [List.take_zero] at this
   rw [bs_dot,show (0 : Int) = ((0 : Nat) : Int) from rfl]
   show (impl_joined.l0 k (bs [46]) [] l (l.length : Int) ((0 : Nat) : Int)).bind _ = _
   rw [show ([] : List ByteArray) = ([] : List Int).map fun x => bs (dec x) from rfl,this];rfl
theorem FnExactChipsText : laws_FnExactChipsText.Pure := by
 intro l _ _ _
 unfold laws_FnExactChipsText.f
 by_cases hl : (l.length : Int) > 1048576
 ·exact ⟨0,by rw [if_pos hl]⟩
 ·have h0l : l.length ≤ 1099511627776 := by omega
  obtain ⟨K,r,hs,hi⟩ := ChipsText_both h0l
  have hTl : ∀ k,l.length < k → laws_toIntS.f k l = some l := fun k hk => toIntS_at h0l hk
  have hEl : ∀ k,l.length < k → laws_eqIntS.f k l l = some true := fun k hk => eqIntS_at h0l hk
  refine ⟨K + l.length + 8,?_⟩
  rw [if_neg hl]
  simp (disch := omega) only [eq_self,hTl,hEl,hs,hi,Option.bind_some,bne_self_eq_false,if_true,if_false,Bool.false_eq_true,Bool.true_eq_false,laws_FnExactChipsText.j0]
end Go.Proofs.YtidhceabmpikgaaDoor.Pure
