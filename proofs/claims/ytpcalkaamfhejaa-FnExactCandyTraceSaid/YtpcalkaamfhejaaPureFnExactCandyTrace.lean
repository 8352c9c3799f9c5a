/- The statement FnExactCandyTrace over numbers and lists alone, and what it is proved by.
Conditions: those of the statement. -/
import Derived.Test.YtpcalkaamfhejaaPx0
import Derived.Test.YtpcalkaamfhejaaPx1
import Derived.Test.YtpcalkaamfhejaaPx2
import Derived.Test.YtpcalkaamfhejaaPx3
import Derived.Test.YtpcalkaamfhejaaPx5
import Derived.Test.YtpcalkaamfhejaaPx7
import Derived.Test.YtpcalkaamfhejaaPx12
import Derived.Test.YtpcalkaamfhejaaPx19
namespace Go.Proofs.Ytpcalkaamfhejaa.Pure
open Go.RowKit Go.Proofs.Ytpcalkaamfhejaa.P Go.Proofs.YtpcalkaamfhejaaW.PrintWords Go.Proofs.YtpcalkaamfhejaaW.PrintLast
set_option linter.unusedSimpArgs false
set_option linter.unusedVariables false

theorem wrap_id {x : Int} (h0 : -9223372036854775808 ≤ x) (h1 : x ≤ 9223372036854775807) : wrap64 x = x := by
  unfold wrap64; omega
theorem wrap_succ {i : Nat} (h : i < 1152921504606846976) : wrap64 ((i : Int) + 1) = ((i + 1 : Nat) : Int) := by
  rw [wrap_id (by omega) (by omega)]; omega
theorem rd_lt {l : List Int} {i : Nat} (h : i < l.length) : rd l (i : Int) = l[i] := by
  simp [rd, List.getD_eq_getElem?_getD, List.getElem?_eq_getElem h]
theorem toIntS_l0 (l : List Int) (hl : l.length ≤ 1099511627776) (d : Nat) : ∀ (k : Nat) (out : List Int) (i : Nat), i + d = l.length → out.length = l.length → d < k →
    laws_toIntS.l0 k l out i = some (out.take i ++ l.drop i) := by
  induction d with
  | zero =>
    intro k out i hi ho hk
    obtain ⟨k, rfl⟩ : ∃ m, k = m + 1 := ⟨k - 1, by omega⟩
    simp only [laws_toIntS.l0]
    rw [if_neg (by omega), List.take_of_length_le (by omega), List.drop_of_length_le (by omega), List.append_nil]
  | succ d ih =>
    intro k out i hi ho hk
    obtain ⟨k, rfl⟩ : ∃ m, k = m + 1 := ⟨k - 1, by omega⟩
    simp only [laws_toIntS.l0]
    rw [if_pos (by omega), if_pos (by omega), if_pos (by omega), wrap_succ (by omega), ih k _ (i + 1) (by omega) (by simpa using ho) (by omega)]
    congr 1
    rw [Int.toNat_natCast, rd_lt (by omega), List.drop_eq_getElem_cons (show i < l.length by omega), List.take_succ_eq_append_getElem (by simp; omega)]
    simp [List.take_set_of_le, List.getElem_set]
theorem toIntS_at {l : List Int} (hl : l.length ≤ 1099511627776) {k : Nat} (hk : l.length < k) : laws_toIntS.f k l = some l := by
  unfold laws_toIntS.f
  rw [if_pos (by omega), if_pos (by omega)]
  have := toIntS_l0 l hl l.length k (List.replicate l.length 0) 0 (by omega) (by simp) hk
  simpa using this
theorem eqIntS_l0 (l : List Int) (hl : l.length ≤ 1099511627776) (d : Nat) : ∀ (k : Nat) (i : Nat), i + d = l.length → d < k → laws_eqIntS.l0 k l l i = some true := by
  induction d with
  | zero =>
    intro k i hi hk
    obtain ⟨k, rfl⟩ : ∃ m, k = m + 1 := ⟨k - 1, by omega⟩
    simp only [laws_eqIntS.l0]
    rw [if_neg (by omega)]
  | succ d ih =>
    intro k i hi hk
    obtain ⟨k, rfl⟩ : ∃ m, k = m + 1 := ⟨k - 1, by omega⟩
    simp only [laws_eqIntS.l0]
    rw [if_pos (by omega), if_pos (by omega), if_pos (by omega), if_pos trivial, wrap_succ (by omega)]
    exact ih k (i + 1) (by omega) (by omega)
theorem eqIntS_at {l : List Int} (hl : l.length ≤ 1099511627776) {k : Nat} (hk : l.length < k) : laws_eqIntS.f k l l = some true := by
  unfold laws_eqIntS.f
  rw [if_pos rfl]
  exact eqIntS_l0 l hl l.length k 0 (by omega) hk
/-- The numbers from m on. -/
def marks (m : Int) (n : Nat) : List Int := (List.range n).map fun (i : Nat) => m + (i : Int)
theorem marks_len (m : Int) (n : Nat) : (marks m n).length = n := by simp [marks]
theorem marks_get (m : Int) (n i : Nat) (h : i < (marks m n).length) : (marks m n)[i] = m + (i : Int) := by simp [marks]
theorem markIntS_l0 (m : Int) (n : Nat) (hm : 0 ≤ m) (hm2 : m ≤ 1099511627776) (hn : n ≤ 1099511627776) (d : Nat) : ∀ (k : Nat) (l : List Int) (i : Nat), i + d = n → l.length = n → d < k →
    laws_markIntS.l0 k l (m + (i : Int)) (i : Int) = some (m + n, l.take i ++ (marks m n).drop i) := by
  induction d with
  | zero =>
    intro k l i hi hl hk
    obtain ⟨k, rfl⟩ : ∃ m, k = m + 1 := ⟨k - 1, by omega⟩
    simp only [laws_markIntS.l0]
    rw [if_neg (by omega), List.take_of_length_le (by omega), List.drop_of_length_le (by rw [marks_len]; omega), List.append_nil]
    congr 3; omega
  | succ d ih =>
    intro k l i hi hl hk
    obtain ⟨k, rfl⟩ : ∃ m, k = m + 1 := ⟨k - 1, by omega⟩
    simp only [laws_markIntS.l0]
    rw [if_pos (by omega), if_pos (by omega), wrap_succ (by omega), wrap_id (by omega) (by omega)]
    rw [show m + (i : Int) + 1 = m + ((i + 1 : Nat) : Int) by omega, ih k _ (i + 1) (by omega) (by simpa using hl) (by omega)]
    congr 2
    rw [Int.toNat_natCast, List.drop_eq_getElem_cons (show i < (marks m n).length by rw [marks_len]; omega), marks_get, List.take_succ_eq_append_getElem (by simp; omega)]
    simp [List.take_set_of_le]
theorem markIntS_at {m : Int} {l : List Int} (hm : 0 ≤ m) (hm2 : m ≤ 1099511627776) (hl : l.length ≤ 1099511627776) {k : Nat} (hk : l.length < k) : laws_markIntS.f k l m = some (m + l.length, marks m l.length) := by
  unfold laws_markIntS.f
  have := markIntS_l0 m l.length hm hm2 hl l.length k l 0 (by omega) rfl hk
  simpa using this
theorem heldIntS_l0 (m : Int) (n : Nat) (hm : 0 ≤ m) (hm2 : m ≤ 1099511627776) (hn : n ≤ 1099511627776) (d : Nat) : ∀ (k : Nat) (i : Nat), i + d = n → d < k →
    laws_heldIntS.l0 k (marks m n) (m + (i : Int)) (i : Int) = some (m + n) := by
  induction d with
  | zero =>
    intro k i hi hk
    obtain ⟨k, rfl⟩ : ∃ m, k = m + 1 := ⟨k - 1, by omega⟩
    simp only [laws_heldIntS.l0]
    rw [marks_len, if_neg (by omega)]
    congr 2; omega
  | succ d ih =>
    intro k i hi hk
    obtain ⟨k, rfl⟩ : ∃ m, k = m + 1 := ⟨k - 1, by omega⟩
    simp only [laws_heldIntS.l0]
    rw [marks_len, if_pos (by omega), if_pos (by omega), rd_lt (by rw [marks_len]; omega), marks_get, if_pos rfl, wrap_succ (by omega), wrap_id (by omega) (by omega)]
    rw [show m + (i : Int) + 1 = m + ((i + 1 : Nat) : Int) by omega, ih k (i + 1) (by omega) (by omega)]
theorem heldIntS_at {m : Int} {n : Nat} (hm : 0 ≤ m) (hm2 : m ≤ 1099511627776) (hn : n ≤ 1099511627776) {k : Nat} (hk : n < k) : laws_heldIntS.f k (marks m n) m = some (m + n) := by
  unfold laws_heldIntS.f
  have := heldIntS_l0 m n hm hm2 hn n k 0 (by omega) hk
  simpa using this
/-- How many numbers lie in rows. -/
def totSS : List (List Int) → Nat
  | [] => 0
  | r :: rs => r.length + totSS rs
/-- Rows of the same lengths, with the numbers from m on. -/
def marksSS : Int → List (List Int) → List (List Int)
  | _, [] => []
  | m, r :: rs => marks m r.length :: marksSS (m + r.length) rs
theorem marksSS_len : ∀ (rs : List (List Int)) (m : Int), (marksSS m rs).length = rs.length
  | [], _ => rfl
  | r :: rs, m => by simp [marksSS, marksSS_len rs]
theorem rowAt (pre rest : List (List Int)) (r : List Int) : rd_L1 (pre ++ r :: rest) ((pre.length : Nat) : Int) = r := by
  simp [rd_L1, List.getD_eq_getElem?_getD]
theorem eqIntSS_l0 : ∀ (rest pre : List (List Int)) (k : Nat), (pre ++ rest).length ≤ 1099511627776 → totSS rest ≤ 1099511627776 → totSS rest + rest.length < k → laws_eqIntSS.l0 k (pre ++ rest) (pre ++ rest) (pre.length : Int) = some true
  | [], pre, k, _, _, hk => by
    obtain ⟨k, rfl⟩ : ∃ m, k = m + 1 := ⟨k - 1, by omega⟩
    simp only [laws_eqIntSS.l0]
    rw [if_neg (by simp)]
  | r :: rs, pre, k, hp, ht, hk => by
    obtain ⟨k, rfl⟩ : ∃ m, k = m + 1 := ⟨k - 1, by omega⟩
    simp only [totSS, List.length_cons, List.length_append] at hk ht hp
    have hlt : ((pre.length : Nat) : Int) < ((pre ++ r :: rs).length : Int) := by simp only [List.length_append, List.length_cons]; omega
    simp only [laws_eqIntSS.l0]
    rw [if_pos hlt, if_pos (by omega), if_pos hlt, rowAt, eqIntS_at (by omega) (by omega), Option.bind_some, if_pos rfl, wrap_succ (by omega)]
    have := eqIntSS_l0 rs (pre ++ [r]) k (by simp only [List.length_append, List.length_cons, List.length_nil]; omega) (by omega) (by omega)
    simpa using this
theorem eqIntSS_at {rs : List (List Int)} (hl : rs.length ≤ 1099511627776) (ht : totSS rs ≤ 1099511627776) {k : Nat} (hk : totSS rs + rs.length < k) : laws_eqIntSS.f k rs rs = some true := by
  unfold laws_eqIntSS.f
  rw [if_pos rfl]
  exact eqIntSS_l0 rs [] k hl ht hk
theorem markIntSS_l0 : ∀ (rest pre : List (List Int)) (m : Int) (k : Nat), 0 ≤ m → m + totSS rest ≤ 1099511627776 → (pre ++ rest).length ≤ 1099511627776 → totSS rest + rest.length < k → laws_markIntSS.l0 k (pre ++ rest) m (pre.length : Int) = some (m + totSS rest, pre ++ marksSS m rest)
  | [], pre, m, k, _, _, _, hk => by
    obtain ⟨k, rfl⟩ : ∃ m, k = m + 1 := ⟨k - 1, by omega⟩
    simp only [laws_markIntSS.l0]
    rw [if_neg (by simp)]
    simp [totSS, marksSS]
  | r :: rs, pre, m, k, h0, hm, hp, hk => by
    obtain ⟨k, rfl⟩ : ∃ m, k = m + 1 := ⟨k - 1, by omega⟩
    simp only [totSS, List.length_cons, List.length_append] at hk hm hp
    have hlt : ((pre.length : Nat) : Int) < ((pre ++ r :: rs).length : Int) := by simp only [List.length_append, List.length_cons]; omega
    have he : (pre ++ r :: rs).getD ((pre.length : Nat) : Int).toNat [] = r := rowAt pre rs r
    simp only [laws_markIntSS.l0]
    rw [if_pos hlt, if_pos (by omega), he, markIntS_at h0 (by omega) (by omega) (by omega), Option.bind_some, wrap_succ (by omega)]
    have := markIntSS_l0 rs (pre ++ [marks m r.length]) (m + r.length) k (by omega) (by omega) (by simp only [List.length_append, List.length_cons, List.length_nil]; omega) (by omega)
    simp only [List.length_append, List.length_cons, List.length_nil, List.append_assoc, List.singleton_append] at this
    rw [Int.toNat_natCast, List.set_append_right _ _ (Nat.le_refl _), Nat.sub_self, List.set_cons_zero]
    rw [show pre.length + 1 = pre.length + (0 + 1) from rfl, this]
    simp only [totSS, marksSS]
    congr 2
    omega
theorem markIntSS_at {m : Int} {rs : List (List Int)} (h0 : 0 ≤ m) (hm : m + totSS rs ≤ 1099511627776) (hl : rs.length ≤ 1099511627776) {k : Nat} (hk : totSS rs + rs.length < k) : laws_markIntSS.f k rs m = some (m + totSS rs, marksSS m rs) :=
  markIntSS_l0 rs [] m k h0 hm hl hk
theorem heldIntSS_l0 : ∀ (rest pre : List (List Int)) (m : Int) (k : Nat), 0 ≤ m → m + totSS rest ≤ 1099511627776 → (pre ++ rest).length ≤ 1099511627776 → totSS rest + rest.length < k → laws_heldIntSS.l0 k (pre ++ marksSS m rest) m (pre.length : Int) = some (m + totSS rest)
  | [], pre, m, k, _, _, _, hk => by
    obtain ⟨k, rfl⟩ : ∃ m, k = m + 1 := ⟨k - 1, by omega⟩
    rw [show marksSS m [] = [] from rfl]
    simp only [laws_heldIntSS.l0]
    rw [if_neg (by simp)]
    simp [totSS]
  | r :: rs, pre, m, k, h0, hm, hp, hk => by
    obtain ⟨k, rfl⟩ : ∃ m, k = m + 1 := ⟨k - 1, by omega⟩
    simp only [totSS, List.length_cons, List.length_append] at hk hm hp
    have hlt : ((pre.length : Nat) : Int) < ((pre ++ marks m r.length :: marksSS (m + r.length) rs).length : Int) := by simp only [List.length_append, List.length_cons]; omega
    rw [show marksSS m (r :: rs) = marks m r.length :: marksSS (m + r.length) rs from rfl]
    simp only [laws_heldIntSS.l0]
    rw [if_pos hlt, if_pos (by omega), rowAt, heldIntS_at h0 (by omega) (by omega) (by omega), Option.bind_some, if_neg (by omega), wrap_succ (by omega)]
    have := heldIntSS_l0 rs (pre ++ [marks m r.length]) (m + r.length) k (by omega) (by omega) (by simp only [List.length_append, List.length_cons, List.length_nil]; omega) (by omega)
    simp only [List.length_append, List.length_cons, List.length_nil, List.append_assoc, List.singleton_append] at this
    rw [show pre.length + 1 = pre.length + (0 + 1) from rfl, this]
    simp only [totSS]
    congr 1
    omega
theorem heldIntSS_at {m : Int} {rs : List (List Int)} (h0 : 0 ≤ m) (hm : m + totSS rs ≤ 1099511627776) (hl : rs.length ≤ 1099511627776) {k : Nat} (hk : totSS rs + rs.length < k) : laws_heldIntSS.f k (marksSS m rs) m = some (m + totSS rs) :=
  heldIntSS_l0 rs [] m k h0 hm hl hk
/-- The number at a place, 0 beyond the list. -/
def g (l : List Int) (i : Nat) : Int := l.getD i 0
theorem g_lt {l : List Int} {i : Nat} (h : i < l.length) : g l i = l[i] := by
  simp [g, List.getD_eq_getElem?_getD, List.getElem?_eq_getElem h]
theorem g_mem {l : List Int} {i : Nat} (h : i < l.length) : g l i ∈ l := by
  rw [g_lt h]; exact List.getElem_mem h
theorem ext_g {a b : List Int} (h : a.length = b.length) (hg : ∀ i, i < a.length → g a i = g b i) : a = b := by
  apply List.ext_getElem h
  intro i h1 h2
  have := hg i h1
  rwa [g_lt h1, g_lt h2] at this
theorem g_range (n : Nat) (f : Nat → Int) (j : Nat) (hj : j < n) : g ((List.range n).map f) j = f j := by
  rw [g_lt (by simpa using hj)]; simp
theorem g_map (l : List Int) (f : Int → Int) (j : Nat) (hj : j < l.length) : g (l.map f) j = f (g l j) := by
  rw [g_lt (by simpa using hj), g_lt hj]; simp
def sumTo : Nat → (Nat → Int) → Int
  | 0, _ => 0
  | n + 1, f => sumTo n f + f n
theorem sumTo_congr {n : Nat} {f h : Nat → Int} (e : ∀ i, i < n → f i = h i) : sumTo n f = sumTo n h := by
  induction n with
  | zero => rfl
  | succ n ih => simp only [sumTo]; rw [ih (fun i hi => e i (by omega)), e n (by omega)]
theorem sumTo_add (n : Nat) (f h : Nat → Int) : sumTo n (fun i => f i + h i) = sumTo n f + sumTo n h := by
  induction n with
  | zero => rfl
  | succ n ih => simp only [sumTo]; rw [ih]; omega
theorem sumTo_nonneg {n : Nat} {f : Nat → Int} (h : ∀ i, i < n → 0 ≤ f i) : 0 ≤ sumTo n f := by
  induction n with
  | zero => exact Int.le_refl _
  | succ n ih => simp only [sumTo]; have := ih (fun i hi => h i (by omega)); have := h n (by omega); omega
theorem sumTo_ge {n : Nat} {f : Nat → Int} (h : ∀ i, i < n → 0 ≤ f i) (i : Nat) (hi : i < n) : f i ≤ sumTo n f := by
  induction n with
  | zero => omega
  | succ n ih =>
    simp only [sumTo]
    have h0 := sumTo_nonneg (n := n) (fun i hi => h i (by omega))
    by_cases e : i = n
    · subst e; omega
    · have := ih (fun i hi => h i (by omega)) (by omega); have := h n (by omega); omega
theorem sumTo_le {n : Nat} {f : Nat → Int} {M : Int} (h : ∀ i, i < n → f i ≤ M) : sumTo n f ≤ n * M := by
  induction n with
  | zero => simp [sumTo]
  | succ n ih =>
    simp only [sumTo]
    have := ih (fun i hi => h i (by omega)); have := h n (by omega)
    have e : ((n + 1 : Nat) : Int) * M = (n : Int) * M + M := by rw [Int.natCast_add, Int.add_mul]; simp
    rw [e]; omega
theorem rd_g (l : List Int) (i : Nat) : rd l (i : Int) = g l i := by simp [rd, g]
theorem within_eq (a b c : Int) : impl_within.f a b c = some (inB b c a) := by
  unfold impl_within.f inB
  by_cases h : a ≥ b <;> simp [h] <;> omega
theorem l1In_eq (a b c : Int) : spec_l1In.f a b c = some (inB b c a) := by
  unfold spec_l1In.f inB
  by_cases h : a ≥ b <;> simp [h] <;> omega
theorem l1All_l0 (p q : Int) (l : List Int) (hl : l.length ≤ 1099511627776) (d : Nat) : ∀ (k : Nat) (i : Nat), i + d = l.length → d < k →
    spec_l1All.l0 k p q l (l.length : Int) (i : Int) = some ((l.drop i).all (inB p q)) := by
  induction d with
  | zero =>
    intro k i hi hk
    obtain ⟨k, rfl⟩ : ∃ m, k = m + 1 := ⟨k - 1, by omega⟩
    simp only [spec_l1All.l0]
    rw [if_neg (by omega), List.drop_of_length_le (by omega)]; rfl
  | succ d ih =>
    intro k i hi hk
    obtain ⟨k, rfl⟩ : ∃ m, k = m + 1 := ⟨k - 1, by omega⟩
    simp only [spec_l1All.l0]
    rw [if_pos (by omega), if_pos (by omega), if_pos (by omega), l1In_eq, rd_lt (by omega), List.drop_eq_getElem_cons (show i < l.length by omega), List.all_cons]
    simp only [Option.bind_some]
    by_cases h : inB p q l[i] = true
    · rw [if_pos h, h, wrap_succ (by omega), ih k (i + 1) (by omega) (by omega)]; rfl
    · rw [if_neg h, Bool.eq_false_iff.2 h]; rfl
theorem l1All_at (p q : Int) {l : List Int} (hl : l.length ≤ 1099511627776) {k : Nat} (hk : l.length < k) : spec_l1All.f k l p q = some (l.all (inB p q)) := by
  unfold spec_l1All.f
  have := l1All_l0 p q l hl l.length k 0 (by omega) hk
  simpa using this
theorem take_snoc (l : List Int) (i : Nat) (h : i < l.length) : l.take (i + 1) = l.take i ++ [g l i] := by
  rw [List.take_succ_eq_append_getElem h, g_lt h]
theorem l1Own_eq {l : List Int} (h : l.length ≤ 1099511627776) : spec_l1Own.f l = some l := by
  unfold spec_l1Own.f
  simp only [Option.bind_some, List.length_nil, List.nil_append]
  rw [if_pos (by omega)]
theorem Clone_eq {l : List Int} (h : l.length ≤ 1099511627776) : slices_Clone_int_int.f l = some l := by
  unfold slices_Clone_int_int.f
  rw [if_pos (by omega)]
def tot (l : List Int) (i : Nat) : Int := sumTo i (g l)
/-- Chips at rest that come again. -/
def comes (l : List Int) : Bool := l.all (inB 0 1) && decide ((l.length : Int) - 1 ≤ tot l l.length)
/-- A number made even. -/
def evn (x : Int) : Int := x + x % 2
theorem evn_b {x : Int} (h : 0 ≤ x ∧ x ≤ 200) : 0 ≤ evn x ∧ evn x ≤ 200 := by unfold evn; omega
theorem evn_even (x : Int) : evn x % 2 = 0 := by unfold evn; omega
theorem evn_of {x : Int} (h : x % 2 = 0) : evn x = x := by unfold evn; omega
def evens (l : List Int) : List Int := l.map evn
theorem len_evens (l : List Int) : (evens l).length = l.length := by simp [evens]
theorem g_evens {l : List Int} {j : Nat} (h : j < l.length) : g (evens l) j = evn (g l j) := g_map l evn j h
/-- Halves passed on: place i has the half of its own and the half of place p i's. -/
def halve (e : List Int) (p : Nat → Nat) : List Int := (List.range e.length).map fun i => g e i / 2 + g e (p i) / 2
theorem len_halve (e : List Int) (p : Nat → Nat) : (halve e p).length = e.length := by simp [halve]
theorem g_halve {e : List Int} (p : Nat → Nat) {j : Nat} (h : j < e.length) : g (halve e p) j = g e j / 2 + g e (p j) / 2 := by
  unfold halve; rw [g_range _ _ _ h]
/-- The place before place i, in a circle of n. -/
def befo (n i : Nat) : Nat := if i = 0 then n - 1 else i - 1
theorem befo_lt {n i : Nat} (h : i < n) : befo n i < n := by unfold befo; split <;> omega
/-- A step. -/
def cstep (l : List Int) : List Int := halve (evens l) (befo l.length)
theorem len_cstep (l : List Int) : (cstep l).length = l.length := by unfold cstep; rw [len_halve, len_evens]
theorem g_cstep {l : List Int} {j : Nat} (h : j < l.length) : g (cstep l) j = evn (g l j) / 2 + evn (g l (befo l.length j)) / 2 := by
  unfold cstep
  rw [g_halve _ (by rw [len_evens]; exact h), g_evens h, g_evens (befo_lt h)]
/-- Valid candies. -/
structure Nice (l : List Int) : Prop where
  lo : 2 ≤ l.length
  hi : l.length ≤ 12
  b : ∀ j, j < l.length → 0 ≤ g l j ∧ g l j ≤ 200
theorem Nice.evens {l : List Int} (h : Nice l) : Nice (evens l) :=
  ⟨by rw [len_evens]; exact h.lo, by rw [len_evens]; exact h.hi, fun j hj => by rw [len_evens] at hj; rw [g_evens hj]; exact evn_b (h.b j hj)⟩
theorem Nice.halve {e : List Int} (h : Nice e) {p : Nat → Nat} (hp : ∀ j, j < e.length → p j < e.length) : Nice (halve e p) :=
  ⟨by rw [len_halve]; exact h.lo, by rw [len_halve]; exact h.hi, fun j hj => by
    rw [len_halve] at hj; rw [g_halve p hj]
    have h1 := h.b j hj; have h2 := h.b _ (hp j hj); omega⟩
theorem Nice.step {l : List Int} (h : Nice l) : Nice (cstep l) :=
  h.evens.halve fun j hj => by rw [len_evens] at hj ⊢; exact befo_lt hj
theorem sumTo_shift (n : Nat) (f : Nat → Int) : sumTo (n + 1) f = f 0 + sumTo n (fun i => f (i + 1)) := by
  induction n with
  | zero => simp [sumTo]
  | succ n ih =>
    have e : sumTo (n + 1 + 1) f = sumTo (n + 1) f + f (n + 1) := rfl
    rw [e, ih]; simp only [sumTo]; omega
theorem sumTo_befo {n : Nat} (h : 1 ≤ n) (f : Nat → Int) : sumTo n (fun i => f (befo n i)) = sumTo n f := by
  obtain ⟨m, rfl⟩ : ∃ m, n = m + 1 := ⟨n - 1, by omega⟩
  rw [sumTo_shift]
  have e : sumTo m (fun i => f (befo (m + 1) (i + 1))) = sumTo m f := sumTo_congr fun i hi => by unfold befo; rw [if_neg (by omega)]; rfl
  rw [e]
  have e2 : befo (m + 1) 0 = m := by unfold befo; simp
  rw [e2]; simp only [sumTo]; omega
theorem sumTo_pos {n : Nat} {f : Nat → Int} (h : ∀ i, i < n → 0 ≤ f i) (hz : sumTo n f = 0) : ∀ i, i < n → f i = 0 := fun i hi => by
  have h1 := sumTo_ge h i hi; have h2 := h i hi; omega
theorem sumTo_two (n : Nat) (f : Nat → Int) : sumTo n (fun i => 2 * f i) = 2 * sumTo n f := by
  induction n with
  | zero => rfl
  | succ n ih => simp only [sumTo]; rw [ih]; omega
/-- In a circle where each has as much as the one before, all have the same. -/
theorem befo_const {n : Nat} {f : Nat → Int} (h : ∀ i, i < n → f i = f (befo n i)) : ∀ i, i < n → f i = f 0 := by
  intro i
  induction i with
  | zero => intro _; rfl
  | succ i ih => intro hi; rw [h (i + 1) hi]; unfold befo; rw [if_neg (by omega)]; exact ih (by omega)
def half (l : List Int) (i : Nat) : Int := evn (g l i) / 2
theorem half_two (l : List Int) (i : Nat) : evn (g l i) = 2 * half l i := by unfold half; have := evn_even (g l i); omega
theorem g_cstep' {l : List Int} {j : Nat} (h : j < l.length) : g (cstep l) j = half l j + half l (befo l.length j) := g_cstep h
def sumE (l : List Int) : Int := sumTo l.length (fun i => evn (g l i))
def sqE (l : List Int) : Int := sumTo l.length (fun i => evn (g l i) * evn (g l i))
/-- All candies stay when halves are passed. -/
theorem sum_cstep {l : List Int} (h : 1 ≤ l.length) : sumTo l.length (g (cstep l)) = sumE l := by
  rw [sumTo_congr (h := fun j => half l j + half l (befo l.length j)) (fun j hj => g_cstep' hj), sumTo_add, sumTo_befo h (half l)]
  unfold sumE
  rw [sumTo_congr (f := fun i => evn (g l i)) (h := fun i => 2 * half l i) (fun i _ => half_two l i), sumTo_two]; omega
theorem sumE_odd (l : List Int) : sumE l = sumTo l.length (g l) + sumTo l.length (fun i => g l i % 2) := by
  unfold sumE evn; rw [← sumTo_add]
theorem odd_nonneg (l : List Int) : ∀ i, i < l.length → 0 ≤ g l i % 2 := fun i _ => by omega
theorem sumE_cstep {l : List Int} (h : 1 ≤ l.length) : sumE (cstep l) = sumE l + sumTo l.length (fun i => g (cstep l) i % 2) := by
  rw [sumE_odd (cstep l), len_cstep, sum_cstep h]
theorem sq_cstep {l : List Int} (h : 1 ≤ l.length) (he : ∀ i, i < l.length → g (cstep l) i % 2 = 0) :
    sqE (cstep l) + sumTo l.length (fun i => (half l i - half l (befo l.length i)) * (half l i - half l (befo l.length i))) = sqE l := by
  unfold sqE
  rw [len_cstep, ← sumTo_add]
  rw [sumTo_congr (h := fun i => 2 * (half l i * half l i) + 2 * (half l (befo l.length i) * half l (befo l.length i))) (fun i hi => ?_), sumTo_add, sumTo_two, sumTo_two, sumTo_befo h (fun i => half l i * half l i)]
  · rw [sumTo_congr (f := fun i => evn (g l i) * evn (g l i)) (h := fun i => 2 * (2 * (half l i * half l i))) (fun i _ => ?_), sumTo_two, sumTo_two]
    · omega
    · rw [half_two l i, Int.mul_assoc, Int.mul_left_comm (half l i)]
  · rw [evn_of (he i hi), g_cstep' hi]
    generalize half l i = a
    generalize half l (befo l.length i) = b
    simp only [Int.add_mul, Int.mul_add, Int.sub_mul, Int.mul_sub]
    rw [Int.mul_comm b a]; omega
/-- At rest: a step changes nothing: all have the same even number. -/
theorem rest_iff {l : List Int} (h : Nice l) : cstep l = l ↔ (∀ j, j < l.length → g l j = g l 0) ∧ g l 0 % 2 = 0 := by
  have h1 := h.lo
  constructor
  · intro e
    have s := sum_cstep (l := l) (by omega)
    rw [e, sumE_odd l] at s
    have z := sumTo_pos (odd_nonneg l) (by omega)
    have c : ∀ j, j < l.length → half l j = half l (befo l.length j) := fun j hj => by
      have e1 := g_cstep' hj
      rw [e] at e1
      have e2 := half_two l j
      rw [evn_of (z j hj)] at e2
      omega
    refine ⟨fun j hj => ?_, z 0 (by omega)⟩
    have e1 := half_two l j; have e2 := half_two l 0
    rw [evn_of (z j hj)] at e1; rw [evn_of (z 0 (by omega))] at e2
    have e3 := befo_const c j hj
    omega
  · intro ⟨a, b⟩
    apply ext_g (len_cstep l)
    intro j hj
    rw [len_cstep] at hj
    rw [g_cstep hj, a j hj, a _ (befo_lt hj), evn_of b]; omega
/-- What falls with each step that changes anything. -/
def mu (l : List Int) : Int := 2 * ((2400 - sumE l) * 480001 + sqE l) + (if cstep l = l then 0 else 1)
theorem sumE_b {l : List Int} (h : Nice l) : 0 ≤ sumE l ∧ sumE l ≤ 2400 := by
  have h2 := h.hi
  refine ⟨sumTo_nonneg fun i hi => (evn_b (h.b i hi)).1, ?_⟩
  have := sumTo_le (n := l.length) (f := fun i => evn (g l i)) (M := 200) fun i hi => (evn_b (h.b i hi)).2
  unfold sumE; omega
theorem sqE_b {l : List Int} (h : Nice l) : 0 ≤ sqE l ∧ sqE l ≤ 480000 := by
  have h2 := h.hi
  refine ⟨sumTo_nonneg fun i hi => Int.mul_nonneg (evn_b (h.b i hi)).1 (evn_b (h.b i hi)).1, ?_⟩
  have := sumTo_le (n := l.length) (f := fun i => evn (g l i) * evn (g l i)) (M := 40000) fun i hi => by
    have := evn_b (h.b i hi)
    have := Int.mul_le_mul this.2 this.2 this.1 (by omega)
    omega
  unfold sqE; omega
theorem mu_b {l : List Int} (h : Nice l) : 0 ≤ mu l ∧ mu l ≤ 2400000000 := by
  have h1 := sumE_b h; have h2 := sqE_b h
  unfold mu; split <;> omega
theorem mu_step {l : List Int} (h : Nice l) (hn : cstep l ≠ l) : mu (cstep l) < mu l := by
  have h1 := h.lo
  have a1 := sumE_b h; have a2 := sqE_b h; have b1 := sumE_b h.step; have b2 := sqE_b h.step
  have e1 := sumE_cstep (l := l) (by omega)
  have n1 := sumTo_nonneg (n := l.length) (f := fun i => g (cstep l) i % 2) (fun i _ => by show 0 ≤ g (cstep l) i % 2; omega)
  have hm : mu l = 2 * ((2400 - sumE l) * 480001 + sqE l) + 1 := by unfold mu; rw [if_neg hn]
  have hm' : mu (cstep l) ≤ 2 * ((2400 - sumE (cstep l)) * 480001 + sqE (cstep l)) + 1 := by unfold mu; split <;> omega
  by_cases c : sumTo l.length (fun i => g (cstep l) i % 2) = 0
  · have z := sumTo_pos (n := l.length) (f := fun i => g (cstep l) i % 2) (fun i _ => by show 0 ≤ g (cstep l) i % 2; omega) c
    have e2 := sq_cstep (l := l) (by omega) z
    have n2 : ∀ i, i < l.length → 0 ≤ (half l i - half l (befo l.length i)) * (half l i - half l (befo l.length i)) := fun i _ => by
      rcases Int.le_total 0 (half l i - half l (befo l.length i)) with p | p
      · exact Int.mul_nonneg p p
      · exact Int.mul_nonneg_of_nonpos_of_nonpos p p
    have n3 := sumTo_nonneg n2
    by_cases c2 : sumTo l.length (fun i => (half l i - half l (befo l.length i)) * (half l i - half l (befo l.length i))) = 0
    · have z2 := sumTo_pos n2 c2
      have hc : ∀ j, j < l.length → half l j = half l (befo l.length j) := fun j hj => by
        have := z2 j hj
        rcases Int.mul_eq_zero.1 this with q | q <;> omega
      have hc2 := befo_const hc
      have hr : cstep (cstep l) = cstep l := (rest_iff h.step).2 ⟨fun j hj => by
        rw [len_cstep] at hj
        have q1 := hc2 j hj; have q2 := hc j hj; have q3 := hc 0 (by omega)
        rw [g_cstep' hj, g_cstep' (show 0 < l.length by omega)]; omega, z 0 (by omega)⟩
      have hm2 : mu (cstep l) = 2 * ((2400 - sumE (cstep l)) * 480001 + sqE (cstep l)) := by unfold mu; rw [if_pos hr]; omega
      omega
    · omega
  · omega
theorem tmod2 {x : Int} (h : 0 ≤ x) : Int.tmod x 2 = x % 2 := Int.tmod_eq_emod_of_nonneg h
theorem tdiv2 {x : Int} (h : 0 ≤ x) : Int.tdiv x 2 = x / 2 := Int.tdiv_eq_ediv_of_nonneg h
theorem madeEven_l0 {l : List Int} (h : Nice l) (d : Nat) : ∀ (k i : Nat), i + d = l.length → d < k → impl_madeEven.l0 k ((evens l).take i) l (l.length : Int) (i : Int) = some (evens l) := by
  induction d with
  | zero =>
    intro k i hi hk
    obtain ⟨k, rfl⟩ : ∃ m, k = m + 1 := ⟨k - 1, by omega⟩
    have := h.hi
    simp only [impl_madeEven.l0]
    rw [if_neg (by omega), List.take_of_length_le (by rw [len_evens]; omega)]
  | succ d ih =>
    intro k i hi hk
    obtain ⟨k, rfl⟩ : ∃ m, k = m + 1 := ⟨k - 1, by omega⟩
    have h1 := h.hi; have h2 := h.b i (by omega)
    simp only [impl_madeEven.l0]
    rw [if_pos (by omega), if_pos (by omega), if_pos (by omega), if_pos (by rw [List.length_take, len_evens]; omega), rd_g, tmod2 h2.1, wrap_id (by omega) (by omega), wrap_succ (by omega)]
    have := ih k (i + 1) (by omega) (by omega)
    rw [take_snoc _ _ (by rw [len_evens]; omega), g_evens (by omega)] at this
    exact this
theorem madeEven_at {l : List Int} (h : Nice l) {k : Nat} (hk : l.length < k) : impl_madeEven.f k l = some (evens l) := by
  unfold impl_madeEven.f
  exact madeEven_l0 h l.length k 0 (by omega) hk
theorem cyEven_l0 {l : List Int} (h : Nice l) (d : Nat) : ∀ (k i : Nat), i + d = l.length → d < k → spec_cyEven.l0 k ((evens l).take i) l (l.length : Int) (i : Int) = some (evens l) := by
  induction d with
  | zero =>
    intro k i hi hk
    obtain ⟨k, rfl⟩ : ∃ m, k = m + 1 := ⟨k - 1, by omega⟩
    have := h.hi
    simp only [spec_cyEven.l0]
    rw [if_neg (by omega), List.take_of_length_le (by rw [len_evens]; omega)]
  | succ d ih =>
    intro k i hi hk
    obtain ⟨k, rfl⟩ : ∃ m, k = m + 1 := ⟨k - 1, by omega⟩
    have h1 := h.hi; have h2 := h.b i (by omega)
    simp only [spec_cyEven.l0]
    rw [if_pos (by omega), if_pos (by omega), if_pos (by omega), if_pos (by rw [List.length_take, len_evens]; omega), rd_g, tmod2 h2.1, wrap_id (by omega) (by omega), wrap_succ (by omega)]
    have := ih k (i + 1) (by omega) (by omega)
    rw [take_snoc _ _ (by rw [len_evens]; omega), g_evens (by omega)] at this
    exact this
theorem cyEven_at {l : List Int} (h : Nice l) {k : Nat} (hk : l.length < k) : spec_cyEven.f k l = some (evens l) := by
  unfold spec_cyEven.f
  exact cyEven_l0 h l.length k 0 (by omega) hk
theorem passed_l0 {e : List Int} (h : Nice e) (by_ : Int) {p : Nat → Nat} (hp : ∀ j, j < e.length → p j < e.length ∧ Int.tmod (wrap64 ((wrap64 ((j : Int) - by_)) + (e.length : Int))) (e.length : Int) = (p j : Int)) (d : Nat) :
    ∀ (k i : Nat), i + d = e.length → d < k → impl_passed.l0 k e by_ ((halve e p).take i) e (e.length : Int) (i : Int) = some (halve e p) := by
  induction d with
  | zero =>
    intro k i hi hk
    obtain ⟨k, rfl⟩ : ∃ m, k = m + 1 := ⟨k - 1, by omega⟩
    have := h.hi
    simp only [impl_passed.l0]
    rw [if_neg (by omega), List.take_of_length_le (by rw [len_halve]; omega)]
  | succ d ih =>
    intro k i hi hk
    obtain ⟨k, rfl⟩ : ∃ m, k = m + 1 := ⟨k - 1, by omega⟩
    have h1 := h.hi; have h2 := h.b i (by omega); obtain ⟨h3, h4⟩ := hp i (by omega); have h5 := h.b _ h3
    simp only [impl_passed.l0]
    rw [h4, if_pos (by omega), if_pos (by omega), if_pos (by omega), if_neg (by omega), if_pos (by omega), if_pos (by omega), if_pos (by rw [List.length_take, len_halve]; omega), rd_g, rd_g, tdiv2 h2.1, tdiv2 h5.1, wrap_id (x := g e i / 2) (by omega) (by omega), wrap_id (x := g e (p i) / 2) (by omega) (by omega), wrap_id (by omega) (by omega), wrap_succ (by omega)]
    have := ih k (i + 1) (by omega) (by omega)
    rw [take_snoc _ _ (by rw [len_halve]; omega), g_halve p (by omega)] at this
    exact this
theorem befo_mod {n i : Nat} (h : i < n) (hn : n ≤ 12) : Int.tmod (wrap64 ((wrap64 ((i : Int) - 1)) + (n : Int))) (n : Int) = (befo n i : Int) := by
  rw [wrap_id (x := (i : Int) - 1) (by omega) (by omega), wrap_id (by omega) (by omega), Int.tmod_eq_emod_of_nonneg (by omega)]
  unfold befo
  split
  · rw [Int.emod_eq_of_lt (by omega) (by omega)]; omega
  · rw [Int.add_emod_right, Int.emod_eq_of_lt (by omega) (by omega)]; omega
theorem befo_mod' {n i : Nat} (h : i < n) (hn : n ≤ 12) : Int.tmod (wrap64 ((wrap64 ((i : Int) + (n : Int))) - 1)) (n : Int) = (befo n i : Int) := by
  have e := befo_mod h hn
  rw [wrap_id (x := (i : Int) - 1) (by omega) (by omega), wrap_id (by omega) (by omega)] at e
  rw [wrap_id (x := (i : Int) + n) (by omega) (by omega), wrap_id (by omega) (by omega), show (i : Int) + n - 1 = i - 1 + n by omega, e]
theorem candyStep_at {l : List Int} (h : Nice l) {k : Nat} (hk : l.length < k) : impl_candyStep.f k l = some (cstep l) := by
  unfold impl_candyStep.f
  rw [madeEven_at h hk, Option.bind_some]
  have e : impl_passed.f k (evens l) 1 = some (cstep l) := by
    unfold impl_passed.f cstep
    have := passed_l0 h.evens 1 (p := befo l.length) (fun j hj => by rw [len_evens] at hj ⊢; exact ⟨befo_lt hj, befo_mod hj h.hi⟩) l.length k 0 (by rw [len_evens]; omega) hk
    simpa using this
  rw [e]; rfl
theorem cyPass_l0 {e : List Int} (h : Nice e) {n : Nat} (hn : e.length = n) (d : Nat) :
    ∀ (k i : Nat), i + d = e.length → d < k → spec_cyPass.l0 k e ((halve e (befo n)).take i) e (e.length : Int) (i : Int) = some (halve e (befo n)) := by
  induction d with
  | zero =>
    intro k i hi hk
    obtain ⟨k, rfl⟩ : ∃ m, k = m + 1 := ⟨k - 1, by omega⟩
    have := h.hi
    simp only [spec_cyPass.l0]
    rw [if_neg (by omega), List.take_of_length_le (by rw [len_halve]; omega)]
  | succ d ih =>
    intro k i hi hk
    obtain ⟨k, rfl⟩ : ∃ m, k = m + 1 := ⟨k - 1, by omega⟩
    have h1 := h.hi; have h2 := h.b i (by omega); have h3 := befo_lt (show i < n by omega); have h4 := befo_mod' (show i < n by omega) (by omega); have h5 := h.b _ (by rw [hn]; exact h3)
    rw [← hn] at h4 h3 h5
    simp only [spec_cyPass.l0]
    rw [h4, if_pos (by omega), if_pos (by omega), if_pos (by omega), if_neg (by omega), if_pos (by omega), if_pos (by omega), if_pos (by rw [List.length_take, len_halve]; omega), rd_g, rd_g, tdiv2 h2.1, tdiv2 h5.1, wrap_id (x := g e i / 2) (by omega) (by omega), wrap_id (x := g e (befo e.length i) / 2) (by omega) (by omega), wrap_id (by omega) (by omega), wrap_succ (by omega)]
    have := ih k (i + 1) (by omega) (by omega)
    rw [take_snoc _ _ (by rw [len_halve]; omega), g_halve _ (by omega), ← hn] at this
    rw [← hn]
    exact this
theorem cyStep_at {l : List Int} (h : Nice l) {k : Nat} (hk : l.length < k) : spec_cyStep.f k l = some (cstep l) := by
  unfold spec_cyStep.f
  rw [cyEven_at h hk, Option.bind_some]
  have e : spec_cyPass.f k (evens l) = some (cstep l) := by
    unfold spec_cyPass.f cstep
    have := cyPass_l0 h.evens (len_evens l) l.length k 0 (by rw [len_evens]; omega) hk
    simpa using this
  rw [e]; rfl
theorem l1Same_l0 {a b : List Int} (hab : a.length = b.length) (hL : a.length ≤ 1099511627776) (d : Nat) : ∀ (k i : Nat), i + d = a.length → d < k → (∀ j, j < i → g a j = g b j) → spec_l1Same.l0 k a b (a.length : Int) (i : Int) = some (decide (a = b)) := by
  induction d with
  | zero =>
    intro k i hi hk hj
    obtain ⟨k, rfl⟩ : ∃ m, k = m + 1 := ⟨k - 1, by omega⟩
    simp only [spec_l1Same.l0]
    rw [if_neg (by omega), decide_eq_true (ext_g hab fun j h => hj j (by omega))]
  | succ d ih =>
    intro k i hi hk hj
    obtain ⟨k, rfl⟩ : ∃ m, k = m + 1 := ⟨k - 1, by omega⟩
    simp only [spec_l1Same.l0]
    rw [if_pos (by omega), if_pos (by omega), if_pos (by omega), if_pos (by omega), rd_g, rd_g, wrap_succ (by omega)]
    by_cases e : g a i = g b i
    · rw [if_pos e]
      exact ih k (i + 1) (by omega) (by omega) fun j h => by
        by_cases q : j = i
        · rw [q]; exact e
        · exact hj j (by omega)
    · rw [if_neg e, decide_eq_false (fun h => e (by rw [h]))]
theorem l1Same_at {a b : List Int} (hab : a.length = b.length) (hL : a.length ≤ 1099511627776) {k : Nat} (hk : a.length < k) : spec_l1Same.f k a b = some (decide (a = b)) := by
  unfold spec_l1Same.f
  rw [if_pos (by omega)]
  exact l1Same_l0 hab hL a.length k 0 (by omega) hk (fun j h => absurd h (by omega))
theorem cyRest_at {l : List Int} (h : Nice l) {k : Nat} (hk : l.length < k) : spec_cyRest.f k l = some (decide (cstep l = l)) := by
  have := h.hi
  unfold spec_cyRest.f
  rw [cyStep_at h hk, Option.bind_some, l1Same_at (len_cstep l) (by rw [len_cstep]; omega) (by rw [len_cstep]; exact hk)]; rfl
/-- The greatest of the numbers up to place i. -/
def top (l : List Int) : Nat → Int
  | 0 => g l 0
  | i + 1 => mx (top l i) (g l (i + 1))
/-- The least of the numbers up to place i. -/
def low (l : List Int) : Nat → Int
  | 0 => g l 0
  | i + 1 => mn (low l i) (g l (i + 1))
theorem top_ge (l : List Int) (i : Nat) : ∀ j, j ≤ i → g l j ≤ top l i := by
  induction i with
  | zero => intro j h; rw [show j = 0 by omega]; exact Int.le_refl _
  | succ i ih =>
    intro j h
    simp only [top, mx]
    by_cases e : j = i + 1
    · rw [e]; split <;> omega
    · have := ih j (by omega); split <;> omega
theorem low_le (l : List Int) (i : Nat) : ∀ j, j ≤ i → low l i ≤ g l j := by
  induction i with
  | zero => intro j h; rw [show j = 0 by omega]; exact Int.le_refl _
  | succ i ih =>
    intro j h
    simp only [low, mn]
    by_cases e : j = i + 1
    · rw [e]; split <;> omega
    · have := ih j (by omega); split <;> omega
theorem top_in (l : List Int) (i : Nat) : ∃ j, j ≤ i ∧ top l i = g l j := by
  induction i with
  | zero => exact ⟨0, by omega, rfl⟩
  | succ i ih =>
    obtain ⟨j, h, e⟩ := ih
    simp only [top, mx]
    split
    · exact ⟨i + 1, by omega, rfl⟩
    · exact ⟨j, by omega, e⟩
theorem low_in (l : List Int) (i : Nat) : ∃ j, j ≤ i ∧ low l i = g l j := by
  induction i with
  | zero => exact ⟨0, by omega, rfl⟩
  | succ i ih =>
    obtain ⟨j, h, e⟩ := ih
    simp only [low, mn]
    split
    · exact ⟨i + 1, by omega, rfl⟩
    · exact ⟨j, by omega, e⟩
def spread (l : List Int) : Int := top l (l.length - 1) - low l (l.length - 1)
theorem spread_b {l : List Int} (h : Nice l) : 0 ≤ spread l ∧ spread l ≤ 200 := by
  have := h.lo
  obtain ⟨i, hi, e⟩ := top_in l (l.length - 1)
  obtain ⟨j, hj, e2⟩ := low_in l (l.length - 1)
  have a := h.b i (by omega); have b := h.b j (by omega); have c := low_le l (l.length - 1) i hi
  unfold spread; omega
theorem spread_zero {l : List Int} (h : Nice l) : spread l = 0 ↔ ∀ j, j < l.length → g l j = g l 0 := by
  have := h.lo
  unfold spread
  constructor
  · intro e j hj
    have a := top_ge l (l.length - 1) j (by omega); have b := low_le l (l.length - 1) j (by omega)
    have c := top_ge l (l.length - 1) 0 (by omega); have d := low_le l (l.length - 1) 0 (by omega)
    omega
  · intro e
    obtain ⟨i, hi, e1⟩ := top_in l (l.length - 1)
    obtain ⟨j, hj, e2⟩ := low_in l (l.length - 1)
    have a := e i (by omega); have b := e j (by omega); omega
theorem Max_l0 {l : List Int} (hL : l.length ≤ 1099511627776) (d : Nat) : ∀ (k i : Nat), i + 1 + d = l.length → d < k → slices_Max_int_int.l0 k l (top l i) ((i + 1 : Nat) : Int) = some (top l (l.length - 1)) := by
  induction d with
  | zero =>
    intro k i hi hk
    obtain ⟨k, rfl⟩ : ∃ m, k = m + 1 := ⟨k - 1, by omega⟩
    simp only [slices_Max_int_int.l0]
    rw [if_neg (by omega), show i = l.length - 1 by omega]
  | succ d ih =>
    intro k i hi hk
    obtain ⟨k, rfl⟩ : ∃ m, k = m + 1 := ⟨k - 1, by omega⟩
    simp only [slices_Max_int_int.l0]
    rw [if_pos (by omega), if_pos (by omega), rd_g, wrap_succ (by omega)]
    exact ih k (i + 1) (by omega) (by omega)
theorem Max_at {l : List Int} (h1 : 1 ≤ l.length) (hL : l.length ≤ 1099511627776) {k : Nat} (hk : l.length < k) : slices_Max_int_int.f k l = some (top l (l.length - 1)) := by
  unfold slices_Max_int_int.f
  rw [if_neg (by omega), if_pos (by omega)]
  exact Max_l0 hL (l.length - 1) k 0 (by omega) (by omega)
theorem Min_l0 {l : List Int} (hL : l.length ≤ 1099511627776) (d : Nat) : ∀ (k i : Nat), i + 1 + d = l.length → d < k → slices_Min_int_int.l0 k l (low l i) ((i + 1 : Nat) : Int) = some (low l (l.length - 1)) := by
  induction d with
  | zero =>
    intro k i hi hk
    obtain ⟨k, rfl⟩ : ∃ m, k = m + 1 := ⟨k - 1, by omega⟩
    simp only [slices_Min_int_int.l0]
    rw [if_neg (by omega), show i = l.length - 1 by omega]
  | succ d ih =>
    intro k i hi hk
    obtain ⟨k, rfl⟩ : ∃ m, k = m + 1 := ⟨k - 1, by omega⟩
    simp only [slices_Min_int_int.l0]
    rw [if_pos (by omega), if_pos (by omega), rd_g, wrap_succ (by omega)]
    exact ih k (i + 1) (by omega) (by omega)
theorem Min_at {l : List Int} (h1 : 1 ≤ l.length) (hL : l.length ≤ 1099511627776) {k : Nat} (hk : l.length < k) : slices_Min_int_int.f k l = some (low l (l.length - 1)) := by
  unfold slices_Min_int_int.f
  rw [if_neg (by omega), if_pos (by omega)]
  exact Min_l0 hL (l.length - 1) k 0 (by omega) (by omega)
theorem spread_at {l : List Int} (h : Nice l) {k : Nat} (hk : l.length < k) : impl_spread.f k l = some (spread l) := by
  have h1 := h.lo; have h2 := h.hi; have h3 := spread_b h
  unfold impl_spread.f
  unfold spread at h3 ⊢
  rw [Max_at (by omega) (by omega) hk, Min_at (by omega) (by omega) hk, Option.bind_some, Option.bind_some, wrap_id (by omega) (by omega)]
theorem isLevel_at {l : List Int} (h : Nice l) {k : Nat} (hk : l.length < k) : impl_isLevel.f k l = some (spread l == 0) := by
  unfold impl_isLevel.f
  rw [spread_at h hk]; rfl
theorem isResting_at {l : List Int} (h : Nice l) {k : Nat} (hk : l.length < k) : impl_isResting.f k l = some (decide (cstep l = l)) := by
  have h1 := h.lo
  have h2 := h.b 0 (by omega)
  unfold impl_isResting.f
  rw [isLevel_at h hk, Option.bind_some]
  have e := rest_iff h
  by_cases c : spread l = 0
  · rw [if_pos (by rw [c]; rfl), if_pos (by omega)]
    have c2 := (spread_zero h).1 c
    have hr : rd l 0 = g l 0 := rd_g l 0
    rw [hr, tmod2 h2.1]
    congr 1
    rw [Bool.eq_iff_iff, beq_iff_eq, decide_eq_true_eq, e]
    exact ⟨fun x => ⟨c2, x⟩, fun x => x.2⟩
  · rw [if_neg (by rw [beq_iff_eq]; exact c), decide_eq_false]
    intro x
    exact c ((spread_zero h).2 (e.1 x).1)
/-- Valid candies, as a Bool. -/
def cgood (l : List Int) : Bool := decide (2 ≤ l.length) && decide (l.length ≤ 12) && l.all (inB 0 200)
theorem cgood_nice {l : List Int} (h : cgood l = true) : Nice l := by
  simp only [cgood, Bool.and_eq_true, decide_eq_true_eq, List.all_eq_true] at h
  refine ⟨h.1.1, h.1.2, fun j hj => ?_⟩
  have := h.2 _ (g_mem hj)
  simp only [inB, Bool.and_eq_true, decide_eq_true_eq] at this; exact this
theorem impl_AreCandies_eq (l : List Int) : impl_AreCandies.f l = some (cgood l) := by
  unfold impl_AreCandies.f impl_areIn.f
  rw [within_eq]
  simp only [Option.bind_some]
  by_cases h : inB 2 12 (l.length : Int) = true
  · rw [if_pos h]
    simp only [inB, Bool.and_eq_true, decide_eq_true_eq] at h
    congr 1; unfold cgood
    rw [decide_eq_true (by omega : 2 ≤ l.length), decide_eq_true (by omega : l.length ≤ 12)]; rfl
  · rw [if_neg h]
    congr 1; unfold cgood
    simp only [inB, Bool.and_eq_true, decide_eq_true_eq] at h
    by_cases a : 2 ≤ l.length
    · rw [decide_eq_false (by omega : ¬ l.length ≤ 12)]; simp
    · rw [decide_eq_false a]; simp
theorem cyGood_at {l : List Int} (hl : l.length ≤ 1099511627776) {k : Nat} (hk : l.length < k) : spec_cyGood.f k l = some (cgood l) := by
  unfold spec_cyGood.f
  rw [l1In_eq]
  simp only [Option.bind_some]
  have e := impl_AreCandies_eq l
  unfold impl_AreCandies.f impl_areIn.f at e
  rw [within_eq] at e
  simp only [Option.bind_some] at e
  rw [← e, l1All_at _ _ hl hk]
  rfl
/-- Steps enough for every list to come to rest. -/
def big : Nat := 2400000001
theorem mu_big {l : List Int} (h : Nice l) : mu l < big := by have := mu_b h; unfold big; omega
/-- What comes behind a list, up to the rest. -/
def ctl : Nat → List Int → List (List Int)
  | 0, _ => []
  | n + 1, l => if cstep l = l then [] else cstep l :: ctl n (cstep l)
theorem ctl_rest {n : Nat} {l : List Int} (c : cstep l = l) : ctl (n + 1) l = [] := by simp only [ctl]; rw [if_pos c]
theorem ctl_go {n : Nat} {l : List Int} (c : ¬ cstep l = l) : ctl (n + 1) l = cstep l :: ctl n (cstep l) := by simp only [ctl]; rw [if_neg c]
theorem ctl_nice (n : Nat) : ∀ l, Nice l → ∀ x ∈ ctl n l, Nice x := by
  induction n with
  | zero => intro l _ x hx; cases hx
  | succ n ih =>
    intro l h x hx
    simp only [ctl] at hx
    by_cases c : cstep l = l
    · rw [if_pos c] at hx; cases hx
    · rw [if_neg c] at hx
      rcases List.mem_cons.1 hx with rfl | hx
      · exact h.step
      · exact ih _ h.step x hx
theorem ctl_len (n : Nat) : ∀ l, (ctl n l).length ≤ n := by
  induction n with
  | zero => intro l; exact Nat.le_refl _
  | succ n ih =>
    intro l
    simp only [ctl]
    split
    · exact Nat.zero_le _
    · have := ih (cstep l); simp only [List.length_cons]; omega
theorem cyTrace_l0 (n : Nat) : ∀ (l : List Int) (xs : List (List Int)), Nice l → mu l < n → xs.length + n ≤ 1099511627776 → ∃ K, ∀ k, K ≤ k → spec_cyTrace.l0 k l xs = some (xs ++ ctl n l) := by
  induction n with
  | zero => intro l xs h hm; have := mu_b h; omega
  | succ n ih =>
    intro l xs h hm hx
    have hi := h.hi
    by_cases c : cstep l = l
    · refine ⟨l.length + 2, fun k hk => ?_⟩
      obtain ⟨k, rfl⟩ : ∃ m, k = m + 1 := ⟨k - 1, by omega⟩
      simp only [spec_cyTrace.l0]
      rw [cyRest_at h (by omega), decide_eq_true c, Option.bind_some, if_pos rfl, ctl_rest c, List.append_nil]
    · have hms := mu_step h c
      obtain ⟨K, hK⟩ := ih (cstep l) (xs ++ [cstep l]) h.step (by omega) (by simp only [List.length_append, List.length_cons, List.length_nil]; omega)
      refine ⟨K + l.length + 2, fun k hk => ?_⟩
      obtain ⟨k, rfl⟩ : ∃ m, k = m + 1 := ⟨k - 1, by omega⟩
      simp only [spec_cyTrace.l0]
      rw [cyRest_at h (by omega), decide_eq_false c, Option.bind_some, if_neg (by simp), cyStep_at h (by omega), Option.bind_some, l1Own_eq (by rw [len_cstep]; omega), Option.bind_some, if_pos (by omega), hK k (by omega), ctl_go c]
      simp
theorem candyTrace_l0 (n : Nat) : ∀ (l : List Int) (xs : List (List Int)), Nice l → mu l < n → xs.length ≤ 201 → ∃ K, ∀ k, K ≤ k → impl_CandyTrace.l0 k l xs = some (if xs.length + (ctl n l).length ≤ 201 then (xs ++ ctl n l, true) else ([], false)) := by
  induction n with
  | zero => intro l xs h hm; have := mu_b h; omega
  | succ n ih =>
    intro l xs h hm hx
    have hi := h.hi
    by_cases c : cstep l = l
    · refine ⟨l.length + 2, fun k hk => ?_⟩
      obtain ⟨k, rfl⟩ : ∃ m, k = m + 1 := ⟨k - 1, by omega⟩
      simp only [impl_CandyTrace.l0]
      rw [isResting_at h (by omega), decide_eq_true c, Option.bind_some, if_pos rfl, ctl_rest c, List.append_nil, if_pos (by simpa using hx)]
    · have hms := mu_step h c
      by_cases q : xs.length > 200
      · refine ⟨l.length + 2, fun k hk => ?_⟩
        obtain ⟨k, rfl⟩ : ∃ m, k = m + 1 := ⟨k - 1, by omega⟩
        simp only [impl_CandyTrace.l0]
        rw [isResting_at h (by omega), decide_eq_false c, Option.bind_some, if_neg (by simp), if_pos q, ctl_go c, if_neg (by simp only [List.length_cons]; omega)]
      · obtain ⟨K, hK⟩ := ih (cstep l) (xs ++ [cstep l]) h.step (by omega) (by simp only [List.length_append, List.length_cons, List.length_nil]; omega)
        refine ⟨K + l.length + 2, fun k hk => ?_⟩
        obtain ⟨k, rfl⟩ : ∃ m, k = m + 1 := ⟨k - 1, by omega⟩
        simp only [impl_CandyTrace.l0]
        rw [isResting_at h (by omega), decide_eq_false c, Option.bind_some, if_neg (by simp), if_neg q, candyStep_at h (by omega), Option.bind_some, hK k (by omega), ctl_go c]
        congr 1
        simp only [List.length_append, List.length_cons, List.length_nil, List.append_assoc, List.singleton_append]
        by_cases z : xs.length + ((ctl n (cstep l)).length + 1) ≤ 201
        · rw [if_pos z, if_pos (by omega)]
        · rw [if_neg z, if_neg (by omega)]
/-- Both tell the same trace. -/
theorem CandyTrace_both {l : List Int} (hL : l.length ≤ 1099511627776) : ∃ (K : Nat) (r : List (List Int) × Bool), (∀ x ∈ r.1, Nice x) ∧ r.1.length ≤ 201 ∧ (∀ k, K ≤ k → spec_CandyTrace.f k l = some r) ∧ (∀ k, K ≤ k → impl_CandyTrace.f k l = some r) := by
  cases h : cgood l with
  | false =>
    refine ⟨l.length + 2, ([], false), (fun x hx => by cases hx), by simp, fun k hk => ?_, fun k hk => ?_⟩
    · unfold spec_CandyTrace.f; rw [cyGood_at hL (by omega), h]; rfl
    · unfold impl_CandyTrace.f; rw [impl_AreCandies_eq, h]; rfl
  | true =>
    have hn := cgood_nice h
    have hi := hn.hi
    obtain ⟨K, hK⟩ := cyTrace_l0 big l [l] hn (mu_big hn) (by simp [big])
    obtain ⟨K', hK'⟩ := candyTrace_l0 big l [l] hn (mu_big hn) (by simp)
    have hnice : ∀ x ∈ [l] ++ ctl big l, Nice x := fun x hx => by
      rcases List.mem_append.1 hx with hx | hx
      · rw [List.mem_singleton.1 hx]; exact hn
      · exact ctl_nice big l hn x hx
    have hlen := ctl_len big l
    have e1 : ∀ k, K ≤ k → spec_cyTrace.f k l = some ([l] ++ ctl big l) := fun k hk => by
      unfold spec_cyTrace.f; rw [l1Own_eq hL, Option.bind_some, hK k hk]
    have e2 : ∀ k, K' ≤ k → impl_CandyTrace.f k l = some (if [l].length + (ctl big l).length ≤ 201 then ([l] ++ ctl big l, true) else ([], false)) := fun k hk => by
      unfold impl_CandyTrace.f; rw [impl_AreCandies_eq, h, Option.bind_some, if_pos rfl, Clone_eq hL, Option.bind_some, hK' k hk]
    by_cases z : [l].length + (ctl big l).length ≤ 201
    · refine ⟨K + K' + l.length + 2, ([l] ++ ctl big l, true), hnice, by simp only [List.length_append]; exact z, fun k hk => ?_, fun k hk => ?_⟩
      · unfold spec_CandyTrace.f; rw [cyGood_at hL (by omega), h, Option.bind_some, if_pos rfl, e1 k (by omega), Option.bind_some, if_neg (by simp only [List.length_append]; omega), Option.bind_some]
      · rw [e2 k (by omega), if_pos z]
    · refine ⟨K + K' + l.length + 2, ([], false), (fun x hx => by cases hx), by simp, fun k hk => ?_, fun k hk => ?_⟩
      · unfold spec_CandyTrace.f; rw [cyGood_at hL (by omega), h, Option.bind_some, if_pos rfl, e1 k (by omega), Option.bind_some, if_pos (by simp only [List.length_append]; omega)]
      · rw [e2 k (by omega), if_neg z]
theorem totSS_le {m : Nat} : ∀ {rs : List (List Int)}, (∀ x ∈ rs, x.length ≤ m) → totSS rs ≤ rs.length * m
  | [], _ => Nat.zero_le _
  | r :: rs, h => by
    have h1 := h r (List.mem_cons_self)
    have h2 := totSS_le (rs := rs) (m := m) (fun x hx => h x (List.mem_cons_of_mem _ hx))
    simp only [totSS, List.length_cons, Nat.succ_mul]
    omega
theorem FnExactCandyTrace : laws_FnExactCandyTrace.Pure := by
  intro l hm _ _ hb
  have hL : l.length ≤ 1099511627776 := by omega
  obtain ⟨K, r, hn, hr, hs, hi⟩ := CandyTrace_both hL
  have ht : totSS r.1 ≤ r.1.length * 12 := totSS_le (fun x hx => (hn x hx).hi)
  refine ⟨K + l.length + totSS r.1 + r.1.length + 8, r.1, r.2, 1 + (l.length : Int), 1 + (totSS r.1 : Int), marks 1 l.length, marksSS 1 r.1, ?_⟩
  exact { tto := toIntS_at hL (by omega), sp := hs _ (by omega), im := hi _ (by omega), ess := eqIntSS_at (by omega) (by omega) (by omega), es := eqIntS_at hL (by omega), mk1 := markIntS_at (by omega) (by omega) hL (by omega), n1p := by omega, mkk := markIntSS_at (by omega) (by omega) (by omega) (by omega), np := by omega, ln := marksSS_len _ _, hd := heldIntSS_at (by omega) (by omega) (by omega) (by omega) }
/-- The numbers in the other order. -/
def cmir (l : List Int) : List Int := (List.range l.length).map fun i => g l (l.length - 1 - i)
theorem len_cmir (l : List Int) : (cmir l).length = l.length := by simp [cmir]
theorem g_cmir {l : List Int} {j : Nat} (h : j < l.length) : g (cmir l) j = g l (l.length - 1 - j) := by unfold cmir; rw [g_range _ _ _ h]
theorem Nice.mir {l : List Int} (h : Nice l) : Nice (cmir l) :=
  ⟨by rw [len_cmir]; exact h.lo, by rw [len_cmir]; exact h.hi, fun j hj => by rw [len_cmir] at hj; rw [g_cmir hj]; exact h.b _ (by omega)⟩
end Go.Proofs.Ytpcalkaamfhejaa.Pure
