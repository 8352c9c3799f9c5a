/- The statement FnExactAddChip over numbers and lists alone, and what it is proved by.
Conditions: those of the statement. -/
import Derived.Test.YtffliklmahedoaaPx1
import Derived.Test.YtffliklmahedoaaPx2
import Derived.Test.YtffliklmahedoaaPx3
import Derived.Test.YtffliklmahedoaaPx4
import Derived.Test.YtffliklmahedoaaPx5
import Derived.Test.YtffliklmahedoaaPx6
import Derived.Test.YtffliklmahedoaaPx7
import Derived.Test.YtffliklmahedoaaPx8
import Derived.Test.YtffliklmahedoaaPx9
import Derived.Test.YtffliklmahedoaaPx10
import Derived.Test.YtffliklmahedoaaPx11
import Derived.Test.YtffliklmahedoaaPx12
import Derived.Test.YtffliklmahedoaaPx15
import Derived.Test.YtffliklmahedoaaPx26
namespace Go.Proofs.Ytffliklmahedoaa.Pure
open Go.RowKit Go.Proofs.Ytffliklmahedoaa.P Go.Proofs.YtffliklmahedoaaW.PrintWords Go.Proofs.YtffliklmahedoaaW.PrintLast
set_option linter.unusedSimpArgs false
set_option linter.unusedVariables false

theorem wrap_id {x : Int} (h0 : -9223372036854775808 ≤ x) (h1 : x ≤ 9223372036854775807) : wrap64 x = x := by
  unfold wrap64; omega
theorem wrap_succ {i : Nat} (h : i < 1152921504606846976) : wrap64 ((i : Int) + 1) = ((i + 1 : Nat) : Int) := by
  rw [wrap_id (by omega) (by omega)]; omega
theorem rd_lt {l : List Int} {i : Nat} (h : i < l.length) : rd l (i : Int) = l[i] := by
  simp [rd, List.getD_eq_getElem?_getD, List.getElem?_eq_getElem h]
theorem toIntS_l0 (l : List Int) (hl : l.length ≤ 1099511627776) (d : Nat) : ∀ (k : Nat) (out : List Int) (i : Nat), i + d = l.length → out.length = l.length → d < k →
    laws_toIntS.l0 k l out i = some (out.take i ++ l.drop i) := by
  induction d with
  | zero =>
    intro k out i hi ho hk
    obtain ⟨k, rfl⟩ : ∃ m, k = m + 1 := ⟨k - 1, by omega⟩
    simp only [laws_toIntS.l0]
    rw [if_neg (by omega), List.take_of_length_le (by omega), List.drop_of_length_le (by omega), List.append_nil]
  | succ d ih =>
    intro k out i hi ho hk
    obtain ⟨k, rfl⟩ : ∃ m, k = m + 1 := ⟨k - 1, by omega⟩
    simp only [laws_toIntS.l0]
    rw [if_pos (by omega), if_pos (by omega), if_pos (by omega), wrap_succ (by omega), ih k _ (i + 1) (by omega) (by simpa using ho) (by omega)]
    congr 1
    rw [Int.toNat_natCast, rd_lt (by omega), List.drop_eq_getElem_cons (show i < l.length by omega), List.take_succ_eq_append_getElem (by simp; omega)]
    simp [List.take_set_of_le, List.getElem_set]
theorem toIntS_at {l : List Int} (hl : l.length ≤ 1099511627776) {k : Nat} (hk : l.length < k) : laws_toIntS.f k l = some l := by
  unfold laws_toIntS.f
  rw [if_pos (by omega), if_pos (by omega)]
  have := toIntS_l0 l hl l.length k (List.replicate l.length 0) 0 (by omega) (by simp) hk
  simpa using this
theorem eqIntS_l0 (l : List Int) (hl : l.length ≤ 1099511627776) (d : Nat) : ∀ (k : Nat) (i : Nat), i + d = l.length → d < k → laws_eqIntS.l0 k l l i = some true := by
  induction d with
  | zero =>
    intro k i hi hk
    obtain ⟨k, rfl⟩ : ∃ m, k = m + 1 := ⟨k - 1, by omega⟩
    simp only [laws_eqIntS.l0]
    rw [if_neg (by omega)]
  | succ d ih =>
    intro k i hi hk
    obtain ⟨k, rfl⟩ : ∃ m, k = m + 1 := ⟨k - 1, by omega⟩
    simp only [laws_eqIntS.l0]
    rw [if_pos (by omega), if_pos (by omega), if_pos (by omega), if_pos trivial, wrap_succ (by omega)]
    exact ih k (i + 1) (by omega) (by omega)
theorem eqIntS_at {l : List Int} (hl : l.length ≤ 1099511627776) {k : Nat} (hk : l.length < k) : laws_eqIntS.f k l l = some true := by
  unfold laws_eqIntS.f
  rw [if_pos rfl]
  exact eqIntS_l0 l hl l.length k 0 (by omega) hk
/-- The numbers from m on. -/
def marks (m : Int) (n : Nat) : List Int := (List.range n).map fun (i : Nat) => m + (i : Int)
theorem marks_len (m : Int) (n : Nat) : (marks m n).length = n := by simp [marks]
theorem marks_get (m : Int) (n i : Nat) (h : i < (marks m n).length) : (marks m n)[i] = m + (i : Int) := by simp [marks]
theorem markIntS_l0 (m : Int) (n : Nat) (hm : 0 ≤ m) (hm2 : m ≤ 1099511627776) (hn : n ≤ 1099511627776) (d : Nat) : ∀ (k : Nat) (l : List Int) (i : Nat), i + d = n → l.length = n → d < k →
    laws_markIntS.l0 k l (m + (i : Int)) (i : Int) = some (m + n, l.take i ++ (marks m n).drop i) := by
  induction d with
  | zero =>
    intro k l i hi hl hk
    obtain ⟨k, rfl⟩ : ∃ m, k = m + 1 := ⟨k - 1, by omega⟩
    simp only [laws_markIntS.l0]
    rw [if_neg (by omega), List.take_of_length_le (by omega), List.drop_of_length_le (by rw [marks_len]; omega), List.append_nil]
    congr 3; omega
  | succ d ih =>
    intro k l i hi hl hk
    obtain ⟨k, rfl⟩ : ∃ m, k = m + 1 := ⟨k - 1, by omega⟩
    simp only [laws_markIntS.l0]
    rw [if_pos (by omega), if_pos (by omega), wrap_succ (by omega), wrap_id (by omega) (by omega)]
    rw [show m + (i : Int) + 1 = m + ((i + 1 : Nat) : Int) by omega, ih k _ (i + 1) (by omega) (by simpa using hl) (by omega)]
    congr 2
    rw [Int.toNat_natCast, List.drop_eq_getElem_cons (show i < (marks m n).length by rw [marks_len]; omega), marks_get, List.take_succ_eq_append_getElem (by simp; omega)]
    simp [List.take_set_of_le]
theorem markIntS_at {m : Int} {l : List Int} (hm : 0 ≤ m) (hm2 : m ≤ 1099511627776) (hl : l.length ≤ 1099511627776) {k : Nat} (hk : l.length < k) : laws_markIntS.f k l m = some (m + l.length, marks m l.length) := by
  unfold laws_markIntS.f
  have := markIntS_l0 m l.length hm hm2 hl l.length k l 0 (by omega) rfl hk
  simpa using this
theorem heldIntS_l0 (m : Int) (n : Nat) (hm : 0 ≤ m) (hm2 : m ≤ 1099511627776) (hn : n ≤ 1099511627776) (d : Nat) : ∀ (k : Nat) (i : Nat), i + d = n → d < k →
    laws_heldIntS.l0 k (marks m n) (m + (i : Int)) (i : Int) = some (m + n) := by
  induction d with
  | zero =>
    intro k i hi hk
    obtain ⟨k, rfl⟩ : ∃ m, k = m + 1 := ⟨k - 1, by omega⟩
    simp only [laws_heldIntS.l0]
    rw [marks_len, if_neg (by omega)]
    congr 2; omega
  | succ d ih =>
    intro k i hi hk
    obtain ⟨k, rfl⟩ : ∃ m, k = m + 1 := ⟨k - 1, by omega⟩
    simp only [laws_heldIntS.l0]
    rw [marks_len, if_pos (by omega), if_pos (by omega), rd_lt (by rw [marks_len]; omega), marks_get, if_pos rfl, wrap_succ (by omega), wrap_id (by omega) (by omega)]
    rw [show m + (i : Int) + 1 = m + ((i + 1 : Nat) : Int) by omega, ih k (i + 1) (by omega) (by omega)]
theorem heldIntS_at {m : Int} {n : Nat} (hm : 0 ≤ m) (hm2 : m ≤ 1099511627776) (hn : n ≤ 1099511627776) {k : Nat} (hk : n < k) : laws_heldIntS.f k (marks m n) m = some (m + n) := by
  unfold laws_heldIntS.f
  have := heldIntS_l0 m n hm hm2 hn n k 0 (by omega) hk
  simpa using this
/-- The number at a place, 0 beyond the list. -/
def g (l : List Int) (i : Nat) : Int := l.getD i 0
theorem g_ge {l : List Int} {i : Nat} (h : l.length ≤ i) : g l i = 0 := by
  simp [g, List.getD_eq_getElem?_getD, List.getElem?_eq_none h]
theorem g_lt {l : List Int} {i : Nat} (h : i < l.length) : g l i = l[i] := by
  simp [g, List.getD_eq_getElem?_getD, List.getElem?_eq_getElem h]
theorem g_mem {l : List Int} {i : Nat} (h : i < l.length) : g l i ∈ l := by
  rw [g_lt h]; exact List.getElem_mem h
theorem mem_g {l : List Int} {x : Int} (h : x ∈ l) : ∃ i, i < l.length ∧ g l i = x := by
  obtain ⟨i, hi, rfl⟩ := List.getElem_of_mem h
  exact ⟨i, hi, g_lt hi⟩
theorem ext_g {a b : List Int} (h : a.length = b.length) (hg : ∀ i, i < a.length → g a i = g b i) : a = b := by
  apply List.ext_getElem h
  intro i h1 h2
  have := hg i h1
  rwa [g_lt h1, g_lt h2] at this
theorem g_set (l : List Int) (i : Nat) (v : Int) (j : Nat) : g (l.set i v) j = if i = j ∧ j < l.length then v else g l j := by
  by_cases hj : j < l.length
  · rw [g_lt (by simpa using hj), g_lt hj, List.getElem_set]
    by_cases e : i = j <;> simp [e, hj]
  · rw [g_ge (by simp; omega), g_ge (by omega), if_neg (by omega)]
theorem g_replicate (n : Nat) (v : Int) (j : Nat) : g (List.replicate n v) j = if j < n then v else 0 := by
  by_cases hj : j < n
  · rw [g_lt (by simpa using hj)]; simp [hj]
  · rw [g_ge (by simp; omega), if_neg hj]
theorem g_range (n : Nat) (f : Nat → Int) (j : Nat) (hj : j < n) : g ((List.range n).map f) j = f j := by
  rw [g_lt (by simpa using hj)]; simp
theorem g_map (l : List Int) (f : Int → Int) (j : Nat) (hj : j < l.length) : g (l.map f) j = f (g l j) := by
  rw [g_lt (by simpa using hj), g_lt hj]; simp
def sumTo : Nat → (Nat → Int) → Int
  | 0, _ => 0
  | n + 1, f => sumTo n f + f n
theorem sumTo_congr {n : Nat} {f h : Nat → Int} (e : ∀ i, i < n → f i = h i) : sumTo n f = sumTo n h := by
  induction n with
  | zero => rfl
  | succ n ih => simp only [sumTo]; rw [ih (fun i hi => e i (by omega)), e n (by omega)]
theorem sumTo_add (n : Nat) (f h : Nat → Int) : sumTo n (fun i => f i + h i) = sumTo n f + sumTo n h := by
  induction n with
  | zero => rfl
  | succ n ih => simp only [sumTo]; rw [ih]; omega
theorem sumTo_zero (n : Nat) : sumTo n (fun _ => 0) = 0 := by
  induction n with
  | zero => rfl
  | succ n ih => simp only [sumTo]; rw [ih]; rfl
theorem sumTo_delta (n i : Nat) (f : Nat → Int) : sumTo n (fun j => if j = i then f j else 0) = if i < n then f i else 0 := by
  induction n with
  | zero => rfl
  | succ n ih =>
    simp only [sumTo]; rw [ih]
    by_cases e : n = i
    · subst e; rw [if_neg (by omega), if_pos rfl, if_pos (by omega)]; omega
    · rw [if_neg e]
      by_cases h : i < n
      · rw [if_pos h, if_pos (by omega)]; omega
      · rw [if_neg h, if_neg (by omega)]; omega
theorem sumTo_nonneg {n : Nat} {f : Nat → Int} (h : ∀ i, i < n → 0 ≤ f i) : 0 ≤ sumTo n f := by
  induction n with
  | zero => exact Int.le_refl _
  | succ n ih => simp only [sumTo]; have := ih (fun i hi => h i (by omega)); have := h n (by omega); omega
theorem sumTo_ge {n : Nat} {f : Nat → Int} (h : ∀ i, i < n → 0 ≤ f i) (i : Nat) (hi : i < n) : f i ≤ sumTo n f := by
  induction n with
  | zero => omega
  | succ n ih =>
    simp only [sumTo]
    have h0 := sumTo_nonneg (n := n) (fun i hi => h i (by omega))
    by_cases e : i = n
    · subst e; omega
    · have := ih (fun i hi => h i (by omega)) (by omega); have := h n (by omega); omega
theorem sumTo_le {n : Nat} {f : Nat → Int} {M : Int} (h : ∀ i, i < n → f i ≤ M) : sumTo n f ≤ n * M := by
  induction n with
  | zero => simp [sumTo]
  | succ n ih =>
    simp only [sumTo]
    have := ih (fun i hi => h i (by omega)); have := h n (by omega)
    have e : ((n + 1 : Nat) : Int) * M = (n : Int) * M + M := by rw [Int.natCast_add, Int.add_mul]; simp
    rw [e]; omega
/-- One place fires. -/
def fire1 (l : List Int) (i : Nat) : List Int :=
  (List.range l.length).map fun j => g l j - (if j = i then 2 else 0) + (if j + 1 = i then 1 else 0) + (if j = i + 1 then 1 else 0)
theorem len_fire1 (l : List Int) (i : Nat) : (fire1 l i).length = l.length := by simp [fire1]
theorem g_fire1 {l : List Int} {j : Nat} (i : Nat) (hj : j < l.length) : g (fire1 l i) j = g l j - (if j = i then 2 else 0) + (if j + 1 = i then 1 else 0) + (if j = i + 1 then 1 else 0) := by
  unfold fire1; rw [g_range _ _ _ hj]
theorem fire1_other {l : List Int} {i j : Nat} (h : j ≠ i) (hj : j < l.length) : g l j ≤ g (fire1 l i) j := by
  rw [g_fire1 i hj, if_neg h]; split <;> split <;> omega
theorem fire1_nonneg {l : List Int} {i : Nat} (h : ∀ j, j < l.length → 0 ≤ g l j) (h2 : 2 ≤ g l i) : ∀ j, j < (fire1 l i).length → 0 ≤ g (fire1 l i) j := by
  intro j hj
  rw [len_fire1] at hj
  by_cases e : j = i
  · subst e; rw [g_fire1 _ hj]; omega
  · have := fire1_other e hj; have := h j hj; omega
def dot (w : Nat → Int) (l : List Int) : Int := sumTo l.length (fun j => w j * g l j)
theorem dot_fire1 (w : Nat → Int) (l : List Int) (i : Nat) (hi : i < l.length) :
    dot w (fire1 l i) = dot w l - 2 * w i + (if 0 < i then w (i - 1) else 0) + (if i + 1 < l.length then w (i + 1) else 0) := by
  unfold dot
  rw [len_fire1]
  have e : sumTo l.length (fun j => w j * g (fire1 l i) j) = sumTo l.length (fun j => (w j * g l j + (if j = i then -2 * w j else 0)) + ((if j + 1 = i then w j else 0) + (if j = i + 1 then w j else 0))) := by
    apply sumTo_congr
    intro j hj
    rw [g_fire1 i hj]
    by_cases a : j = i
    · rw [if_pos a, if_pos a, if_neg (by omega), if_neg (by omega), if_neg (by omega), if_neg (by omega), Int.mul_add, Int.mul_add, Int.mul_sub]; omega
    · rw [if_neg a, if_neg a]
      by_cases b : j + 1 = i
      · rw [if_pos b, if_pos b, if_neg (by omega), if_neg (by omega), Int.mul_add, Int.mul_add, Int.mul_sub]; omega
      · rw [if_neg b, if_neg b]
        by_cases c : j = i + 1
        · rw [if_pos c, if_pos c, Int.mul_add, Int.mul_add, Int.mul_sub]; omega
        · rw [if_neg c, if_neg c, Int.mul_add, Int.mul_add, Int.mul_sub]; omega
  rw [e, sumTo_add, sumTo_add, sumTo_add, sumTo_delta _ _ (fun j => -2 * w j), sumTo_delta _ _ w, if_pos hi]
  have e2 : sumTo l.length (fun j => if j + 1 = i then w j else 0) = if 0 < i then w (i - 1) else 0 := by
    cases i with
    | zero => simp [sumTo_zero]
    | succ i =>
      rw [sumTo_congr (h := fun j => if j = i then w j else 0) (fun j _ => by simp), sumTo_delta _ _ w, if_pos (by omega), if_pos (by omega)]; rfl
  rw [e2]
  omega
/-- The weight of a chip: it shrinks by 2 with each firing. -/
def wt (L : Nat) (i : Nat) : Int := ((i : Int) + 1) * ((L : Int) - i)
theorem wt_pos {L i : Nat} (h : i < L) : 1 ≤ wt L i := by
  unfold wt
  have h1 : (1 : Int) ≤ (i : Int) + 1 := by omega
  have h2 : (1 : Int) ≤ (L : Int) - i := by omega
  have := Int.mul_le_mul h1 h2 (by omega) (by omega)
  omega
def phi (l : List Int) : Int := dot (wt l.length) l
theorem phi_fire1 {l : List Int} {i : Nat} (hi : i < l.length) : phi (fire1 l i) = phi l - 2 := by
  unfold phi
  rw [len_fire1, dot_fire1 _ _ _ hi]
  have e1 : (if 0 < i then wt l.length (i - 1) else 0) = (i : Int) * ((l.length : Int) - i + 1) := by
    cases i with
    | zero => simp
    | succ i => rw [if_pos (by omega)]; unfold wt; simp only [Nat.add_sub_cancel]; congr 1; omega
  have e2 : (if i + 1 < l.length then wt l.length (i + 1) else 0) = ((i : Int) + 2) * ((l.length : Int) - i - 1) := by
    split
    · unfold wt
      have a : ((i + 1 : Nat) : Int) + 1 = (i : Int) + 2 := by omega
      have b : (l.length : Int) - ((i + 1 : Nat) : Int) = (l.length : Int) - i - 1 := by omega
      rw [a, b]
    · have b : (l.length : Int) - i - 1 = 0 := by omega
      rw [b, Int.mul_zero]
  rw [e1, e2]
  unfold wt
  generalize (l.length : Int) = L
  generalize (i : Int) = x
  grind
theorem phi_ge {l : List Int} (h : ∀ j, j < l.length → 0 ≤ g l j) {i : Nat} (hi : i < l.length) : g l i ≤ phi l := by
  have h0 : ∀ j, j < l.length → 0 ≤ wt l.length j * g l j := fun j hj => Int.mul_nonneg (by have := wt_pos hj; omega) (h j hj)
  have h1 := sumTo_ge h0 i hi
  have h2 : 1 * g l i ≤ wt l.length i * g l i := Int.mul_le_mul_of_nonneg_right (wt_pos hi) (h i hi)
  unfold phi dot
  omega
theorem phi_nonneg {l : List Int} (h : ∀ j, j < l.length → 0 ≤ g l j) : 0 ≤ phi l :=
  sumTo_nonneg (fun j hj => Int.mul_nonneg (by have := wt_pos hj; omega) (h j hj))
def runs (l : List Int) : List Nat → List Int
  | [] => l
  | i :: ps => runs (fire1 l i) ps
def legal (l : List Int) : List Nat → Prop
  | [] => True
  | i :: ps => i < l.length ∧ 2 ≤ g l i ∧ legal (fire1 l i) ps
theorem len_runs (ps : List Nat) : ∀ l : List Int, (runs l ps).length = l.length := by
  induction ps with
  | nil => intro l; rfl
  | cons i ps ih => intro l; simp only [runs]; rw [ih, len_fire1]
theorem runs_append (ps qs : List Nat) : ∀ l : List Int, runs l (ps ++ qs) = runs (runs l ps) qs := by
  induction ps with
  | nil => intro l; rfl
  | cons i ps ih => intro l; simp only [runs, List.cons_append]; exact ih _
theorem legal_append (ps qs : List Nat) : ∀ l : List Int, legal l (ps ++ qs) ↔ legal l ps ∧ legal (runs l ps) qs := by
  induction ps with
  | nil => intro l; simp [legal, runs]
  | cons i ps ih => intro l; simp only [legal, runs, List.cons_append]; rw [ih]; constructor <;> (intro h; simp_all)
theorem cast_ite01 (p : Prop) [Decidable p] : ((if p then 1 else 0 : Nat) : Int) = if p then 1 else 0 := by split <;> rfl
theorem g_runs (ps : List Nat) : ∀ (l : List Int) (j : Nat), j < l.length → g (runs l ps) j = g l j - 2 * (ps.count j : Int) + (if 0 < j then (ps.count (j - 1) : Int) else 0) + (ps.count (j + 1) : Int) := by
  induction ps with
  | nil => intro l j hj; simp [runs]
  | cons i ps ih =>
    intro l j hj
    simp only [runs]
    rw [ih _ _ (by rw [len_fire1]; exact hj), g_fire1 i hj]
    simp only [List.count_cons, beq_iff_eq, Int.natCast_add, cast_ite01]
    omega
theorem runs_nonneg (ps : List Nat) : ∀ l : List Int, legal l ps → (∀ j, j < l.length → 0 ≤ g l j) → ∀ j, j < (runs l ps).length → 0 ≤ g (runs l ps) j := by
  induction ps with
  | nil => intro l _ h; exact h
  | cons i ps ih => intro l hl h; exact ih _ hl.2.2 (fire1_nonneg h hl.2.1)
theorem phi_runs (ps : List Nat) : ∀ l : List Int, legal l ps → phi (runs l ps) = phi l - 2 * ps.length := by
  induction ps with
  | nil => intro l _; simp [runs]
  | cons i ps ih => intro l hl; simp only [runs, List.length_cons]; rw [ih _ hl.2.2, phi_fire1 hl.1]; omega
/-- Different places that can all fire may fire one behind the other. -/
theorem legal_of_nodup (ps : List Nat) : ∀ l : List Int, ps.Nodup → (∀ i ∈ ps, i < l.length ∧ 2 ≤ g l i) → legal l ps := by
  induction ps with
  | nil => intro l _ _; trivial
  | cons i ps ih =>
    intro l hn h
    refine ⟨(h i (by simp)).1, (h i (by simp)).2, ih _ (List.nodup_cons.1 hn).2 fun j hj => ?_⟩
    have hij : j ≠ i := fun e => (List.nodup_cons.1 hn).1 (e ▸ hj)
    have h2 := h j (by simp [hj])
    exact ⟨by rw [len_fire1]; exact h2.1, Int.le_trans h2.2 (fire1_other hij h2.1)⟩
theorem count_range (n j : Nat) : (List.range n).count j = if j < n then 1 else 0 := by
  induction n with
  | zero => simp
  | succ n ih =>
    rw [List.range_succ, List.count_append, ih]
    simp only [List.count_cons, List.count_nil, beq_iff_eq]
    by_cases a : n = j
    · subst a; simp
    · by_cases b : j < n
      · simp [a, b]; omega
      · simp [a, b]; omega
/-- The places that can fire. -/
def places (l : List Int) : List Nat := (List.range l.length).filter fun i => decide (2 ≤ g l i)
theorem mem_places {l : List Int} {i : Nat} : i ∈ places l ↔ i < l.length ∧ 2 ≤ g l i := by simp [places]
theorem places_legal (l : List Int) : legal l (places l) :=
  legal_of_nodup _ _ (List.Pairwise.filter _ List.nodup_range) (fun _ h => mem_places.1 h)
theorem count_places (l : List Int) (j : Nat) : (places l).count j = if 2 ≤ g l j then 1 else 0 := by
  by_cases c : 2 ≤ g l j
  · rw [if_pos c]
    unfold places
    rw [List.count_filter (by simpa using c), count_range, if_pos]
    by_cases hj : j < l.length
    · exact hj
    · rw [g_ge (by omega)] at c; omega
  · rw [if_neg c, List.count_eq_zero]
    intro h; exact c (mem_places.1 h).2
/-- Rounds: the rest that is come to, the places that fire, how many rounds. -/
def rounds : Nat → List Int → List Int × List Nat × Nat
  | 0, l => (l, [], 0)
  | n + 1, l => if places l = [] then (l, [], 0) else
    ((rounds n (runs l (places l))).1, places l ++ (rounds n (runs l (places l))).2.1, (rounds n (runs l (places l))).2.2 + 1)
theorem rounds_runs (n : Nat) : ∀ l : List Int, legal l (rounds n l).2.1 ∧ runs l (rounds n l).2.1 = (rounds n l).1 := by
  induction n with
  | zero => intro l; exact ⟨trivial, rfl⟩
  | succ n ih =>
    intro l
    simp only [rounds]
    split
    · exact ⟨trivial, rfl⟩
    · obtain ⟨a, b⟩ := ih (runs l (places l))
      exact ⟨(legal_append _ _ _).2 ⟨places_legal l, a⟩, by rw [runs_append]; exact b⟩
theorem rounds_len (n : Nat) (l : List Int) : (rounds n l).1.length = l.length := by
  rw [← (rounds_runs n l).2, len_runs]
theorem nonempty_length {ps : List Nat} (h : ps ≠ []) : 1 ≤ ps.length := by
  cases ps with
  | nil => exact absurd rfl h
  | cons _ _ => simp
theorem phi_round {l : List Int} (h : places l ≠ []) : phi (runs l (places l)) ≤ phi l - 2 := by
  rw [phi_runs _ _ (places_legal l)]
  have := nonempty_length h
  omega
/-- How often each place fires, added to a list. -/
def addc (f : List Int) (ps : List Nat) : List Int := (List.range f.length).map fun i => g f i + ps.count i
theorem len_addc (f : List Int) (ps : List Nat) : (addc f ps).length = f.length := by simp [addc]
theorem g_addc (f : List Int) (ps : List Nat) (i : Nat) (hi : i < f.length) : g (addc f ps) i = g f i + ps.count i := by
  unfold addc; rw [g_range _ _ _ hi]
theorem addc_nil (f : List Int) : addc f [] = f := by
  apply ext_g (len_addc _ _)
  intro i hi; rw [len_addc] at hi; rw [g_addc _ _ _ hi]; simp
theorem addc_append (f : List Int) (ps qs : List Nat) : addc (addc f ps) qs = addc f (ps ++ qs) := by
  apply ext_g (by simp [len_addc])
  intro i hi
  simp only [len_addc] at hi
  rw [g_addc _ _ _ (by rw [len_addc]; exact hi), g_addc _ _ _ hi, g_addc _ _ _ hi, List.count_append]
  omega
theorem set_addc (f : List Int) (i : Nat) (ps : List Nat) : addc (f.set i (g f i + 1)) ps = addc f (i :: ps) := by
  apply ext_g (by simp [len_addc])
  intro j hj
  simp only [len_addc, List.length_set] at hj
  rw [g_addc _ _ _ (by simpa using hj), g_addc _ _ _ hj, g_set, List.count_cons]
  by_cases e : i = j
  · subst e; simp [hj]; omega
  · simp [e]
theorem phi_le {l : List Int} {M : Int} (hM : 0 ≤ M) (h : ∀ j, j < l.length → 0 ≤ g l j ∧ g l j ≤ M) (hl : l.length ≤ 20) : phi l ≤ 20 * (400 * M) := by
  have h1 : ∀ i, i < l.length → wt l.length i * g l i ≤ 400 * M := fun i hi => by
    have h2 := h i hi
    have w0 := wt_pos hi
    have w1 : wt l.length i ≤ 20 * 20 := by
      unfold wt
      exact Int.mul_le_mul (by omega) (by omega) (by omega) (by omega)
    exact Int.mul_le_mul (by omega) h2.2 h2.1 (by omega)
  have h3 := sumTo_le h1
  unfold phi dot
  have h4 : (l.length : Int) * (400 * M) ≤ 20 * (400 * M) := Int.mul_le_mul_of_nonneg_right (by omega) (by omega)
  omega
theorem rd_g (l : List Int) (i : Nat) : rd l (i : Int) = g l i := by simp [rd, g]
/-- Valid chips, as a Bool. -/
def good (l : List Int) : Bool := decide (1 ≤ l.length) && decide (l.length ≤ 20) && l.all (inB 0 60)
theorem within_eq (a b c : Int) : impl_within.f a b c = some (inB b c a) := by
  unfold impl_within.f inB
  by_cases h : a ≥ b <;> simp [h] <;> omega
theorem l1In_eq (a b c : Int) : spec_l1In.f a b c = some (inB b c a) := by
  unfold spec_l1In.f inB
  by_cases h : a ≥ b <;> simp [h] <;> omega
theorem impl_AreChips_eq (l : List Int) : impl_AreChips.f l = some (good l) := by
  unfold impl_AreChips.f impl_areIn.f
  rw [within_eq]
  simp only [Option.bind_some]
  by_cases h : inB 1 20 (l.length : Int) = true
  · rw [if_pos h]
    simp only [inB, Bool.and_eq_true, decide_eq_true_eq] at h
    congr 1; unfold good
    rw [decide_eq_true (by omega : 1 ≤ l.length), decide_eq_true (by omega : l.length ≤ 20)]; rfl
  · rw [if_neg h]
    congr 1; unfold good
    simp only [inB, Bool.and_eq_true, decide_eq_true_eq] at h
    by_cases a : 1 ≤ l.length
    · rw [decide_eq_false (by omega : ¬ l.length ≤ 20)]; simp
    · rw [decide_eq_false a]; simp
theorem l1All_l0 (p q : Int) (l : List Int) (hl : l.length ≤ 1099511627776) (d : Nat) : ∀ (k : Nat) (i : Nat), i + d = l.length → d < k →
    spec_l1All.l0 k p q l (l.length : Int) (i : Int) = some ((l.drop i).all (inB p q)) := by
  induction d with
  | zero =>
    intro k i hi hk
    obtain ⟨k, rfl⟩ : ∃ m, k = m + 1 := ⟨k - 1, by omega⟩
    simp only [spec_l1All.l0]
    rw [if_neg (by omega), List.drop_of_length_le (by omega)]; rfl
  | succ d ih =>
    intro k i hi hk
    obtain ⟨k, rfl⟩ : ∃ m, k = m + 1 := ⟨k - 1, by omega⟩
    simp only [spec_l1All.l0]
    rw [if_pos (by omega), if_pos (by omega), if_pos (by omega), l1In_eq, rd_lt (by omega), List.drop_eq_getElem_cons (show i < l.length by omega), List.all_cons]
    simp only [Option.bind_some]
    by_cases h : inB p q l[i] = true
    · rw [if_pos h, h, wrap_succ (by omega), ih k (i + 1) (by omega) (by omega)]; rfl
    · rw [if_neg h, Bool.eq_false_iff.2 h]; rfl
theorem l1All_at (p q : Int) {l : List Int} (hl : l.length ≤ 1099511627776) {k : Nat} (hk : l.length < k) : spec_l1All.f k l p q = some (l.all (inB p q)) := by
  unfold spec_l1All.f
  have := l1All_l0 p q l hl l.length k 0 (by omega) hk
  simpa using this
theorem chGood_at {l : List Int} (hl : l.length ≤ 1099511627776) {k : Nat} (hk : l.length < k) : spec_chGood.f k l = some (good l) := by
  unfold spec_chGood.f
  rw [l1In_eq]
  simp only [Option.bind_some]
  have e := impl_AreChips_eq l
  unfold impl_AreChips.f impl_areIn.f at e
  rw [within_eq] at e
  simp only [Option.bind_some] at e
  rw [← e, l1All_at _ _ hl hk]
  rfl
theorem good_len {l : List Int} (h : good l = true) : 1 ≤ l.length ∧ l.length ≤ 20 := by
  simp only [good, Bool.and_eq_true, decide_eq_true_eq] at h; exact h.1
theorem good_g {l : List Int} (h : good l = true) {i : Nat} (hi : i < l.length) : 0 ≤ g l i ∧ g l i ≤ 60 := by
  simp only [good, Bool.and_eq_true, List.all_eq_true] at h
  have := h.2 _ (g_mem hi)
  simp only [inB, Bool.and_eq_true, decide_eq_true_eq] at this; exact this
theorem side_in {k : Nat} {x : List Int} {c : Int} {y : List Int} {j s : Nat} (hj : j < y.length) (hy : y.length ≤ 1099511627776) (hs : rd y (j : Int) = (s : Int)) (hx : s < x.length) (hL : x.length ≤ 1099511627776) (hb : -1125899906842624 ≤ g x s ∧ g x s ≤ 1125899906842624) :
    impl_fire.l0 (k + 1) x c y (y.length : Int) (j : Int) = impl_fire.l0 k (x.set s (g x s + 1)) c y (y.length : Int) ((j + 1 : Nat) : Int) := by
  simp only [impl_fire.l0]
  rw [if_pos (by omega), if_pos (by omega), if_pos (by omega), hs, within_eq]
  simp only [Option.bind_some]
  rw [wrap_id (x := (x.length : Int) - 1) (by omega) (by omega), if_pos (by simp [inB]; omega), if_pos (by omega), if_pos (by omega), wrap_succ (by omega), rd_g, wrap_id (by omega) (by omega), Int.toNat_natCast]
theorem side_out {k : Nat} {x : List Int} {c s : Int} {y : List Int} {j : Nat} (hj : j < y.length) (hy : y.length ≤ 1099511627776) (hs : rd y (j : Int) = s) (hx : s < 0 ∨ (x.length : Int) ≤ s) (hL : x.length ≤ 1099511627776) (hc : 0 ≤ c ∧ c ≤ 10) :
    impl_fire.l0 (k + 1) x c y (y.length : Int) (j : Int) = impl_fire.l0 k x (c + 1) y (y.length : Int) ((j + 1 : Nat) : Int) := by
  simp only [impl_fire.l0]
  rw [if_pos (by omega), if_pos (by omega), if_pos (by omega), hs, within_eq]
  simp only [Option.bind_some]
  rw [wrap_id (x := (x.length : Int) - 1) (by omega) (by omega), if_neg (by simp [inB]; omega), wrap_succ (by omega), wrap_id (by omega) (by omega)]
theorem side_end {k : Nat} {x : List Int} {c : Int} {y : List Int} {j : Nat} (hj : y.length ≤ j) : impl_fire.l0 (k + 1) x c y (y.length : Int) (j : Int) = some (c, x) := by
  simp only [impl_fire.l0]
  rw [if_neg (by omega)]
theorem fire_val {l r : List Int} {i : Nat} (hi : i < l.length) (hlen : r.length = l.length) (h0 : g r i = g l i - 2) (h1 : 0 < i → g r (i - 1) = g l (i - 1) + 1) (h2 : i + 1 < l.length → g r (i + 1) = g l (i + 1) + 1)
    (h3 : ∀ j, j < l.length → j ≠ i → j + 1 ≠ i → j ≠ i + 1 → g r j = g l j) : r = fire1 l i := by
  apply ext_g (by rw [len_fire1]; exact hlen)
  intro j hj
  rw [hlen] at hj
  rw [g_fire1 _ hj]
  by_cases a : j = i
  · subst a; rw [h0]; omega
  · by_cases b : j + 1 = i
    · have e : i - 1 = j := by omega
      have := h1 (by omega)
      rw [e] at this; rw [this]; omega
    · by_cases c : j = i + 1
      · subst c; rw [h2 hj]; omega
      · rw [h3 j hj a b c]; omega
theorem fire_at (l : List Int) (i : Nat) (hi : i < l.length) (hL : l.length ≤ 1099511627776) (hb : ∀ j, j < l.length → -1125899906842620 ≤ g l j ∧ g l j ≤ 1125899906842620) (k : Nat) (hk : 3 ≤ k) :
    impl_fire.f k l (i : Int) = some ((if i = 0 then 1 else 0) + (if i + 1 = l.length then 1 else 0), fire1 l i) := by
  obtain ⟨k, rfl⟩ : ∃ m, k = m + 3 := ⟨k - 3, by omega⟩
  unfold impl_fire.f
  have hbi := hb i hi
  rw [if_pos (by omega), if_pos (by omega), wrap_id (x := (i : Int) - 1) (by omega) (by omega), wrap_id (x := (i : Int) + 1) (by omega) (by omega), rd_g, wrap_id (x := g l i - 2) (by omega) (by omega), Int.toNat_natCast]
  simp only [Option.bind_some]
  have e0 : rd [(i : Int) - 1, (i : Int) + 1] ((0 : Nat) : Int) = (i : Int) - 1 := rfl
  have e1 : rd [(i : Int) - 1, (i : Int) + 1] ((1 : Nat) : Int) = (i : Int) + 1 := rfl
  have eL : (l.set i (g l i - 2)).length = l.length := List.length_set ..
  have gs : ∀ j, j < l.length → -1125899906842622 ≤ g (l.set i (g l i - 2)) j ∧ g (l.set i (g l i - 2)) j ≤ 1125899906842622 := by
    intro j hj
    rw [g_set]; have := hb j hj; split <;> omega
  show impl_fire.l0 (k + 2 + 1) (l.set i (g l i - 2)) 0 [(i : Int) - 1, (i : Int) + 1] (([(i : Int) - 1, (i : Int) + 1] : List Int).length : Int) ((0 : Nat) : Int) = _
  by_cases a : i = 0
  · rw [side_out (by simp) (by simp) e0 (by omega) (by rw [eL]; exact hL) (by omega)]
    by_cases b : i + 1 = l.length
    · rw [side_out (by simp) (by simp) e1 (by rw [eL]; omega) (by rw [eL]; exact hL) (by omega), side_end (by simp), if_pos a, if_pos b]
      congr 2
      refine fire_val hi (by simp) ?_ ?_ ?_ ?_ <;> (try intro j hj j1 j2 j3) <;> (try intro h_) <;> simp only [g_set, List.length_set, true_and] <;> (repeat' split) <;> omega
    · rw [side_in (s := i + 1) (by simp) (by simp) (by rw [e1]; rfl) (by rw [eL]; omega) (by rw [eL]; exact hL) (by have := gs (i + 1) (by omega); omega), side_end (by simp), if_pos a, if_neg b]
      congr 2
      refine fire_val hi (by simp) ?_ ?_ ?_ ?_ <;> (try intro j hj j1 j2 j3) <;> (try intro h_) <;> simp only [g_set, List.length_set, true_and] <;> (repeat' split) <;> omega
  · rw [side_in (s := i - 1) (by simp) (by simp) (by rw [e0]; omega) (by rw [eL]; omega) (by rw [eL]; exact hL) (by have := gs (i - 1) (by omega); omega)]
    have eL2 : ((l.set i (g l i - 2)).set (i - 1) (g (l.set i (g l i - 2)) (i - 1) + 1)).length = l.length := by simp
    by_cases b : i + 1 = l.length
    · rw [side_out (by simp) (by simp) e1 (by rw [eL2]; omega) (by rw [eL2]; exact hL) (by omega), side_end (by simp), if_neg a, if_pos b]
      congr 2
      refine fire_val hi (by simp) ?_ ?_ ?_ ?_ <;> (try intro j hj j1 j2 j3) <;> (try intro h_) <;> simp only [g_set, List.length_set, true_and] <;> (repeat' split) <;> omega
    · rw [side_in (s := i + 1) (by simp) (by simp) (by rw [e1]; rfl) (by rw [eL2]; omega) (by rw [eL2]; exact hL) (by rw [g_set]; have := gs (i + 1) (by omega); split <;> omega), side_end (by simp), if_neg a, if_neg b]
      congr 2
      refine fire_val hi (by simp) ?_ ?_ ?_ ?_ <;> (try intro j hj j1 j2 j3) <;> (try intro h_) <;> simp only [g_set, List.length_set, true_and] <;> (repeat' split) <;> omega
/-- The reference's firing of all places so often. -/
def fireT (l t : List Int) : List Int := (List.range l.length).map fun j => g l j - 2 * g t j + (if 0 < j then g t (j - 1) else 0) + g t (j + 1)
theorem len_fireT (l t : List Int) : (fireT l t).length = l.length := by simp [fireT]
theorem g_fireT {l : List Int} (t : List Int) {j : Nat} (hj : j < l.length) : g (fireT l t) j = g l j - 2 * g t j + (if 0 < j then g t (j - 1) else 0) + g t (j + 1) := by
  unfold fireT; rw [g_range _ _ _ hj]
theorem take_snoc (l : List Int) (i : Nat) (h : i < l.length) : l.take (i + 1) = l.take i ++ [g l i] := by
  rw [List.take_succ_eq_append_getElem h, g_lt h]
set_option maxHeartbeats 1000000 in
theorem chFire_l0 (l t : List Int) (ht : t.length = l.length) (hL : l.length ≤ 1099511627776) (hb : ∀ j, j < l.length → -1125899906842624 ≤ g l j ∧ g l j ≤ 1125899906842624) (hc : ∀ j, j < l.length → 0 ≤ g t j ∧ g t j ≤ 1125899906842624)
    (d : Nat) : ∀ (k : Nat) (i : Nat), i + d = l.length → d < k → spec_chFire.l0 k l t ((fireT l t).take i) l (l.length : Int) (i : Int) = some (fireT l t) := by
  induction d with
  | zero =>
    intro k i hi hk
    obtain ⟨k, rfl⟩ : ∃ m, k = m + 1 := ⟨k - 1, by omega⟩
    simp only [spec_chFire.l0]
    rw [if_neg (by omega), List.take_of_length_le (by rw [len_fireT]; omega)]
  | succ d ih =>
    intro k i hi hk
    obtain ⟨k, rfl⟩ : ∃ m, k = m + 1 := ⟨k - 1, by omega⟩
    have h1 := hb i (by omega)
    have h2 := hc i (by omega)
    have hih := ih k (i + 1) (by omega) (by omega)
    have hlen : ((fireT l t).take i).length = i := by rw [List.length_take, len_fireT]; omega
    rw [take_snoc _ _ (by rw [len_fireT]; omega), g_fireT _ (by omega)] at hih
    simp only [spec_chFire.l0]
    rw [if_pos (by omega), if_pos (by omega), if_pos (by omega), if_pos (by omega), wrap_succ (by omega), hlen, rd_g, rd_g]
    by_cases a : 0 < i
    · have h3 := hc (i - 1) (by omega)
      rw [if_pos (by omega), wrap_id (x := (i : Int) - 1) (by omega) (by omega), if_pos (by omega), if_pos (by omega), show (i : Int) - 1 = ((i - 1 : Nat) : Int) by omega, rd_g]
      rw [if_pos a] at hih
      by_cases b : i + 1 < l.length
      · have h4 := hc (i + 1) b
        rw [if_pos (by omega), if_pos (by omega), if_pos (by omega), if_pos (by omega), rd_g, wrap_id (x := 2 * g t i) (by omega) (by omega), wrap_id (x := g l i - 2 * g t i) (by omega) (by omega), wrap_id (x := g l i - 2 * g t i + g t (i - 1)) (by omega) (by omega), wrap_id (by omega) (by omega)]
        exact hih
      · rw [if_neg (by omega), if_pos (by omega), wrap_id (x := 2 * g t i) (by omega) (by omega), wrap_id (x := g l i - 2 * g t i) (by omega) (by omega), wrap_id (by omega) (by omega)]
        rw [g_ge (l := t) (i := i + 1) (by omega), Int.add_zero] at hih
        exact hih
    · rw [if_neg (by omega)]
      rw [if_neg a, Int.add_zero] at hih
      by_cases b : i + 1 < l.length
      · have h4 := hc (i + 1) b
        rw [if_pos (by omega), if_pos (by omega), if_pos (by omega), if_pos (by omega), rd_g, wrap_id (x := 2 * g t i) (by omega) (by omega), wrap_id (x := g l i - 2 * g t i) (by omega) (by omega), wrap_id (by omega) (by omega)]
        exact hih
      · rw [if_neg (by omega), if_pos (by omega), wrap_id (x := 2 * g t i) (by omega) (by omega), wrap_id (by omega) (by omega)]
        rw [g_ge (l := t) (i := i + 1) (by omega), Int.add_zero] at hih
        exact hih
theorem chFire_at {l t : List Int} (ht : t.length = l.length) (hL : l.length ≤ 1099511627776) (hb : ∀ j, j < l.length → -1125899906842624 ≤ g l j ∧ g l j ≤ 1125899906842624) (hc : ∀ j, j < l.length → 0 ≤ g t j ∧ g t j ≤ 1125899906842624)
    {k : Nat} (hk : l.length < k) : spec_chFire.f k l t = some (fireT l t) := by
  unfold spec_chFire.f
  have := chFire_l0 l t ht hL hb hc l.length k 0 (by omega) hk
  simpa using this
/-- 1 for each place that can fire. -/
def ready (l : List Int) : List Int := l.map fun n => if n > 1 then 1 else 0
theorem len_ready (l : List Int) : (ready l).length = l.length := by simp [ready]
theorem g_ready (l : List Int) (j : Nat) : g (ready l) j = if 2 ≤ g l j then 1 else 0 := by
  by_cases h : j < l.length
  · unfold ready; rw [g_map _ _ _ h]
    by_cases c : g l j > 1
    · rw [if_pos c, if_pos (by omega)]
    · rw [if_neg c, if_neg (by omega)]
  · rw [g_ge (by rw [len_ready]; omega), g_ge (by omega), if_neg (by omega)]
theorem chReady_l0 (l : List Int) (hL : l.length ≤ 1099511627776) (d : Nat) : ∀ (k : Nat) (i : Nat), i + d = l.length → d < k → spec_chReady.l0 k ((ready l).take i) l (l.length : Int) (i : Int) = some (ready l) := by
  induction d with
  | zero =>
    intro k i hi hk
    obtain ⟨k, rfl⟩ : ∃ m, k = m + 1 := ⟨k - 1, by omega⟩
    simp only [spec_chReady.l0]
    rw [if_neg (by omega), List.take_of_length_le (by rw [len_ready]; omega)]
  | succ d ih =>
    intro k i hi hk
    obtain ⟨k, rfl⟩ : ∃ m, k = m + 1 := ⟨k - 1, by omega⟩
    have hih := ih k (i + 1) (by omega) (by omega)
    have hlen : ((ready l).take i).length = i := by rw [List.length_take, len_ready]; omega
    rw [take_snoc _ _ (by rw [len_ready]; omega), g_ready] at hih
    simp only [spec_chReady.l0]
    rw [if_pos (by omega), if_pos (by omega), if_pos (by omega), wrap_succ (by omega), hlen, rd_g]
    by_cases c : 2 ≤ g l i
    · rw [if_pos c] at hih
      rw [if_pos (by omega), if_pos (by omega)]; exact hih
    · rw [if_neg c] at hih
      rw [if_neg (by omega), if_pos (by omega)]; exact hih
theorem chReady_at {l : List Int} (hL : l.length ≤ 1099511627776) {k : Nat} (hk : l.length < k) : spec_chReady.f k l = some (ready l) := by
  unfold spec_chReady.f
  have := chReady_l0 l hL l.length k 0 (by omega) hk
  simpa using this
theorem fireT_ready (l : List Int) : fireT l (ready l) = runs l (places l) := by
  apply ext_g (by rw [len_fireT, len_runs])
  intro j hj
  rw [len_fireT] at hj
  rw [g_fireT _ hj, g_runs _ _ _ hj, g_ready, g_ready, g_ready, count_places, count_places, count_places]
  simp only [cast_ite01]
/-- The places that can fire, as the program tells them. -/
def pl (ps : List Nat) : List Int := ps.map fun (i : Nat) => (i : Int)
theorem len_pl (ps : List Nat) : (pl ps).length = ps.length := by simp [pl]
theorem firing_l0 (l : List Int) (hL : l.length ≤ 1099511627776) (d : Nat) : ∀ (k : Nat) (i : Nat), i + d = l.length → d < k →
    impl_firing.l0 k (pl ((List.range i).filter fun j => decide (2 ≤ g l j))) l (l.length : Int) (i : Int) = some (pl (places l)) := by
  induction d with
  | zero =>
    intro k i hi hk
    obtain ⟨k, rfl⟩ : ∃ m, k = m + 1 := ⟨k - 1, by omega⟩
    simp only [impl_firing.l0]
    rw [if_neg (by omega), show i = l.length by omega]; rfl
  | succ d ih =>
    intro k i hi hk
    obtain ⟨k, rfl⟩ : ∃ m, k = m + 1 := ⟨k - 1, by omega⟩
    have hih := ih k (i + 1) (by omega) (by omega)
    have hlen : (pl ((List.range i).filter fun j => decide (2 ≤ g l j))).length ≤ i := by
      rw [len_pl]; have := List.length_filter_le (fun j => decide (2 ≤ g l j)) (List.range i); rwa [List.length_range] at this
    rw [List.range_succ, List.filter_append] at hih
    simp only [impl_firing.l0]
    rw [if_pos (by omega), if_pos (by omega), if_pos (by omega), wrap_succ (by omega), rd_g]
    by_cases c : 2 ≤ g l i
    · rw [if_pos (by omega), if_pos (by omega)]
      simpa [pl, c] using hih
    · rw [if_neg (by omega)]
      simpa [pl, c] using hih
theorem firing_at {l : List Int} (hL : l.length ≤ 1099511627776) {k : Nat} (hk : l.length < k) : impl_firing.f k l = some (pl (places l)) := by
  unfold impl_firing.f
  exact firing_l0 l hL l.length k 0 (by omega) hk
theorem places_le (l : List Int) : (places l).length ≤ l.length := by
  unfold places; have := List.length_filter_le (fun j => decide (2 ≤ g l j)) (List.range l.length); rwa [List.length_range] at this
theorem rd_pl {ps : List Nat} {i : Nat} (h : i < ps.length) : rd (pl ps) (i : Int) = ((ps[i] : Nat) : Int) := by
  rw [rd_lt (by rw [len_pl]; exact h)]; simp [pl]
/-- Chips that are few enough: no number leaves its range. -/
structure Calm (l : List Int) : Prop where
  nonneg : ∀ j, j < l.length → 0 ≤ g l j
  small : phi l ≤ 1099511627776
  len : l.length ≤ 1048576
theorem Calm.le {l : List Int} (h : Calm l) {j : Nat} (hj : j < l.length) : 0 ≤ g l j ∧ g l j ≤ 1099511627776 := ⟨h.nonneg j hj, Int.le_trans (phi_ge h.nonneg hj) h.small⟩
theorem Calm.bound {l : List Int} (h : Calm l) : ∀ j, j < l.length → -1125899906842620 ≤ g l j ∧ g l j ≤ 1125899906842620 := fun j hj => by have := h.le hj; omega
theorem Calm.bound' {l : List Int} (h : Calm l) : ∀ j, j < l.length → -1125899906842624 ≤ g l j ∧ g l j ≤ 1125899906842624 := fun j hj => by have := h.le hj; omega
theorem Calm.fire {l : List Int} {i : Nat} (h : Calm l) (hi : i < l.length) (h2 : 2 ≤ g l i) : Calm (fire1 l i) :=
  ⟨fire1_nonneg h.nonneg h2, by rw [phi_fire1 hi]; have := h.small; omega, by rw [len_fire1]; exact h.len⟩
theorem Calm.runs {l : List Int} {ps : List Nat} (h : Calm l) (hl : legal l ps) : Calm (runs l ps) :=
  ⟨runs_nonneg _ _ hl h.nonneg, by rw [phi_runs _ _ hl]; have := h.small; omega, by rw [len_runs]; exact h.len⟩
/-- How often firings are counted: no count leaves its range. -/
def Room (f l : List Int) : Prop := f.length = l.length ∧ ∀ j, j < l.length → 0 ≤ g f j ∧ g f j + phi l ≤ 1125899906842624
theorem Room.fire {f l : List Int} {i : Nat} (h : Room f l) (hi : i < l.length) : Room (f.set i (g f i + 1)) (fire1 l i) := by
  refine ⟨by rw [List.length_set, len_fire1]; exact h.1, fun j hj => ?_⟩
  rw [len_fire1] at hj
  have h1 := h.2 j hj
  have h2 := h.2 i hi
  rw [phi_fire1 hi, g_set]
  split <;> omega
theorem drop_cons {ps : List Nat} {i : Nat} (h : i < ps.length) : ps.drop i = ps[i] :: ps.drop (i + 1) := List.drop_eq_getElem_cons h
theorem settle_l1 (ps : List Nat) (hp : ps.length ≤ 1099511627776) (d : Nat) : ∀ (k : Nat) (x f : List Int) (i : Nat), 3 ≤ k → i + d = ps.length → Calm x → legal x (ps.drop i) → Room f x →
    impl_settle.l1 (k + d + 1) x f (pl ps) ((pl ps).length : Int) (i : Int) = (impl_firing.f k (runs x (ps.drop i))).bind fun t => impl_settle.l0 k (runs x (ps.drop i)) (addc f (ps.drop i)) t := by
  induction d with
  | zero =>
    intro k x f i hk hi hc hl hr
    simp only [impl_settle.l1]
    rw [if_neg (by rw [len_pl]; omega), List.drop_of_length_le (by omega), addc_nil]; rfl
  | succ d ih =>
    intro k x f i hk hi hc hl hr
    rw [drop_cons (show i < ps.length by omega)] at hl
    rw [drop_cons (show i < ps.length by omega)]
    have hlt : ps[i] < x.length := hl.1
    obtain ⟨m, hm⟩ : ∃ m, m = k + d + 1 := ⟨_, rfl⟩
    rw [show k + (d + 1) + 1 = m + 1 by omega]
    simp only [impl_settle.l1]
    rw [if_pos (by rw [len_pl]; omega), if_pos (by omega), if_pos (by rw [len_pl]; omega), rd_pl (by omega), fire_at x _ hlt (by have := hc.len; omega) hc.bound _ (by omega)]
    simp only [Option.bind_some]
    have hr1 := hr.2 _ hlt
    have hp0 := phi_nonneg hc.nonneg
    rw [if_pos (by omega), if_pos (by have := hr.1; omega), wrap_succ (by omega), rd_g, wrap_id (by omega) (by omega), Int.toNat_natCast, hm, ih k _ _ (i + 1) hk (by omega) (hc.fire hlt hl.2.1) hl.2.2 (hr.fire hlt), set_addc]
    rfl
theorem settle_l0 (n : Nat) : ∀ (l f : List Int), Calm l → phi l < n → Room f l →
    ∃ K, ∀ k, K ≤ k → impl_settle.l0 k l f (pl (places l)) = some ((rounds n l).1, addc f (rounds n l).2.1) := by
  induction n with
  | zero => intro l f hc hp _; have := phi_nonneg hc.nonneg; omega
  | succ n ih =>
    intro l f hc hp hr
    by_cases e : places l = []
    · refine ⟨1, fun k hk => ?_⟩
      obtain ⟨k, rfl⟩ : ∃ m, k = m + 1 := ⟨k - 1, by omega⟩
      simp only [impl_settle.l0, rounds]
      rw [if_neg (by rw [e]; simp [pl]), if_pos e, addc_nil]
    · have hpl := places_legal l
      have hr' : Room (addc f (places l)) (runs l (places l)) := by
        refine ⟨by rw [len_addc, len_runs]; exact hr.1, fun j hj => ?_⟩
        rw [len_runs] at hj
        have h1 := hr.2 j hj
        have h2 : (places l).count j ≤ (places l).length := List.count_le_length
        rw [g_addc _ _ _ (by rw [hr.1]; exact hj), phi_runs _ _ hpl]
        omega
      obtain ⟨K, hK⟩ := ih (runs l (places l)) (addc f (places l)) (hc.runs hpl) (by have := phi_round e; omega) hr'
      refine ⟨K + l.length + (places l).length + 6, fun k hk => ?_⟩
      obtain ⟨m, rfl⟩ : ∃ m, k = (m + (places l).length + 1) + 1 := ⟨k - (places l).length - 2, by omega⟩
      simp only [impl_settle.l0, rounds]
      rw [if_pos (by rw [len_pl]; have := nonempty_length e; omega), if_neg e]
      have h1 := settle_l1 (places l) (by have := places_le l; have := hc.len; omega) (places l).length m l f 0 (by omega) (by omega) hc (by simpa using hpl) hr
      rw [show ((0 : Nat) : Int) = 0 from rfl] at h1
      rw [h1, List.drop_zero, firing_at (by rw [len_runs]; have := hc.len; omega) (by rw [len_runs]; omega)]
      simp only [Option.bind_some]
      rw [hK m (by omega), addc_append]
theorem settle_ev {l : List Int} (hc : Calm l) (n : Nat) (hn : phi l < n) : ∃ K, ∀ k, K ≤ k → impl_settle.f k l = some ((rounds n l).1, addc (List.replicate l.length 0) (rounds n l).2.1) := by
  obtain ⟨K, hK⟩ := settle_l0 n l (List.replicate l.length 0) hc hn ⟨by simp, fun j hj => by rw [g_replicate, if_pos hj]; have := hc.small; omega⟩
  refine ⟨K + l.length + 1, fun k hk => ?_⟩
  have := hc.len
  unfold impl_settle.f slices_Clone_int_int.f
  rw [if_pos (by omega)]
  simp only [Option.bind_some]
  rw [if_pos (by omega), if_pos (by omega), firing_at (by omega) (by omega)]
  simp only [Option.bind_some, Int.toNat_natCast]
  exact hK k (by omega)
theorem l1Own_eq {l : List Int} (h : l.length ≤ 1099511627776) : spec_l1Own.f l = some l := by
  unfold spec_l1Own.f
  simp only [Option.bind_some, List.length_nil, List.nil_append]
  rw [if_pos (by omega)]
theorem Clone_eq {l : List Int} (h : l.length ≤ 1099511627776) : slices_Clone_int_int.f l = some l := by
  unfold slices_Clone_int_int.f
  rw [if_pos (by omega)]
theorem l1Has_l0 (l : List Int) (x : Int) (hL : l.length ≤ 1099511627776) (d : Nat) : ∀ (k : Nat) (i : Nat), i + d = l.length → d < k → spec_l1Has.l0 k x l (l.length : Int) (i : Int) = some (decide (x ∈ l.drop i)) := by
  induction d with
  | zero =>
    intro k i hi hk
    obtain ⟨k, rfl⟩ : ∃ m, k = m + 1 := ⟨k - 1, by omega⟩
    simp only [spec_l1Has.l0]
    rw [if_neg (by omega), List.drop_of_length_le (by omega)]; simp
  | succ d ih =>
    intro k i hi hk
    obtain ⟨k, rfl⟩ : ∃ m, k = m + 1 := ⟨k - 1, by omega⟩
    simp only [spec_l1Has.l0]
    rw [if_pos (by omega), if_pos (by omega), if_pos (by omega), wrap_succ (by omega), rd_lt (by omega), ih k (i + 1) (by omega) (by omega), List.drop_eq_getElem_cons (show i < l.length by omega)]
    by_cases c : l[i] = x
    · rw [if_pos c]; simp [c]
    · rw [if_neg c]; have : ¬ x = l[i] := fun h => c h.symm
      rw [Option.some.injEq, decide_eq_decide, List.mem_cons]; simp only [this, false_or]
theorem l1Has_at {l : List Int} {x : Int} (hL : l.length ≤ 1099511627776) {k : Nat} (hk : l.length < k) : spec_l1Has.f k l x = some (decide (x ∈ l)) := by
  unfold spec_l1Has.f
  exact l1Has_l0 l x hL l.length k 0 (by omega) hk
theorem ready_has (l : List Int) : (1 : Int) ∈ ready l ↔ places l ≠ [] := by
  constructor
  · intro h
    obtain ⟨i, hi, e⟩ := mem_g h
    rw [g_ready] at e
    rw [len_ready] at hi
    have : i ∈ places l := mem_places.2 ⟨hi, by split at e <;> first | assumption | omega⟩
    intro h; rw [h] at this; cases this
  · intro h
    obtain ⟨i, hi⟩ := List.exists_mem_of_ne_nil _ h
    obtain ⟨a, b⟩ := mem_places.1 hi
    have e := g_mem (l := ready l) (i := i) (by rw [len_ready]; exact a)
    rw [g_ready, if_pos b] at e; exact e
def addFrom (f t : List Int) (i : Nat) : List Int := (List.range f.length).map fun j => g f j + if i ≤ j then g t j else 0
theorem len_addFrom (f t : List Int) (i : Nat) : (addFrom f t i).length = f.length := by simp [addFrom]
theorem g_addFrom (f t : List Int) (i : Nat) {j : Nat} (hj : j < f.length) : g (addFrom f t i) j = g f j + if i ≤ j then g t j else 0 := by
  unfold addFrom; rw [g_range _ _ _ hj]
theorem addFrom_ready (f l : List Int) : addFrom f (ready l) 0 = addc f (places l) := by
  apply ext_g (by rw [len_addFrom, len_addc])
  intro j hj
  rw [len_addFrom] at hj
  rw [g_addFrom _ _ _ hj, g_addc _ _ _ hj, if_pos (by omega), g_ready, count_places, cast_ite01]
theorem rest_l1 (t : List Int) (ht : t.length ≤ 1048576) (d : Nat) : ∀ (k : Nat) (x f : List Int) (c : Int) (i : Nat), i + d = t.length → f.length = t.length → (∀ j, i ≤ j → j < t.length → 0 ≤ g f j ∧ g f j ≤ 1125899906842624 ∧ 0 ≤ g t j ∧ g t j ≤ 1) → 0 ≤ c ∧ c ≤ 1125899906842624 →
    spec_chRest.l1 (k + d + 1) x f c t (t.length : Int) (i : Int) = spec_chRest.l0 k x (addFrom f t i) (c + 1) := by
  induction d with
  | zero =>
    intro k x f c i hi hf hb hc
    simp only [spec_chRest.l1]
    rw [if_neg (by omega), wrap_id (by omega) (by omega)]
    congr 1
    apply ext_g (by rw [len_addFrom])
    intro j hj
    rw [g_addFrom _ _ _ hj, if_neg (by omega)]; omega
  | succ d ih =>
    intro k x f c i hi hf hb hc
    obtain ⟨m, hm⟩ : ∃ m, m = k + d + 1 := ⟨_, rfl⟩
    rw [show k + (d + 1) + 1 = m + 1 by omega]
    simp only [spec_chRest.l1]
    have h1 := hb i (by omega) (by omega)
    rw [if_pos (by omega), if_pos (by omega), if_pos (by omega), if_pos (by omega), wrap_succ (by omega), rd_g, rd_g, wrap_id (by omega) (by omega), Int.toNat_natCast, hm]
    rw [ih k x _ c (i + 1) (by omega) (by simpa using hf) ?_ hc]
    · congr 1
      apply ext_g (by rw [len_addFrom, len_addFrom, List.length_set])
      intro j hj
      rw [len_addFrom, List.length_set] at hj
      rw [g_addFrom _ _ _ (by simpa using hj), g_addFrom _ _ _ hj, g_set]
      by_cases e : i = j
      · subst e; rw [if_pos ⟨rfl, hj⟩, if_neg (by omega), if_pos (by omega)]; omega
      · rw [if_neg (by omega)]
        by_cases e2 : i ≤ j
        · rw [if_pos (by omega), if_pos (by omega)]
        · rw [if_neg (by omega), if_neg (by omega)]
    · intro j hij hj
      have h2 := hb j (by omega) hj
      rw [g_set, if_neg (by omega)]; exact h2
theorem ready_01 (l : List Int) (j : Nat) : 0 ≤ g (ready l) j ∧ g (ready l) j ≤ 1 := by rw [g_ready]; split <;> omega
theorem chRest_l0 (n : Nat) : ∀ (l f : List Int) (c : Int), Calm l → phi l < n → Room f l → 0 ≤ c ∧ c + phi l ≤ 1125899906842624 →
    ∃ K, ∀ k, K ≤ k → spec_chRest.l0 k l f c = some ((rounds n l).1, addc f (rounds n l).2.1, c + (rounds n l).2.2) := by
  induction n with
  | zero => intro l f c hc hp _ _; have := phi_nonneg hc.nonneg; omega
  | succ n ih =>
    intro l f c hc hp hr h0
    have hlen := hc.len
    by_cases e : places l = []
    · refine ⟨l.length + 2, fun k hk => ?_⟩
      obtain ⟨k, rfl⟩ : ∃ m, k = m + 1 := ⟨k - 1, by omega⟩
      simp only [spec_chRest.l0, rounds]
      rw [chReady_at (by omega) (by omega)]
      simp only [Option.bind_some]
      rw [l1Has_at (by rw [len_ready]; omega) (by rw [len_ready]; omega), l1Own_eq (by omega)]
      simp only [Option.bind_some]
      rw [if_neg (by rw [decide_eq_true_eq, ready_has]; exact fun h => h e), if_pos e, addc_nil]; simp
    · have hpl := places_legal l
      have hne := nonempty_length e
      have hr' : Room (addc f (places l)) (runs l (places l)) := by
        refine ⟨by rw [len_addc, len_runs]; exact hr.1, fun j hj => ?_⟩
        rw [len_runs] at hj
        have h1 := hr.2 j hj
        have h2 : (places l).count j ≤ (places l).length := List.count_le_length
        rw [g_addc _ _ _ (by rw [hr.1]; exact hj), phi_runs _ _ hpl]
        omega
      obtain ⟨K, hK⟩ := ih (runs l (places l)) (addc f (places l)) (c + 1) (hc.runs hpl) (by have := phi_round e; omega) hr' (by rw [phi_runs _ _ hpl]; omega)
      refine ⟨K + 2 * l.length + 6, fun k hk => ?_⟩
      obtain ⟨m, rfl⟩ : ∃ m, k = (m + l.length + 1) + 1 := ⟨k - l.length - 2, by omega⟩
      simp only [spec_chRest.l0, rounds]
      rw [chReady_at (by omega) (by omega)]
      simp only [Option.bind_some]
      rw [l1Has_at (by rw [len_ready]; omega) (by rw [len_ready]; omega)]
      simp only [Option.bind_some]
      rw [if_pos (by rw [decide_eq_true_eq, ready_has]; exact e), chFire_at (len_ready l) (by omega) hc.bound' (fun j _ => by have := ready_01 l j; omega) (by omega), if_neg e]
      simp only [Option.bind_some]
      have h1 := rest_l1 (ready l) (by rw [len_ready]; omega) l.length m (fireT l (ready l)) f c 0 (by rw [len_ready]; omega) (by rw [len_ready]; exact hr.1) (fun j _ hj => by rw [len_ready] at hj; have := hr.2 j hj; have := ready_01 l j; have := phi_nonneg hc.nonneg; omega) (by have := phi_nonneg hc.nonneg; omega)
      rw [show ((0 : Nat) : Int) = 0 from rfl] at h1
      rw [h1, fireT_ready, addFrom_ready, hK m (by omega), addc_append]
      congr 3; omega
theorem chRest_ev {l : List Int} (hc : Calm l) (n : Nat) (hn : phi l < n) : ∃ K, ∀ k, K ≤ k → spec_chRest.f k l = some ((rounds n l).1, addc (List.replicate l.length 0) (rounds n l).2.1, ((rounds n l).2.2 : Int)) := by
  obtain ⟨K, hK⟩ := chRest_l0 n l (List.replicate l.length 0) 0 hc hn ⟨by simp, fun j hj => by rw [g_replicate, if_pos hj]; have := hc.small; omega⟩ (by have := hc.small; omega)
  refine ⟨K, fun k hk => ?_⟩
  have := hc.len
  unfold spec_chRest.f
  rw [if_pos (by omega), if_pos (by omega)]
  simp only [Int.toNat_natCast]
  rw [hK k hk]; simp
/-- Chips and a place that they have. -/
def asked (l : List Int) (a : Int) : Bool := good l && inB 0 ((l.length : Int) - 1) a
theorem isPlace_eq {l : List Int} (hL : l.length ≤ 1099511627776) (a : Int) : impl_isPlace.f l a = some (asked l a) := by
  unfold impl_isPlace.f asked
  rw [impl_AreChips_eq, within_eq, wrap_id (by omega) (by omega)]
  cases good l <;> simp
theorem chAsked_at {l : List Int} (hL : l.length ≤ 1099511627776) (a : Int) {k : Nat} (hk : l.length < k) : spec_chAsked.f k l a = some (asked l a) := by
  unfold spec_chAsked.f asked
  rw [chGood_at hL hk, l1In_eq, wrap_id (by omega) (by omega)]
  cases good l <;> simp
theorem asked_nat {l : List Int} {a : Int} (h : asked l a = true) : ∃ i : Nat, a = (i : Int) ∧ i < l.length ∧ good l = true := by
  simp only [asked, inB, Bool.and_eq_true, decide_eq_true_eq] at h
  exact ⟨a.toNat, by omega, by omega, h.1⟩
theorem more_calm {l : List Int} {i : Nat} (h : good l = true) (hi : i < l.length) : Calm (l.set i (g l i + 1)) ∧ phi (l.set i (g l i + 1)) < (488001 : Nat) := by
  have hl := good_len h
  have hb : ∀ j, j < (l.set i (g l i + 1)).length → 0 ≤ g (l.set i (g l i + 1)) j ∧ g (l.set i (g l i + 1)) j ≤ 61 := fun j hj => by
    rw [List.length_set] at hj
    have h1 := good_g h hj
    have h2 := good_g h hi
    rw [g_set]; split <;> omega
  have hp := phi_le (M := 61) (by omega) hb (by rw [List.length_set]; exact hl.2)
  exact ⟨⟨fun j hj => (hb j hj).1, by omega, by rw [List.length_set]; omega⟩, by omega⟩
theorem AddChip_both {l : List Int} (hL : l.length ≤ 1099511627776) (a : Int) : ∃ (K : Nat) (r : List Int × Bool), r.1.length ≤ 1099511627776 ∧ (∀ k, K ≤ k → spec_AddChip.f k l a = some r) ∧ (∀ k, K ≤ k → impl_AddChip.f k l a = some r) := by
  cases h : asked l a with
  | false =>
    refine ⟨l.length + 1, ([], false), by simp, fun k hk => ?_, fun k hk => ?_⟩
    · unfold spec_AddChip.f; rw [chAsked_at hL a (by omega), h]; rfl
    · unfold impl_AddChip.f; rw [isPlace_eq hL, h]; rfl
  | true =>
    obtain ⟨i, rfl, hi, hg⟩ := asked_nat h
    have h1 := good_g hg hi
    obtain ⟨hc, hn⟩ := more_calm hg hi
    obtain ⟨K, hK⟩ := chRest_ev hc 488001 hn
    obtain ⟨K2, hK2⟩ := settle_ev hc 488001 hn
    have hw : wrap64 (g l i + 1) = g l i + 1 := wrap_id (by omega) (by omega)
    refine ⟨K + K2 + l.length + 1, ((rounds 488001 (l.set i (g l i + 1))).1, true), by rw [rounds_len, List.length_set]; exact hL, fun k hk => ?_, fun k hk => ?_⟩
    · unfold spec_AddChip.f; rw [chAsked_at hL _ (by omega), h, l1Own_eq hL]
      simp only [Option.bind_some, if_true]
      rw [if_pos (by omega), if_pos (by omega), rd_g, hw, Int.toNat_natCast, hK k (by omega)]; rfl
    · unfold impl_AddChip.f; rw [isPlace_eq hL, h, Clone_eq hL]
      simp only [Option.bind_some, if_true]
      rw [if_pos (by omega), if_pos (by omega), rd_g, hw, Int.toNat_natCast, hK2 k (by omega)]; rfl
theorem FnExactAddChip : laws_FnExactAddChip.Pure := by
  intro l a _ _ _ _
  unfold laws_FnExactAddChip.f
  by_cases hl : (l.length : Int) > 1048576
  · exact ⟨0, by rw [if_pos hl]⟩
  · have h0l : l.length ≤ 1099511627776 := by omega
    obtain ⟨K, r, hr, hs, hi⟩ := AddChip_both h0l a
    have hTl : ∀ k, l.length < k → laws_toIntS.f k l = some l := fun k hk => toIntS_at h0l hk
    have hEl : ∀ k, l.length < k → laws_eqIntS.f k l l = some true := fun k hk => eqIntS_at h0l hk
    have hEr : ∀ k, r.1.length < k → laws_eqIntS.f k r.1 r.1 = some true := fun k hk => eqIntS_at hr hk
    have hMl : ∀ k, l.length < k → laws_markIntS.f k l ((1 : Int)) = some ((1 : Int) + (l.length : Int), marks ((1 : Int)) l.length) := fun k hk => markIntS_at (by omega) (by omega) h0l hk
    have hMr : ∀ k, r.1.length < k → laws_markIntS.f k r.1 1 = some ((1 : Int) + (r.1.length : Int), marks 1 r.1.length) := fun k hk => markIntS_at (by omega) (by omega) hr hk
    have hHr : ∀ k, r.1.length < k → laws_heldIntS.f k (marks 1 r.1.length) 1 = some ((1 : Int) + (r.1.length : Int)) := fun k hk => heldIntS_at (by omega) (by omega) hr hk
    have hn1 : ¬ ((1 : Int) + (l.length : Int) < 0) := by omega
    have hn2 : ¬ ((1 : Int) + (r.1.length : Int) < 0) := by omega
    refine ⟨K + l.length + r.1.length + 8, ?_⟩
    rw [if_neg hl]
    simp (disch := omega) only [eq_self, hTl, hEl, hs, hi, Option.bind_some, bne_self_eq_false, if_true, if_false, Bool.false_eq_true, Bool.true_eq_false, hMl, hEr, hMr, hHr, if_neg hn1, if_neg hn2]
    simp only [laws_FnExactAddChip.j0]
    simp (disch := omega) only [eq_self, hTl, hEl, hs, hi, Option.bind_some, bne_self_eq_false, if_true, if_false, Bool.false_eq_true, Bool.true_eq_false, hMl, hEr, hMr, hHr, if_neg hn1, if_neg hn2]
    simp only [laws_FnExactAddChip.j1]
    simp (disch := omega) only [eq_self, hTl, hEl, hs, hi, Option.bind_some, bne_self_eq_false, if_true, if_false, Bool.false_eq_true, Bool.true_eq_false, hMl, hEr, hMr, hHr, if_neg hn1, if_neg hn2]
    simp only [laws_FnExactAddChip.j2]
    simp (disch := omega) only [eq_self, hTl, hEl, hs, hi, Option.bind_some, bne_self_eq_false, if_true, if_false, Bool.false_eq_true, Bool.true_eq_false, hMl, hEr, hMr, hHr, if_neg hn1, if_neg hn2]
end Go.Proofs.Ytffliklmahedoaa.Pure
