/- The statement FnOneRest over numbers and lists alone, and what it is proved by.
Conditions: those of the statement. -/
import Derived.Test.YtffliklmahedoaaPx1
import Derived.Test.YtffliklmahedoaaPx3
import Derived.Test.YtffliklmahedoaaPx5
import Derived.Test.YtffliklmahedoaaPx7
import Derived.Test.YtffliklmahedoaaPx8
import Derived.Test.YtffliklmahedoaaPx9
import Derived.Test.YtffliklmahedoaaPx12
import Derived.Test.YtffliklmahedoaaPx13
import Derived.Test.YtffliklmahedoaaPx14
import Derived.Test.YtffliklmahedoaaPx16
import Derived.Test.YtffliklmahedoaaPx17
import Derived.Test.YtffliklmahedoaaPx19
import Derived.Test.YtffliklmahedoaaPx23
import Derived.Test.YtffliklmahedoaaPx25
import Derived.Test.YtffliklmahedoaaPx30
import Derived.Test.YtffliklmahedoaaPx46
namespace Go.Proofs.Ytffliklmahedoaa.Pure
open Go.RowKit Go.Proofs.Ytffliklmahedoaa.P Go.Proofs.YtffliklmahedoaaW.PrintWords Go.Proofs.YtffliklmahedoaaW.PrintLast
set_option linter.unusedSimpArgs false
set_option linter.unusedVariables false

theorem wrap_id {x : Int} (h0 : -9223372036854775808 ≤ x) (h1 : x ≤ 9223372036854775807) : wrap64 x = x := by
  unfold wrap64; omega
theorem wrap_succ {i : Nat} (h : i < 1152921504606846976) : wrap64 ((i : Int) + 1) = ((i + 1 : Nat) : Int) := by
  rw [wrap_id (by omega) (by omega)]; omega
theorem rd_lt {l : List Int} {i : Nat} (h : i < l.length) : rd l (i : Int) = l[i] := by
  simp [rd, List.getD_eq_getElem?_getD, List.getElem?_eq_getElem h]
/-- The number at a place, 0 beyond the list. -/
def g (l : List Int) (i : Nat) : Int := l.getD i 0
theorem g_ge {l : List Int} {i : Nat} (h : l.length ≤ i) : g l i = 0 := by
  simp [g, List.getD_eq_getElem?_getD, List.getElem?_eq_none h]
theorem g_lt {l : List Int} {i : Nat} (h : i < l.length) : g l i = l[i] := by
  simp [g, List.getD_eq_getElem?_getD, List.getElem?_eq_getElem h]
theorem g_mem {l : List Int} {i : Nat} (h : i < l.length) : g l i ∈ l := by
  rw [g_lt h]; exact List.getElem_mem h
theorem mem_g {l : List Int} {x : Int} (h : x ∈ l) : ∃ i, i < l.length ∧ g l i = x := by
  obtain ⟨i, hi, rfl⟩ := List.getElem_of_mem h
  exact ⟨i, hi, g_lt hi⟩
theorem ext_g {a b : List Int} (h : a.length = b.length) (hg : ∀ i, i < a.length → g a i = g b i) : a = b := by
  apply List.ext_getElem h
  intro i h1 h2
  have := hg i h1
  rwa [g_lt h1, g_lt h2] at this
theorem g_set (l : List Int) (i : Nat) (v : Int) (j : Nat) : g (l.set i v) j = if i = j ∧ j < l.length then v else g l j := by
  by_cases hj : j < l.length
  · rw [g_lt (by simpa using hj), g_lt hj, List.getElem_set]
    by_cases e : i = j <;> simp [e, hj]
  · rw [g_ge (by simp; omega), g_ge (by omega), if_neg (by omega)]
theorem g_replicate (n : Nat) (v : Int) (j : Nat) : g (List.replicate n v) j = if j < n then v else 0 := by
  by_cases hj : j < n
  · rw [g_lt (by simpa using hj)]; simp [hj]
  · rw [g_ge (by simp; omega), if_neg hj]
theorem g_range (n : Nat) (f : Nat → Int) (j : Nat) (hj : j < n) : g ((List.range n).map f) j = f j := by
  rw [g_lt (by simpa using hj)]; simp
def sumTo : Nat → (Nat → Int) → Int
  | 0, _ => 0
  | n + 1, f => sumTo n f + f n
theorem sumTo_congr {n : Nat} {f h : Nat → Int} (e : ∀ i, i < n → f i = h i) : sumTo n f = sumTo n h := by
  induction n with
  | zero => rfl
  | succ n ih => simp only [sumTo]; rw [ih (fun i hi => e i (by omega)), e n (by omega)]
theorem sumTo_add (n : Nat) (f h : Nat → Int) : sumTo n (fun i => f i + h i) = sumTo n f + sumTo n h := by
  induction n with
  | zero => rfl
  | succ n ih => simp only [sumTo]; rw [ih]; omega
theorem sumTo_zero (n : Nat) : sumTo n (fun _ => 0) = 0 := by
  induction n with
  | zero => rfl
  | succ n ih => simp only [sumTo]; rw [ih]; rfl
theorem sumTo_delta (n i : Nat) (f : Nat → Int) : sumTo n (fun j => if j = i then f j else 0) = if i < n then f i else 0 := by
  induction n with
  | zero => rfl
  | succ n ih =>
    simp only [sumTo]; rw [ih]
    by_cases e : n = i
    · subst e; rw [if_neg (by omega), if_pos rfl, if_pos (by omega)]; omega
    · rw [if_neg e]
      by_cases h : i < n
      · rw [if_pos h, if_pos (by omega)]; omega
      · rw [if_neg h, if_neg (by omega)]; omega
theorem sumTo_nonneg {n : Nat} {f : Nat → Int} (h : ∀ i, i < n → 0 ≤ f i) : 0 ≤ sumTo n f := by
  induction n with
  | zero => exact Int.le_refl _
  | succ n ih => simp only [sumTo]; have := ih (fun i hi => h i (by omega)); have := h n (by omega); omega
theorem sumTo_ge {n : Nat} {f : Nat → Int} (h : ∀ i, i < n → 0 ≤ f i) (i : Nat) (hi : i < n) : f i ≤ sumTo n f := by
  induction n with
  | zero => omega
  | succ n ih =>
    simp only [sumTo]
    have h0 := sumTo_nonneg (n := n) (fun i hi => h i (by omega))
    by_cases e : i = n
    · subst e; omega
    · have := ih (fun i hi => h i (by omega)) (by omega); have := h n (by omega); omega
theorem sumTo_le {n : Nat} {f : Nat → Int} {M : Int} (h : ∀ i, i < n → f i ≤ M) : sumTo n f ≤ n * M := by
  induction n with
  | zero => simp [sumTo]
  | succ n ih =>
    simp only [sumTo]
    have := ih (fun i hi => h i (by omega)); have := h n (by omega)
    have e : ((n + 1 : Nat) : Int) * M = (n : Int) * M + M := by rw [Int.natCast_add, Int.add_mul]; simp
    rw [e]; omega
/-- One place fires. -/
def fire1 (l : List Int) (i : Nat) : List Int :=
  (List.range l.length).map fun j => g l j - (if j = i then 2 else 0) + (if j + 1 = i then 1 else 0) + (if j = i + 1 then 1 else 0)
theorem len_fire1 (l : List Int) (i : Nat) : (fire1 l i).length = l.length := by simp [fire1]
theorem g_fire1 {l : List Int} {j : Nat} (i : Nat) (hj : j < l.length) : g (fire1 l i) j = g l j - (if j = i then 2 else 0) + (if j + 1 = i then 1 else 0) + (if j = i + 1 then 1 else 0) := by
  unfold fire1; rw [g_range _ _ _ hj]
theorem fire1_comm (l : List Int) (i j : Nat) : fire1 (fire1 l i) j = fire1 (fire1 l j) i := by
  apply ext_g (by simp [len_fire1])
  intro k hk
  simp only [len_fire1] at hk
  rw [g_fire1 j (by rw [len_fire1]; exact hk), g_fire1 i hk, g_fire1 i (by rw [len_fire1]; exact hk), g_fire1 j hk]
  omega
theorem fire1_other {l : List Int} {i j : Nat} (h : j ≠ i) (hj : j < l.length) : g l j ≤ g (fire1 l i) j := by
  rw [g_fire1 i hj, if_neg h]; split <;> split <;> omega
theorem fire1_nonneg {l : List Int} {i : Nat} (h : ∀ j, j < l.length → 0 ≤ g l j) (h2 : 2 ≤ g l i) : ∀ j, j < (fire1 l i).length → 0 ≤ g (fire1 l i) j := by
  intro j hj
  rw [len_fire1] at hj
  by_cases e : j = i
  · subst e; rw [g_fire1 _ hj]; omega
  · have := fire1_other e hj; have := h j hj; omega
def dot (w : Nat → Int) (l : List Int) : Int := sumTo l.length (fun j => w j * g l j)
theorem dot_fire1 (w : Nat → Int) (l : List Int) (i : Nat) (hi : i < l.length) :
    dot w (fire1 l i) = dot w l - 2 * w i + (if 0 < i then w (i - 1) else 0) + (if i + 1 < l.length then w (i + 1) else 0) := by
  unfold dot
  rw [len_fire1]
  have e : sumTo l.length (fun j => w j * g (fire1 l i) j) = sumTo l.length (fun j => (w j * g l j + (if j = i then -2 * w j else 0)) + ((if j + 1 = i then w j else 0) + (if j = i + 1 then w j else 0))) := by
    apply sumTo_congr
    intro j hj
    rw [g_fire1 i hj]
    by_cases a : j = i
    · rw [if_pos a, if_pos a, if_neg (by omega), if_neg (by omega), if_neg (by omega), if_neg (by omega), Int.mul_add, Int.mul_add, Int.mul_sub]; omega
    · rw [if_neg a, if_neg a]
      by_cases b : j + 1 = i
      · rw [if_pos b, if_pos b, if_neg (by omega), if_neg (by omega), Int.mul_add, Int.mul_add, Int.mul_sub]; omega
      · rw [if_neg b, if_neg b]
        by_cases c : j = i + 1
        · rw [if_pos c, if_pos c, Int.mul_add, Int.mul_add, Int.mul_sub]; omega
        · rw [if_neg c, if_neg c, Int.mul_add, Int.mul_add, Int.mul_sub]; omega
  rw [e, sumTo_add, sumTo_add, sumTo_add, sumTo_delta _ _ (fun j => -2 * w j), sumTo_delta _ _ w, if_pos hi]
  have e2 : sumTo l.length (fun j => if j + 1 = i then w j else 0) = if 0 < i then w (i - 1) else 0 := by
    cases i with
    | zero => simp [sumTo_zero]
    | succ i =>
      rw [sumTo_congr (h := fun j => if j = i then w j else 0) (fun j _ => by simp), sumTo_delta _ _ w, if_pos (by omega), if_pos (by omega)]; rfl
  rw [e2]
  omega
/-- The weight of a chip: it shrinks by 2 with each firing. -/
def wt (L : Nat) (i : Nat) : Int := ((i : Int) + 1) * ((L : Int) - i)
theorem wt_pos {L i : Nat} (h : i < L) : 1 ≤ wt L i := by
  unfold wt
  have h1 : (1 : Int) ≤ (i : Int) + 1 := by omega
  have h2 : (1 : Int) ≤ (L : Int) - i := by omega
  have := Int.mul_le_mul h1 h2 (by omega) (by omega)
  omega
def phi (l : List Int) : Int := dot (wt l.length) l
theorem phi_fire1 {l : List Int} {i : Nat} (hi : i < l.length) : phi (fire1 l i) = phi l - 2 := by
  unfold phi
  rw [len_fire1, dot_fire1 _ _ _ hi]
  have e1 : (if 0 < i then wt l.length (i - 1) else 0) = (i : Int) * ((l.length : Int) - i + 1) := by
    cases i with
    | zero => simp
    | succ i => rw [if_pos (by omega)]; unfold wt; simp only [Nat.add_sub_cancel]; congr 1; omega
  have e2 : (if i + 1 < l.length then wt l.length (i + 1) else 0) = ((i : Int) + 2) * ((l.length : Int) - i - 1) := by
    split
    · unfold wt
      have a : ((i + 1 : Nat) : Int) + 1 = (i : Int) + 2 := by omega
      have b : (l.length : Int) - ((i + 1 : Nat) : Int) = (l.length : Int) - i - 1 := by omega
      rw [a, b]
    · have b : (l.length : Int) - i - 1 = 0 := by omega
      rw [b, Int.mul_zero]
  rw [e1, e2]
  unfold wt
  generalize (l.length : Int) = L
  generalize (i : Int) = x
  grind
theorem phi_ge {l : List Int} (h : ∀ j, j < l.length → 0 ≤ g l j) {i : Nat} (hi : i < l.length) : g l i ≤ phi l := by
  have h0 : ∀ j, j < l.length → 0 ≤ wt l.length j * g l j := fun j hj => Int.mul_nonneg (by have := wt_pos hj; omega) (h j hj)
  have h1 := sumTo_ge h0 i hi
  have h2 : 1 * g l i ≤ wt l.length i * g l i := Int.mul_le_mul_of_nonneg_right (wt_pos hi) (h i hi)
  unfold phi dot
  omega
theorem phi_nonneg {l : List Int} (h : ∀ j, j < l.length → 0 ≤ g l j) : 0 ≤ phi l :=
  sumTo_nonneg (fun j hj => Int.mul_nonneg (by have := wt_pos hj; omega) (h j hj))
def runs (l : List Int) : List Nat → List Int
  | [] => l
  | i :: ps => runs (fire1 l i) ps
def legal (l : List Int) : List Nat → Prop
  | [] => True
  | i :: ps => i < l.length ∧ 2 ≤ g l i ∧ legal (fire1 l i) ps
theorem len_runs (ps : List Nat) : ∀ l : List Int, (runs l ps).length = l.length := by
  induction ps with
  | nil => intro l; rfl
  | cons i ps ih => intro l; simp only [runs]; rw [ih, len_fire1]
theorem runs_append (ps qs : List Nat) : ∀ l : List Int, runs l (ps ++ qs) = runs (runs l ps) qs := by
  induction ps with
  | nil => intro l; rfl
  | cons i ps ih => intro l; simp only [runs, List.cons_append]; exact ih _
theorem legal_append (ps qs : List Nat) : ∀ l : List Int, legal l (ps ++ qs) ↔ legal l ps ∧ legal (runs l ps) qs := by
  induction ps with
  | nil => intro l; simp [legal, runs]
  | cons i ps ih => intro l; simp only [legal, runs, List.cons_append]; rw [ih]; constructor <;> (intro h; simp_all)
theorem runs_nonneg (ps : List Nat) : ∀ l : List Int, legal l ps → (∀ j, j < l.length → 0 ≤ g l j) → ∀ j, j < (runs l ps).length → 0 ≤ g (runs l ps) j := by
  induction ps with
  | nil => intro l _ h; exact h
  | cons i ps ih => intro l hl h; exact ih _ hl.2.2 (fire1_nonneg h hl.2.1)
theorem phi_runs (ps : List Nat) : ∀ l : List Int, legal l ps → phi (runs l ps) = phi l - 2 * ps.length := by
  induction ps with
  | nil => intro l _; simp [runs]
  | cons i ps ih => intro l hl; simp only [runs, List.length_cons]; rw [ih _ hl.2.2, phi_fire1 hl.1]; omega
/-- Different places that can all fire may fire one behind the other. -/
theorem legal_of_nodup (ps : List Nat) : ∀ l : List Int, ps.Nodup → (∀ i ∈ ps, i < l.length ∧ 2 ≤ g l i) → legal l ps := by
  induction ps with
  | nil => intro l _ _; trivial
  | cons i ps ih =>
    intro l hn h
    refine ⟨(h i (by simp)).1, (h i (by simp)).2, ih _ (List.nodup_cons.1 hn).2 fun j hj => ?_⟩
    have hij : j ≠ i := fun e => (List.nodup_cons.1 hn).1 (e ▸ hj)
    have h2 := h j (by simp [hj])
    exact ⟨by rw [len_fire1]; exact h2.1, Int.le_trans h2.2 (fire1_other hij h2.1)⟩
def stable (l : List Int) : Prop := ∀ i, i < l.length → g l i ≤ 1
/-- A place that can fire must fire before rest: it may fire first. -/
theorem fire_first (qs : List Nat) : ∀ (l : List Int) (i : Nat), i < l.length → 2 ≤ g l i → legal l qs → stable (runs l qs) →
    ∃ qs', legal l (i :: qs') ∧ runs l (i :: qs') = runs l qs ∧ ∀ j, (i :: qs').count j = qs.count j := by
  induction qs with
  | nil => intro l i hi h2 _ hs; have := hs i hi; simp only [runs] at this; omega
  | cons q qs ih =>
    intro l i hi h2 hl hs
    by_cases e : q = i
    · subst e; exact ⟨qs, hl, rfl, fun _ => rfl⟩
    · have h3 : 2 ≤ g (fire1 l q) i := Int.le_trans h2 (fire1_other (fun h => e h.symm) hi)
      obtain ⟨qs', a, b, c⟩ := ih (fire1 l q) i (by rw [len_fire1]; exact hi) h3 hl.2.2 hs
      refine ⟨q :: qs', ⟨hi, h2, by rw [len_fire1]; exact hl.1, Int.le_trans hl.2.1 (fire1_other e hl.1), ?_⟩, ?_, fun j => ?_⟩
      · rw [fire1_comm]; exact a.2.2
      · simp only [runs] at b ⊢; rw [fire1_comm]; exact b
      · have := c j; simp only [List.count_cons] at this ⊢; omega
/-- One rest, and each place fires as often, whatever the order. -/
theorem one_rest (ps : List Nat) : ∀ (l : List Int) (qs : List Nat), legal l ps → stable (runs l ps) → legal l qs → stable (runs l qs) →
    runs l ps = runs l qs ∧ ∀ j, ps.count j = qs.count j := by
  induction ps with
  | nil =>
    intro l qs _ hs hq _
    cases qs with
    | nil => exact ⟨rfl, fun _ => rfl⟩
    | cons q qs => have := hs q hq.1; have := hq.2.1; simp only [runs] at *; omega
  | cons i ps ih =>
    intro l qs hl hs hq hsq
    obtain ⟨qs', a, b, c⟩ := fire_first qs l i hl.1 hl.2.1 hq hsq
    obtain ⟨d, e⟩ := ih (fire1 l i) qs' hl.2.2 hs a.2.2 (by rw [← b] at hsq; exact hsq)
    exact ⟨by simp only [runs] at b ⊢; rw [d, b], fun j => by rw [← c j]; simp only [List.count_cons]; rw [e j]⟩
/-- The places that can fire. -/
def places (l : List Int) : List Nat := (List.range l.length).filter fun i => decide (2 ≤ g l i)
theorem mem_places {l : List Int} {i : Nat} : i ∈ places l ↔ i < l.length ∧ 2 ≤ g l i := by simp [places]
theorem places_legal (l : List Int) : legal l (places l) :=
  legal_of_nodup _ _ (List.Pairwise.filter _ List.nodup_range) (fun _ h => mem_places.1 h)
theorem places_nil {l : List Int} : places l = [] ↔ stable l := by
  constructor
  · intro h i hi
    by_cases c : g l i ≤ 1
    · exact c
    · have : i ∈ places l := mem_places.2 ⟨hi, by omega⟩
      rw [h] at this; cases this
  · intro h
    rw [List.eq_nil_iff_forall_not_mem]
    intro i hi
    obtain ⟨a, b⟩ := mem_places.1 hi
    have := h i a; omega
/-- Rounds: the rest that is come to, the places that fire, how many rounds. -/
def rounds : Nat → List Int → List Int × List Nat × Nat
  | 0, l => (l, [], 0)
  | n + 1, l => if places l = [] then (l, [], 0) else
    ((rounds n (runs l (places l))).1, places l ++ (rounds n (runs l (places l))).2.1, (rounds n (runs l (places l))).2.2 + 1)
theorem rounds_runs (n : Nat) : ∀ l : List Int, legal l (rounds n l).2.1 ∧ runs l (rounds n l).2.1 = (rounds n l).1 := by
  induction n with
  | zero => intro l; exact ⟨trivial, rfl⟩
  | succ n ih =>
    intro l
    simp only [rounds]
    split
    · exact ⟨trivial, rfl⟩
    · obtain ⟨a, b⟩ := ih (runs l (places l))
      exact ⟨(legal_append _ _ _).2 ⟨places_legal l, a⟩, by rw [runs_append]; exact b⟩
theorem rounds_len (n : Nat) (l : List Int) : (rounds n l).1.length = l.length := by
  rw [← (rounds_runs n l).2, len_runs]
theorem nonempty_length {ps : List Nat} (h : ps ≠ []) : 1 ≤ ps.length := by
  cases ps with
  | nil => exact absurd rfl h
  | cons _ _ => simp
theorem phi_round {l : List Int} (h : places l ≠ []) : phi (runs l (places l)) ≤ phi l - 2 := by
  rw [phi_runs _ _ (places_legal l)]
  have := nonempty_length h
  omega
theorem rounds_stable (n : Nat) : ∀ l : List Int, (∀ j, j < l.length → 0 ≤ g l j) → phi l < n → stable (rounds n l).1 := by
  induction n with
  | zero => intro l h hp; have := phi_nonneg h; omega
  | succ n ih =>
    intro l h hp
    simp only [rounds]
    split
    · rename_i e; exact places_nil.1 e
    · rename_i e
      exact ih _ (runs_nonneg _ _ (places_legal l) h) (by have := phi_round e; omega)
theorem rounds_nonneg (n : Nat) (l : List Int) (h : ∀ j, j < l.length → 0 ≤ g l j) : ∀ j, j < (rounds n l).1.length → 0 ≤ g (rounds n l).1 j := by
  rw [← (rounds_runs n l).2]
  exact runs_nonneg _ _ (rounds_runs n l).1 h
/-- Enough rounds come to one rest: the rest behind whatever legal firings. -/
theorem rest_of_legal {l : List Int} {ps : List Nat} {n m : Nat} (h : ∀ j, j < l.length → 0 ≤ g l j) (hl : legal l ps) (hn : phi l < n) (hm : phi (runs l ps) < m) :
    (rounds n l).1 = (rounds m (runs l ps)).1 ∧ ∀ j, (rounds n l).2.1.count j = ps.count j + (rounds m (runs l ps)).2.1.count j := by
  have hs := rounds_stable n l h hn
  have hs2 := rounds_stable m (runs l ps) (runs_nonneg _ _ hl h) hm
  obtain ⟨a, b⟩ := rounds_runs n l
  obtain ⟨c, d⟩ := rounds_runs m (runs l ps)
  have e := one_rest (rounds n l).2.1 l (ps ++ (rounds m (runs l ps)).2.1) a (by rw [b]; exact hs) ((legal_append _ _ _).2 ⟨hl, c⟩) (by rw [runs_append, d]; exact hs2)
  refine ⟨?_, fun j => ?_⟩
  · rw [← b, e.1, runs_append, d]
  · rw [e.2 j, List.count_append]
/-- How often each place fires, added to a list. -/
def addc (f : List Int) (ps : List Nat) : List Int := (List.range f.length).map fun i => g f i + ps.count i
theorem len_addc (f : List Int) (ps : List Nat) : (addc f ps).length = f.length := by simp [addc]
theorem g_addc (f : List Int) (ps : List Nat) (i : Nat) (hi : i < f.length) : g (addc f ps) i = g f i + ps.count i := by
  unfold addc; rw [g_range _ _ _ hi]
theorem addc_nil (f : List Int) : addc f [] = f := by
  apply ext_g (len_addc _ _)
  intro i hi; rw [len_addc] at hi; rw [g_addc _ _ _ hi]; simp
theorem addc_append (f : List Int) (ps qs : List Nat) : addc (addc f ps) qs = addc f (ps ++ qs) := by
  apply ext_g (by simp [len_addc])
  intro i hi
  simp only [len_addc] at hi
  rw [g_addc _ _ _ (by rw [len_addc]; exact hi), g_addc _ _ _ hi, g_addc _ _ _ hi, List.count_append]
  omega
theorem set_addc (f : List Int) (i : Nat) (ps : List Nat) : addc (f.set i (g f i + 1)) ps = addc f (i :: ps) := by
  apply ext_g (by simp [len_addc])
  intro j hj
  simp only [len_addc, List.length_set] at hj
  rw [g_addc _ _ _ (by simpa using hj), g_addc _ _ _ hj, g_set, List.count_cons]
  by_cases e : i = j
  · subst e; simp [hj]; omega
  · simp [e]
theorem phi_le {l : List Int} {M : Int} (hM : 0 ≤ M) (h : ∀ j, j < l.length → 0 ≤ g l j ∧ g l j ≤ M) (hl : l.length ≤ 20) : phi l ≤ 20 * (400 * M) := by
  have h1 : ∀ i, i < l.length → wt l.length i * g l i ≤ 400 * M := fun i hi => by
    have h2 := h i hi
    have w0 := wt_pos hi
    have w1 : wt l.length i ≤ 20 * 20 := by
      unfold wt
      exact Int.mul_le_mul (by omega) (by omega) (by omega) (by omega)
    exact Int.mul_le_mul (by omega) h2.2 h2.1 (by omega)
  have h3 := sumTo_le h1
  unfold phi dot
  have h4 : (l.length : Int) * (400 * M) ≤ 20 * (400 * M) := Int.mul_le_mul_of_nonneg_right (by omega) (by omega)
  omega
theorem rd_g (l : List Int) (i : Nat) : rd l (i : Int) = g l i := by simp [rd, g]
theorem rd_toNat (l : List Int) (i : Int) : rd l i = g l i.toNat := rfl
theorem drop_eq_self {l : List Int} {i : Nat} (h : i < l.length) : l.drop i = g l i :: l.drop (i + 1) := by rw [List.drop_eq_getElem_cons h, g_lt h]
theorem inB_iff {p q x : Int} : inB p q x = true ↔ p ≤ x ∧ x ≤ q := by simp [inB]
/-- Valid chips, as a Bool. -/
def good (l : List Int) : Bool := decide (1 ≤ l.length) && decide (l.length ≤ 20) && l.all (inB 0 60)
theorem within_eq (a b c : Int) : impl_within.f a b c = some (inB b c a) := by
  unfold impl_within.f inB
  by_cases h : a ≥ b <;> simp [h] <;> omega
theorem l1In_eq (a b c : Int) : spec_l1In.f a b c = some (inB b c a) := by
  unfold spec_l1In.f inB
  by_cases h : a ≥ b <;> simp [h] <;> omega
theorem impl_AreChips_eq (l : List Int) : impl_AreChips.f l = some (good l) := by
  unfold impl_AreChips.f impl_areIn.f
  rw [within_eq]
  simp only [Option.bind_some]
  by_cases h : inB 1 20 (l.length : Int) = true
  · rw [if_pos h]
    simp only [inB, Bool.and_eq_true, decide_eq_true_eq] at h
    congr 1; unfold good
    rw [decide_eq_true (by omega : 1 ≤ l.length), decide_eq_true (by omega : l.length ≤ 20)]; rfl
  · rw [if_neg h]
    congr 1; unfold good
    simp only [inB, Bool.and_eq_true, decide_eq_true_eq] at h
    by_cases a : 1 ≤ l.length
    · rw [decide_eq_false (by omega : ¬ l.length ≤ 20)]; simp
    · rw [decide_eq_false a]; simp
theorem l1All_l0 (p q : Int) (l : List Int) (hl : l.length ≤ 1099511627776) (d : Nat) : ∀ (k : Nat) (i : Nat), i + d = l.length → d < k →
    spec_l1All.l0 k p q l (l.length : Int) (i : Int) = some ((l.drop i).all (inB p q)) := by
  induction d with
  | zero =>
    intro k i hi hk
    obtain ⟨k, rfl⟩ : ∃ m, k = m + 1 := ⟨k - 1, by omega⟩
    simp only [spec_l1All.l0]
    rw [if_neg (by omega), List.drop_of_length_le (by omega)]; rfl
  | succ d ih =>
    intro k i hi hk
    obtain ⟨k, rfl⟩ : ∃ m, k = m + 1 := ⟨k - 1, by omega⟩
    simp only [spec_l1All.l0]
    rw [if_pos (by omega), if_pos (by omega), if_pos (by omega), l1In_eq, rd_lt (by omega), List.drop_eq_getElem_cons (show i < l.length by omega), List.all_cons]
    simp only [Option.bind_some]
    by_cases h : inB p q l[i] = true
    · rw [if_pos h, h, wrap_succ (by omega), ih k (i + 1) (by omega) (by omega)]; rfl
    · rw [if_neg h, Bool.eq_false_iff.2 h]; rfl
theorem l1All_at (p q : Int) {l : List Int} (hl : l.length ≤ 1099511627776) {k : Nat} (hk : l.length < k) : spec_l1All.f k l p q = some (l.all (inB p q)) := by
  unfold spec_l1All.f
  have := l1All_l0 p q l hl l.length k 0 (by omega) hk
  simpa using this
theorem chGood_at {l : List Int} (hl : l.length ≤ 1099511627776) {k : Nat} (hk : l.length < k) : spec_chGood.f k l = some (good l) := by
  unfold spec_chGood.f
  rw [l1In_eq]
  simp only [Option.bind_some]
  have e := impl_AreChips_eq l
  unfold impl_AreChips.f impl_areIn.f at e
  rw [within_eq] at e
  simp only [Option.bind_some] at e
  rw [← e, l1All_at _ _ hl hk]
  rfl
theorem good_len {l : List Int} (h : good l = true) : 1 ≤ l.length ∧ l.length ≤ 20 := by
  simp only [good, Bool.and_eq_true, decide_eq_true_eq] at h; exact h.1
theorem good_g {l : List Int} (h : good l = true) {i : Nat} (hi : i < l.length) : 0 ≤ g l i ∧ g l i ≤ 60 := by
  simp only [good, Bool.and_eq_true, List.all_eq_true] at h
  have := h.2 _ (g_mem hi)
  simp only [inB, Bool.and_eq_true, decide_eq_true_eq] at this; exact this
theorem good_phi {l : List Int} (h : good l = true) : phi l ≤ 480000 := by
  have := phi_le (l := l) (M := 60) (by omega) (fun j hj => good_g h hj) (good_len h).2
  omega
theorem side_in {k : Nat} {x : List Int} {c : Int} {y : List Int} {j s : Nat} (hj : j < y.length) (hy : y.length ≤ 1099511627776) (hs : rd y (j : Int) = (s : Int)) (hx : s < x.length) (hL : x.length ≤ 1099511627776) (hb : -1125899906842624 ≤ g x s ∧ g x s ≤ 1125899906842624) :
    impl_fire.l0 (k + 1) x c y (y.length : Int) (j : Int) = impl_fire.l0 k (x.set s (g x s + 1)) c y (y.length : Int) ((j + 1 : Nat) : Int) := by
  simp only [impl_fire.l0]
  rw [if_pos (by omega), if_pos (by omega), if_pos (by omega), hs, within_eq]
  simp only [Option.bind_some]
  rw [wrap_id (x := (x.length : Int) - 1) (by omega) (by omega), if_pos (by simp [inB]; omega), if_pos (by omega), if_pos (by omega), wrap_succ (by omega), rd_g, wrap_id (by omega) (by omega), Int.toNat_natCast]
theorem side_out {k : Nat} {x : List Int} {c s : Int} {y : List Int} {j : Nat} (hj : j < y.length) (hy : y.length ≤ 1099511627776) (hs : rd y (j : Int) = s) (hx : s < 0 ∨ (x.length : Int) ≤ s) (hL : x.length ≤ 1099511627776) (hc : 0 ≤ c ∧ c ≤ 10) :
    impl_fire.l0 (k + 1) x c y (y.length : Int) (j : Int) = impl_fire.l0 k x (c + 1) y (y.length : Int) ((j + 1 : Nat) : Int) := by
  simp only [impl_fire.l0]
  rw [if_pos (by omega), if_pos (by omega), if_pos (by omega), hs, within_eq]
  simp only [Option.bind_some]
  rw [wrap_id (x := (x.length : Int) - 1) (by omega) (by omega), if_neg (by simp [inB]; omega), wrap_succ (by omega), wrap_id (by omega) (by omega)]
theorem side_end {k : Nat} {x : List Int} {c : Int} {y : List Int} {j : Nat} (hj : y.length ≤ j) : impl_fire.l0 (k + 1) x c y (y.length : Int) (j : Int) = some (c, x) := by
  simp only [impl_fire.l0]
  rw [if_neg (by omega)]
theorem fire_val {l r : List Int} {i : Nat} (hi : i < l.length) (hlen : r.length = l.length) (h0 : g r i = g l i - 2) (h1 : 0 < i → g r (i - 1) = g l (i - 1) + 1) (h2 : i + 1 < l.length → g r (i + 1) = g l (i + 1) + 1)
    (h3 : ∀ j, j < l.length → j ≠ i → j + 1 ≠ i → j ≠ i + 1 → g r j = g l j) : r = fire1 l i := by
  apply ext_g (by rw [len_fire1]; exact hlen)
  intro j hj
  rw [hlen] at hj
  rw [g_fire1 _ hj]
  by_cases a : j = i
  · subst a; rw [h0]; omega
  · by_cases b : j + 1 = i
    · have e : i - 1 = j := by omega
      have := h1 (by omega)
      rw [e] at this; rw [this]; omega
    · by_cases c : j = i + 1
      · subst c; rw [h2 hj]; omega
      · rw [h3 j hj a b c]; omega
theorem fire_at (l : List Int) (i : Nat) (hi : i < l.length) (hL : l.length ≤ 1099511627776) (hb : ∀ j, j < l.length → -1125899906842620 ≤ g l j ∧ g l j ≤ 1125899906842620) (k : Nat) (hk : 3 ≤ k) :
    impl_fire.f k l (i : Int) = some ((if i = 0 then 1 else 0) + (if i + 1 = l.length then 1 else 0), fire1 l i) := by
  obtain ⟨k, rfl⟩ : ∃ m, k = m + 3 := ⟨k - 3, by omega⟩
  unfold impl_fire.f
  have hbi := hb i hi
  rw [if_pos (by omega), if_pos (by omega), wrap_id (x := (i : Int) - 1) (by omega) (by omega), wrap_id (x := (i : Int) + 1) (by omega) (by omega), rd_g, wrap_id (x := g l i - 2) (by omega) (by omega), Int.toNat_natCast]
  simp only [Option.bind_some]
  have e0 : rd [(i : Int) - 1, (i : Int) + 1] ((0 : Nat) : Int) = (i : Int) - 1 := rfl
  have e1 : rd [(i : Int) - 1, (i : Int) + 1] ((1 : Nat) : Int) = (i : Int) + 1 := rfl
  have eL : (l.set i (g l i - 2)).length = l.length := List.length_set ..
  have gs : ∀ j, j < l.length → -1125899906842622 ≤ g (l.set i (g l i - 2)) j ∧ g (l.set i (g l i - 2)) j ≤ 1125899906842622 := by
    intro j hj
    rw [g_set]; have := hb j hj; split <;> omega
  show impl_fire.l0 (k + 2 + 1) (l.set i (g l i - 2)) 0 [(i : Int) - 1, (i : Int) + 1] (([(i : Int) - 1, (i : Int) + 1] : List Int).length : Int) ((0 : Nat) : Int) = _
  by_cases a : i = 0
  · rw [side_out (by simp) (by simp) e0 (by omega) (by rw [eL]; exact hL) (by omega)]
    by_cases b : i + 1 = l.length
    · rw [side_out (by simp) (by simp) e1 (by rw [eL]; omega) (by rw [eL]; exact hL) (by omega), side_end (by simp), if_pos a, if_pos b]
      congr 2
      refine fire_val hi (by simp) ?_ ?_ ?_ ?_ <;> (try intro j hj j1 j2 j3) <;> (try intro h_) <;> simp only [g_set, List.length_set, true_and] <;> (repeat' split) <;> omega
    · rw [side_in (s := i + 1) (by simp) (by simp) (by rw [e1]; rfl) (by rw [eL]; omega) (by rw [eL]; exact hL) (by have := gs (i + 1) (by omega); omega), side_end (by simp), if_pos a, if_neg b]
      congr 2
      refine fire_val hi (by simp) ?_ ?_ ?_ ?_ <;> (try intro j hj j1 j2 j3) <;> (try intro h_) <;> simp only [g_set, List.length_set, true_and] <;> (repeat' split) <;> omega
  · rw [side_in (s := i - 1) (by simp) (by simp) (by rw [e0]; omega) (by rw [eL]; omega) (by rw [eL]; exact hL) (by have := gs (i - 1) (by omega); omega)]
    have eL2 : ((l.set i (g l i - 2)).set (i - 1) (g (l.set i (g l i - 2)) (i - 1) + 1)).length = l.length := by simp
    by_cases b : i + 1 = l.length
    · rw [side_out (by simp) (by simp) e1 (by rw [eL2]; omega) (by rw [eL2]; exact hL) (by omega), side_end (by simp), if_neg a, if_pos b]
      congr 2
      refine fire_val hi (by simp) ?_ ?_ ?_ ?_ <;> (try intro j hj j1 j2 j3) <;> (try intro h_) <;> simp only [g_set, List.length_set, true_and] <;> (repeat' split) <;> omega
    · rw [side_in (s := i + 1) (by simp) (by simp) (by rw [e1]; rfl) (by rw [eL2]; omega) (by rw [eL2]; exact hL) (by rw [g_set]; have := gs (i + 1) (by omega); split <;> omega), side_end (by simp), if_neg a, if_neg b]
      congr 2
      refine fire_val hi (by simp) ?_ ?_ ?_ ?_ <;> (try intro j hj j1 j2 j3) <;> (try intro h_) <;> simp only [g_set, List.length_set, true_and] <;> (repeat' split) <;> omega
/-- The reference's firing of all places so often. -/
def fireT (l t : List Int) : List Int := (List.range l.length).map fun j => g l j - 2 * g t j + (if 0 < j then g t (j - 1) else 0) + g t (j + 1)
theorem len_fireT (l t : List Int) : (fireT l t).length = l.length := by simp [fireT]
theorem g_fireT {l : List Int} (t : List Int) {j : Nat} (hj : j < l.length) : g (fireT l t) j = g l j - 2 * g t j + (if 0 < j then g t (j - 1) else 0) + g t (j + 1) := by
  unfold fireT; rw [g_range _ _ _ hj]
theorem take_snoc (l : List Int) (i : Nat) (h : i < l.length) : l.take (i + 1) = l.take i ++ [g l i] := by
  rw [List.take_succ_eq_append_getElem h, g_lt h]
set_option maxHeartbeats 1000000 in
theorem chFire_l0 (l t : List Int) (ht : t.length = l.length) (hL : l.length ≤ 1099511627776) (hb : ∀ j, j < l.length → -1125899906842624 ≤ g l j ∧ g l j ≤ 1125899906842624) (hc : ∀ j, j < l.length → 0 ≤ g t j ∧ g t j ≤ 1125899906842624)
    (d : Nat) : ∀ (k : Nat) (i : Nat), i + d = l.length → d < k → spec_chFire.l0 k l t ((fireT l t).take i) l (l.length : Int) (i : Int) = some (fireT l t) := by
  induction d with
  | zero =>
    intro k i hi hk
    obtain ⟨k, rfl⟩ : ∃ m, k = m + 1 := ⟨k - 1, by omega⟩
    simp only [spec_chFire.l0]
    rw [if_neg (by omega), List.take_of_length_le (by rw [len_fireT]; omega)]
  | succ d ih =>
    intro k i hi hk
    obtain ⟨k, rfl⟩ : ∃ m, k = m + 1 := ⟨k - 1, by omega⟩
    have h1 := hb i (by omega)
    have h2 := hc i (by omega)
    have hih := ih k (i + 1) (by omega) (by omega)
    have hlen : ((fireT l t).take i).length = i := by rw [List.length_take, len_fireT]; omega
    rw [take_snoc _ _ (by rw [len_fireT]; omega), g_fireT _ (by omega)] at hih
    simp only [spec_chFire.l0]
    rw [if_pos (by omega), if_pos (by omega), if_pos (by omega), if_pos (by omega), wrap_succ (by omega), hlen, rd_g, rd_g]
    by_cases a : 0 < i
    · have h3 := hc (i - 1) (by omega)
      rw [if_pos (by omega), wrap_id (x := (i : Int) - 1) (by omega) (by omega), if_pos (by omega), if_pos (by omega), show (i : Int) - 1 = ((i - 1 : Nat) : Int) by omega, rd_g]
      rw [if_pos a] at hih
      by_cases b : i + 1 < l.length
      · have h4 := hc (i + 1) b
        rw [if_pos (by omega), if_pos (by omega), if_pos (by omega), if_pos (by omega), rd_g, wrap_id (x := 2 * g t i) (by omega) (by omega), wrap_id (x := g l i - 2 * g t i) (by omega) (by omega), wrap_id (x := g l i - 2 * g t i + g t (i - 1)) (by omega) (by omega), wrap_id (by omega) (by omega)]
        exact hih
      · rw [if_neg (by omega), if_pos (by omega), wrap_id (x := 2 * g t i) (by omega) (by omega), wrap_id (x := g l i - 2 * g t i) (by omega) (by omega), wrap_id (by omega) (by omega)]
        rw [g_ge (l := t) (i := i + 1) (by omega), Int.add_zero] at hih
        exact hih
    · rw [if_neg (by omega)]
      rw [if_neg a, Int.add_zero] at hih
      by_cases b : i + 1 < l.length
      · have h4 := hc (i + 1) b
        rw [if_pos (by omega), if_pos (by omega), if_pos (by omega), if_pos (by omega), rd_g, wrap_id (x := 2 * g t i) (by omega) (by omega), wrap_id (x := g l i - 2 * g t i) (by omega) (by omega), wrap_id (by omega) (by omega)]
        exact hih
      · rw [if_neg (by omega), if_pos (by omega), wrap_id (x := 2 * g t i) (by omega) (by omega), wrap_id (by omega) (by omega)]
        rw [g_ge (l := t) (i := i + 1) (by omega), Int.add_zero] at hih
        exact hih
theorem chFire_at {l t : List Int} (ht : t.length = l.length) (hL : l.length ≤ 1099511627776) (hb : ∀ j, j < l.length → -1125899906842624 ≤ g l j ∧ g l j ≤ 1125899906842624) (hc : ∀ j, j < l.length → 0 ≤ g t j ∧ g t j ≤ 1125899906842624)
    {k : Nat} (hk : l.length < k) : spec_chFire.f k l t = some (fireT l t) := by
  unfold spec_chFire.f
  have := chFire_l0 l t ht hL hb hc l.length k 0 (by omega) hk
  simpa using this
/-- One firing of one place. -/
def once (n i : Nat) : List Int := (List.replicate n 0).set i 1
theorem len_once (n i : Nat) : (once n i).length = n := by simp [once]
theorem g_once (n i j : Nat) : g (once n i) j = if i = j ∧ j < n then 1 else 0 := by
  unfold once; rw [g_set, g_replicate, List.length_replicate]
  by_cases h : i = j ∧ j < n
  · rw [if_pos h, if_pos h]
  · rw [if_neg h, if_neg h]; split <;> rfl
theorem once_01 (n i j : Nat) : 0 ≤ g (once n i) j ∧ g (once n i) j ≤ 1 := by rw [g_once]; split <;> omega
theorem fireT_once {l : List Int} {i : Nat} (hi : i < l.length) : fireT l (once l.length i) = fire1 l i := by
  apply ext_g (by rw [len_fireT, len_fire1])
  intro j hj
  rw [len_fireT] at hj
  rw [g_fireT _ hj, g_fire1 _ hj, g_once, g_once, g_once]
  omega
theorem chOnce_eq {n i : Nat} (hn : n ≤ 1099511627776) (hi : i < n) : spec_chOnce.f (n : Int) (i : Int) = some (once n i) := by
  unfold spec_chOnce.f
  rw [if_pos (by omega), if_pos (by omega)]
  simp only [Int.toNat_natCast, Option.bind_some, List.length_replicate]
  rw [if_pos (by omega), if_pos (by omega)]
  rfl
/-- The places that can fire, as the program tells them. -/
def pl (ps : List Nat) : List Int := ps.map fun (i : Nat) => (i : Int)
theorem len_pl (ps : List Nat) : (pl ps).length = ps.length := by simp [pl]
theorem firing_l0 (l : List Int) (hL : l.length ≤ 1099511627776) (d : Nat) : ∀ (k : Nat) (i : Nat), i + d = l.length → d < k →
    impl_firing.l0 k (pl ((List.range i).filter fun j => decide (2 ≤ g l j))) l (l.length : Int) (i : Int) = some (pl (places l)) := by
  induction d with
  | zero =>
    intro k i hi hk
    obtain ⟨k, rfl⟩ : ∃ m, k = m + 1 := ⟨k - 1, by omega⟩
    simp only [impl_firing.l0]
    rw [if_neg (by omega), show i = l.length by omega]; rfl
  | succ d ih =>
    intro k i hi hk
    obtain ⟨k, rfl⟩ : ∃ m, k = m + 1 := ⟨k - 1, by omega⟩
    have hih := ih k (i + 1) (by omega) (by omega)
    have hlen : (pl ((List.range i).filter fun j => decide (2 ≤ g l j))).length ≤ i := by
      rw [len_pl]; have := List.length_filter_le (fun j => decide (2 ≤ g l j)) (List.range i); rwa [List.length_range] at this
    rw [List.range_succ, List.filter_append] at hih
    simp only [impl_firing.l0]
    rw [if_pos (by omega), if_pos (by omega), if_pos (by omega), wrap_succ (by omega), rd_g]
    by_cases c : 2 ≤ g l i
    · rw [if_pos (by omega), if_pos (by omega)]
      simpa [pl, c] using hih
    · rw [if_neg (by omega)]
      simpa [pl, c] using hih
theorem firing_at {l : List Int} (hL : l.length ≤ 1099511627776) {k : Nat} (hk : l.length < k) : impl_firing.f k l = some (pl (places l)) := by
  unfold impl_firing.f
  exact firing_l0 l hL l.length k 0 (by omega) hk
theorem places_le (l : List Int) : (places l).length ≤ l.length := by
  unfold places; have := List.length_filter_le (fun j => decide (2 ≤ g l j)) (List.range l.length); rwa [List.length_range] at this
theorem rd_pl {ps : List Nat} {i : Nat} (h : i < ps.length) : rd (pl ps) (i : Int) = ((ps[i] : Nat) : Int) := by
  rw [rd_lt (by rw [len_pl]; exact h)]; simp [pl]
/-- Chips that are few enough: no number leaves its range. -/
structure Calm (l : List Int) : Prop where
  nonneg : ∀ j, j < l.length → 0 ≤ g l j
  small : phi l ≤ 1099511627776
  len : l.length ≤ 1048576
theorem Calm.le {l : List Int} (h : Calm l) {j : Nat} (hj : j < l.length) : 0 ≤ g l j ∧ g l j ≤ 1099511627776 := ⟨h.nonneg j hj, Int.le_trans (phi_ge h.nonneg hj) h.small⟩
theorem Calm.bound {l : List Int} (h : Calm l) : ∀ j, j < l.length → -1125899906842620 ≤ g l j ∧ g l j ≤ 1125899906842620 := fun j hj => by have := h.le hj; omega
theorem Calm.bound' {l : List Int} (h : Calm l) : ∀ j, j < l.length → -1125899906842624 ≤ g l j ∧ g l j ≤ 1125899906842624 := fun j hj => by have := h.le hj; omega
theorem Calm.fire {l : List Int} {i : Nat} (h : Calm l) (hi : i < l.length) (h2 : 2 ≤ g l i) : Calm (fire1 l i) :=
  ⟨fire1_nonneg h.nonneg h2, by rw [phi_fire1 hi]; have := h.small; omega, by rw [len_fire1]; exact h.len⟩
theorem Calm.runs {l : List Int} {ps : List Nat} (h : Calm l) (hl : legal l ps) : Calm (runs l ps) :=
  ⟨runs_nonneg _ _ hl h.nonneg, by rw [phi_runs _ _ hl]; have := h.small; omega, by rw [len_runs]; exact h.len⟩
theorem good_calm {l : List Int} (h : good l = true) : Calm l :=
  ⟨fun j hj => (good_g h hj).1, by have := good_phi h; omega, by have := (good_len h).2; omega⟩
/-- How often firings are counted: no count leaves its range. -/
def Room (f l : List Int) : Prop := f.length = l.length ∧ ∀ j, j < l.length → 0 ≤ g f j ∧ g f j + phi l ≤ 1125899906842624
theorem Room.fire {f l : List Int} {i : Nat} (h : Room f l) (hi : i < l.length) : Room (f.set i (g f i + 1)) (fire1 l i) := by
  refine ⟨by rw [List.length_set, len_fire1]; exact h.1, fun j hj => ?_⟩
  rw [len_fire1] at hj
  have h1 := h.2 j hj
  have h2 := h.2 i hi
  rw [phi_fire1 hi, g_set]
  split <;> omega
theorem drop_cons {ps : List Nat} {i : Nat} (h : i < ps.length) : ps.drop i = ps[i] :: ps.drop (i + 1) := List.drop_eq_getElem_cons h
theorem settle_l1 (ps : List Nat) (hp : ps.length ≤ 1099511627776) (d : Nat) : ∀ (k : Nat) (x f : List Int) (i : Nat), 3 ≤ k → i + d = ps.length → Calm x → legal x (ps.drop i) → Room f x →
    impl_settle.l1 (k + d + 1) x f (pl ps) ((pl ps).length : Int) (i : Int) = (impl_firing.f k (runs x (ps.drop i))).bind fun t => impl_settle.l0 k (runs x (ps.drop i)) (addc f (ps.drop i)) t := by
  induction d with
  | zero =>
    intro k x f i hk hi hc hl hr
    simp only [impl_settle.l1]
    rw [if_neg (by rw [len_pl]; omega), List.drop_of_length_le (by omega), addc_nil]; rfl
  | succ d ih =>
    intro k x f i hk hi hc hl hr
    rw [drop_cons (show i < ps.length by omega)] at hl
    rw [drop_cons (show i < ps.length by omega)]
    have hlt : ps[i] < x.length := hl.1
    obtain ⟨m, hm⟩ : ∃ m, m = k + d + 1 := ⟨_, rfl⟩
    rw [show k + (d + 1) + 1 = m + 1 by omega]
    simp only [impl_settle.l1]
    rw [if_pos (by rw [len_pl]; omega), if_pos (by omega), if_pos (by rw [len_pl]; omega), rd_pl (by omega), fire_at x _ hlt (by have := hc.len; omega) hc.bound _ (by omega)]
    simp only [Option.bind_some]
    have hr1 := hr.2 _ hlt
    have hp0 := phi_nonneg hc.nonneg
    rw [if_pos (by omega), if_pos (by have := hr.1; omega), wrap_succ (by omega), rd_g, wrap_id (by omega) (by omega), Int.toNat_natCast, hm, ih k _ _ (i + 1) hk (by omega) (hc.fire hlt hl.2.1) hl.2.2 (hr.fire hlt), set_addc]
    rfl
theorem settle_l0 (n : Nat) : ∀ (l f : List Int), Calm l → phi l < n → Room f l →
    ∃ K, ∀ k, K ≤ k → impl_settle.l0 k l f (pl (places l)) = some ((rounds n l).1, addc f (rounds n l).2.1) := by
  induction n with
  | zero => intro l f hc hp _; have := phi_nonneg hc.nonneg; omega
  | succ n ih =>
    intro l f hc hp hr
    by_cases e : places l = []
    · refine ⟨1, fun k hk => ?_⟩
      obtain ⟨k, rfl⟩ : ∃ m, k = m + 1 := ⟨k - 1, by omega⟩
      simp only [impl_settle.l0, rounds]
      rw [if_neg (by rw [e]; simp [pl]), if_pos e, addc_nil]
    · have hpl := places_legal l
      have hr' : Room (addc f (places l)) (runs l (places l)) := by
        refine ⟨by rw [len_addc, len_runs]; exact hr.1, fun j hj => ?_⟩
        rw [len_runs] at hj
        have h1 := hr.2 j hj
        have h2 : (places l).count j ≤ (places l).length := List.count_le_length
        rw [g_addc _ _ _ (by rw [hr.1]; exact hj), phi_runs _ _ hpl]
        omega
      obtain ⟨K, hK⟩ := ih (runs l (places l)) (addc f (places l)) (hc.runs hpl) (by have := phi_round e; omega) hr'
      refine ⟨K + l.length + (places l).length + 6, fun k hk => ?_⟩
      obtain ⟨m, rfl⟩ : ∃ m, k = (m + (places l).length + 1) + 1 := ⟨k - (places l).length - 2, by omega⟩
      simp only [impl_settle.l0, rounds]
      rw [if_pos (by rw [len_pl]; have := nonempty_length e; omega), if_neg e]
      have h1 := settle_l1 (places l) (by have := places_le l; have := hc.len; omega) (places l).length m l f 0 (by omega) (by omega) hc (by simpa using hpl) hr
      rw [show ((0 : Nat) : Int) = 0 from rfl] at h1
      rw [h1, List.drop_zero, firing_at (by rw [len_runs]; have := hc.len; omega) (by rw [len_runs]; omega)]
      simp only [Option.bind_some]
      rw [hK m (by omega), addc_append]
theorem settle_ev {l : List Int} (hc : Calm l) (n : Nat) (hn : phi l < n) : ∃ K, ∀ k, K ≤ k → impl_settle.f k l = some ((rounds n l).1, addc (List.replicate l.length 0) (rounds n l).2.1) := by
  obtain ⟨K, hK⟩ := settle_l0 n l (List.replicate l.length 0) hc hn ⟨by simp, fun j hj => by rw [g_replicate, if_pos hj]; have := hc.small; omega⟩
  refine ⟨K + l.length + 1, fun k hk => ?_⟩
  have := hc.len
  unfold impl_settle.f slices_Clone_int_int.f
  rw [if_pos (by omega)]
  simp only [Option.bind_some]
  rw [if_pos (by omega), if_pos (by omega), firing_at (by omega) (by omega)]
  simp only [Option.bind_some, Int.toNat_natCast]
  exact hK k (by omega)
theorem l1Own_eq {l : List Int} (h : l.length ≤ 1099511627776) : spec_l1Own.f l = some l := by
  unfold spec_l1Own.f
  simp only [Option.bind_some, List.length_nil, List.nil_append]
  rw [if_pos (by omega)]
theorem Clone_eq {l : List Int} (h : l.length ≤ 1099511627776) : slices_Clone_int_int.f l = some l := by
  unfold slices_Clone_int_int.f
  rw [if_pos (by omega)]
/-- The sum of the class's terms from place i on. -/
def clsum (l : List Int) (i : Nat) : Int := sumTo i (fun j => g l j * ((j : Int) + 1))
theorem clsum_succ (l : List Int) (i : Nat) : clsum l (i + 1) = clsum l i + g l i * ((i : Int) + 1) := rfl
theorem clsum_bound {l : List Int} (hL : l.length ≤ 20) (hb : ∀ j, j < l.length → 0 ≤ g l j ∧ g l j ≤ 60) {i : Nat} (hi : i ≤ l.length) : 0 ≤ clsum l i ∧ clsum l i ≤ 24000 := by
  refine ⟨sumTo_nonneg fun j hj => Int.mul_nonneg (hb j (by omega)).1 (by omega), ?_⟩
  have h1 : ∀ j, j < i → g l j * ((j : Int) + 1) ≤ 60 * 20 := fun j hj => Int.mul_le_mul (hb j (by omega)).2 (by omega) (by omega) (by omega)
  have h2 := sumTo_le h1
  unfold clsum
  omega
def cls (l : List Int) : Int := clsum l l.length % ((l.length : Int) + 1)
theorem chClass_l0 {l : List Int} (hL : l.length ≤ 20) (hb : ∀ j, j < l.length → 0 ≤ g l j ∧ g l j ≤ 60) (d : Nat) : ∀ (k : Nat) (i : Nat), i + d = l.length → d < k →
    spec_chClass.l0 k l (clsum l i) l (l.length : Int) (i : Int) = some (cls l) := by
  induction d with
  | zero =>
    intro k i hi hk
    obtain ⟨k, rfl⟩ : ∃ m, k = m + 1 := ⟨k - 1, by omega⟩
    have h1 := clsum_bound hL hb (i := i) (by omega)
    simp only [spec_chClass.l0]
    rw [if_neg (by omega), wrap_id (by omega) (by omega), if_neg (by omega), Int.tmod_eq_emod_of_nonneg h1.1, show i = l.length by omega]; rfl
  | succ d ih =>
    intro k i hi hk
    obtain ⟨k, rfl⟩ : ∃ m, k = m + 1 := ⟨k - 1, by omega⟩
    have h1 := clsum_bound hL hb (i := i) (by omega)
    have h2 := clsum_bound hL hb (i := i + 1) (by omega)
    have h3 := hb i (by omega)
    have h4 : 0 ≤ g l i * ((i : Int) + 1) := Int.mul_nonneg h3.1 (by omega)
    have h5 : g l i * ((i : Int) + 1) ≤ 60 * 20 := Int.mul_le_mul h3.2 (by omega) (by omega) (by omega)
    rw [clsum_succ] at h2
    simp only [spec_chClass.l0]
    rw [if_pos (by omega), if_pos (by omega), if_pos (by omega), wrap_succ (by omega), rd_g, show ((i + 1 : Nat) : Int) = (i : Int) + 1 by omega, wrap_id (x := g l i * ((i : Int) + 1)) (by omega) (by omega), wrap_id (by omega) (by omega)]
    exact ih k (i + 1) (by omega) (by omega)
theorem chClass_at {l : List Int} (h : good l = true) {k : Nat} (hk : l.length < k) : spec_chClass.f k l = some (cls l) := by
  unfold spec_chClass.f
  exact chClass_l0 (good_len h).2 (fun j hj => good_g h hj) l.length k 0 (by omega) hk
theorem classOf_l0 {l : List Int} (hL : l.length ≤ 20) (hb : ∀ j, j < l.length → 0 ≤ g l j ∧ g l j ≤ 60) (d : Nat) : ∀ (k : Nat) (i : Nat), i + d = l.length → d < k →
    impl_classOf.l0 k l (clsum l i) l (l.length : Int) (i : Int) = some (cls l) := by
  induction d with
  | zero =>
    intro k i hi hk
    obtain ⟨k, rfl⟩ : ∃ m, k = m + 1 := ⟨k - 1, by omega⟩
    have h1 := clsum_bound hL hb (i := i) (by omega)
    simp only [impl_classOf.l0]
    rw [if_neg (by omega), wrap_id (by omega) (by omega), if_neg (by omega), Int.tmod_eq_emod_of_nonneg h1.1, show i = l.length by omega]; rfl
  | succ d ih =>
    intro k i hi hk
    obtain ⟨k, rfl⟩ : ∃ m, k = m + 1 := ⟨k - 1, by omega⟩
    have h1 := clsum_bound hL hb (i := i) (by omega)
    have h2 := clsum_bound hL hb (i := i + 1) (by omega)
    have h3 := hb i (by omega)
    have h4 : 0 ≤ g l i * ((i : Int) + 1) := Int.mul_nonneg h3.1 (by omega)
    have h5 : g l i * ((i : Int) + 1) ≤ 60 * 20 := Int.mul_le_mul h3.2 (by omega) (by omega) (by omega)
    rw [clsum_succ] at h2
    simp only [impl_classOf.l0]
    rw [if_pos (by omega), if_pos (by omega), if_pos (by omega), wrap_succ (by omega), rd_g, show ((i + 1 : Nat) : Int) = (i : Int) + 1 by omega, wrap_id (x := g l i * ((i : Int) + 1)) (by omega) (by omega), wrap_id (by omega) (by omega)]
    exact ih k (i + 1) (by omega) (by omega)
theorem classOf_at {l : List Int} (h : good l = true) {k : Nat} (hk : l.length < k) : impl_classOf.f k l = some (cls l) := by
  unfold impl_classOf.f
  exact classOf_l0 (good_len h).2 (fun j hj => good_g h hj) l.length k 0 (by omega) hk
/-- Two lists of chips of as many places. -/
def both (a b : List Int) : Bool := good a && good b && (a.length == b.length)
theorem chBoth_at {a b : List Int} (ha : a.length ≤ 1099511627776) (hb : b.length ≤ 1099511627776) {k : Nat} (hk : a.length < k) (hk2 : b.length < k) : spec_chBoth.f k a b = some (both a b) := by
  unfold spec_chBoth.f both
  rw [chGood_at ha hk, chGood_at hb hk2]
  cases good a <;> cases good b <;> simp
  rw [Bool.eq_iff_iff]; simp; omega
theorem AreSameClass_both {a b : List Int} (ha : a.length ≤ 1099511627776) (hb : b.length ≤ 1099511627776) : ∃ (K : Nat) (r : Bool × Bool), (∀ k, K ≤ k → spec_AreSameClass.f k a b = some r) ∧ (∀ k, K ≤ k → impl_AreSameClass.f k a b = some r) := by
  cases h : both a b with
  | false =>
    refine ⟨a.length + b.length + 3, (false, false), fun k hk => ?_, fun k hk => ?_⟩
    · unfold spec_AreSameClass.f; rw [chBoth_at ha hb (by omega) (by omega), h]; rfl
    · obtain ⟨k, rfl⟩ : ∃ m, k = m + 1 := ⟨k - 1, by omega⟩
      unfold impl_AreSameClass.f; rw [impl_AreChips_eq, impl_AreChips_eq]
      unfold both at h
      cases h1 : good a with
      | false => simp [impl_AreSameClass.j0]
      | true =>
        cases h2 : good b with
        | false => simp [impl_AreSameClass.j0]
        | true =>
          rw [h1, h2] at h
          have h3 : ¬ a.length = b.length := by simpa using h
          have h4 : ((a.length : Int) != (b.length : Int)) = true := by simp; omega
          simp [impl_AreSameClass.j0, h4]
  | true =>
    simp only [both, Bool.and_eq_true, beq_iff_eq] at h
    obtain ⟨⟨h1, h2⟩, h3⟩ := h
    refine ⟨a.length + b.length + 3, (cls a == cls b, true), fun k hk => ?_, fun k hk => ?_⟩
    · unfold spec_AreSameClass.f; rw [chBoth_at ha hb (by omega) (by omega), chClass_at h1 (by omega), chClass_at h2 (by omega)]
      simp [both, h1, h2, h3]
    · obtain ⟨k, rfl⟩ : ∃ m, k = m + 1 := ⟨k - 1, by omega⟩
      unfold impl_AreSameClass.f; rw [impl_AreChips_eq, impl_AreChips_eq, h1, h2]
      simp only [Option.bind_some, if_true, impl_AreSameClass.j0]
      rw [show ((a.length : Int) != (b.length : Int)) = false by simp; omega, classOf_at h1 (by omega), classOf_at h2 (by omega)]
      simp
/-- Firings of places in an order, if each of them can fire. -/
def play (l : List Int) : List Int → Option (List Int)
  | [] => some l
  | p :: ps => if 0 ≤ p ∧ p < l.length ∧ 2 ≤ g l p.toNat then play (fire1 l p.toNat) ps else none
def told (r : Option (List Int)) : List Int × Bool := match r with | some l => (l, true) | none => ([], false)
theorem specOrder_l0 {l o : List Int} (ho : o.length ≤ 1048576) (d : Nat) : ∀ (k : Nat) (x : List Int) (i : Nat), i + d = o.length → 2 * d + l.length + 5 ≤ k → Calm x → x.length = l.length →
    spec_FireInOrder.l0 k l x o (o.length : Int) (i : Int) = some (told (play x (o.drop i))) := by
  induction d with
  | zero =>
    intro k x i hi hk hc hx
    obtain ⟨k, rfl⟩ : ∃ m, k = m + 1 := ⟨k - 1, by omega⟩
    simp only [spec_FireInOrder.l0]
    rw [if_neg (by omega), List.drop_of_length_le (by omega)]; rfl
  | succ d ih =>
    intro k x i hi hk hc hx
    obtain ⟨k, rfl⟩ : ∃ m, k = m + 2 := ⟨k - 2, by omega⟩
    have hL := hc.len
    rw [drop_eq_self (show i < o.length by omega)]
    simp only [spec_FireInOrder.l0, spec_FireInOrder.j2, play]
    rw [if_pos (by omega), if_pos (by omega), if_pos (by omega), l1In_eq, rd_g, wrap_id (x := (l.length : Int) - 1) (by omega) (by omega)]
    simp only [Option.bind_some]
    by_cases c : inB 0 ((l.length : Int) - 1) (g o i) = true
    · have c' := inB_iff.1 c
      rw [if_pos c, if_pos (by omega), if_pos (by omega), rd_toNat]
      by_cases e : g x (g o i).toNat < 2
      · rw [decide_eq_true e, if_pos rfl, if_neg (by omega)]; rfl
      · obtain ⟨p, hp⟩ : ∃ p : Nat, g o i = (p : Int) := ⟨(g o i).toNat, by omega⟩
        rw [decide_eq_false e, if_neg (by simp), if_pos (by omega), wrap_succ (by omega)]
        rw [hp, Int.toNat_natCast] at e ⊢
        rw [chOnce_eq (by omega) (by omega)]
        simp only [Option.bind_some]
        rw [← hx, chFire_at (len_once _ _) (by omega) hc.bound' (fun j _ => by have := once_01 x.length p j; omega) (by omega), fireT_once (by omega)]
        simp only [Option.bind_some]
        exact ih k _ (i + 1) (by omega) (by omega) (hc.fire (by omega) (by omega)) (by rw [len_fire1]; exact hx)
    · have c' : ¬ (0 ≤ g o i ∧ g o i ≤ (l.length : Int) - 1) := fun h => c (inB_iff.2 h)
      rw [if_neg c, if_pos trivial, if_neg (by omega)]; rfl
theorem implOrder_l0 {o : List Int} (ho : o.length ≤ 1048576) (d : Nat) : ∀ (k : Nat) (x : List Int) (i : Nat), i + d = o.length → d + 5 ≤ k → Calm x →
    impl_FireInOrder.l0 k x o (o.length : Int) (i : Int) = some (told (play x (o.drop i))) := by
  induction d with
  | zero =>
    intro k x i hi hk hc
    obtain ⟨k, rfl⟩ : ∃ m, k = m + 1 := ⟨k - 1, by omega⟩
    simp only [impl_FireInOrder.l0]
    rw [if_neg (by omega), List.drop_of_length_le (by omega)]; rfl
  | succ d ih =>
    intro k x i hi hk hc
    obtain ⟨k, rfl⟩ : ∃ m, k = m + 1 := ⟨k - 1, by omega⟩
    have hL := hc.len
    rw [drop_eq_self (show i < o.length by omega)]
    simp only [impl_FireInOrder.l0, play]
    rw [if_pos (by omega), if_pos (by omega), if_pos (by omega), within_eq, rd_g, wrap_id (x := (x.length : Int) - 1) (by omega) (by omega)]
    simp only [Option.bind_some]
    by_cases c : inB 0 ((x.length : Int) - 1) (g o i) = true
    · have c' := inB_iff.1 c
      rw [if_pos c, if_pos (by omega), if_pos (by omega), rd_toNat]
      by_cases e : g x (g o i).toNat < 2
      · rw [if_pos e, if_neg (by omega)]; rfl
      · obtain ⟨p, hp⟩ : ∃ p : Nat, g o i = (p : Int) := ⟨(g o i).toNat, by omega⟩
        rw [if_neg e, if_pos (by omega), wrap_succ (by omega)]
        rw [hp, Int.toNat_natCast] at e ⊢
        rw [fire_at x p (by omega) (by omega) hc.bound k (by omega)]
        simp only [Option.bind_some]
        exact ih k _ (i + 1) (by omega) (by omega) (hc.fire (by omega) (by omega))
    · have c' : ¬ (0 ≤ g o i ∧ g o i ≤ (x.length : Int) - 1) := fun h => c (inB_iff.2 h)
      rw [if_neg c, if_neg (by omega)]; rfl
/-- What both tell of firings in an order. -/
def orderOf (l o : List Int) : List Int × Bool := if good l = true ∧ o.length ≤ 100 then told (play l o) else ([], false)
theorem FireInOrder_at {l o : List Int} (hL : l.length ≤ 1048576) (ho : o.length ≤ 1048576) : ∀ k, 2 * o.length + l.length + 8 ≤ k → spec_FireInOrder.f k l o = some (orderOf l o) ∧ impl_FireInOrder.f k l o = some (orderOf l o) := by
  intro k hk
  obtain ⟨k, rfl⟩ : ∃ m, k = m + 1 := ⟨k - 1, by omega⟩
  unfold spec_FireInOrder.f impl_FireInOrder.f orderOf
  rw [chGood_at (by omega) (by omega), impl_AreChips_eq]
  simp only [Option.bind_some, spec_FireInOrder.j0, impl_FireInOrder.j0]
  by_cases h : good l = true
  · rw [if_pos h, if_pos h]
    by_cases c : (o.length : Int) > 100
    · rw [decide_eq_true c, if_pos rfl, if_neg (by omega)]; exact ⟨rfl, rfl⟩
    · rw [decide_eq_false c, if_neg (by simp), if_pos ⟨h, by omega⟩, l1Own_eq (by omega), Clone_eq (by omega)]
      simp only [Option.bind_some]
      have a := specOrder_l0 (l := l) ho o.length k l 0 (by omega) (by omega) (good_calm h) rfl
      have b := implOrder_l0 ho o.length k l 0 (by omega) (by omega) (good_calm h)
      rw [List.drop_zero] at a b
      exact ⟨a, by rw [if_neg (by simp)]; exact b⟩
  · rw [if_neg h, if_neg h, if_pos trivial, if_pos trivial, if_neg (fun e => h e.1)]; exact ⟨rfl, rfl⟩
theorem play_legal (o : List Int) : ∀ (l r : List Int), play l o = some r → ∃ ps, legal l ps ∧ runs l ps = r := by
  induction o with
  | nil => intro l r h; simp only [play, Option.some.injEq] at h; exact ⟨[], trivial, h⟩
  | cons p o ih =>
    intro l r h
    simp only [play] at h
    split at h
    · rename_i c
      obtain ⟨ps, a, b⟩ := ih _ _ h
      exact ⟨p.toNat :: ps, ⟨by omega, c.2.2, a⟩, b⟩
    · cases h
/-- The class is kept by a firing. -/
theorem cls_fire1 {l : List Int} {i : Nat} (hi : i < l.length) : cls (fire1 l i) = cls l := by
  have e : ∀ x : List Int, clsum x x.length = dot (fun j => (j : Int) + 1) x := fun x => sumTo_congr fun j _ => Int.mul_comm _ _
  unfold cls
  rw [e, e, len_fire1, dot_fire1 _ _ _ hi]
  by_cases c : i + 1 < l.length
  · rw [if_pos c]; congr 1
    split <;> omega
  · rw [if_neg c]
    have h1 : dot (fun j => (j : Int) + 1) l - 2 * ((i : Int) + 1) + (if 0 < i then ((i - 1 : Nat) : Int) + 1 else 0) + 0 = dot (fun j => (j : Int) + 1) l - 1 * ((l.length : Int) + 1) := by split <;> omega
    rw [h1, Int.sub_mul_emod_self_right]
theorem cls_runs (ps : List Nat) : ∀ l : List Int, legal l ps → cls (runs l ps) = cls l := by
  induction ps with
  | nil => intro l _; rfl
  | cons i ps ih => intro l h; simp only [runs]; rw [ih _ h.2.2, cls_fire1 h.1]
theorem good_of {l : List Int} (h1 : 1 ≤ l.length) (h2 : l.length ≤ 20) (h : ∀ j, j < l.length → 0 ≤ g l j ∧ g l j ≤ 60) : good l = true := by
  simp only [good, Bool.and_eq_true, decide_eq_true_eq]
  refine ⟨⟨h1, h2⟩, ?_⟩
  rw [List.all_eq_true]
  intro x hx
  obtain ⟨i, hi, rfl⟩ := mem_g hx
  exact inB_iff.2 (h i hi)
theorem rest_01 {l : List Int} (h : good l = true) {j : Nat} (hj : j < (rounds 480001 l).1.length) : 0 ≤ g (rounds 480001 l).1 j ∧ g (rounds 480001 l).1 j ≤ 1 :=
  ⟨rounds_nonneg _ _ (good_calm h).nonneg j hj, rounds_stable 480001 l (good_calm h).nonneg (by have := good_phi h; omega) j hj⟩
theorem rest_is_good {l : List Int} (h : good l = true) : good (rounds 480001 l).1 = true := by
  have hl := good_len h
  exact good_of (by rw [rounds_len]; exact hl.1) (by rw [rounds_len]; exact hl.2) (fun j hj => by have := rest_01 h hj; omega)
theorem rest_cls (l : List Int) (n : Nat) : cls (rounds n l).1 = cls l := by
  obtain ⟨a, b⟩ := rounds_runs n l
  rw [← b, cls_runs _ _ a]
theorem Rest_at {l : List Int} (h : good l = true) : ∃ K, ∀ k, K ≤ k → impl_RestOfChips.f k l = some ((rounds 480001 l).1, true) := by
  obtain ⟨K, hK⟩ := settle_ev (good_calm h) 480001 (by have := good_phi h; omega)
  refine ⟨K, fun k hk => ?_⟩
  unfold impl_RestOfChips.f; rw [impl_AreChips_eq, h, hK k (by omega)]; rfl
theorem oneRest_l0 {x : List Int} (hL : x.length ≤ 1048576) (h1 : ∀ j, j < x.length → g x j ≤ 1) (d : Nat) : ∀ (k : Nat) (i : Nat), i + d = x.length → d < k → laws_FnOneRest.l0 k x x true true x (x.length : Int) (i : Int) = some true := by
  induction d with
  | zero =>
    intro k i hi hk
    obtain ⟨k, rfl⟩ : ∃ m, k = m + 1 := ⟨k - 1, by omega⟩
    simp only [laws_FnOneRest.l0]
    rw [if_neg (by omega)]; simp
  | succ d ih =>
    intro k i hi hk
    obtain ⟨k, rfl⟩ : ∃ m, k = m + 1 := ⟨k - 1, by omega⟩
    have := h1 i (by omega)
    simp only [laws_FnOneRest.l0]
    rw [if_pos (by omega), if_pos (by omega), if_pos (by omega), rd_g, if_neg (by omega), if_pos (by omega), if_pos trivial, wrap_succ (by omega)]
    exact ih k (i + 1) (by omega) (by omega)
theorem FnOneRest : laws_FnOneRest.Pure := by
  intro l o _ _ _ _ _ _
  unfold laws_FnOneRest.f
  by_cases hl : (l.length : Int) > 1000
  · exact ⟨1, by rw [if_pos hl]; simp [laws_FnOneRest.j0]⟩
  · by_cases ho : (o.length : Int) > 1000
    · exact ⟨1, by rw [if_neg hl, decide_eq_true ho]; simp [laws_FnOneRest.j0]⟩
    · simp only [if_neg hl, decide_eq_false ho]
      have hF := FireInOrder_at (l := l) (o := o) (by omega) (by omega)
      cases hg : good l with
      | false =>
        have e : orderOf l o = ([], false) := by unfold orderOf; rw [if_neg (by rw [hg]; simp)]
        have hR : ∀ k, impl_RestOfChips.f k l = some ([], false) := fun k => by unfold impl_RestOfChips.f; rw [impl_AreChips_eq, hg]; rfl
        refine ⟨2 * o.length + l.length + 12, ?_⟩
        simp only [laws_FnOneRest.j0]
        rw [(hF _ (by omega)).1, (hF _ (by omega)).2, e]
        simp [laws_FnOneRest.j1, laws_FnOneRest.j2, hR]
      | true =>
        obtain ⟨K, hK⟩ := Rest_at hg
        have hlg := good_len hg
        cases hr : orderOf l o with
        | mk now ok =>
          cases ok with
          | false =>
            refine ⟨K + 2 * o.length + l.length + 12, ?_⟩
            simp only [laws_FnOneRest.j0]
            rw [(hF _ (by omega)).1, (hF _ (by omega)).2, hr]
            simp only [Option.bind_some, bne_self_eq_false, Bool.false_eq_true, if_false, laws_FnOneRest.j1]
            rw [hK _ (by omega)]
            simp [laws_FnOneRest.j2]
          | true =>
            have hnow : ∃ ps, legal l ps ∧ runs l ps = now := by
              unfold orderOf at hr
              split at hr
              · cases hp : play l o with
                | none => rw [hp] at hr; simp [told] at hr
                | some r => rw [hp] at hr; simp only [told, Prod.mk.injEq] at hr; rw [← hr.1]; exact play_legal _ _ _ hp
              · simp at hr
            obtain ⟨ps, hps, hruns⟩ := hnow
            have hS : ∃ K, ∀ k, K ≤ k → impl_AreSameClass.f k l (rounds 480001 l).1 = some (true, true) := by
              have h3 := rest_is_good hg
              obtain ⟨K, r, h1, h2⟩ := AreSameClass_both (a := l) (b := (rounds 480001 l).1) (by omega) (by rw [rounds_len]; omega)
              refine ⟨K + l.length + 4, fun k hk => ?_⟩
              obtain ⟨k, rfl⟩ : ∃ m, k = m + 1 := ⟨k - 1, by omega⟩
              unfold impl_AreSameClass.f
              rw [impl_AreChips_eq, impl_AreChips_eq, hg, h3]
              simp only [Option.bind_some, if_true, impl_AreSameClass.j0]
              rw [show ((l.length : Int) != (((rounds 480001 l).1).length : Int)) = false by rw [rounds_len]; simp, classOf_at hg (by omega), classOf_at h3 (by rw [rounds_len]; omega), rest_cls]
              simp
            obtain ⟨K3, hK3⟩ := hS
            have hcl : (rounds 480001 l).1.length ≤ 1048576 := by rw [rounds_len]; omega
            have hlen : (rounds 480001 l).1.length = l.length := rounds_len _ _
            cases hn : good now with
            | false =>
              have hR : ∀ k, impl_RestOfChips.f k now = some ([], false) := fun k => by unfold impl_RestOfChips.f; rw [impl_AreChips_eq, hn]; rfl
              refine ⟨K + K3 + 2 * o.length + l.length + 12, ?_⟩
              simp only [laws_FnOneRest.j0]
              rw [(hF _ (by omega)).1, (hF _ (by omega)).2, hr]
              simp only [Option.bind_some, bne_self_eq_false, Bool.false_eq_true, if_false, if_true, laws_FnOneRest.j1]
              rw [hK _ (by omega)]
              simp only [Option.bind_some, Bool.not_true, Bool.false_eq_true, if_false, laws_FnOneRest.j2]
              rw [hR, hK3 _ (by omega)]
              simp
            | true =>
              obtain ⟨K2, hK2⟩ := Rest_at hn
              have hphi := good_phi hg
              have hphi2 := good_phi hn
              have e : (rounds 480001 now).1 = (rounds 480001 l).1 := by
                have := (rest_of_legal (n := 480001) (m := 480001) (good_calm hg).nonneg hps (by omega) (by rw [hruns]; omega)).1
                rw [hruns] at this; exact this.symm
              refine ⟨K + K2 + K3 + 2 * o.length + l.length + 12, ?_⟩
              simp only [laws_FnOneRest.j0]
              rw [(hF _ (by omega)).1, (hF _ (by omega)).2, hr]
              simp only [Option.bind_some, bne_self_eq_false, Bool.false_eq_true, if_false, if_true, laws_FnOneRest.j1]
              rw [hK _ (by omega)]
              simp only [Option.bind_some, Bool.not_true, Bool.false_eq_true, if_false, laws_FnOneRest.j2]
              rw [hK2 _ (by omega), hK3 _ (by omega), e]
              simp only [Option.bind_some, if_true]
              exact oneRest_l0 hcl (fun j hj => (rest_01 hg hj).2) (rounds 480001 l).1.length _ 0 (by omega) (by omega)
end Go.Proofs.Ytffliklmahedoaa.Pure
