/- Plain facts about chips on a line that fire: lists of whole numbers, no program.
Conditions: none beyond those of each theorem. -/
namespace Go.Proofs.Ytffliklmahedoaa.Chips

/-- The number at a place, 0 beyond the list. -/
def g (l : List Int) (i : Nat) : Int := l.getD i 0
theorem g_ge {l : List Int} {i : Nat} (h : l.length ≤ i) : g l i = 0 := by
  simp [g, List.getD_eq_getElem?_getD, List.getElem?_eq_none h]
theorem g_lt {l : List Int} {i : Nat} (h : i < l.length) : g l i = l[i] := by
  simp [g, List.getD_eq_getElem?_getD, List.getElem?_eq_getElem h]
theorem g_mem {l : List Int} {i : Nat} (h : i < l.length) : g l i ∈ l := by
  rw [g_lt h]; exact List.getElem_mem h
theorem mem_g {l : List Int} {x : Int} (h : x ∈ l) : ∃ i, i < l.length ∧ g l i = x := by
  obtain ⟨i, hi, rfl⟩ := List.getElem_of_mem h
  exact ⟨i, hi, g_lt hi⟩
theorem ext_g {a b : List Int} (h : a.length = b.length) (hg : ∀ i, i < a.length → g a i = g b i) : a = b := by
  apply List.ext_getElem h
  intro i h1 h2
  have := hg i h1
  rwa [g_lt h1, g_lt h2] at this
theorem g_set (l : List Int) (i : Nat) (v : Int) (j : Nat) : g (l.set i v) j = if i = j ∧ j < l.length then v else g l j := by
  by_cases hj : j < l.length
  · rw [g_lt (by simpa using hj), g_lt hj, List.getElem_set]
    by_cases e : i = j <;> simp [e, hj]
  · rw [g_ge (by simp; omega), g_ge (by omega), if_neg (by omega)]
theorem g_replicate (n : Nat) (v : Int) (j : Nat) : g (List.replicate n v) j = if j < n then v else 0 := by
  by_cases hj : j < n
  · rw [g_lt (by simpa using hj)]; simp [hj]
  · rw [g_ge (by simp; omega), if_neg hj]
theorem g_range (n : Nat) (f : Nat → Int) (j : Nat) (hj : j < n) : g ((List.range n).map f) j = f j := by
  rw [g_lt (by simpa using hj)]; simp
theorem g_map (l : List Int) (f : Int → Int) (j : Nat) (hj : j < l.length) : g (l.map f) j = f (g l j) := by
  rw [g_lt (by simpa using hj), g_lt hj]; simp
theorem g_append_left {a b : List Int} {j : Nat} (hj : j < a.length) : g (a ++ b) j = g a j := by
  rw [g_lt (by simp; omega), g_lt hj]; simp [List.getElem_append_left hj]
theorem g_nonneg_of {l : List Int} (h : ∀ x ∈ l, 0 ≤ x) (i : Nat) : 0 ≤ g l i := by
  by_cases hi : i < l.length
  · exact h _ (g_mem hi)
  · rw [g_ge (by omega)]; exact Int.le_refl _

/-! ### sums -/
def sumTo : Nat → (Nat → Int) → Int
  | 0, _ => 0
  | n + 1, f => sumTo n f + f n
theorem sumTo_congr {n : Nat} {f h : Nat → Int} (e : ∀ i, i < n → f i = h i) : sumTo n f = sumTo n h := by
  induction n with
  | zero => rfl
  | succ n ih => simp only [sumTo]; rw [ih (fun i hi => e i (by omega)), e n (by omega)]
theorem sumTo_add (n : Nat) (f h : Nat → Int) : sumTo n (fun i => f i + h i) = sumTo n f + sumTo n h := by
  induction n with
  | zero => rfl
  | succ n ih => simp only [sumTo]; rw [ih]; omega
theorem sumTo_zero (n : Nat) : sumTo n (fun _ => 0) = 0 := by
  induction n with
  | zero => rfl
  | succ n ih => simp only [sumTo]; rw [ih]; rfl
theorem sumTo_delta (n i : Nat) (f : Nat → Int) : sumTo n (fun j => if j = i then f j else 0) = if i < n then f i else 0 := by
  induction n with
  | zero => rfl
  | succ n ih =>
    simp only [sumTo]; rw [ih]
    by_cases e : n = i
    · subst e; rw [if_neg (by omega), if_pos rfl, if_pos (by omega)]; omega
    · rw [if_neg e]
      by_cases h : i < n
      · rw [if_pos h, if_pos (by omega)]; omega
      · rw [if_neg h, if_neg (by omega)]; omega
theorem sumTo_nonneg {n : Nat} {f : Nat → Int} (h : ∀ i, i < n → 0 ≤ f i) : 0 ≤ sumTo n f := by
  induction n with
  | zero => exact Int.le_refl _
  | succ n ih => simp only [sumTo]; have := ih (fun i hi => h i (by omega)); have := h n (by omega); omega
theorem sumTo_ge {n : Nat} {f : Nat → Int} (h : ∀ i, i < n → 0 ≤ f i) (i : Nat) (hi : i < n) : f i ≤ sumTo n f := by
  induction n with
  | zero => omega
  | succ n ih =>
    simp only [sumTo]
    have h0 := sumTo_nonneg (n := n) (fun i hi => h i (by omega))
    by_cases e : i = n
    · subst e; omega
    · have := ih (fun i hi => h i (by omega)) (by omega); have := h n (by omega); omega
theorem sumTo_le {n : Nat} {f : Nat → Int} {M : Int} (h : ∀ i, i < n → f i ≤ M) : sumTo n f ≤ n * M := by
  induction n with
  | zero => simp [sumTo]
  | succ n ih =>
    simp only [sumTo]
    have := ih (fun i hi => h i (by omega)); have := h n (by omega)
    have e : ((n + 1 : Nat) : Int) * M = (n : Int) * M + M := by rw [Int.natCast_add, Int.add_mul]; simp
    rw [e]; omega

/-! ### firing -/
/-- One place fires. -/
def fire1 (l : List Int) (i : Nat) : List Int :=
  (List.range l.length).map fun j => g l j - (if j = i then 2 else 0) + (if j + 1 = i then 1 else 0) + (if j = i + 1 then 1 else 0)
theorem len_fire1 (l : List Int) (i : Nat) : (fire1 l i).length = l.length := by simp [fire1]
theorem g_fire1 {l : List Int} {j : Nat} (i : Nat) (hj : j < l.length) : g (fire1 l i) j = g l j - (if j = i then 2 else 0) + (if j + 1 = i then 1 else 0) + (if j = i + 1 then 1 else 0) := by
  unfold fire1; rw [g_range _ _ _ hj]
theorem fire1_comm (l : List Int) (i j : Nat) : fire1 (fire1 l i) j = fire1 (fire1 l j) i := by
  apply ext_g (by simp [len_fire1])
  intro k hk
  simp only [len_fire1] at hk
  rw [g_fire1 j (by rw [len_fire1]; exact hk), g_fire1 i hk, g_fire1 i (by rw [len_fire1]; exact hk), g_fire1 j hk]
  omega
theorem fire1_other {l : List Int} {i j : Nat} (h : j ≠ i) (hj : j < l.length) : g l j ≤ g (fire1 l i) j := by
  rw [g_fire1 i hj, if_neg h]; split <;> split <;> omega
theorem fire1_nonneg {l : List Int} {i : Nat} (h : ∀ j, j < l.length → 0 ≤ g l j) (h2 : 2 ≤ g l i) : ∀ j, j < (fire1 l i).length → 0 ≤ g (fire1 l i) j := by
  intro j hj
  rw [len_fire1] at hj
  by_cases e : j = i
  · subst e; rw [g_fire1 _ hj]; omega
  · have := fire1_other e hj; have := h j hj; omega

/-! ### weights -/
def dot (w : Nat → Int) (l : List Int) : Int := sumTo l.length (fun j => w j * g l j)
theorem dot_fire1 (w : Nat → Int) (l : List Int) (i : Nat) (hi : i < l.length) :
    dot w (fire1 l i) = dot w l - 2 * w i + (if 0 < i then w (i - 1) else 0) + (if i + 1 < l.length then w (i + 1) else 0) := by
  unfold dot
  rw [len_fire1]
  have e : sumTo l.length (fun j => w j * g (fire1 l i) j) = sumTo l.length (fun j => (w j * g l j + (if j = i then -2 * w j else 0)) + ((if j + 1 = i then w j else 0) + (if j = i + 1 then w j else 0))) := by
    apply sumTo_congr
    intro j hj
    rw [g_fire1 i hj]
    by_cases a : j = i
    · rw [if_pos a, if_pos a, if_neg (by omega), if_neg (by omega), if_neg (by omega), if_neg (by omega), Int.mul_add, Int.mul_add, Int.mul_sub]; omega
    · rw [if_neg a, if_neg a]
      by_cases b : j + 1 = i
      · rw [if_pos b, if_pos b, if_neg (by omega), if_neg (by omega), Int.mul_add, Int.mul_add, Int.mul_sub]; omega
      · rw [if_neg b, if_neg b]
        by_cases c : j = i + 1
        · rw [if_pos c, if_pos c, Int.mul_add, Int.mul_add, Int.mul_sub]; omega
        · rw [if_neg c, if_neg c, Int.mul_add, Int.mul_add, Int.mul_sub]; omega
  rw [e, sumTo_add, sumTo_add, sumTo_add, sumTo_delta _ _ (fun j => -2 * w j), sumTo_delta _ _ w, if_pos hi]
  have e2 : sumTo l.length (fun j => if j + 1 = i then w j else 0) = if 0 < i then w (i - 1) else 0 := by
    cases i with
    | zero => simp [sumTo_zero]
    | succ i =>
      rw [sumTo_congr (h := fun j => if j = i then w j else 0) (fun j _ => by simp), sumTo_delta _ _ w, if_pos (by omega), if_pos (by omega)]; rfl
  rw [e2]
  omega
/-- The weight of a chip: it shrinks by 2 with each firing. -/
def wt (L : Nat) (i : Nat) : Int := ((i : Int) + 1) * ((L : Int) - i)
theorem wt_pos {L i : Nat} (h : i < L) : 1 ≤ wt L i := by
  unfold wt
  have h1 : (1 : Int) ≤ (i : Int) + 1 := by omega
  have h2 : (1 : Int) ≤ (L : Int) - i := by omega
  have := Int.mul_le_mul h1 h2 (by omega) (by omega)
  omega
def phi (l : List Int) : Int := dot (wt l.length) l
theorem phi_fire1 {l : List Int} {i : Nat} (hi : i < l.length) : phi (fire1 l i) = phi l - 2 := by
  unfold phi
  rw [len_fire1, dot_fire1 _ _ _ hi]
  have e1 : (if 0 < i then wt l.length (i - 1) else 0) = (i : Int) * ((l.length : Int) - i + 1) := by
    cases i with
    | zero => simp
    | succ i => rw [if_pos (by omega)]; unfold wt; simp only [Nat.add_sub_cancel]; congr 1; omega
  have e2 : (if i + 1 < l.length then wt l.length (i + 1) else 0) = ((i : Int) + 2) * ((l.length : Int) - i - 1) := by
    split
    · unfold wt
      have a : ((i + 1 : Nat) : Int) + 1 = (i : Int) + 2 := by omega
      have b : (l.length : Int) - ((i + 1 : Nat) : Int) = (l.length : Int) - i - 1 := by omega
      rw [a, b]
    · have b : (l.length : Int) - i - 1 = 0 := by omega
      rw [b, Int.mul_zero]
  rw [e1, e2]
  unfold wt
  generalize (l.length : Int) = L
  generalize (i : Int) = x
  grind
theorem phi_ge {l : List Int} (h : ∀ j, j < l.length → 0 ≤ g l j) {i : Nat} (hi : i < l.length) : g l i ≤ phi l := by
  have h0 : ∀ j, j < l.length → 0 ≤ wt l.length j * g l j := fun j hj => Int.mul_nonneg (by have := wt_pos hj; omega) (h j hj)
  have h1 := sumTo_ge h0 i hi
  have h2 : 1 * g l i ≤ wt l.length i * g l i := Int.mul_le_mul_of_nonneg_right (wt_pos hi) (h i hi)
  unfold phi dot
  omega
theorem phi_nonneg {l : List Int} (h : ∀ j, j < l.length → 0 ≤ g l j) : 0 ≤ phi l :=
  sumTo_nonneg (fun j hj => Int.mul_nonneg (by have := wt_pos hj; omega) (h j hj))

/-! ### many firings -/
def runs (l : List Int) : List Nat → List Int
  | [] => l
  | i :: ps => runs (fire1 l i) ps
def legal (l : List Int) : List Nat → Prop
  | [] => True
  | i :: ps => i < l.length ∧ 2 ≤ g l i ∧ legal (fire1 l i) ps
theorem len_runs (ps : List Nat) : ∀ l : List Int, (runs l ps).length = l.length := by
  induction ps with
  | nil => intro l; rfl
  | cons i ps ih => intro l; simp only [runs]; rw [ih, len_fire1]
theorem runs_append (ps qs : List Nat) : ∀ l : List Int, runs l (ps ++ qs) = runs (runs l ps) qs := by
  induction ps with
  | nil => intro l; rfl
  | cons i ps ih => intro l; simp only [runs, List.cons_append]; exact ih _
theorem legal_append (ps qs : List Nat) : ∀ l : List Int, legal l (ps ++ qs) ↔ legal l ps ∧ legal (runs l ps) qs := by
  induction ps with
  | nil => intro l; simp [legal, runs]
  | cons i ps ih => intro l; simp only [legal, runs, List.cons_append]; rw [ih]; constructor <;> (intro h; simp_all)
theorem cast_ite01 (p : Prop) [Decidable p] : ((if p then 1 else 0 : Nat) : Int) = if p then 1 else 0 := by split <;> rfl
theorem g_runs (ps : List Nat) : ∀ (l : List Int) (j : Nat), j < l.length → g (runs l ps) j = g l j - 2 * (ps.count j : Int) + (if 0 < j then (ps.count (j - 1) : Int) else 0) + (ps.count (j + 1) : Int) := by
  induction ps with
  | nil => intro l j hj; simp [runs]
  | cons i ps ih =>
    intro l j hj
    simp only [runs]
    rw [ih _ _ (by rw [len_fire1]; exact hj), g_fire1 i hj]
    simp only [List.count_cons, beq_iff_eq, Int.natCast_add, cast_ite01]
    omega
theorem runs_nonneg (ps : List Nat) : ∀ l : List Int, legal l ps → (∀ j, j < l.length → 0 ≤ g l j) → ∀ j, j < (runs l ps).length → 0 ≤ g (runs l ps) j := by
  induction ps with
  | nil => intro l _ h; exact h
  | cons i ps ih => intro l hl h; exact ih _ hl.2.2 (fire1_nonneg h hl.2.1)
theorem phi_runs (ps : List Nat) : ∀ l : List Int, legal l ps → phi (runs l ps) = phi l - 2 * ps.length := by
  induction ps with
  | nil => intro l _; simp [runs]
  | cons i ps ih => intro l hl; simp only [runs, List.length_cons]; rw [ih _ hl.2.2, phi_fire1 hl.1]; omega
theorem legal_lt (ps : List Nat) : ∀ l : List Int, legal l ps → ∀ i ∈ ps, i < l.length := by
  induction ps with
  | nil => intro l _ i hi; cases hi
  | cons p ps ih =>
    intro l hl i hi
    rcases List.mem_cons.1 hi with rfl | h
    · exact hl.1
    · have := ih _ hl.2.2 i h; rwa [len_fire1] at this
/-- Different places that can all fire may fire one behind the other. -/
theorem legal_of_nodup (ps : List Nat) : ∀ l : List Int, ps.Nodup → (∀ i ∈ ps, i < l.length ∧ 2 ≤ g l i) → legal l ps := by
  induction ps with
  | nil => intro l _ _; trivial
  | cons i ps ih =>
    intro l hn h
    refine ⟨(h i (by simp)).1, (h i (by simp)).2, ih _ (List.nodup_cons.1 hn).2 fun j hj => ?_⟩
    have hij : j ≠ i := fun e => (List.nodup_cons.1 hn).1 (e ▸ hj)
    have h2 := h j (by simp [hj])
    exact ⟨by rw [len_fire1]; exact h2.1, Int.le_trans h2.2 (fire1_other hij h2.1)⟩

/-! ### one rest -/
def stable (l : List Int) : Prop := ∀ i, i < l.length → g l i ≤ 1
/-- A place that can fire must fire before rest: it may fire first. -/
theorem fire_first (qs : List Nat) : ∀ (l : List Int) (i : Nat), i < l.length → 2 ≤ g l i → legal l qs → stable (runs l qs) →
    ∃ qs', legal l (i :: qs') ∧ runs l (i :: qs') = runs l qs ∧ ∀ j, (i :: qs').count j = qs.count j := by
  induction qs with
  | nil => intro l i hi h2 _ hs; have := hs i hi; simp only [runs] at this; omega
  | cons q qs ih =>
    intro l i hi h2 hl hs
    by_cases e : q = i
    · subst e; exact ⟨qs, hl, rfl, fun _ => rfl⟩
    · have h3 : 2 ≤ g (fire1 l q) i := Int.le_trans h2 (fire1_other (fun h => e h.symm) hi)
      obtain ⟨qs', a, b, c⟩ := ih (fire1 l q) i (by rw [len_fire1]; exact hi) h3 hl.2.2 hs
      refine ⟨q :: qs', ⟨hi, h2, by rw [len_fire1]; exact hl.1, Int.le_trans hl.2.1 (fire1_other e hl.1), ?_⟩, ?_, fun j => ?_⟩
      · rw [fire1_comm]; exact a.2.2
      · simp only [runs] at b ⊢; rw [fire1_comm]; exact b
      · have := c j; simp only [List.count_cons] at this ⊢; omega
/-- One rest, and each place fires as often, whatever the order. -/
theorem one_rest (ps : List Nat) : ∀ (l : List Int) (qs : List Nat), legal l ps → stable (runs l ps) → legal l qs → stable (runs l qs) →
    runs l ps = runs l qs ∧ ∀ j, ps.count j = qs.count j := by
  induction ps with
  | nil =>
    intro l qs _ hs hq _
    cases qs with
    | nil => exact ⟨rfl, fun _ => rfl⟩
    | cons q qs => have := hs q hq.1; have := hq.2.1; simp only [runs] at *; omega
  | cons i ps ih =>
    intro l qs hl hs hq hsq
    obtain ⟨qs', a, b, c⟩ := fire_first qs l i hl.1 hl.2.1 hq hsq
    obtain ⟨d, e⟩ := ih (fire1 l i) qs' hl.2.2 hs a.2.2 (by rw [← b] at hsq; exact hsq)
    exact ⟨by simp only [runs] at b ⊢; rw [d, b], fun j => by rw [← c j]; simp only [List.count_cons]; rw [e j]⟩
end Go.Proofs.Ytffliklmahedoaa.Chips
