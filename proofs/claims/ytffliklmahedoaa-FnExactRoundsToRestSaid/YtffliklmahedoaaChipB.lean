/- Chips come to rest: rounds of firings, how many there are, and what is left. Lists of whole numbers, no program.
Conditions: none beyond those of each theorem. -/
import Derived.Test.YtffliklmahedoaaChipA
namespace Go.Proofs.Ytffliklmahedoaa.Chips

theorem count_range (n j : Nat) : (List.range n).count j = if j < n then 1 else 0 := by
  induction n with
  | zero => simp
  | succ n ih =>
    rw [List.range_succ, List.count_append, ih]
    simp only [List.count_cons, List.count_nil, beq_iff_eq]
    by_cases a : n = j
    · subst a; simp
    · by_cases b : j < n
      · simp [a, b]; omega
      · simp [a, b]; omega
/-- The places that can fire. -/
def places (l : List Int) : List Nat := (List.range l.length).filter fun i => decide (2 ≤ g l i)
theorem mem_places {l : List Int} {i : Nat} : i ∈ places l ↔ i < l.length ∧ 2 ≤ g l i := by simp [places]
theorem places_legal (l : List Int) : legal l (places l) :=
  legal_of_nodup _ _ (List.Pairwise.filter _ List.nodup_range) (fun _ h => mem_places.1 h)
theorem places_nil {l : List Int} : places l = [] ↔ stable l := by
  constructor
  · intro h i hi
    by_cases c : g l i ≤ 1
    · exact c
    · have : i ∈ places l := mem_places.2 ⟨hi, by omega⟩
      rw [h] at this; cases this
  · intro h
    rw [List.eq_nil_iff_forall_not_mem]
    intro i hi
    obtain ⟨a, b⟩ := mem_places.1 hi
    have := h i a; omega
theorem count_places (l : List Int) (j : Nat) : (places l).count j = if 2 ≤ g l j then 1 else 0 := by
  by_cases c : 2 ≤ g l j
  · rw [if_pos c]
    unfold places
    rw [List.count_filter (by simpa using c), count_range, if_pos]
    by_cases hj : j < l.length
    · exact hj
    · rw [g_ge (by omega)] at c; omega
  · rw [if_neg c, List.count_eq_zero]
    intro h; exact c (mem_places.1 h).2

/-- Rounds: the rest that is come to, the places that fire, how many rounds. -/
def rounds : Nat → List Int → List Int × List Nat × Nat
  | 0, l => (l, [], 0)
  | n + 1, l => if places l = [] then (l, [], 0) else
    ((rounds n (runs l (places l))).1, places l ++ (rounds n (runs l (places l))).2.1, (rounds n (runs l (places l))).2.2 + 1)
theorem rounds_runs (n : Nat) : ∀ l : List Int, legal l (rounds n l).2.1 ∧ runs l (rounds n l).2.1 = (rounds n l).1 := by
  induction n with
  | zero => intro l; exact ⟨trivial, rfl⟩
  | succ n ih =>
    intro l
    simp only [rounds]
    split
    · exact ⟨trivial, rfl⟩
    · obtain ⟨a, b⟩ := ih (runs l (places l))
      exact ⟨(legal_append _ _ _).2 ⟨places_legal l, a⟩, by rw [runs_append]; exact b⟩
theorem rounds_len (n : Nat) (l : List Int) : (rounds n l).1.length = l.length := by
  rw [← (rounds_runs n l).2, len_runs]
theorem nonempty_length {ps : List Nat} (h : ps ≠ []) : 1 ≤ ps.length := by
  cases ps with
  | nil => exact absurd rfl h
  | cons _ _ => simp
theorem phi_round {l : List Int} (h : places l ≠ []) : phi (runs l (places l)) ≤ phi l - 2 := by
  rw [phi_runs _ _ (places_legal l)]
  have := nonempty_length h
  omega
theorem rounds_stable (n : Nat) : ∀ l : List Int, (∀ j, j < l.length → 0 ≤ g l j) → phi l < n → stable (rounds n l).1 := by
  induction n with
  | zero => intro l h hp; have := phi_nonneg h; omega
  | succ n ih =>
    intro l h hp
    simp only [rounds]
    split
    · rename_i e; exact places_nil.1 e
    · rename_i e
      exact ih _ (runs_nonneg _ _ (places_legal l) h) (by have := phi_round e; omega)
theorem rounds_nonneg (n : Nat) (l : List Int) (h : ∀ j, j < l.length → 0 ≤ g l j) : ∀ j, j < (rounds n l).1.length → 0 ≤ g (rounds n l).1 j := by
  rw [← (rounds_runs n l).2]
  exact runs_nonneg _ _ (rounds_runs n l).1 h
theorem rounds_phi (n : Nat) (l : List Int) : phi (rounds n l).1 = phi l - 2 * (rounds n l).2.1.length := by
  rw [← (rounds_runs n l).2]; exact phi_runs _ _ (rounds_runs n l).1
/-- More rounds change nothing at rest. -/
theorem rounds_at (l : List Int) (h : stable l) (n : Nat) : rounds n l = (l, [], 0) := by
  cases n with
  | zero => rfl
  | succ n => simp only [rounds]; rw [if_pos (places_nil.2 h)]
/-- Enough rounds come to one rest: the rest behind whatever legal firings. -/
theorem rest_of_legal {l : List Int} {ps : List Nat} {n m : Nat} (h : ∀ j, j < l.length → 0 ≤ g l j) (hl : legal l ps) (hn : phi l < n) (hm : phi (runs l ps) < m) :
    (rounds n l).1 = (rounds m (runs l ps)).1 ∧ ∀ j, (rounds n l).2.1.count j = ps.count j + (rounds m (runs l ps)).2.1.count j := by
  have hs := rounds_stable n l h hn
  have hs2 := rounds_stable m (runs l ps) (runs_nonneg _ _ hl h) hm
  obtain ⟨a, b⟩ := rounds_runs n l
  obtain ⟨c, d⟩ := rounds_runs m (runs l ps)
  have e := one_rest (rounds n l).2.1 l (ps ++ (rounds m (runs l ps)).2.1) a (by rw [b]; exact hs) ((legal_append _ _ _).2 ⟨hl, c⟩) (by rw [runs_append, d]; exact hs2)
  refine ⟨?_, fun j => ?_⟩
  · rw [← b, e.1, runs_append, d]
  · rw [e.2 j, List.count_append]

/-- How often each place fires, added to a list. -/
def addc (f : List Int) (ps : List Nat) : List Int := (List.range f.length).map fun i => g f i + ps.count i
theorem len_addc (f : List Int) (ps : List Nat) : (addc f ps).length = f.length := by simp [addc]
theorem g_addc (f : List Int) (ps : List Nat) (i : Nat) (hi : i < f.length) : g (addc f ps) i = g f i + ps.count i := by
  unfold addc; rw [g_range _ _ _ hi]
theorem addc_nil (f : List Int) : addc f [] = f := by
  apply ext_g (len_addc _ _)
  intro i hi; rw [len_addc] at hi; rw [g_addc _ _ _ hi]; simp
theorem addc_append (f : List Int) (ps qs : List Nat) : addc (addc f ps) qs = addc f (ps ++ qs) := by
  apply ext_g (by simp [len_addc])
  intro i hi
  simp only [len_addc] at hi
  rw [g_addc _ _ _ (by rw [len_addc]; exact hi), g_addc _ _ _ hi, g_addc _ _ _ hi, List.count_append]
  omega
theorem set_addc (f : List Int) (i : Nat) (ps : List Nat) : addc (f.set i (g f i + 1)) ps = addc f (i :: ps) := by
  apply ext_g (by simp [len_addc])
  intro j hj
  simp only [len_addc, List.length_set] at hj
  rw [g_addc _ _ _ (by simpa using hj), g_addc _ _ _ hj, g_set, List.count_cons]
  by_cases e : i = j
  · subst e; simp [hj]; omega
  · simp [e]

/-! ### the bounds of chips -/
theorem phi_le {l : List Int} {M : Int} (hM : 0 ≤ M) (h : ∀ j, j < l.length → 0 ≤ g l j ∧ g l j ≤ M) (hl : l.length ≤ 20) : phi l ≤ 20 * (400 * M) := by
  have h1 : ∀ i, i < l.length → wt l.length i * g l i ≤ 400 * M := fun i hi => by
    have h2 := h i hi
    have w0 := wt_pos hi
    have w1 : wt l.length i ≤ 20 * 20 := by
      unfold wt
      exact Int.mul_le_mul (by omega) (by omega) (by omega) (by omega)
    exact Int.mul_le_mul (by omega) h2.2 h2.1 (by omega)
  have h3 := sumTo_le h1
  unfold phi dot
  have h4 : (l.length : Int) * (400 * M) ≤ 20 * (400 * M) := Int.mul_le_mul_of_nonneg_right (by omega) (by omega)
  omega
end Go.Proofs.Ytffliklmahedoaa.Chips
