/- Rest: the program and the reference come to one rest by the same rounds.
Conditions: none beyond those of each theorem. -/
import Derived.Test.YtffliklmahedoaaPx5
import Derived.Test.YtffliklmahedoaaPx11
import Derived.Test.YtffliklmahedoaaPx14
import Derived.Test.YtffliklmahedoaaPx18
import Derived.Test.YtffliklmahedoaaChipE
namespace Go.Proofs.Ytffliklmahedoaa.Pure
open Go.RowKit Go.Proofs.Ytffliklmahedoaa.P Go.Proofs.YtffliklmahedoaaW.PrintWords Go.Proofs.YtffliklmahedoaaW.PrintLast Go.Proofs.Ytffliklmahedoaa.Chips
set_option linter.unusedSimpArgs false

/-- Chips that are few enough: no number leaves its range. -/
structure Calm (l : List Int) : Prop where
  nonneg : ∀ j, j < l.length → 0 ≤ g l j
  small : phi l ≤ 1099511627776
  len : l.length ≤ 1048576
theorem Calm.le {l : List Int} (h : Calm l) {j : Nat} (hj : j < l.length) : 0 ≤ g l j ∧ g l j ≤ 1099511627776 := ⟨h.nonneg j hj, Int.le_trans (phi_ge h.nonneg hj) h.small⟩
theorem Calm.bound {l : List Int} (h : Calm l) : ∀ j, j < l.length → -1125899906842620 ≤ g l j ∧ g l j ≤ 1125899906842620 := fun j hj => by have := h.le hj; omega
theorem Calm.bound' {l : List Int} (h : Calm l) : ∀ j, j < l.length → -1125899906842624 ≤ g l j ∧ g l j ≤ 1125899906842624 := fun j hj => by have := h.le hj; omega
theorem Calm.fire {l : List Int} {i : Nat} (h : Calm l) (hi : i < l.length) (h2 : 2 ≤ g l i) : Calm (fire1 l i) :=
  ⟨fire1_nonneg h.nonneg h2, by rw [phi_fire1 hi]; have := h.small; omega, by rw [len_fire1]; exact h.len⟩
theorem Calm.runs {l : List Int} {ps : List Nat} (h : Calm l) (hl : legal l ps) : Calm (runs l ps) :=
  ⟨runs_nonneg _ _ hl h.nonneg, by rw [phi_runs _ _ hl]; have := h.small; omega, by rw [len_runs]; exact h.len⟩
theorem good_calm {l : List Int} (h : good l = true) : Calm l :=
  ⟨fun j hj => (good_g h hj).1, by have := good_phi h; omega, by have := (good_len h).2; omega⟩

/-- How often firings are counted: no count leaves its range. -/
def Room (f l : List Int) : Prop := f.length = l.length ∧ ∀ j, j < l.length → 0 ≤ g f j ∧ g f j + phi l ≤ 1125899906842624
theorem Room.fire {f l : List Int} {i : Nat} (h : Room f l) (hi : i < l.length) : Room (f.set i (g f i + 1)) (fire1 l i) := by
  refine ⟨by rw [List.length_set, len_fire1]; exact h.1, fun j hj => ?_⟩
  rw [len_fire1] at hj
  have h1 := h.2 j hj
  have h2 := h.2 i hi
  rw [phi_fire1 hi, g_set]
  split <;> omega
theorem drop_cons {ps : List Nat} {i : Nat} (h : i < ps.length) : ps.drop i = ps[i] :: ps.drop (i + 1) := List.drop_eq_getElem_cons h
theorem settle_l1 (ps : List Nat) (hp : ps.length ≤ 1099511627776) (d : Nat) : ∀ (k : Nat) (x f : List Int) (i : Nat), 3 ≤ k → i + d = ps.length → Calm x → legal x (ps.drop i) → Room f x →
    impl_settle.l1 (k + d + 1) x f (pl ps) ((pl ps).length : Int) (i : Int) = (impl_firing.f k (runs x (ps.drop i))).bind fun t => impl_settle.l0 k (runs x (ps.drop i)) (addc f (ps.drop i)) t := by
  induction d with
  | zero =>
    intro k x f i hk hi hc hl hr
    simp only [impl_settle.l1]
    rw [if_neg (by rw [len_pl]; omega), List.drop_of_length_le (by omega), addc_nil]; rfl
  | succ d ih =>
    intro k x f i hk hi hc hl hr
    rw [drop_cons (show i < ps.length by omega)] at hl
    rw [drop_cons (show i < ps.length by omega)]
    have hlt : ps[i] < x.length := hl.1
    obtain ⟨m, hm⟩ : ∃ m, m = k + d + 1 := ⟨_, rfl⟩
    rw [show k + (d + 1) + 1 = m + 1 by omega]
    simp only [impl_settle.l1]
    rw [if_pos (by rw [len_pl]; omega), if_pos (by omega), if_pos (by rw [len_pl]; omega), rd_pl (by omega), fire_at x _ hlt (by have := hc.len; omega) hc.bound _ (by omega)]
    simp only [Option.bind_some]
    have hr1 := hr.2 _ hlt
    have hp0 := phi_nonneg hc.nonneg
    rw [if_pos (by omega), if_pos (by have := hr.1; omega), wrap_succ (by omega), rd_g, wrap_id (by omega) (by omega), Int.toNat_natCast, hm, ih k _ _ (i + 1) hk (by omega) (hc.fire hlt hl.2.1) hl.2.2 (hr.fire hlt), set_addc]
    rfl
theorem settle_l0 (n : Nat) : ∀ (l f : List Int), Calm l → phi l < n → Room f l →
    ∃ K, ∀ k, K ≤ k → impl_settle.l0 k l f (pl (places l)) = some ((rounds n l).1, addc f (rounds n l).2.1) := by
  induction n with
  | zero => intro l f hc hp _; have := phi_nonneg hc.nonneg; omega
  | succ n ih =>
    intro l f hc hp hr
    by_cases e : places l = []
    · refine ⟨1, fun k hk => ?_⟩
      obtain ⟨k, rfl⟩ : ∃ m, k = m + 1 := ⟨k - 1, by omega⟩
      simp only [impl_settle.l0, rounds]
      rw [if_neg (by rw [e]; simp [pl]), if_pos e, addc_nil]
    · have hpl := places_legal l
      have hr' : Room (addc f (places l)) (runs l (places l)) := by
        refine ⟨by rw [len_addc, len_runs]; exact hr.1, fun j hj => ?_⟩
        rw [len_runs] at hj
        have h1 := hr.2 j hj
        have h2 : (places l).count j ≤ (places l).length := List.count_le_length
        rw [g_addc _ _ _ (by rw [hr.1]; exact hj), phi_runs _ _ hpl]
        omega
      obtain ⟨K, hK⟩ := ih (runs l (places l)) (addc f (places l)) (hc.runs hpl) (by have := phi_round e; omega) hr'
      refine ⟨K + l.length + (places l).length + 6, fun k hk => ?_⟩
      obtain ⟨m, rfl⟩ : ∃ m, k = (m + (places l).length + 1) + 1 := ⟨k - (places l).length - 2, by omega⟩
      simp only [impl_settle.l0, rounds]
      rw [if_pos (by rw [len_pl]; have := nonempty_length e; omega), if_neg e]
      have h1 := settle_l1 (places l) (by have := places_le l; have := hc.len; omega) (places l).length m l f 0 (by omega) (by omega) hc (by simpa using hpl) hr
      rw [show ((0 : Nat) : Int) = 0 from rfl] at h1
      rw [h1, List.drop_zero, firing_at (by rw [len_runs]; have := hc.len; omega) (by rw [len_runs]; omega)]
      simp only [Option.bind_some]
      rw [hK m (by omega), addc_append]
theorem settle_ev {l : List Int} (hc : Calm l) (n : Nat) (hn : phi l < n) : ∃ K, ∀ k, K ≤ k → impl_settle.f k l = some ((rounds n l).1, addc (List.replicate l.length 0) (rounds n l).2.1) := by
  obtain ⟨K, hK⟩ := settle_l0 n l (List.replicate l.length 0) hc hn ⟨by simp, fun j hj => by rw [g_replicate, if_pos hj]; have := hc.small; omega⟩
  refine ⟨K + l.length + 1, fun k hk => ?_⟩
  have := hc.len
  unfold impl_settle.f slices_Clone_int_int.f
  rw [if_pos (by omega)]
  simp only [Option.bind_some]
  rw [if_pos (by omega), if_pos (by omega), firing_at (by omega) (by omega)]
  simp only [Option.bind_some, Int.toNat_natCast]
  exact hK k (by omega)
theorem l1Own_eq {l : List Int} (h : l.length ≤ 1099511627776) : spec_l1Own.f l = some l := by
  unfold spec_l1Own.f
  simp only [Option.bind_some, List.length_nil, List.nil_append]
  rw [if_pos (by omega)]
theorem Clone_eq {l : List Int} (h : l.length ≤ 1099511627776) : slices_Clone_int_int.f l = some l := by
  unfold slices_Clone_int_int.f
  rw [if_pos (by omega)]
theorem l1Has_l0 (l : List Int) (x : Int) (hL : l.length ≤ 1099511627776) (d : Nat) : ∀ (k : Nat) (i : Nat), i + d = l.length → d < k → spec_l1Has.l0 k x l (l.length : Int) (i : Int) = some (decide (x ∈ l.drop i)) := by
  induction d with
  | zero =>
    intro k i hi hk
    obtain ⟨k, rfl⟩ : ∃ m, k = m + 1 := ⟨k - 1, by omega⟩
    simp only [spec_l1Has.l0]
    rw [if_neg (by omega), List.drop_of_length_le (by omega)]; simp
  | succ d ih =>
    intro k i hi hk
    obtain ⟨k, rfl⟩ : ∃ m, k = m + 1 := ⟨k - 1, by omega⟩
    simp only [spec_l1Has.l0]
    rw [if_pos (by omega), if_pos (by omega), if_pos (by omega), wrap_succ (by omega), rd_lt (by omega), ih k (i + 1) (by omega) (by omega), List.drop_eq_getElem_cons (show i < l.length by omega)]
    by_cases c : l[i] = x
    · rw [if_pos c]; simp [c]
    · rw [if_neg c]; have : ¬ x = l[i] := fun h => c h.symm
      rw [Option.some.injEq, decide_eq_decide, List.mem_cons]; simp only [this, false_or]
theorem l1Has_at {l : List Int} {x : Int} (hL : l.length ≤ 1099511627776) {k : Nat} (hk : l.length < k) : spec_l1Has.f k l x = some (decide (x ∈ l)) := by
  unfold spec_l1Has.f
  exact l1Has_l0 l x hL l.length k 0 (by omega) hk
theorem ready_has (l : List Int) : (1 : Int) ∈ ready l ↔ places l ≠ [] := by
  constructor
  · intro h
    obtain ⟨i, hi, e⟩ := mem_g h
    rw [g_ready] at e
    rw [len_ready] at hi
    have : i ∈ places l := mem_places.2 ⟨hi, by split at e <;> first | assumption | omega⟩
    intro h; rw [h] at this; cases this
  · intro h
    obtain ⟨i, hi⟩ := List.exists_mem_of_ne_nil _ h
    obtain ⟨a, b⟩ := mem_places.1 hi
    have e := g_mem (l := ready l) (i := i) (by rw [len_ready]; exact a)
    rw [g_ready, if_pos b] at e; exact e
def addFrom (f t : List Int) (i : Nat) : List Int := (List.range f.length).map fun j => g f j + if i ≤ j then g t j else 0
theorem len_addFrom (f t : List Int) (i : Nat) : (addFrom f t i).length = f.length := by simp [addFrom]
theorem g_addFrom (f t : List Int) (i : Nat) {j : Nat} (hj : j < f.length) : g (addFrom f t i) j = g f j + if i ≤ j then g t j else 0 := by
  unfold addFrom; rw [g_range _ _ _ hj]
theorem addFrom_ready (f l : List Int) : addFrom f (ready l) 0 = addc f (places l) := by
  apply ext_g (by rw [len_addFrom, len_addc])
  intro j hj
  rw [len_addFrom] at hj
  rw [g_addFrom _ _ _ hj, g_addc _ _ _ hj, if_pos (by omega), g_ready, count_places, cast_ite01]
theorem rest_l1 (t : List Int) (ht : t.length ≤ 1048576) (d : Nat) : ∀ (k : Nat) (x f : List Int) (c : Int) (i : Nat), i + d = t.length → f.length = t.length → (∀ j, i ≤ j → j < t.length → 0 ≤ g f j ∧ g f j ≤ 1125899906842624 ∧ 0 ≤ g t j ∧ g t j ≤ 1) → 0 ≤ c ∧ c ≤ 1125899906842624 →
    spec_chRest.l1 (k + d + 1) x f c t (t.length : Int) (i : Int) = spec_chRest.l0 k x (addFrom f t i) (c + 1) := by
  induction d with
  | zero =>
    intro k x f c i hi hf hb hc
    simp only [spec_chRest.l1]
    rw [if_neg (by omega), wrap_id (by omega) (by omega)]
    congr 1
    apply ext_g (by rw [len_addFrom])
    intro j hj
    rw [g_addFrom _ _ _ hj, if_neg (by omega)]; omega
  | succ d ih =>
    intro k x f c i hi hf hb hc
    obtain ⟨m, hm⟩ : ∃ m, m = k + d + 1 := ⟨_, rfl⟩
    rw [show k + (d + 1) + 1 = m + 1 by omega]
    simp only [spec_chRest.l1]
    have h1 := hb i (by omega) (by omega)
    rw [if_pos (by omega), if_pos (by omega), if_pos (by omega), if_pos (by omega), wrap_succ (by omega), rd_g, rd_g, wrap_id (by omega) (by omega), Int.toNat_natCast, hm]
    rw [ih k x _ c (i + 1) (by omega) (by simpa using hf) ?_ hc]
    · congr 1
      apply ext_g (by rw [len_addFrom, len_addFrom, List.length_set])
      intro j hj
      rw [len_addFrom, List.length_set] at hj
      rw [g_addFrom _ _ _ (by simpa using hj), g_addFrom _ _ _ hj, g_set]
      by_cases e : i = j
      · subst e; rw [if_pos ⟨rfl, hj⟩, if_neg (by omega), if_pos (by omega)]; omega
      · rw [if_neg (by omega)]
        by_cases e2 : i ≤ j
        · rw [if_pos (by omega), if_pos (by omega)]
        · rw [if_neg (by omega), if_neg (by omega)]
    · intro j hij hj
      have h2 := hb j (by omega) hj
      rw [g_set, if_neg (by omega)]; exact h2
theorem ready_01 (l : List Int) (j : Nat) : 0 ≤ g (ready l) j ∧ g (ready l) j ≤ 1 := by rw [g_ready]; split <;> omega
theorem chRest_l0 (n : Nat) : ∀ (l f : List Int) (c : Int), Calm l → phi l < n → Room f l → 0 ≤ c ∧ c + phi l ≤ 1125899906842624 →
    ∃ K, ∀ k, K ≤ k → spec_chRest.l0 k l f c = some ((rounds n l).1, addc f (rounds n l).2.1, c + (rounds n l).2.2) := by
  induction n with
  | zero => intro l f c hc hp _ _; have := phi_nonneg hc.nonneg; omega
  | succ n ih =>
    intro l f c hc hp hr h0
    have hlen := hc.len
    by_cases e : places l = []
    · refine ⟨l.length + 2, fun k hk => ?_⟩
      obtain ⟨k, rfl⟩ : ∃ m, k = m + 1 := ⟨k - 1, by omega⟩
      simp only [spec_chRest.l0, rounds]
      rw [chReady_at (by omega) (by omega)]
      simp only [Option.bind_some]
      rw [l1Has_at (by rw [len_ready]; omega) (by rw [len_ready]; omega), l1Own_eq (by omega)]
      simp only [Option.bind_some]
      rw [if_neg (by rw [decide_eq_true_eq, ready_has]; exact fun h => h e), if_pos e, addc_nil]; simp
    · have hpl := places_legal l
      have hne := nonempty_length e
      have hr' : Room (addc f (places l)) (runs l (places l)) := by
        refine ⟨by rw [len_addc, len_runs]; exact hr.1, fun j hj => ?_⟩
        rw [len_runs] at hj
        have h1 := hr.2 j hj
        have h2 : (places l).count j ≤ (places l).length := List.count_le_length
        rw [g_addc _ _ _ (by rw [hr.1]; exact hj), phi_runs _ _ hpl]
        omega
      obtain ⟨K, hK⟩ := ih (runs l (places l)) (addc f (places l)) (c + 1) (hc.runs hpl) (by have := phi_round e; omega) hr' (by rw [phi_runs _ _ hpl]; omega)
      refine ⟨K + 2 * l.length + 6, fun k hk => ?_⟩
      obtain ⟨m, rfl⟩ : ∃ m, k = (m + l.length + 1) + 1 := ⟨k - l.length - 2, by omega⟩
      simp only [spec_chRest.l0, rounds]
      rw [chReady_at (by omega) (by omega)]
      simp only [Option.bind_some]
      rw [l1Has_at (by rw [len_ready]; omega) (by rw [len_ready]; omega)]
      simp only [Option.bind_some]
      rw [if_pos (by rw [decide_eq_true_eq, ready_has]; exact e), chFire_at (len_ready l) (by omega) hc.bound' (fun j _ => by have := ready_01 l j; omega) (by omega), if_neg e]
      simp only [Option.bind_some]
      have h1 := rest_l1 (ready l) (by rw [len_ready]; omega) l.length m (fireT l (ready l)) f c 0 (by rw [len_ready]; omega) (by rw [len_ready]; exact hr.1) (fun j _ hj => by rw [len_ready] at hj; have := hr.2 j hj; have := ready_01 l j; have := phi_nonneg hc.nonneg; omega) (by have := phi_nonneg hc.nonneg; omega)
      rw [show ((0 : Nat) : Int) = 0 from rfl] at h1
      rw [h1, fireT_ready, addFrom_ready, hK m (by omega), addc_append]
      congr 3; omega
theorem chRest_ev {l : List Int} (hc : Calm l) (n : Nat) (hn : phi l < n) : ∃ K, ∀ k, K ≤ k → spec_chRest.f k l = some ((rounds n l).1, addc (List.replicate l.length 0) (rounds n l).2.1, ((rounds n l).2.2 : Int)) := by
  obtain ⟨K, hK⟩ := chRest_l0 n l (List.replicate l.length 0) 0 hc hn ⟨by simp, fun j hj => by rw [g_replicate, if_pos hj]; have := hc.small; omega⟩ (by have := hc.small; omega)
  refine ⟨K, fun k hk => ?_⟩
  have := hc.len
  unfold spec_chRest.f
  rw [if_pos (by omega), if_pos (by omega)]
  simp only [Int.toNat_natCast]
  rw [hK k hk]; simp
end Go.Proofs.Ytffliklmahedoaa.Pure
