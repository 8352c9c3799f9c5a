/- The places that can fire, and a round: the program and the reference alike.
Conditions: none beyond those of each theorem. -/
import Derived.Test.YtffliklmahedoaaPx14
import Derived.Test.YtffliklmahedoaaPx16
import Derived.Test.YtffliklmahedoaaChipD
namespace Go.Proofs.Ytffliklmahedoaa.Pure
open Go.RowKit Go.Proofs.Ytffliklmahedoaa.P Go.Proofs.YtffliklmahedoaaW.PrintWords Go.Proofs.YtffliklmahedoaaW.PrintLast Go.Proofs.Ytffliklmahedoaa.Chips
set_option linter.unusedSimpArgs false

/-- 1 for each place that can fire. -/
def ready (l : List Int) : List Int := l.map fun n => if n > 1 then 1 else 0
theorem len_ready (l : List Int) : (ready l).length = l.length := by simp [ready]
theorem g_ready (l : List Int) (j : Nat) : g (ready l) j = if 2 ≤ g l j then 1 else 0 := by
  by_cases h : j < l.length
  · unfold ready; rw [g_map _ _ _ h]
    by_cases c : g l j > 1
    · rw [if_pos c, if_pos (by omega)]
    · rw [if_neg c, if_neg (by omega)]
  · rw [g_ge (by rw [len_ready]; omega), g_ge (by omega), if_neg (by omega)]
theorem chReady_l0 (l : List Int) (hL : l.length ≤ 1099511627776) (d : Nat) : ∀ (k : Nat) (i : Nat), i + d = l.length → d < k → spec_chReady.l0 k ((ready l).take i) l (l.length : Int) (i : Int) = some (ready l) := by
  induction d with
  | zero =>
    intro k i hi hk
    obtain ⟨k, rfl⟩ : ∃ m, k = m + 1 := ⟨k - 1, by omega⟩
    simp only [spec_chReady.l0]
    rw [if_neg (by omega), List.take_of_length_le (by rw [len_ready]; omega)]
  | succ d ih =>
    intro k i hi hk
    obtain ⟨k, rfl⟩ : ∃ m, k = m + 1 := ⟨k - 1, by omega⟩
    have hih := ih k (i + 1) (by omega) (by omega)
    have hlen : ((ready l).take i).length = i := by rw [List.length_take, len_ready]; omega
    rw [take_snoc _ _ (by rw [len_ready]; omega), g_ready] at hih
    simp only [spec_chReady.l0]
    rw [if_pos (by omega), if_pos (by omega), if_pos (by omega), wrap_succ (by omega), hlen, rd_g]
    by_cases c : 2 ≤ g l i
    · rw [if_pos c] at hih
      rw [if_pos (by omega), if_pos (by omega)]; exact hih
    · rw [if_neg c] at hih
      rw [if_neg (by omega), if_pos (by omega)]; exact hih
theorem chReady_at {l : List Int} (hL : l.length ≤ 1099511627776) {k : Nat} (hk : l.length < k) : spec_chReady.f k l = some (ready l) := by
  unfold spec_chReady.f
  have := chReady_l0 l hL l.length k 0 (by omega) hk
  simpa using this
theorem fireT_ready (l : List Int) : fireT l (ready l) = runs l (places l) := by
  apply ext_g (by rw [len_fireT, len_runs])
  intro j hj
  rw [len_fireT] at hj
  rw [g_fireT _ hj, g_runs _ _ _ hj, g_ready, g_ready, g_ready, count_places, count_places, count_places]
  simp only [cast_ite01]
/-- The places that can fire, as the program tells them. -/
def pl (ps : List Nat) : List Int := ps.map fun (i : Nat) => (i : Int)
theorem len_pl (ps : List Nat) : (pl ps).length = ps.length := by simp [pl]
theorem firing_l0 (l : List Int) (hL : l.length ≤ 1099511627776) (d : Nat) : ∀ (k : Nat) (i : Nat), i + d = l.length → d < k →
    impl_firing.l0 k (pl ((List.range i).filter fun j => decide (2 ≤ g l j))) l (l.length : Int) (i : Int) = some (pl (places l)) := by
  induction d with
  | zero =>
    intro k i hi hk
    obtain ⟨k, rfl⟩ : ∃ m, k = m + 1 := ⟨k - 1, by omega⟩
    simp only [impl_firing.l0]
    rw [if_neg (by omega), show i = l.length by omega]; rfl
  | succ d ih =>
    intro k i hi hk
    obtain ⟨k, rfl⟩ : ∃ m, k = m + 1 := ⟨k - 1, by omega⟩
    have hih := ih k (i + 1) (by omega) (by omega)
    have hlen : (pl ((List.range i).filter fun j => decide (2 ≤ g l j))).length ≤ i := by
      rw [len_pl]; have := List.length_filter_le (fun j => decide (2 ≤ g l j)) (List.range i); rwa [List.length_range] at this
    rw [List.range_succ, List.filter_append] at hih
    simp only [impl_firing.l0]
    rw [if_pos (by omega), if_pos (by omega), if_pos (by omega), wrap_succ (by omega), rd_g]
    by_cases c : 2 ≤ g l i
    · rw [if_pos (by omega), if_pos (by omega)]
      simpa [pl, c] using hih
    · rw [if_neg (by omega)]
      simpa [pl, c] using hih
theorem firing_at {l : List Int} (hL : l.length ≤ 1099511627776) {k : Nat} (hk : l.length < k) : impl_firing.f k l = some (pl (places l)) := by
  unfold impl_firing.f
  exact firing_l0 l hL l.length k 0 (by omega) hk
theorem places_le (l : List Int) : (places l).length ≤ l.length := by
  unfold places; have := List.length_filter_le (fun j => decide (2 ≤ g l j)) (List.range l.length); rwa [List.length_range] at this
theorem rd_pl {ps : List Nat} {i : Nat} (h : i < ps.length) : rd (pl ps) (i : Int) = ((ps[i] : Nat) : Int) := by
  rw [rd_lt (by rw [len_pl]; exact h)]; simp [pl]
end Go.Proofs.Ytffliklmahedoaa.Pure
