/- One place fires: the program and the reference alike.
Conditions: none beyond those of each theorem. -/
import Derived.Test.YtffliklmahedoaaPx8
import Derived.Test.YtffliklmahedoaaPx9
import Derived.Test.YtffliklmahedoaaPx10
import Derived.Test.YtffliklmahedoaaChipC
namespace Go.Proofs.Ytffliklmahedoaa.Pure
open Go.RowKit Go.Proofs.Ytffliklmahedoaa.P Go.Proofs.YtffliklmahedoaaW.PrintWords Go.Proofs.YtffliklmahedoaaW.PrintLast Go.Proofs.Ytffliklmahedoaa.Chips
set_option linter.unusedSimpArgs false

theorem side_in {k : Nat} {x : List Int} {c : Int} {y : List Int} {j s : Nat} (hj : j < y.length) (hy : y.length ≤ 1099511627776) (hs : rd y (j : Int) = (s : Int)) (hx : s < x.length) (hL : x.length ≤ 1099511627776) (hb : -1125899906842624 ≤ g x s ∧ g x s ≤ 1125899906842624) :
    impl_fire.l0 (k + 1) x c y (y.length : Int) (j : Int) = impl_fire.l0 k (x.set s (g x s + 1)) c y (y.length : Int) ((j + 1 : Nat) : Int) := by
  simp only [impl_fire.l0]
  rw [if_pos (by omega), if_pos (by omega), if_pos (by omega), hs, within_eq]
  simp only [Option.bind_some]
  rw [wrap_id (x := (x.length : Int) - 1) (by omega) (by omega), if_pos (by simp [inB]; omega), if_pos (by omega), if_pos (by omega), wrap_succ (by omega), rd_g, wrap_id (by omega) (by omega), Int.toNat_natCast]
theorem side_out {k : Nat} {x : List Int} {c s : Int} {y : List Int} {j : Nat} (hj : j < y.length) (hy : y.length ≤ 1099511627776) (hs : rd y (j : Int) = s) (hx : s < 0 ∨ (x.length : Int) ≤ s) (hL : x.length ≤ 1099511627776) (hc : 0 ≤ c ∧ c ≤ 10) :
    impl_fire.l0 (k + 1) x c y (y.length : Int) (j : Int) = impl_fire.l0 k x (c + 1) y (y.length : Int) ((j + 1 : Nat) : Int) := by
  simp only [impl_fire.l0]
  rw [if_pos (by omega), if_pos (by omega), if_pos (by omega), hs, within_eq]
  simp only [Option.bind_some]
  rw [wrap_id (x := (x.length : Int) - 1) (by omega) (by omega), if_neg (by simp [inB]; omega), wrap_succ (by omega), wrap_id (by omega) (by omega)]
theorem side_end {k : Nat} {x : List Int} {c : Int} {y : List Int} {j : Nat} (hj : y.length ≤ j) : impl_fire.l0 (k + 1) x c y (y.length : Int) (j : Int) = some (c, x) := by
  simp only [impl_fire.l0]
  rw [if_neg (by omega)]
theorem fire_val {l r : List Int} {i : Nat} (hi : i < l.length) (hlen : r.length = l.length) (h0 : g r i = g l i - 2) (h1 : 0 < i → g r (i - 1) = g l (i - 1) + 1) (h2 : i + 1 < l.length → g r (i + 1) = g l (i + 1) + 1)
    (h3 : ∀ j, j < l.length → j ≠ i → j + 1 ≠ i → j ≠ i + 1 → g r j = g l j) : r = fire1 l i := by
  apply ext_g (by rw [len_fire1]; exact hlen)
  intro j hj
  rw [hlen] at hj
  rw [g_fire1 _ hj]
  by_cases a : j = i
  · subst a; rw [h0]; omega
  · by_cases b : j + 1 = i
    · have e : i - 1 = j := by omega
      have := h1 (by omega)
      rw [e] at this; rw [this]; omega
    · by_cases c : j = i + 1
      · subst c; rw [h2 hj]; omega
      · rw [h3 j hj a b c]; omega
theorem fire_at (l : List Int) (i : Nat) (hi : i < l.length) (hL : l.length ≤ 1099511627776) (hb : ∀ j, j < l.length → -1125899906842620 ≤ g l j ∧ g l j ≤ 1125899906842620) (k : Nat) (hk : 3 ≤ k) :
    impl_fire.f k l (i : Int) = some ((if i = 0 then 1 else 0) + (if i + 1 = l.length then 1 else 0), fire1 l i) := by
  obtain ⟨k, rfl⟩ : ∃ m, k = m + 3 := ⟨k - 3, by omega⟩
  unfold impl_fire.f
  have hbi := hb i hi
  rw [if_pos (by omega), if_pos (by omega), wrap_id (x := (i : Int) - 1) (by omega) (by omega), wrap_id (x := (i : Int) + 1) (by omega) (by omega), rd_g, wrap_id (x := g l i - 2) (by omega) (by omega), Int.toNat_natCast]
  simp only [Option.bind_some]
  have e0 : rd [(i : Int) - 1, (i : Int) + 1] ((0 : Nat) : Int) = (i : Int) - 1 := rfl
  have e1 : rd [(i : Int) - 1, (i : Int) + 1] ((1 : Nat) : Int) = (i : Int) + 1 := rfl
  have eL : (l.set i (g l i - 2)).length = l.length := List.length_set ..
  have gs : ∀ j, j < l.length → -1125899906842622 ≤ g (l.set i (g l i - 2)) j ∧ g (l.set i (g l i - 2)) j ≤ 1125899906842622 := by
    intro j hj
    rw [g_set]; have := hb j hj; split <;> omega
  show impl_fire.l0 (k + 2 + 1) (l.set i (g l i - 2)) 0 [(i : Int) - 1, (i : Int) + 1] (([(i : Int) - 1, (i : Int) + 1] : List Int).length : Int) ((0 : Nat) : Int) = _
  by_cases a : i = 0
  · rw [side_out (by simp) (by simp) e0 (by omega) (by rw [eL]; exact hL) (by omega)]
    by_cases b : i + 1 = l.length
    · rw [side_out (by simp) (by simp) e1 (by rw [eL]; omega) (by rw [eL]; exact hL) (by omega), side_end (by simp), if_pos a, if_pos b]
      congr 2
      refine fire_val hi (by simp) ?_ ?_ ?_ ?_ <;> (try intro j hj j1 j2 j3) <;> (try intro h_) <;> simp only [g_set, List.length_set, true_and] <;> (repeat' split) <;> omega
    · rw [side_in (s := i + 1) (by simp) (by simp) (by rw [e1]; rfl) (by rw [eL]; omega) (by rw [eL]; exact hL) (by have := gs (i + 1) (by omega); omega), side_end (by simp), if_pos a, if_neg b]
      congr 2
      refine fire_val hi (by simp) ?_ ?_ ?_ ?_ <;> (try intro j hj j1 j2 j3) <;> (try intro h_) <;> simp only [g_set, List.length_set, true_and] <;> (repeat' split) <;> omega
  · rw [side_in (s := i - 1) (by simp) (by simp) (by rw [e0]; omega) (by rw [eL]; omega) (by rw [eL]; exact hL) (by have := gs (i - 1) (by omega); omega)]
    have eL2 : ((l.set i (g l i - 2)).set (i - 1) (g (l.set i (g l i - 2)) (i - 1) + 1)).length = l.length := by simp
    by_cases b : i + 1 = l.length
    · rw [side_out (by simp) (by simp) e1 (by rw [eL2]; omega) (by rw [eL2]; exact hL) (by omega), side_end (by simp), if_neg a, if_pos b]
      congr 2
      refine fire_val hi (by simp) ?_ ?_ ?_ ?_ <;> (try intro j hj j1 j2 j3) <;> (try intro h_) <;> simp only [g_set, List.length_set, true_and] <;> (repeat' split) <;> omega
    · rw [side_in (s := i + 1) (by simp) (by simp) (by rw [e1]; rfl) (by rw [eL2]; omega) (by rw [eL2]; exact hL) (by rw [g_set]; have := gs (i + 1) (by omega); split <;> omega), side_end (by simp), if_neg a, if_neg b]
      congr 2
      refine fire_val hi (by simp) ?_ ?_ ?_ ?_ <;> (try intro j hj j1 j2 j3) <;> (try intro h_) <;> simp only [g_set, List.length_set, true_and] <;> (repeat' split) <;> omega
/-- The reference's firing of all places so often. -/
def fireT (l t : List Int) : List Int := (List.range l.length).map fun j => g l j - 2 * g t j + (if 0 < j then g t (j - 1) else 0) + g t (j + 1)
theorem len_fireT (l t : List Int) : (fireT l t).length = l.length := by simp [fireT]
theorem g_fireT {l : List Int} (t : List Int) {j : Nat} (hj : j < l.length) : g (fireT l t) j = g l j - 2 * g t j + (if 0 < j then g t (j - 1) else 0) + g t (j + 1) := by
  unfold fireT; rw [g_range _ _ _ hj]
theorem take_snoc (l : List Int) (i : Nat) (h : i < l.length) : l.take (i + 1) = l.take i ++ [g l i] := by
  rw [List.take_succ_eq_append_getElem h, g_lt h]
set_option maxHeartbeats 1000000 in
theorem chFire_l0 (l t : List Int) (ht : t.length = l.length) (hL : l.length ≤ 1099511627776) (hb : ∀ j, j < l.length → -1125899906842624 ≤ g l j ∧ g l j ≤ 1125899906842624) (hc : ∀ j, j < l.length → 0 ≤ g t j ∧ g t j ≤ 1125899906842624)
    (d : Nat) : ∀ (k : Nat) (i : Nat), i + d = l.length → d < k → spec_chFire.l0 k l t ((fireT l t).take i) l (l.length : Int) (i : Int) = some (fireT l t) := by
  induction d with
  | zero =>
    intro k i hi hk
    obtain ⟨k, rfl⟩ : ∃ m, k = m + 1 := ⟨k - 1, by omega⟩
    simp only [spec_chFire.l0]
    rw [if_neg (by omega), List.take_of_length_le (by rw [len_fireT]; omega)]
  | succ d ih =>
    intro k i hi hk
    obtain ⟨k, rfl⟩ : ∃ m, k = m + 1 := ⟨k - 1, by omega⟩
    have h1 := hb i (by omega)
    have h2 := hc i (by omega)
    have hih := ih k (i + 1) (by omega) (by omega)
    have hlen : ((fireT l t).take i).length = i := by rw [List.length_take, len_fireT]; omega
    rw [take_snoc _ _ (by rw [len_fireT]; omega), g_fireT _ (by omega)] at hih
    simp only [spec_chFire.l0]
    rw [if_pos (by omega), if_pos (by omega), if_pos (by omega), if_pos (by omega), wrap_succ (by omega), hlen, rd_g, rd_g]
    by_cases a : 0 < i
    · have h3 := hc (i - 1) (by omega)
      rw [if_pos (by omega), wrap_id (x := (i : Int) - 1) (by omega) (by omega), if_pos (by omega), if_pos (by omega), show (i : Int) - 1 = ((i - 1 : Nat) : Int) by omega, rd_g]
      rw [if_pos a] at hih
      by_cases b : i + 1 < l.length
      · have h4 := hc (i + 1) b
        rw [if_pos (by omega), if_pos (by omega), if_pos (by omega), if_pos (by omega), rd_g, wrap_id (x := 2 * g t i) (by omega) (by omega), wrap_id (x := g l i - 2 * g t i) (by omega) (by omega), wrap_id (x := g l i - 2 * g t i + g t (i - 1)) (by omega) (by omega), wrap_id (by omega) (by omega)]
        exact hih
      · rw [if_neg (by omega), if_pos (by omega), wrap_id (x := 2 * g t i) (by omega) (by omega), wrap_id (x := g l i - 2 * g t i) (by omega) (by omega), wrap_id (by omega) (by omega)]
        rw [g_ge (l := t) (i := i + 1) (by omega), Int.add_zero] at hih
        exact hih
    · rw [if_neg (by omega)]
      rw [if_neg a, Int.add_zero] at hih
      by_cases b : i + 1 < l.length
      · have h4 := hc (i + 1) b
        rw [if_pos (by omega), if_pos (by omega), if_pos (by omega), if_pos (by omega), rd_g, wrap_id (x := 2 * g t i) (by omega) (by omega), wrap_id (x := g l i - 2 * g t i) (by omega) (by omega), wrap_id (by omega) (by omega)]
        exact hih
      · rw [if_neg (by omega), if_pos (by omega), wrap_id (x := 2 * g t i) (by omega) (by omega), wrap_id (by omega) (by omega)]
        rw [g_ge (l := t) (i := i + 1) (by omega), Int.add_zero] at hih
        exact hih
theorem chFire_at {l t : List Int} (ht : t.length = l.length) (hL : l.length ≤ 1099511627776) (hb : ∀ j, j < l.length → -1125899906842624 ≤ g l j ∧ g l j ≤ 1125899906842624) (hc : ∀ j, j < l.length → 0 ≤ g t j ∧ g t j ≤ 1125899906842624)
    {k : Nat} (hk : l.length < k) : spec_chFire.f k l t = some (fireT l t) := by
  unfold spec_chFire.f
  have := chFire_l0 l t ht hL hb hc l.length k 0 (by omega) hk
  simpa using this
/-- One firing of one place. -/
def once (n i : Nat) : List Int := (List.replicate n 0).set i 1
theorem len_once (n i : Nat) : (once n i).length = n := by simp [once]
theorem g_once (n i j : Nat) : g (once n i) j = if i = j ∧ j < n then 1 else 0 := by
  unfold once; rw [g_set, g_replicate, List.length_replicate]
  by_cases h : i = j ∧ j < n
  · rw [if_pos h, if_pos h]
  · rw [if_neg h, if_neg h]; split <;> rfl
theorem once_01 (n i j : Nat) : 0 ≤ g (once n i) j ∧ g (once n i) j ≤ 1 := by rw [g_once]; split <;> omega
theorem fireT_once {l : List Int} {i : Nat} (hi : i < l.length) : fireT l (once l.length i) = fire1 l i := by
  apply ext_g (by rw [len_fireT, len_fire1])
  intro j hj
  rw [len_fireT] at hj
  rw [g_fireT _ hj, g_fire1 _ hj, g_once, g_once, g_once]
  omega
theorem chOnce_eq {n i : Nat} (hn : n ≤ 1099511627776) (hi : i < n) : spec_chOnce.f (n : Int) (i : Int) = some (once n i) := by
  unfold spec_chOnce.f
  rw [if_pos (by omega), if_pos (by omega)]
  simp only [Int.toNat_natCast, Option.bind_some, List.length_replicate]
  rw [if_pos (by omega), if_pos (by omega)]
  rfl
end Go.Proofs.Ytffliklmahedoaa.Pure
