/- All places fire at once.
Conditions: none beyond those of each theorem. -/
import Derived.Test.YtffliklmahedoaaPx16
import Derived.Test.YtffliklmahedoaaChipF
import Derived.Test.YtffliklmahedoaaChipJ
namespace Go.Proofs.Ytffliklmahedoaa.Pure
open Go.RowKit Go.Proofs.Ytffliklmahedoaa.P Go.Proofs.YtffliklmahedoaaW.PrintWords Go.Proofs.YtffliklmahedoaaW.PrintLast Go.Proofs.Ytffliklmahedoaa.Chips
set_option linter.unusedSimpArgs false

/-- How many chips are lost. -/
def lostOf (L : Nat) (ps : List Nat) : Int := (ps.count 0 : Int) + (ps.count (L - 1) : Int)
theorem lostOf_cons (L : Nat) (hL : 1 ≤ L) (i : Nat) (ps : List Nat) : lostOf L (i :: ps) = lostOf L ps + ((if i = 0 then 1 else 0) + (if i + 1 = L then 1 else 0)) := by
  unfold lostOf
  simp only [List.count_cons, beq_iff_eq, Int.natCast_add, cast_ite01]
  omega
theorem fireAll_l0 (ps : List Nat) (hp : ps.length ≤ 1099511627776) (d : Nat) : ∀ (k : Nat) (x : List Int) (c : Int) (i : Nat), 3 ≤ k → i + d = ps.length → Calm x → legal x (ps.drop i) → 0 ≤ c ∧ c + 2 * d ≤ 1125899906842624 →
    impl_fireAll.l0 (k + d + 1) x c (pl ps) ((pl ps).length : Int) (i : Int) = some (c + lostOf x.length (ps.drop i), runs x (ps.drop i)) := by
  induction d with
  | zero =>
    intro k x c i hk hi hc hl h0
    simp only [impl_fireAll.l0]
    rw [if_neg (by rw [len_pl]; omega), List.drop_of_length_le (by omega)]; simp [lostOf, runs]
  | succ d ih =>
    intro k x c i hk hi hc hl h0
    rw [drop_cons (show i < ps.length by omega)] at hl
    rw [drop_cons (show i < ps.length by omega)]
    have hlt : ps[i] < x.length := hl.1
    obtain ⟨m, hm⟩ : ∃ m, m = k + d + 1 := ⟨_, rfl⟩
    rw [show k + (d + 1) + 1 = m + 1 by omega]
    simp only [impl_fireAll.l0]
    rw [if_pos (by rw [len_pl]; omega), if_pos (by omega), if_pos (by rw [len_pl]; omega), rd_pl (by omega), fire_at x _ hlt (by have := hc.len; omega) hc.bound _ (by omega)]
    simp only [Option.bind_some]
    rw [wrap_succ (by omega), wrap_id (by split <;> split <;> omega) (by split <;> split <;> omega), hm, ih k _ _ (i + 1) hk (by omega) (hc.fire hlt hl.2.1) hl.2.2 (by split <;> split <;> omega), len_fire1, lostOf_cons _ (by omega)]
    simp only [runs]
    congr 2; omega
theorem fireAll_at {l : List Int} (hc : Calm l) {k : Nat} (hk : 2 * l.length + 6 ≤ k) : impl_fireAll.f k l = some (lostOf l.length (places l), runs l (places l)) := by
  unfold impl_fireAll.f
  have hL := hc.len
  have hp := places_le l
  rw [firing_at (by omega) (by omega)]
  simp only [Option.bind_some]
  obtain ⟨m, rfl⟩ : ∃ m, k = m + (places l).length + 1 := ⟨k - (places l).length - 1, by omega⟩
  have := fireAll_l0 (places l) (by omega) (places l).length m l 0 0 (by omega) (by omega) hc (by simpa using places_legal l) (by omega)
  simpa using this
theorem lost_ready {l : List Int} (_h1 : 1 ≤ l.length) : g (ready l) 0 + g (ready l) (l.length - 1) = lostOf l.length (places l) := by
  unfold lostOf
  rw [g_ready, g_ready, count_places, count_places, cast_ite01, cast_ite01]
end Go.Proofs.Ytffliklmahedoaa.Pure
