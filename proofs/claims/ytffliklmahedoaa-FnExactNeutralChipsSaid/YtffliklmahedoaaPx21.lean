/- Written by a program of this workplace (own_print.py, over the kit's print) for the functions that the statements reach, with contracts of its own. Lean checks it. -/
import Derived.Test.YtffliklmahedoaaPx0
import Derived.Test.YtffliklmahedoaaPx1
import Derived.Test.YtffliklmahedoaaPx13
import Derived.Test.YtffliklmahedoaaPx20
namespace Go.Proofs.Ytffliklmahedoaa.P
open Go.RowKit Go.Proofs.YtffliklmahedoaaW.PrintWords Go.Proofs.YtffliklmahedoaaW.PrintLast Go.Proofs.YtffliklmahedoaaW.PrintMore
attribute [local go_sem] max2_int min2_int max_two min_two max_three min_three max_four min_four   -- for this text's walks alone
set_option linter.unusedVariables false
set_option linter.unusedSimpArgs false

/-! ### impl_ComingChips: function 38 -/
def impl_ComingChips.j0 : Nat → Int → Int → Bool → Option (List Int × Bool)
 | 0, _, _, _ => none
 | k + 1, x0, x1, x16 => if x16 = true then (some (([] : List Int), false)) else ((slices_Repeat_int_int.f (([1] : List Int)) x0).bind fun t293 => ((impl_classOf.f k t293).bind fun t296 => (if (wrap64 (x0 + 1)) = 0 then (none) else (if (wrap64 ((Int.tmod (wrap64 ((wrap64 ((wrap64 (t296 - x1)) + x0)) + 1)) (wrap64 (x0 + 1))) - 1)) ≥ 0 then (if 0 ≤ (wrap64 ((Int.tmod (wrap64 ((wrap64 ((wrap64 (t296 - x1)) + x0)) + 1)) (wrap64 (x0 + 1))) - 1)) then (if (wrap64 ((Int.tmod (wrap64 ((wrap64 ((wrap64 (t296 - x1)) + x0)) + 1)) (wrap64 (x0 + 1))) - 1)) < (t293.length : Int) then (some ((t293.set ((wrap64 ((Int.tmod (wrap64 ((wrap64 ((wrap64 (t296 - x1)) + x0)) + 1)) (wrap64 (x0 + 1))) - 1)) : Int).toNat 0), true)) else (none)) else (none)) else (some (t293, true))))))
def impl_ComingChips.f (k : Nat) (a0 : Int) (a1 : Int) : Option (List Int × Bool) := (impl_within.f a0 1 20).bind fun t288 => (if t288 = true then ((impl_within.f a1 0 a0).bind fun t289 => (impl_ComingChips.j0 k a0 a1 (!t289))) else (impl_ComingChips.j0 k a0 a1 true))
theorem impl_ComingChips.mono_l : ∀ k, (∀ y0 y1 y2, LeO (impl_ComingChips.j0 k y0 y1 y2) (impl_ComingChips.j0 (k + 1) y0 y1 y2))
 | 0 => fun _ _ _ r h => by simp [impl_ComingChips.j0] at h
 | k + 1 => by
  have ih0 := impl_ComingChips.mono_l k
  ·intro y0 y1 y2
   unfold impl_ComingChips.j0
   repeat' first
   | (with_reducible exact ih0 _ _ _)
   | (with_reducible exact impl_classOf.mono _ _)
   | (with_reducible exact LeO.refl _)
   | (with_reducible exact LeO.none _)
   | (with_reducible refine LeO.ite ?_ ?_)
   | (with_reducible refine LeO.bind ?_ (fun _ => ?_))
   | exact ih0 _ _ _
   | exact impl_classOf.mono _ _
   | exact LeO.none _
   | refine LeO.ite ?_ ?_
   | refine LeO.bind ?_ (fun _ => ?_)
theorem impl_ComingChips.mono : ∀ a0 a1 k, LeO (impl_ComingChips.f k a0 a1) (impl_ComingChips.f (k + 1) a0 a1) := by
 intro a0 a1 k
 have ih0 := impl_ComingChips.mono_l k
 unfold impl_ComingChips.f
 repeat' first
   | (with_reducible exact ih0 _ _ _)
   | (with_reducible exact impl_classOf.mono _ _)
   | (with_reducible exact LeO.refl _)
   | (with_reducible exact LeO.none _)
   | (with_reducible refine LeO.ite ?_ ?_)
   | (with_reducible refine LeO.bind ?_ (fun _ => ?_))
   | exact ih0 _ _ _
   | exact impl_classOf.mono _ _
   | exact LeO.none _
   | refine LeO.ite ?_ ?_
   | refine LeO.bind ?_ (fun _ => ?_)
set_option maxHeartbeats 8000000 in
set_option maxRecDepth 100000 in
theorem impl_ComingChips.calls (k : Nat) (a0 : Int) (a1 : Int) (r1 : List Int) (r2 : Bool) (w : World) (h : impl_ComingChips.f k a0 a1 = some (r1, r2)) :
  Calls Try.prog 38 #[.int .i64 a0, .int .i64 a1] w fun e w' => ∃ v0_ : Value, e = .returned (.tuple #[v0_, .bool r2]) ∧ Kd.R (Kd.int .i64) 3 w' w.heap.size (fun _ => True) v0_ r1 ∧ Below w.heap.size w w' := by
 have HB := Aside0.mk (Below.refl w.heap.size w)
 have H : ((impl_within.f a0 1 20).bind fun t288 => (if t288 = true then ((impl_within.f a1 0 a0).bind fun t289 => (impl_ComingChips.j0 k a0 a1 (!t289))) else (impl_ComingChips.j0 k a0 a1 true))) = some (r1, r2) := h
 clear h
 have HC3 := Aside0.mk H
 clear H
 go_enter Try.func38, Try.ntmps38
 go_upto_region 1 with (fail)
 go_cut [16] (fun v16 wc => ∃ (kq : Nat) (x16_2 : Bool), v16 = .bool x16_2 ∧ Aside0 (impl_ComingChips.j0 kq a0 a1 x16_2 = some (r1, r2)) ∧ Aside0 (kq ≤ k) ∧ Aside0 (Below w.heap.size w wc))
 case first =>
  have H := HC3.out
  clear HC3
  replace H := Option.bind_eq_some_iff.mp H
  obtain ⟨t288, A40, H⟩ := H
  replace H : (if t288 = true then ((impl_within.f a1 0 a0).bind fun t289 => (impl_ComingChips.j0 k a0 a1 (!t289))) else (impl_ComingChips.j0 k a0 a1 true)) = some (r1, r2) := H
  have A4 := Aside0.mk A40
  clear A40
  by_cases c5 : t288 = true
  ·subst c5
   have H1 : ((impl_within.f a1 0 a0).bind fun t289 => (impl_ComingChips.j0 k a0 a1 (!t289))) = some (r1, r2) := by rw [if_pos rfl] at H; exact H
   clear H
   have H := H1
   clear H1
   replace H := Option.bind_eq_some_iff.mp H
   obtain ⟨t289, A60, H⟩ := H
   replace H : (impl_ComingChips.j0 k a0 a1 (!t289)) = some (r1, r2) := H
   have A6 := Aside0.mk A60
   clear A60
   have H' := Aside0.mk H
   clear H
   go_wp2_with (first | ((with_reducible refine gate_callee (f := 60) rfl ?_); refine goesL_ (some 9) rfl rfl Try.func60 (by kernel_rfl) rfl #[.int .i64 a0, .int .i64 1, .int .i64 20] rfl (by (try simp only [List.map_toArray, List.map_cons, List.map_nil]); first | done | rfl | (simp only [List.length_drop, List.length_take]; rfl)) ?_; (with_reducible refine (impl_within.calls a0 1 20 true _ A4.out).mono ?_); rintro e w' ⟨rfl, ⟨nd, rfl⟩⟩; refine ⟨_, rfl, ?_⟩) | (go_at_call 60; (with_reducible refine (impl_within.calls a1 0 a0 t289 _ A6.out).mono ?_); rintro e w' ⟨rfl, ⟨nd, rfl⟩⟩))
   go_meet
   case rel => exact ⟨_, (!t289), (by first | rfl | (simp; done) | (simp [*]; done)), H', ⟨by first | omega | exact Nat.le_refl _⟩, ⟨by repeat (first | (with_reducible first | exact HB.out | apply below_alloc | apply pw_below_drewN | apply below_drew1) | exact HB.out)⟩⟩
  ·replace c5 := Bool.eq_false_iff.mpr c5
   subst c5
   have H1 : (impl_ComingChips.j0 k a0 a1 true) = some (r1, r2) := by rw [if_neg (show ¬ (false = true) by decide)] at H; exact H
   clear H
   have H := H1
   clear H1
   have H' := Aside0.mk H
   clear H
   go_wp2_with (first | ((with_reducible refine gate_callee (f := 60) rfl ?_); refine goesL_ (some 9) rfl rfl Try.func60 (by kernel_rfl) rfl #[.int .i64 a0, .int .i64 1, .int .i64 20] rfl (by (try simp only [List.map_toArray, List.map_cons, List.map_nil]); first | done | rfl | (simp only [List.length_drop, List.length_take]; rfl)) ?_; (with_reducible refine (impl_within.calls a0 1 20 false _ A4.out).mono ?_); rintro e w' ⟨rfl, ⟨nd, rfl⟩⟩; refine ⟨_, rfl, ?_⟩))
   go_meet
   case rel => exact ⟨_, (true), (by first | rfl | (simp; done) | (simp [*]; done)), H', ⟨by first | omega | exact Nat.le_refl _⟩, ⟨by repeat (first | (with_reducible first | exact HB.out | apply below_alloc | apply pw_below_drewN | apply below_drew1) | exact HB.out)⟩⟩
 case rest =>
  clear HC3
  try clear p2
  try clear c3
  try clear c5
  try clear c6
  obtain ⟨kq, x16_2, rfl, HA, HJ2, HB⟩ := hcut
  cases kq with
  | zero => exact absurd HA.out (by simp [impl_ComingChips.j0])
  | succ kj2 =>
   have H := HA.out
   clear HA
   simp only [impl_ComingChips.j0] at H
   by_cases c7 : x16_2 = true
   ·subst c7
    have H1 : (some (([] : List Int), false)) = some (r1, r2) := by rw [if_pos rfl] at H; exact H
    clear H
    have H := H1
    clear H1
    simp only [Option.some.injEq, Prod.mk.injEq] at H
    obtain ⟨rfl, rfl⟩ := H
    go_wp2
    go_ret2
    exact ⟨_, by first | rfl | (simp [errW_none, errW_some] <;> rfl) | (simp [*, errW_none, errW_some] <;> rfl), by first | exact Kd.R_nil _ _ _ _ _ | exact Kd.N_nil _ _ _ _ _ | exact Kd.V_nil _ _ _ _ _ | exact Kd.Q_nil _ _ _ _ _ | exact Kd.S_nil _ _ _ _ _, by repeat (first | (with_reducible first | exact HB.out | apply below_alloc | apply pw_below_drewN | apply below_drew1) | exact HB.out)⟩
   ·replace c7 := Bool.eq_false_iff.mpr c7
    subst c7
    have H1 : ((slices_Repeat_int_int.f (([1] : List Int)) a0).bind fun t293 => ((impl_classOf.f kj2 t293).bind fun t296 => (if (wrap64 (a0 + 1)) = 0 then (none) else (if (wrap64 ((Int.tmod (wrap64 ((wrap64 ((wrap64 (t296 - a1)) + a0)) + 1)) (wrap64 (a0 + 1))) - 1)) ≥ 0 then (if 0 ≤ (wrap64 ((Int.tmod (wrap64 ((wrap64 ((wrap64 (t296 - a1)) + a0)) + 1)) (wrap64 (a0 + 1))) - 1)) then (if (wrap64 ((Int.tmod (wrap64 ((wrap64 ((wrap64 (t296 - a1)) + a0)) + 1)) (wrap64 (a0 + 1))) - 1)) < (t293.length : Int) then (some ((t293.set ((wrap64 ((Int.tmod (wrap64 ((wrap64 ((wrap64 (t296 - a1)) + a0)) + 1)) (wrap64 (a0 + 1))) - 1)) : Int).toNat 0), true)) else (none)) else (none)) else (some (t293, true)))))) = some (r1, r2) := by rw [if_neg (show ¬ (false = true) by decide)] at H; exact H
    clear H
    have H := H1
    clear H1
    obtain ⟨y290, hy290⟩ : ∃ y_ : List Int, y_ = (([1] : List Int)) := ⟨_, rfl⟩
    replace H : ((slices_Repeat_int_int.f y290 a0).bind fun t293 => ((impl_classOf.f kj2 t293).bind fun t296 => (if (wrap64 (a0 + 1)) = 0 then (none) else (if (wrap64 ((Int.tmod (wrap64 ((wrap64 ((wrap64 (t296 - a1)) + a0)) + 1)) (wrap64 (a0 + 1))) - 1)) ≥ 0 then (if 0 ≤ (wrap64 ((Int.tmod (wrap64 ((wrap64 ((wrap64 (t296 - a1)) + a0)) + 1)) (wrap64 (a0 + 1))) - 1)) then (if (wrap64 ((Int.tmod (wrap64 ((wrap64 ((wrap64 (t296 - a1)) + a0)) + 1)) (wrap64 (a0 + 1))) - 1)) < (t293.length : Int) then (some ((t293.set ((wrap64 ((Int.tmod (wrap64 ((wrap64 ((wrap64 (t296 - a1)) + a0)) + 1)) (wrap64 (a0 + 1))) - 1)) : Int).toNat 0), true)) else (none)) else (none)) else (some (t293, true)))))) = some (r1, r2) := by first | (rw [hy290]; with_reducible exact H) | (have H2_ := (Option.bind_some _ _).symm.trans H; rw [hy290]; with_reducible exact H2_) | (have H2_ := (Option.bind_some _ _).symm.trans H; with_reducible exact H2_) | with_reducible exact H | (rw [hy290]; exact H) | exact H
    have Ny290 := Aside0.mk hy290
    clear hy290
    replace H := Option.bind_eq_some_iff.mp H
    obtain ⟨t293, A80, H⟩ := H
    replace H : ((impl_classOf.f kj2 t293).bind fun t296 => (if (wrap64 (a0 + 1)) = 0 then (none) else (if (wrap64 ((Int.tmod (wrap64 ((wrap64 ((wrap64 (t296 - a1)) + a0)) + 1)) (wrap64 (a0 + 1))) - 1)) ≥ 0 then (if 0 ≤ (wrap64 ((Int.tmod (wrap64 ((wrap64 ((wrap64 (t296 - a1)) + a0)) + 1)) (wrap64 (a0 + 1))) - 1)) then (if (wrap64 ((Int.tmod (wrap64 ((wrap64 ((wrap64 (t296 - a1)) + a0)) + 1)) (wrap64 (a0 + 1))) - 1)) < (t293.length : Int) then (some ((t293.set ((wrap64 ((Int.tmod (wrap64 ((wrap64 ((wrap64 (t296 - a1)) + a0)) + 1)) (wrap64 (a0 + 1))) - 1)) : Int).toNat 0), true)) else (none)) else (none)) else (some (t293, true))))) = some (r1, r2) := H
    have A8 := Aside0.mk A80
    clear A80
    replace H := Option.bind_eq_some_iff.mp H
    obtain ⟨t296, A90, H⟩ := H
    replace H : (if (wrap64 (a0 + 1)) = 0 then (none) else (if (wrap64 ((Int.tmod (wrap64 ((wrap64 ((wrap64 (t296 - a1)) + a0)) + 1)) (wrap64 (a0 + 1))) - 1)) ≥ 0 then (if 0 ≤ (wrap64 ((Int.tmod (wrap64 ((wrap64 ((wrap64 (t296 - a1)) + a0)) + 1)) (wrap64 (a0 + 1))) - 1)) then (if (wrap64 ((Int.tmod (wrap64 ((wrap64 ((wrap64 (t296 - a1)) + a0)) + 1)) (wrap64 (a0 + 1))) - 1)) < (t293.length : Int) then (some ((t293.set ((wrap64 ((Int.tmod (wrap64 ((wrap64 ((wrap64 (t296 - a1)) + a0)) + 1)) (wrap64 (a0 + 1))) - 1)) : Int).toNat 0), true)) else (none)) else (none)) else (some (t293, true)))) = some (r1, r2) := H
    have A9 := Aside0.mk A90
    clear A90
    by_cases c10 : (wrap64 (a0 + 1)) = 0
    ·rw [if_pos c10] at H
     exact absurd H (by simp)
    ·rw [if_neg c10] at H
     have c10b0 : ((wrap64 (a0 + 1)) == 0) = false := beq_eq_false_iff_ne.mpr c10
     have c10b1 : ((wrap64 (a0 + 1)) != 0) = true := bne_iff_ne.mpr c10
     by_cases c11 : (wrap64 ((Int.tmod (wrap64 ((wrap64 ((wrap64 (t296 - a1)) + a0)) + 1)) (wrap64 (a0 + 1))) - 1)) ≥ 0
     ·rw [if_pos c11] at H
      have c11b0 : decide (0 ≤ (wrap64 ((Int.tmod (wrap64 ((wrap64 ((wrap64 (t296 - a1)) + a0)) + 1)) (wrap64 (a0 + 1))) - 1))) = true := decide_eq_true c11
      clear c11
      obtain ⟨ji12, hji12⟩ : ∃ j_ : Int, (wrap64 ((Int.tmod (wrap64 ((wrap64 ((wrap64 (t296 - a1)) + a0)) + 1)) (wrap64 (a0 + 1))) - 1)) = j_ := ⟨_, rfl⟩
      replace H : (if 0 ≤ (ji12) then (if (ji12) < (t293.length : Int) then (some ((t293.set ((ji12) : Int).toNat 0), true)) else (none)) else (none)) = some (r1, r2) := by first | (rw [hji12] at H; exact H) | (simp only [hji12] at H ⊢; exact H)
      (try rw [hji12] at c11b0)
      (try rw [hji12] at A8)
      (try rw [hji12] at A9)
      have hji12w : (IntKind.i64.wrap ((Int.tmod (wrap64 ((wrap64 ((wrap64 (t296 - a1)) + a0)) + 1)) (wrap64 (a0 + 1))) - 1)) = ji12 := (i64_w _).trans hji12
      by_cases c13 : 0 ≤ (ji12)
      ·rw [if_pos c13] at H
       have c13b0 : decide (0 ≤ (ji12)) = true := decide_eq_true c13
       clear c13
       by_cases c14 : (ji12) < (t293.length : Int)
       ·rw [if_pos c14] at H
        have c14b0 : decide ((ji12) < (t293.length : Int)) = true := decide_eq_true c14
        clear c14
        obtain ⟨y297, hy297⟩ : ∃ y_ : List Int, y_ = (t293.set ((ji12) : Int).toNat 0) := ⟨_, rfl⟩
        replace H : (some (y297, true)) = some (r1, r2) := by first | (rw [hy297]; with_reducible exact H) | (have H2_ := (Option.bind_some _ _).symm.trans H; rw [hy297]; with_reducible exact H2_) | (have H2_ := (Option.bind_some _ _).symm.trans H; with_reducible exact H2_) | with_reducible exact H | (rw [hy297]; exact H) | exact H
        have Ny297 := Aside0.mk hy297
        clear hy297
        simp only [Option.some.injEq, Prod.mk.injEq] at H
        obtain ⟨rfl, rfl⟩ := H
        go_wp2_with (first | ((with_reducible refine gate_dst (N := 17) rfl ?_); refine Kd.R_lit (Kd.int .i64) _ 3 ?hg (N := 17) ?hd (xs := ([1] : List Int)) (inner := [.int .i64 1]) (ok := fun _ => True) (okp := fun _ => True) ?hr ?hp (fun _ hk => hk) trivial (Below.refl _ _) (Nat.le_refl _) (by simp) ?_; (case hd => rfl); (case hg => rfl); (case hr => first | (go_simp; done) | (go_simp; rfl)); (case hp => exact (Reps.one (show Kd.M (Kd.int .i64) _ _ _ 1 [.int .i64 1] from rfl) (Reps.none _ _))); intro v291 w16 ho17 hb hg_ hnew_; clear hg_ hnew_; (first | rw [← Ny290.out] at ho17 | (simp only [Int.reduceToNat] at ho17; rw [← Ny290.out] at ho17)); have n0_ := Aside0.mk (Kd.R_lower ho17 (below_size (by repeat (first | (with_reducible first | exact HB.out | apply below_alloc | apply pw_below_drewN | apply below_drew1) | exact HB.out)))); have n1_ := Aside0.mk (below_step (by repeat (first | (with_reducible first | exact HB.out | apply below_alloc | apply pw_below_drewN | apply below_drew1) | exact HB.out)) hb); clear HB; have HO292 := n0_; have HB := n1_; clear n0_ n1_; clear hb ho17; obtain ⟨Ao18, co18, eo18⟩ := Kd.R_slice HO292.out; subst eo18) | ((with_reducible refine gate_callee (f := 73) rfl ?_); refine goesL_ (some 19) rfl rfl Try.func73 (by kernel_rfl) rfl #[.slice Ao18 y290.length co18, .int .i64 a0] rfl (by (try simp only [List.map_toArray, List.map_cons, List.map_nil]); first | done | rfl | (simp only [List.length_drop, List.length_take]; rfl)) ?_; (with_reducible refine (slices_Repeat_int_int.calls _ _ y290 a0 t293 _ ?side1 ?side2 A8.out).mono ?_); (case side1 => repeat (first | exact (Kd.R_reads' HO292.out).2.2 | (with_reducible refine Kd.C_alloc ?_ _) | (with_reducible refine Kd.C_drewN ?_ _) | (with_reducible refine Kd.C_drew ?_))); (case side2 => exact (Kd.R_reads' HO292.out).2.1); rintro e w19 ⟨v294, rfl, ho0, hb⟩; refine ⟨_, rfl, ?_⟩; have n0_ := Aside0.mk (Kd.R_elder' (by (with_reducible repeat (first | apply Kd.R_alloc | apply Kd.R_drewN | apply Kd.R_drew)); exact HO292.out) (Kd.R_base ho0) hb); have n1_ := Aside0.mk (Kd.R_lower (Kd.R_new' ho0 (Kd.R_lt (by (with_reducible repeat (first | apply Kd.R_alloc | apply Kd.R_drewN | apply Kd.R_drew)); exact HO292.out))) (below_size (by repeat (first | (with_reducible first | exact HB.out | apply below_alloc | apply pw_below_drewN | apply below_drew1) | exact HB.out)))); have n2_ := Aside0.mk (below_step (by repeat (first | (with_reducible first | exact HB.out | apply below_alloc | apply pw_below_drewN | apply below_drew1) | exact HB.out)) hb); clear HO292; clear HB; have HO292 := n0_; have HO295 := n1_; have HB := n2_; clear n0_ n1_ n2_; (try clear hb); (try clear hb2); (try clear hk); (try clear hi); (try clear ho0); obtain ⟨Ao20, co20, eo20⟩ := Kd.R_slice HO295.out; subst eo20) | ((with_reducible refine gate_callee (f := 65) rfl ?_); refine goesL_ (some 21) rfl rfl Try.func65 (by kernel_rfl) rfl #[.slice Ao20 t293.length co20] rfl (by (try simp only [List.map_toArray, List.map_cons, List.map_nil]); first | done | rfl | (simp only [List.length_drop, List.length_take]; rfl)) ?_; (with_reducible refine (impl_classOf.calls kj2 _ _ t293 t296 _ ?side1 ?side2 A9.out).mono ?_); (case side1 => repeat (first | exact (Kd.R_reads' HO295.out).2.2 | (with_reducible refine Kd.C_alloc ?_ _) | (with_reducible refine Kd.C_drewN ?_ _) | (with_reducible refine Kd.C_drew ?_))); (case side2 => exact (Kd.R_reads' HO295.out).2.1); rintro e w' ⟨rfl, ⟨nd, rfl⟩⟩; refine ⟨_, rfl, ?_⟩; (try (rw [drewN_self w19]; generalize hq_ : World.drewN w19 _ = w19; have n0_ : Aside0 (Kd.R (Kd.int .i64) 3 w19 w.heap.size (fun k_ => True ∧ some k_ ≠ (.slice Ao20 t293.length co20 : Value).ownBlock) (.slice Ao18 y290.length co18) y290) := ⟨by rw [← hq_]; exact (by (with_reducible repeat (first | apply Kd.R_alloc | apply Kd.R_drewN | apply Kd.R_drew)); exact Kd.R_mono HO292.out (fun _ hk => hk))⟩; have n1_ : Aside0 (Kd.R (Kd.int .i64) 3 w19 w.heap.size (fun k_ => True ∧ some k_ ≠ (.slice Ao18 y290.length co18 : Value).ownBlock) (.slice Ao20 t293.length co20) t293) := ⟨by rw [← hq_]; exact (by (with_reducible repeat (first | apply Kd.R_alloc | apply Kd.R_drewN | apply Kd.R_drew)); exact Kd.R_mono HO295.out (fun _ hk => hk))⟩; have n2_ : Aside0 (Below w.heap.size w w19) := ⟨by rw [← hq_]; exact (by repeat (first | (with_reducible first | exact HB.out | apply below_alloc | apply pw_below_drewN | apply below_drew1) | exact HB.out))⟩; clear HO292 HO295 HB hq_; have HO292 := n0_; have HO295 := n1_; have HB := n2_; clear n0_ n1_ n2_)); have p15 : 0 ≤ ((ji12) : Int) := of_decide_eq_true (by first | (with_reducible assumption) | assumption); have q15 : ((ji12) : Int) < ((t293.length : Int) : Int) := of_decide_eq_true (by first | (with_reducible assumption) | assumption); obtain ⟨go15, co15, eo15, gb15, gl15, cl15, HG15⟩ := Kd.R_form HO295.out (by omega); (first | cases eo15 | (injection eo15 with ea_ en_ ec_; (first | subst ea_ | (injection ea_ with ea_; subst ea_)); subst ec_; clear en_)); have GB15 := Aside0.mk gb15; have GG15 := Aside0.mk HG15; clear gb15 gl15 HG15; obtain ⟨hx15_0, hf15_0⟩ := Kd.R_celln 0 HO295.out ((ji12) : Int) p15 q15; replace p15 := eq_true p15; replace q15 := eq_true q15; have n_ := Aside0.mk (Kd.R_mono (ok' := (fun k_ => some k_ ≠ (.slice Ao18 y290.length co18 : Value).ownBlock)) HO295.out (fun k_ hk => hk.2)); clear HO295; have HO295 := n_; clear n_; obtain ⟨hy21_, hz21_⟩ := Kd.R_celln 0 HO295.out ((ji12) : Int) (of_decide_eq_true (by first | (with_reducible assumption) | assumption)) (of_decide_eq_true (by first | (with_reducible assumption) | assumption)); have HP21 := Kd.R_putg HO295.out ((ji12) : Int) 0) | ((with_reducible refine gate_store (t := 3) (p := 35) rfl ?_); refine store_event (t := 3) (p := 35) (v := ?vo_w22) (w1 := (w19.setCell ⟨go15, ((ji12) : Int).toNat, none⟩ (.int .i64 0))) ?hg ?ho ?hn ?hr ?_; (case ho => rfl); (case hg => rfl); (case hn => rfl); (case hr => first | (go_simp; done) | (go_simp; rfl)); intro w22 hw; have hg : w19.grownBy w22 (some go15) := (by rw [hw]; exact HP21.2); have hp_ : Kd.R (Kd.int .i64) 3 w22 w.heap.size (fun k_ => some k_ ≠ (.slice Ao18 y290.length co18 : Value).ownBlock) (.slice (some ⟨go15, 0, none⟩) t293.length co20) y297 := (by rw [hw, Ny297.out]; exact HP21.1); clear HP21; have n0_ := Aside0.mk (Kd.R_after (v := (.slice (some ⟨go15, 0, none⟩) t293.length co20)) (v1 := (.slice (some ⟨go15, 0, none⟩) t293.length co20)) (ok := (fun _ => True)) (by (with_reducible repeat (first | apply Kd.R_alloc | apply Kd.R_drewN | apply Kd.R_drew)); exact HO292.out) hg (.inl rfl)); have n1_ := Aside0.mk (hp_); have n2_ := Aside0.mk ((by rw [hw]; exact below_set (HB.out) GB15.out : Below w.heap.size w w22)); clear HO292; clear HO295; clear HB; have HO292 := n0_; have HO295 := n1_; have HB := n2_; clear n0_ n1_ n2_; clear hg hw hp_))
        go_ret2
        exact ⟨_, by first | rfl | (simp [errW_none, errW_some] <;> rfl) | (simp only [← hji12]; first | rfl | (simp [errW_none, errW_some] <;> rfl)) | (simp [*, errW_none, errW_some] <;> rfl), by (with_reducible repeat (first | apply Kd.R_alloc | apply Kd.R_drewN | apply Kd.R_drew)); exact Kd.R_mono HO295.out (fun _ hk => trivial), by repeat (first | (with_reducible first | exact HB.out | apply below_alloc | apply pw_below_drewN | apply below_drew1) | exact HB.out)⟩
       ·rw [if_neg c14] at H
        exact absurd H (by simp)
      ·rw [if_neg c13] at H
       exact absurd H (by simp)
     ·rw [if_neg c11] at H
      have c11b0 : decide (0 ≤ (wrap64 ((Int.tmod (wrap64 ((wrap64 ((wrap64 (t296 - a1)) + a0)) + 1)) (wrap64 (a0 + 1))) - 1))) = false := decide_eq_false c11
      clear c11
      simp only [Option.some.injEq, Prod.mk.injEq] at H
      obtain ⟨rfl, rfl⟩ := H
      go_wp2_with (first | ((with_reducible refine gate_dst (N := 17) rfl ?_); refine Kd.R_lit (Kd.int .i64) _ 3 ?hg (N := 17) ?hd (xs := ([1] : List Int)) (inner := [.int .i64 1]) (ok := fun _ => True) (okp := fun _ => True) ?hr ?hp (fun _ hk => hk) trivial (Below.refl _ _) (Nat.le_refl _) (by simp) ?_; (case hd => rfl); (case hg => rfl); (case hr => first | (go_simp; done) | (go_simp; rfl)); (case hp => exact (Reps.one (show Kd.M (Kd.int .i64) _ _ _ 1 [.int .i64 1] from rfl) (Reps.none _ _))); intro v291 w23 ho24 hb hg_ hnew_; clear hg_ hnew_; (first | rw [← Ny290.out] at ho24 | (simp only [Int.reduceToNat] at ho24; rw [← Ny290.out] at ho24)); have n0_ := Aside0.mk (Kd.R_lower ho24 (below_size (by repeat (first | (with_reducible first | exact HB.out | apply below_alloc | apply pw_below_drewN | apply below_drew1) | exact HB.out)))); have n1_ := Aside0.mk (below_step (by repeat (first | (with_reducible first | exact HB.out | apply below_alloc | apply pw_below_drewN | apply below_drew1) | exact HB.out)) hb); clear HB; have HO292 := n0_; have HB := n1_; clear n0_ n1_; clear hb ho24; obtain ⟨Ao25, co25, eo25⟩ := Kd.R_slice HO292.out; subst eo25) | ((with_reducible refine gate_callee (f := 73) rfl ?_); refine goesL_ (some 19) rfl rfl Try.func73 (by kernel_rfl) rfl #[.slice Ao25 y290.length co25, .int .i64 a0] rfl (by (try simp only [List.map_toArray, List.map_cons, List.map_nil]); first | done | rfl | (simp only [List.length_drop, List.length_take]; rfl)) ?_; (with_reducible refine (slices_Repeat_int_int.calls _ _ y290 a0 t293 _ ?side1 ?side2 A8.out).mono ?_); (case side1 => repeat (first | exact (Kd.R_reads' HO292.out).2.2 | (with_reducible refine Kd.C_alloc ?_ _) | (with_reducible refine Kd.C_drewN ?_ _) | (with_reducible refine Kd.C_drew ?_))); (case side2 => exact (Kd.R_reads' HO292.out).2.1); rintro e w26 ⟨v294, rfl, ho0, hb⟩; refine ⟨_, rfl, ?_⟩; have n0_ := Aside0.mk (Kd.R_elder' (by (with_reducible repeat (first | apply Kd.R_alloc | apply Kd.R_drewN | apply Kd.R_drew)); exact HO292.out) (Kd.R_base ho0) hb); have n1_ := Aside0.mk (Kd.R_lower (Kd.R_new' ho0 (Kd.R_lt (by (with_reducible repeat (first | apply Kd.R_alloc | apply Kd.R_drewN | apply Kd.R_drew)); exact HO292.out))) (below_size (by repeat (first | (with_reducible first | exact HB.out | apply below_alloc | apply pw_below_drewN | apply below_drew1) | exact HB.out)))); have n2_ := Aside0.mk (below_step (by repeat (first | (with_reducible first | exact HB.out | apply below_alloc | apply pw_below_drewN | apply below_drew1) | exact HB.out)) hb); clear HO292; clear HB; have HO292 := n0_; have HO295 := n1_; have HB := n2_; clear n0_ n1_ n2_; (try clear hb); (try clear hb2); (try clear hk); (try clear hi); (try clear ho0); obtain ⟨Ao27, co27, eo27⟩ := Kd.R_slice HO295.out; subst eo27) | ((with_reducible refine gate_callee (f := 65) rfl ?_); refine goesL_ (some 21) rfl rfl Try.func65 (by kernel_rfl) rfl #[.slice Ao27 t293.length co27] rfl (by (try simp only [List.map_toArray, List.map_cons, List.map_nil]); first | done | rfl | (simp only [List.length_drop, List.length_take]; rfl)) ?_; (with_reducible refine (impl_classOf.calls kj2 _ _ t293 t296 _ ?side1 ?side2 A9.out).mono ?_); (case side1 => repeat (first | exact (Kd.R_reads' HO295.out).2.2 | (with_reducible refine Kd.C_alloc ?_ _) | (with_reducible refine Kd.C_drewN ?_ _) | (with_reducible refine Kd.C_drew ?_))); (case side2 => exact (Kd.R_reads' HO295.out).2.1); rintro e w' ⟨rfl, ⟨nd, rfl⟩⟩; refine ⟨_, rfl, ?_⟩))
      go_ret2
      exact ⟨_, by first | rfl | (simp [errW_none, errW_some] <;> rfl) | (simp [*, errW_none, errW_some] <;> rfl), by (with_reducible repeat (first | apply Kd.R_alloc | apply Kd.R_drewN | apply Kd.R_drew)); exact Kd.R_mono HO295.out (fun _ hk => trivial), by repeat (first | (with_reducible first | exact HB.out | apply below_alloc | apply pw_below_drewN | apply below_drew1) | exact HB.out)⟩

end Go.Proofs.Ytffliklmahedoaa.P
