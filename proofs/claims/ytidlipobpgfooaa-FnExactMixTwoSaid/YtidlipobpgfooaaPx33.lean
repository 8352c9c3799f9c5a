/- Written by a program of this workplace (own_print.py, over the kit's print) for the functions that the statements reach, with contracts of its own. Lean checks it. -/
import Derived.Test.YtidlipobpgfooaaPx0
import Derived.Test.YtidlipobpgfooaaPx2
import Derived.Test.YtidlipobpgfooaaPx3
import Derived.Test.YtidlipobpgfooaaPx9
import Derived.Test.YtidlipobpgfooaaPx12
import Derived.Test.YtidlipobpgfooaaPx32
namespace Go.Proofs.Ytidlipobpgfooaa.P
open Go.RowKit Go.Proofs.YtidlipobpgfooaaW.PrintWords Go.Proofs.YtidlipobpgfooaaW.PrintLast Go.Proofs.YtidlipobpgfooaaW.PrintMore
attribute [local go_sem] max2_int min2_int max_two min_two max_three min_three max_four min_four   -- for this text's walks alone
set_option linter.unusedVariables false
set_option linter.unusedSimpArgs false

/-! ### laws_FnExactMixTwo: function 11 -/
mutual
def laws_FnExactMixTwo.j0 : Nat → Int → Int → Bool → Bool → Bool → List Int → Int → List Int → Int → List Int → Int → List Int → Int → Option (Bool)
 | 0, _, _, _, _, _, _, _, _, _, _, _, _, _ => none
 | k + 1, x1, x2, x9, x12, x48, x561000, x561001, x572000, x572001, x577000, x577001, x583000, x583001 => if x48 = true then (some false) else ((laws_toCups.f k x561000 x561001).bind fun bt584 => ((laws_eqCups.f k x577000 x577001 bt584.1 bt584.2).bind fun t588 => (if t588 = true then ((laws_markCups.f k x577000 x577001 1).bind fun bt589 => (if bt589.1 < 0 then (laws_FnExactMixTwo.j1 k x1 x2 x9 true x561000 x561001 x572000 x572001 x583000 x583001) else ((laws_eqCups.f k x583000 x583001 x572000 x572001).bind fun t591 => (if t591 = true then (laws_FnExactMixTwo.j1 k x1 x2 x9 (x12 != x9) x561000 x561001 x572000 x572001 x583000 x583001) else (laws_FnExactMixTwo.j1 k x1 x2 x9 true x561000 x561001 x572000 x572001 x583000 x583001))))) else (some false))))
def laws_FnExactMixTwo.j1 : Nat → Int → Int → Bool → Bool → List Int → Int → List Int → Int → List Int → Int → Option (Bool)
 | 0, _, _, _, _, _, _, _, _, _, _ => none
 | k + 1, x1, x2, x9, x69, x561000, x561001, x572000, x572001, x583000, x583001 => if x69 = true then (some false) else ((laws_markCups.f k x583000 x583001 1).bind fun bt592 => ((laws_heldCups.f k bt592.2 x583001 1).bind fun t594 => (if t594 < 0 then (some false) else (if t594 = bt592.1 then ((laws_toCups.f k x561000 x561001).bind fun bt595 => ((impl_MixTwo.f k bt595.1 bt595.2 x1 x2).bind fun bt599 => ((laws_eqCups.f k bt599.1 bt599.2.1 x572000 x572001).bind fun t605 => (if t605 = true then (laws_FnExactMixTwo.j2 k bt592.1 (bt599.2.2 != x9) bt592.2 x583001) else (laws_FnExactMixTwo.j2 k bt592.1 true bt592.2 x583001))))) else (some false)))))
def laws_FnExactMixTwo.j2 : Nat → Int → Bool → List Int → Int → Option (Bool)
 | 0, _, _, _, _ => none
 | k + 1, x14, x97, x583000, x583001 => if x97 = true then (some false) else ((laws_heldCups.f k x583000 x583001 1).bind fun t606 => (if t606 < 0 then (some false) else (if t606 = x14 then (some true) else (some false))))
end
def laws_FnExactMixTwo.f (k : Nat) (l0_0 : List Int) (a0_1 : Int) (a1 : Int) (a2 : Int) : Option (Bool) := (laws_szCups.f l0_0 a0_1 1048576).bind fun t561 => (if t561 < 0 then (some true) else ((laws_toCups.f k l0_0 a0_1).bind fun bt562 => ((spec_MixTwo.f k bt562.1 bt562.2 a1 a2).bind fun bt566 => ((laws_toCups.f k l0_0 a0_1).bind fun bt572 => ((impl_MixTwo.f k bt572.1 bt572.2 a1 a2).bind fun bt577 => ((laws_eqCups.f k bt577.1 bt577.2.1 bt566.1 bt566.2.1).bind fun t583 => (if t583 = true then (laws_FnExactMixTwo.j0 k a1 a2 bt566.2.2 bt577.2.2 (bt577.2.2 != bt566.2.2) l0_0 a0_1 bt566.1 bt566.2.1 bt572.1 bt572.2 bt577.1 bt577.2.1) else (laws_FnExactMixTwo.j0 k a1 a2 bt566.2.2 bt577.2.2 true l0_0 a0_1 bt566.1 bt566.2.1 bt572.1 bt572.2 bt577.1 bt577.2.1))))))))
theorem laws_FnExactMixTwo.mono_l : ∀ k, (∀ y0 y1 y2 y3 y4 y5 y6 y7 y8 y9 y10 y11 y12, LeO (laws_FnExactMixTwo.j0 k y0 y1 y2 y3 y4 y5 y6 y7 y8 y9 y10 y11 y12) (laws_FnExactMixTwo.j0 (k + 1) y0 y1 y2 y3 y4 y5 y6 y7 y8 y9 y10 y11 y12)) ∧ (∀ y0 y1 y2 y3 y4 y5 y6 y7 y8 y9, LeO (laws_FnExactMixTwo.j1 k y0 y1 y2 y3 y4 y5 y6 y7 y8 y9) (laws_FnExactMixTwo.j1 (k + 1) y0 y1 y2 y3 y4 y5 y6 y7 y8 y9)) ∧ (∀ y0 y1 y2 y3, LeO (laws_FnExactMixTwo.j2 k y0 y1 y2 y3) (laws_FnExactMixTwo.j2 (k + 1) y0 y1 y2 y3))
 | 0 => ⟨fun _ _ _ _ _ _ _ _ _ _ _ _ _ r h => by simp [laws_FnExactMixTwo.j0] at h, fun _ _ _ _ _ _ _ _ _ _ r h => by simp [laws_FnExactMixTwo.j1] at h, fun _ _ _ _ r h => by simp [laws_FnExactMixTwo.j2] at h⟩
 | k + 1 => by
  obtain ⟨ih0, ih1, ih2⟩ := laws_FnExactMixTwo.mono_l k
  refine ⟨?_, ?_, ?_⟩
  ·intro y0 y1 y2 y3 y4 y5 y6 y7 y8 y9 y10 y11 y12
   unfold laws_FnExactMixTwo.j0
   repeat' first
   | (with_reducible exact ih0 _ _ _ _ _ _ _ _ _ _ _ _ _)
   | (with_reducible exact ih1 _ _ _ _ _ _ _ _ _ _)
   | (with_reducible exact ih2 _ _ _ _)
   | (with_reducible exact impl_MixTwo.mono _ _ _ _ _)
   | (with_reducible exact laws_eqCups.mono _ _ _ _ _)
   | (with_reducible exact laws_heldCups.mono _ _ _ _)
   | (with_reducible exact laws_markCups.mono _ _ _ _)
   | (with_reducible exact laws_toCups.mono _ _ _)
   | (with_reducible exact spec_MixTwo.mono _ _ _ _ _)
   | (with_reducible exact LeO.refl _)
   | (with_reducible exact LeO.none _)
   | (with_reducible refine LeO.ite ?_ ?_)
   | (with_reducible refine LeO.bind ?_ (fun _ => ?_))
   | exact ih0 _ _ _ _ _ _ _ _ _ _ _ _ _
   | exact ih1 _ _ _ _ _ _ _ _ _ _
   | exact ih2 _ _ _ _
   | exact impl_MixTwo.mono _ _ _ _ _
   | exact laws_eqCups.mono _ _ _ _ _
   | exact laws_heldCups.mono _ _ _ _
   | exact laws_markCups.mono _ _ _ _
   | exact laws_toCups.mono _ _ _
   | exact spec_MixTwo.mono _ _ _ _ _
   | exact LeO.none _
   | refine LeO.ite ?_ ?_
   | refine LeO.bind ?_ (fun _ => ?_)
  ·intro y0 y1 y2 y3 y4 y5 y6 y7 y8 y9
   unfold laws_FnExactMixTwo.j1
   repeat' first
   | (with_reducible exact ih0 _ _ _ _ _ _ _ _ _ _ _ _ _)
   | (with_reducible exact ih1 _ _ _ _ _ _ _ _ _ _)
   | (with_reducible exact ih2 _ _ _ _)
   | (with_reducible exact impl_MixTwo.mono _ _ _ _ _)
   | (with_reducible exact laws_eqCups.mono _ _ _ _ _)
   | (with_reducible exact laws_heldCups.mono _ _ _ _)
   | (with_reducible exact laws_markCups.mono _ _ _ _)
   | (with_reducible exact laws_toCups.mono _ _ _)
   | (with_reducible exact spec_MixTwo.mono _ _ _ _ _)
   | (with_reducible exact LeO.refl _)
   | (with_reducible exact LeO.none _)
   | (with_reducible refine LeO.ite ?_ ?_)
   | (with_reducible refine LeO.bind ?_ (fun _ => ?_))
   | exact ih0 _ _ _ _ _ _ _ _ _ _ _ _ _
   | exact ih1 _ _ _ _ _ _ _ _ _ _
   | exact ih2 _ _ _ _
   | exact impl_MixTwo.mono _ _ _ _ _
   | exact laws_eqCups.mono _ _ _ _ _
   | exact laws_heldCups.mono _ _ _ _
   | exact laws_markCups.mono _ _ _ _
   | exact laws_toCups.mono _ _ _
   | exact spec_MixTwo.mono _ _ _ _ _
   | exact LeO.none _
   | refine LeO.ite ?_ ?_
   | refine LeO.bind ?_ (fun _ => ?_)
  ·intro y0 y1 y2 y3
   unfold laws_FnExactMixTwo.j2
   repeat' first
   | (with_reducible exact ih0 _ _ _ _ _ _ _ _ _ _ _ _ _)
   | (with_reducible exact ih1 _ _ _ _ _ _ _ _ _ _)
   | (with_reducible exact ih2 _ _ _ _)
   | (with_reducible exact impl_MixTwo.mono _ _ _ _ _)
   | (with_reducible exact laws_eqCups.mono _ _ _ _ _)
   | (with_reducible exact laws_heldCups.mono _ _ _ _)
   | (with_reducible exact laws_markCups.mono _ _ _ _)
   | (with_reducible exact laws_toCups.mono _ _ _)
   | (with_reducible exact spec_MixTwo.mono _ _ _ _ _)
   | (with_reducible exact LeO.refl _)
   | (with_reducible exact LeO.none _)
   | (with_reducible refine LeO.ite ?_ ?_)
   | (with_reducible refine LeO.bind ?_ (fun _ => ?_))
   | exact ih0 _ _ _ _ _ _ _ _ _ _ _ _ _
   | exact ih1 _ _ _ _ _ _ _ _ _ _
   | exact ih2 _ _ _ _
   | exact impl_MixTwo.mono _ _ _ _ _
   | exact laws_eqCups.mono _ _ _ _ _
   | exact laws_heldCups.mono _ _ _ _
   | exact laws_markCups.mono _ _ _ _
   | exact laws_toCups.mono _ _ _
   | exact spec_MixTwo.mono _ _ _ _ _
   | exact LeO.none _
   | refine LeO.ite ?_ ?_
   | refine LeO.bind ?_ (fun _ => ?_)
theorem laws_FnExactMixTwo.mono : ∀ a0 a1 a2 a3 k, LeO (laws_FnExactMixTwo.f k a0 a1 a2 a3) (laws_FnExactMixTwo.f (k + 1) a0 a1 a2 a3) := by
 intro a0 a1 a2 a3 k
 obtain ⟨ih0, ih1, ih2⟩ := laws_FnExactMixTwo.mono_l k
 unfold laws_FnExactMixTwo.f
 repeat' first
   | (with_reducible exact ih0 _ _ _ _ _ _ _ _ _ _ _ _ _)
   | (with_reducible exact ih1 _ _ _ _ _ _ _ _ _ _)
   | (with_reducible exact ih2 _ _ _ _)
   | (with_reducible exact impl_MixTwo.mono _ _ _ _ _)
   | (with_reducible exact laws_eqCups.mono _ _ _ _ _)
   | (with_reducible exact laws_heldCups.mono _ _ _ _)
   | (with_reducible exact laws_markCups.mono _ _ _ _)
   | (with_reducible exact laws_toCups.mono _ _ _)
   | (with_reducible exact spec_MixTwo.mono _ _ _ _ _)
   | (with_reducible exact LeO.refl _)
   | (with_reducible exact LeO.none _)
   | (with_reducible refine LeO.ite ?_ ?_)
   | (with_reducible refine LeO.bind ?_ (fun _ => ?_))
   | exact ih0 _ _ _ _ _ _ _ _ _ _ _ _ _
   | exact ih1 _ _ _ _ _ _ _ _ _ _
   | exact ih2 _ _ _ _
   | exact impl_MixTwo.mono _ _ _ _ _
   | exact laws_eqCups.mono _ _ _ _ _
   | exact laws_heldCups.mono _ _ _ _
   | exact laws_markCups.mono _ _ _ _
   | exact laws_toCups.mono _ _ _
   | exact spec_MixTwo.mono _ _ _ _ _
   | exact LeO.none _
   | refine LeO.ite ?_ ?_
   | refine LeO.bind ?_ (fun _ => ?_)
set_option maxHeartbeats 8000000 in
set_option maxRecDepth 100000 in
theorem laws_FnExactMixTwo.calls (k : Nat) (A0_0 : Option Addr) (c0_0 : Nat) (l0_0 : List Int) (a0_1 : Int) (a1 : Int) (a2 : Int) (r : Bool) (w : World) (hr0_0 : Kd.C (Kd.int .i64) w A0_0 l0_0.length l0_0) (hc0_0 : l0_0.length ≤ c0_0) (h : laws_FnExactMixTwo.f k l0_0 a0_1 a1 a2 = some r) :
  Calls Try.prog 11 #[.agg #[.slice A0_0 l0_0.length c0_0, .int .i64 a0_1], .int .i64 a1, .int .i64 a2] w fun e w' => e = .returned (.bool r) ∧ Below w.heap.size w w' := by
 have hu24 := Try.underlying24
 have hu27 := Try.underlying27
 have HR0_0 := Aside0.mk hr0_0
 have HC0_0 := Aside0.mk hc0_0
 clear hr0_0 hc0_0
 have HB := Aside0.mk (Below.refl w.heap.size w)
 have H : ((laws_szCups.f l0_0 a0_1 1048576).bind fun t561 => (if t561 < 0 then (some true) else ((laws_toCups.f k l0_0 a0_1).bind fun bt562 => ((spec_MixTwo.f k bt562.1 bt562.2 a1 a2).bind fun bt566 => ((laws_toCups.f k l0_0 a0_1).bind fun bt572 => ((impl_MixTwo.f k bt572.1 bt572.2 a1 a2).bind fun bt577 => ((laws_eqCups.f k bt577.1 bt577.2.1 bt566.1 bt566.2.1).bind fun t583 => (if t583 = true then (laws_FnExactMixTwo.j0 k a1 a2 bt566.2.2 bt577.2.2 (bt577.2.2 != bt566.2.2) l0_0 a0_1 bt566.1 bt566.2.1 bt572.1 bt572.2 bt577.1 bt577.2.1) else (laws_FnExactMixTwo.j0 k a1 a2 bt566.2.2 bt577.2.2 true l0_0 a0_1 bt566.1 bt566.2.1 bt572.1 bt572.2 bt577.1 bt577.2.1))))))))) = some r := h
 clear h
 replace H := Option.bind_eq_some_iff.mp H
 obtain ⟨t561, A40, H⟩ := H
 replace H : (if t561 < 0 then (some true) else ((laws_toCups.f k l0_0 a0_1).bind fun bt562 => ((spec_MixTwo.f k bt562.1 bt562.2 a1 a2).bind fun bt566 => ((laws_toCups.f k l0_0 a0_1).bind fun bt572 => ((impl_MixTwo.f k bt572.1 bt572.2 a1 a2).bind fun bt577 => ((laws_eqCups.f k bt577.1 bt577.2.1 bt566.1 bt566.2.1).bind fun t583 => (if t583 = true then (laws_FnExactMixTwo.j0 k a1 a2 bt566.2.2 bt577.2.2 (bt577.2.2 != bt566.2.2) l0_0 a0_1 bt566.1 bt566.2.1 bt572.1 bt572.2 bt577.1 bt577.2.1) else (laws_FnExactMixTwo.j0 k a1 a2 bt566.2.2 bt577.2.2 true l0_0 a0_1 bt566.1 bt566.2.1 bt572.1 bt572.2 bt577.1 bt577.2.1)))))))) = some r := H
 have A4 := Aside0.mk A40
 clear A40
 by_cases c5 : t561 < 0
 ·rw [if_pos c5] at H
  have c5b0 : decide (t561 < 0) = true := decide_eq_true c5
  clear c5
  obtain rfl := Option.some.inj H
  go_enter Try.func11, Try.ntmps11
  go_wp2_with (first | ((with_reducible refine gate_dst (N := 3) rfl ?_); refine box_event ?hg (N := 3) ?hd (cs := #[.slice A0_0 l0_0.length c0_0, .int .i64 a0_1]) (t := 24) ?hr ?_; (case hd => rfl); (case hg => rfl); (case hr => first | (go_simp; done) | (go_simp; rfl)); intro gb560 hg w6 hbox hb; have n0_ := Aside0.mk (below_step (by repeat (first | (with_reducible first | exact HB.out | apply below_alloc | apply pw_below_drewN | apply below_drew1) | exact HB.out)) hb); have n1_ := Aside0.mk (hbox); have n2_ := Aside0.mk ((by rw [hg]; exact (below_size (by repeat (first | (with_reducible first | exact HB.out | apply below_alloc | apply pw_below_drewN | apply below_drew1) | exact HB.out))) : w.heap.size ≤ gb560)); have n3_ := Aside0.mk ((by rw [hg]; exact (below_size (by repeat (first | (with_reducible first | exact HB.out | apply below_alloc | apply pw_below_drewN | apply below_drew1) | exact HB.out))) : w.heap.size ≤ gb560)); clear HB; have HB := n0_; have BK560 := n1_; have GW560 := n2_; have GE560 := n3_; clear n0_ n1_ n2_ n3_; clear hb hbox hg; have hcz7_0 : w6.cell? ⟨gb560, 0, none⟩ = some (.slice A0_0 l0_0.length c0_0) := (blk_cell BK560.out 0).trans rfl; have hcz7_1 : w6.cell? ⟨gb560, 1, none⟩ = some (.int .i64 a0_1) := (blk_cell BK560.out 1).trans rfl; have hfz7_0 := blk_frozen BK560.out 0; have hfz7_1 := blk_frozen BK560.out 1) | ((with_reducible refine gate_callee (f := 16) rfl ?_); refine goesL_ (some 20) rfl rfl Try.func16 (by kernel_rfl) rfl #[.agg #[.slice A0_0 l0_0.length c0_0, .int .i64 a0_1], .int .i64 1048576] rfl (by (try simp only [List.map_toArray, List.map_cons, List.map_nil]); first | done | rfl | (simp only [List.length_drop, List.length_take]; rfl)) ?_; (with_reducible refine (laws_szCups.calls _ _ l0_0 a0_1 1048576 t561 _ ?side1 ?side2 A4.out).mono ?_); (case side1 => repeat (first | exact (Kd.C_below HR0_0.out HB.out) | (with_reducible refine Kd.C_alloc ?_ _) | (with_reducible refine Kd.C_drewN ?_ _) | (with_reducible refine Kd.C_drew ?_))); (case side2 => exact HC0_0.out); rintro e w8 ⟨rfl, hb⟩; refine ⟨_, rfl, ?_⟩; have n0_ := Aside0.mk (blk_below (g := gb560) (o := .cells #[.slice A0_0 l0_0.length c0_0, .int .i64 a0_1] 24 (0, 0)) (by (with_reducible repeat (first | refine blk_drewN ?_ _ | refine blk_drew ?_ | refine blk_alloc ?_ _)); exact BK560.out) hb); have n1_ := Aside0.mk (below_step (by repeat (first | (with_reducible first | exact HB.out | apply below_alloc | apply pw_below_drewN | apply below_drew1 | refine below_set ?_ GE560.out) | exact HB.out)) hb); clear BK560; clear HB; have BK560 := n0_; have HB := n1_; clear n0_ n1_; (try clear hb); (try clear hb2); (try clear hk); (try clear hi)))
  go_ret
  exact ⟨by first | rfl | (simp [errW_none, errW_some] <;> rfl) | (simp [*, errW_none, errW_some] <;> rfl), by repeat (first | (with_reducible first | exact HB.out | apply below_alloc | apply pw_below_drewN | apply below_drew1 | refine below_set ?_ GE560.out) | exact HB.out)⟩
 ·rw [if_neg c5] at H
  have c5b0 : decide (t561 < 0) = false := decide_eq_false c5
  clear c5
  replace H := Option.bind_eq_some_iff.mp H
  obtain ⟨⟨t562, t565⟩, A90, H⟩ := H
  replace H : ((spec_MixTwo.f k t562 t565 a1 a2).bind fun bt566 => ((laws_toCups.f k l0_0 a0_1).bind fun bt572 => ((impl_MixTwo.f k bt572.1 bt572.2 a1 a2).bind fun bt577 => ((laws_eqCups.f k bt577.1 bt577.2.1 bt566.1 bt566.2.1).bind fun t583 => (if t583 = true then (laws_FnExactMixTwo.j0 k a1 a2 bt566.2.2 bt577.2.2 (bt577.2.2 != bt566.2.2) l0_0 a0_1 bt566.1 bt566.2.1 bt572.1 bt572.2 bt577.1 bt577.2.1) else (laws_FnExactMixTwo.j0 k a1 a2 bt566.2.2 bt577.2.2 true l0_0 a0_1 bt566.1 bt566.2.1 bt572.1 bt572.2 bt577.1 bt577.2.1)))))) = some r := H
  have A9 := Aside0.mk A90
  clear A90
  replace H := Option.bind_eq_some_iff.mp H
  obtain ⟨⟨t566, t569, t570⟩, A100, H⟩ := H
  replace H : ((laws_toCups.f k l0_0 a0_1).bind fun bt572 => ((impl_MixTwo.f k bt572.1 bt572.2 a1 a2).bind fun bt577 => ((laws_eqCups.f k bt577.1 bt577.2.1 t566 t569).bind fun t583 => (if t583 = true then (laws_FnExactMixTwo.j0 k a1 a2 t570 bt577.2.2 (bt577.2.2 != t570) l0_0 a0_1 t566 t569 bt572.1 bt572.2 bt577.1 bt577.2.1) else (laws_FnExactMixTwo.j0 k a1 a2 t570 bt577.2.2 true l0_0 a0_1 t566 t569 bt572.1 bt572.2 bt577.1 bt577.2.1))))) = some r := H
  have A10 := Aside0.mk A100
  clear A100
  replace H := Option.bind_eq_some_iff.mp H
  obtain ⟨⟨t572, t575⟩, A110, H⟩ := H
  replace H : ((impl_MixTwo.f k t572 t575 a1 a2).bind fun bt577 => ((laws_eqCups.f k bt577.1 bt577.2.1 t566 t569).bind fun t583 => (if t583 = true then (laws_FnExactMixTwo.j0 k a1 a2 t570 bt577.2.2 (bt577.2.2 != t570) l0_0 a0_1 t566 t569 t572 t575 bt577.1 bt577.2.1) else (laws_FnExactMixTwo.j0 k a1 a2 t570 bt577.2.2 true l0_0 a0_1 t566 t569 t572 t575 bt577.1 bt577.2.1)))) = some r := H
  have A11 := Aside0.mk A110
  clear A110
  replace H := Option.bind_eq_some_iff.mp H
  obtain ⟨⟨t577, t580, t581⟩, A120, H⟩ := H
  replace H : ((laws_eqCups.f k t577 t580 t566 t569).bind fun t583 => (if t583 = true then (laws_FnExactMixTwo.j0 k a1 a2 t570 t581 (t581 != t570) l0_0 a0_1 t566 t569 t572 t575 t577 t580) else (laws_FnExactMixTwo.j0 k a1 a2 t570 t581 true l0_0 a0_1 t566 t569 t572 t575 t577 t580))) = some r := H
  have A12 := Aside0.mk A120
  clear A120
  have HC13 := Aside0.mk H
  clear H
  go_enter Try.func11, Try.ntmps11
  go_upto_region 8 with (first | ((with_reducible refine gate_dst (N := 3) rfl ?_); refine box_event ?hg (N := 3) ?hd (cs := #[.slice A0_0 l0_0.length c0_0, .int .i64 a0_1]) (t := 24) ?hr ?_; (case hd => rfl); (case hg => rfl); (case hr => first | (go_simp; done) | (go_simp; rfl)); intro gb560 hg w14 hbox hb; have n0_ := Aside0.mk (below_step (by repeat (first | (with_reducible first | exact HB.out | apply below_alloc | apply pw_below_drewN | apply below_drew1) | exact HB.out)) hb); have n1_ := Aside0.mk (hbox); have n2_ := Aside0.mk ((by rw [hg]; exact (below_size (by repeat (first | (with_reducible first | exact HB.out | apply below_alloc | apply pw_below_drewN | apply below_drew1) | exact HB.out))) : w.heap.size ≤ gb560)); have n3_ := Aside0.mk ((by rw [hg]; exact (below_size (by repeat (first | (with_reducible first | exact HB.out | apply below_alloc | apply pw_below_drewN | apply below_drew1) | exact HB.out))) : w.heap.size ≤ gb560)); clear HB; have HB := n0_; have BK560 := n1_; have GW560 := n2_; have GE560 := n3_; clear n0_ n1_ n2_ n3_; clear hb hbox hg; have hcz15_0 : w14.cell? ⟨gb560, 0, none⟩ = some (.slice A0_0 l0_0.length c0_0) := (blk_cell BK560.out 0).trans rfl; have hcz15_1 : w14.cell? ⟨gb560, 1, none⟩ = some (.int .i64 a0_1) := (blk_cell BK560.out 1).trans rfl; have hfz15_0 := blk_frozen BK560.out 0; have hfz15_1 := blk_frozen BK560.out 1) | ((with_reducible refine gate_callee (f := 16) rfl ?_); refine goesL_ (some 20) rfl rfl Try.func16 (by kernel_rfl) rfl #[.agg #[.slice A0_0 l0_0.length c0_0, .int .i64 a0_1], .int .i64 1048576] rfl (by (try simp only [List.map_toArray, List.map_cons, List.map_nil]); first | done | rfl | (simp only [List.length_drop, List.length_take]; rfl)) ?_; (with_reducible refine (laws_szCups.calls _ _ l0_0 a0_1 1048576 t561 _ ?side1 ?side2 A4.out).mono ?_); (case side1 => repeat (first | exact (Kd.C_below HR0_0.out HB.out) | (with_reducible refine Kd.C_alloc ?_ _) | (with_reducible refine Kd.C_drewN ?_ _) | (with_reducible refine Kd.C_drew ?_))); (case side2 => exact HC0_0.out); rintro e w16 ⟨rfl, hb⟩; refine ⟨_, rfl, ?_⟩; have n0_ := Aside0.mk (blk_below (g := gb560) (o := .cells #[.slice A0_0 l0_0.length c0_0, .int .i64 a0_1] 24 (0, 0)) (by (with_reducible repeat (first | refine blk_drewN ?_ _ | refine blk_drew ?_ | refine blk_alloc ?_ _)); exact BK560.out) hb); have n1_ := Aside0.mk (below_step (by repeat (first | (with_reducible first | exact HB.out | apply below_alloc | apply pw_below_drewN | apply below_drew1 | refine below_set ?_ GE560.out) | exact HB.out)) hb); clear BK560; clear HB; have BK560 := n0_; have HB := n1_; clear n0_ n1_; (try clear hb); (try clear hb2); (try clear hk); (try clear hi); have hcz17_0 : w16.cell? ⟨gb560, 0, none⟩ = some (.slice A0_0 l0_0.length c0_0) := (blk_cell BK560.out 0).trans rfl; have hcz17_1 : w16.cell? ⟨gb560, 1, none⟩ = some (.int .i64 a0_1) := (blk_cell BK560.out 1).trans rfl; have hfz17_0 := blk_frozen BK560.out 0; have hfz17_1 := blk_frozen BK560.out 1) | ((with_reducible refine gate_callee (f := 18) rfl ?_); refine goesL_ (some 25) rfl rfl Try.func18 (by kernel_rfl) rfl #[.agg #[.slice A0_0 l0_0.length c0_0, .int .i64 a0_1]] rfl (by (try simp only [List.map_toArray, List.map_cons, List.map_nil]); first | done | rfl | (simp only [List.length_drop, List.length_take]; rfl)) ?_; (with_reducible refine (laws_toCups.calls k _ _ l0_0 a0_1 t562 t565 _ ?side1 ?side2 A9.out).mono ?_); (case side1 => repeat (first | exact (Kd.C_below HR0_0.out HB.out) | (with_reducible refine Kd.C_alloc ?_ _) | (with_reducible refine Kd.C_drewN ?_ _) | (with_reducible refine Kd.C_drew ?_))); (case side2 => exact HC0_0.out); rintro e w18 ⟨v563, rfl, ho0, hb⟩; refine ⟨_, rfl, ?_⟩; have n0_ := Aside0.mk (Kd.R_lower ho0 (below_size (by repeat (first | (with_reducible first | exact HB.out | apply below_alloc | apply pw_below_drewN | apply below_drew1 | refine below_set ?_ GE560.out) | exact HB.out)))); have n1_ := Aside0.mk (blk_below (g := gb560) (o := .cells #[.slice A0_0 l0_0.length c0_0, .int .i64 a0_1] 24 (0, 0)) (by (with_reducible repeat (first | refine blk_drewN ?_ _ | refine blk_drew ?_ | refine blk_alloc ?_ _)); exact BK560.out) hb); have n2_ := Aside0.mk (below_step (by repeat (first | (with_reducible first | exact HB.out | apply below_alloc | apply pw_below_drewN | apply below_drew1 | refine below_set ?_ GE560.out) | exact HB.out)) hb); clear BK560; clear HB; have HO564 := n0_; have BK560 := n1_; have HB := n2_; clear n0_ n1_ n2_; (try clear hb); (try clear hb2); (try clear hk); (try clear hi); (try clear ho0); obtain ⟨Ao19, co19, eo19⟩ := Kd.R_slice HO564.out; subst eo19) | ((with_reducible refine gate_callee (f := 43) rfl ?_); refine goesL_ (some 28) rfl rfl Try.func43 (by kernel_rfl) rfl #[.agg #[.slice Ao19 t562.length co19, .int .i64 t565], .int .i64 a1, .int .i64 a2] rfl (by (try simp only [List.map_toArray, List.map_cons, List.map_nil]); first | done | rfl | (simp only [List.length_drop, List.length_take]; rfl)) ?_; (with_reducible refine (spec_MixTwo.calls k _ _ t562 t565 a1 a2 t566 t569 t570 _ ?side1 ?side2 A10.out).mono ?_); (case side1 => repeat (first | exact (Kd.R_reads' HO564.out).2.2 | (with_reducible refine Kd.C_alloc ?_ _) | (with_reducible refine Kd.C_drewN ?_ _) | (with_reducible refine Kd.C_drew ?_))); (case side2 => exact (Kd.R_reads' HO564.out).2.1); rintro e w20 ⟨v567, rfl, ho0, hb⟩; refine ⟨_, rfl, ?_⟩; have n0_ := Aside0.mk (Kd.R_elder' (by (with_reducible repeat (first | apply Kd.R_alloc | apply Kd.R_drewN | apply Kd.R_drew)); exact HO564.out) (Kd.R_base ho0) hb); have n1_ := Aside0.mk (Kd.R_lower (Kd.R_new' ho0 (Kd.R_lt (by (with_reducible repeat (first | apply Kd.R_alloc | apply Kd.R_drewN | apply Kd.R_drew)); exact HO564.out))) (below_size (by repeat (first | (with_reducible first | exact HB.out | apply below_alloc | apply pw_below_drewN | apply below_drew1 | refine below_set ?_ GE560.out) | exact HB.out)))); have n2_ := Aside0.mk (blk_below (g := gb560) (o := .cells #[.slice A0_0 l0_0.length c0_0, .int .i64 a0_1] 24 (0, 0)) (by (with_reducible repeat (first | refine blk_drewN ?_ _ | refine blk_drew ?_ | refine blk_alloc ?_ _)); exact BK560.out) hb); have n3_ := Aside0.mk (below_step (by repeat (first | (with_reducible first | exact HB.out | apply below_alloc | apply pw_below_drewN | apply below_drew1 | refine below_set ?_ GE560.out) | exact HB.out)) hb); clear HO564; clear BK560; clear HB; have HO564 := n0_; have HO568 := n1_; have BK560 := n2_; have HB := n3_; clear n0_ n1_ n2_ n3_; (try clear hb); (try clear hb2); (try clear hk); (try clear hi); (try clear ho0)) | ((with_reducible refine gate_dst (N := 8) rfl ?_); refine box_event ?hg (N := 8) ?hd (cs := #[.slice none 0 0, .int .i64 0]) (t := 27) ?hr ?_; (case hd => rfl); (case hg => rfl); (case hr => first | (go_simp; done) | (go_simp; rfl)); intro gb571 hg w21 hbox hb; have n0_ := Aside0.mk (Kd.R_below (by (with_reducible repeat (first | apply Kd.R_alloc | apply Kd.R_drewN | apply Kd.R_drew)); exact HO564.out) hb); have n1_ := Aside0.mk (Kd.R_below (by (with_reducible repeat (first | apply Kd.R_alloc | apply Kd.R_drewN | apply Kd.R_drew)); exact HO568.out) hb); have n2_ := Aside0.mk (blk_below (g := gb560) (o := .cells #[.slice A0_0 l0_0.length c0_0, .int .i64 a0_1] 24 (0, 0)) (by (with_reducible repeat (first | refine blk_drewN ?_ _ | refine blk_drew ?_ | refine blk_alloc ?_ _)); exact BK560.out) hb); have n3_ := Aside0.mk (below_step (by repeat (first | (with_reducible first | exact HB.out | apply below_alloc | apply pw_below_drewN | apply below_drew1 | refine below_set ?_ GE560.out) | exact HB.out)) hb); have n4_ := Aside0.mk (hbox); have n5_ := Aside0.mk ((by rw [hg]; exact (below_size (by repeat (first | (with_reducible first | exact HB.out | apply below_alloc | apply pw_below_drewN | apply below_drew1 | refine below_set ?_ GE560.out) | exact HB.out))) : w.heap.size ≤ gb571)); have n6_ := Aside0.mk ((by rw [hg]; exact (below_size (by repeat (first | (with_reducible first | exact HB.out | apply below_alloc | apply pw_below_drewN | apply below_drew1 | refine below_set ?_ GE560.out) | exact HB.out))) : w.heap.size ≤ gb571)); have n7_ := Aside0.mk ((by rw [hg]; exact Nat.ne_of_lt (blk_lt (g := gb560) (o := .cells #[.slice A0_0 l0_0.length c0_0, .int .i64 a0_1] 24 (0, 0)) (by (with_reducible repeat (first | refine blk_drewN ?_ _ | refine blk_drew ?_ | refine blk_alloc ?_ _)); exact BK560.out)) : gb560 ≠ gb571)); have n8_ := Aside0.mk ((by rw [hg]; exact Nat.ne_of_gt (blk_lt (g := gb560) (o := .cells #[.slice A0_0 l0_0.length c0_0, .int .i64 a0_1] 24 (0, 0)) (by (with_reducible repeat (first | refine blk_drewN ?_ _ | refine blk_drew ?_ | refine blk_alloc ?_ _)); exact BK560.out)) : gb571 ≠ gb560)); clear HO564; clear HO568; clear BK560; clear HB; have HO564 := n0_; have HO568 := n1_; have BK560 := n2_; have HB := n3_; have BK571 := n4_; have GW571 := n5_; have GE571 := n6_; have NB560_571 := n7_; have NB571_560 := n8_; clear n0_ n1_ n2_ n3_ n4_ n5_ n6_ n7_ n8_; clear hb hbox hg; obtain ⟨Ao22, co22, eo22⟩ := Kd.R_slice HO568.out; subst eo22; have hnb23 := NB571_560.out; have hnc23 := NB560_571.out; have hcz24_0 : w21.cell? ⟨gb571, 0, none⟩ = some (.slice none 0 0) := (blk_cell BK571.out 0).trans rfl; have hcz24_1 : w21.cell? ⟨gb571, 1, none⟩ = some (.int .i64 0) := (blk_cell BK571.out 1).trans rfl; have hfz24_0 := blk_frozen BK571.out 0; have hfz24_1 := blk_frozen BK571.out 1; have hcz25_0 : w21.cell? ⟨gb560, 0, none⟩ = some (.slice A0_0 l0_0.length c0_0) := (blk_cell BK560.out 0).trans rfl; have hcz25_1 : w21.cell? ⟨gb560, 1, none⟩ = some (.int .i64 a0_1) := (blk_cell BK560.out 1).trans rfl; have hfz25_0 := blk_frozen BK560.out 0; have hfz25_1 := blk_frozen BK560.out 1) | ((with_reducible refine gate_callee (f := 18) rfl ?_); refine goesL_ (some 32) rfl rfl Try.func18 (by kernel_rfl) rfl #[.agg #[.slice A0_0 l0_0.length c0_0, .int .i64 a0_1]] rfl (by (try simp only [List.map_toArray, List.map_cons, List.map_nil]); first | done | rfl | (simp only [List.length_drop, List.length_take]; rfl)) ?_; (with_reducible refine (laws_toCups.calls k _ _ l0_0 a0_1 t572 t575 _ ?side1 ?side2 A11.out).mono ?_); (case side1 => exact Kd.C_below HR0_0.out (by repeat (first | (with_reducible first | exact HB.out | apply below_alloc | apply pw_below_drewN | apply below_drew1 | refine below_set ?_ GE560.out | refine below_set ?_ GE571.out) | exact HB.out))); (case side2 => exact HC0_0.out); rintro e w26 ⟨v573, rfl, ho0, hb⟩; refine ⟨_, rfl, ?_⟩; have n0_ := Aside0.mk (Kd.R_elder' (by (with_reducible repeat (first | apply Kd.R_alloc | apply Kd.R_drewN | apply Kd.R_drew)); exact (Kd.R_mono (Kd.R_far (p := ⟨gb571, 1, none⟩) (Kd.R_far (p := ⟨gb571, 0, none⟩) (Kd.R_types HO564.out BK571.out (by decide)) (fun _ hk => hk.2) (.slice Ao22 t566.length co22)) (fun _ hk => hk.2) (.int .i64 t569)) (fun _ h_ => h_.1))) (Kd.R_base ho0) hb); have n1_ := Aside0.mk (Kd.R_elder' (by (with_reducible repeat (first | apply Kd.R_alloc | apply Kd.R_drewN | apply Kd.R_drew)); exact (Kd.R_mono (Kd.R_far (p := ⟨gb571, 1, none⟩) (Kd.R_far (p := ⟨gb571, 0, none⟩) (Kd.R_types HO568.out BK571.out (by decide)) (fun _ hk => hk.2) (.slice Ao22 t566.length co22)) (fun _ hk => hk.2) (.int .i64 t569)) (fun _ h_ => h_.1))) (Kd.R_base ho0) hb); have n2_ := Aside0.mk (Kd.R_lower (Kd.R_new' (Kd.R_new' ho0 (Kd.R_lt (by (with_reducible repeat (first | apply Kd.R_alloc | apply Kd.R_drewN | apply Kd.R_drew)); exact (Kd.R_mono (Kd.R_far (p := ⟨gb571, 1, none⟩) (Kd.R_far (p := ⟨gb571, 0, none⟩) (Kd.R_types HO564.out BK571.out (by decide)) (fun _ hk => hk.2) (.slice Ao22 t566.length co22)) (fun _ hk => hk.2) (.int .i64 t569)) (fun _ h_ => h_.1))))) (Kd.R_lt (by (with_reducible repeat (first | apply Kd.R_alloc | apply Kd.R_drewN | apply Kd.R_drew)); exact (Kd.R_mono (Kd.R_far (p := ⟨gb571, 1, none⟩) (Kd.R_far (p := ⟨gb571, 0, none⟩) (Kd.R_types HO568.out BK571.out (by decide)) (fun _ hk => hk.2) (.slice Ao22 t566.length co22)) (fun _ hk => hk.2) (.int .i64 t569)) (fun _ h_ => h_.1))))) (below_size (by repeat (first | (with_reducible first | exact HB.out | apply below_alloc | apply pw_below_drewN | apply below_drew1 | refine below_set ?_ GE560.out | refine below_set ?_ GE571.out) | exact HB.out)))); have n3_ := Aside0.mk (blk_below (g := gb560) (o := .cells #[.slice A0_0 l0_0.length c0_0, .int .i64 a0_1] 24 (0, 0)) (by (with_reducible repeat (first | refine blk_drewN ?_ _ | refine blk_drew ?_ | refine blk_alloc ?_ _)); refine blk_far ?_ NB560_571.out _; (with_reducible repeat (first | refine blk_drewN ?_ _ | refine blk_drew ?_ | refine blk_alloc ?_ _)); refine blk_far ?_ NB560_571.out _; (with_reducible repeat (first | refine blk_drewN ?_ _ | refine blk_drew ?_ | refine blk_alloc ?_ _)); exact BK560.out) hb); have n4_ := Aside0.mk (blk_below (g := gb571) (o := .cells #[.slice Ao22 t566.length co22, .int .i64 t569] 27 (0, 0)) (by (with_reducible repeat (first | refine blk_drewN ?_ _ | refine blk_drew ?_ | refine blk_alloc ?_ _)); refine blk_put (cs := #[.slice Ao22 t566.length co22, .int .i64 0]) ?_ 1 _ rfl; (with_reducible repeat (first | refine blk_drewN ?_ _ | refine blk_drew ?_ | refine blk_alloc ?_ _)); refine blk_put (cs := #[.slice none 0 0, .int .i64 0]) ?_ 0 _ rfl; (with_reducible repeat (first | refine blk_drewN ?_ _ | refine blk_drew ?_ | refine blk_alloc ?_ _)); exact BK571.out) hb); have n5_ := Aside0.mk (below_step (by repeat (first | (with_reducible first | exact HB.out | apply below_alloc | apply pw_below_drewN | apply below_drew1 | refine below_set ?_ GE560.out | refine below_set ?_ GE571.out) | exact HB.out)) hb); clear HO564; clear HO568; clear BK560; clear BK571; clear HB; have HO564 := n0_; have HO568 := n1_; have HO574 := n2_; have BK560 := n3_; have BK571 := n4_; have HB := n5_; clear n0_ n1_ n2_ n3_ n4_ n5_; (try clear hb); (try clear hb2); (try clear hk); (try clear hi); (try clear ho0)) | ((with_reducible refine gate_dst (N := 10) rfl ?_); refine box_event ?hg (N := 10) ?hd (cs := #[.slice none 0 0, .int .i64 0]) (t := 27) ?hr ?_; (case hd => rfl); (case hg => rfl); (case hr => first | (go_simp; done) | (go_simp; rfl)); intro gb576 hg w27 hbox hb; have n0_ := Aside0.mk (Kd.R_below (by (with_reducible repeat (first | apply Kd.R_alloc | apply Kd.R_drewN | apply Kd.R_drew)); exact HO564.out) hb); have n1_ := Aside0.mk (Kd.R_below (by (with_reducible repeat (first | apply Kd.R_alloc | apply Kd.R_drewN | apply Kd.R_drew)); exact HO568.out) hb); have n2_ := Aside0.mk (Kd.R_below (by (with_reducible repeat (first | apply Kd.R_alloc | apply Kd.R_drewN | apply Kd.R_drew)); exact HO574.out) hb); have n3_ := Aside0.mk (blk_below (g := gb560) (o := .cells #[.slice A0_0 l0_0.length c0_0, .int .i64 a0_1] 24 (0, 0)) (by (with_reducible repeat (first | refine blk_drewN ?_ _ | refine blk_drew ?_ | refine blk_alloc ?_ _)); exact BK560.out) hb); have n4_ := Aside0.mk (blk_below (g := gb571) (o := .cells #[.slice Ao22 t566.length co22, .int .i64 t569] 27 (0, 0)) (by (with_reducible repeat (first | refine blk_drewN ?_ _ | refine blk_drew ?_ | refine blk_alloc ?_ _)); exact BK571.out) hb); have n5_ := Aside0.mk (below_step (by repeat (first | (with_reducible first | exact HB.out | apply below_alloc | apply pw_below_drewN | apply below_drew1 | refine below_set ?_ GE560.out | refine below_set ?_ GE571.out) | exact HB.out)) hb); have n6_ := Aside0.mk (hbox); have n7_ := Aside0.mk ((by rw [hg]; exact (below_size (by repeat (first | (with_reducible first | exact HB.out | apply below_alloc | apply pw_below_drewN | apply below_drew1 | refine below_set ?_ GE560.out | refine below_set ?_ GE571.out) | exact HB.out))) : w.heap.size ≤ gb576)); have n8_ := Aside0.mk ((by rw [hg]; exact (below_size (by repeat (first | (with_reducible first | exact HB.out | apply below_alloc | apply pw_below_drewN | apply below_drew1 | refine below_set ?_ GE560.out | refine below_set ?_ GE571.out) | exact HB.out))) : w.heap.size ≤ gb576)); have n9_ := Aside0.mk ((by rw [hg]; exact Nat.ne_of_lt (blk_lt (g := gb560) (o := .cells #[.slice A0_0 l0_0.length c0_0, .int .i64 a0_1] 24 (0, 0)) (by (with_reducible repeat (first | refine blk_drewN ?_ _ | refine blk_drew ?_ | refine blk_alloc ?_ _)); exact BK560.out)) : gb560 ≠ gb576)); have n10_ := Aside0.mk ((by rw [hg]; exact Nat.ne_of_gt (blk_lt (g := gb560) (o := .cells #[.slice A0_0 l0_0.length c0_0, .int .i64 a0_1] 24 (0, 0)) (by (with_reducible repeat (first | refine blk_drewN ?_ _ | refine blk_drew ?_ | refine blk_alloc ?_ _)); exact BK560.out)) : gb576 ≠ gb560)); have n11_ := Aside0.mk ((by rw [hg]; exact Nat.ne_of_lt (blk_lt (g := gb571) (o := .cells #[.slice Ao22 t566.length co22, .int .i64 t569] 27 (0, 0)) (by (with_reducible repeat (first | refine blk_drewN ?_ _ | refine blk_drew ?_ | refine blk_alloc ?_ _)); exact BK571.out)) : gb571 ≠ gb576)); have n12_ := Aside0.mk ((by rw [hg]; exact Nat.ne_of_gt (blk_lt (g := gb571) (o := .cells #[.slice Ao22 t566.length co22, .int .i64 t569] 27 (0, 0)) (by (with_reducible repeat (first | refine blk_drewN ?_ _ | refine blk_drew ?_ | refine blk_alloc ?_ _)); exact BK571.out)) : gb576 ≠ gb571)); clear HO564; clear HO568; clear HO574; clear BK560; clear BK571; clear HB; have HO564 := n0_; have HO568 := n1_; have HO574 := n2_; have BK560 := n3_; have BK571 := n4_; have HB := n5_; have BK576 := n6_; have GW576 := n7_; have GE576 := n8_; have NB560_576 := n9_; have NB576_560 := n10_; have NB571_576 := n11_; have NB576_571 := n12_; clear n0_ n1_ n2_ n3_ n4_ n5_ n6_ n7_ n8_ n9_ n10_ n11_ n12_; clear hb hbox hg; obtain ⟨Ao28, co28, eo28⟩ := Kd.R_slice HO574.out; subst eo28; have hnb29 := NB576_560.out; have hnc29 := NB560_576.out; have hnb30 := NB576_571.out; have hnc30 := NB571_576.out; have hcz31_0 : w27.cell? ⟨gb576, 0, none⟩ = some (.slice none 0 0) := (blk_cell BK576.out 0).trans rfl; have hcz31_1 : w27.cell? ⟨gb576, 1, none⟩ = some (.int .i64 0) := (blk_cell BK576.out 1).trans rfl; have hfz31_0 := blk_frozen BK576.out 0; have hfz31_1 := blk_frozen BK576.out 1) | ((with_reducible refine gate_callee (f := 44) rfl ?_); refine goesL_ (some 37) rfl rfl Try.func44 (by kernel_rfl) rfl #[.agg #[.slice Ao28 t572.length co28, .int .i64 t575], .int .i64 a1, .int .i64 a2] rfl (by (try simp only [List.map_toArray, List.map_cons, List.map_nil]); first | done | rfl | (simp only [List.length_drop, List.length_take]; rfl)) ?_; (with_reducible refine (impl_MixTwo.calls k _ _ t572 t575 a1 a2 t577 t580 t581 _ ?side1 ?side2 A12.out).mono ?_); (case side1 => refine (Kd.R_reads' (e := 3) (base := w.heap.size) (ok := fun k_ => ((True ∧ some k_ ≠ (.slice Ao19 t562.length co19 : Value).ownBlock) ∧ some k_ ≠ (.slice Ao22 t566.length co22 : Value).ownBlock)) (n := t572.length) (c := co28) ?_).2.2; exact (by (with_reducible repeat (first | apply Kd.R_alloc | apply Kd.R_drewN | apply Kd.R_drew)); exact (Kd.R_mono (Kd.R_far (p := ⟨gb576, 1, none⟩) (Kd.R_far (p := ⟨gb576, 0, none⟩) (Kd.R_types HO574.out BK576.out (by decide)) (fun _ hk => hk.2) (.slice Ao28 t572.length co28)) (fun _ hk => hk.2) (.int .i64 t575)) (fun _ h_ => h_.1)))); (case side2 => exact (Kd.R_reads' HO574.out).2.1); rintro e w32 ⟨v578, rfl, ho0, hb⟩; refine ⟨_, rfl, ?_⟩; have n0_ := Aside0.mk (Kd.R_elder' (by (with_reducible repeat (first | apply Kd.R_alloc | apply Kd.R_drewN | apply Kd.R_drew)); exact (Kd.R_mono (Kd.R_far (p := ⟨gb576, 1, none⟩) (Kd.R_far (p := ⟨gb576, 0, none⟩) (Kd.R_types HO564.out BK576.out (by decide)) (fun _ hk => hk.2) (.slice Ao28 t572.length co28)) (fun _ hk => hk.2) (.int .i64 t575)) (fun _ h_ => h_.1))) (Kd.R_base ho0) hb); have n1_ := Aside0.mk (Kd.R_elder' (by (with_reducible repeat (first | apply Kd.R_alloc | apply Kd.R_drewN | apply Kd.R_drew)); exact (Kd.R_mono (Kd.R_far (p := ⟨gb576, 1, none⟩) (Kd.R_far (p := ⟨gb576, 0, none⟩) (Kd.R_types HO568.out BK576.out (by decide)) (fun _ hk => hk.2) (.slice Ao28 t572.length co28)) (fun _ hk => hk.2) (.int .i64 t575)) (fun _ h_ => h_.1))) (Kd.R_base ho0) hb); have n2_ := Aside0.mk (Kd.R_elder' (by (with_reducible repeat (first | apply Kd.R_alloc | apply Kd.R_drewN | apply Kd.R_drew)); exact (Kd.R_mono (Kd.R_far (p := ⟨gb576, 1, none⟩) (Kd.R_far (p := ⟨gb576, 0, none⟩) (Kd.R_types HO574.out BK576.out (by decide)) (fun _ hk => hk.2) (.slice Ao28 t572.length co28)) (fun _ hk => hk.2) (.int .i64 t575)) (fun _ h_ => h_.1))) (Kd.R_base ho0) hb); have n3_ := Aside0.mk (Kd.R_lower (Kd.R_new' (Kd.R_new' (Kd.R_new' ho0 (Kd.R_lt (by (with_reducible repeat (first | apply Kd.R_alloc | apply Kd.R_drewN | apply Kd.R_drew)); exact (Kd.R_mono (Kd.R_far (p := ⟨gb576, 1, none⟩) (Kd.R_far (p := ⟨gb576, 0, none⟩) (Kd.R_types HO564.out BK576.out (by decide)) (fun _ hk => hk.2) (.slice Ao28 t572.length co28)) (fun _ hk => hk.2) (.int .i64 t575)) (fun _ h_ => h_.1))))) (Kd.R_lt (by (with_reducible repeat (first | apply Kd.R_alloc | apply Kd.R_drewN | apply Kd.R_drew)); exact (Kd.R_mono (Kd.R_far (p := ⟨gb576, 1, none⟩) (Kd.R_far (p := ⟨gb576, 0, none⟩) (Kd.R_types HO568.out BK576.out (by decide)) (fun _ hk => hk.2) (.slice Ao28 t572.length co28)) (fun _ hk => hk.2) (.int .i64 t575)) (fun _ h_ => h_.1))))) (Kd.R_lt (by (with_reducible repeat (first | apply Kd.R_alloc | apply Kd.R_drewN | apply Kd.R_drew)); exact (Kd.R_mono (Kd.R_far (p := ⟨gb576, 1, none⟩) (Kd.R_far (p := ⟨gb576, 0, none⟩) (Kd.R_types HO574.out BK576.out (by decide)) (fun _ hk => hk.2) (.slice Ao28 t572.length co28)) (fun _ hk => hk.2) (.int .i64 t575)) (fun _ h_ => h_.1))))) (below_size (by repeat (first | (with_reducible first | exact HB.out | apply below_alloc | apply pw_below_drewN | apply below_drew1 | refine below_set ?_ GE560.out | refine below_set ?_ GE571.out | refine below_set ?_ GE576.out) | exact HB.out)))); have n4_ := Aside0.mk (blk_below (g := gb560) (o := .cells #[.slice A0_0 l0_0.length c0_0, .int .i64 a0_1] 24 (0, 0)) (by (with_reducible repeat (first | refine blk_drewN ?_ _ | refine blk_drew ?_ | refine blk_alloc ?_ _)); refine blk_far ?_ NB560_576.out _; (with_reducible repeat (first | refine blk_drewN ?_ _ | refine blk_drew ?_ | refine blk_alloc ?_ _)); refine blk_far ?_ NB560_576.out _; (with_reducible repeat (first | refine blk_drewN ?_ _ | refine blk_drew ?_ | refine blk_alloc ?_ _)); exact BK560.out) hb); have n5_ := Aside0.mk (blk_below (g := gb571) (o := .cells #[.slice Ao22 t566.length co22, .int .i64 t569] 27 (0, 0)) (by (with_reducible repeat (first | refine blk_drewN ?_ _ | refine blk_drew ?_ | refine blk_alloc ?_ _)); refine blk_far ?_ NB571_576.out _; (with_reducible repeat (first | refine blk_drewN ?_ _ | refine blk_drew ?_ | refine blk_alloc ?_ _)); refine blk_far ?_ NB571_576.out _; (with_reducible repeat (first | refine blk_drewN ?_ _ | refine blk_drew ?_ | refine blk_alloc ?_ _)); exact BK571.out) hb); have n6_ := Aside0.mk (blk_below (g := gb576) (o := .cells #[.slice Ao28 t572.length co28, .int .i64 t575] 27 (0, 0)) (by (with_reducible repeat (first | refine blk_drewN ?_ _ | refine blk_drew ?_ | refine blk_alloc ?_ _)); refine blk_put (cs := #[.slice Ao28 t572.length co28, .int .i64 0]) ?_ 1 _ rfl; (with_reducible repeat (first | refine blk_drewN ?_ _ | refine blk_drew ?_ | refine blk_alloc ?_ _)); refine blk_put (cs := #[.slice none 0 0, .int .i64 0]) ?_ 0 _ rfl; (with_reducible repeat (first | refine blk_drewN ?_ _ | refine blk_drew ?_ | refine blk_alloc ?_ _)); exact BK576.out) hb); have n7_ := Aside0.mk (below_step (by repeat (first | (with_reducible first | exact HB.out | apply below_alloc | apply pw_below_drewN | apply below_drew1 | refine below_set ?_ GE560.out | refine below_set ?_ GE571.out | refine below_set ?_ GE576.out) | exact HB.out)) hb); clear HO564; clear HO568; clear HO574; clear BK560; clear BK571; clear BK576; clear HB; have HO564 := n0_; have HO568 := n1_; have HO574 := n2_; have HO579 := n3_; have BK560 := n4_; have BK571 := n5_; have BK576 := n6_; have HB := n7_; clear n0_ n1_ n2_ n3_ n4_ n5_ n6_ n7_; (try clear hb); (try clear hb2); (try clear hk); (try clear hi); (try clear ho0)) | ((with_reducible refine gate_dst (N := 11) rfl ?_); refine box_event ?hg (N := 11) ?hd (cs := #[.slice none 0 0, .int .i64 0]) (t := 27) ?hr ?_; (case hd => rfl); (case hg => rfl); (case hr => first | (go_simp; done) | (go_simp; rfl)); intro gb582 hg w33 hbox hb; have n0_ := Aside0.mk (Kd.R_below (by (with_reducible repeat (first | apply Kd.R_alloc | apply Kd.R_drewN | apply Kd.R_drew)); exact HO564.out) hb); have n1_ := Aside0.mk (Kd.R_below (by (with_reducible repeat (first | apply Kd.R_alloc | apply Kd.R_drewN | apply Kd.R_drew)); exact HO568.out) hb); have n2_ := Aside0.mk (Kd.R_below (by (with_reducible repeat (first | apply Kd.R_alloc | apply Kd.R_drewN | apply Kd.R_drew)); exact HO574.out) hb); have n3_ := Aside0.mk (Kd.R_below (by (with_reducible repeat (first | apply Kd.R_alloc | apply Kd.R_drewN | apply Kd.R_drew)); exact HO579.out) hb); have n4_ := Aside0.mk (blk_below (g := gb560) (o := .cells #[.slice A0_0 l0_0.length c0_0, .int .i64 a0_1] 24 (0, 0)) (by (with_reducible repeat (first | refine blk_drewN ?_ _ | refine blk_drew ?_ | refine blk_alloc ?_ _)); exact BK560.out) hb); have n5_ := Aside0.mk (blk_below (g := gb571) (o := .cells #[.slice Ao22 t566.length co22, .int .i64 t569] 27 (0, 0)) (by (with_reducible repeat (first | refine blk_drewN ?_ _ | refine blk_drew ?_ | refine blk_alloc ?_ _)); exact BK571.out) hb); have n6_ := Aside0.mk (blk_below (g := gb576) (o := .cells #[.slice Ao28 t572.length co28, .int .i64 t575] 27 (0, 0)) (by (with_reducible repeat (first | refine blk_drewN ?_ _ | refine blk_drew ?_ | refine blk_alloc ?_ _)); exact BK576.out) hb); have n7_ := Aside0.mk (below_step (by repeat (first | (with_reducible first | exact HB.out | apply below_alloc | apply pw_below_drewN | apply below_drew1 | refine below_set ?_ GE560.out | refine below_set ?_ GE571.out | refine below_set ?_ GE576.out) | exact HB.out)) hb); have n8_ := Aside0.mk (hbox); have n9_ := Aside0.mk ((by rw [hg]; exact (below_size (by repeat (first | (with_reducible first | exact HB.out | apply below_alloc | apply pw_below_drewN | apply below_drew1 | refine below_set ?_ GE560.out | refine below_set ?_ GE571.out | refine below_set ?_ GE576.out) | exact HB.out))) : w.heap.size ≤ gb582)); have n10_ := Aside0.mk ((by rw [hg]; exact (below_size (by repeat (first | (with_reducible first | exact HB.out | apply below_alloc | apply pw_below_drewN | apply below_drew1 | refine below_set ?_ GE560.out | refine below_set ?_ GE571.out | refine below_set ?_ GE576.out) | exact HB.out))) : w.heap.size ≤ gb582)); have n11_ := Aside0.mk ((by rw [hg]; exact Nat.ne_of_lt (blk_lt (g := gb560) (o := .cells #[.slice A0_0 l0_0.length c0_0, .int .i64 a0_1] 24 (0, 0)) (by (with_reducible repeat (first | refine blk_drewN ?_ _ | refine blk_drew ?_ | refine blk_alloc ?_ _)); exact BK560.out)) : gb560 ≠ gb582)); have n12_ := Aside0.mk ((by rw [hg]; exact Nat.ne_of_gt (blk_lt (g := gb560) (o := .cells #[.slice A0_0 l0_0.length c0_0, .int .i64 a0_1] 24 (0, 0)) (by (with_reducible repeat (first | refine blk_drewN ?_ _ | refine blk_drew ?_ | refine blk_alloc ?_ _)); exact BK560.out)) : gb582 ≠ gb560)); have n13_ := Aside0.mk ((by rw [hg]; exact Nat.ne_of_lt (blk_lt (g := gb571) (o := .cells #[.slice Ao22 t566.length co22, .int .i64 t569] 27 (0, 0)) (by (with_reducible repeat (first | refine blk_drewN ?_ _ | refine blk_drew ?_ | refine blk_alloc ?_ _)); exact BK571.out)) : gb571 ≠ gb582)); have n14_ := Aside0.mk ((by rw [hg]; exact Nat.ne_of_gt (blk_lt (g := gb571) (o := .cells #[.slice Ao22 t566.length co22, .int .i64 t569] 27 (0, 0)) (by (with_reducible repeat (first | refine blk_drewN ?_ _ | refine blk_drew ?_ | refine blk_alloc ?_ _)); exact BK571.out)) : gb582 ≠ gb571)); have n15_ := Aside0.mk ((by rw [hg]; exact Nat.ne_of_lt (blk_lt (g := gb576) (o := .cells #[.slice Ao28 t572.length co28, .int .i64 t575] 27 (0, 0)) (by (with_reducible repeat (first | refine blk_drewN ?_ _ | refine blk_drew ?_ | refine blk_alloc ?_ _)); exact BK576.out)) : gb576 ≠ gb582)); have n16_ := Aside0.mk ((by rw [hg]; exact Nat.ne_of_gt (blk_lt (g := gb576) (o := .cells #[.slice Ao28 t572.length co28, .int .i64 t575] 27 (0, 0)) (by (with_reducible repeat (first | refine blk_drewN ?_ _ | refine blk_drew ?_ | refine blk_alloc ?_ _)); exact BK576.out)) : gb582 ≠ gb576)); clear HO564; clear HO568; clear HO574; clear HO579; clear BK560; clear BK571; clear BK576; clear HB; have HO564 := n0_; have HO568 := n1_; have HO574 := n2_; have HO579 := n3_; have BK560 := n4_; have BK571 := n5_; have BK576 := n6_; have HB := n7_; have BK582 := n8_; have GW582 := n9_; have GE582 := n10_; have NB560_582 := n11_; have NB582_560 := n12_; have NB571_582 := n13_; have NB582_571 := n14_; have NB576_582 := n15_; have NB582_576 := n16_; clear n0_ n1_ n2_ n3_ n4_ n5_ n6_ n7_ n8_ n9_ n10_ n11_ n12_ n13_ n14_ n15_ n16_; clear hb hbox hg; obtain ⟨Ao34, co34, eo34⟩ := Kd.R_slice HO579.out; subst eo34; have hnb35 := NB582_560.out; have hnc35 := NB560_582.out; have hnb36 := NB582_571.out; have hnc36 := NB571_582.out; have hnb37 := NB582_576.out; have hnc37 := NB576_582.out; have hcz38_0 : w33.cell? ⟨gb582, 0, none⟩ = some (.slice none 0 0) := (blk_cell BK582.out 0).trans rfl; have hcz38_1 : w33.cell? ⟨gb582, 1, none⟩ = some (.int .i64 0) := (blk_cell BK582.out 1).trans rfl; have hfz38_0 := blk_frozen BK582.out 0; have hfz38_1 := blk_frozen BK582.out 1))
  (try simp only [Act.put, List.setIfInBounds_toArray, List.set_cons_zero, List.set_cons_succ])
  go_cut [48] (fun v48 wc => ∃ (kq : Nat) (x48_12 : Bool), v48 = .bool x48_12 ∧ Aside0 (laws_FnExactMixTwo.j0 kq a1 a2 t570 t581 x48_12 l0_0 a0_1 t566 t569 t572 t575 t577 t580 = some r) ∧ Aside0 (kq ≤ k) ∧ Aside0 (Kd.R (Kd.int .i64) 3 wc w.heap.size (fun k_ => some k_ ≠ ((.slice Ao28 t572.length co28) : Value).ownBlock ∧ some k_ ≠ ((.slice Ao34 t577.length co34) : Value).ownBlock) (.slice Ao22 t566.length co22) t566) ∧ Aside0 (Kd.R (Kd.int .i64) 3 wc w.heap.size (fun k_ => some k_ ≠ ((.slice Ao22 t566.length co22) : Value).ownBlock ∧ some k_ ≠ ((.slice Ao34 t577.length co34) : Value).ownBlock) (.slice Ao28 t572.length co28) t572) ∧ Aside0 (Kd.R (Kd.int .i64) 3 wc w.heap.size (fun k_ => some k_ ≠ ((.slice Ao22 t566.length co22) : Value).ownBlock ∧ some k_ ≠ ((.slice Ao28 t572.length co28) : Value).ownBlock) (.slice Ao34 t577.length co34) t577) ∧ Aside0 (wc.heap[gb560]? = some (.cells #[(.slice A0_0 l0_0.length c0_0), .int .i64 a0_1] 24 (0, 0))) ∧ Aside0 (wc.heap[gb571]? = some (.cells #[(.slice Ao22 t566.length co22), .int .i64 t569] 27 (0, 0))) ∧ Aside0 (wc.heap[gb576]? = some (.cells #[(.slice Ao28 t572.length co28), .int .i64 t575] 27 (0, 0))) ∧ Aside0 (wc.heap[gb582]? = some (.cells #[(.slice Ao34 t577.length co34), .int .i64 t580] 27 (0, 0))) ∧ Aside0 (Below w.heap.size w wc))
  case first =>
   have H := HC13.out
   clear HC13
   replace H := Option.bind_eq_some_iff.mp H
   obtain ⟨t583, A390, H⟩ := H
   replace H : (if t583 = true then (laws_FnExactMixTwo.j0 k a1 a2 t570 t581 (t581 != t570) l0_0 a0_1 t566 t569 t572 t575 t577 t580) else (laws_FnExactMixTwo.j0 k a1 a2 t570 t581 true l0_0 a0_1 t566 t569 t572 t575 t577 t580)) = some r := H
   have A39 := Aside0.mk A390
   clear A390
   by_cases c40 : t583 = true
   ·subst c40
    have H1 : (laws_FnExactMixTwo.j0 k a1 a2 t570 t581 (t581 != t570) l0_0 a0_1 t566 t569 t572 t575 t577 t580) = some r := by rw [if_pos rfl] at H; exact H
    clear H
    have H := H1
    clear H1
    have H' := Aside0.mk H
    clear H
    have hnb41 := NB582_560.out
    have hnc41 := NB560_582.out
    have hnb42 := NB582_571.out
    have hnc42 := NB571_582.out
    have hnb43 := NB582_576.out
    have hnc43 := NB576_582.out
    have hcz44_0 : w33.cell? ⟨gb582, 0, none⟩ = some (.slice none 0 0) := (blk_cell BK582.out 0).trans rfl
    have hcz44_1 : w33.cell? ⟨gb582, 1, none⟩ = some (.int .i64 0) := (blk_cell BK582.out 1).trans rfl
    have hfz44_0 := blk_frozen BK582.out 0
    have hfz44_1 := blk_frozen BK582.out 1
    have hnb45 := NB571_560.out
    have hnc45 := NB560_571.out
    have hnb46 := NB571_576.out
    have hnc46 := NB576_571.out
    have hcz47_0 : w33.cell? ⟨gb571, 0, none⟩ = some (.slice Ao22 t566.length co22) := (blk_cell BK571.out 0).trans rfl
    have hcz47_1 : w33.cell? ⟨gb571, 1, none⟩ = some (.int .i64 t569) := (blk_cell BK571.out 1).trans rfl
    have hfz47_0 := blk_frozen BK571.out 0
    have hfz47_1 := blk_frozen BK571.out 1
    go_wp2_with (first | ((with_reducible refine gate_callee (f := 20) rfl ?_); refine goesL_ (some 42) rfl rfl Try.func20 (by kernel_rfl) rfl #[.agg #[.slice Ao34 t577.length co34, .int .i64 t580], .agg #[.slice Ao22 t566.length co22, .int .i64 t569]] rfl (by (try simp only [List.map_toArray, List.map_cons, List.map_nil]); first | done | rfl | (simp only [List.length_drop, List.length_take]; rfl)) ?_; (with_reducible refine (laws_eqCups.calls k _ _ t577 t580 _ _ t566 t569 true _ ?side1 ?side2 ?side3 ?side4 A39.out).mono ?_); (case side1 => refine (Kd.R_reads' (e := 3) (base := w.heap.size) (ok := fun k_ => (((True ∧ some k_ ≠ (.slice Ao19 t562.length co19 : Value).ownBlock) ∧ some k_ ≠ (.slice Ao22 t566.length co22 : Value).ownBlock) ∧ some k_ ≠ (.slice Ao28 t572.length co28 : Value).ownBlock)) (n := t577.length) (c := co34) ?_).2.2; exact (by (with_reducible repeat (first | apply Kd.R_alloc | apply Kd.R_drewN | apply Kd.R_drew)); exact (Kd.R_mono (Kd.R_far (p := ⟨gb582, 1, none⟩) (Kd.R_far (p := ⟨gb582, 0, none⟩) (Kd.R_types HO579.out BK582.out (by decide)) (fun _ hk => hk.2) (.slice Ao34 t577.length co34)) (fun _ hk => hk.2) (.int .i64 t580)) (fun _ h_ => h_.1)))); (case side2 => exact (Kd.R_reads' HO579.out).2.1); (case side3 => refine (Kd.R_reads' (e := 3) (base := w.heap.size) (ok := fun k_ => (((True ∧ some k_ ≠ (.slice Ao19 t562.length co19 : Value).ownBlock) ∧ some k_ ≠ (.slice Ao28 t572.length co28 : Value).ownBlock) ∧ some k_ ≠ (.slice Ao34 t577.length co34 : Value).ownBlock)) (n := t566.length) (c := co22) ?_).2.2; exact (by (with_reducible repeat (first | apply Kd.R_alloc | apply Kd.R_drewN | apply Kd.R_drew)); exact (Kd.R_mono (Kd.R_far (p := ⟨gb582, 1, none⟩) (Kd.R_far (p := ⟨gb582, 0, none⟩) (Kd.R_types HO568.out BK582.out (by decide)) (fun _ hk => hk.2) (.slice Ao34 t577.length co34)) (fun _ hk => hk.2) (.int .i64 t580)) (fun _ h_ => h_.1)))); (case side4 => exact (Kd.R_reads' HO568.out).2.1); rintro e w48 ⟨rfl, hb⟩; refine ⟨_, rfl, ?_⟩; have n0_ := Aside0.mk (Kd.R_below (by (with_reducible repeat (first | apply Kd.R_alloc | apply Kd.R_drewN | apply Kd.R_drew)); exact (Kd.R_mono (Kd.R_far (p := ⟨gb582, 1, none⟩) (Kd.R_far (p := ⟨gb582, 0, none⟩) (Kd.R_types HO564.out BK582.out (by decide)) (fun _ hk => hk.2) (.slice Ao34 t577.length co34)) (fun _ hk => hk.2) (.int .i64 t580)) (fun _ h_ => h_.1))) hb); have n1_ := Aside0.mk (Kd.R_below (by (with_reducible repeat (first | apply Kd.R_alloc | apply Kd.R_drewN | apply Kd.R_drew)); exact (Kd.R_mono (Kd.R_far (p := ⟨gb582, 1, none⟩) (Kd.R_far (p := ⟨gb582, 0, none⟩) (Kd.R_types HO568.out BK582.out (by decide)) (fun _ hk => hk.2) (.slice Ao34 t577.length co34)) (fun _ hk => hk.2) (.int .i64 t580)) (fun _ h_ => h_.1))) hb); have n2_ := Aside0.mk (Kd.R_below (by (with_reducible repeat (first | apply Kd.R_alloc | apply Kd.R_drewN | apply Kd.R_drew)); exact (Kd.R_mono (Kd.R_far (p := ⟨gb582, 1, none⟩) (Kd.R_far (p := ⟨gb582, 0, none⟩) (Kd.R_types HO574.out BK582.out (by decide)) (fun _ hk => hk.2) (.slice Ao34 t577.length co34)) (fun _ hk => hk.2) (.int .i64 t580)) (fun _ h_ => h_.1))) hb); have n3_ := Aside0.mk (Kd.R_below (by (with_reducible repeat (first | apply Kd.R_alloc | apply Kd.R_drewN | apply Kd.R_drew)); exact (Kd.R_mono (Kd.R_far (p := ⟨gb582, 1, none⟩) (Kd.R_far (p := ⟨gb582, 0, none⟩) (Kd.R_types HO579.out BK582.out (by decide)) (fun _ hk => hk.2) (.slice Ao34 t577.length co34)) (fun _ hk => hk.2) (.int .i64 t580)) (fun _ h_ => h_.1))) hb); have n4_ := Aside0.mk (blk_below (g := gb560) (o := .cells #[.slice A0_0 l0_0.length c0_0, .int .i64 a0_1] 24 (0, 0)) (by (with_reducible repeat (first | refine blk_drewN ?_ _ | refine blk_drew ?_ | refine blk_alloc ?_ _)); refine blk_far ?_ NB560_582.out _; (with_reducible repeat (first | refine blk_drewN ?_ _ | refine blk_drew ?_ | refine blk_alloc ?_ _)); refine blk_far ?_ NB560_582.out _; (with_reducible repeat (first | refine blk_drewN ?_ _ | refine blk_drew ?_ | refine blk_alloc ?_ _)); exact BK560.out) hb); have n5_ := Aside0.mk (blk_below (g := gb571) (o := .cells #[.slice Ao22 t566.length co22, .int .i64 t569] 27 (0, 0)) (by (with_reducible repeat (first | refine blk_drewN ?_ _ | refine blk_drew ?_ | refine blk_alloc ?_ _)); refine blk_far ?_ NB571_582.out _; (with_reducible repeat (first | refine blk_drewN ?_ _ | refine blk_drew ?_ | refine blk_alloc ?_ _)); refine blk_far ?_ NB571_582.out _; (with_reducible repeat (first | refine blk_drewN ?_ _ | refine blk_drew ?_ | refine blk_alloc ?_ _)); exact BK571.out) hb); have n6_ := Aside0.mk (blk_below (g := gb576) (o := .cells #[.slice Ao28 t572.length co28, .int .i64 t575] 27 (0, 0)) (by (with_reducible repeat (first | refine blk_drewN ?_ _ | refine blk_drew ?_ | refine blk_alloc ?_ _)); refine blk_far ?_ NB576_582.out _; (with_reducible repeat (first | refine blk_drewN ?_ _ | refine blk_drew ?_ | refine blk_alloc ?_ _)); refine blk_far ?_ NB576_582.out _; (with_reducible repeat (first | refine blk_drewN ?_ _ | refine blk_drew ?_ | refine blk_alloc ?_ _)); exact BK576.out) hb); have n7_ := Aside0.mk (blk_below (g := gb582) (o := .cells #[.slice Ao34 t577.length co34, .int .i64 t580] 27 (0, 0)) (by (with_reducible repeat (first | refine blk_drewN ?_ _ | refine blk_drew ?_ | refine blk_alloc ?_ _)); refine blk_put (cs := #[.slice Ao34 t577.length co34, .int .i64 0]) ?_ 1 _ rfl; (with_reducible repeat (first | refine blk_drewN ?_ _ | refine blk_drew ?_ | refine blk_alloc ?_ _)); refine blk_put (cs := #[.slice none 0 0, .int .i64 0]) ?_ 0 _ rfl; (with_reducible repeat (first | refine blk_drewN ?_ _ | refine blk_drew ?_ | refine blk_alloc ?_ _)); exact BK582.out) hb); have n8_ := Aside0.mk (below_step (by repeat (first | (with_reducible first | exact HB.out | apply below_alloc | apply pw_below_drewN | apply below_drew1 | refine below_set ?_ GE560.out | refine below_set ?_ GE571.out | refine below_set ?_ GE576.out | refine below_set ?_ GE582.out) | exact HB.out)) hb); clear HO564; clear HO568; clear HO574; clear HO579; clear BK560; clear BK571; clear BK576; clear BK582; clear HB; have HO564 := n0_; have HO568 := n1_; have HO574 := n2_; have HO579 := n3_; have BK560 := n4_; have BK571 := n5_; have BK576 := n6_; have BK582 := n7_; have HB := n8_; clear n0_ n1_ n2_ n3_ n4_ n5_ n6_ n7_ n8_; (try clear hb); (try clear hb2); (try clear hk); (try clear hi)))
    go_meet
    case rel => exact ⟨_, ((t581 != t570)), (by first | rfl | (simp; done) | (simp [*]; done)), H', ⟨by first | omega | exact Nat.le_refl _⟩, ⟨by (with_reducible repeat (first | apply Kd.R_alloc | apply Kd.R_drewN | apply Kd.R_drew)); exact Kd.R_mono HO568.out (fun _ hk => ⟨hk.1.2, hk.2⟩)⟩, ⟨by (with_reducible repeat (first | apply Kd.R_alloc | apply Kd.R_drewN | apply Kd.R_drew)); exact Kd.R_mono HO574.out (fun _ hk => ⟨hk.1.2, hk.2⟩)⟩, ⟨by (with_reducible repeat (first | apply Kd.R_alloc | apply Kd.R_drewN | apply Kd.R_drew)); exact Kd.R_mono HO579.out (fun _ hk => ⟨hk.1.2, hk.2⟩)⟩, ⟨by (with_reducible repeat (first | refine blk_drewN ?_ _ | refine blk_drew ?_ | refine blk_alloc ?_ _)); exact BK560.out⟩, ⟨by (with_reducible repeat (first | refine blk_drewN ?_ _ | refine blk_drew ?_ | refine blk_alloc ?_ _)); exact BK571.out⟩, ⟨by (with_reducible repeat (first | refine blk_drewN ?_ _ | refine blk_drew ?_ | refine blk_alloc ?_ _)); exact BK576.out⟩, ⟨by (with_reducible repeat (first | refine blk_drewN ?_ _ | refine blk_drew ?_ | refine blk_alloc ?_ _)); exact BK582.out⟩, ⟨by repeat (first | (with_reducible first | exact HB.out | apply below_alloc | apply pw_below_drewN | apply below_drew1 | refine below_set ?_ GE560.out | refine below_set ?_ GE571.out | refine below_set ?_ GE576.out | refine below_set ?_ GE582.out) | exact HB.out)⟩⟩
   ·replace c40 := Bool.eq_false_iff.mpr c40
    subst c40
    have H1 : (laws_FnExactMixTwo.j0 k a1 a2 t570 t581 true l0_0 a0_1 t566 t569 t572 t575 t577 t580) = some r := by rw [if_neg (show ¬ (false = true) by decide)] at H; exact H
    clear H
    have H := H1
    clear H1
    have H' := Aside0.mk H
    clear H
    have hnb49 := NB582_560.out
    have hnc49 := NB560_582.out
    have hnb50 := NB582_571.out
    have hnc50 := NB571_582.out
    have hnb51 := NB582_576.out
    have hnc51 := NB576_582.out
    have hcz52_0 : w33.cell? ⟨gb582, 0, none⟩ = some (.slice none 0 0) := (blk_cell BK582.out 0).trans rfl
    have hcz52_1 : w33.cell? ⟨gb582, 1, none⟩ = some (.int .i64 0) := (blk_cell BK582.out 1).trans rfl
    have hfz52_0 := blk_frozen BK582.out 0
    have hfz52_1 := blk_frozen BK582.out 1
    have hnb53 := NB571_560.out
    have hnc53 := NB560_571.out
    have hnb54 := NB571_576.out
    have hnc54 := NB576_571.out
    have hcz55_0 : w33.cell? ⟨gb571, 0, none⟩ = some (.slice Ao22 t566.length co22) := (blk_cell BK571.out 0).trans rfl
    have hcz55_1 : w33.cell? ⟨gb571, 1, none⟩ = some (.int .i64 t569) := (blk_cell BK571.out 1).trans rfl
    have hfz55_0 := blk_frozen BK571.out 0
    have hfz55_1 := blk_frozen BK571.out 1
    go_wp2_with (first | ((with_reducible refine gate_callee (f := 20) rfl ?_); refine goesL_ (some 42) rfl rfl Try.func20 (by kernel_rfl) rfl #[.agg #[.slice Ao34 t577.length co34, .int .i64 t580], .agg #[.slice Ao22 t566.length co22, .int .i64 t569]] rfl (by (try simp only [List.map_toArray, List.map_cons, List.map_nil]); first | done | rfl | (simp only [List.length_drop, List.length_take]; rfl)) ?_; (with_reducible refine (laws_eqCups.calls k _ _ t577 t580 _ _ t566 t569 false _ ?side1 ?side2 ?side3 ?side4 A39.out).mono ?_); (case side1 => refine (Kd.R_reads' (e := 3) (base := w.heap.size) (ok := fun k_ => (((True ∧ some k_ ≠ (.slice Ao19 t562.length co19 : Value).ownBlock) ∧ some k_ ≠ (.slice Ao22 t566.length co22 : Value).ownBlock) ∧ some k_ ≠ (.slice Ao28 t572.length co28 : Value).ownBlock)) (n := t577.length) (c := co34) ?_).2.2; exact (by (with_reducible repeat (first | apply Kd.R_alloc | apply Kd.R_drewN | apply Kd.R_drew)); exact (Kd.R_mono (Kd.R_far (p := ⟨gb582, 1, none⟩) (Kd.R_far (p := ⟨gb582, 0, none⟩) (Kd.R_types HO579.out BK582.out (by decide)) (fun _ hk => hk.2) (.slice Ao34 t577.length co34)) (fun _ hk => hk.2) (.int .i64 t580)) (fun _ h_ => h_.1)))); (case side2 => exact (Kd.R_reads' HO579.out).2.1); (case side3 => refine (Kd.R_reads' (e := 3) (base := w.heap.size) (ok := fun k_ => (((True ∧ some k_ ≠ (.slice Ao19 t562.length co19 : Value).ownBlock) ∧ some k_ ≠ (.slice Ao28 t572.length co28 : Value).ownBlock) ∧ some k_ ≠ (.slice Ao34 t577.length co34 : Value).ownBlock)) (n := t566.length) (c := co22) ?_).2.2; exact (by (with_reducible repeat (first | apply Kd.R_alloc | apply Kd.R_drewN | apply Kd.R_drew)); exact (Kd.R_mono (Kd.R_far (p := ⟨gb582, 1, none⟩) (Kd.R_far (p := ⟨gb582, 0, none⟩) (Kd.R_types HO568.out BK582.out (by decide)) (fun _ hk => hk.2) (.slice Ao34 t577.length co34)) (fun _ hk => hk.2) (.int .i64 t580)) (fun _ h_ => h_.1)))); (case side4 => exact (Kd.R_reads' HO568.out).2.1); rintro e w56 ⟨rfl, hb⟩; refine ⟨_, rfl, ?_⟩; have n0_ := Aside0.mk (Kd.R_below (by (with_reducible repeat (first | apply Kd.R_alloc | apply Kd.R_drewN | apply Kd.R_drew)); exact (Kd.R_mono (Kd.R_far (p := ⟨gb582, 1, none⟩) (Kd.R_far (p := ⟨gb582, 0, none⟩) (Kd.R_types HO564.out BK582.out (by decide)) (fun _ hk => hk.2) (.slice Ao34 t577.length co34)) (fun _ hk => hk.2) (.int .i64 t580)) (fun _ h_ => h_.1))) hb); have n1_ := Aside0.mk (Kd.R_below (by (with_reducible repeat (first | apply Kd.R_alloc | apply Kd.R_drewN | apply Kd.R_drew)); exact (Kd.R_mono (Kd.R_far (p := ⟨gb582, 1, none⟩) (Kd.R_far (p := ⟨gb582, 0, none⟩) (Kd.R_types HO568.out BK582.out (by decide)) (fun _ hk => hk.2) (.slice Ao34 t577.length co34)) (fun _ hk => hk.2) (.int .i64 t580)) (fun _ h_ => h_.1))) hb); have n2_ := Aside0.mk (Kd.R_below (by (with_reducible repeat (first | apply Kd.R_alloc | apply Kd.R_drewN | apply Kd.R_drew)); exact (Kd.R_mono (Kd.R_far (p := ⟨gb582, 1, none⟩) (Kd.R_far (p := ⟨gb582, 0, none⟩) (Kd.R_types HO574.out BK582.out (by decide)) (fun _ hk => hk.2) (.slice Ao34 t577.length co34)) (fun _ hk => hk.2) (.int .i64 t580)) (fun _ h_ => h_.1))) hb); have n3_ := Aside0.mk (Kd.R_below (by (with_reducible repeat (first | apply Kd.R_alloc | apply Kd.R_drewN | apply Kd.R_drew)); exact (Kd.R_mono (Kd.R_far (p := ⟨gb582, 1, none⟩) (Kd.R_far (p := ⟨gb582, 0, none⟩) (Kd.R_types HO579.out BK582.out (by decide)) (fun _ hk => hk.2) (.slice Ao34 t577.length co34)) (fun _ hk => hk.2) (.int .i64 t580)) (fun _ h_ => h_.1))) hb); have n4_ := Aside0.mk (blk_below (g := gb560) (o := .cells #[.slice A0_0 l0_0.length c0_0, .int .i64 a0_1] 24 (0, 0)) (by (with_reducible repeat (first | refine blk_drewN ?_ _ | refine blk_drew ?_ | refine blk_alloc ?_ _)); refine blk_far ?_ NB560_582.out _; (with_reducible repeat (first | refine blk_drewN ?_ _ | refine blk_drew ?_ | refine blk_alloc ?_ _)); refine blk_far ?_ NB560_582.out _; (with_reducible repeat (first | refine blk_drewN ?_ _ | refine blk_drew ?_ | refine blk_alloc ?_ _)); exact BK560.out) hb); have n5_ := Aside0.mk (blk_below (g := gb571) (o := .cells #[.slice Ao22 t566.length co22, .int .i64 t569] 27 (0, 0)) (by (with_reducible repeat (first | refine blk_drewN ?_ _ | refine blk_drew ?_ | refine blk_alloc ?_ _)); refine blk_far ?_ NB571_582.out _; (with_reducible repeat (first | refine blk_drewN ?_ _ | refine blk_drew ?_ | refine blk_alloc ?_ _)); refine blk_far ?_ NB571_582.out _; (with_reducible repeat (first | refine blk_drewN ?_ _ | refine blk_drew ?_ | refine blk_alloc ?_ _)); exact BK571.out) hb); have n6_ := Aside0.mk (blk_below (g := gb576) (o := .cells #[.slice Ao28 t572.length co28, .int .i64 t575] 27 (0, 0)) (by (with_reducible repeat (first | refine blk_drewN ?_ _ | refine blk_drew ?_ | refine blk_alloc ?_ _)); refine blk_far ?_ NB576_582.out _; (with_reducible repeat (first | refine blk_drewN ?_ _ | refine blk_drew ?_ | refine blk_alloc ?_ _)); refine blk_far ?_ NB576_582.out _; (with_reducible repeat (first | refine blk_drewN ?_ _ | refine blk_drew ?_ | refine blk_alloc ?_ _)); exact BK576.out) hb); have n7_ := Aside0.mk (blk_below (g := gb582) (o := .cells #[.slice Ao34 t577.length co34, .int .i64 t580] 27 (0, 0)) (by (with_reducible repeat (first | refine blk_drewN ?_ _ | refine blk_drew ?_ | refine blk_alloc ?_ _)); refine blk_put (cs := #[.slice Ao34 t577.length co34, .int .i64 0]) ?_ 1 _ rfl; (with_reducible repeat (first | refine blk_drewN ?_ _ | refine blk_drew ?_ | refine blk_alloc ?_ _)); refine blk_put (cs := #[.slice none 0 0, .int .i64 0]) ?_ 0 _ rfl; (with_reducible repeat (first | refine blk_drewN ?_ _ | refine blk_drew ?_ | refine blk_alloc ?_ _)); exact BK582.out) hb); have n8_ := Aside0.mk (below_step (by repeat (first | (with_reducible first | exact HB.out | apply below_alloc | apply pw_below_drewN | apply below_drew1 | refine below_set ?_ GE560.out | refine below_set ?_ GE571.out | refine below_set ?_ GE576.out | refine below_set ?_ GE582.out) | exact HB.out)) hb); clear HO564; clear HO568; clear HO574; clear HO579; clear BK560; clear BK571; clear BK576; clear BK582; clear HB; have HO564 := n0_; have HO568 := n1_; have HO574 := n2_; have HO579 := n3_; have BK560 := n4_; have BK571 := n5_; have BK576 := n6_; have BK582 := n7_; have HB := n8_; clear n0_ n1_ n2_ n3_ n4_ n5_ n6_ n7_ n8_; (try clear hb); (try clear hb2); (try clear hk); (try clear hi)))
    go_meet
    case rel => exact ⟨_, (true), (by first | rfl | (simp; done) | (simp [*]; done)), H', ⟨by first | omega | exact Nat.le_refl _⟩, ⟨by (with_reducible repeat (first | apply Kd.R_alloc | apply Kd.R_drewN | apply Kd.R_drew)); exact Kd.R_mono HO568.out (fun _ hk => ⟨hk.1.2, hk.2⟩)⟩, ⟨by (with_reducible repeat (first | apply Kd.R_alloc | apply Kd.R_drewN | apply Kd.R_drew)); exact Kd.R_mono HO574.out (fun _ hk => ⟨hk.1.2, hk.2⟩)⟩, ⟨by (with_reducible repeat (first | apply Kd.R_alloc | apply Kd.R_drewN | apply Kd.R_drew)); exact Kd.R_mono HO579.out (fun _ hk => ⟨hk.1.2, hk.2⟩)⟩, ⟨by (with_reducible repeat (first | refine blk_drewN ?_ _ | refine blk_drew ?_ | refine blk_alloc ?_ _)); exact BK560.out⟩, ⟨by (with_reducible repeat (first | refine blk_drewN ?_ _ | refine blk_drew ?_ | refine blk_alloc ?_ _)); exact BK571.out⟩, ⟨by (with_reducible repeat (first | refine blk_drewN ?_ _ | refine blk_drew ?_ | refine blk_alloc ?_ _)); exact BK576.out⟩, ⟨by (with_reducible repeat (first | refine blk_drewN ?_ _ | refine blk_drew ?_ | refine blk_alloc ?_ _)); exact BK582.out⟩, ⟨by repeat (first | (with_reducible first | exact HB.out | apply below_alloc | apply pw_below_drewN | apply below_drew1 | refine below_set ?_ GE560.out | refine below_set ?_ GE571.out | refine below_set ?_ GE576.out | refine below_set ?_ GE582.out) | exact HB.out)⟩⟩
  case rest =>
   clear HC13
   try clear c1
   try clear c2
   try clear p2
   try clear c3
   try clear c4
   try clear c5
   try clear c5b0
   try clear c11
   try clear c16
   try clear c18
   try clear c20
   try clear c23
   try clear c29
   try clear c30
   try clear c35
   try clear c36
   try clear c37
   try clear c40
   try clear c41
   try clear c42
   try clear c43
   try clear c44
   try clear c45
   try clear c46
   try clear c49
   try clear c50
   try clear c51
   try clear c53
   try clear c54
   try clear hcz15_0
   try clear hcz15_1
   try clear hcz17_0
   try clear hcz17_1
   try clear hcz24_0
   try clear hcz24_1
   try clear hcz25_0
   try clear hcz25_1
   try clear hcz31_0
   try clear hcz31_1
   try clear hcz38_0
   try clear hcz38_1
   try clear hcz44_0
   try clear hcz44_1
   try clear hcz47_0
   try clear hcz47_1
   try clear hcz52_0
   try clear hcz52_1
   try clear hcz55_0
   try clear hcz55_1
   try clear hcz7_0
   try clear hcz7_1
   try clear hfz15_0
   try clear hfz15_1
   try clear hfz17_0
   try clear hfz17_1
   try clear hfz24_0
   try clear hfz24_1
   try clear hfz25_0
   try clear hfz25_1
   try clear hfz31_0
   try clear hfz31_1
   try clear hfz38_0
   try clear hfz38_1
   try clear hfz44_0
   try clear hfz44_1
   try clear hfz47_0
   try clear hfz47_1
   try clear hfz52_0
   try clear hfz52_1
   try clear hfz55_0
   try clear hfz55_1
   try clear hfz7_0
   try clear hfz7_1
   obtain ⟨kq, x48_12, rfl, HA, HJ12, HO_572000, HO_577000, HO_583000, BK560, BK571, BK576, BK582, HB⟩ := hcut
   cases kq with
   | zero => exact absurd HA.out (by simp [laws_FnExactMixTwo.j0])
   | succ kj12 =>
    have H := HA.out
    clear HA
    simp only [laws_FnExactMixTwo.j0] at H
    by_cases c57 : x48_12 = true
    ·subst c57
     have H1 : (some false) = some r := by rw [if_pos rfl] at H; exact H
     clear H
     have H := H1
     clear H1
     obtain rfl := Option.some.inj H
     go_wp2
     go_ret
     exact ⟨by first | rfl | (simp [errW_none, errW_some] <;> rfl) | (simp [*, errW_none, errW_some] <;> rfl), by repeat (first | (with_reducible first | exact HB.out | apply below_alloc | apply pw_below_drewN | apply below_drew1 | refine below_set ?_ GE560.out | refine below_set ?_ GE571.out | refine below_set ?_ GE576.out | refine below_set ?_ GE582.out) | exact HB.out)⟩
    ·replace c57 := Bool.eq_false_iff.mpr c57
     subst c57
     have H1 : ((laws_toCups.f kj12 l0_0 a0_1).bind fun bt584 => ((laws_eqCups.f kj12 t572 t575 bt584.1 bt584.2).bind fun t588 => (if t588 = true then ((laws_markCups.f kj12 t572 t575 1).bind fun bt589 => (if bt589.1 < 0 then (laws_FnExactMixTwo.j1 kj12 a1 a2 t570 true l0_0 a0_1 t566 t569 t577 t580) else ((laws_eqCups.f kj12 t577 t580 t566 t569).bind fun t591 => (if t591 = true then (laws_FnExactMixTwo.j1 kj12 a1 a2 t570 (t581 != t570) l0_0 a0_1 t566 t569 t577 t580) else (laws_FnExactMixTwo.j1 kj12 a1 a2 t570 true l0_0 a0_1 t566 t569 t577 t580))))) else (some false)))) = some r := by rw [if_neg (show ¬ (false = true) by decide)] at H; exact H
     clear H
     have H := H1
     clear H1
     replace H := Option.bind_eq_some_iff.mp H
     obtain ⟨⟨t584, t587⟩, A580, H⟩ := H
     replace H : ((laws_eqCups.f kj12 t572 t575 t584 t587).bind fun t588 => (if t588 = true then ((laws_markCups.f kj12 t572 t575 1).bind fun bt589 => (if bt589.1 < 0 then (laws_FnExactMixTwo.j1 kj12 a1 a2 t570 true l0_0 a0_1 t566 t569 t577 t580) else ((laws_eqCups.f kj12 t577 t580 t566 t569).bind fun t591 => (if t591 = true then (laws_FnExactMixTwo.j1 kj12 a1 a2 t570 (t581 != t570) l0_0 a0_1 t566 t569 t577 t580) else (laws_FnExactMixTwo.j1 kj12 a1 a2 t570 true l0_0 a0_1 t566 t569 t577 t580))))) else (some false))) = some r := H
     have A58 := Aside0.mk A580
     clear A580
     replace H := Option.bind_eq_some_iff.mp H
     obtain ⟨t588, A590, H⟩ := H
     replace H : (if t588 = true then ((laws_markCups.f kj12 t572 t575 1).bind fun bt589 => (if bt589.1 < 0 then (laws_FnExactMixTwo.j1 kj12 a1 a2 t570 true l0_0 a0_1 t566 t569 t577 t580) else ((laws_eqCups.f kj12 t577 t580 t566 t569).bind fun t591 => (if t591 = true then (laws_FnExactMixTwo.j1 kj12 a1 a2 t570 (t581 != t570) l0_0 a0_1 t566 t569 t577 t580) else (laws_FnExactMixTwo.j1 kj12 a1 a2 t570 true l0_0 a0_1 t566 t569 t577 t580))))) else (some false)) = some r := H
     have A59 := Aside0.mk A590
     clear A590
     by_cases c60 : t588 = true
     ·subst c60
      have H1 : ((laws_markCups.f kj12 t572 t575 1).bind fun bt589 => (if bt589.1 < 0 then (laws_FnExactMixTwo.j1 kj12 a1 a2 t570 true l0_0 a0_1 t566 t569 t577 t580) else ((laws_eqCups.f kj12 t577 t580 t566 t569).bind fun t591 => (if t591 = true then (laws_FnExactMixTwo.j1 kj12 a1 a2 t570 (t581 != t570) l0_0 a0_1 t566 t569 t577 t580) else (laws_FnExactMixTwo.j1 kj12 a1 a2 t570 true l0_0 a0_1 t566 t569 t577 t580))))) = some r := by rw [if_pos rfl] at H; exact H
      clear H
      have H := H1
      clear H1
      replace H := Option.bind_eq_some_iff.mp H
      obtain ⟨⟨t589, t590⟩, A610, H⟩ := H
      replace H : (if t589 < 0 then (laws_FnExactMixTwo.j1 kj12 a1 a2 t570 true l0_0 a0_1 t566 t569 t577 t580) else ((laws_eqCups.f kj12 t577 t580 t566 t569).bind fun t591 => (if t591 = true then (laws_FnExactMixTwo.j1 kj12 a1 a2 t570 (t581 != t570) l0_0 a0_1 t566 t569 t577 t580) else (laws_FnExactMixTwo.j1 kj12 a1 a2 t570 true l0_0 a0_1 t566 t569 t577 t580)))) = some r := H
      have A61 := Aside0.mk A610
      clear A610
      have HC62 := Aside0.mk H
      clear H
      try go_wp2
      have n0_ := Aside0.mk (Kd.R_drew HO_572000.out)
      have n1_ := Aside0.mk (Kd.R_drew HO_577000.out)
      have n2_ := Aside0.mk (Kd.R_drew HO_583000.out)
      have n3_ := Aside0.mk (blk_drew BK560.out)
      have n4_ := Aside0.mk (blk_drew BK571.out)
      have n5_ := Aside0.mk (blk_drew BK576.out)
      have n6_ := Aside0.mk (blk_drew BK582.out)
      have n7_ := Aside0.mk (below_drew1 HB.out)
      clear HO_572000
      clear HO_577000
      clear HO_583000
      clear BK560
      clear BK571
      clear BK576
      clear BK582
      clear HB
      have HO_572000 := n0_
      have HO_577000 := n1_
      have HO_583000 := n2_
      have BK560 := n3_
      have BK571 := n4_
      have BK576 := n5_
      have BK582 := n6_
      have HB := n7_
      clear n0_ n1_ n2_ n3_ n4_ n5_ n6_ n7_
      refine start_ (n := 5) (S := fun w' => w'.cell? ⟨gb576, 0, none⟩ = some (.slice Ao28 t572.length co28) ∧ w'.cell? ⟨gb576, 1, none⟩ = some (.int .i64 t575) ∧ w'.cell? ⟨gb560, 0, none⟩ = some (.slice A0_0 l0_0.length c0_0) ∧ w'.cell? ⟨gb560, 1, none⟩ = some (.int .i64 a0_1)) (ds := []) #[false, false, false, false, false] (by kernel_rfl) rfl rfl ⟨(blk_cell BK576.out 0).trans rfl, (blk_cell BK576.out 1).trans rfl, (blk_cell BK560.out 0).trans rfl, (blk_cell BK560.out 1).trans rfl⟩ (fun hHeld => ?_)
      generalize wc.drew = w63 at HO_572000 HO_577000 HO_583000 BK560 BK571 BK576 BK582 HB hHeld ⊢
      refine take_ (i := 0) (N := some 49) (v := ?_) (a' := ?_) #[true, false, false, false, false] rfl rfl (by kernel_rfl) (fun _ _ _ h => h) (Or.inl ⟨by rfl, ?_⟩) hHeld ?_ ?_
      rotate_left
      ·rintro w' ⟨s0, s1, s2, s3⟩
       go_simp
       with_reducible rfl
      rotate_left
      ·simp only [Act.put, List.setIfInBounds_toArray, List.set_cons_zero, List.set_cons_succ, i64_w, i32_w]
       rfl
      refine take_ (i := 1) (N := some 50) (v := ?_) (a' := ?_) #[true, true, false, false, false] rfl rfl (by kernel_rfl) (fun _ _ _ h => h) (Or.inl ⟨by rfl, ?_⟩) hHeld ?_ ?_
      rotate_left
      ·rintro w' ⟨s0, s1, s2, s3⟩
       go_simp
       with_reducible rfl
      rotate_left
      ·simp only [Act.put, List.setIfInBounds_toArray, List.set_cons_zero, List.set_cons_succ, i64_w, i32_w]
       rfl
      refine one_ (i := 2) (N := some 51) #[true, true, true, false, false] rfl rfl (by kernel_rfl) (by decide) (fun K hK => ?_)
      refine goes_ Try.func18 (by kernel_rfl) rfl #[.agg #[.slice A0_0 l0_0.length c0_0, .int .i64 a0_1]] (by rfl) rfl rfl (by (try simp only [List.map_toArray, List.map_cons, List.map_nil]); first | done | rfl | (simp only [List.length_drop, List.length_take]; rfl)) ?_
      with_reducible refine (laws_toCups.calls kj12 _ _ l0_0 a0_1 t584 t587 _ ?side1 ?side2 A58.out).mono ?_
      (case side1 => repeat (first | exact (Kd.C_below HR0_0.out HB.out) | (with_reducible refine Kd.C_alloc ?_ _) | (with_reducible refine Kd.C_drewN ?_ _) | (with_reducible refine Kd.C_drew ?_)))
      (case side2 => exact HC0_0.out)
      rintro e w64 ⟨v585, rfl, ho0, hb⟩
      refine ⟨_, rfl, ?_⟩
      have n0_ := Aside0.mk (Kd.R_elder' (by (with_reducible repeat (first | apply Kd.R_alloc | apply Kd.R_drewN | apply Kd.R_drew)); exact HO_572000.out) (Kd.R_base ho0) hb)
      have n1_ := Aside0.mk (Kd.R_elder' (by (with_reducible repeat (first | apply Kd.R_alloc | apply Kd.R_drewN | apply Kd.R_drew)); exact HO_577000.out) (Kd.R_base ho0) hb)
      have n2_ := Aside0.mk (Kd.R_elder' (by (with_reducible repeat (first | apply Kd.R_alloc | apply Kd.R_drewN | apply Kd.R_drew)); exact HO_583000.out) (Kd.R_base ho0) hb)
      have n3_ := Aside0.mk (Kd.R_lower (Kd.R_new' (Kd.R_new' (Kd.R_new' ho0 (Kd.R_lt (by (with_reducible repeat (first | apply Kd.R_alloc | apply Kd.R_drewN | apply Kd.R_drew)); exact HO_572000.out))) (Kd.R_lt (by (with_reducible repeat (first | apply Kd.R_alloc | apply Kd.R_drewN | apply Kd.R_drew)); exact HO_577000.out))) (Kd.R_lt (by (with_reducible repeat (first | apply Kd.R_alloc | apply Kd.R_drewN | apply Kd.R_drew)); exact HO_583000.out))) (below_size (by repeat (first | (with_reducible first | exact HB.out | apply below_alloc | apply pw_below_drewN | apply below_drew1 | refine below_set ?_ GE560.out | refine below_set ?_ GE571.out | refine below_set ?_ GE576.out | refine below_set ?_ GE582.out) | exact HB.out))))
      have n4_ := Aside0.mk (blk_below (g := gb560) (o := .cells #[.slice A0_0 l0_0.length c0_0, .int .i64 a0_1] 24 (0, 0)) (by (with_reducible repeat (first | refine blk_drewN ?_ _ | refine blk_drew ?_ | refine blk_alloc ?_ _)); exact BK560.out) hb)
      have n5_ := Aside0.mk (blk_below (g := gb571) (o := .cells #[.slice Ao22 t566.length co22, .int .i64 t569] 27 (0, 0)) (by (with_reducible repeat (first | refine blk_drewN ?_ _ | refine blk_drew ?_ | refine blk_alloc ?_ _)); exact BK571.out) hb)
      have n6_ := Aside0.mk (blk_below (g := gb576) (o := .cells #[.slice Ao28 t572.length co28, .int .i64 t575] 27 (0, 0)) (by (with_reducible repeat (first | refine blk_drewN ?_ _ | refine blk_drew ?_ | refine blk_alloc ?_ _)); exact BK576.out) hb)
      have n7_ := Aside0.mk (blk_below (g := gb582) (o := .cells #[.slice Ao34 t577.length co34, .int .i64 t580] 27 (0, 0)) (by (with_reducible repeat (first | refine blk_drewN ?_ _ | refine blk_drew ?_ | refine blk_alloc ?_ _)); exact BK582.out) hb)
      have n8_ := Aside0.mk (below_step (by repeat (first | (with_reducible first | exact HB.out | apply below_alloc | apply pw_below_drewN | apply below_drew1 | refine below_set ?_ GE560.out | refine below_set ?_ GE571.out | refine below_set ?_ GE576.out | refine below_set ?_ GE582.out) | exact HB.out)) hb)
      clear HO_572000
      clear HO_577000
      clear HO_583000
      clear BK560
      clear BK571
      clear BK576
      clear BK582
      clear HB
      have HO_572000 := n0_
      have HO_577000 := n1_
      have HO_583000 := n2_
      have HO586 := n3_
      have BK560 := n4_
      have BK571 := n5_
      have BK576 := n6_
      have BK582 := n7_
      have HB := n8_
      clear n0_ n1_ n2_ n3_ n4_ n5_ n6_ n7_ n8_
      (try clear hb)
      (try clear hb2)
      (try clear hk)
      (try clear hi)
      (try clear ho0)
      obtain ⟨Ao65, co65, eo65⟩ := Kd.R_slice HO586.out
      (first | subst eo65 | (injection eo65 with f1_ f2_ f3_; have f4_ := f1_.symm; have f5_ := f3_.symm; clear f1_ f2_ f3_; subst f4_; subst f5_))
      refine hK.out _ _ ⟨(blk_cell BK576.out 0).trans rfl, (blk_cell BK576.out 1).trans rfl, (blk_cell BK560.out 0).trans rfl, (blk_cell BK560.out 1).trans rfl⟩ (fun hHeld => ?_)
      clear hK K
      refine norm_ (a' := ?_) ?_ ?_
      rotate_left
      ·show Act.put _ (some 51) _ = _
       simp only [Act.put, List.setIfInBounds_toArray, List.set_cons_zero, List.set_cons_succ, i64_w, i32_w]
       rfl
      refine one_ (i := 3) (N := some 52) #[true, true, true, true, false] rfl rfl (by kernel_rfl) (by decide) (fun K hK => ?_)
      refine goes_ Try.func20 (by kernel_rfl) rfl #[.agg #[.slice Ao28 t572.length co28, .int .i64 t575], .agg #[.slice Ao65 t584.length co65, .int .i64 t587]] (by rfl) rfl rfl (by (try simp only [List.map_toArray, List.map_cons, List.map_nil]); first | done | rfl | (simp only [List.length_drop, List.length_take]; rfl)) ?_
      with_reducible refine (laws_eqCups.calls kj12 _ _ t572 t575 _ _ t584 t587 true _ ?side1 ?side2 ?side3 ?side4 A59.out).mono ?_
      (case side1 => repeat (first | exact (Kd.R_reads' HO_577000.out).2.2 | (with_reducible refine Kd.C_alloc ?_ _) | (with_reducible refine Kd.C_drewN ?_ _) | (with_reducible refine Kd.C_drew ?_)))
      (case side2 => exact (Kd.R_reads' HO_577000.out).2.1)
      (case side3 => repeat (first | exact (Kd.R_reads' HO586.out).2.2 | (with_reducible refine Kd.C_alloc ?_ _) | (with_reducible refine Kd.C_drewN ?_ _) | (with_reducible refine Kd.C_drew ?_)))
      (case side4 => exact (Kd.R_reads' HO586.out).2.1)
      rintro e w66 ⟨rfl, hb⟩
      refine ⟨_, rfl, ?_⟩
      have n0_ := Aside0.mk (Kd.R_below (by (with_reducible repeat (first | apply Kd.R_alloc | apply Kd.R_drewN | apply Kd.R_drew)); exact HO_572000.out) hb)
      have n1_ := Aside0.mk (Kd.R_below (by (with_reducible repeat (first | apply Kd.R_alloc | apply Kd.R_drewN | apply Kd.R_drew)); exact HO_577000.out) hb)
      have n2_ := Aside0.mk (Kd.R_below (by (with_reducible repeat (first | apply Kd.R_alloc | apply Kd.R_drewN | apply Kd.R_drew)); exact HO_583000.out) hb)
      have n3_ := Aside0.mk (Kd.R_below (by (with_reducible repeat (first | apply Kd.R_alloc | apply Kd.R_drewN | apply Kd.R_drew)); exact HO586.out) hb)
      have n4_ := Aside0.mk (blk_below (g := gb560) (o := .cells #[.slice A0_0 l0_0.length c0_0, .int .i64 a0_1] 24 (0, 0)) (by (with_reducible repeat (first | refine blk_drewN ?_ _ | refine blk_drew ?_ | refine blk_alloc ?_ _)); exact BK560.out) hb)
      have n5_ := Aside0.mk (blk_below (g := gb571) (o := .cells #[.slice Ao22 t566.length co22, .int .i64 t569] 27 (0, 0)) (by (with_reducible repeat (first | refine blk_drewN ?_ _ | refine blk_drew ?_ | refine blk_alloc ?_ _)); exact BK571.out) hb)
      have n6_ := Aside0.mk (blk_below (g := gb576) (o := .cells #[.slice Ao28 t572.length co28, .int .i64 t575] 27 (0, 0)) (by (with_reducible repeat (first | refine blk_drewN ?_ _ | refine blk_drew ?_ | refine blk_alloc ?_ _)); exact BK576.out) hb)
      have n7_ := Aside0.mk (blk_below (g := gb582) (o := .cells #[.slice Ao34 t577.length co34, .int .i64 t580] 27 (0, 0)) (by (with_reducible repeat (first | refine blk_drewN ?_ _ | refine blk_drew ?_ | refine blk_alloc ?_ _)); exact BK582.out) hb)
      have n8_ := Aside0.mk (below_step (by repeat (first | (with_reducible first | exact HB.out | apply below_alloc | apply pw_below_drewN | apply below_drew1 | refine below_set ?_ GE560.out | refine below_set ?_ GE571.out | refine below_set ?_ GE576.out | refine below_set ?_ GE582.out) | exact HB.out)) hb)
      clear HO_572000
      clear HO_577000
      clear HO_583000
      clear HO586
      clear BK560
      clear BK571
      clear BK576
      clear BK582
      clear HB
      have HO_572000 := n0_
      have HO_577000 := n1_
      have HO_583000 := n2_
      have HO586 := n3_
      have BK560 := n4_
      have BK571 := n5_
      have BK576 := n6_
      have BK582 := n7_
      have HB := n8_
      clear n0_ n1_ n2_ n3_ n4_ n5_ n6_ n7_ n8_
      (try clear hb)
      (try clear hb2)
      (try clear hk)
      (try clear hi)
      refine hK.out _ _ ⟨(blk_cell BK576.out 0).trans rfl, (blk_cell BK576.out 1).trans rfl, (blk_cell BK560.out 0).trans rfl, (blk_cell BK560.out 1).trans rfl⟩ (fun hHeld => ?_)
      clear hK K
      refine norm_ (a' := ?_) ?_ ?_
      rotate_left
      ·show Act.put _ (some 52) _ = _
       simp only [Act.put, List.setIfInBounds_toArray, List.set_cons_zero, List.set_cons_succ, i64_w, i32_w]
       rfl
      refine pure_ (i := 4) (N := some 53) (v := ?_) (a' := ?_) #[true, true, true, true, true] rfl rfl (by kernel_rfl) (fun _ _ _ h => h) (Or.inl ⟨by rfl, ?_⟩) ?_ ?_
      rotate_left
      ·intro w'
       go_simp
       with_reducible rfl
      rotate_left
      ·simp only [Act.put, List.setIfInBounds_toArray, List.set_cons_zero, List.set_cons_succ, i64_w, i32_w]
       rfl
      refine done_ (by kernel_rfl) ?_
      have hnb67 := NB576_560.out
      have hnc67 := NB560_576.out
      have hnb68 := NB576_571.out
      have hnc68 := NB571_576.out
      have hnb69 := NB576_582.out
      have hnc69 := NB582_576.out
      have hcz70_0 : w66.cell? ⟨gb576, 0, none⟩ = some (.slice Ao28 t572.length co28) := (blk_cell BK576.out 0).trans rfl
      have hcz70_1 : w66.cell? ⟨gb576, 1, none⟩ = some (.int .i64 t575) := (blk_cell BK576.out 1).trans rfl
      have hfz70_0 := blk_frozen BK576.out 0
      have hfz70_1 := blk_frozen BK576.out 1
      go_upto_region 14 with (first | ((with_reducible refine gate_callee (f := 26) rfl ?_); refine goesL_ (some 56) rfl rfl Try.func26 (by kernel_rfl) rfl #[.agg #[.slice Ao28 t572.length co28, .int .i64 t575], .int .i64 1] rfl (by (try simp only [List.map_toArray, List.map_cons, List.map_nil]); first | done | rfl | (simp only [List.length_drop, List.length_take]; rfl)) ?_; (with_reducible refine (laws_markCups.calls kj12 (fun k_ => some k_ = (.slice Ao28 t572.length co28 : Value).ownBlock) (.slice Ao28 t572.length co28) t572 t575 1 t589 t590 w _ ?side1 ?side2 A61.out).mono ?_); (case side1 => repeat (first | (with_reducible first | exact HB.out | apply below_alloc | apply pw_below_drewN | apply below_drew1 | refine below_set ?_ GE560.out | refine below_set ?_ GE571.out | refine below_set ?_ GE576.out | refine below_set ?_ GE582.out) | exact HB.out)); (case side2 => exact Kd.R_tight rfl HO_577000.out); rintro e w71 ⟨rfl, hy0, hb, hkp⟩; refine ⟨_, rfl, ?_⟩; have n0_ := Aside0.mk (Kd.R_mono (ok' := fun k_ => some k_ ≠ (.slice Ao28 t572.length co28 : Value).ownBlock ∧ some k_ ≠ (.slice Ao34 t577.length co34 : Value).ownBlock ∧ some k_ ≠ (.slice Ao65 t584.length co65 : Value).ownBlock) (Kd.R_keptB (HO_572000.out) hkp (fun k_ hk_ hs_ => (hk_.1.1) hs_)) (fun k_ hk_ => ⟨hk_.1.1.1, hk_.1.1.2, hk_.1.2⟩)); have n1_ := Aside0.mk (Kd.R_reok rfl hy0 (fun k_ e_ => HO_577000.out.1 k_ e_)); have n2_ := Aside0.mk (Kd.R_mono (ok' := fun k_ => some k_ ≠ (.slice Ao22 t566.length co22 : Value).ownBlock ∧ some k_ ≠ (.slice Ao28 t572.length co28 : Value).ownBlock ∧ some k_ ≠ (.slice Ao65 t584.length co65 : Value).ownBlock) (Kd.R_keptB (HO_583000.out) hkp (fun k_ hk_ hs_ => (hk_.1.2) hs_)) (fun k_ hk_ => ⟨hk_.1.1.1, hk_.1.1.2, hk_.1.2⟩)); have n3_ := Aside0.mk (blk_kept (by (with_reducible repeat (first | refine blk_drewN ?_ _ | refine blk_drew ?_ | refine blk_alloc ?_ _)); exact BK560.out) hkp (fun hs_ => (fun e_ => (Kd.R_ne HO_577000.out BK560.out (by decide)) e_) hs_)); have n4_ := Aside0.mk (blk_kept (by (with_reducible repeat (first | refine blk_drewN ?_ _ | refine blk_drew ?_ | refine blk_alloc ?_ _)); exact BK571.out) hkp (fun hs_ => (fun e_ => (Kd.R_ne HO_577000.out BK571.out (by decide)) e_) hs_)); have n5_ := Aside0.mk (blk_kept (by (with_reducible repeat (first | refine blk_drewN ?_ _ | refine blk_drew ?_ | refine blk_alloc ?_ _)); exact BK576.out) hkp (fun hs_ => (fun e_ => (Kd.R_ne HO_577000.out BK576.out (by decide)) e_) hs_)); have n6_ := Aside0.mk (blk_kept (by (with_reducible repeat (first | refine blk_drewN ?_ _ | refine blk_drew ?_ | refine blk_alloc ?_ _)); exact BK582.out) hkp (fun hs_ => (fun e_ => (Kd.R_ne HO_577000.out BK582.out (by decide)) e_) hs_)); have n7_ := Aside0.mk (Kd.R_mono (ok' := fun k_ => some k_ ≠ (.slice Ao22 t566.length co22 : Value).ownBlock ∧ some k_ ≠ (.slice Ao28 t572.length co28 : Value).ownBlock ∧ some k_ ≠ (.slice Ao34 t577.length co34 : Value).ownBlock) (Kd.R_keptB (HO586.out) hkp (fun k_ hk_ hs_ => (hk_.1.2) hs_)) (fun k_ hk_ => ⟨hk_.1.1.1.2, hk_.1.1.2, hk_.1.2⟩)); have n8_ := Aside0.mk (hb); clear HO_572000; clear HO_577000; clear HO_583000; clear BK560; clear BK571; clear BK576; clear BK582; clear HO586; clear HB; have HO_572000 := n0_; have HO_577000 := n1_; have HO_583000 := n2_; have BK560 := n3_; have BK571 := n4_; have BK576 := n5_; have BK582 := n6_; have HO586 := n7_; have HB := n8_; clear n0_ n1_ n2_ n3_ n4_ n5_ n6_ n7_ n8_; (try clear hb); (try clear hkp); (try clear hy0)))
      (try simp only [Act.put, List.setIfInBounds_toArray, List.set_cons_zero, List.set_cons_succ])
      go_cut [69] (fun v69 wc => ∃ (kq : Nat) (x69_61 : Bool), v69 = .bool x69_61 ∧ Aside0 (laws_FnExactMixTwo.j1 kq a1 a2 t570 x69_61 l0_0 a0_1 t566 t569 t577 t580 = some r) ∧ Aside0 (kq ≤ kj12) ∧ Aside0 (Kd.R (Kd.int .i64) 3 wc w.heap.size (fun k_ => some k_ ≠ ((.slice Ao28 t572.length co28) : Value).ownBlock ∧ some k_ ≠ ((.slice Ao34 t577.length co34) : Value).ownBlock) (.slice Ao22 t566.length co22) t566) ∧ Aside0 (Kd.R (Kd.int .i64) 3 wc w.heap.size (fun k_ => some k_ ≠ ((.slice Ao22 t566.length co22) : Value).ownBlock ∧ some k_ ≠ ((.slice Ao34 t577.length co34) : Value).ownBlock) (.slice Ao28 t572.length co28) t590) ∧ Aside0 (Kd.R (Kd.int .i64) 3 wc w.heap.size (fun k_ => some k_ ≠ ((.slice Ao22 t566.length co22) : Value).ownBlock ∧ some k_ ≠ ((.slice Ao28 t572.length co28) : Value).ownBlock) (.slice Ao34 t577.length co34) t577) ∧ Aside0 (wc.heap[gb560]? = some (.cells #[(.slice A0_0 l0_0.length c0_0), .int .i64 a0_1] 24 (0, 0))) ∧ Aside0 (wc.heap[gb571]? = some (.cells #[(.slice Ao22 t566.length co22), .int .i64 t569] 27 (0, 0))) ∧ Aside0 (wc.heap[gb576]? = some (.cells #[(.slice Ao28 t572.length co28), .int .i64 t575] 27 (0, 0))) ∧ Aside0 (wc.heap[gb582]? = some (.cells #[(.slice Ao34 t577.length co34), .int .i64 t580] 27 (0, 0))) ∧ Aside0 (Below w.heap.size w wc))
      case first =>
       have H := HC62.out
       clear HC62
       by_cases c72 : t589 < 0
       ·rw [if_pos c72] at H
        have c72b0 : decide (t589 < 0) = true := decide_eq_true c72
        clear c72
        (first | rw [c72b0] | (simp only [i64_w, i32_w]; rw [c72b0]) | skip)
        have H' := Aside0.mk H
        clear H
        go_wp2
        go_meet
        case rel => exact ⟨_, (true), (by first | rfl | (simp; done) | (simp [*]; done)), H', ⟨by have := HJ12.out; first | omega | exact Nat.le_refl _⟩, ⟨by (with_reducible repeat (first | apply Kd.R_alloc | apply Kd.R_drewN | apply Kd.R_drew)); exact Kd.R_mono HO_572000.out (fun _ hk => ⟨hk.1, hk.2.1⟩)⟩, ⟨by (with_reducible repeat (first | apply Kd.R_alloc | apply Kd.R_drewN | apply Kd.R_drew)); exact Kd.R_mono HO_577000.out (fun _ hk => ⟨hk.1.1, hk.1.2⟩)⟩, ⟨by (with_reducible repeat (first | apply Kd.R_alloc | apply Kd.R_drewN | apply Kd.R_drew)); exact Kd.R_mono HO_583000.out (fun _ hk => ⟨hk.1, hk.2.1⟩)⟩, ⟨by (with_reducible repeat (first | refine blk_drewN ?_ _ | refine blk_drew ?_ | refine blk_alloc ?_ _)); exact BK560.out⟩, ⟨by (with_reducible repeat (first | refine blk_drewN ?_ _ | refine blk_drew ?_ | refine blk_alloc ?_ _)); exact BK571.out⟩, ⟨by (with_reducible repeat (first | refine blk_drewN ?_ _ | refine blk_drew ?_ | refine blk_alloc ?_ _)); exact BK576.out⟩, ⟨by (with_reducible repeat (first | refine blk_drewN ?_ _ | refine blk_drew ?_ | refine blk_alloc ?_ _)); exact BK582.out⟩, ⟨by repeat (first | (with_reducible first | exact HB.out | apply below_alloc | apply pw_below_drewN | apply below_drew1 | refine below_set ?_ GE560.out | refine below_set ?_ GE571.out | refine below_set ?_ GE576.out | refine below_set ?_ GE582.out) | exact HB.out)⟩⟩
       ·rw [if_neg c72] at H
        have c72b0 : decide (t589 < 0) = false := decide_eq_false c72
        clear c72
        (first | rw [c72b0] | (simp only [i64_w, i32_w]; rw [c72b0]) | skip)
        replace H := Option.bind_eq_some_iff.mp H
        obtain ⟨t591, A730, H⟩ := H
        replace H : (if t591 = true then (laws_FnExactMixTwo.j1 kj12 a1 a2 t570 (t581 != t570) l0_0 a0_1 t566 t569 t577 t580) else (laws_FnExactMixTwo.j1 kj12 a1 a2 t570 true l0_0 a0_1 t566 t569 t577 t580)) = some r := H
        have A73 := Aside0.mk A730
        clear A730
        by_cases c74 : t591 = true
        ·subst c74
         have H1 : (laws_FnExactMixTwo.j1 kj12 a1 a2 t570 (t581 != t570) l0_0 a0_1 t566 t569 t577 t580) = some r := by rw [if_pos rfl] at H; exact H
         clear H
         have H := H1
         clear H1
         have H' := Aside0.mk H
         clear H
         have hnb75 := NB582_560.out
         have hnc75 := NB560_582.out
         have hnb76 := NB582_571.out
         have hnc76 := NB571_582.out
         have hnb77 := NB582_576.out
         have hnc77 := NB576_582.out
         have hcz78_0 : w71.cell? ⟨gb582, 0, none⟩ = some (.slice Ao34 t577.length co34) := (blk_cell BK582.out 0).trans rfl
         have hcz78_1 : w71.cell? ⟨gb582, 1, none⟩ = some (.int .i64 t580) := (blk_cell BK582.out 1).trans rfl
         have hfz78_0 := blk_frozen BK582.out 0
         have hfz78_1 := blk_frozen BK582.out 1
         have hnb79 := NB571_560.out
         have hnc79 := NB560_571.out
         have hnb80 := NB571_576.out
         have hnc80 := NB576_571.out
         have hcz81_0 : w71.cell? ⟨gb571, 0, none⟩ = some (.slice Ao22 t566.length co22) := (blk_cell BK571.out 0).trans rfl
         have hcz81_1 : w71.cell? ⟨gb571, 1, none⟩ = some (.int .i64 t569) := (blk_cell BK571.out 1).trans rfl
         have hfz81_0 := blk_frozen BK571.out 0
         have hfz81_1 := blk_frozen BK571.out 1
         go_wp2_with (first | (go_at_call 20; (with_reducible refine (laws_eqCups.calls kj12 _ _ t577 t580 _ _ t566 t569 true _ ?side1 ?side2 ?side3 ?side4 A73.out).mono ?_); (case side1 => repeat (first | exact (Kd.R_reads' HO_583000.out).2.2 | (with_reducible refine Kd.C_alloc ?_ _) | (with_reducible refine Kd.C_drewN ?_ _) | (with_reducible refine Kd.C_drew ?_))); (case side2 => exact (Kd.R_reads' HO_583000.out).2.1); (case side3 => repeat (first | exact (Kd.R_reads' HO_572000.out).2.2 | (with_reducible refine Kd.C_alloc ?_ _) | (with_reducible refine Kd.C_drewN ?_ _) | (with_reducible refine Kd.C_drew ?_))); (case side4 => exact (Kd.R_reads' HO_572000.out).2.1); rintro e w82 ⟨rfl, hb⟩; have n0_ := Aside0.mk (Kd.R_below (by (with_reducible repeat (first | apply Kd.R_alloc | apply Kd.R_drewN | apply Kd.R_drew)); exact HO_572000.out) hb); have n1_ := Aside0.mk (Kd.R_below (by (with_reducible repeat (first | apply Kd.R_alloc | apply Kd.R_drewN | apply Kd.R_drew)); exact HO_577000.out) hb); have n2_ := Aside0.mk (Kd.R_below (by (with_reducible repeat (first | apply Kd.R_alloc | apply Kd.R_drewN | apply Kd.R_drew)); exact HO_583000.out) hb); have n3_ := Aside0.mk (Kd.R_below (by (with_reducible repeat (first | apply Kd.R_alloc | apply Kd.R_drewN | apply Kd.R_drew)); exact HO586.out) hb); have n4_ := Aside0.mk (blk_below (g := gb560) (o := .cells #[.slice A0_0 l0_0.length c0_0, .int .i64 a0_1] 24 (0, 0)) (by (with_reducible repeat (first | refine blk_drewN ?_ _ | refine blk_drew ?_ | refine blk_alloc ?_ _)); exact BK560.out) hb); have n5_ := Aside0.mk (blk_below (g := gb571) (o := .cells #[.slice Ao22 t566.length co22, .int .i64 t569] 27 (0, 0)) (by (with_reducible repeat (first | refine blk_drewN ?_ _ | refine blk_drew ?_ | refine blk_alloc ?_ _)); exact BK571.out) hb); have n6_ := Aside0.mk (blk_below (g := gb576) (o := .cells #[.slice Ao28 t572.length co28, .int .i64 t575] 27 (0, 0)) (by (with_reducible repeat (first | refine blk_drewN ?_ _ | refine blk_drew ?_ | refine blk_alloc ?_ _)); exact BK576.out) hb); have n7_ := Aside0.mk (blk_below (g := gb582) (o := .cells #[.slice Ao34 t577.length co34, .int .i64 t580] 27 (0, 0)) (by (with_reducible repeat (first | refine blk_drewN ?_ _ | refine blk_drew ?_ | refine blk_alloc ?_ _)); exact BK582.out) hb); have n8_ := Aside0.mk (below_step (by repeat (first | (with_reducible first | exact HB.out | apply below_alloc | apply pw_below_drewN | apply below_drew1 | refine below_set ?_ GE560.out | refine below_set ?_ GE571.out | refine below_set ?_ GE576.out | refine below_set ?_ GE582.out) | exact HB.out)) hb); clear HO_572000; clear HO_577000; clear HO_583000; clear HO586; clear BK560; clear BK571; clear BK576; clear BK582; clear HB; have HO_572000 := n0_; have HO_577000 := n1_; have HO_583000 := n2_; have HO586 := n3_; have BK560 := n4_; have BK571 := n5_; have BK576 := n6_; have BK582 := n7_; have HB := n8_; clear n0_ n1_ n2_ n3_ n4_ n5_ n6_ n7_ n8_; (try clear hb); (try clear hb2); (try clear hk); (try clear hi)))
         go_meet
         case rel => exact ⟨_, ((t581 != t570)), (by first | rfl | (simp; done) | (simp [*]; done)), H', ⟨by have := HJ12.out; first | omega | exact Nat.le_refl _⟩, ⟨by (with_reducible repeat (first | apply Kd.R_alloc | apply Kd.R_drewN | apply Kd.R_drew)); exact Kd.R_mono HO_572000.out (fun _ hk => ⟨hk.1, hk.2.1⟩)⟩, ⟨by (with_reducible repeat (first | apply Kd.R_alloc | apply Kd.R_drewN | apply Kd.R_drew)); exact Kd.R_mono HO_577000.out (fun _ hk => ⟨hk.1.1, hk.1.2⟩)⟩, ⟨by (with_reducible repeat (first | apply Kd.R_alloc | apply Kd.R_drewN | apply Kd.R_drew)); exact Kd.R_mono HO_583000.out (fun _ hk => ⟨hk.1, hk.2.1⟩)⟩, ⟨by (with_reducible repeat (first | refine blk_drewN ?_ _ | refine blk_drew ?_ | refine blk_alloc ?_ _)); exact BK560.out⟩, ⟨by (with_reducible repeat (first | refine blk_drewN ?_ _ | refine blk_drew ?_ | refine blk_alloc ?_ _)); exact BK571.out⟩, ⟨by (with_reducible repeat (first | refine blk_drewN ?_ _ | refine blk_drew ?_ | refine blk_alloc ?_ _)); exact BK576.out⟩, ⟨by (with_reducible repeat (first | refine blk_drewN ?_ _ | refine blk_drew ?_ | refine blk_alloc ?_ _)); exact BK582.out⟩, ⟨by repeat (first | (with_reducible first | exact HB.out | apply below_alloc | apply pw_below_drewN | apply below_drew1 | refine below_set ?_ GE560.out | refine below_set ?_ GE571.out | refine below_set ?_ GE576.out | refine below_set ?_ GE582.out) | exact HB.out)⟩⟩
        ·replace c74 := Bool.eq_false_iff.mpr c74
         subst c74
         have H1 : (laws_FnExactMixTwo.j1 kj12 a1 a2 t570 true l0_0 a0_1 t566 t569 t577 t580) = some r := by rw [if_neg (show ¬ (false = true) by decide)] at H; exact H
         clear H
         have H := H1
         clear H1
         have H' := Aside0.mk H
         clear H
         have hnb83 := NB582_560.out
         have hnc83 := NB560_582.out
         have hnb84 := NB582_571.out
         have hnc84 := NB571_582.out
         have hnb85 := NB582_576.out
         have hnc85 := NB576_582.out
         have hcz86_0 : w71.cell? ⟨gb582, 0, none⟩ = some (.slice Ao34 t577.length co34) := (blk_cell BK582.out 0).trans rfl
         have hcz86_1 : w71.cell? ⟨gb582, 1, none⟩ = some (.int .i64 t580) := (blk_cell BK582.out 1).trans rfl
         have hfz86_0 := blk_frozen BK582.out 0
         have hfz86_1 := blk_frozen BK582.out 1
         have hnb87 := NB571_560.out
         have hnc87 := NB560_571.out
         have hnb88 := NB571_576.out
         have hnc88 := NB576_571.out
         have hcz89_0 : w71.cell? ⟨gb571, 0, none⟩ = some (.slice Ao22 t566.length co22) := (blk_cell BK571.out 0).trans rfl
         have hcz89_1 : w71.cell? ⟨gb571, 1, none⟩ = some (.int .i64 t569) := (blk_cell BK571.out 1).trans rfl
         have hfz89_0 := blk_frozen BK571.out 0
         have hfz89_1 := blk_frozen BK571.out 1
         go_wp2_with (first | (go_at_call 20; (with_reducible refine (laws_eqCups.calls kj12 _ _ t577 t580 _ _ t566 t569 false _ ?side1 ?side2 ?side3 ?side4 A73.out).mono ?_); (case side1 => repeat (first | exact (Kd.R_reads' HO_583000.out).2.2 | (with_reducible refine Kd.C_alloc ?_ _) | (with_reducible refine Kd.C_drewN ?_ _) | (with_reducible refine Kd.C_drew ?_))); (case side2 => exact (Kd.R_reads' HO_583000.out).2.1); (case side3 => repeat (first | exact (Kd.R_reads' HO_572000.out).2.2 | (with_reducible refine Kd.C_alloc ?_ _) | (with_reducible refine Kd.C_drewN ?_ _) | (with_reducible refine Kd.C_drew ?_))); (case side4 => exact (Kd.R_reads' HO_572000.out).2.1); rintro e w90 ⟨rfl, hb⟩; have n0_ := Aside0.mk (Kd.R_below (by (with_reducible repeat (first | apply Kd.R_alloc | apply Kd.R_drewN | apply Kd.R_drew)); exact HO_572000.out) hb); have n1_ := Aside0.mk (Kd.R_below (by (with_reducible repeat (first | apply Kd.R_alloc | apply Kd.R_drewN | apply Kd.R_drew)); exact HO_577000.out) hb); have n2_ := Aside0.mk (Kd.R_below (by (with_reducible repeat (first | apply Kd.R_alloc | apply Kd.R_drewN | apply Kd.R_drew)); exact HO_583000.out) hb); have n3_ := Aside0.mk (Kd.R_below (by (with_reducible repeat (first | apply Kd.R_alloc | apply Kd.R_drewN | apply Kd.R_drew)); exact HO586.out) hb); have n4_ := Aside0.mk (blk_below (g := gb560) (o := .cells #[.slice A0_0 l0_0.length c0_0, .int .i64 a0_1] 24 (0, 0)) (by (with_reducible repeat (first | refine blk_drewN ?_ _ | refine blk_drew ?_ | refine blk_alloc ?_ _)); exact BK560.out) hb); have n5_ := Aside0.mk (blk_below (g := gb571) (o := .cells #[.slice Ao22 t566.length co22, .int .i64 t569] 27 (0, 0)) (by (with_reducible repeat (first | refine blk_drewN ?_ _ | refine blk_drew ?_ | refine blk_alloc ?_ _)); exact BK571.out) hb); have n6_ := Aside0.mk (blk_below (g := gb576) (o := .cells #[.slice Ao28 t572.length co28, .int .i64 t575] 27 (0, 0)) (by (with_reducible repeat (first | refine blk_drewN ?_ _ | refine blk_drew ?_ | refine blk_alloc ?_ _)); exact BK576.out) hb); have n7_ := Aside0.mk (blk_below (g := gb582) (o := .cells #[.slice Ao34 t577.length co34, .int .i64 t580] 27 (0, 0)) (by (with_reducible repeat (first | refine blk_drewN ?_ _ | refine blk_drew ?_ | refine blk_alloc ?_ _)); exact BK582.out) hb); have n8_ := Aside0.mk (below_step (by repeat (first | (with_reducible first | exact HB.out | apply below_alloc | apply pw_below_drewN | apply below_drew1 | refine below_set ?_ GE560.out | refine below_set ?_ GE571.out | refine below_set ?_ GE576.out | refine below_set ?_ GE582.out) | exact HB.out)) hb); clear HO_572000; clear HO_577000; clear HO_583000; clear HO586; clear BK560; clear BK571; clear BK576; clear BK582; clear HB; have HO_572000 := n0_; have HO_577000 := n1_; have HO_583000 := n2_; have HO586 := n3_; have BK560 := n4_; have BK571 := n5_; have BK576 := n6_; have BK582 := n7_; have HB := n8_; clear n0_ n1_ n2_ n3_ n4_ n5_ n6_ n7_ n8_; (try clear hb); (try clear hb2); (try clear hk); (try clear hi)))
         go_meet
         case rel => exact ⟨_, (true), (by first | rfl | (simp; done) | (simp [*]; done)), H', ⟨by have := HJ12.out; first | omega | exact Nat.le_refl _⟩, ⟨by (with_reducible repeat (first | apply Kd.R_alloc | apply Kd.R_drewN | apply Kd.R_drew)); exact Kd.R_mono HO_572000.out (fun _ hk => ⟨hk.1, hk.2.1⟩)⟩, ⟨by (with_reducible repeat (first | apply Kd.R_alloc | apply Kd.R_drewN | apply Kd.R_drew)); exact Kd.R_mono HO_577000.out (fun _ hk => ⟨hk.1.1, hk.1.2⟩)⟩, ⟨by (with_reducible repeat (first | apply Kd.R_alloc | apply Kd.R_drewN | apply Kd.R_drew)); exact Kd.R_mono HO_583000.out (fun _ hk => ⟨hk.1, hk.2.1⟩)⟩, ⟨by (with_reducible repeat (first | refine blk_drewN ?_ _ | refine blk_drew ?_ | refine blk_alloc ?_ _)); exact BK560.out⟩, ⟨by (with_reducible repeat (first | refine blk_drewN ?_ _ | refine blk_drew ?_ | refine blk_alloc ?_ _)); exact BK571.out⟩, ⟨by (with_reducible repeat (first | refine blk_drewN ?_ _ | refine blk_drew ?_ | refine blk_alloc ?_ _)); exact BK576.out⟩, ⟨by (with_reducible repeat (first | refine blk_drewN ?_ _ | refine blk_drew ?_ | refine blk_alloc ?_ _)); exact BK582.out⟩, ⟨by repeat (first | (with_reducible first | exact HB.out | apply below_alloc | apply pw_below_drewN | apply below_drew1 | refine below_set ?_ GE560.out | refine below_set ?_ GE571.out | refine below_set ?_ GE576.out | refine below_set ?_ GE582.out) | exact HB.out)⟩⟩
      case rest =>
       clear HC62
       try clear c1
       try clear c2
       try clear p2
       try clear c3
       try clear c4
       try clear c5
       try clear c5b0
       try clear c6
       try clear c7
       try clear c8
       try clear c11
       try clear c16
       try clear c18
       try clear c20
       try clear c23
       try clear c26
       try clear c29
       try clear c30
       try clear c35
       try clear c36
       try clear c37
       try clear c40
       try clear c41
       try clear c42
       try clear c43
       try clear c44
       try clear c45
       try clear c46
       try clear c49
       try clear c50
       try clear c51
       try clear c53
       try clear c54
       try clear c57
       try clear c60
       try clear c67
       try clear c68
       try clear c69
       try clear c72
       try clear c72b0
       try clear c74
       try clear c75
       try clear c76
       try clear c77
       try clear c79
       try clear c80
       try clear c83
       try clear c84
       try clear c85
       try clear c87
       try clear c88
       try clear hcz15_0
       try clear hcz15_1
       try clear hcz17_0
       try clear hcz17_1
       try clear hcz24_0
       try clear hcz24_1
       try clear hcz25_0
       try clear hcz25_1
       try clear hcz31_0
       try clear hcz31_1
       try clear hcz38_0
       try clear hcz38_1
       try clear hcz44_0
       try clear hcz44_1
       try clear hcz47_0
       try clear hcz47_1
       try clear hcz52_0
       try clear hcz52_1
       try clear hcz55_0
       try clear hcz55_1
       try clear hcz70_0
       try clear hcz70_1
       try clear hcz78_0
       try clear hcz78_1
       try clear hcz7_0
       try clear hcz7_1
       try clear hcz81_0
       try clear hcz81_1
       try clear hcz86_0
       try clear hcz86_1
       try clear hcz89_0
       try clear hcz89_1
       try clear hfz15_0
       try clear hfz15_1
       try clear hfz17_0
       try clear hfz17_1
       try clear hfz24_0
       try clear hfz24_1
       try clear hfz25_0
       try clear hfz25_1
       try clear hfz31_0
       try clear hfz31_1
       try clear hfz38_0
       try clear hfz38_1
       try clear hfz44_0
       try clear hfz44_1
       try clear hfz47_0
       try clear hfz47_1
       try clear hfz52_0
       try clear hfz52_1
       try clear hfz55_0
       try clear hfz55_1
       try clear hfz70_0
       try clear hfz70_1
       try clear hfz78_0
       try clear hfz78_1
       try clear hfz7_0
       try clear hfz7_1
       try clear hfz81_0
       try clear hfz81_1
       try clear hfz86_0
       try clear hfz86_1
       try clear hfz89_0
       try clear hfz89_1
       try clear p2
       obtain ⟨kq, x69_61, rfl, HA, HJ61, HO_572000, HO_577000, HO_583000, BK560, BK571, BK576, BK582, HB⟩ := hcut
       have hl577000_61 := (Kd.R_reads' HO_577000.out).1
       rw [hl577000_61] at HO_577000
       (try simp only [hl577000_61])
       (try simp only [hl577000_61] at BK560)
       (try simp only [hl577000_61] at BK571)
       (try simp only [hl577000_61] at BK576)
       (try simp only [hl577000_61] at BK582)
       (try simp only [hl577000_61] at HO_572000)
       (try simp only [hl577000_61] at HO_583000)
       cases kq with
       | zero => exact absurd HA.out (by simp [laws_FnExactMixTwo.j1])
       | succ kj61 =>
        have H := HA.out
        clear HA
        simp only [laws_FnExactMixTwo.j1] at H
        by_cases c91 : x69_61 = true
        ·subst c91
         have H1 : (some false) = some r := by rw [if_pos rfl] at H; exact H
         clear H
         have H := H1
         clear H1
         obtain rfl := Option.some.inj H
         go_wp2
         go_ret
         exact ⟨by first | rfl | (simp [errW_none, errW_some] <;> rfl) | (simp [*, errW_none, errW_some] <;> rfl), by repeat (first | (with_reducible first | exact HB.out | apply below_alloc | apply pw_below_drewN | apply below_drew1 | refine below_set ?_ GE560.out | refine below_set ?_ GE571.out | refine below_set ?_ GE576.out | refine below_set ?_ GE582.out) | exact HB.out)⟩
        ·replace c91 := Bool.eq_false_iff.mpr c91
         subst c91
         have H1 : ((laws_markCups.f kj61 t577 t580 1).bind fun bt592 => ((laws_heldCups.f kj61 bt592.2 t580 1).bind fun t594 => (if t594 < 0 then (some false) else (if t594 = bt592.1 then ((laws_toCups.f kj61 l0_0 a0_1).bind fun bt595 => ((impl_MixTwo.f kj61 bt595.1 bt595.2 a1 a2).bind fun bt599 => ((laws_eqCups.f kj61 bt599.1 bt599.2.1 t566 t569).bind fun t605 => (if t605 = true then (laws_FnExactMixTwo.j2 kj61 bt592.1 (bt599.2.2 != t570) bt592.2 t580) else (laws_FnExactMixTwo.j2 kj61 bt592.1 true bt592.2 t580))))) else (some false))))) = some r := by rw [if_neg (show ¬ (false = true) by decide)] at H; exact H
         clear H
         have H := H1
         clear H1
         replace H := Option.bind_eq_some_iff.mp H
         obtain ⟨⟨t592, t593⟩, A920, H⟩ := H
         replace H : ((laws_heldCups.f kj61 t593 t580 1).bind fun t594 => (if t594 < 0 then (some false) else (if t594 = t592 then ((laws_toCups.f kj61 l0_0 a0_1).bind fun bt595 => ((impl_MixTwo.f kj61 bt595.1 bt595.2 a1 a2).bind fun bt599 => ((laws_eqCups.f kj61 bt599.1 bt599.2.1 t566 t569).bind fun t605 => (if t605 = true then (laws_FnExactMixTwo.j2 kj61 t592 (bt599.2.2 != t570) t593 t580) else (laws_FnExactMixTwo.j2 kj61 t592 true t593 t580))))) else (some false)))) = some r := H
         have A92 := Aside0.mk A920
         clear A920
         replace H := Option.bind_eq_some_iff.mp H
         obtain ⟨t594, A930, H⟩ := H
         replace H : (if t594 < 0 then (some false) else (if t594 = t592 then ((laws_toCups.f kj61 l0_0 a0_1).bind fun bt595 => ((impl_MixTwo.f kj61 bt595.1 bt595.2 a1 a2).bind fun bt599 => ((laws_eqCups.f kj61 bt599.1 bt599.2.1 t566 t569).bind fun t605 => (if t605 = true then (laws_FnExactMixTwo.j2 kj61 t592 (bt599.2.2 != t570) t593 t580) else (laws_FnExactMixTwo.j2 kj61 t592 true t593 t580))))) else (some false))) = some r := H
         have A93 := Aside0.mk A930
         clear A930
         by_cases c94 : t594 < 0
         ·rw [if_pos c94] at H
          have c94b0 : decide (t594 < 0) = true := decide_eq_true c94
          clear c94
          obtain rfl := Option.some.inj H
          have hnb95 := NB582_560.out
          have hnc95 := NB560_582.out
          have hnb96 := NB582_571.out
          have hnc96 := NB571_582.out
          have hnb97 := NB582_576.out
          have hnc97 := NB576_582.out
          have hcz98_0 : wc.cell? ⟨gb582, 0, none⟩ = some (.slice Ao34 t577.length co34) := (blk_cell BK582.out 0).trans rfl
          have hcz98_1 : wc.cell? ⟨gb582, 1, none⟩ = some (.int .i64 t580) := (blk_cell BK582.out 1).trans rfl
          have hfz98_0 := blk_frozen BK582.out 0
          have hfz98_1 := blk_frozen BK582.out 1
          go_wp2_with (first | ((with_reducible refine gate_callee (f := 26) rfl ?_); refine goesL_ (some 72) rfl rfl Try.func26 (by kernel_rfl) rfl #[.agg #[.slice Ao34 t577.length co34, .int .i64 t580], .int .i64 1] rfl (by (try simp only [List.map_toArray, List.map_cons, List.map_nil]); first | done | rfl | (simp only [List.length_drop, List.length_take]; rfl)) ?_; (with_reducible refine (laws_markCups.calls kj61 (fun k_ => some k_ = (.slice Ao34 t577.length co34 : Value).ownBlock) (.slice Ao34 t577.length co34) t577 t580 1 t592 t593 w _ ?side1 ?side2 A92.out).mono ?_); (case side1 => repeat (first | (with_reducible first | exact HB.out | apply below_alloc | apply pw_below_drewN | apply below_drew1 | refine below_set ?_ GE560.out | refine below_set ?_ GE571.out | refine below_set ?_ GE576.out | refine below_set ?_ GE582.out) | exact HB.out)); (case side2 => exact Kd.R_tight rfl HO_583000.out); rintro e w99 ⟨rfl, hy0, hb, hkp⟩; refine ⟨_, rfl, ?_⟩; have n0_ := Aside0.mk (Kd.R_mono (ok' := fun k_ => some k_ ≠ (.slice Ao28 t590.length co28 : Value).ownBlock ∧ some k_ ≠ (.slice Ao34 t577.length co34 : Value).ownBlock) (Kd.R_keptB (HO_572000.out) hkp (fun k_ hk_ hs_ => (hk_.2) hs_)) (fun k_ hk_ => ⟨hk_.1.1, hk_.1.2⟩)); have n1_ := Aside0.mk (Kd.R_mono (ok' := fun k_ => some k_ ≠ (.slice Ao22 t566.length co22 : Value).ownBlock ∧ some k_ ≠ (.slice Ao34 t577.length co34 : Value).ownBlock) (Kd.R_keptB (HO_577000.out) hkp (fun k_ hk_ hs_ => (hk_.2) hs_)) (fun k_ hk_ => ⟨hk_.1.1, hk_.1.2⟩)); have n2_ := Aside0.mk (Kd.R_reok rfl hy0 (fun k_ e_ => HO_583000.out.1 k_ e_)); have n3_ := Aside0.mk (blk_kept (by (with_reducible repeat (first | refine blk_drewN ?_ _ | refine blk_drew ?_ | refine blk_alloc ?_ _)); exact BK560.out) hkp (fun hs_ => (fun e_ => (Kd.R_ne HO_583000.out BK560.out (by decide)) e_) hs_)); have n4_ := Aside0.mk (blk_kept (by (with_reducible repeat (first | refine blk_drewN ?_ _ | refine blk_drew ?_ | refine blk_alloc ?_ _)); exact BK571.out) hkp (fun hs_ => (fun e_ => (Kd.R_ne HO_583000.out BK571.out (by decide)) e_) hs_)); have n5_ := Aside0.mk (blk_kept (by (with_reducible repeat (first | refine blk_drewN ?_ _ | refine blk_drew ?_ | refine blk_alloc ?_ _)); exact BK576.out) hkp (fun hs_ => (fun e_ => (Kd.R_ne HO_583000.out BK576.out (by decide)) e_) hs_)); have n6_ := Aside0.mk (blk_kept (by (with_reducible repeat (first | refine blk_drewN ?_ _ | refine blk_drew ?_ | refine blk_alloc ?_ _)); exact BK582.out) hkp (fun hs_ => (fun e_ => (Kd.R_ne HO_583000.out BK582.out (by decide)) e_) hs_)); have n7_ := Aside0.mk (hb); clear HO_572000; clear HO_577000; clear HO_583000; clear BK560; clear BK571; clear BK576; clear BK582; clear HB; have HO_572000 := n0_; have HO_577000 := n1_; have HO_583000 := n2_; have BK560 := n3_; have BK571 := n4_; have BK576 := n5_; have BK582 := n6_; have HB := n7_; clear n0_ n1_ n2_ n3_ n4_ n5_ n6_ n7_; (try clear hb); (try clear hkp); (try clear hy0); have hcz100_0 : w99.cell? ⟨gb582, 0, none⟩ = some (.slice Ao34 t577.length co34) := (blk_cell BK582.out 0).trans rfl; have hcz100_1 : w99.cell? ⟨gb582, 1, none⟩ = some (.int .i64 t580) := (blk_cell BK582.out 1).trans rfl; have hfz100_0 := blk_frozen BK582.out 0; have hfz100_1 := blk_frozen BK582.out 1) | ((with_reducible refine gate_callee (f := 27) rfl ?_); refine goesL_ (some 75) rfl rfl Try.func27 (by kernel_rfl) rfl #[.agg #[.slice Ao34 t593.length co34, .int .i64 t580], .int .i64 1] rfl (by (try simp only [List.map_toArray, List.map_cons, List.map_nil]); first | done | (rw [show t593.length = t577.length from (Kd.R_reads' HO_583000.out).1.symm] <;> rfl) | rfl | (simp only [List.length_drop, List.length_take]; rfl)) ?_; (with_reducible refine (laws_heldCups.calls kj61 _ _ t593 t580 1 t594 _ ?side1 ?side2 A93.out).mono ?_); (case side1 => repeat (first | exact (Kd.R_reads' HO_583000.out).2.2 | (with_reducible refine Kd.C_alloc ?_ _) | (with_reducible refine Kd.C_drewN ?_ _) | (with_reducible refine Kd.C_drew ?_))); (case side2 => rw [show t593.length = t577.length from (Kd.R_reads' HO_583000.out).1.symm]; exact (Kd.R_reads' HO_583000.out).2.1); rintro e w101 ⟨rfl, hb⟩; refine ⟨_, rfl, ?_⟩; have n0_ := Aside0.mk (Kd.R_below (by (with_reducible repeat (first | apply Kd.R_alloc | apply Kd.R_drewN | apply Kd.R_drew)); exact HO_572000.out) hb); have n1_ := Aside0.mk (Kd.R_below (by (with_reducible repeat (first | apply Kd.R_alloc | apply Kd.R_drewN | apply Kd.R_drew)); exact HO_577000.out) hb); have n2_ := Aside0.mk (Kd.R_below (by (with_reducible repeat (first | apply Kd.R_alloc | apply Kd.R_drewN | apply Kd.R_drew)); exact HO_583000.out) hb); have n3_ := Aside0.mk (blk_below (g := gb560) (o := .cells #[.slice A0_0 l0_0.length c0_0, .int .i64 a0_1] 24 (0, 0)) (by (with_reducible repeat (first | refine blk_drewN ?_ _ | refine blk_drew ?_ | refine blk_alloc ?_ _)); exact BK560.out) hb); have n4_ := Aside0.mk (blk_below (g := gb571) (o := .cells #[.slice Ao22 t566.length co22, .int .i64 t569] 27 (0, 0)) (by (with_reducible repeat (first | refine blk_drewN ?_ _ | refine blk_drew ?_ | refine blk_alloc ?_ _)); exact BK571.out) hb); have n5_ := Aside0.mk (blk_below (g := gb576) (o := .cells #[.slice Ao28 t590.length co28, .int .i64 t575] 27 (0, 0)) (by (with_reducible repeat (first | refine blk_drewN ?_ _ | refine blk_drew ?_ | refine blk_alloc ?_ _)); exact BK576.out) hb); have n6_ := Aside0.mk (blk_below (g := gb582) (o := .cells #[.slice Ao34 t577.length co34, .int .i64 t580] 27 (0, 0)) (by (with_reducible repeat (first | refine blk_drewN ?_ _ | refine blk_drew ?_ | refine blk_alloc ?_ _)); exact BK582.out) hb); have n7_ := Aside0.mk (below_step (by repeat (first | (with_reducible first | exact HB.out | apply below_alloc | apply pw_below_drewN | apply below_drew1 | refine below_set ?_ GE560.out | refine below_set ?_ GE571.out | refine below_set ?_ GE576.out | refine below_set ?_ GE582.out) | exact HB.out)) hb); clear HO_572000; clear HO_577000; clear HO_583000; clear BK560; clear BK571; clear BK576; clear BK582; clear HB; have HO_572000 := n0_; have HO_577000 := n1_; have HO_583000 := n2_; have BK560 := n3_; have BK571 := n4_; have BK576 := n5_; have BK582 := n6_; have HB := n7_; clear n0_ n1_ n2_ n3_ n4_ n5_ n6_ n7_; (try clear hb); (try clear hb2); (try clear hk); (try clear hi)))
          go_ret
          exact ⟨by first | rfl | (simp [errW_none, errW_some] <;> rfl) | (simp [*, errW_none, errW_some] <;> rfl), by repeat (first | (with_reducible first | exact HB.out | apply below_alloc | apply pw_below_drewN | apply below_drew1 | refine below_set ?_ GE560.out | refine below_set ?_ GE571.out | refine below_set ?_ GE576.out | refine below_set ?_ GE582.out) | exact HB.out)⟩
         ·rw [if_neg c94] at H
          have c94b0 : decide (t594 < 0) = false := decide_eq_false c94
          clear c94
          by_cases c102 : t594 = t592
          ·rw [if_pos c102] at H
           have c102b0 : (t594 == t592) = true := beq_iff_eq.mpr c102
           have c102b1 : (t594 != t592) = false := bne_eq_false_iff_eq.mpr c102
           clear c102
           replace H := Option.bind_eq_some_iff.mp H
           obtain ⟨⟨t595, t598⟩, A1030, H⟩ := H
           replace H : ((impl_MixTwo.f kj61 t595 t598 a1 a2).bind fun bt599 => ((laws_eqCups.f kj61 bt599.1 bt599.2.1 t566 t569).bind fun t605 => (if t605 = true then (laws_FnExactMixTwo.j2 kj61 t592 (bt599.2.2 != t570) t593 t580) else (laws_FnExactMixTwo.j2 kj61 t592 true t593 t580)))) = some r := H
           have A103 := Aside0.mk A1030
           clear A1030
           replace H := Option.bind_eq_some_iff.mp H
           obtain ⟨⟨t599, t602, t603⟩, A1040, H⟩ := H
           replace H : ((laws_eqCups.f kj61 t599 t602 t566 t569).bind fun t605 => (if t605 = true then (laws_FnExactMixTwo.j2 kj61 t592 (t603 != t570) t593 t580) else (laws_FnExactMixTwo.j2 kj61 t592 true t593 t580))) = some r := H
           have A104 := Aside0.mk A1040
           clear A1040
           have HC105 := Aside0.mk H
           clear H
           have hnb106 := NB582_560.out
           have hnc106 := NB560_582.out
           have hnb107 := NB582_571.out
           have hnc107 := NB571_582.out
           have hnb108 := NB582_576.out
           have hnc108 := NB576_582.out
           have hcz109_0 : wc.cell? ⟨gb582, 0, none⟩ = some (.slice Ao34 t577.length co34) := (blk_cell BK582.out 0).trans rfl
           have hcz109_1 : wc.cell? ⟨gb582, 1, none⟩ = some (.int .i64 t580) := (blk_cell BK582.out 1).trans rfl
           have hfz109_0 := blk_frozen BK582.out 0
           have hfz109_1 := blk_frozen BK582.out 1
           go_upto_region 25 with (first | ((with_reducible refine gate_callee (f := 26) rfl ?_); refine goesL_ (some 72) rfl rfl Try.func26 (by kernel_rfl) rfl #[.agg #[.slice Ao34 t577.length co34, .int .i64 t580], .int .i64 1] rfl (by (try simp only [List.map_toArray, List.map_cons, List.map_nil]); first | done | rfl | (simp only [List.length_drop, List.length_take]; rfl)) ?_; (with_reducible refine (laws_markCups.calls kj61 (fun k_ => some k_ = (.slice Ao34 t577.length co34 : Value).ownBlock) (.slice Ao34 t577.length co34) t577 t580 1 t592 t593 w _ ?side1 ?side2 A92.out).mono ?_); (case side1 => repeat (first | (with_reducible first | exact HB.out | apply below_alloc | apply pw_below_drewN | apply below_drew1 | refine below_set ?_ GE560.out | refine below_set ?_ GE571.out | refine below_set ?_ GE576.out | refine below_set ?_ GE582.out) | exact HB.out)); (case side2 => exact Kd.R_tight rfl HO_583000.out); rintro e w110 ⟨rfl, hy0, hb, hkp⟩; refine ⟨_, rfl, ?_⟩; have n0_ := Aside0.mk (Kd.R_mono (ok' := fun k_ => some k_ ≠ (.slice Ao28 t590.length co28 : Value).ownBlock ∧ some k_ ≠ (.slice Ao34 t577.length co34 : Value).ownBlock) (Kd.R_keptB (HO_572000.out) hkp (fun k_ hk_ hs_ => (hk_.2) hs_)) (fun k_ hk_ => ⟨hk_.1.1, hk_.1.2⟩)); have n1_ := Aside0.mk (Kd.R_mono (ok' := fun k_ => some k_ ≠ (.slice Ao22 t566.length co22 : Value).ownBlock ∧ some k_ ≠ (.slice Ao34 t577.length co34 : Value).ownBlock) (Kd.R_keptB (HO_577000.out) hkp (fun k_ hk_ hs_ => (hk_.2) hs_)) (fun k_ hk_ => ⟨hk_.1.1, hk_.1.2⟩)); have n2_ := Aside0.mk (Kd.R_reok rfl hy0 (fun k_ e_ => HO_583000.out.1 k_ e_)); have n3_ := Aside0.mk (blk_kept (by (with_reducible repeat (first | refine blk_drewN ?_ _ | refine blk_drew ?_ | refine blk_alloc ?_ _)); exact BK560.out) hkp (fun hs_ => (fun e_ => (Kd.R_ne HO_583000.out BK560.out (by decide)) e_) hs_)); have n4_ := Aside0.mk (blk_kept (by (with_reducible repeat (first | refine blk_drewN ?_ _ | refine blk_drew ?_ | refine blk_alloc ?_ _)); exact BK571.out) hkp (fun hs_ => (fun e_ => (Kd.R_ne HO_583000.out BK571.out (by decide)) e_) hs_)); have n5_ := Aside0.mk (blk_kept (by (with_reducible repeat (first | refine blk_drewN ?_ _ | refine blk_drew ?_ | refine blk_alloc ?_ _)); exact BK576.out) hkp (fun hs_ => (fun e_ => (Kd.R_ne HO_583000.out BK576.out (by decide)) e_) hs_)); have n6_ := Aside0.mk (blk_kept (by (with_reducible repeat (first | refine blk_drewN ?_ _ | refine blk_drew ?_ | refine blk_alloc ?_ _)); exact BK582.out) hkp (fun hs_ => (fun e_ => (Kd.R_ne HO_583000.out BK582.out (by decide)) e_) hs_)); have n7_ := Aside0.mk (hb); clear HO_572000; clear HO_577000; clear HO_583000; clear BK560; clear BK571; clear BK576; clear BK582; clear HB; have HO_572000 := n0_; have HO_577000 := n1_; have HO_583000 := n2_; have BK560 := n3_; have BK571 := n4_; have BK576 := n5_; have BK582 := n6_; have HB := n7_; clear n0_ n1_ n2_ n3_ n4_ n5_ n6_ n7_; (try clear hb); (try clear hkp); (try clear hy0); have hcz111_0 : w110.cell? ⟨gb582, 0, none⟩ = some (.slice Ao34 t577.length co34) := (blk_cell BK582.out 0).trans rfl; have hcz111_1 : w110.cell? ⟨gb582, 1, none⟩ = some (.int .i64 t580) := (blk_cell BK582.out 1).trans rfl; have hfz111_0 := blk_frozen BK582.out 0; have hfz111_1 := blk_frozen BK582.out 1) | ((with_reducible refine gate_callee (f := 27) rfl ?_); refine goesL_ (some 75) rfl rfl Try.func27 (by kernel_rfl) rfl #[.agg #[.slice Ao34 t593.length co34, .int .i64 t580], .int .i64 1] rfl (by (try simp only [List.map_toArray, List.map_cons, List.map_nil]); first | done | (rw [show t593.length = t577.length from (Kd.R_reads' HO_583000.out).1.symm] <;> rfl) | rfl | (simp only [List.length_drop, List.length_take]; rfl)) ?_; (with_reducible refine (laws_heldCups.calls kj61 _ _ t593 t580 1 t594 _ ?side1 ?side2 A93.out).mono ?_); (case side1 => repeat (first | exact (Kd.R_reads' HO_583000.out).2.2 | (with_reducible refine Kd.C_alloc ?_ _) | (with_reducible refine Kd.C_drewN ?_ _) | (with_reducible refine Kd.C_drew ?_))); (case side2 => rw [show t593.length = t577.length from (Kd.R_reads' HO_583000.out).1.symm]; exact (Kd.R_reads' HO_583000.out).2.1); rintro e w112 ⟨rfl, hb⟩; refine ⟨_, rfl, ?_⟩; have n0_ := Aside0.mk (Kd.R_below (by (with_reducible repeat (first | apply Kd.R_alloc | apply Kd.R_drewN | apply Kd.R_drew)); exact HO_572000.out) hb); have n1_ := Aside0.mk (Kd.R_below (by (with_reducible repeat (first | apply Kd.R_alloc | apply Kd.R_drewN | apply Kd.R_drew)); exact HO_577000.out) hb); have n2_ := Aside0.mk (Kd.R_below (by (with_reducible repeat (first | apply Kd.R_alloc | apply Kd.R_drewN | apply Kd.R_drew)); exact HO_583000.out) hb); have n3_ := Aside0.mk (blk_below (g := gb560) (o := .cells #[.slice A0_0 l0_0.length c0_0, .int .i64 a0_1] 24 (0, 0)) (by (with_reducible repeat (first | refine blk_drewN ?_ _ | refine blk_drew ?_ | refine blk_alloc ?_ _)); exact BK560.out) hb); have n4_ := Aside0.mk (blk_below (g := gb571) (o := .cells #[.slice Ao22 t566.length co22, .int .i64 t569] 27 (0, 0)) (by (with_reducible repeat (first | refine blk_drewN ?_ _ | refine blk_drew ?_ | refine blk_alloc ?_ _)); exact BK571.out) hb); have n5_ := Aside0.mk (blk_below (g := gb576) (o := .cells #[.slice Ao28 t590.length co28, .int .i64 t575] 27 (0, 0)) (by (with_reducible repeat (first | refine blk_drewN ?_ _ | refine blk_drew ?_ | refine blk_alloc ?_ _)); exact BK576.out) hb); have n6_ := Aside0.mk (blk_below (g := gb582) (o := .cells #[.slice Ao34 t577.length co34, .int .i64 t580] 27 (0, 0)) (by (with_reducible repeat (first | refine blk_drewN ?_ _ | refine blk_drew ?_ | refine blk_alloc ?_ _)); exact BK582.out) hb); have n7_ := Aside0.mk (below_step (by repeat (first | (with_reducible first | exact HB.out | apply below_alloc | apply pw_below_drewN | apply below_drew1 | refine below_set ?_ GE560.out | refine below_set ?_ GE571.out | refine below_set ?_ GE576.out | refine below_set ?_ GE582.out) | exact HB.out)) hb); clear HO_572000; clear HO_577000; clear HO_583000; clear BK560; clear BK571; clear BK576; clear BK582; clear HB; have HO_572000 := n0_; have HO_577000 := n1_; have HO_583000 := n2_; have BK560 := n3_; have BK571 := n4_; have BK576 := n5_; have BK582 := n6_; have HB := n7_; clear n0_ n1_ n2_ n3_ n4_ n5_ n6_ n7_; (try clear hb); (try clear hb2); (try clear hk); (try clear hi); have hnb113 := NB560_571.out; have hnc113 := NB571_560.out; have hnb114 := NB560_576.out; have hnc114 := NB576_560.out; have hcz115_0 : w112.cell? ⟨gb560, 0, none⟩ = some (.slice A0_0 l0_0.length c0_0) := (blk_cell BK560.out 0).trans rfl; have hcz115_1 : w112.cell? ⟨gb560, 1, none⟩ = some (.int .i64 a0_1) := (blk_cell BK560.out 1).trans rfl; have hfz115_0 := blk_frozen BK560.out 0; have hfz115_1 := blk_frozen BK560.out 1) | ((with_reducible refine gate_callee (f := 18) rfl ?_); refine goesL_ (some 83) rfl rfl Try.func18 (by kernel_rfl) rfl #[.agg #[.slice A0_0 l0_0.length c0_0, .int .i64 a0_1]] rfl (by (try simp only [List.map_toArray, List.map_cons, List.map_nil]); first | done | rfl | (simp only [List.length_drop, List.length_take]; rfl)) ?_; (with_reducible refine (laws_toCups.calls kj61 _ _ l0_0 a0_1 t595 t598 _ ?side1 ?side2 A103.out).mono ?_); (case side1 => repeat (first | exact (Kd.C_below HR0_0.out HB.out) | (with_reducible refine Kd.C_alloc ?_ _) | (with_reducible refine Kd.C_drewN ?_ _) | (with_reducible refine Kd.C_drew ?_))); (case side2 => exact HC0_0.out); rintro e w116 ⟨v596, rfl, ho0, hb⟩; refine ⟨_, rfl, ?_⟩; have n0_ := Aside0.mk (Kd.R_elder' (by (with_reducible repeat (first | apply Kd.R_alloc | apply Kd.R_drewN | apply Kd.R_drew)); exact HO_572000.out) (Kd.R_base ho0) hb); have n1_ := Aside0.mk (Kd.R_elder' (by (with_reducible repeat (first | apply Kd.R_alloc | apply Kd.R_drewN | apply Kd.R_drew)); exact HO_577000.out) (Kd.R_base ho0) hb); have n2_ := Aside0.mk (Kd.R_elder' (by (with_reducible repeat (first | apply Kd.R_alloc | apply Kd.R_drewN | apply Kd.R_drew)); exact HO_583000.out) (Kd.R_base ho0) hb); have n3_ := Aside0.mk (Kd.R_lower (Kd.R_new' (Kd.R_new' (Kd.R_new' ho0 (Kd.R_lt (by (with_reducible repeat (first | apply Kd.R_alloc | apply Kd.R_drewN | apply Kd.R_drew)); exact HO_572000.out))) (Kd.R_lt (by (with_reducible repeat (first | apply Kd.R_alloc | apply Kd.R_drewN | apply Kd.R_drew)); exact HO_577000.out))) (Kd.R_lt (by (with_reducible repeat (first | apply Kd.R_alloc | apply Kd.R_drewN | apply Kd.R_drew)); exact HO_583000.out))) (below_size (by repeat (first | (with_reducible first | exact HB.out | apply below_alloc | apply pw_below_drewN | apply below_drew1 | refine below_set ?_ GE560.out | refine below_set ?_ GE571.out | refine below_set ?_ GE576.out | refine below_set ?_ GE582.out) | exact HB.out)))); have n4_ := Aside0.mk (blk_below (g := gb560) (o := .cells #[.slice A0_0 l0_0.length c0_0, .int .i64 a0_1] 24 (0, 0)) (by (with_reducible repeat (first | refine blk_drewN ?_ _ | refine blk_drew ?_ | refine blk_alloc ?_ _)); exact BK560.out) hb); have n5_ := Aside0.mk (blk_below (g := gb571) (o := .cells #[.slice Ao22 t566.length co22, .int .i64 t569] 27 (0, 0)) (by (with_reducible repeat (first | refine blk_drewN ?_ _ | refine blk_drew ?_ | refine blk_alloc ?_ _)); exact BK571.out) hb); have n6_ := Aside0.mk (blk_below (g := gb576) (o := .cells #[.slice Ao28 t590.length co28, .int .i64 t575] 27 (0, 0)) (by (with_reducible repeat (first | refine blk_drewN ?_ _ | refine blk_drew ?_ | refine blk_alloc ?_ _)); exact BK576.out) hb); have n7_ := Aside0.mk (blk_below (g := gb582) (o := .cells #[.slice Ao34 t577.length co34, .int .i64 t580] 27 (0, 0)) (by (with_reducible repeat (first | refine blk_drewN ?_ _ | refine blk_drew ?_ | refine blk_alloc ?_ _)); exact BK582.out) hb); have n8_ := Aside0.mk (below_step (by repeat (first | (with_reducible first | exact HB.out | apply below_alloc | apply pw_below_drewN | apply below_drew1 | refine below_set ?_ GE560.out | refine below_set ?_ GE571.out | refine below_set ?_ GE576.out | refine below_set ?_ GE582.out) | exact HB.out)) hb); clear HO_572000; clear HO_577000; clear HO_583000; clear BK560; clear BK571; clear BK576; clear BK582; clear HB; have HO_572000 := n0_; have HO_577000 := n1_; have HO_583000 := n2_; have HO597 := n3_; have BK560 := n4_; have BK571 := n5_; have BK576 := n6_; have BK582 := n7_; have HB := n8_; clear n0_ n1_ n2_ n3_ n4_ n5_ n6_ n7_ n8_; (try clear hb); (try clear hb2); (try clear hk); (try clear hi); (try clear ho0); obtain ⟨Ao117, co117, eo117⟩ := Kd.R_slice HO597.out; subst eo117) | ((with_reducible refine gate_callee (f := 44) rfl ?_); refine goesL_ (some 86) rfl rfl Try.func44 (by kernel_rfl) rfl #[.agg #[.slice Ao117 t595.length co117, .int .i64 t598], .int .i64 a1, .int .i64 a2] rfl (by (try simp only [List.map_toArray, List.map_cons, List.map_nil]); first | done | rfl | (simp only [List.length_drop, List.length_take]; rfl)) ?_; (with_reducible refine (impl_MixTwo.calls kj61 _ _ t595 t598 a1 a2 t599 t602 t603 _ ?side1 ?side2 A104.out).mono ?_); (case side1 => repeat (first | exact (Kd.R_reads' HO597.out).2.2 | (with_reducible refine Kd.C_alloc ?_ _) | (with_reducible refine Kd.C_drewN ?_ _) | (with_reducible refine Kd.C_drew ?_))); (case side2 => exact (Kd.R_reads' HO597.out).2.1); rintro e w118 ⟨v600, rfl, ho0, hb⟩; refine ⟨_, rfl, ?_⟩; have n0_ := Aside0.mk (Kd.R_elder' (by (with_reducible repeat (first | apply Kd.R_alloc | apply Kd.R_drewN | apply Kd.R_drew)); exact HO_572000.out) (Kd.R_base ho0) hb); have n1_ := Aside0.mk (Kd.R_elder' (by (with_reducible repeat (first | apply Kd.R_alloc | apply Kd.R_drewN | apply Kd.R_drew)); exact HO_577000.out) (Kd.R_base ho0) hb); have n2_ := Aside0.mk (Kd.R_elder' (by (with_reducible repeat (first | apply Kd.R_alloc | apply Kd.R_drewN | apply Kd.R_drew)); exact HO_583000.out) (Kd.R_base ho0) hb); have n3_ := Aside0.mk (Kd.R_elder' (by (with_reducible repeat (first | apply Kd.R_alloc | apply Kd.R_drewN | apply Kd.R_drew)); exact HO597.out) (Kd.R_base ho0) hb); have n4_ := Aside0.mk (Kd.R_lower (Kd.R_new' (Kd.R_new' (Kd.R_new' (Kd.R_new' ho0 (Kd.R_lt (by (with_reducible repeat (first | apply Kd.R_alloc | apply Kd.R_drewN | apply Kd.R_drew)); exact HO_572000.out))) (Kd.R_lt (by (with_reducible repeat (first | apply Kd.R_alloc | apply Kd.R_drewN | apply Kd.R_drew)); exact HO_577000.out))) (Kd.R_lt (by (with_reducible repeat (first | apply Kd.R_alloc | apply Kd.R_drewN | apply Kd.R_drew)); exact HO_583000.out))) (Kd.R_lt (by (with_reducible repeat (first | apply Kd.R_alloc | apply Kd.R_drewN | apply Kd.R_drew)); exact HO597.out))) (below_size (by repeat (first | (with_reducible first | exact HB.out | apply below_alloc | apply pw_below_drewN | apply below_drew1 | refine below_set ?_ GE560.out | refine below_set ?_ GE571.out | refine below_set ?_ GE576.out | refine below_set ?_ GE582.out) | exact HB.out)))); have n5_ := Aside0.mk (blk_below (g := gb560) (o := .cells #[.slice A0_0 l0_0.length c0_0, .int .i64 a0_1] 24 (0, 0)) (by (with_reducible repeat (first | refine blk_drewN ?_ _ | refine blk_drew ?_ | refine blk_alloc ?_ _)); exact BK560.out) hb); have n6_ := Aside0.mk (blk_below (g := gb571) (o := .cells #[.slice Ao22 t566.length co22, .int .i64 t569] 27 (0, 0)) (by (with_reducible repeat (first | refine blk_drewN ?_ _ | refine blk_drew ?_ | refine blk_alloc ?_ _)); exact BK571.out) hb); have n7_ := Aside0.mk (blk_below (g := gb576) (o := .cells #[.slice Ao28 t590.length co28, .int .i64 t575] 27 (0, 0)) (by (with_reducible repeat (first | refine blk_drewN ?_ _ | refine blk_drew ?_ | refine blk_alloc ?_ _)); exact BK576.out) hb); have n8_ := Aside0.mk (blk_below (g := gb582) (o := .cells #[.slice Ao34 t577.length co34, .int .i64 t580] 27 (0, 0)) (by (with_reducible repeat (first | refine blk_drewN ?_ _ | refine blk_drew ?_ | refine blk_alloc ?_ _)); exact BK582.out) hb); have n9_ := Aside0.mk (below_step (by repeat (first | (with_reducible first | exact HB.out | apply below_alloc | apply pw_below_drewN | apply below_drew1 | refine below_set ?_ GE560.out | refine below_set ?_ GE571.out | refine below_set ?_ GE576.out | refine below_set ?_ GE582.out) | exact HB.out)) hb); clear HO_572000; clear HO_577000; clear HO_583000; clear HO597; clear BK560; clear BK571; clear BK576; clear BK582; clear HB; have HO_572000 := n0_; have HO_577000 := n1_; have HO_583000 := n2_; have HO597 := n3_; have HO601 := n4_; have BK560 := n5_; have BK571 := n6_; have BK576 := n7_; have BK582 := n8_; have HB := n9_; clear n0_ n1_ n2_ n3_ n4_ n5_ n6_ n7_ n8_ n9_; (try clear hb); (try clear hb2); (try clear hk); (try clear hi); (try clear ho0)) | ((with_reducible refine gate_dst (N := 16) rfl ?_); refine box_event ?hg (N := 16) ?hd (cs := #[.slice none 0 0, .int .i64 0]) (t := 27) ?hr ?_; (case hd => rfl); (case hg => rfl); (case hr => first | (go_simp; done) | (go_simp; rfl)); intro gb604 hg w119 hbox hb; have n0_ := Aside0.mk (Kd.R_below (by (with_reducible repeat (first | apply Kd.R_alloc | apply Kd.R_drewN | apply Kd.R_drew)); exact HO_572000.out) hb); have n1_ := Aside0.mk (Kd.R_below (by (with_reducible repeat (first | apply Kd.R_alloc | apply Kd.R_drewN | apply Kd.R_drew)); exact HO_577000.out) hb); have n2_ := Aside0.mk (Kd.R_below (by (with_reducible repeat (first | apply Kd.R_alloc | apply Kd.R_drewN | apply Kd.R_drew)); exact HO_583000.out) hb); have n3_ := Aside0.mk (Kd.R_below (by (with_reducible repeat (first | apply Kd.R_alloc | apply Kd.R_drewN | apply Kd.R_drew)); exact HO597.out) hb); have n4_ := Aside0.mk (Kd.R_below (by (with_reducible repeat (first | apply Kd.R_alloc | apply Kd.R_drewN | apply Kd.R_drew)); exact HO601.out) hb); have n5_ := Aside0.mk (blk_below (g := gb560) (o := .cells #[.slice A0_0 l0_0.length c0_0, .int .i64 a0_1] 24 (0, 0)) (by (with_reducible repeat (first | refine blk_drewN ?_ _ | refine blk_drew ?_ | refine blk_alloc ?_ _)); exact BK560.out) hb); have n6_ := Aside0.mk (blk_below (g := gb571) (o := .cells #[.slice Ao22 t566.length co22, .int .i64 t569] 27 (0, 0)) (by (with_reducible repeat (first | refine blk_drewN ?_ _ | refine blk_drew ?_ | refine blk_alloc ?_ _)); exact BK571.out) hb); have n7_ := Aside0.mk (blk_below (g := gb576) (o := .cells #[.slice Ao28 t590.length co28, .int .i64 t575] 27 (0, 0)) (by (with_reducible repeat (first | refine blk_drewN ?_ _ | refine blk_drew ?_ | refine blk_alloc ?_ _)); exact BK576.out) hb); have n8_ := Aside0.mk (blk_below (g := gb582) (o := .cells #[.slice Ao34 t577.length co34, .int .i64 t580] 27 (0, 0)) (by (with_reducible repeat (first | refine blk_drewN ?_ _ | refine blk_drew ?_ | refine blk_alloc ?_ _)); exact BK582.out) hb); have n9_ := Aside0.mk (below_step (by repeat (first | (with_reducible first | exact HB.out | apply below_alloc | apply pw_below_drewN | apply below_drew1 | refine below_set ?_ GE560.out | refine below_set ?_ GE571.out | refine below_set ?_ GE576.out | refine below_set ?_ GE582.out) | exact HB.out)) hb); have n10_ := Aside0.mk (hbox); have n11_ := Aside0.mk ((by rw [hg]; exact (below_size (by repeat (first | (with_reducible first | exact HB.out | apply below_alloc | apply pw_below_drewN | apply below_drew1 | refine below_set ?_ GE560.out | refine below_set ?_ GE571.out | refine below_set ?_ GE576.out | refine below_set ?_ GE582.out) | exact HB.out))) : w.heap.size ≤ gb604)); have n12_ := Aside0.mk ((by rw [hg]; exact (below_size (by repeat (first | (with_reducible first | exact HB.out | apply below_alloc | apply pw_below_drewN | apply below_drew1 | refine below_set ?_ GE560.out | refine below_set ?_ GE571.out | refine below_set ?_ GE576.out | refine below_set ?_ GE582.out) | exact HB.out))) : w.heap.size ≤ gb604)); have n13_ := Aside0.mk ((by rw [hg]; exact Nat.ne_of_lt (blk_lt (g := gb560) (o := .cells #[.slice A0_0 l0_0.length c0_0, .int .i64 a0_1] 24 (0, 0)) (by (with_reducible repeat (first | refine blk_drewN ?_ _ | refine blk_drew ?_ | refine blk_alloc ?_ _)); exact BK560.out)) : gb560 ≠ gb604)); have n14_ := Aside0.mk ((by rw [hg]; exact Nat.ne_of_gt (blk_lt (g := gb560) (o := .cells #[.slice A0_0 l0_0.length c0_0, .int .i64 a0_1] 24 (0, 0)) (by (with_reducible repeat (first | refine blk_drewN ?_ _ | refine blk_drew ?_ | refine blk_alloc ?_ _)); exact BK560.out)) : gb604 ≠ gb560)); have n15_ := Aside0.mk ((by rw [hg]; exact Nat.ne_of_lt (blk_lt (g := gb571) (o := .cells #[.slice Ao22 t566.length co22, .int .i64 t569] 27 (0, 0)) (by (with_reducible repeat (first | refine blk_drewN ?_ _ | refine blk_drew ?_ | refine blk_alloc ?_ _)); exact BK571.out)) : gb571 ≠ gb604)); have n16_ := Aside0.mk ((by rw [hg]; exact Nat.ne_of_gt (blk_lt (g := gb571) (o := .cells #[.slice Ao22 t566.length co22, .int .i64 t569] 27 (0, 0)) (by (with_reducible repeat (first | refine blk_drewN ?_ _ | refine blk_drew ?_ | refine blk_alloc ?_ _)); exact BK571.out)) : gb604 ≠ gb571)); have n17_ := Aside0.mk ((by rw [hg]; exact Nat.ne_of_lt (blk_lt (g := gb576) (o := .cells #[.slice Ao28 t590.length co28, .int .i64 t575] 27 (0, 0)) (by (with_reducible repeat (first | refine blk_drewN ?_ _ | refine blk_drew ?_ | refine blk_alloc ?_ _)); exact BK576.out)) : gb576 ≠ gb604)); have n18_ := Aside0.mk ((by rw [hg]; exact Nat.ne_of_gt (blk_lt (g := gb576) (o := .cells #[.slice Ao28 t590.length co28, .int .i64 t575] 27 (0, 0)) (by (with_reducible repeat (first | refine blk_drewN ?_ _ | refine blk_drew ?_ | refine blk_alloc ?_ _)); exact BK576.out)) : gb604 ≠ gb576)); have n19_ := Aside0.mk ((by rw [hg]; exact Nat.ne_of_lt (blk_lt (g := gb582) (o := .cells #[.slice Ao34 t577.length co34, .int .i64 t580] 27 (0, 0)) (by (with_reducible repeat (first | refine blk_drewN ?_ _ | refine blk_drew ?_ | refine blk_alloc ?_ _)); exact BK582.out)) : gb582 ≠ gb604)); have n20_ := Aside0.mk ((by rw [hg]; exact Nat.ne_of_gt (blk_lt (g := gb582) (o := .cells #[.slice Ao34 t577.length co34, .int .i64 t580] 27 (0, 0)) (by (with_reducible repeat (first | refine blk_drewN ?_ _ | refine blk_drew ?_ | refine blk_alloc ?_ _)); exact BK582.out)) : gb604 ≠ gb582)); clear HO_572000; clear HO_577000; clear HO_583000; clear HO597; clear HO601; clear BK560; clear BK571; clear BK576; clear BK582; clear HB; have HO_572000 := n0_; have HO_577000 := n1_; have HO_583000 := n2_; have HO597 := n3_; have HO601 := n4_; have BK560 := n5_; have BK571 := n6_; have BK576 := n7_; have BK582 := n8_; have HB := n9_; have BK604 := n10_; have GW604 := n11_; have GE604 := n12_; have NB560_604 := n13_; have NB604_560 := n14_; have NB571_604 := n15_; have NB604_571 := n16_; have NB576_604 := n17_; have NB604_576 := n18_; have NB582_604 := n19_; have NB604_582 := n20_; clear n0_ n1_ n2_ n3_ n4_ n5_ n6_ n7_ n8_ n9_ n10_ n11_ n12_ n13_ n14_ n15_ n16_ n17_ n18_ n19_ n20_; clear hb hbox hg; obtain ⟨Ao120, co120, eo120⟩ := Kd.R_slice HO601.out; subst eo120; have hnb121 := NB604_560.out; have hnc121 := NB560_604.out; have hnb122 := NB604_571.out; have hnc122 := NB571_604.out; have hnb123 := NB604_576.out; have hnc123 := NB576_604.out; have hnb124 := NB604_582.out; have hnc124 := NB582_604.out; have hcz125_0 : w119.cell? ⟨gb604, 0, none⟩ = some (.slice none 0 0) := (blk_cell BK604.out 0).trans rfl; have hcz125_1 : w119.cell? ⟨gb604, 1, none⟩ = some (.int .i64 0) := (blk_cell BK604.out 1).trans rfl; have hfz125_0 := blk_frozen BK604.out 0; have hfz125_1 := blk_frozen BK604.out 1))
           (try simp only [Act.put, List.setIfInBounds_toArray, List.set_cons_zero, List.set_cons_succ])
           go_cut [97] (fun v97 wc => ∃ (kq : Nat) (x97_104 : Bool), v97 = .bool x97_104 ∧ Aside0 (laws_FnExactMixTwo.j2 kq t592 x97_104 t593 t580 = some r) ∧ Aside0 (kq ≤ kj61) ∧ Aside0 (Kd.R (Kd.int .i64) 3 wc w.heap.size (fun k_ => some k_ ≠ ((.slice Ao28 t590.length co28) : Value).ownBlock ∧ some k_ ≠ ((.slice Ao34 t577.length co34) : Value).ownBlock ∧ some k_ ≠ ((.slice Ao120 t599.length co120) : Value).ownBlock) (.slice Ao22 t566.length co22) t566) ∧ Aside0 (Kd.R (Kd.int .i64) 3 wc w.heap.size (fun k_ => some k_ ≠ ((.slice Ao22 t566.length co22) : Value).ownBlock ∧ some k_ ≠ ((.slice Ao34 t577.length co34) : Value).ownBlock ∧ some k_ ≠ ((.slice Ao120 t599.length co120) : Value).ownBlock) (.slice Ao28 t590.length co28) t590) ∧ Aside0 (Kd.R (Kd.int .i64) 3 wc w.heap.size (fun k_ => some k_ ≠ ((.slice Ao22 t566.length co22) : Value).ownBlock ∧ some k_ ≠ ((.slice Ao28 t590.length co28) : Value).ownBlock ∧ some k_ ≠ ((.slice Ao120 t599.length co120) : Value).ownBlock) (.slice Ao34 t577.length co34) t593) ∧ Aside0 (Kd.R (Kd.int .i64) 3 wc w.heap.size (fun k_ => some k_ ≠ ((.slice Ao22 t566.length co22) : Value).ownBlock ∧ some k_ ≠ ((.slice Ao28 t590.length co28) : Value).ownBlock ∧ some k_ ≠ ((.slice Ao34 t577.length co34) : Value).ownBlock) (.slice Ao120 t599.length co120) t599) ∧ Aside0 (wc.heap[gb560]? = some (.cells #[(.slice A0_0 l0_0.length c0_0), .int .i64 a0_1] 24 (0, 0))) ∧ Aside0 (wc.heap[gb571]? = some (.cells #[(.slice Ao22 t566.length co22), .int .i64 t569] 27 (0, 0))) ∧ Aside0 (wc.heap[gb576]? = some (.cells #[(.slice Ao28 t590.length co28), .int .i64 t575] 27 (0, 0))) ∧ Aside0 (wc.heap[gb582]? = some (.cells #[(.slice Ao34 t577.length co34), .int .i64 t580] 27 (0, 0))) ∧ Aside0 (wc.heap[gb604]? = some (.cells #[(.slice Ao120 t599.length co120), .int .i64 t602] 27 (0, 0))) ∧ Aside0 (Below w.heap.size w wc))
           case first =>
            have H := HC105.out
            clear HC105
            replace H := Option.bind_eq_some_iff.mp H
            obtain ⟨t605, A1260, H⟩ := H
            replace H : (if t605 = true then (laws_FnExactMixTwo.j2 kj61 t592 (t603 != t570) t593 t580) else (laws_FnExactMixTwo.j2 kj61 t592 true t593 t580)) = some r := H
            have A126 := Aside0.mk A1260
            clear A1260
            by_cases c127 : t605 = true
            ·subst c127
             have H1 : (laws_FnExactMixTwo.j2 kj61 t592 (t603 != t570) t593 t580) = some r := by rw [if_pos rfl] at H; exact H
             clear H
             have H := H1
             clear H1
             have H' := Aside0.mk H
             clear H
             have hnb128 := NB604_560.out
             have hnc128 := NB560_604.out
             have hnb129 := NB604_571.out
             have hnc129 := NB571_604.out
             have hnb130 := NB604_576.out
             have hnc130 := NB576_604.out
             have hnb131 := NB604_582.out
             have hnc131 := NB582_604.out
             have hcz132_0 : w119.cell? ⟨gb604, 0, none⟩ = some (.slice none 0 0) := (blk_cell BK604.out 0).trans rfl
             have hcz132_1 : w119.cell? ⟨gb604, 1, none⟩ = some (.int .i64 0) := (blk_cell BK604.out 1).trans rfl
             have hfz132_0 := blk_frozen BK604.out 0
             have hfz132_1 := blk_frozen BK604.out 1
             have hnb133 := NB571_560.out
             have hnc133 := NB560_571.out
             have hnb134 := NB571_576.out
             have hnc134 := NB576_571.out
             have hnb135 := NB571_582.out
             have hnc135 := NB582_571.out
             have hcz136_0 : w119.cell? ⟨gb571, 0, none⟩ = some (.slice Ao22 t566.length co22) := (blk_cell BK571.out 0).trans rfl
             have hcz136_1 : w119.cell? ⟨gb571, 1, none⟩ = some (.int .i64 t569) := (blk_cell BK571.out 1).trans rfl
             have hfz136_0 := blk_frozen BK571.out 0
             have hfz136_1 := blk_frozen BK571.out 1
             go_wp2_with (first | ((with_reducible refine gate_callee (f := 20) rfl ?_); refine goesL_ (some 91) rfl rfl Try.func20 (by kernel_rfl) rfl #[.agg #[.slice Ao120 t599.length co120, .int .i64 t602], .agg #[.slice Ao22 t566.length co22, .int .i64 t569]] rfl (by (try simp only [List.map_toArray, List.map_cons, List.map_nil]); first | done | rfl | (simp only [List.length_drop, List.length_take]; rfl)) ?_; (with_reducible refine (laws_eqCups.calls kj61 _ _ t599 t602 _ _ t566 t569 true _ ?side1 ?side2 ?side3 ?side4 A126.out).mono ?_); (case side1 => refine (Kd.R_reads' (e := 3) (base := w.heap.size) (ok := fun k_ => ((((True ∧ some k_ ≠ (.slice Ao22 t566.length co22 : Value).ownBlock) ∧ some k_ ≠ (.slice Ao28 t590.length co28 : Value).ownBlock) ∧ some k_ ≠ (.slice Ao34 t577.length co34 : Value).ownBlock) ∧ some k_ ≠ (.slice Ao117 t595.length co117 : Value).ownBlock)) (n := t599.length) (c := co120) ?_).2.2; exact (by (with_reducible repeat (first | apply Kd.R_alloc | apply Kd.R_drewN | apply Kd.R_drew)); exact (Kd.R_mono (Kd.R_far (p := ⟨gb604, 1, none⟩) (Kd.R_far (p := ⟨gb604, 0, none⟩) (Kd.R_types HO601.out BK604.out (by decide)) (fun _ hk => hk.2) (.slice Ao120 t599.length co120)) (fun _ hk => hk.2) (.int .i64 t602)) (fun _ h_ => h_.1)))); (case side2 => exact (Kd.R_reads' HO601.out).2.1); (case side3 => refine (Kd.R_reads' (e := 3) (base := w.heap.size) (ok := fun k_ => (((some k_ ≠ (.slice Ao28 t590.length co28 : Value).ownBlock ∧ some k_ ≠ (.slice Ao34 t577.length co34 : Value).ownBlock) ∧ some k_ ≠ (.slice Ao117 t595.length co117 : Value).ownBlock) ∧ some k_ ≠ (.slice Ao120 t599.length co120 : Value).ownBlock)) (n := t566.length) (c := co22) ?_).2.2; exact (by (with_reducible repeat (first | apply Kd.R_alloc | apply Kd.R_drewN | apply Kd.R_drew)); exact (Kd.R_mono (Kd.R_far (p := ⟨gb604, 1, none⟩) (Kd.R_far (p := ⟨gb604, 0, none⟩) (Kd.R_types HO_572000.out BK604.out (by decide)) (fun _ hk => hk.2) (.slice Ao120 t599.length co120)) (fun _ hk => hk.2) (.int .i64 t602)) (fun _ h_ => h_.1)))); (case side4 => exact (Kd.R_reads' HO_572000.out).2.1); rintro e w137 ⟨rfl, hb⟩; refine ⟨_, rfl, ?_⟩; have n0_ := Aside0.mk (Kd.R_below (by (with_reducible repeat (first | apply Kd.R_alloc | apply Kd.R_drewN | apply Kd.R_drew)); exact (Kd.R_mono (Kd.R_far (p := ⟨gb604, 1, none⟩) (Kd.R_far (p := ⟨gb604, 0, none⟩) (Kd.R_types HO_572000.out BK604.out (by decide)) (fun _ hk => hk.2) (.slice Ao120 t599.length co120)) (fun _ hk => hk.2) (.int .i64 t602)) (fun _ h_ => h_.1))) hb); have n1_ := Aside0.mk (Kd.R_below (by (with_reducible repeat (first | apply Kd.R_alloc | apply Kd.R_drewN | apply Kd.R_drew)); exact (Kd.R_mono (Kd.R_far (p := ⟨gb604, 1, none⟩) (Kd.R_far (p := ⟨gb604, 0, none⟩) (Kd.R_types HO_577000.out BK604.out (by decide)) (fun _ hk => hk.2) (.slice Ao120 t599.length co120)) (fun _ hk => hk.2) (.int .i64 t602)) (fun _ h_ => h_.1))) hb); have n2_ := Aside0.mk (Kd.R_below (by (with_reducible repeat (first | apply Kd.R_alloc | apply Kd.R_drewN | apply Kd.R_drew)); exact (Kd.R_mono (Kd.R_far (p := ⟨gb604, 1, none⟩) (Kd.R_far (p := ⟨gb604, 0, none⟩) (Kd.R_types HO_583000.out BK604.out (by decide)) (fun _ hk => hk.2) (.slice Ao120 t599.length co120)) (fun _ hk => hk.2) (.int .i64 t602)) (fun _ h_ => h_.1))) hb); have n3_ := Aside0.mk (Kd.R_below (by (with_reducible repeat (first | apply Kd.R_alloc | apply Kd.R_drewN | apply Kd.R_drew)); exact (Kd.R_mono (Kd.R_far (p := ⟨gb604, 1, none⟩) (Kd.R_far (p := ⟨gb604, 0, none⟩) (Kd.R_types HO597.out BK604.out (by decide)) (fun _ hk => hk.2) (.slice Ao120 t599.length co120)) (fun _ hk => hk.2) (.int .i64 t602)) (fun _ h_ => h_.1))) hb); have n4_ := Aside0.mk (Kd.R_below (by (with_reducible repeat (first | apply Kd.R_alloc | apply Kd.R_drewN | apply Kd.R_drew)); exact (Kd.R_mono (Kd.R_far (p := ⟨gb604, 1, none⟩) (Kd.R_far (p := ⟨gb604, 0, none⟩) (Kd.R_types HO601.out BK604.out (by decide)) (fun _ hk => hk.2) (.slice Ao120 t599.length co120)) (fun _ hk => hk.2) (.int .i64 t602)) (fun _ h_ => h_.1))) hb); have n5_ := Aside0.mk (blk_below (g := gb560) (o := .cells #[.slice A0_0 l0_0.length c0_0, .int .i64 a0_1] 24 (0, 0)) (by (with_reducible repeat (first | refine blk_drewN ?_ _ | refine blk_drew ?_ | refine blk_alloc ?_ _)); refine blk_far ?_ NB560_604.out _; (with_reducible repeat (first | refine blk_drewN ?_ _ | refine blk_drew ?_ | refine blk_alloc ?_ _)); refine blk_far ?_ NB560_604.out _; (with_reducible repeat (first | refine blk_drewN ?_ _ | refine blk_drew ?_ | refine blk_alloc ?_ _)); exact BK560.out) hb); have n6_ := Aside0.mk (blk_below (g := gb571) (o := .cells #[.slice Ao22 t566.length co22, .int .i64 t569] 27 (0, 0)) (by (with_reducible repeat (first | refine blk_drewN ?_ _ | refine blk_drew ?_ | refine blk_alloc ?_ _)); refine blk_far ?_ NB571_604.out _; (with_reducible repeat (first | refine blk_drewN ?_ _ | refine blk_drew ?_ | refine blk_alloc ?_ _)); refine blk_far ?_ NB571_604.out _; (with_reducible repeat (first | refine blk_drewN ?_ _ | refine blk_drew ?_ | refine blk_alloc ?_ _)); exact BK571.out) hb); have n7_ := Aside0.mk (blk_below (g := gb576) (o := .cells #[.slice Ao28 t590.length co28, .int .i64 t575] 27 (0, 0)) (by (with_reducible repeat (first | refine blk_drewN ?_ _ | refine blk_drew ?_ | refine blk_alloc ?_ _)); refine blk_far ?_ NB576_604.out _; (with_reducible repeat (first | refine blk_drewN ?_ _ | refine blk_drew ?_ | refine blk_alloc ?_ _)); refine blk_far ?_ NB576_604.out _; (with_reducible repeat (first | refine blk_drewN ?_ _ | refine blk_drew ?_ | refine blk_alloc ?_ _)); exact BK576.out) hb); have n8_ := Aside0.mk (blk_below (g := gb582) (o := .cells #[.slice Ao34 t577.length co34, .int .i64 t580] 27 (0, 0)) (by (with_reducible repeat (first | refine blk_drewN ?_ _ | refine blk_drew ?_ | refine blk_alloc ?_ _)); refine blk_far ?_ NB582_604.out _; (with_reducible repeat (first | refine blk_drewN ?_ _ | refine blk_drew ?_ | refine blk_alloc ?_ _)); refine blk_far ?_ NB582_604.out _; (with_reducible repeat (first | refine blk_drewN ?_ _ | refine blk_drew ?_ | refine blk_alloc ?_ _)); exact BK582.out) hb); have n9_ := Aside0.mk (blk_below (g := gb604) (o := .cells #[.slice Ao120 t599.length co120, .int .i64 t602] 27 (0, 0)) (by (with_reducible repeat (first | refine blk_drewN ?_ _ | refine blk_drew ?_ | refine blk_alloc ?_ _)); refine blk_put (cs := #[.slice Ao120 t599.length co120, .int .i64 0]) ?_ 1 _ rfl; (with_reducible repeat (first | refine blk_drewN ?_ _ | refine blk_drew ?_ | refine blk_alloc ?_ _)); refine blk_put (cs := #[.slice none 0 0, .int .i64 0]) ?_ 0 _ rfl; (with_reducible repeat (first | refine blk_drewN ?_ _ | refine blk_drew ?_ | refine blk_alloc ?_ _)); exact BK604.out) hb); have n10_ := Aside0.mk (below_step (by repeat (first | (with_reducible first | exact HB.out | apply below_alloc | apply pw_below_drewN | apply below_drew1 | refine below_set ?_ GE560.out | refine below_set ?_ GE571.out | refine below_set ?_ GE576.out | refine below_set ?_ GE582.out | refine below_set ?_ GE604.out) | exact HB.out)) hb); clear HO_572000; clear HO_577000; clear HO_583000; clear HO597; clear HO601; clear BK560; clear BK571; clear BK576; clear BK582; clear BK604; clear HB; have HO_572000 := n0_; have HO_577000 := n1_; have HO_583000 := n2_; have HO597 := n3_; have HO601 := n4_; have BK560 := n5_; have BK571 := n6_; have BK576 := n7_; have BK582 := n8_; have BK604 := n9_; have HB := n10_; clear n0_ n1_ n2_ n3_ n4_ n5_ n6_ n7_ n8_ n9_ n10_; (try clear hb); (try clear hb2); (try clear hk); (try clear hi)))
             go_meet
             case rel => exact ⟨_, ((t603 != t570)), (by first | rfl | (simp; done) | (simp [*]; done)), H', ⟨by have := HJ12.out; have := HJ61.out; first | omega | exact Nat.le_refl _⟩, ⟨by (try simp only [hl577000_61]); (with_reducible repeat (first | apply Kd.R_alloc | apply Kd.R_drewN | apply Kd.R_drew)); exact Kd.R_mono HO_572000.out (fun _ hk => ⟨hk.1.1.1, ⟨hk.1.1.2, hk.2⟩⟩)⟩, ⟨by (try simp only [hl577000_61]); (with_reducible repeat (first | apply Kd.R_alloc | apply Kd.R_drewN | apply Kd.R_drew)); exact Kd.R_mono HO_577000.out (fun _ hk => ⟨hk.1.1.1, ⟨hk.1.1.2, hk.2⟩⟩)⟩, ⟨by (try simp only [hl577000_61]); (with_reducible repeat (first | apply Kd.R_alloc | apply Kd.R_drewN | apply Kd.R_drew)); exact Kd.R_mono HO_583000.out (fun _ hk => ⟨hk.1.1.1, ⟨hk.1.1.2, hk.2⟩⟩)⟩, ⟨by (try simp only [hl577000_61]); (with_reducible repeat (first | apply Kd.R_alloc | apply Kd.R_drewN | apply Kd.R_drew)); exact Kd.R_mono HO601.out (fun _ hk => ⟨hk.1.1.1.2, ⟨hk.1.1.2, hk.1.2⟩⟩)⟩, ⟨by (try simp only [hl577000_61]); (with_reducible repeat (first | refine blk_drewN ?_ _ | refine blk_drew ?_ | refine blk_alloc ?_ _)); exact BK560.out⟩, ⟨by (try simp only [hl577000_61]); (with_reducible repeat (first | refine blk_drewN ?_ _ | refine blk_drew ?_ | refine blk_alloc ?_ _)); exact BK571.out⟩, ⟨by (try simp only [hl577000_61]); (with_reducible repeat (first | refine blk_drewN ?_ _ | refine blk_drew ?_ | refine blk_alloc ?_ _)); exact BK576.out⟩, ⟨by (try simp only [hl577000_61]); (with_reducible repeat (first | refine blk_drewN ?_ _ | refine blk_drew ?_ | refine blk_alloc ?_ _)); exact BK582.out⟩, ⟨by (try simp only [hl577000_61]); (with_reducible repeat (first | refine blk_drewN ?_ _ | refine blk_drew ?_ | refine blk_alloc ?_ _)); exact BK604.out⟩, ⟨by repeat (first | (with_reducible first | exact HB.out | apply below_alloc | apply pw_below_drewN | apply below_drew1 | refine below_set ?_ GE560.out | refine below_set ?_ GE571.out | refine below_set ?_ GE576.out | refine below_set ?_ GE582.out | refine below_set ?_ GE604.out) | exact HB.out)⟩⟩
            ·replace c127 := Bool.eq_false_iff.mpr c127
             subst c127
             have H1 : (laws_FnExactMixTwo.j2 kj61 t592 true t593 t580) = some r := by rw [if_neg (show ¬ (false = true) by decide)] at H; exact H
             clear H
             have H := H1
             clear H1
             have H' := Aside0.mk H
             clear H
             have hnb138 := NB604_560.out
             have hnc138 := NB560_604.out
             have hnb139 := NB604_571.out
             have hnc139 := NB571_604.out
             have hnb140 := NB604_576.out
             have hnc140 := NB576_604.out
             have hnb141 := NB604_582.out
             have hnc141 := NB582_604.out
             have hcz142_0 : w119.cell? ⟨gb604, 0, none⟩ = some (.slice none 0 0) := (blk_cell BK604.out 0).trans rfl
             have hcz142_1 : w119.cell? ⟨gb604, 1, none⟩ = some (.int .i64 0) := (blk_cell BK604.out 1).trans rfl
             have hfz142_0 := blk_frozen BK604.out 0
             have hfz142_1 := blk_frozen BK604.out 1
             have hnb143 := NB571_560.out
             have hnc143 := NB560_571.out
             have hnb144 := NB571_576.out
             have hnc144 := NB576_571.out
             have hnb145 := NB571_582.out
             have hnc145 := NB582_571.out
             have hcz146_0 : w119.cell? ⟨gb571, 0, none⟩ = some (.slice Ao22 t566.length co22) := (blk_cell BK571.out 0).trans rfl
             have hcz146_1 : w119.cell? ⟨gb571, 1, none⟩ = some (.int .i64 t569) := (blk_cell BK571.out 1).trans rfl
             have hfz146_0 := blk_frozen BK571.out 0
             have hfz146_1 := blk_frozen BK571.out 1
             go_wp2_with (first | ((with_reducible refine gate_callee (f := 20) rfl ?_); refine goesL_ (some 91) rfl rfl Try.func20 (by kernel_rfl) rfl #[.agg #[.slice Ao120 t599.length co120, .int .i64 t602], .agg #[.slice Ao22 t566.length co22, .int .i64 t569]] rfl (by (try simp only [List.map_toArray, List.map_cons, List.map_nil]); first | done | rfl | (simp only [List.length_drop, List.length_take]; rfl)) ?_; (with_reducible refine (laws_eqCups.calls kj61 _ _ t599 t602 _ _ t566 t569 false _ ?side1 ?side2 ?side3 ?side4 A126.out).mono ?_); (case side1 => refine (Kd.R_reads' (e := 3) (base := w.heap.size) (ok := fun k_ => ((((True ∧ some k_ ≠ (.slice Ao22 t566.length co22 : Value).ownBlock) ∧ some k_ ≠ (.slice Ao28 t590.length co28 : Value).ownBlock) ∧ some k_ ≠ (.slice Ao34 t577.length co34 : Value).ownBlock) ∧ some k_ ≠ (.slice Ao117 t595.length co117 : Value).ownBlock)) (n := t599.length) (c := co120) ?_).2.2; exact (by (with_reducible repeat (first | apply Kd.R_alloc | apply Kd.R_drewN | apply Kd.R_drew)); exact (Kd.R_mono (Kd.R_far (p := ⟨gb604, 1, none⟩) (Kd.R_far (p := ⟨gb604, 0, none⟩) (Kd.R_types HO601.out BK604.out (by decide)) (fun _ hk => hk.2) (.slice Ao120 t599.length co120)) (fun _ hk => hk.2) (.int .i64 t602)) (fun _ h_ => h_.1)))); (case side2 => exact (Kd.R_reads' HO601.out).2.1); (case side3 => refine (Kd.R_reads' (e := 3) (base := w.heap.size) (ok := fun k_ => (((some k_ ≠ (.slice Ao28 t590.length co28 : Value).ownBlock ∧ some k_ ≠ (.slice Ao34 t577.length co34 : Value).ownBlock) ∧ some k_ ≠ (.slice Ao117 t595.length co117 : Value).ownBlock) ∧ some k_ ≠ (.slice Ao120 t599.length co120 : Value).ownBlock)) (n := t566.length) (c := co22) ?_).2.2; exact (by (with_reducible repeat (first | apply Kd.R_alloc | apply Kd.R_drewN | apply Kd.R_drew)); exact (Kd.R_mono (Kd.R_far (p := ⟨gb604, 1, none⟩) (Kd.R_far (p := ⟨gb604, 0, none⟩) (Kd.R_types HO_572000.out BK604.out (by decide)) (fun _ hk => hk.2) (.slice Ao120 t599.length co120)) (fun _ hk => hk.2) (.int .i64 t602)) (fun _ h_ => h_.1)))); (case side4 => exact (Kd.R_reads' HO_572000.out).2.1); rintro e w147 ⟨rfl, hb⟩; refine ⟨_, rfl, ?_⟩; have n0_ := Aside0.mk (Kd.R_below (by (with_reducible repeat (first | apply Kd.R_alloc | apply Kd.R_drewN | apply Kd.R_drew)); exact (Kd.R_mono (Kd.R_far (p := ⟨gb604, 1, none⟩) (Kd.R_far (p := ⟨gb604, 0, none⟩) (Kd.R_types HO_572000.out BK604.out (by decide)) (fun _ hk => hk.2) (.slice Ao120 t599.length co120)) (fun _ hk => hk.2) (.int .i64 t602)) (fun _ h_ => h_.1))) hb); have n1_ := Aside0.mk (Kd.R_below (by (with_reducible repeat (first | apply Kd.R_alloc | apply Kd.R_drewN | apply Kd.R_drew)); exact (Kd.R_mono (Kd.R_far (p := ⟨gb604, 1, none⟩) (Kd.R_far (p := ⟨gb604, 0, none⟩) (Kd.R_types HO_577000.out BK604.out (by decide)) (fun _ hk => hk.2) (.slice Ao120 t599.length co120)) (fun _ hk => hk.2) (.int .i64 t602)) (fun _ h_ => h_.1))) hb); have n2_ := Aside0.mk (Kd.R_below (by (with_reducible repeat (first | apply Kd.R_alloc | apply Kd.R_drewN | apply Kd.R_drew)); exact (Kd.R_mono (Kd.R_far (p := ⟨gb604, 1, none⟩) (Kd.R_far (p := ⟨gb604, 0, none⟩) (Kd.R_types HO_583000.out BK604.out (by decide)) (fun _ hk => hk.2) (.slice Ao120 t599.length co120)) (fun _ hk => hk.2) (.int .i64 t602)) (fun _ h_ => h_.1))) hb); have n3_ := Aside0.mk (Kd.R_below (by (with_reducible repeat (first | apply Kd.R_alloc | apply Kd.R_drewN | apply Kd.R_drew)); exact (Kd.R_mono (Kd.R_far (p := ⟨gb604, 1, none⟩) (Kd.R_far (p := ⟨gb604, 0, none⟩) (Kd.R_types HO597.out BK604.out (by decide)) (fun _ hk => hk.2) (.slice Ao120 t599.length co120)) (fun _ hk => hk.2) (.int .i64 t602)) (fun _ h_ => h_.1))) hb); have n4_ := Aside0.mk (Kd.R_below (by (with_reducible repeat (first | apply Kd.R_alloc | apply Kd.R_drewN | apply Kd.R_drew)); exact (Kd.R_mono (Kd.R_far (p := ⟨gb604, 1, none⟩) (Kd.R_far (p := ⟨gb604, 0, none⟩) (Kd.R_types HO601.out BK604.out (by decide)) (fun _ hk => hk.2) (.slice Ao120 t599.length co120)) (fun _ hk => hk.2) (.int .i64 t602)) (fun _ h_ => h_.1))) hb); have n5_ := Aside0.mk (blk_below (g := gb560) (o := .cells #[.slice A0_0 l0_0.length c0_0, .int .i64 a0_1] 24 (0, 0)) (by (with_reducible repeat (first | refine blk_drewN ?_ _ | refine blk_drew ?_ | refine blk_alloc ?_ _)); refine blk_far ?_ NB560_604.out _; (with_reducible repeat (first | refine blk_drewN ?_ _ | refine blk_drew ?_ | refine blk_alloc ?_ _)); refine blk_far ?_ NB560_604.out _; (with_reducible repeat (first | refine blk_drewN ?_ _ | refine blk_drew ?_ | refine blk_alloc ?_ _)); exact BK560.out) hb); have n6_ := Aside0.mk (blk_below (g := gb571) (o := .cells #[.slice Ao22 t566.length co22, .int .i64 t569] 27 (0, 0)) (by (with_reducible repeat (first | refine blk_drewN ?_ _ | refine blk_drew ?_ | refine blk_alloc ?_ _)); refine blk_far ?_ NB571_604.out _; (with_reducible repeat (first | refine blk_drewN ?_ _ | refine blk_drew ?_ | refine blk_alloc ?_ _)); refine blk_far ?_ NB571_604.out _; (with_reducible repeat (first | refine blk_drewN ?_ _ | refine blk_drew ?_ | refine blk_alloc ?_ _)); exact BK571.out) hb); have n7_ := Aside0.mk (blk_below (g := gb576) (o := .cells #[.slice Ao28 t590.length co28, .int .i64 t575] 27 (0, 0)) (by (with_reducible repeat (first | refine blk_drewN ?_ _ | refine blk_drew ?_ | refine blk_alloc ?_ _)); refine blk_far ?_ NB576_604.out _; (with_reducible repeat (first | refine blk_drewN ?_ _ | refine blk_drew ?_ | refine blk_alloc ?_ _)); refine blk_far ?_ NB576_604.out _; (with_reducible repeat (first | refine blk_drewN ?_ _ | refine blk_drew ?_ | refine blk_alloc ?_ _)); exact BK576.out) hb); have n8_ := Aside0.mk (blk_below (g := gb582) (o := .cells #[.slice Ao34 t577.length co34, .int .i64 t580] 27 (0, 0)) (by (with_reducible repeat (first | refine blk_drewN ?_ _ | refine blk_drew ?_ | refine blk_alloc ?_ _)); refine blk_far ?_ NB582_604.out _; (with_reducible repeat (first | refine blk_drewN ?_ _ | refine blk_drew ?_ | refine blk_alloc ?_ _)); refine blk_far ?_ NB582_604.out _; (with_reducible repeat (first | refine blk_drewN ?_ _ | refine blk_drew ?_ | refine blk_alloc ?_ _)); exact BK582.out) hb); have n9_ := Aside0.mk (blk_below (g := gb604) (o := .cells #[.slice Ao120 t599.length co120, .int .i64 t602] 27 (0, 0)) (by (with_reducible repeat (first | refine blk_drewN ?_ _ | refine blk_drew ?_ | refine blk_alloc ?_ _)); refine blk_put (cs := #[.slice Ao120 t599.length co120, .int .i64 0]) ?_ 1 _ rfl; (with_reducible repeat (first | refine blk_drewN ?_ _ | refine blk_drew ?_ | refine blk_alloc ?_ _)); refine blk_put (cs := #[.slice none 0 0, .int .i64 0]) ?_ 0 _ rfl; (with_reducible repeat (first | refine blk_drewN ?_ _ | refine blk_drew ?_ | refine blk_alloc ?_ _)); exact BK604.out) hb); have n10_ := Aside0.mk (below_step (by repeat (first | (with_reducible first | exact HB.out | apply below_alloc | apply pw_below_drewN | apply below_drew1 | refine below_set ?_ GE560.out | refine below_set ?_ GE571.out | refine below_set ?_ GE576.out | refine below_set ?_ GE582.out | refine below_set ?_ GE604.out) | exact HB.out)) hb); clear HO_572000; clear HO_577000; clear HO_583000; clear HO597; clear HO601; clear BK560; clear BK571; clear BK576; clear BK582; clear BK604; clear HB; have HO_572000 := n0_; have HO_577000 := n1_; have HO_583000 := n2_; have HO597 := n3_; have HO601 := n4_; have BK560 := n5_; have BK571 := n6_; have BK576 := n7_; have BK582 := n8_; have BK604 := n9_; have HB := n10_; clear n0_ n1_ n2_ n3_ n4_ n5_ n6_ n7_ n8_ n9_ n10_; (try clear hb); (try clear hb2); (try clear hk); (try clear hi)))
             go_meet
             case rel => exact ⟨_, (true), (by first | rfl | (simp; done) | (simp [*]; done)), H', ⟨by have := HJ12.out; have := HJ61.out; first | omega | exact Nat.le_refl _⟩, ⟨by (try simp only [hl577000_61]); (with_reducible repeat (first | apply Kd.R_alloc | apply Kd.R_drewN | apply Kd.R_drew)); exact Kd.R_mono HO_572000.out (fun _ hk => ⟨hk.1.1.1, ⟨hk.1.1.2, hk.2⟩⟩)⟩, ⟨by (try simp only [hl577000_61]); (with_reducible repeat (first | apply Kd.R_alloc | apply Kd.R_drewN | apply Kd.R_drew)); exact Kd.R_mono HO_577000.out (fun _ hk => ⟨hk.1.1.1, ⟨hk.1.1.2, hk.2⟩⟩)⟩, ⟨by (try simp only [hl577000_61]); (with_reducible repeat (first | apply Kd.R_alloc | apply Kd.R_drewN | apply Kd.R_drew)); exact Kd.R_mono HO_583000.out (fun _ hk => ⟨hk.1.1.1, ⟨hk.1.1.2, hk.2⟩⟩)⟩, ⟨by (try simp only [hl577000_61]); (with_reducible repeat (first | apply Kd.R_alloc | apply Kd.R_drewN | apply Kd.R_drew)); exact Kd.R_mono HO601.out (fun _ hk => ⟨hk.1.1.1.2, ⟨hk.1.1.2, hk.1.2⟩⟩)⟩, ⟨by (try simp only [hl577000_61]); (with_reducible repeat (first | refine blk_drewN ?_ _ | refine blk_drew ?_ | refine blk_alloc ?_ _)); exact BK560.out⟩, ⟨by (try simp only [hl577000_61]); (with_reducible repeat (first | refine blk_drewN ?_ _ | refine blk_drew ?_ | refine blk_alloc ?_ _)); exact BK571.out⟩, ⟨by (try simp only [hl577000_61]); (with_reducible repeat (first | refine blk_drewN ?_ _ | refine blk_drew ?_ | refine blk_alloc ?_ _)); exact BK576.out⟩, ⟨by (try simp only [hl577000_61]); (with_reducible repeat (first | refine blk_drewN ?_ _ | refine blk_drew ?_ | refine blk_alloc ?_ _)); exact BK582.out⟩, ⟨by (try simp only [hl577000_61]); (with_reducible repeat (first | refine blk_drewN ?_ _ | refine blk_drew ?_ | refine blk_alloc ?_ _)); exact BK604.out⟩, ⟨by repeat (first | (with_reducible first | exact HB.out | apply below_alloc | apply pw_below_drewN | apply below_drew1 | refine below_set ?_ GE560.out | refine below_set ?_ GE571.out | refine below_set ?_ GE576.out | refine below_set ?_ GE582.out | refine below_set ?_ GE604.out) | exact HB.out)⟩⟩
           case rest =>
            clear HC105
            try clear c1
            try clear c2
            try clear p2
            try clear c3
            try clear c4
            try clear c5
            try clear c5b0
            try clear c6
            try clear c7
            try clear c8
            try clear c9
            try clear c10
            try clear c11
            try clear c12
            try clear c13
            try clear c14
            try clear c16
            try clear c18
            try clear c20
            try clear c23
            try clear c26
            try clear c27
            try clear c29
            try clear c30
            try clear c35
            try clear c36
            try clear c37
            try clear c40
            try clear c41
            try clear c42
            try clear c43
            try clear c44
            try clear c45
            try clear c46
            try clear c49
            try clear c50
            try clear c51
            try clear c53
            try clear c54
            try clear c57
            try clear c60
            try clear c67
            try clear c68
            try clear c69
            try clear c72
            try clear c72b0
            try clear c74
            try clear c75
            try clear c76
            try clear c77
            try clear c79
            try clear c80
            try clear c83
            try clear c84
            try clear c85
            try clear c87
            try clear c88
            try clear c91
            try clear c94
            try clear c94b0
            try clear c95
            try clear c96
            try clear c97
            try clear c102
            try clear c102b0
            try clear c102b1
            try clear c106
            try clear c107
            try clear c108
            try clear c113
            try clear c114
            try clear c121
            try clear c122
            try clear c123
            try clear c124
            try clear c127
            try clear c128
            try clear c129
            try clear c130
            try clear c131
            try clear c133
            try clear c134
            try clear c135
            try clear c138
            try clear c139
            try clear c140
            try clear c141
            try clear c143
            try clear c144
            try clear c145
            try clear hcz100_0
            try clear hcz100_1
            try clear hcz109_0
            try clear hcz109_1
            try clear hcz111_0
            try clear hcz111_1
            try clear hcz115_0
            try clear hcz115_1
            try clear hcz125_0
            try clear hcz125_1
            try clear hcz132_0
            try clear hcz132_1
            try clear hcz136_0
            try clear hcz136_1
            try clear hcz142_0
            try clear hcz142_1
            try clear hcz146_0
            try clear hcz146_1
            try clear hcz15_0
            try clear hcz15_1
            try clear hcz17_0
            try clear hcz17_1
            try clear hcz24_0
            try clear hcz24_1
            try clear hcz25_0
            try clear hcz25_1
            try clear hcz31_0
            try clear hcz31_1
            try clear hcz38_0
            try clear hcz38_1
            try clear hcz44_0
            try clear hcz44_1
            try clear hcz47_0
            try clear hcz47_1
            try clear hcz52_0
            try clear hcz52_1
            try clear hcz55_0
            try clear hcz55_1
            try clear hcz70_0
            try clear hcz70_1
            try clear hcz78_0
            try clear hcz78_1
            try clear hcz7_0
            try clear hcz7_1
            try clear hcz81_0
            try clear hcz81_1
            try clear hcz86_0
            try clear hcz86_1
            try clear hcz89_0
            try clear hcz89_1
            try clear hcz98_0
            try clear hcz98_1
            try clear hfz100_0
            try clear hfz100_1
            try clear hfz109_0
            try clear hfz109_1
            try clear hfz111_0
            try clear hfz111_1
            try clear hfz115_0
            try clear hfz115_1
            try clear hfz125_0
            try clear hfz125_1
            try clear hfz132_0
            try clear hfz132_1
            try clear hfz136_0
            try clear hfz136_1
            try clear hfz142_0
            try clear hfz142_1
            try clear hfz146_0
            try clear hfz146_1
            try clear hfz15_0
            try clear hfz15_1
            try clear hfz17_0
            try clear hfz17_1
            try clear hfz24_0
            try clear hfz24_1
            try clear hfz25_0
            try clear hfz25_1
            try clear hfz31_0
            try clear hfz31_1
            try clear hfz38_0
            try clear hfz38_1
            try clear hfz44_0
            try clear hfz44_1
            try clear hfz47_0
            try clear hfz47_1
            try clear hfz52_0
            try clear hfz52_1
            try clear hfz55_0
            try clear hfz55_1
            try clear hfz70_0
            try clear hfz70_1
            try clear hfz78_0
            try clear hfz78_1
            try clear hfz7_0
            try clear hfz7_1
            try clear hfz81_0
            try clear hfz81_1
            try clear hfz86_0
            try clear hfz86_1
            try clear hfz89_0
            try clear hfz89_1
            try clear hfz98_0
            try clear hfz98_1
            try clear p2
            obtain ⟨kq, x97_104, rfl, HA, HJ104, HO_572000, HO_577000, HO_583000, HO_605000, BK560, BK571, BK576, BK582, BK604, HB⟩ := hcut
            have hl583000_104 := (Kd.R_reads' HO_583000.out).1
            rw [hl583000_104] at HO_583000
            (try simp only [hl583000_104])
            (try simp only [hl583000_104] at BK560)
            (try simp only [hl583000_104] at BK571)
            (try simp only [hl583000_104] at BK576)
            (try simp only [hl583000_104] at BK582)
            (try simp only [hl583000_104] at BK604)
            (try simp only [hl583000_104] at HO_572000)
            (try simp only [hl583000_104] at HO_577000)
            (try simp only [hl583000_104] at HO_605000)
            cases kq with
            | zero => exact absurd HA.out (by simp [laws_FnExactMixTwo.j2])
            | succ kj104 =>
             have H := HA.out
             clear HA
             simp only [laws_FnExactMixTwo.j2] at H
             by_cases c148 : x97_104 = true
             ·subst c148
              have H1 : (some false) = some r := by rw [if_pos rfl] at H; exact H
              clear H
              have H := H1
              clear H1
              obtain rfl := Option.some.inj H
              go_wp2
              go_ret
              exact ⟨by first | rfl | (simp [errW_none, errW_some] <;> rfl) | (simp [*, errW_none, errW_some] <;> rfl), by repeat (first | (with_reducible first | exact HB.out | apply below_alloc | apply pw_below_drewN | apply below_drew1 | refine below_set ?_ GE560.out | refine below_set ?_ GE571.out | refine below_set ?_ GE576.out | refine below_set ?_ GE582.out | refine below_set ?_ GE604.out) | exact HB.out)⟩
             ·replace c148 := Bool.eq_false_iff.mpr c148
              subst c148
              have H1 : ((laws_heldCups.f kj104 t593 t580 1).bind fun t606 => (if t606 < 0 then (some false) else (if t606 = t592 then (some true) else (some false)))) = some r := by rw [if_neg (show ¬ (false = true) by decide)] at H; exact H
              clear H
              have H := H1
              clear H1
              replace H := Option.bind_eq_some_iff.mp H
              obtain ⟨t606, A1490, H⟩ := H
              replace H : (if t606 < 0 then (some false) else (if t606 = t592 then (some true) else (some false))) = some r := H
              have A149 := Aside0.mk A1490
              clear A1490
              by_cases c150 : t606 < 0
              ·rw [if_pos c150] at H
               have c150b0 : decide (t606 < 0) = true := decide_eq_true c150
               clear c150
               obtain rfl := Option.some.inj H
               have hnb151 := NB582_560.out
               have hnc151 := NB560_582.out
               have hnb152 := NB582_571.out
               have hnc152 := NB571_582.out
               have hnb153 := NB582_576.out
               have hnc153 := NB576_582.out
               have hnb154 := NB582_604.out
               have hnc154 := NB604_582.out
               have hcz155_0 : wc.cell? ⟨gb582, 0, none⟩ = some (.slice Ao34 t593.length co34) := (blk_cell BK582.out 0).trans rfl
               have hcz155_1 : wc.cell? ⟨gb582, 1, none⟩ = some (.int .i64 t580) := (blk_cell BK582.out 1).trans rfl
               have hfz155_0 := blk_frozen BK582.out 0
               have hfz155_1 := blk_frozen BK582.out 1
               go_wp2_with (first | ((with_reducible refine gate_callee (f := 27) rfl ?_); refine goesL_ (some 100) rfl rfl Try.func27 (by kernel_rfl) rfl #[.agg #[.slice Ao34 t593.length co34, .int .i64 t580], .int .i64 1] rfl (by (try simp only [List.map_toArray, List.map_cons, List.map_nil]); first | done | rfl | (simp only [List.length_drop, List.length_take]; rfl)) ?_; (with_reducible refine (laws_heldCups.calls kj104 _ _ t593 t580 1 t606 _ ?side1 ?side2 A149.out).mono ?_); (case side1 => repeat (first | exact (Kd.R_reads' HO_583000.out).2.2 | (with_reducible refine Kd.C_alloc ?_ _) | (with_reducible refine Kd.C_drewN ?_ _) | (with_reducible refine Kd.C_drew ?_))); (case side2 => exact (Kd.R_reads' HO_583000.out).2.1); rintro e w156 ⟨rfl, hb⟩; refine ⟨_, rfl, ?_⟩; have n0_ := Aside0.mk (Kd.R_below (by (with_reducible repeat (first | apply Kd.R_alloc | apply Kd.R_drewN | apply Kd.R_drew)); exact HO_572000.out) hb); have n1_ := Aside0.mk (Kd.R_below (by (with_reducible repeat (first | apply Kd.R_alloc | apply Kd.R_drewN | apply Kd.R_drew)); exact HO_577000.out) hb); have n2_ := Aside0.mk (Kd.R_below (by (with_reducible repeat (first | apply Kd.R_alloc | apply Kd.R_drewN | apply Kd.R_drew)); exact HO_583000.out) hb); have n3_ := Aside0.mk (Kd.R_below (by (with_reducible repeat (first | apply Kd.R_alloc | apply Kd.R_drewN | apply Kd.R_drew)); exact HO_605000.out) hb); have n4_ := Aside0.mk (blk_below (g := gb560) (o := .cells #[.slice A0_0 l0_0.length c0_0, .int .i64 a0_1] 24 (0, 0)) (by (with_reducible repeat (first | refine blk_drewN ?_ _ | refine blk_drew ?_ | refine blk_alloc ?_ _)); exact BK560.out) hb); have n5_ := Aside0.mk (blk_below (g := gb571) (o := .cells #[.slice Ao22 t566.length co22, .int .i64 t569] 27 (0, 0)) (by (with_reducible repeat (first | refine blk_drewN ?_ _ | refine blk_drew ?_ | refine blk_alloc ?_ _)); exact BK571.out) hb); have n6_ := Aside0.mk (blk_below (g := gb576) (o := .cells #[.slice Ao28 t590.length co28, .int .i64 t575] 27 (0, 0)) (by (with_reducible repeat (first | refine blk_drewN ?_ _ | refine blk_drew ?_ | refine blk_alloc ?_ _)); exact BK576.out) hb); have n7_ := Aside0.mk (blk_below (g := gb582) (o := .cells #[.slice Ao34 t593.length co34, .int .i64 t580] 27 (0, 0)) (by (with_reducible repeat (first | refine blk_drewN ?_ _ | refine blk_drew ?_ | refine blk_alloc ?_ _)); exact BK582.out) hb); have n8_ := Aside0.mk (blk_below (g := gb604) (o := .cells #[.slice Ao120 t599.length co120, .int .i64 t602] 27 (0, 0)) (by (with_reducible repeat (first | refine blk_drewN ?_ _ | refine blk_drew ?_ | refine blk_alloc ?_ _)); exact BK604.out) hb); have n9_ := Aside0.mk (below_step (by repeat (first | (with_reducible first | exact HB.out | apply below_alloc | apply pw_below_drewN | apply below_drew1 | refine below_set ?_ GE560.out | refine below_set ?_ GE571.out | refine below_set ?_ GE576.out | refine below_set ?_ GE582.out | refine below_set ?_ GE604.out) | exact HB.out)) hb); clear HO_572000; clear HO_577000; clear HO_583000; clear HO_605000; clear BK560; clear BK571; clear BK576; clear BK582; clear BK604; clear HB; have HO_572000 := n0_; have HO_577000 := n1_; have HO_583000 := n2_; have HO_605000 := n3_; have BK560 := n4_; have BK571 := n5_; have BK576 := n6_; have BK582 := n7_; have BK604 := n8_; have HB := n9_; clear n0_ n1_ n2_ n3_ n4_ n5_ n6_ n7_ n8_ n9_; (try clear hb); (try clear hb2); (try clear hk); (try clear hi)))
               go_ret
               exact ⟨by first | rfl | (simp [errW_none, errW_some] <;> rfl) | (simp [*, errW_none, errW_some] <;> rfl), by repeat (first | (with_reducible first | exact HB.out | apply below_alloc | apply pw_below_drewN | apply below_drew1 | refine below_set ?_ GE560.out | refine below_set ?_ GE571.out | refine below_set ?_ GE576.out | refine below_set ?_ GE582.out | refine below_set ?_ GE604.out) | exact HB.out)⟩
              ·rw [if_neg c150] at H
               have c150b0 : decide (t606 < 0) = false := decide_eq_false c150
               clear c150
               by_cases c157 : t606 = t592
               ·rw [if_pos c157] at H
                have c157b0 : (t606 == t592) = true := beq_iff_eq.mpr c157
                have c157b1 : (t606 != t592) = false := bne_eq_false_iff_eq.mpr c157
                clear c157
                obtain rfl := Option.some.inj H
                have hnb158 := NB582_560.out
                have hnc158 := NB560_582.out
                have hnb159 := NB582_571.out
                have hnc159 := NB571_582.out
                have hnb160 := NB582_576.out
                have hnc160 := NB576_582.out
                have hnb161 := NB582_604.out
                have hnc161 := NB604_582.out
                have hcz162_0 : wc.cell? ⟨gb582, 0, none⟩ = some (.slice Ao34 t593.length co34) := (blk_cell BK582.out 0).trans rfl
                have hcz162_1 : wc.cell? ⟨gb582, 1, none⟩ = some (.int .i64 t580) := (blk_cell BK582.out 1).trans rfl
                have hfz162_0 := blk_frozen BK582.out 0
                have hfz162_1 := blk_frozen BK582.out 1
                go_wp2_with (first | ((with_reducible refine gate_callee (f := 27) rfl ?_); refine goesL_ (some 100) rfl rfl Try.func27 (by kernel_rfl) rfl #[.agg #[.slice Ao34 t593.length co34, .int .i64 t580], .int .i64 1] rfl (by (try simp only [List.map_toArray, List.map_cons, List.map_nil]); first | done | rfl | (simp only [List.length_drop, List.length_take]; rfl)) ?_; (with_reducible refine (laws_heldCups.calls kj104 _ _ t593 t580 1 t606 _ ?side1 ?side2 A149.out).mono ?_); (case side1 => repeat (first | exact (Kd.R_reads' HO_583000.out).2.2 | (with_reducible refine Kd.C_alloc ?_ _) | (with_reducible refine Kd.C_drewN ?_ _) | (with_reducible refine Kd.C_drew ?_))); (case side2 => exact (Kd.R_reads' HO_583000.out).2.1); rintro e w163 ⟨rfl, hb⟩; refine ⟨_, rfl, ?_⟩; have n0_ := Aside0.mk (Kd.R_below (by (with_reducible repeat (first | apply Kd.R_alloc | apply Kd.R_drewN | apply Kd.R_drew)); exact HO_572000.out) hb); have n1_ := Aside0.mk (Kd.R_below (by (with_reducible repeat (first | apply Kd.R_alloc | apply Kd.R_drewN | apply Kd.R_drew)); exact HO_577000.out) hb); have n2_ := Aside0.mk (Kd.R_below (by (with_reducible repeat (first | apply Kd.R_alloc | apply Kd.R_drewN | apply Kd.R_drew)); exact HO_583000.out) hb); have n3_ := Aside0.mk (Kd.R_below (by (with_reducible repeat (first | apply Kd.R_alloc | apply Kd.R_drewN | apply Kd.R_drew)); exact HO_605000.out) hb); have n4_ := Aside0.mk (blk_below (g := gb560) (o := .cells #[.slice A0_0 l0_0.length c0_0, .int .i64 a0_1] 24 (0, 0)) (by (with_reducible repeat (first | refine blk_drewN ?_ _ | refine blk_drew ?_ | refine blk_alloc ?_ _)); exact BK560.out) hb); have n5_ := Aside0.mk (blk_below (g := gb571) (o := .cells #[.slice Ao22 t566.length co22, .int .i64 t569] 27 (0, 0)) (by (with_reducible repeat (first | refine blk_drewN ?_ _ | refine blk_drew ?_ | refine blk_alloc ?_ _)); exact BK571.out) hb); have n6_ := Aside0.mk (blk_below (g := gb576) (o := .cells #[.slice Ao28 t590.length co28, .int .i64 t575] 27 (0, 0)) (by (with_reducible repeat (first | refine blk_drewN ?_ _ | refine blk_drew ?_ | refine blk_alloc ?_ _)); exact BK576.out) hb); have n7_ := Aside0.mk (blk_below (g := gb582) (o := .cells #[.slice Ao34 t593.length co34, .int .i64 t580] 27 (0, 0)) (by (with_reducible repeat (first | refine blk_drewN ?_ _ | refine blk_drew ?_ | refine blk_alloc ?_ _)); exact BK582.out) hb); have n8_ := Aside0.mk (blk_below (g := gb604) (o := .cells #[.slice Ao120 t599.length co120, .int .i64 t602] 27 (0, 0)) (by (with_reducible repeat (first | refine blk_drewN ?_ _ | refine blk_drew ?_ | refine blk_alloc ?_ _)); exact BK604.out) hb); have n9_ := Aside0.mk (below_step (by repeat (first | (with_reducible first | exact HB.out | apply below_alloc | apply pw_below_drewN | apply below_drew1 | refine below_set ?_ GE560.out | refine below_set ?_ GE571.out | refine below_set ?_ GE576.out | refine below_set ?_ GE582.out | refine below_set ?_ GE604.out) | exact HB.out)) hb); clear HO_572000; clear HO_577000; clear HO_583000; clear HO_605000; clear BK560; clear BK571; clear BK576; clear BK582; clear BK604; clear HB; have HO_572000 := n0_; have HO_577000 := n1_; have HO_583000 := n2_; have HO_605000 := n3_; have BK560 := n4_; have BK571 := n5_; have BK576 := n6_; have BK582 := n7_; have BK604 := n8_; have HB := n9_; clear n0_ n1_ n2_ n3_ n4_ n5_ n6_ n7_ n8_ n9_; (try clear hb); (try clear hb2); (try clear hk); (try clear hi)))
                go_ret
                exact ⟨by first | rfl | (simp [errW_none, errW_some] <;> rfl) | (simp [*, errW_none, errW_some] <;> rfl), by repeat (first | (with_reducible first | exact HB.out | apply below_alloc | apply pw_below_drewN | apply below_drew1 | refine below_set ?_ GE560.out | refine below_set ?_ GE571.out | refine below_set ?_ GE576.out | refine below_set ?_ GE582.out | refine below_set ?_ GE604.out) | exact HB.out)⟩
               ·rw [if_neg c157] at H
                have c157b0 : (t606 == t592) = false := beq_eq_false_iff_ne.mpr c157
                have c157b1 : (t606 != t592) = true := bne_iff_ne.mpr c157
                obtain rfl := Option.some.inj H
                have hnb164 := NB582_560.out
                have hnc164 := NB560_582.out
                have hnb165 := NB582_571.out
                have hnc165 := NB571_582.out
                have hnb166 := NB582_576.out
                have hnc166 := NB576_582.out
                have hnb167 := NB582_604.out
                have hnc167 := NB604_582.out
                have hcz168_0 : wc.cell? ⟨gb582, 0, none⟩ = some (.slice Ao34 t593.length co34) := (blk_cell BK582.out 0).trans rfl
                have hcz168_1 : wc.cell? ⟨gb582, 1, none⟩ = some (.int .i64 t580) := (blk_cell BK582.out 1).trans rfl
                have hfz168_0 := blk_frozen BK582.out 0
                have hfz168_1 := blk_frozen BK582.out 1
                go_wp2_with (first | ((with_reducible refine gate_callee (f := 27) rfl ?_); refine goesL_ (some 100) rfl rfl Try.func27 (by kernel_rfl) rfl #[.agg #[.slice Ao34 t593.length co34, .int .i64 t580], .int .i64 1] rfl (by (try simp only [List.map_toArray, List.map_cons, List.map_nil]); first | done | rfl | (simp only [List.length_drop, List.length_take]; rfl)) ?_; (with_reducible refine (laws_heldCups.calls kj104 _ _ t593 t580 1 t606 _ ?side1 ?side2 A149.out).mono ?_); (case side1 => repeat (first | exact (Kd.R_reads' HO_583000.out).2.2 | (with_reducible refine Kd.C_alloc ?_ _) | (with_reducible refine Kd.C_drewN ?_ _) | (with_reducible refine Kd.C_drew ?_))); (case side2 => exact (Kd.R_reads' HO_583000.out).2.1); rintro e w169 ⟨rfl, hb⟩; refine ⟨_, rfl, ?_⟩; have n0_ := Aside0.mk (Kd.R_below (by (with_reducible repeat (first | apply Kd.R_alloc | apply Kd.R_drewN | apply Kd.R_drew)); exact HO_572000.out) hb); have n1_ := Aside0.mk (Kd.R_below (by (with_reducible repeat (first | apply Kd.R_alloc | apply Kd.R_drewN | apply Kd.R_drew)); exact HO_577000.out) hb); have n2_ := Aside0.mk (Kd.R_below (by (with_reducible repeat (first | apply Kd.R_alloc | apply Kd.R_drewN | apply Kd.R_drew)); exact HO_583000.out) hb); have n3_ := Aside0.mk (Kd.R_below (by (with_reducible repeat (first | apply Kd.R_alloc | apply Kd.R_drewN | apply Kd.R_drew)); exact HO_605000.out) hb); have n4_ := Aside0.mk (blk_below (g := gb560) (o := .cells #[.slice A0_0 l0_0.length c0_0, .int .i64 a0_1] 24 (0, 0)) (by (with_reducible repeat (first | refine blk_drewN ?_ _ | refine blk_drew ?_ | refine blk_alloc ?_ _)); exact BK560.out) hb); have n5_ := Aside0.mk (blk_below (g := gb571) (o := .cells #[.slice Ao22 t566.length co22, .int .i64 t569] 27 (0, 0)) (by (with_reducible repeat (first | refine blk_drewN ?_ _ | refine blk_drew ?_ | refine blk_alloc ?_ _)); exact BK571.out) hb); have n6_ := Aside0.mk (blk_below (g := gb576) (o := .cells #[.slice Ao28 t590.length co28, .int .i64 t575] 27 (0, 0)) (by (with_reducible repeat (first | refine blk_drewN ?_ _ | refine blk_drew ?_ | refine blk_alloc ?_ _)); exact BK576.out) hb); have n7_ := Aside0.mk (blk_below (g := gb582) (o := .cells #[.slice Ao34 t593.length co34, .int .i64 t580] 27 (0, 0)) (by (with_reducible repeat (first | refine blk_drewN ?_ _ | refine blk_drew ?_ | refine blk_alloc ?_ _)); exact BK582.out) hb); have n8_ := Aside0.mk (blk_below (g := gb604) (o := .cells #[.slice Ao120 t599.length co120, .int .i64 t602] 27 (0, 0)) (by (with_reducible repeat (first | refine blk_drewN ?_ _ | refine blk_drew ?_ | refine blk_alloc ?_ _)); exact BK604.out) hb); have n9_ := Aside0.mk (below_step (by repeat (first | (with_reducible first | exact HB.out | apply below_alloc | apply pw_below_drewN | apply below_drew1 | refine below_set ?_ GE560.out | refine below_set ?_ GE571.out | refine below_set ?_ GE576.out | refine below_set ?_ GE582.out | refine below_set ?_ GE604.out) | exact HB.out)) hb); clear HO_572000; clear HO_577000; clear HO_583000; clear HO_605000; clear BK560; clear BK571; clear BK576; clear BK582; clear BK604; clear HB; have HO_572000 := n0_; have HO_577000 := n1_; have HO_583000 := n2_; have HO_605000 := n3_; have BK560 := n4_; have BK571 := n5_; have BK576 := n6_; have BK582 := n7_; have BK604 := n8_; have HB := n9_; clear n0_ n1_ n2_ n3_ n4_ n5_ n6_ n7_ n8_ n9_; (try clear hb); (try clear hb2); (try clear hk); (try clear hi)))
                go_ret
                exact ⟨by first | rfl | (simp [errW_none, errW_some] <;> rfl) | (simp [*, errW_none, errW_some] <;> rfl), by repeat (first | (with_reducible first | exact HB.out | apply below_alloc | apply pw_below_drewN | apply below_drew1 | refine below_set ?_ GE560.out | refine below_set ?_ GE571.out | refine below_set ?_ GE576.out | refine below_set ?_ GE582.out | refine below_set ?_ GE604.out) | exact HB.out)⟩
          ·rw [if_neg c102] at H
           have c102b0 : (t594 == t592) = false := beq_eq_false_iff_ne.mpr c102
           have c102b1 : (t594 != t592) = true := bne_iff_ne.mpr c102
           obtain rfl := Option.some.inj H
           have hnb170 := NB582_560.out
           have hnc170 := NB560_582.out
           have hnb171 := NB582_571.out
           have hnc171 := NB571_582.out
           have hnb172 := NB582_576.out
           have hnc172 := NB576_582.out
           have hcz173_0 : wc.cell? ⟨gb582, 0, none⟩ = some (.slice Ao34 t577.length co34) := (blk_cell BK582.out 0).trans rfl
           have hcz173_1 : wc.cell? ⟨gb582, 1, none⟩ = some (.int .i64 t580) := (blk_cell BK582.out 1).trans rfl
           have hfz173_0 := blk_frozen BK582.out 0
           have hfz173_1 := blk_frozen BK582.out 1
           go_wp2_with (first | ((with_reducible refine gate_callee (f := 26) rfl ?_); refine goesL_ (some 72) rfl rfl Try.func26 (by kernel_rfl) rfl #[.agg #[.slice Ao34 t577.length co34, .int .i64 t580], .int .i64 1] rfl (by (try simp only [List.map_toArray, List.map_cons, List.map_nil]); first | done | rfl | (simp only [List.length_drop, List.length_take]; rfl)) ?_; (with_reducible refine (laws_markCups.calls kj61 (fun k_ => some k_ = (.slice Ao34 t577.length co34 : Value).ownBlock) (.slice Ao34 t577.length co34) t577 t580 1 t592 t593 w _ ?side1 ?side2 A92.out).mono ?_); (case side1 => repeat (first | (with_reducible first | exact HB.out | apply below_alloc | apply pw_below_drewN | apply below_drew1 | refine below_set ?_ GE560.out | refine below_set ?_ GE571.out | refine below_set ?_ GE576.out | refine below_set ?_ GE582.out) | exact HB.out)); (case side2 => exact Kd.R_tight rfl HO_583000.out); rintro e w174 ⟨rfl, hy0, hb, hkp⟩; refine ⟨_, rfl, ?_⟩; have n0_ := Aside0.mk (Kd.R_mono (ok' := fun k_ => some k_ ≠ (.slice Ao28 t590.length co28 : Value).ownBlock ∧ some k_ ≠ (.slice Ao34 t577.length co34 : Value).ownBlock) (Kd.R_keptB (HO_572000.out) hkp (fun k_ hk_ hs_ => (hk_.2) hs_)) (fun k_ hk_ => ⟨hk_.1.1, hk_.1.2⟩)); have n1_ := Aside0.mk (Kd.R_mono (ok' := fun k_ => some k_ ≠ (.slice Ao22 t566.length co22 : Value).ownBlock ∧ some k_ ≠ (.slice Ao34 t577.length co34 : Value).ownBlock) (Kd.R_keptB (HO_577000.out) hkp (fun k_ hk_ hs_ => (hk_.2) hs_)) (fun k_ hk_ => ⟨hk_.1.1, hk_.1.2⟩)); have n2_ := Aside0.mk (Kd.R_reok rfl hy0 (fun k_ e_ => HO_583000.out.1 k_ e_)); have n3_ := Aside0.mk (blk_kept (by (with_reducible repeat (first | refine blk_drewN ?_ _ | refine blk_drew ?_ | refine blk_alloc ?_ _)); exact BK560.out) hkp (fun hs_ => (fun e_ => (Kd.R_ne HO_583000.out BK560.out (by decide)) e_) hs_)); have n4_ := Aside0.mk (blk_kept (by (with_reducible repeat (first | refine blk_drewN ?_ _ | refine blk_drew ?_ | refine blk_alloc ?_ _)); exact BK571.out) hkp (fun hs_ => (fun e_ => (Kd.R_ne HO_583000.out BK571.out (by decide)) e_) hs_)); have n5_ := Aside0.mk (blk_kept (by (with_reducible repeat (first | refine blk_drewN ?_ _ | refine blk_drew ?_ | refine blk_alloc ?_ _)); exact BK576.out) hkp (fun hs_ => (fun e_ => (Kd.R_ne HO_583000.out BK576.out (by decide)) e_) hs_)); have n6_ := Aside0.mk (blk_kept (by (with_reducible repeat (first | refine blk_drewN ?_ _ | refine blk_drew ?_ | refine blk_alloc ?_ _)); exact BK582.out) hkp (fun hs_ => (fun e_ => (Kd.R_ne HO_583000.out BK582.out (by decide)) e_) hs_)); have n7_ := Aside0.mk (hb); clear HO_572000; clear HO_577000; clear HO_583000; clear BK560; clear BK571; clear BK576; clear BK582; clear HB; have HO_572000 := n0_; have HO_577000 := n1_; have HO_583000 := n2_; have BK560 := n3_; have BK571 := n4_; have BK576 := n5_; have BK582 := n6_; have HB := n7_; clear n0_ n1_ n2_ n3_ n4_ n5_ n6_ n7_; (try clear hb); (try clear hkp); (try clear hy0); have hcz175_0 : w174.cell? ⟨gb582, 0, none⟩ = some (.slice Ao34 t577.length co34) := (blk_cell BK582.out 0).trans rfl; have hcz175_1 : w174.cell? ⟨gb582, 1, none⟩ = some (.int .i64 t580) := (blk_cell BK582.out 1).trans rfl; have hfz175_0 := blk_frozen BK582.out 0; have hfz175_1 := blk_frozen BK582.out 1) | ((with_reducible refine gate_callee (f := 27) rfl ?_); refine goesL_ (some 75) rfl rfl Try.func27 (by kernel_rfl) rfl #[.agg #[.slice Ao34 t593.length co34, .int .i64 t580], .int .i64 1] rfl (by (try simp only [List.map_toArray, List.map_cons, List.map_nil]); first | done | (rw [show t593.length = t577.length from (Kd.R_reads' HO_583000.out).1.symm] <;> rfl) | rfl | (simp only [List.length_drop, List.length_take]; rfl)) ?_; (with_reducible refine (laws_heldCups.calls kj61 _ _ t593 t580 1 t594 _ ?side1 ?side2 A93.out).mono ?_); (case side1 => repeat (first | exact (Kd.R_reads' HO_583000.out).2.2 | (with_reducible refine Kd.C_alloc ?_ _) | (with_reducible refine Kd.C_drewN ?_ _) | (with_reducible refine Kd.C_drew ?_))); (case side2 => rw [show t593.length = t577.length from (Kd.R_reads' HO_583000.out).1.symm]; exact (Kd.R_reads' HO_583000.out).2.1); rintro e w176 ⟨rfl, hb⟩; refine ⟨_, rfl, ?_⟩; have n0_ := Aside0.mk (Kd.R_below (by (with_reducible repeat (first | apply Kd.R_alloc | apply Kd.R_drewN | apply Kd.R_drew)); exact HO_572000.out) hb); have n1_ := Aside0.mk (Kd.R_below (by (with_reducible repeat (first | apply Kd.R_alloc | apply Kd.R_drewN | apply Kd.R_drew)); exact HO_577000.out) hb); have n2_ := Aside0.mk (Kd.R_below (by (with_reducible repeat (first | apply Kd.R_alloc | apply Kd.R_drewN | apply Kd.R_drew)); exact HO_583000.out) hb); have n3_ := Aside0.mk (blk_below (g := gb560) (o := .cells #[.slice A0_0 l0_0.length c0_0, .int .i64 a0_1] 24 (0, 0)) (by (with_reducible repeat (first | refine blk_drewN ?_ _ | refine blk_drew ?_ | refine blk_alloc ?_ _)); exact BK560.out) hb); have n4_ := Aside0.mk (blk_below (g := gb571) (o := .cells #[.slice Ao22 t566.length co22, .int .i64 t569] 27 (0, 0)) (by (with_reducible repeat (first | refine blk_drewN ?_ _ | refine blk_drew ?_ | refine blk_alloc ?_ _)); exact BK571.out) hb); have n5_ := Aside0.mk (blk_below (g := gb576) (o := .cells #[.slice Ao28 t590.length co28, .int .i64 t575] 27 (0, 0)) (by (with_reducible repeat (first | refine blk_drewN ?_ _ | refine blk_drew ?_ | refine blk_alloc ?_ _)); exact BK576.out) hb); have n6_ := Aside0.mk (blk_below (g := gb582) (o := .cells #[.slice Ao34 t577.length co34, .int .i64 t580] 27 (0, 0)) (by (with_reducible repeat (first | refine blk_drewN ?_ _ | refine blk_drew ?_ | refine blk_alloc ?_ _)); exact BK582.out) hb); have n7_ := Aside0.mk (below_step (by repeat (first | (with_reducible first | exact HB.out | apply below_alloc | apply pw_below_drewN | apply below_drew1 | refine below_set ?_ GE560.out | refine below_set ?_ GE571.out | refine below_set ?_ GE576.out | refine below_set ?_ GE582.out) | exact HB.out)) hb); clear HO_572000; clear HO_577000; clear HO_583000; clear BK560; clear BK571; clear BK576; clear BK582; clear HB; have HO_572000 := n0_; have HO_577000 := n1_; have HO_583000 := n2_; have BK560 := n3_; have BK571 := n4_; have BK576 := n5_; have BK582 := n6_; have HB := n7_; clear n0_ n1_ n2_ n3_ n4_ n5_ n6_ n7_; (try clear hb); (try clear hb2); (try clear hk); (try clear hi)))
           go_ret
           exact ⟨by first | rfl | (simp [errW_none, errW_some] <;> rfl) | (simp [*, errW_none, errW_some] <;> rfl), by repeat (first | (with_reducible first | exact HB.out | apply below_alloc | apply pw_below_drewN | apply below_drew1 | refine below_set ?_ GE560.out | refine below_set ?_ GE571.out | refine below_set ?_ GE576.out | refine below_set ?_ GE582.out) | exact HB.out)⟩
     ·replace c60 := Bool.eq_false_iff.mpr c60
      subst c60
      have H1 : (some false) = some r := by rw [if_neg (show ¬ (false = true) by decide)] at H; exact H
      clear H
      have H := H1
      clear H1
      obtain rfl := Option.some.inj H
      try go_wp2
      have n0_ := Aside0.mk (Kd.R_drew HO_572000.out)
      have n1_ := Aside0.mk (Kd.R_drew HO_577000.out)
      have n2_ := Aside0.mk (Kd.R_drew HO_583000.out)
      have n3_ := Aside0.mk (blk_drew BK560.out)
      have n4_ := Aside0.mk (blk_drew BK571.out)
      have n5_ := Aside0.mk (blk_drew BK576.out)
      have n6_ := Aside0.mk (blk_drew BK582.out)
      have n7_ := Aside0.mk (below_drew1 HB.out)
      clear HO_572000
      clear HO_577000
      clear HO_583000
      clear BK560
      clear BK571
      clear BK576
      clear BK582
      clear HB
      have HO_572000 := n0_
      have HO_577000 := n1_
      have HO_583000 := n2_
      have BK560 := n3_
      have BK571 := n4_
      have BK576 := n5_
      have BK582 := n6_
      have HB := n7_
      clear n0_ n1_ n2_ n3_ n4_ n5_ n6_ n7_
      refine start_ (n := 5) (S := fun w' => w'.cell? ⟨gb576, 0, none⟩ = some (.slice Ao28 t572.length co28) ∧ w'.cell? ⟨gb576, 1, none⟩ = some (.int .i64 t575) ∧ w'.cell? ⟨gb560, 0, none⟩ = some (.slice A0_0 l0_0.length c0_0) ∧ w'.cell? ⟨gb560, 1, none⟩ = some (.int .i64 a0_1)) (ds := []) #[false, false, false, false, false] (by kernel_rfl) rfl rfl ⟨(blk_cell BK576.out 0).trans rfl, (blk_cell BK576.out 1).trans rfl, (blk_cell BK560.out 0).trans rfl, (blk_cell BK560.out 1).trans rfl⟩ (fun hHeld => ?_)
      generalize wc.drew = w177 at HO_572000 HO_577000 HO_583000 BK560 BK571 BK576 BK582 HB hHeld ⊢
      refine take_ (i := 0) (N := some 49) (v := ?_) (a' := ?_) #[true, false, false, false, false] rfl rfl (by kernel_rfl) (fun _ _ _ h => h) (Or.inl ⟨by rfl, ?_⟩) hHeld ?_ ?_
      rotate_left
      ·rintro w' ⟨s0, s1, s2, s3⟩
       go_simp
       with_reducible rfl
      rotate_left
      ·simp only [Act.put, List.setIfInBounds_toArray, List.set_cons_zero, List.set_cons_succ, i64_w, i32_w]
       rfl
      refine take_ (i := 1) (N := some 50) (v := ?_) (a' := ?_) #[true, true, false, false, false] rfl rfl (by kernel_rfl) (fun _ _ _ h => h) (Or.inl ⟨by rfl, ?_⟩) hHeld ?_ ?_
      rotate_left
      ·rintro w' ⟨s0, s1, s2, s3⟩
       go_simp
       with_reducible rfl
      rotate_left
      ·simp only [Act.put, List.setIfInBounds_toArray, List.set_cons_zero, List.set_cons_succ, i64_w, i32_w]
       rfl
      refine one_ (i := 2) (N := some 51) #[true, true, true, false, false] rfl rfl (by kernel_rfl) (by decide) (fun K hK => ?_)
      refine goes_ Try.func18 (by kernel_rfl) rfl #[.agg #[.slice A0_0 l0_0.length c0_0, .int .i64 a0_1]] (by rfl) rfl rfl (by (try simp only [List.map_toArray, List.map_cons, List.map_nil]); first | done | rfl | (simp only [List.length_drop, List.length_take]; rfl)) ?_
      with_reducible refine (laws_toCups.calls kj12 _ _ l0_0 a0_1 t584 t587 _ ?side1 ?side2 A58.out).mono ?_
      (case side1 => repeat (first | exact (Kd.C_below HR0_0.out HB.out) | (with_reducible refine Kd.C_alloc ?_ _) | (with_reducible refine Kd.C_drewN ?_ _) | (with_reducible refine Kd.C_drew ?_)))
      (case side2 => exact HC0_0.out)
      rintro e w178 ⟨v585, rfl, ho0, hb⟩
      refine ⟨_, rfl, ?_⟩
      have n0_ := Aside0.mk (Kd.R_elder' (by (with_reducible repeat (first | apply Kd.R_alloc | apply Kd.R_drewN | apply Kd.R_drew)); exact HO_572000.out) (Kd.R_base ho0) hb)
      have n1_ := Aside0.mk (Kd.R_elder' (by (with_reducible repeat (first | apply Kd.R_alloc | apply Kd.R_drewN | apply Kd.R_drew)); exact HO_577000.out) (Kd.R_base ho0) hb)
      have n2_ := Aside0.mk (Kd.R_elder' (by (with_reducible repeat (first | apply Kd.R_alloc | apply Kd.R_drewN | apply Kd.R_drew)); exact HO_583000.out) (Kd.R_base ho0) hb)
      have n3_ := Aside0.mk (Kd.R_lower (Kd.R_new' (Kd.R_new' (Kd.R_new' ho0 (Kd.R_lt (by (with_reducible repeat (first | apply Kd.R_alloc | apply Kd.R_drewN | apply Kd.R_drew)); exact HO_572000.out))) (Kd.R_lt (by (with_reducible repeat (first | apply Kd.R_alloc | apply Kd.R_drewN | apply Kd.R_drew)); exact HO_577000.out))) (Kd.R_lt (by (with_reducible repeat (first | apply Kd.R_alloc | apply Kd.R_drewN | apply Kd.R_drew)); exact HO_583000.out))) (below_size (by repeat (first | (with_reducible first | exact HB.out | apply below_alloc | apply pw_below_drewN | apply below_drew1 | refine below_set ?_ GE560.out | refine below_set ?_ GE571.out | refine below_set ?_ GE576.out | refine below_set ?_ GE582.out) | exact HB.out))))
      have n4_ := Aside0.mk (blk_below (g := gb560) (o := .cells #[.slice A0_0 l0_0.length c0_0, .int .i64 a0_1] 24 (0, 0)) (by (with_reducible repeat (first | refine blk_drewN ?_ _ | refine blk_drew ?_ | refine blk_alloc ?_ _)); exact BK560.out) hb)
      have n5_ := Aside0.mk (blk_below (g := gb571) (o := .cells #[.slice Ao22 t566.length co22, .int .i64 t569] 27 (0, 0)) (by (with_reducible repeat (first | refine blk_drewN ?_ _ | refine blk_drew ?_ | refine blk_alloc ?_ _)); exact BK571.out) hb)
      have n6_ := Aside0.mk (blk_below (g := gb576) (o := .cells #[.slice Ao28 t572.length co28, .int .i64 t575] 27 (0, 0)) (by (with_reducible repeat (first | refine blk_drewN ?_ _ | refine blk_drew ?_ | refine blk_alloc ?_ _)); exact BK576.out) hb)
      have n7_ := Aside0.mk (blk_below (g := gb582) (o := .cells #[.slice Ao34 t577.length co34, .int .i64 t580] 27 (0, 0)) (by (with_reducible repeat (first | refine blk_drewN ?_ _ | refine blk_drew ?_ | refine blk_alloc ?_ _)); exact BK582.out) hb)
      have n8_ := Aside0.mk (below_step (by repeat (first | (with_reducible first | exact HB.out | apply below_alloc | apply pw_below_drewN | apply below_drew1 | refine below_set ?_ GE560.out | refine below_set ?_ GE571.out | refine below_set ?_ GE576.out | refine below_set ?_ GE582.out) | exact HB.out)) hb)
      clear HO_572000
      clear HO_577000
      clear HO_583000
      clear BK560
      clear BK571
      clear BK576
      clear BK582
      clear HB
      have HO_572000 := n0_
      have HO_577000 := n1_
      have HO_583000 := n2_
      have HO586 := n3_
      have BK560 := n4_
      have BK571 := n5_
      have BK576 := n6_
      have BK582 := n7_
      have HB := n8_
      clear n0_ n1_ n2_ n3_ n4_ n5_ n6_ n7_ n8_
      (try clear hb)
      (try clear hb2)
      (try clear hk)
      (try clear hi)
      (try clear ho0)
      obtain ⟨Ao179, co179, eo179⟩ := Kd.R_slice HO586.out
      (first | subst eo179 | (injection eo179 with f1_ f2_ f3_; have f4_ := f1_.symm; have f5_ := f3_.symm; clear f1_ f2_ f3_; subst f4_; subst f5_))
      refine hK.out _ _ ⟨(blk_cell BK576.out 0).trans rfl, (blk_cell BK576.out 1).trans rfl, (blk_cell BK560.out 0).trans rfl, (blk_cell BK560.out 1).trans rfl⟩ (fun hHeld => ?_)
      clear hK K
      refine norm_ (a' := ?_) ?_ ?_
      rotate_left
      ·show Act.put _ (some 51) _ = _
       simp only [Act.put, List.setIfInBounds_toArray, List.set_cons_zero, List.set_cons_succ, i64_w, i32_w]
       rfl
      refine one_ (i := 3) (N := some 52) #[true, true, true, true, false] rfl rfl (by kernel_rfl) (by decide) (fun K hK => ?_)
      refine goes_ Try.func20 (by kernel_rfl) rfl #[.agg #[.slice Ao28 t572.length co28, .int .i64 t575], .agg #[.slice Ao179 t584.length co179, .int .i64 t587]] (by rfl) rfl rfl (by (try simp only [List.map_toArray, List.map_cons, List.map_nil]); first | done | rfl | (simp only [List.length_drop, List.length_take]; rfl)) ?_
      with_reducible refine (laws_eqCups.calls kj12 _ _ t572 t575 _ _ t584 t587 false _ ?side1 ?side2 ?side3 ?side4 A59.out).mono ?_
      (case side1 => repeat (first | exact (Kd.R_reads' HO_577000.out).2.2 | (with_reducible refine Kd.C_alloc ?_ _) | (with_reducible refine Kd.C_drewN ?_ _) | (with_reducible refine Kd.C_drew ?_)))
      (case side2 => exact (Kd.R_reads' HO_577000.out).2.1)
      (case side3 => repeat (first | exact (Kd.R_reads' HO586.out).2.2 | (with_reducible refine Kd.C_alloc ?_ _) | (with_reducible refine Kd.C_drewN ?_ _) | (with_reducible refine Kd.C_drew ?_)))
      (case side4 => exact (Kd.R_reads' HO586.out).2.1)
      rintro e w180 ⟨rfl, hb⟩
      refine ⟨_, rfl, ?_⟩
      have n0_ := Aside0.mk (Kd.R_below (by (with_reducible repeat (first | apply Kd.R_alloc | apply Kd.R_drewN | apply Kd.R_drew)); exact HO_572000.out) hb)
      have n1_ := Aside0.mk (Kd.R_below (by (with_reducible repeat (first | apply Kd.R_alloc | apply Kd.R_drewN | apply Kd.R_drew)); exact HO_577000.out) hb)
      have n2_ := Aside0.mk (Kd.R_below (by (with_reducible repeat (first | apply Kd.R_alloc | apply Kd.R_drewN | apply Kd.R_drew)); exact HO_583000.out) hb)
      have n3_ := Aside0.mk (Kd.R_below (by (with_reducible repeat (first | apply Kd.R_alloc | apply Kd.R_drewN | apply Kd.R_drew)); exact HO586.out) hb)
      have n4_ := Aside0.mk (blk_below (g := gb560) (o := .cells #[.slice A0_0 l0_0.length c0_0, .int .i64 a0_1] 24 (0, 0)) (by (with_reducible repeat (first | refine blk_drewN ?_ _ | refine blk_drew ?_ | refine blk_alloc ?_ _)); exact BK560.out) hb)
      have n5_ := Aside0.mk (blk_below (g := gb571) (o := .cells #[.slice Ao22 t566.length co22, .int .i64 t569] 27 (0, 0)) (by (with_reducible repeat (first | refine blk_drewN ?_ _ | refine blk_drew ?_ | refine blk_alloc ?_ _)); exact BK571.out) hb)
      have n6_ := Aside0.mk (blk_below (g := gb576) (o := .cells #[.slice Ao28 t572.length co28, .int .i64 t575] 27 (0, 0)) (by (with_reducible repeat (first | refine blk_drewN ?_ _ | refine blk_drew ?_ | refine blk_alloc ?_ _)); exact BK576.out) hb)
      have n7_ := Aside0.mk (blk_below (g := gb582) (o := .cells #[.slice Ao34 t577.length co34, .int .i64 t580] 27 (0, 0)) (by (with_reducible repeat (first | refine blk_drewN ?_ _ | refine blk_drew ?_ | refine blk_alloc ?_ _)); exact BK582.out) hb)
      have n8_ := Aside0.mk (below_step (by repeat (first | (with_reducible first | exact HB.out | apply below_alloc | apply pw_below_drewN | apply below_drew1 | refine below_set ?_ GE560.out | refine below_set ?_ GE571.out | refine below_set ?_ GE576.out | refine below_set ?_ GE582.out) | exact HB.out)) hb)
      clear HO_572000
      clear HO_577000
      clear HO_583000
      clear HO586
      clear BK560
      clear BK571
      clear BK576
      clear BK582
      clear HB
      have HO_572000 := n0_
      have HO_577000 := n1_
      have HO_583000 := n2_
      have HO586 := n3_
      have BK560 := n4_
      have BK571 := n5_
      have BK576 := n6_
      have BK582 := n7_
      have HB := n8_
      clear n0_ n1_ n2_ n3_ n4_ n5_ n6_ n7_ n8_
      (try clear hb)
      (try clear hb2)
      (try clear hk)
      (try clear hi)
      refine hK.out _ _ ⟨(blk_cell BK576.out 0).trans rfl, (blk_cell BK576.out 1).trans rfl, (blk_cell BK560.out 0).trans rfl, (blk_cell BK560.out 1).trans rfl⟩ (fun hHeld => ?_)
      clear hK K
      refine norm_ (a' := ?_) ?_ ?_
      rotate_left
      ·show Act.put _ (some 52) _ = _
       simp only [Act.put, List.setIfInBounds_toArray, List.set_cons_zero, List.set_cons_succ, i64_w, i32_w]
       rfl
      refine pure_ (i := 4) (N := some 53) (v := ?_) (a' := ?_) #[true, true, true, true, true] rfl rfl (by kernel_rfl) (fun _ _ _ h => h) (Or.inl ⟨by rfl, ?_⟩) ?_ ?_
      rotate_left
      ·intro w'
       go_simp
       with_reducible rfl
      rotate_left
      ·simp only [Act.put, List.setIfInBounds_toArray, List.set_cons_zero, List.set_cons_succ, i64_w, i32_w]
       rfl
      refine done_ (by kernel_rfl) ?_
      try go_wp2
      go_ret
      exact ⟨by first | rfl | (simp [errW_none, errW_some] <;> rfl) | (simp [*, errW_none, errW_some] <;> rfl), by repeat (first | (with_reducible first | exact HB.out | apply below_alloc | apply pw_below_drewN | apply below_drew1 | refine below_set ?_ GE560.out | refine below_set ?_ GE571.out | refine below_set ?_ GE576.out | refine below_set ?_ GE582.out) | exact HB.out)⟩

end Go.Proofs.Ytidlipobpgfooaa.P
