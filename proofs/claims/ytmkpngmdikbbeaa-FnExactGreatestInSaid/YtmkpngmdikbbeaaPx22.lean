/- Written by a program of this workplace (own_print.py, over the kit's print) for the functions that the statements reach, with contracts of its own. Lean checks it. -/
import Derived.Test.YtmkpngmdikbbeaaPx0
import Derived.Test.YtmkpngmdikbbeaaPx1
import Derived.Test.YtmkpngmdikbbeaaPx2
import Derived.Test.YtmkpngmdikbbeaaPx3
import Derived.Test.YtmkpngmdikbbeaaPx15
import Derived.Test.YtmkpngmdikbbeaaPx16
namespace Go.Proofs.Ytmkpngmdikbbeaa.P
open Go.RowKit Go.Proofs.YtmkpngmdikbbeaaW.PrintWords Go.Proofs.YtmkpngmdikbbeaaW.PrintLast Go.Proofs.YtmkpngmdikbbeaaW.PrintMore
attribute [local go_sem] max2_int min2_int max_two min_two max_three min_three max_four min_four   -- for this text's walks alone
set_option linter.unusedVariables false
set_option linter.unusedSimpArgs false

/-! ### spec_GreatestIn: function 22 -/
def spec_GreatestIn.f (k : Nat) (l0_0 : List Int) (a0_1 : Int) (a1 : Int) (a2 : Int) : Option (Int × Int × Bool) := (spec_cuExtreme.f k l0_0 a0_1 a1 a2 true).bind fun bt452 => (some (bt452.1,bt452.2.1,bt452.2.2))
theorem spec_GreatestIn.mono : ∀ a0 a1 a2 a3 k,LeO (spec_GreatestIn.f k a0 a1 a2 a3) (spec_GreatestIn.f (k + 1) a0 a1 a2 a3) := by
 intro a0 a1 a2 a3 k
 unfold spec_GreatestIn.f
 repeat' first
   | (with_reducible exact spec_cuExtreme.mono _ _ _ _ _ _)
   | (with_reducible exact LeO.refl _)
   | (with_reducible exact LeO.none _)
   | (with_reducible refine LeO.ite ?_ ?_)
   | (with_reducible refine LeO.bind ?_ (fun _ => ?_))
   | exact spec_cuExtreme.mono _ _ _ _ _ _
   | exact LeO.none _
   | refine LeO.ite ?_ ?_
   | refine LeO.bind ?_ (fun _ => ?_)
set_option maxHeartbeats 8000000 in
set_option maxRecDepth 100000 in
theorem spec_GreatestIn.calls (k : Nat) (A0_0 : Option Addr) (c0_0 : Nat) (l0_0 : List Int) (a0_1 : Int) (a1 : Int) (a2 : Int) (r1 : Int) (r2 : Int) (r3 : Bool) (w : World) (hr0_0 : Kd.C (Kd.int .i64) w A0_0 l0_0.length l0_0) (hc0_0 : l0_0.length ≤ c0_0) (h : spec_GreatestIn.f k l0_0 a0_1 a1 a2 = some (r1,r2,r3)) :
  Calls Try.prog 22 #[.agg #[.slice A0_0 l0_0.length c0_0, .int .i64 a0_1], .int .i64 a1, .int .i64 a2] w fun e w' => e = .returned (.tuple #[.int .i64 r1, .int .i64 r2, .bool r3]) ∧ Below w.heap.size w w' := by
 have hu29 := Try.underlying29
 have HR0_0 := Aside0.mk hr0_0
 have HC0_0 := Aside0.mk hc0_0
 clear hr0_0 hc0_0
 have HB := Aside0.mk (Below.refl w.heap.size w)
 have H : ((spec_cuExtreme.f k l0_0 a0_1 a1 a2 true).bind fun bt452 => (some (bt452.1,bt452.2.1,bt452.2.2))) = some (r1,r2,r3) := h
 clear h
 replace H := Option.bind_eq_some_iff.mp H
 obtain ⟨⟨t452,t453,t454⟩,A40,H⟩ := H
 replace H : (some (t452,t453,t454)) = some (r1,r2,r3) := H
 have A4 := Aside0.mk A40
 clear A40
 simp only [Option.some.injEq,Prod.mk.injEq] at H
 obtain ⟨rfl,rfl,rfl⟩ := H
 go_enter Try.func22,Try.ntmps22
 go_wp2_with (first | ((with_reducible refine gate_dst (N := 3) rfl ?_);refine box_event ?hg (N := 3) ?hd (cs := #[.slice A0_0 l0_0.length c0_0, .int .i64 a0_1]) (t := 29) ?hr ?_;(case hd => rfl);(case hg => rfl);(case hr => first | (go_simp;done) | (go_simp;rfl));intro gb451 hg w5 hbox hb;have n0_ := Aside0.mk (below_step (by repeat (first | (with_reducible first | exact HB.out | apply below_alloc | apply pw_below_drewN | apply below_drew1) | exact HB.out)) hb);have n1_ := Aside0.mk (hbox);have n2_ := Aside0.mk ((by rw [hg];exact (below_size (by repeat (first | (with_reducible first | exact HB.out | apply below_alloc | apply pw_below_drewN | apply below_drew1) | exact HB.out))) : w.heap.size ≤ gb451));have n3_ := Aside0.mk ((by rw [hg];exact (below_size (by repeat (first | (with_reducible first | exact HB.out | apply below_alloc | apply pw_below_drewN | apply below_drew1) | exact HB.out))) : w.heap.size ≤ gb451));clear HB;have HB := n0_;have BK451 := n1_;have GW451 := n2_;have GE451 := n3_;clear n0_ n1_ n2_ n3_;clear hb hbox hg;have hcz6_0 : w5.cell? ⟨gb451,0,none⟩ = some (.slice A0_0 l0_0.length c0_0) := (blk_cell BK451.out 0).trans rfl;have hcz6_1 : w5.cell? ⟨gb451,1,none⟩ = some (.int .i64 a0_1) := (blk_cell BK451.out 1).trans rfl;have hfz6_0 := blk_frozen BK451.out 0;have hfz6_1 := blk_frozen BK451.out 1) | ((with_reducible refine gate_callee (f := 43) rfl ?_);refine goesL_ (some 12) rfl rfl Try.func43 (by kernel_rfl) rfl #[.agg #[.slice A0_0 l0_0.length c0_0, .int .i64 a0_1], .int .i64 a1, .int .i64 a2, .bool true] rfl (by (try simp only [List.map_toArray,List.map_cons,List.map_nil]);first | done | rfl | (simp only [List.length_drop,List.length_take];rfl)) ?_;(with_reducible refine (spec_cuExtreme.calls k _ _ l0_0 a0_1 a1 a2 true t452 t453 t454 _ ?side1 ?side2 A4.out).mono ?_);(case side1 => repeat (first | exact (Kd.C_below HR0_0.out HB.out) | (with_reducible refine Kd.C_alloc ?_ _) | (with_reducible refine Kd.C_drewN ?_ _) | (with_reducible refine Kd.C_drew ?_)));(case side2 => exact HC0_0.out);rintro e w7 ⟨rfl,hb⟩;refine ⟨_,rfl,?_⟩;have n0_ := Aside0.mk (blk_below (g := gb451) (o := .cells #[.slice A0_0 l0_0.length c0_0, .int .i64 a0_1] 29 (0,0)) (by (with_reducible repeat (first | refine blk_drewN ?_ _ | refine blk_drew ?_ | refine blk_alloc ?_ _));exact BK451.out) hb);have n1_ := Aside0.mk (below_step (by repeat (first | (with_reducible first | exact HB.out | apply below_alloc | apply pw_below_drewN | apply below_drew1 | refine below_set ?_ GE451.out) | exact HB.out)) hb);clear BK451;clear HB;have BK451 := n0_;have HB := n1_;clear n0_ n1_;(try clear hb);(try clear hb2);(try clear hk);(try clear hi)))
 go_ret3
 exact ⟨by first | rfl | (simp [errW_none,errW_some] <;> rfl) | (simp [*,errW_none,errW_some] <;> rfl),by repeat (first | (with_reducible first | exact HB.out | apply below_alloc | apply pw_below_drewN | apply below_drew1 | refine below_set ?_ GE451.out) | exact HB.out)⟩

/-! ### impl_GreatestIn: function 23 -/
def impl_GreatestIn.f (k : Nat) (l : List Int) (u cup mixes : Int) : Option (Int × Int × Bool) := impl_bestIn.f k l u cup mixes (1)
theorem impl_GreatestIn.mono : ∀ l u cup mixes k,LeO (impl_GreatestIn.f k l u cup mixes) (impl_GreatestIn.f (k + 1) l u cup mixes) := fun l u cup mixes k => impl_bestIn.mono _ _ _ _ _ _
set_option maxHeartbeats 1000000 in
theorem impl_GreatestIn.calls (k : Nat) (A0_0 : Option Addr) (c0_0 : Nat) (l0_0 : List Int) (a0_1 : Int) (a1 : Int) (a2 : Int) (r1 : Int) (r2 : Int) (r3 : Bool) (w : World) (hr0_0 : Kd.R (Kd.int .i64) 3 w 0 (fun _ => True) (.slice A0_0 l0_0.length c0_0) l0_0) (hc0_0 : l0_0.length ≤ c0_0) (h : impl_GreatestIn.f k l0_0 a0_1 a1 a2 = some (r1,r2,r3)) :
  Calls Try.prog 23 #[.agg #[.slice A0_0 l0_0.length c0_0, .int .i64 a0_1], .int .i64 a1, .int .i64 a2] w fun e w' => e = .returned (.tuple #[.int .i64 r1, .int .i64 r2, .bool r3]) ∧ Below w.heap.size w w' := by
 have hu29 := Try.underlying29
 have HB := Aside0.mk (Below.refl w.heap.size w)
 have HP := Aside0.mk hr0_0
 have Q := Aside0.mk (show impl_bestIn.f k l0_0 a0_1 a1 a2 (1) = some (r1,r2,r3) from h)
 clear hr0_0 hc0_0 h
 go_enter Try.func23,Try.ntmps23
 go_wp2_with (first | ((with_reducible refine gate_dst (N := 3) rfl ?_);(try (refine gate_guard (by rfl) ?_;dsimp only));refine box_event ?hg (N := 3) ?hd (cs := #[.slice A0_0 l0_0.length c0_0, .int .i64 a0_1]) (t := 29) ?hr ?_;(case hd => rfl);(case hg => rfl);(case hr => first | (go_simp;done) | (go_simp;rfl));intro gb hg w5 hbox hb;have n0_ := Aside0.mk (below_step HB.out hb);have BK := Aside0.mk hbox;have n1_ := Aside0.mk (Kd.R_below HP.out hb);clear HB HP hb hbox hg;have HB := n0_;have HP := n1_;clear n0_ n1_;have hz0 : w5.cell? ⟨gb,0,none⟩ = some (.slice A0_0 l0_0.length c0_0) := (blk_cell BK.out 0).trans rfl;have hz1 : w5.cell? ⟨gb,1,none⟩ = some (.int .i64 a0_1) := (blk_cell BK.out 1).trans rfl))
 refine (impl_bestIn.calls k A0_0 c0_0 l0_0 a0_1 a1 a2 (1) r1 r2 r3 _ HP.out Q.out).mono ?_
 rintro e w6 ⟨rfl,hb⟩
 have n0_ := Aside0.mk (below_step HB.out hb)
 clear hb hz0 hz1
 go_wp2
 go_ret3
 exact ⟨rfl,n0_.out⟩

/-! ### laws_FnExactGreatestIn: function 5 -/
def laws_FnExactGreatestIn.j0 : Nat → Bool → List Int → Int → List Int → Int → Option (Bool)
 | 0,_,_,_,_,_ => none
 | k + 1,x51,x463000,x463001,x476000,x476001 => if x51 = true then (some false) else ((laws_toCups.f k x463000 x463001).bind fun bt479 => ((laws_eqCups.f k x476000 x476001 bt479.1 bt479.2).bind fun t483 => (if t483 = true then (some true) else (some false))))
def laws_FnExactGreatestIn.f (k : Nat) (l0_0 : List Int) (a0_1 : Int) (a1 : Int) (a2 : Int) : Option (Bool) := (laws_szCups.f l0_0 a0_1 1048576).bind fun t463 => (if t463 < 0 then (some true) else ((laws_toCups.f k l0_0 a0_1).bind fun bt464 => ((spec_GreatestIn.f k bt464.1 bt464.2 a1 a2).bind fun bt468 => ((laws_toCups.f k l0_0 a0_1).bind fun bt471 => ((impl_GreatestIn.f k bt471.1 bt471.2 a1 a2).bind fun bt476 => (if bt476.1 = bt468.1 then (if bt476.2.1 = bt468.2.1 then (laws_FnExactGreatestIn.j0 k (bt476.2.2 != bt468.2.2) l0_0 a0_1 bt471.1 bt471.2) else (laws_FnExactGreatestIn.j0 k true l0_0 a0_1 bt471.1 bt471.2)) else (laws_FnExactGreatestIn.j0 k true l0_0 a0_1 bt471.1 bt471.2)))))))
theorem laws_FnExactGreatestIn.mono_l : ∀ k,(∀ y0 y1 y2 y3 y4,LeO (laws_FnExactGreatestIn.j0 k y0 y1 y2 y3 y4) (laws_FnExactGreatestIn.j0 (k + 1) y0 y1 y2 y3 y4))
 | 0 => fun _ _ _ _ _ r h => by simp [laws_FnExactGreatestIn.j0] at h
 | k + 1 => by
  have ih0 := laws_FnExactGreatestIn.mono_l k
  ·intro y0 y1 y2 y3 y4
   unfold laws_FnExactGreatestIn.j0
   repeat' first
   | (with_reducible exact ih0 _ _ _ _ _)
   | (with_reducible exact impl_GreatestIn.mono _ _ _ _ _)
   | (with_reducible exact laws_eqCups.mono _ _ _ _ _)
   | (with_reducible exact laws_toCups.mono _ _ _)
   | (with_reducible exact spec_GreatestIn.mono _ _ _ _ _)
   | (with_reducible exact LeO.refl _)
   | (with_reducible exact LeO.none _)
   | (with_reducible refine LeO.ite ?_ ?_)
   | (with_reducible refine LeO.bind ?_ (fun _ => ?_))
   | exact ih0 _ _ _ _ _
   | exact impl_GreatestIn.mono _ _ _ _ _
   | exact laws_eqCups.mono _ _ _ _ _
   | exact laws_toCups.mono _ _ _
   | exact spec_GreatestIn.mono _ _ _ _ _
   | exact LeO.none _
   | refine LeO.ite ?_ ?_
   | refine LeO.bind ?_ (fun _ => ?_)
theorem laws_FnExactGreatestIn.mono : ∀ a0 a1 a2 a3 k,LeO (laws_FnExactGreatestIn.f k a0 a1 a2 a3) (laws_FnExactGreatestIn.f (k + 1) a0 a1 a2 a3) := by
 intro a0 a1 a2 a3 k
 have ih0 := laws_FnExactGreatestIn.mono_l k
 unfold laws_FnExactGreatestIn.f
 repeat' first
   | (with_reducible exact ih0 _ _ _ _ _)
   | (with_reducible exact impl_GreatestIn.mono _ _ _ _ _)
   | (with_reducible exact laws_eqCups.mono _ _ _ _ _)
   | (with_reducible exact laws_toCups.mono _ _ _)
   | (with_reducible exact spec_GreatestIn.mono _ _ _ _ _)
   | (with_reducible exact LeO.refl _)
   | (with_reducible exact LeO.none _)
   | (with_reducible refine LeO.ite ?_ ?_)
   | (with_reducible refine LeO.bind ?_ (fun _ => ?_))
   | exact ih0 _ _ _ _ _
   | exact impl_GreatestIn.mono _ _ _ _ _
   | exact laws_eqCups.mono _ _ _ _ _
   | exact laws_toCups.mono _ _ _
   | exact spec_GreatestIn.mono _ _ _ _ _
   | exact LeO.none _
   | refine LeO.ite ?_ ?_
   | refine LeO.bind ?_ (fun _ => ?_)
set_option maxHeartbeats 8000000 in
set_option maxRecDepth 100000 in
theorem laws_FnExactGreatestIn.calls (k : Nat) (A0_0 : Option Addr) (c0_0 : Nat) (l0_0 : List Int) (a0_1 : Int) (a1 : Int) (a2 : Int) (r : Bool) (w : World) (hr0_0 : Kd.C (Kd.int .i64) w A0_0 l0_0.length l0_0) (hc0_0 : l0_0.length ≤ c0_0) (h : laws_FnExactGreatestIn.f k l0_0 a0_1 a1 a2 = some r) :
  Calls Try.prog 5 #[.agg #[.slice A0_0 l0_0.length c0_0, .int .i64 a0_1], .int .i64 a1, .int .i64 a2] w fun e w' => e = .returned (.bool r) ∧ Below w.heap.size w w' := by
 have hu24 := Try.underlying24
 have hu29 := Try.underlying29
 have HR0_0 := Aside0.mk hr0_0
 have HC0_0 := Aside0.mk hc0_0
 clear hr0_0 hc0_0
 have HB := Aside0.mk (Below.refl w.heap.size w)
 have H : ((laws_szCups.f l0_0 a0_1 1048576).bind fun t463 => (if t463 < 0 then (some true) else ((laws_toCups.f k l0_0 a0_1).bind fun bt464 => ((spec_GreatestIn.f k bt464.1 bt464.2 a1 a2).bind fun bt468 => ((laws_toCups.f k l0_0 a0_1).bind fun bt471 => ((impl_GreatestIn.f k bt471.1 bt471.2 a1 a2).bind fun bt476 => (if bt476.1 = bt468.1 then (if bt476.2.1 = bt468.2.1 then (laws_FnExactGreatestIn.j0 k (bt476.2.2 != bt468.2.2) l0_0 a0_1 bt471.1 bt471.2) else (laws_FnExactGreatestIn.j0 k true l0_0 a0_1 bt471.1 bt471.2)) else (laws_FnExactGreatestIn.j0 k true l0_0 a0_1 bt471.1 bt471.2)))))))) = some r := h
 clear h
 replace H := Option.bind_eq_some_iff.mp H
 obtain ⟨t463,A40,H⟩ := H
 replace H : (if t463 < 0 then (some true) else ((laws_toCups.f k l0_0 a0_1).bind fun bt464 => ((spec_GreatestIn.f k bt464.1 bt464.2 a1 a2).bind fun bt468 => ((laws_toCups.f k l0_0 a0_1).bind fun bt471 => ((impl_GreatestIn.f k bt471.1 bt471.2 a1 a2).bind fun bt476 => (if bt476.1 = bt468.1 then (if bt476.2.1 = bt468.2.1 then (laws_FnExactGreatestIn.j0 k (bt476.2.2 != bt468.2.2) l0_0 a0_1 bt471.1 bt471.2) else (laws_FnExactGreatestIn.j0 k true l0_0 a0_1 bt471.1 bt471.2)) else (laws_FnExactGreatestIn.j0 k true l0_0 a0_1 bt471.1 bt471.2))))))) = some r := H
 have A4 := Aside0.mk A40
 clear A40
 by_cases c5 : t463 < 0
 ·rw [if_pos c5] at H
  have c5b0 : decide (t463 < 0) = true := decide_eq_true c5
  clear c5
  obtain rfl := Option.some.inj H
  go_enter Try.func5,Try.ntmps5
  go_wp2_with (first | ((with_reducible refine gate_dst (N := 3) rfl ?_);refine box_event ?hg (N := 3) ?hd (cs := #[.slice A0_0 l0_0.length c0_0, .int .i64 a0_1]) (t := 24) ?hr ?_;(case hd => rfl);(case hg => rfl);(case hr => first | (go_simp;done) | (go_simp;rfl));intro gb462 hg w6 hbox hb;have n0_ := Aside0.mk (below_step (by repeat (first | (with_reducible first | exact HB.out | apply below_alloc | apply pw_below_drewN | apply below_drew1) | exact HB.out)) hb);have n1_ := Aside0.mk (hbox);have n2_ := Aside0.mk ((by rw [hg];exact (below_size (by repeat (first | (with_reducible first | exact HB.out | apply below_alloc | apply pw_below_drewN | apply below_drew1) | exact HB.out))) : w.heap.size ≤ gb462));have n3_ := Aside0.mk ((by rw [hg];exact (below_size (by repeat (first | (with_reducible first | exact HB.out | apply below_alloc | apply pw_below_drewN | apply below_drew1) | exact HB.out))) : w.heap.size ≤ gb462));clear HB;have HB := n0_;have BK462 := n1_;have GW462 := n2_;have GE462 := n3_;clear n0_ n1_ n2_ n3_;clear hb hbox hg;have hcz7_0 : w6.cell? ⟨gb462,0,none⟩ = some (.slice A0_0 l0_0.length c0_0) := (blk_cell BK462.out 0).trans rfl;have hcz7_1 : w6.cell? ⟨gb462,1,none⟩ = some (.int .i64 a0_1) := (blk_cell BK462.out 1).trans rfl;have hfz7_0 := blk_frozen BK462.out 0;have hfz7_1 := blk_frozen BK462.out 1) | ((with_reducible refine gate_callee (f := 8) rfl ?_);refine goesL_ (some 17) rfl rfl Try.func8 (by kernel_rfl) rfl #[.agg #[.slice A0_0 l0_0.length c0_0, .int .i64 a0_1], .int .i64 1048576] rfl (by (try simp only [List.map_toArray,List.map_cons,List.map_nil]);first | done | rfl | (simp only [List.length_drop,List.length_take];rfl)) ?_;(with_reducible refine (laws_szCups.calls _ _ l0_0 a0_1 1048576 t463 _ ?side1 ?side2 A4.out).mono ?_);(case side1 => repeat (first | exact (Kd.C_below HR0_0.out HB.out) | (with_reducible refine Kd.C_alloc ?_ _) | (with_reducible refine Kd.C_drewN ?_ _) | (with_reducible refine Kd.C_drew ?_)));(case side2 => exact HC0_0.out);rintro e w8 ⟨rfl,hb⟩;refine ⟨_,rfl,?_⟩;have n0_ := Aside0.mk (blk_below (g := gb462) (o := .cells #[.slice A0_0 l0_0.length c0_0, .int .i64 a0_1] 24 (0,0)) (by (with_reducible repeat (first | refine blk_drewN ?_ _ | refine blk_drew ?_ | refine blk_alloc ?_ _));exact BK462.out) hb);have n1_ := Aside0.mk (below_step (by repeat (first | (with_reducible first | exact HB.out | apply below_alloc | apply pw_below_drewN | apply below_drew1 | refine below_set ?_ GE462.out) | exact HB.out)) hb);clear BK462;clear HB;have BK462 := n0_;have HB := n1_;clear n0_ n1_;(try clear hb);(try clear hb2);(try clear hk);(try clear hi)))
  go_ret
  exact ⟨by first | rfl | (simp [errW_none,errW_some] <;> rfl) | (simp [*,errW_none,errW_some] <;> rfl),by repeat (first | (with_reducible first | exact HB.out | apply below_alloc | apply pw_below_drewN | apply below_drew1 | refine below_set ?_ GE462.out) | exact HB.out)⟩
 ·rw [if_neg c5] at H
  have c5b0 : decide (t463 < 0) = false := decide_eq_false c5
  clear c5
  replace H := Option.bind_eq_some_iff.mp H
  obtain ⟨⟨t464,t467⟩,A90,H⟩ := H
  replace H : ((spec_GreatestIn.f k t464 t467 a1 a2).bind fun bt468 => ((laws_toCups.f k l0_0 a0_1).bind fun bt471 => ((impl_GreatestIn.f k bt471.1 bt471.2 a1 a2).bind fun bt476 => (if bt476.1 = bt468.1 then (if bt476.2.1 = bt468.2.1 then (laws_FnExactGreatestIn.j0 k (bt476.2.2 != bt468.2.2) l0_0 a0_1 bt471.1 bt471.2) else (laws_FnExactGreatestIn.j0 k true l0_0 a0_1 bt471.1 bt471.2)) else (laws_FnExactGreatestIn.j0 k true l0_0 a0_1 bt471.1 bt471.2))))) = some r := H
  have A9 := Aside0.mk A90
  clear A90
  replace H := Option.bind_eq_some_iff.mp H
  obtain ⟨⟨t468,t469,t470⟩,A100,H⟩ := H
  replace H : ((laws_toCups.f k l0_0 a0_1).bind fun bt471 => ((impl_GreatestIn.f k bt471.1 bt471.2 a1 a2).bind fun bt476 => (if bt476.1 = t468 then (if bt476.2.1 = t469 then (laws_FnExactGreatestIn.j0 k (bt476.2.2 != t470) l0_0 a0_1 bt471.1 bt471.2) else (laws_FnExactGreatestIn.j0 k true l0_0 a0_1 bt471.1 bt471.2)) else (laws_FnExactGreatestIn.j0 k true l0_0 a0_1 bt471.1 bt471.2)))) = some r := H
  have A10 := Aside0.mk A100
  clear A100
  replace H := Option.bind_eq_some_iff.mp H
  obtain ⟨⟨t471,t474⟩,A110,H⟩ := H
  replace H : ((impl_GreatestIn.f k t471 t474 a1 a2).bind fun bt476 => (if bt476.1 = t468 then (if bt476.2.1 = t469 then (laws_FnExactGreatestIn.j0 k (bt476.2.2 != t470) l0_0 a0_1 t471 t474) else (laws_FnExactGreatestIn.j0 k true l0_0 a0_1 t471 t474)) else (laws_FnExactGreatestIn.j0 k true l0_0 a0_1 t471 t474))) = some r := H
  have A11 := Aside0.mk A110
  clear A110
  replace H := Option.bind_eq_some_iff.mp H
  obtain ⟨⟨t476,t477,t478⟩,A120,H⟩ := H
  replace H : (if t476 = t468 then (if t477 = t469 then (laws_FnExactGreatestIn.j0 k (t478 != t470) l0_0 a0_1 t471 t474) else (laws_FnExactGreatestIn.j0 k true l0_0 a0_1 t471 t474)) else (laws_FnExactGreatestIn.j0 k true l0_0 a0_1 t471 t474)) = some r := H
  have A12 := Aside0.mk A120
  clear A120
  have HC13 := Aside0.mk H
  clear H
  go_enter Try.func5,Try.ntmps5
  go_upto_region 8 with (first | ((with_reducible refine gate_dst (N := 3) rfl ?_);refine box_event ?hg (N := 3) ?hd (cs := #[.slice A0_0 l0_0.length c0_0, .int .i64 a0_1]) (t := 24) ?hr ?_;(case hd => rfl);(case hg => rfl);(case hr => first | (go_simp;done) | (go_simp;rfl));intro gb462 hg w14 hbox hb;have n0_ := Aside0.mk (below_step (by repeat (first | (with_reducible first | exact HB.out | apply below_alloc | apply pw_below_drewN | apply below_drew1) | exact HB.out)) hb);have n1_ := Aside0.mk (hbox);have n2_ := Aside0.mk ((by rw [hg];exact (below_size (by repeat (first | (with_reducible first | exact HB.out | apply below_alloc | apply pw_below_drewN | apply below_drew1) | exact HB.out))) : w.heap.size ≤ gb462));have n3_ := Aside0.mk ((by rw [hg];exact (below_size (by repeat (first | (with_reducible first | exact HB.out | apply below_alloc | apply pw_below_drewN | apply below_drew1) | exact HB.out))) : w.heap.size ≤ gb462));clear HB;have HB := n0_;have BK462 := n1_;have GW462 := n2_;have GE462 := n3_;clear n0_ n1_ n2_ n3_;clear hb hbox hg;have hcz15_0 : w14.cell? ⟨gb462,0,none⟩ = some (.slice A0_0 l0_0.length c0_0) := (blk_cell BK462.out 0).trans rfl;have hcz15_1 : w14.cell? ⟨gb462,1,none⟩ = some (.int .i64 a0_1) := (blk_cell BK462.out 1).trans rfl;have hfz15_0 := blk_frozen BK462.out 0;have hfz15_1 := blk_frozen BK462.out 1) | ((with_reducible refine gate_callee (f := 8) rfl ?_);refine goesL_ (some 17) rfl rfl Try.func8 (by kernel_rfl) rfl #[.agg #[.slice A0_0 l0_0.length c0_0, .int .i64 a0_1], .int .i64 1048576] rfl (by (try simp only [List.map_toArray,List.map_cons,List.map_nil]);first | done | rfl | (simp only [List.length_drop,List.length_take];rfl)) ?_;(with_reducible refine (laws_szCups.calls _ _ l0_0 a0_1 1048576 t463 _ ?side1 ?side2 A4.out).mono ?_);(case side1 => repeat (first | exact (Kd.C_below HR0_0.out HB.out) | (with_reducible refine Kd.C_alloc ?_ _) | (with_reducible refine Kd.C_drewN ?_ _) | (with_reducible refine Kd.C_drew ?_)));(case side2 => exact HC0_0.out);rintro e w16 ⟨rfl,hb⟩;refine ⟨_,rfl,?_⟩;have n0_ := Aside0.mk (blk_below (g := gb462) (o := .cells #[.slice A0_0 l0_0.length c0_0, .int .i64 a0_1] 24 (0,0)) (by (with_reducible repeat (first | refine blk_drewN ?_ _ | refine blk_drew ?_ | refine blk_alloc ?_ _));exact BK462.out) hb);have n1_ := Aside0.mk (below_step (by repeat (first | (with_reducible first | exact HB.out | apply below_alloc | apply pw_below_drewN | apply below_drew1 | refine below_set ?_ GE462.out) | exact HB.out)) hb);clear BK462;clear HB;have BK462 := n0_;have HB := n1_;clear n0_ n1_;(try clear hb);(try clear hb2);(try clear hk);(try clear hi);have hcz17_0 : w16.cell? ⟨gb462,0,none⟩ = some (.slice A0_0 l0_0.length c0_0) := (blk_cell BK462.out 0).trans rfl;have hcz17_1 : w16.cell? ⟨gb462,1,none⟩ = some (.int .i64 a0_1) := (blk_cell BK462.out 1).trans rfl;have hfz17_0 := blk_frozen BK462.out 0;have hfz17_1 := blk_frozen BK462.out 1) | ((with_reducible refine gate_callee (f := 10) rfl ?_);refine goesL_ (some 22) rfl rfl Try.func10 (by kernel_rfl) rfl #[.agg #[.slice A0_0 l0_0.length c0_0, .int .i64 a0_1]] rfl (by (try simp only [List.map_toArray,List.map_cons,List.map_nil]);first | done | rfl | (simp only [List.length_drop,List.length_take];rfl)) ?_;(with_reducible refine (laws_toCups.calls k _ _ l0_0 a0_1 t464 t467 _ ?side1 ?side2 A9.out).mono ?_);(case side1 => repeat (first | exact (Kd.C_below HR0_0.out HB.out) | (with_reducible refine Kd.C_alloc ?_ _) | (with_reducible refine Kd.C_drewN ?_ _) | (with_reducible refine Kd.C_drew ?_)));(case side2 => exact HC0_0.out);rintro e w18 ⟨v465,rfl,ho0,hb⟩;refine ⟨_,rfl,?_⟩;have n0_ := Aside0.mk (Kd.R_lower ho0 (below_size (by repeat (first | (with_reducible first | exact HB.out | apply below_alloc | apply pw_below_drewN | apply below_drew1 | refine below_set ?_ GE462.out) | exact HB.out))));have n1_ := Aside0.mk (blk_below (g := gb462) (o := .cells #[.slice A0_0 l0_0.length c0_0, .int .i64 a0_1] 24 (0,0)) (by (with_reducible repeat (first | refine blk_drewN ?_ _ | refine blk_drew ?_ | refine blk_alloc ?_ _));exact BK462.out) hb);have n2_ := Aside0.mk (below_step (by repeat (first | (with_reducible first | exact HB.out | apply below_alloc | apply pw_below_drewN | apply below_drew1 | refine below_set ?_ GE462.out) | exact HB.out)) hb);clear BK462;clear HB;have HO466 := n0_;have BK462 := n1_;have HB := n2_;clear n0_ n1_ n2_;(try clear hb);(try clear hb2);(try clear hk);(try clear hi);(try clear ho0);obtain ⟨Ao19,co19,eo19⟩ := Kd.R_slice HO466.out;subst eo19) | ((with_reducible refine gate_callee (f := 22) rfl ?_);refine goesL_ (some 25) rfl rfl Try.func22 (by kernel_rfl) rfl #[.agg #[.slice Ao19 t464.length co19, .int .i64 t467], .int .i64 a1, .int .i64 a2] rfl (by (try simp only [List.map_toArray,List.map_cons,List.map_nil]);first | done | rfl | (simp only [List.length_drop,List.length_take];rfl)) ?_;(with_reducible refine (spec_GreatestIn.calls k _ _ t464 t467 a1 a2 t468 t469 t470 _ ?side1 ?side2 A10.out).mono ?_);(case side1 => repeat (first | exact (Kd.R_reads' HO466.out).2.2 | (with_reducible refine Kd.C_alloc ?_ _) | (with_reducible refine Kd.C_drewN ?_ _) | (with_reducible refine Kd.C_drew ?_)));(case side2 => exact (Kd.R_reads' HO466.out).2.1);rintro e w20 ⟨rfl,hb⟩;refine ⟨_,rfl,?_⟩;have n0_ := Aside0.mk (Kd.R_below (by (with_reducible repeat (first | apply Kd.R_alloc | apply Kd.R_drewN | apply Kd.R_drew));exact HO466.out) hb);have n1_ := Aside0.mk (blk_below (g := gb462) (o := .cells #[.slice A0_0 l0_0.length c0_0, .int .i64 a0_1] 24 (0,0)) (by (with_reducible repeat (first | refine blk_drewN ?_ _ | refine blk_drew ?_ | refine blk_alloc ?_ _));exact BK462.out) hb);have n2_ := Aside0.mk (below_step (by repeat (first | (with_reducible first | exact HB.out | apply below_alloc | apply pw_below_drewN | apply below_drew1 | refine below_set ?_ GE462.out) | exact HB.out)) hb);clear HO466;clear BK462;clear HB;have HO466 := n0_;have BK462 := n1_;have HB := n2_;clear n0_ n1_ n2_;(try clear hb);(try clear hb2);(try clear hk);(try clear hi);have hcz21_0 : w20.cell? ⟨gb462,0,none⟩ = some (.slice A0_0 l0_0.length c0_0) := (blk_cell BK462.out 0).trans rfl;have hcz21_1 : w20.cell? ⟨gb462,1,none⟩ = some (.int .i64 a0_1) := (blk_cell BK462.out 1).trans rfl;have hfz21_0 := blk_frozen BK462.out 0;have hfz21_1 := blk_frozen BK462.out 1) | ((with_reducible refine gate_callee (f := 10) rfl ?_);refine goesL_ (some 30) rfl rfl Try.func10 (by kernel_rfl) rfl #[.agg #[.slice A0_0 l0_0.length c0_0, .int .i64 a0_1]] rfl (by (try simp only [List.map_toArray,List.map_cons,List.map_nil]);first | done | rfl | (simp only [List.length_drop,List.length_take];rfl)) ?_;(with_reducible refine (laws_toCups.calls k _ _ l0_0 a0_1 t471 t474 _ ?side1 ?side2 A11.out).mono ?_);(case side1 => repeat (first | exact (Kd.C_below HR0_0.out HB.out) | (with_reducible refine Kd.C_alloc ?_ _) | (with_reducible refine Kd.C_drewN ?_ _) | (with_reducible refine Kd.C_drew ?_)));(case side2 => exact HC0_0.out);rintro e w22 ⟨v472,rfl,ho0,hb⟩;refine ⟨_,rfl,?_⟩;have n0_ := Aside0.mk (Kd.R_elder' (by (with_reducible repeat (first | apply Kd.R_alloc | apply Kd.R_drewN | apply Kd.R_drew));exact HO466.out) (Kd.R_base ho0) hb);have n1_ := Aside0.mk (Kd.R_lower (Kd.R_new' ho0 (Kd.R_lt (by (with_reducible repeat (first | apply Kd.R_alloc | apply Kd.R_drewN | apply Kd.R_drew));exact HO466.out))) (below_size (by repeat (first | (with_reducible first | exact HB.out | apply below_alloc | apply pw_below_drewN | apply below_drew1 | refine below_set ?_ GE462.out) | exact HB.out))));have n2_ := Aside0.mk (blk_below (g := gb462) (o := .cells #[.slice A0_0 l0_0.length c0_0, .int .i64 a0_1] 24 (0,0)) (by (with_reducible repeat (first | refine blk_drewN ?_ _ | refine blk_drew ?_ | refine blk_alloc ?_ _));exact BK462.out) hb);have n3_ := Aside0.mk (below_step (by repeat (first | (with_reducible first | exact HB.out | apply below_alloc | apply pw_below_drewN | apply below_drew1 | refine below_set ?_ GE462.out) | exact HB.out)) hb);clear HO466;clear BK462;clear HB;have HO466 := n0_;have HO473 := n1_;have BK462 := n2_;have HB := n3_;clear n0_ n1_ n2_ n3_;(try clear hb);(try clear hb2);(try clear hk);(try clear hi);(try clear ho0)) | ((with_reducible refine gate_dst (N := 11) rfl ?_);refine box_event ?hg (N := 11) ?hd (cs := #[.slice none 0 0, .int .i64 0]) (t := 29) ?hr ?_;(case hd => rfl);(case hg => rfl);(case hr => first | (go_simp;done) | (go_simp;rfl));intro gb475 hg w23 hbox hb;have n0_ := Aside0.mk (Kd.R_below (by (with_reducible repeat (first | apply Kd.R_alloc | apply Kd.R_drewN | apply Kd.R_drew));exact HO466.out) hb);have n1_ := Aside0.mk (Kd.R_below (by (with_reducible repeat (first | apply Kd.R_alloc | apply Kd.R_drewN | apply Kd.R_drew));exact HO473.out) hb);have n2_ := Aside0.mk (blk_below (g := gb462) (o := .cells #[.slice A0_0 l0_0.length c0_0, .int .i64 a0_1] 24 (0,0)) (by (with_reducible repeat (first | refine blk_drewN ?_ _ | refine blk_drew ?_ | refine blk_alloc ?_ _));exact BK462.out) hb);have n3_ := Aside0.mk (below_step (by repeat (first | (with_reducible first | exact HB.out | apply below_alloc | apply pw_below_drewN | apply below_drew1 | refine below_set ?_ GE462.out) | exact HB.out)) hb);have n4_ := Aside0.mk (hbox);have n5_ := Aside0.mk ((by rw [hg];exact (below_size (by repeat (first | (with_reducible first | exact HB.out | apply below_alloc | apply pw_below_drewN | apply below_drew1 | refine below_set ?_ GE462.out) | exact HB.out))) : w.heap.size ≤ gb475));have n6_ := Aside0.mk ((by rw [hg];exact (below_size (by repeat (first | (with_reducible first | exact HB.out | apply below_alloc | apply pw_below_drewN | apply below_drew1 | refine below_set ?_ GE462.out) | exact HB.out))) : w.heap.size ≤ gb475));have n7_ := Aside0.mk ((by rw [hg];exact Nat.ne_of_lt (blk_lt (g := gb462) (o := .cells #[.slice A0_0 l0_0.length c0_0, .int .i64 a0_1] 24 (0,0)) (by (with_reducible repeat (first | refine blk_drewN ?_ _ | refine blk_drew ?_ | refine blk_alloc ?_ _));exact BK462.out)) : gb462 ≠ gb475));have n8_ := Aside0.mk ((by rw [hg];exact Nat.ne_of_gt (blk_lt (g := gb462) (o := .cells #[.slice A0_0 l0_0.length c0_0, .int .i64 a0_1] 24 (0,0)) (by (with_reducible repeat (first | refine blk_drewN ?_ _ | refine blk_drew ?_ | refine blk_alloc ?_ _));exact BK462.out)) : gb475 ≠ gb462));clear HO466;clear HO473;clear BK462;clear HB;have HO466 := n0_;have HO473 := n1_;have BK462 := n2_;have HB := n3_;have BK475 := n4_;have GW475 := n5_;have GE475 := n6_;have NB462_475 := n7_;have NB475_462 := n8_;clear n0_ n1_ n2_ n3_ n4_ n5_ n6_ n7_ n8_;clear hb hbox hg;obtain ⟨Ao24,co24,eo24⟩ := Kd.R_slice HO473.out;subst eo24;have hnb25 := NB475_462.out;have hnc25 := NB462_475.out;have hcz26_0 : w23.cell? ⟨gb475,0,none⟩ = some (.slice none 0 0) := (blk_cell BK475.out 0).trans rfl;have hcz26_1 : w23.cell? ⟨gb475,1,none⟩ = some (.int .i64 0) := (blk_cell BK475.out 1).trans rfl;have hfz26_0 := blk_frozen BK475.out 0;have hfz26_1 := blk_frozen BK475.out 1) | ((with_reducible refine gate_callee (f := 23) rfl ?_);refine goesL_ (some 35) rfl rfl Try.func23 (by kernel_rfl) rfl #[.agg #[.slice Ao24 t471.length co24, .int .i64 t474], .int .i64 a1, .int .i64 a2] rfl (by (try simp only [List.map_toArray,List.map_cons,List.map_nil]);first | done | rfl | (simp only [List.length_drop,List.length_take];rfl)) ?_;(with_reducible refine (impl_GreatestIn.calls k _ _ t471 t474 a1 a2 t476 t477 t478 _ ?side1 ?side2 A12.out).mono ?_);(case side1 => refine Kd.R_mono (Kd.R_lower (base := w.heap.size) (ok := fun k_ => (True ∧ some k_ ≠ (.slice Ao19 t464.length co19 : Value).ownBlock)) ?_ (Nat.zero_le _)) (fun _ _ => trivial);exact (by (with_reducible repeat (first | apply Kd.R_alloc | apply Kd.R_drewN | apply Kd.R_drew));exact (Kd.R_mono (Kd.R_far (p := ⟨gb475,1,none⟩) (Kd.R_far (p := ⟨gb475,0,none⟩) (Kd.R_types HO473.out BK475.out (by decide)) (fun _ hk => hk.2) (.slice Ao24 t471.length co24)) (fun _ hk => hk.2) (.int .i64 t474)) (fun _ h_ => h_.1))));(case side2 => exact (Kd.R_reads' HO473.out).2.1);rintro e w27 ⟨rfl,hb⟩;refine ⟨_,rfl,?_⟩;have n0_ := Aside0.mk (Kd.R_below (by (with_reducible repeat (first | apply Kd.R_alloc | apply Kd.R_drewN | apply Kd.R_drew));exact (Kd.R_mono (Kd.R_far (p := ⟨gb475,1,none⟩) (Kd.R_far (p := ⟨gb475,0,none⟩) (Kd.R_types HO466.out BK475.out (by decide)) (fun _ hk => hk.2) (.slice Ao24 t471.length co24)) (fun _ hk => hk.2) (.int .i64 t474)) (fun _ h_ => h_.1))) hb);have n1_ := Aside0.mk (Kd.R_below (by (with_reducible repeat (first | apply Kd.R_alloc | apply Kd.R_drewN | apply Kd.R_drew));exact (Kd.R_mono (Kd.R_far (p := ⟨gb475,1,none⟩) (Kd.R_far (p := ⟨gb475,0,none⟩) (Kd.R_types HO473.out BK475.out (by decide)) (fun _ hk => hk.2) (.slice Ao24 t471.length co24)) (fun _ hk => hk.2) (.int .i64 t474)) (fun _ h_ => h_.1))) hb);have n2_ := Aside0.mk (blk_below (g := gb462) (o := .cells #[.slice A0_0 l0_0.length c0_0, .int .i64 a0_1] 24 (0,0)) (by (with_reducible repeat (first | refine blk_drewN ?_ _ | refine blk_drew ?_ | refine blk_alloc ?_ _));refine blk_far ?_ NB462_475.out _;(with_reducible repeat (first | refine blk_drewN ?_ _ | refine blk_drew ?_ | refine blk_alloc ?_ _));refine blk_far ?_ NB462_475.out _;(with_reducible repeat (first | refine blk_drewN ?_ _ | refine blk_drew ?_ | refine blk_alloc ?_ _));exact BK462.out) hb);have n3_ := Aside0.mk (blk_below (g := gb475) (o := .cells #[.slice Ao24 t471.length co24, .int .i64 t474] 29 (0,0)) (by (with_reducible repeat (first | refine blk_drewN ?_ _ | refine blk_drew ?_ | refine blk_alloc ?_ _));refine blk_put (cs := #[.slice Ao24 t471.length co24, .int .i64 0]) ?_ 1 _ rfl;(with_reducible repeat (first | refine blk_drewN ?_ _ | refine blk_drew ?_ | refine blk_alloc ?_ _));refine blk_put (cs := #[.slice none 0 0, .int .i64 0]) ?_ 0 _ rfl;(with_reducible repeat (first | refine blk_drewN ?_ _ | refine blk_drew ?_ | refine blk_alloc ?_ _));exact BK475.out) hb);have n4_ := Aside0.mk (below_step (by repeat (first | (with_reducible first | exact HB.out | apply below_alloc | apply pw_below_drewN | apply below_drew1 | refine below_set ?_ GE462.out | refine below_set ?_ GE475.out) | exact HB.out)) hb);clear HO466;clear HO473;clear BK462;clear BK475;clear HB;have HO466 := n0_;have HO473 := n1_;have BK462 := n2_;have BK475 := n3_;have HB := n4_;clear n0_ n1_ n2_ n3_ n4_;(try clear hb);(try clear hb2);(try clear hk);(try clear hi)))
  (try simp only [Act.put,List.setIfInBounds_toArray,List.set_cons_zero,List.set_cons_succ])
  go_cut [51] (fun v51 wc => ∃ (kq : Nat) (x51_12 : Bool),v51 = .bool x51_12 ∧ Aside0 (laws_FnExactGreatestIn.j0 kq x51_12 l0_0 a0_1 t471 t474 = some r) ∧ Aside0 (kq ≤ k) ∧ Aside0 (Kd.R (Kd.int .i64) 3 wc w.heap.size (fun _ => True) (.slice Ao24 t471.length co24) t471) ∧ Aside0 (wc.heap[gb462]? = some (.cells #[(.slice A0_0 l0_0.length c0_0), .int .i64 a0_1] 24 (0,0))) ∧ Aside0 (wc.heap[gb475]? = some (.cells #[(.slice Ao24 t471.length co24), .int .i64 t474] 29 (0,0))) ∧ Aside0 (Below w.heap.size w wc))
  case first =>
   have H := HC13.out
   clear HC13
   by_cases c28 : t476 = t468
   ·rw [if_pos c28] at H
    have c28b0 : (t476 == t468) = true := beq_iff_eq.mpr c28
    have c28b1 : (t476 != t468) = false := bne_eq_false_iff_eq.mpr c28
    clear c28
    (first | rw [c28b0] | (simp only [i64_w,i32_w];rw [c28b0]) | skip)
    by_cases c29 : t477 = t469
    ·rw [if_pos c29] at H
     have c29b0 : (t477 == t469) = true := beq_iff_eq.mpr c29
     have c29b1 : (t477 != t469) = false := bne_eq_false_iff_eq.mpr c29
     clear c29
     have H' := Aside0.mk H
     clear H
     go_wp2
     go_meet
     case rel => exact ⟨_,((t478 != t470)),(by first | rfl | (simp;done) | (simp [*];done)),H',⟨by first | omega | exact Nat.le_refl _⟩,⟨by (with_reducible repeat (first | apply Kd.R_alloc | apply Kd.R_drewN | apply Kd.R_drew));exact Kd.R_mono HO473.out (fun _ hk => trivial)⟩,⟨by (with_reducible repeat (first | refine blk_drewN ?_ _ | refine blk_drew ?_ | refine blk_alloc ?_ _));exact BK462.out⟩,⟨by (with_reducible repeat (first | refine blk_drewN ?_ _ | refine blk_drew ?_ | refine blk_alloc ?_ _));exact BK475.out⟩,⟨by repeat (first | (with_reducible first | exact HB.out | apply below_alloc | apply pw_below_drewN | apply below_drew1 | refine below_set ?_ GE462.out | refine below_set ?_ GE475.out) | exact HB.out)⟩⟩
    ·rw [if_neg c29] at H
     have c29b0 : (t477 == t469) = false := beq_eq_false_iff_ne.mpr c29
     have c29b1 : (t477 != t469) = true := bne_iff_ne.mpr c29
     have H' := Aside0.mk H
     clear H
     go_wp2
     go_meet
     case rel => exact ⟨_,(true),(by first | rfl | (simp;done) | (simp [*];done)),H',⟨by first | omega | exact Nat.le_refl _⟩,⟨by (with_reducible repeat (first | apply Kd.R_alloc | apply Kd.R_drewN | apply Kd.R_drew));exact Kd.R_mono HO473.out (fun _ hk => trivial)⟩,⟨by (with_reducible repeat (first | refine blk_drewN ?_ _ | refine blk_drew ?_ | refine blk_alloc ?_ _));exact BK462.out⟩,⟨by (with_reducible repeat (first | refine blk_drewN ?_ _ | refine blk_drew ?_ | refine blk_alloc ?_ _));exact BK475.out⟩,⟨by repeat (first | (with_reducible first | exact HB.out | apply below_alloc | apply pw_below_drewN | apply below_drew1 | refine below_set ?_ GE462.out | refine below_set ?_ GE475.out) | exact HB.out)⟩⟩
   ·rw [if_neg c28] at H
    have c28b0 : (t476 == t468) = false := beq_eq_false_iff_ne.mpr c28
    have c28b1 : (t476 != t468) = true := bne_iff_ne.mpr c28
    (first | rw [c28b0] | (simp only [i64_w,i32_w];rw [c28b0]) | skip)
    have H' := Aside0.mk H
    clear H
    go_wp2
    go_meet
    case rel => exact ⟨_,(true),(by first | rfl | (simp;done) | (simp [*];done)),H',⟨by first | omega | exact Nat.le_refl _⟩,⟨by (with_reducible repeat (first | apply Kd.R_alloc | apply Kd.R_drewN | apply Kd.R_drew));exact Kd.R_mono HO473.out (fun _ hk => trivial)⟩,⟨by (with_reducible repeat (first | refine blk_drewN ?_ _ | refine blk_drew ?_ | refine blk_alloc ?_ _));exact BK462.out⟩,⟨by (with_reducible repeat (first | refine blk_drewN ?_ _ | refine blk_drew ?_ | refine blk_alloc ?_ _));exact BK475.out⟩,⟨by repeat (first | (with_reducible first | exact HB.out | apply below_alloc | apply pw_below_drewN | apply below_drew1 | refine below_set ?_ GE462.out | refine below_set ?_ GE475.out) | exact HB.out)⟩⟩
  case rest =>
   clear HC13
   try clear c1
   try clear c2
   try clear p2
   try clear c5
   try clear c5b0
   try clear c8
   try clear c10
   try clear c22
   try clear c23
   try clear c25
   try clear c28
   try clear c28b0
   try clear c28b1
   try clear c29
   try clear c29b0
   try clear c29b1
   try clear hcz15_0
   try clear hcz15_1
   try clear hcz17_0
   try clear hcz17_1
   try clear hcz21_0
   try clear hcz21_1
   try clear hcz26_0
   try clear hcz26_1
   try clear hcz7_0
   try clear hcz7_1
   try clear hfz15_0
   try clear hfz15_1
   try clear hfz17_0
   try clear hfz17_1
   try clear hfz21_0
   try clear hfz21_1
   try clear hfz26_0
   try clear hfz26_1
   try clear hfz7_0
   try clear hfz7_1
   obtain ⟨kq,x51_12,rfl,HA,HJ12,HO_476000,BK462,BK475,HB⟩ := hcut
   cases kq with
   | zero => exact absurd HA.out (by simp [laws_FnExactGreatestIn.j0])
   | succ kj12 =>
    have H := HA.out
    clear HA
    simp only [laws_FnExactGreatestIn.j0] at H
    by_cases c30 : x51_12 = true
    ·subst c30
     have H1 : (some false) = some r := by rw [if_pos rfl] at H;exact H
     clear H
     have H := H1
     clear H1
     obtain rfl := Option.some.inj H
     go_wp2
     go_ret
     exact ⟨by first | rfl | (simp [errW_none,errW_some] <;> rfl) | (simp [*,errW_none,errW_some] <;> rfl),by repeat (first | (with_reducible first | exact HB.out | apply below_alloc | apply pw_below_drewN | apply below_drew1 | refine below_set ?_ GE462.out | refine below_set ?_ GE475.out) | exact HB.out)⟩
    ·replace c30 := Bool.eq_false_iff.mpr c30
     subst c30
     have H1 : ((laws_toCups.f kj12 l0_0 a0_1).bind fun bt479 => ((laws_eqCups.f kj12 t471 t474 bt479.1 bt479.2).bind fun t483 => (if t483 = true then (some true) else (some false)))) = some r := by rw [if_neg (show ¬ (false = true) by decide)] at H;exact H
     clear H
     have H := H1
     clear H1
     replace H := Option.bind_eq_some_iff.mp H
     obtain ⟨⟨t479,t482⟩,A310,H⟩ := H
     replace H : ((laws_eqCups.f kj12 t471 t474 t479 t482).bind fun t483 => (if t483 = true then (some true) else (some false))) = some r := H
     have A31 := Aside0.mk A310
     clear A310
     replace H := Option.bind_eq_some_iff.mp H
     obtain ⟨t483,A320,H⟩ := H
     replace H : (if t483 = true then (some true) else (some false)) = some r := H
     have A32 := Aside0.mk A320
     clear A320
     by_cases c33 : t483 = true
     ·subst c33
      have H1 : (some true) = some r := by rw [if_pos rfl] at H;exact H
      clear H
      have H := H1
      clear H1
      obtain rfl := Option.some.inj H
      try go_wp2
      have n0_ := Aside0.mk (Kd.R_drew HO_476000.out)
      have n1_ := Aside0.mk (blk_drew BK462.out)
      have n2_ := Aside0.mk (blk_drew BK475.out)
      have n3_ := Aside0.mk (below_drew1 HB.out)
      clear HO_476000
      clear BK462
      clear BK475
      clear HB
      have HO_476000 := n0_
      have BK462 := n1_
      have BK475 := n2_
      have HB := n3_
      clear n0_ n1_ n2_ n3_
      refine start_ (n := 5) (S := fun w' => w'.cell? ⟨gb475,0,none⟩ = some (.slice Ao24 t471.length co24) ∧ w'.cell? ⟨gb475,1,none⟩ = some (.int .i64 t474) ∧ w'.cell? ⟨gb462,0,none⟩ = some (.slice A0_0 l0_0.length c0_0) ∧ w'.cell? ⟨gb462,1,none⟩ = some (.int .i64 a0_1)) (ds := []) #[false,false,false,false,false] (by kernel_rfl) rfl rfl ⟨(blk_cell BK475.out 0).trans rfl,(blk_cell BK475.out 1).trans rfl,(blk_cell BK462.out 0).trans rfl,(blk_cell BK462.out 1).trans rfl⟩ (fun hHeld => ?_)
      generalize wc.drew = w34 at HO_476000 BK462 BK475 HB hHeld ⊢
      refine take_ (i := 0) (N := some 52) (v := ?_) (a' := ?_) #[true,false,false,false,false] rfl rfl (by kernel_rfl) (fun _ _ _ h => h) (Or.inl ⟨by rfl,?_⟩) hHeld ?_ ?_
      rotate_left
      ·rintro w' ⟨s0,s1,s2,s3⟩
       go_simp
       with_reducible rfl
      rotate_left
      ·simp only [Act.put,List.setIfInBounds_toArray,List.set_cons_zero,List.set_cons_succ,i64_w,i32_w]
       rfl
      refine take_ (i := 1) (N := some 53) (v := ?_) (a' := ?_) #[true,true,false,false,false] rfl rfl (by kernel_rfl) (fun _ _ _ h => h) (Or.inl ⟨by rfl,?_⟩) hHeld ?_ ?_
      rotate_left
      ·rintro w' ⟨s0,s1,s2,s3⟩
       go_simp
       with_reducible rfl
      rotate_left
      ·simp only [Act.put,List.setIfInBounds_toArray,List.set_cons_zero,List.set_cons_succ,i64_w,i32_w]
       rfl
      refine one_ (i := 2) (N := some 54) #[true,true,true,false,false] rfl rfl (by kernel_rfl) (by decide) (fun K hK => ?_)
      refine goes_ Try.func10 (by kernel_rfl) rfl #[.agg #[.slice A0_0 l0_0.length c0_0, .int .i64 a0_1]] (by rfl) rfl rfl (by (try simp only [List.map_toArray,List.map_cons,List.map_nil]);first | done | rfl | (simp only [List.length_drop,List.length_take];rfl)) ?_
      with_reducible refine (laws_toCups.calls kj12 _ _ l0_0 a0_1 t479 t482 _ ?side1 ?side2 A31.out).mono ?_
      (case side1 => repeat (first | exact (Kd.C_below HR0_0.out HB.out) | (with_reducible refine Kd.C_alloc ?_ _) | (with_reducible refine Kd.C_drewN ?_ _) | (with_reducible refine Kd.C_drew ?_)))
      (case side2 => exact HC0_0.out)
      rintro e w35 ⟨v480,rfl,ho0,hb⟩
      refine ⟨_,rfl,?_⟩
      have n0_ := Aside0.mk (Kd.R_elder' (by (with_reducible repeat (first | apply Kd.R_alloc | apply Kd.R_drewN | apply Kd.R_drew));exact HO_476000.out) (Kd.R_base ho0) hb)
      have n1_ := Aside0.mk (Kd.R_lower (Kd.R_new' ho0 (Kd.R_lt (by (with_reducible repeat (first | apply Kd.R_alloc | apply Kd.R_drewN | apply Kd.R_drew));exact HO_476000.out))) (below_size (by repeat (first | (with_reducible first | exact HB.out | apply below_alloc | apply pw_below_drewN | apply below_drew1 | refine below_set ?_ GE462.out | refine below_set ?_ GE475.out) | exact HB.out))))
      have n2_ := Aside0.mk (blk_below (g := gb462) (o := .cells #[.slice A0_0 l0_0.length c0_0, .int .i64 a0_1] 24 (0,0)) (by (with_reducible repeat (first | refine blk_drewN ?_ _ | refine blk_drew ?_ | refine blk_alloc ?_ _));exact BK462.out) hb)
      have n3_ := Aside0.mk (blk_below (g := gb475) (o := .cells #[.slice Ao24 t471.length co24, .int .i64 t474] 29 (0,0)) (by (with_reducible repeat (first | refine blk_drewN ?_ _ | refine blk_drew ?_ | refine blk_alloc ?_ _));exact BK475.out) hb)
      have n4_ := Aside0.mk (below_step (by repeat (first | (with_reducible first | exact HB.out | apply below_alloc | apply pw_below_drewN | apply below_drew1 | refine below_set ?_ GE462.out | refine below_set ?_ GE475.out) | exact HB.out)) hb)
      clear HO_476000
      clear BK462
      clear BK475
      clear HB
      have HO_476000 := n0_
      have HO481 := n1_
      have BK462 := n2_
      have BK475 := n3_
      have HB := n4_
      clear n0_ n1_ n2_ n3_ n4_
      (try clear hb)
      (try clear hb2)
      (try clear hk)
      (try clear hi)
      (try clear ho0)
      obtain ⟨Ao36,co36,eo36⟩ := Kd.R_slice HO481.out
      (first | subst eo36 | (injection eo36 with f1_ f2_ f3_;have f4_ := f1_.symm;have f5_ := f3_.symm;clear f1_ f2_ f3_;subst f4_;subst f5_))
      refine hK.out _ _ ⟨(blk_cell BK475.out 0).trans rfl,(blk_cell BK475.out 1).trans rfl,(blk_cell BK462.out 0).trans rfl,(blk_cell BK462.out 1).trans rfl⟩ (fun hHeld => ?_)
      clear hK K
      refine norm_ (a' := ?_) ?_ ?_
      rotate_left
      ·show Act.put _ (some 54) _ = _
       simp only [Act.put,List.setIfInBounds_toArray,List.set_cons_zero,List.set_cons_succ,i64_w,i32_w]
       rfl
      refine one_ (i := 3) (N := some 55) #[true,true,true,true,false] rfl rfl (by kernel_rfl) (by decide) (fun K hK => ?_)
      refine goes_ Try.func13 (by kernel_rfl) rfl #[.agg #[.slice Ao24 t471.length co24, .int .i64 t474], .agg #[.slice Ao36 t479.length co36, .int .i64 t482]] (by rfl) rfl rfl (by (try simp only [List.map_toArray,List.map_cons,List.map_nil]);first | done | rfl | (simp only [List.length_drop,List.length_take];rfl)) ?_
      with_reducible refine (laws_eqCups.calls kj12 _ _ t471 t474 _ _ t479 t482 true _ ?side1 ?side2 ?side3 ?side4 A32.out).mono ?_
      (case side1 => repeat (first | exact (Kd.R_reads' HO_476000.out).2.2 | (with_reducible refine Kd.C_alloc ?_ _) | (with_reducible refine Kd.C_drewN ?_ _) | (with_reducible refine Kd.C_drew ?_)))
      (case side2 => exact (Kd.R_reads' HO_476000.out).2.1)
      (case side3 => repeat (first | exact (Kd.R_reads' HO481.out).2.2 | (with_reducible refine Kd.C_alloc ?_ _) | (with_reducible refine Kd.C_drewN ?_ _) | (with_reducible refine Kd.C_drew ?_)))
      (case side4 => exact (Kd.R_reads' HO481.out).2.1)
      rintro e w37 ⟨rfl,hb⟩
      refine ⟨_,rfl,?_⟩
      have n0_ := Aside0.mk (Kd.R_below (by (with_reducible repeat (first | apply Kd.R_alloc | apply Kd.R_drewN | apply Kd.R_drew));exact HO_476000.out) hb)
      have n1_ := Aside0.mk (Kd.R_below (by (with_reducible repeat (first | apply Kd.R_alloc | apply Kd.R_drewN | apply Kd.R_drew));exact HO481.out) hb)
      have n2_ := Aside0.mk (blk_below (g := gb462) (o := .cells #[.slice A0_0 l0_0.length c0_0, .int .i64 a0_1] 24 (0,0)) (by (with_reducible repeat (first | refine blk_drewN ?_ _ | refine blk_drew ?_ | refine blk_alloc ?_ _));exact BK462.out) hb)
      have n3_ := Aside0.mk (blk_below (g := gb475) (o := .cells #[.slice Ao24 t471.length co24, .int .i64 t474] 29 (0,0)) (by (with_reducible repeat (first | refine blk_drewN ?_ _ | refine blk_drew ?_ | refine blk_alloc ?_ _));exact BK475.out) hb)
      have n4_ := Aside0.mk (below_step (by repeat (first | (with_reducible first | exact HB.out | apply below_alloc | apply pw_below_drewN | apply below_drew1 | refine below_set ?_ GE462.out | refine below_set ?_ GE475.out) | exact HB.out)) hb)
      clear HO_476000
      clear HO481
      clear BK462
      clear BK475
      clear HB
      have HO_476000 := n0_
      have HO481 := n1_
      have BK462 := n2_
      have BK475 := n3_
      have HB := n4_
      clear n0_ n1_ n2_ n3_ n4_
      (try clear hb)
      (try clear hb2)
      (try clear hk)
      (try clear hi)
      refine hK.out _ _ ⟨(blk_cell BK475.out 0).trans rfl,(blk_cell BK475.out 1).trans rfl,(blk_cell BK462.out 0).trans rfl,(blk_cell BK462.out 1).trans rfl⟩ (fun hHeld => ?_)
      clear hK K
      refine norm_ (a' := ?_) ?_ ?_
      rotate_left
      ·show Act.put _ (some 55) _ = _
       simp only [Act.put,List.setIfInBounds_toArray,List.set_cons_zero,List.set_cons_succ,i64_w,i32_w]
       rfl
      refine pure_ (i := 4) (N := some 56) (v := ?_) (a' := ?_) #[true,true,true,true,true] rfl rfl (by kernel_rfl) (fun _ _ _ h => h) (Or.inl ⟨by rfl,?_⟩) ?_ ?_
      rotate_left
      ·intro w'
       go_simp
       with_reducible rfl
      rotate_left
      ·simp only [Act.put,List.setIfInBounds_toArray,List.set_cons_zero,List.set_cons_succ,i64_w,i32_w]
       rfl
      refine done_ (by kernel_rfl) ?_
      try go_wp2
      go_ret
      exact ⟨by first | rfl | (simp [errW_none,errW_some] <;> rfl) | (simp [*,errW_none,errW_some] <;> rfl),by repeat (first | (with_reducible first | exact HB.out | apply below_alloc | apply pw_below_drewN | apply below_drew1 | refine below_set ?_ GE462.out | refine below_set ?_ GE475.out) | exact HB.out)⟩
     ·replace c33 := Bool.eq_false_iff.mpr c33
      subst c33
      have H1 : (some false) = some r := by rw [if_neg (show ¬ (false = true) by decide)] at H;exact H
      clear H
      have H := H1
      clear H1
      obtain rfl := Option.some.inj H
      try go_wp2
      have n0_ := Aside0.mk (Kd.R_drew HO_476000.out)
      have n1_ := Aside0.mk (blk_drew BK462.out)
      have n2_ := Aside0.mk (blk_drew BK475.out)
      have n3_ := Aside0.mk (below_drew1 HB.out)
      clear HO_476000
      clear BK462
      clear BK475
      clear HB
      have HO_476000 := n0_
      have BK462 := n1_
      have BK475 := n2_
      have HB := n3_
      clear n0_ n1_ n2_ n3_
      refine start_ (n := 5) (S := fun w' => w'.cell? ⟨gb475,0,none⟩ = some (.slice Ao24 t471.length co24) ∧ w'.cell? ⟨gb475,1,none⟩ = some (.int .i64 t474) ∧ w'.cell? ⟨gb462,0,none⟩ = some (.slice A0_0 l0_0.length c0_0) ∧ w'.cell? ⟨gb462,1,none⟩ = some (.int .i64 a0_1)) (ds := []) #[false,false,false,false,false] (by kernel_rfl) rfl rfl ⟨(blk_cell BK475.out 0).trans rfl,(blk_cell BK475.out 1).trans rfl,(blk_cell BK462.out 0).trans rfl,(blk_cell BK462.out 1).trans rfl⟩ (fun hHeld => ?_)
      generalize wc.drew = w38 at HO_476000 BK462 BK475 HB hHeld ⊢
      refine take_ (i := 0) (N := some 52) (v := ?_) (a' := ?_) #[true,false,false,false,false] rfl rfl (by kernel_rfl) (fun _ _ _ h => h) (Or.inl ⟨by rfl,?_⟩) hHeld ?_ ?_
      rotate_left
      ·rintro w' ⟨s0,s1,s2,s3⟩
       go_simp
       with_reducible rfl
      rotate_left
      ·simp only [Act.put,List.setIfInBounds_toArray,List.set_cons_zero,List.set_cons_succ,i64_w,i32_w]
       rfl
      refine take_ (i := 1) (N := some 53) (v := ?_) (a' := ?_) #[true,true,false,false,false] rfl rfl (by kernel_rfl) (fun _ _ _ h => h) (Or.inl ⟨by rfl,?_⟩) hHeld ?_ ?_
      rotate_left
      ·rintro w' ⟨s0,s1,s2,s3⟩
       go_simp
       with_reducible rfl
      rotate_left
      ·simp only [Act.put,List.setIfInBounds_toArray,List.set_cons_zero,List.set_cons_succ,i64_w,i32_w]
       rfl
      refine one_ (i := 2) (N := some 54) #[true,true,true,false,false] rfl rfl (by kernel_rfl) (by decide) (fun K hK => ?_)
      refine goes_ Try.func10 (by kernel_rfl) rfl #[.agg #[.slice A0_0 l0_0.length c0_0, .int .i64 a0_1]] (by rfl) rfl rfl (by (try simp only [List.map_toArray,List.map_cons,List.map_nil]);first | done | rfl | (simp only [List.length_drop,List.length_take];rfl)) ?_
      with_reducible refine (laws_toCups.calls kj12 _ _ l0_0 a0_1 t479 t482 _ ?side1 ?side2 A31.out).mono ?_
      (case side1 => repeat (first | exact (Kd.C_below HR0_0.out HB.out) | (with_reducible refine Kd.C_alloc ?_ _) | (with_reducible refine Kd.C_drewN ?_ _) | (with_reducible refine Kd.C_drew ?_)))
      (case side2 => exact HC0_0.out)
      rintro e w39 ⟨v480,rfl,ho0,hb⟩
      refine ⟨_,rfl,?_⟩
      have n0_ := Aside0.mk (Kd.R_elder' (by (with_reducible repeat (first | apply Kd.R_alloc | apply Kd.R_drewN | apply Kd.R_drew));exact HO_476000.out) (Kd.R_base ho0) hb)
      have n1_ := Aside0.mk (Kd.R_lower (Kd.R_new' ho0 (Kd.R_lt (by (with_reducible repeat (first | apply Kd.R_alloc | apply Kd.R_drewN | apply Kd.R_drew));exact HO_476000.out))) (below_size (by repeat (first | (with_reducible first | exact HB.out | apply below_alloc | apply pw_below_drewN | apply below_drew1 | refine below_set ?_ GE462.out | refine below_set ?_ GE475.out) | exact HB.out))))
      have n2_ := Aside0.mk (blk_below (g := gb462) (o := .cells #[.slice A0_0 l0_0.length c0_0, .int .i64 a0_1] 24 (0,0)) (by (with_reducible repeat (first | refine blk_drewN ?_ _ | refine blk_drew ?_ | refine blk_alloc ?_ _));exact BK462.out) hb)
      have n3_ := Aside0.mk (blk_below (g := gb475) (o := .cells #[.slice Ao24 t471.length co24, .int .i64 t474] 29 (0,0)) (by (with_reducible repeat (first | refine blk_drewN ?_ _ | refine blk_drew ?_ | refine blk_alloc ?_ _));exact BK475.out) hb)
      have n4_ := Aside0.mk (below_step (by repeat (first | (with_reducible first | exact HB.out | apply below_alloc | apply pw_below_drewN | apply below_drew1 | refine below_set ?_ GE462.out | refine below_set ?_ GE475.out) | exact HB.out)) hb)
      clear HO_476000
      clear BK462
      clear BK475
      clear HB
      have HO_476000 := n0_
      have HO481 := n1_
      have BK462 := n2_
      have BK475 := n3_
      have HB := n4_
      clear n0_ n1_ n2_ n3_ n4_
      (try clear hb)
      (try clear hb2)
      (try clear hk)
      (try clear hi)
      (try clear ho0)
      obtain ⟨Ao40,co40,eo40⟩ := Kd.R_slice HO481.out
      (first | subst eo40 | (injection eo40 with f1_ f2_ f3_;have f4_ := f1_.symm;have f5_ := f3_.symm;clear f1_ f2_ f3_;subst f4_;subst f5_))
      refine hK.out _ _ ⟨(blk_cell BK475.out 0).trans rfl,(blk_cell BK475.out 1).trans rfl,(blk_cell BK462.out 0).trans rfl,(blk_cell BK462.out 1).trans rfl⟩ (fun hHeld => ?_)
      clear hK K
      refine norm_ (a' := ?_) ?_ ?_
      rotate_left
      ·show Act.put _ (some 54) _ = _
       simp only [Act.put,List.setIfInBounds_toArray,List.set_cons_zero,List.set_cons_succ,i64_w,i32_w]
       rfl
      refine one_ (i := 3) (N := some 55) #[true,true,true,true,false] rfl rfl (by kernel_rfl) (by decide) (fun K hK => ?_)
      refine goes_ Try.func13 (by kernel_rfl) rfl #[.agg #[.slice Ao24 t471.length co24, .int .i64 t474], .agg #[.slice Ao40 t479.length co40, .int .i64 t482]] (by rfl) rfl rfl (by (try simp only [List.map_toArray,List.map_cons,List.map_nil]);first | done | rfl | (simp only [List.length_drop,List.length_take];rfl)) ?_
      with_reducible refine (laws_eqCups.calls kj12 _ _ t471 t474 _ _ t479 t482 false _ ?side1 ?side2 ?side3 ?side4 A32.out).mono ?_
      (case side1 => repeat (first | exact (Kd.R_reads' HO_476000.out).2.2 | (with_reducible refine Kd.C_alloc ?_ _) | (with_reducible refine Kd.C_drewN ?_ _) | (with_reducible refine Kd.C_drew ?_)))
      (case side2 => exact (Kd.R_reads' HO_476000.out).2.1)
      (case side3 => repeat (first | exact (Kd.R_reads' HO481.out).2.2 | (with_reducible refine Kd.C_alloc ?_ _) | (with_reducible refine Kd.C_drewN ?_ _) | (with_reducible refine Kd.C_drew ?_)))
      (case side4 => exact (Kd.R_reads' HO481.out).2.1)
      rintro e w41 ⟨rfl,hb⟩
      refine ⟨_,rfl,?_⟩
      have n0_ := Aside0.mk (Kd.R_below (by (with_reducible repeat (first | apply Kd.R_alloc | apply Kd.R_drewN | apply Kd.R_drew));exact HO_476000.out) hb)
      have n1_ := Aside0.mk (Kd.R_below (by (with_reducible repeat (first | apply Kd.R_alloc | apply Kd.R_drewN | apply Kd.R_drew));exact HO481.out) hb)
      have n2_ := Aside0.mk (blk_below (g := gb462) (o := .cells #[.slice A0_0 l0_0.length c0_0, .int .i64 a0_1] 24 (0,0)) (by (with_reducible repeat (first | refine blk_drewN ?_ _ | refine blk_drew ?_ | refine blk_alloc ?_ _));exact BK462.out) hb)
      have n3_ := Aside0.mk (blk_below (g := gb475) (o := .cells #[.slice Ao24 t471.length co24, .int .i64 t474] 29 (0,0)) (by (with_reducible repeat (first | refine blk_drewN ?_ _ | refine blk_drew ?_ | refine blk_alloc ?_ _));exact BK475.out) hb)
      have n4_ := Aside0.mk (below_step (by repeat (first | (with_reducible first | exact HB.out | apply below_alloc | apply pw_below_drewN | apply below_drew1 | refine below_set ?_ GE462.out | refine below_set ?_ GE475.out) | exact HB.out)) hb)
      clear HO_476000
      clear HO481
      clear BK462
      clear BK475
      clear HB
      have HO_476000 := n0_
      have HO481 := n1_
      have BK462 := n2_
      have BK475 := n3_
      have HB := n4_
      clear n0_ n1_ n2_ n3_ n4_
      (try clear hb)
      (try clear hb2)
      (try clear hk)
      (try clear hi)
      refine hK.out _ _ ⟨(blk_cell BK475.out 0).trans rfl,(blk_cell BK475.out 1).trans rfl,(blk_cell BK462.out 0).trans rfl,(blk_cell BK462.out 1).trans rfl⟩ (fun hHeld => ?_)
      clear hK K
      refine norm_ (a' := ?_) ?_ ?_
      rotate_left
      ·show Act.put _ (some 55) _ = _
       simp only [Act.put,List.setIfInBounds_toArray,List.set_cons_zero,List.set_cons_succ,i64_w,i32_w]
       rfl
      refine pure_ (i := 4) (N := some 56) (v := ?_) (a' := ?_) #[true,true,true,true,true] rfl rfl (by kernel_rfl) (fun _ _ _ h => h) (Or.inl ⟨by rfl,?_⟩) ?_ ?_
      rotate_left
      ·intro w'
       go_simp
       with_reducible rfl
      rotate_left
      ·simp only [Act.put,List.setIfInBounds_toArray,List.set_cons_zero,List.set_cons_succ,i64_w,i32_w]
       rfl
      refine done_ (by kernel_rfl) ?_
      try go_wp2
      go_ret
      exact ⟨by first | rfl | (simp [errW_none,errW_some] <;> rfl) | (simp [*,errW_none,errW_some] <;> rfl),by repeat (first | (with_reducible first | exact HB.out | apply below_alloc | apply pw_below_drewN | apply below_drew1 | refine below_set ?_ GE462.out | refine below_set ?_ GE475.out) | exact HB.out)⟩

end Go.Proofs.Ytmkpngmdikbbeaa.P
