/- Written by a program of this workplace (own_print.py, over the kit's print) for the functions that the statements reach, with contracts of its own. Lean checks it. -/
import Derived.Test.YtmkpngmdikbbeaaPx0
import Derived.Test.YtmkpngmdikbbeaaPx1
import Derived.Test.YtmkpngmdikbbeaaPx2
import Derived.Test.YtmkpngmdikbbeaaPx3
import Derived.Test.YtmkpngmdikbbeaaPx16
import Derived.Test.YtmkpngmdikbbeaaPx18
namespace Go.Proofs.Ytmkpngmdikbbeaa.P
open Go.RowKit Go.Proofs.YtmkpngmdikbbeaaW.PrintWords Go.Proofs.YtmkpngmdikbbeaaW.PrintLast Go.Proofs.YtmkpngmdikbbeaaW.PrintMore
attribute [local go_sem] max2_int min2_int max_two min_two max_three min_three max_four min_four   -- for this text's walks alone
set_option linter.unusedVariables false
set_option linter.unusedSimpArgs false

/-! ### laws_FnExactFewestToAlike: function 7 -/
def laws_FnExactFewestToAlike.j0 : Nat → Bool → List Int → Int → List Int → Int → Option (Bool)
 | 0,_,_,_,_,_ => none
 | k + 1,x38,x544000,x544001,x556000,x556001 => if x38 = true then (some false) else ((laws_toCups.f k x544000 x544001).bind fun bt558 => ((laws_eqCups.f k x556000 x556001 bt558.1 bt558.2).bind fun t562 => (if t562 = true then (some true) else (some false))))
def laws_FnExactFewestToAlike.f (k : Nat) (l0_0 : List Int) (a0_1 : Int) (a1 : Int) : Option (Bool) := (laws_szCups.f l0_0 a0_1 1048576).bind fun t544 => (if t544 < 0 then (some true) else ((laws_toCups.f k l0_0 a0_1).bind fun bt545 => ((spec_FewestToAlike.f k bt545.1 bt545.2 a1).bind fun bt549 => ((laws_toCups.f k l0_0 a0_1).bind fun bt551 => ((impl_FewestToAlike.f k bt551.1 bt551.2 a1).bind fun bt556 => (if bt556.1 = bt549.1 then (laws_FnExactFewestToAlike.j0 k (bt556.2 != bt549.2) l0_0 a0_1 bt551.1 bt551.2) else (laws_FnExactFewestToAlike.j0 k true l0_0 a0_1 bt551.1 bt551.2)))))))
theorem laws_FnExactFewestToAlike.mono_l : ∀ k,(∀ y0 y1 y2 y3 y4,LeO (laws_FnExactFewestToAlike.j0 k y0 y1 y2 y3 y4) (laws_FnExactFewestToAlike.j0 (k + 1) y0 y1 y2 y3 y4))
 | 0 => fun _ _ _ _ _ r h => by simp [laws_FnExactFewestToAlike.j0] at h
 | k + 1 => by
  have ih0 := laws_FnExactFewestToAlike.mono_l k
  ·intro y0 y1 y2 y3 y4
   unfold laws_FnExactFewestToAlike.j0
   repeat' first
   | (with_reducible exact ih0 _ _ _ _ _)
   | (with_reducible exact impl_FewestToAlike.mono _ _ _ _)
   | (with_reducible exact laws_eqCups.mono _ _ _ _ _)
   | (with_reducible exact laws_toCups.mono _ _ _)
   | (with_reducible exact spec_FewestToAlike.mono _ _ _ _)
   | (with_reducible exact LeO.refl _)
   | (with_reducible exact LeO.none _)
   | (with_reducible refine LeO.ite ?_ ?_)
   | (with_reducible refine LeO.bind ?_ (fun _ => ?_))
   | exact ih0 _ _ _ _ _
   | exact impl_FewestToAlike.mono _ _ _ _
   | exact laws_eqCups.mono _ _ _ _ _
   | exact laws_toCups.mono _ _ _
   | exact spec_FewestToAlike.mono _ _ _ _
   | exact LeO.none _
   | refine LeO.ite ?_ ?_
   | refine LeO.bind ?_ (fun _ => ?_)
theorem laws_FnExactFewestToAlike.mono : ∀ a0 a1 a2 k,LeO (laws_FnExactFewestToAlike.f k a0 a1 a2) (laws_FnExactFewestToAlike.f (k + 1) a0 a1 a2) := by
 intro a0 a1 a2 k
 have ih0 := laws_FnExactFewestToAlike.mono_l k
 unfold laws_FnExactFewestToAlike.f
 repeat' first
   | (with_reducible exact ih0 _ _ _ _ _)
   | (with_reducible exact impl_FewestToAlike.mono _ _ _ _)
   | (with_reducible exact laws_eqCups.mono _ _ _ _ _)
   | (with_reducible exact laws_toCups.mono _ _ _)
   | (with_reducible exact spec_FewestToAlike.mono _ _ _ _)
   | (with_reducible exact LeO.refl _)
   | (with_reducible exact LeO.none _)
   | (with_reducible refine LeO.ite ?_ ?_)
   | (with_reducible refine LeO.bind ?_ (fun _ => ?_))
   | exact ih0 _ _ _ _ _
   | exact impl_FewestToAlike.mono _ _ _ _
   | exact laws_eqCups.mono _ _ _ _ _
   | exact laws_toCups.mono _ _ _
   | exact spec_FewestToAlike.mono _ _ _ _
   | exact LeO.none _
   | refine LeO.ite ?_ ?_
   | refine LeO.bind ?_ (fun _ => ?_)
set_option maxHeartbeats 8000000 in
set_option maxRecDepth 100000 in
theorem laws_FnExactFewestToAlike.calls (k : Nat) (A0_0 : Option Addr) (c0_0 : Nat) (l0_0 : List Int) (a0_1 : Int) (a1 : Int) (r : Bool) (w : World) (hr0_0 : Kd.C (Kd.int .i64) w A0_0 l0_0.length l0_0) (hc0_0 : l0_0.length ≤ c0_0) (h : laws_FnExactFewestToAlike.f k l0_0 a0_1 a1 = some r) :
  Calls Try.prog 7 #[.agg #[.slice A0_0 l0_0.length c0_0, .int .i64 a0_1], .int .i64 a1] w fun e w' => e = .returned (.bool r) ∧ Below w.heap.size w w' := by
 have hu24 := Try.underlying24
 have hu29 := Try.underlying29
 have HR0_0 := Aside0.mk hr0_0
 have HC0_0 := Aside0.mk hc0_0
 clear hr0_0 hc0_0
 have HB := Aside0.mk (Below.refl w.heap.size w)
 have H : ((laws_szCups.f l0_0 a0_1 1048576).bind fun t544 => (if t544 < 0 then (some true) else ((laws_toCups.f k l0_0 a0_1).bind fun bt545 => ((spec_FewestToAlike.f k bt545.1 bt545.2 a1).bind fun bt549 => ((laws_toCups.f k l0_0 a0_1).bind fun bt551 => ((impl_FewestToAlike.f k bt551.1 bt551.2 a1).bind fun bt556 => (if bt556.1 = bt549.1 then (laws_FnExactFewestToAlike.j0 k (bt556.2 != bt549.2) l0_0 a0_1 bt551.1 bt551.2) else (laws_FnExactFewestToAlike.j0 k true l0_0 a0_1 bt551.1 bt551.2)))))))) = some r := h
 clear h
 replace H := Option.bind_eq_some_iff.mp H
 obtain ⟨t544,A30,H⟩ := H
 replace H : (if t544 < 0 then (some true) else ((laws_toCups.f k l0_0 a0_1).bind fun bt545 => ((spec_FewestToAlike.f k bt545.1 bt545.2 a1).bind fun bt549 => ((laws_toCups.f k l0_0 a0_1).bind fun bt551 => ((impl_FewestToAlike.f k bt551.1 bt551.2 a1).bind fun bt556 => (if bt556.1 = bt549.1 then (laws_FnExactFewestToAlike.j0 k (bt556.2 != bt549.2) l0_0 a0_1 bt551.1 bt551.2) else (laws_FnExactFewestToAlike.j0 k true l0_0 a0_1 bt551.1 bt551.2))))))) = some r := H
 have A3 := Aside0.mk A30
 clear A30
 by_cases c4 : t544 < 0
 ·rw [if_pos c4] at H
  have c4b0 : decide (t544 < 0) = true := decide_eq_true c4
  clear c4
  obtain rfl := Option.some.inj H
  go_enter Try.func7,Try.ntmps7
  go_wp2_with (first | ((with_reducible refine gate_dst (N := 2) rfl ?_);refine box_event ?hg (N := 2) ?hd (cs := #[.slice A0_0 l0_0.length c0_0, .int .i64 a0_1]) (t := 24) ?hr ?_;(case hd => rfl);(case hg => rfl);(case hr => first | (go_simp;done) | (go_simp;rfl));intro gb543 hg w5 hbox hb;have n0_ := Aside0.mk (below_step (by repeat (first | (with_reducible first | exact HB.out | apply below_alloc | apply pw_below_drewN | apply below_drew1) | exact HB.out)) hb);have n1_ := Aside0.mk (hbox);have n2_ := Aside0.mk ((by rw [hg];exact (below_size (by repeat (first | (with_reducible first | exact HB.out | apply below_alloc | apply pw_below_drewN | apply below_drew1) | exact HB.out))) : w.heap.size ≤ gb543));have n3_ := Aside0.mk ((by rw [hg];exact (below_size (by repeat (first | (with_reducible first | exact HB.out | apply below_alloc | apply pw_below_drewN | apply below_drew1) | exact HB.out))) : w.heap.size ≤ gb543));clear HB;have HB := n0_;have BK543 := n1_;have GW543 := n2_;have GE543 := n3_;clear n0_ n1_ n2_ n3_;clear hb hbox hg;have hcz6_0 : w5.cell? ⟨gb543,0,none⟩ = some (.slice A0_0 l0_0.length c0_0) := (blk_cell BK543.out 0).trans rfl;have hcz6_1 : w5.cell? ⟨gb543,1,none⟩ = some (.int .i64 a0_1) := (blk_cell BK543.out 1).trans rfl;have hfz6_0 := blk_frozen BK543.out 0;have hfz6_1 := blk_frozen BK543.out 1) | ((with_reducible refine gate_callee (f := 8) rfl ?_);refine goesL_ (some 13) rfl rfl Try.func8 (by kernel_rfl) rfl #[.agg #[.slice A0_0 l0_0.length c0_0, .int .i64 a0_1], .int .i64 1048576] rfl (by (try simp only [List.map_toArray,List.map_cons,List.map_nil]);first | done | rfl | (simp only [List.length_drop,List.length_take];rfl)) ?_;(with_reducible refine (laws_szCups.calls _ _ l0_0 a0_1 1048576 t544 _ ?side1 ?side2 A3.out).mono ?_);(case side1 => repeat (first | exact (Kd.C_below HR0_0.out HB.out) | (with_reducible refine Kd.C_alloc ?_ _) | (with_reducible refine Kd.C_drewN ?_ _) | (with_reducible refine Kd.C_drew ?_)));(case side2 => exact HC0_0.out);rintro e w7 ⟨rfl,hb⟩;refine ⟨_,rfl,?_⟩;have n0_ := Aside0.mk (blk_below (g := gb543) (o := .cells #[.slice A0_0 l0_0.length c0_0, .int .i64 a0_1] 24 (0,0)) (by (with_reducible repeat (first | refine blk_drewN ?_ _ | refine blk_drew ?_ | refine blk_alloc ?_ _));exact BK543.out) hb);have n1_ := Aside0.mk (below_step (by repeat (first | (with_reducible first | exact HB.out | apply below_alloc | apply pw_below_drewN | apply below_drew1 | refine below_set ?_ GE543.out) | exact HB.out)) hb);clear BK543;clear HB;have BK543 := n0_;have HB := n1_;clear n0_ n1_;(try clear hb);(try clear hb2);(try clear hk);(try clear hi)))
  go_ret
  exact ⟨by first | rfl | (simp [errW_none,errW_some] <;> rfl) | (simp [*,errW_none,errW_some] <;> rfl),by repeat (first | (with_reducible first | exact HB.out | apply below_alloc | apply pw_below_drewN | apply below_drew1 | refine below_set ?_ GE543.out) | exact HB.out)⟩
 ·rw [if_neg c4] at H
  have c4b0 : decide (t544 < 0) = false := decide_eq_false c4
  clear c4
  replace H := Option.bind_eq_some_iff.mp H
  obtain ⟨⟨t545,t548⟩,A80,H⟩ := H
  replace H : ((spec_FewestToAlike.f k t545 t548 a1).bind fun bt549 => ((laws_toCups.f k l0_0 a0_1).bind fun bt551 => ((impl_FewestToAlike.f k bt551.1 bt551.2 a1).bind fun bt556 => (if bt556.1 = bt549.1 then (laws_FnExactFewestToAlike.j0 k (bt556.2 != bt549.2) l0_0 a0_1 bt551.1 bt551.2) else (laws_FnExactFewestToAlike.j0 k true l0_0 a0_1 bt551.1 bt551.2))))) = some r := H
  have A8 := Aside0.mk A80
  clear A80
  replace H := Option.bind_eq_some_iff.mp H
  obtain ⟨⟨t549,t550⟩,A90,H⟩ := H
  replace H : ((laws_toCups.f k l0_0 a0_1).bind fun bt551 => ((impl_FewestToAlike.f k bt551.1 bt551.2 a1).bind fun bt556 => (if bt556.1 = t549 then (laws_FnExactFewestToAlike.j0 k (bt556.2 != t550) l0_0 a0_1 bt551.1 bt551.2) else (laws_FnExactFewestToAlike.j0 k true l0_0 a0_1 bt551.1 bt551.2)))) = some r := H
  have A9 := Aside0.mk A90
  clear A90
  replace H := Option.bind_eq_some_iff.mp H
  obtain ⟨⟨t551,t554⟩,A100,H⟩ := H
  replace H : ((impl_FewestToAlike.f k t551 t554 a1).bind fun bt556 => (if bt556.1 = t549 then (laws_FnExactFewestToAlike.j0 k (bt556.2 != t550) l0_0 a0_1 t551 t554) else (laws_FnExactFewestToAlike.j0 k true l0_0 a0_1 t551 t554))) = some r := H
  have A10 := Aside0.mk A100
  clear A100
  replace H := Option.bind_eq_some_iff.mp H
  obtain ⟨⟨t556,t557⟩,A110,H⟩ := H
  replace H : (if t556 = t549 then (laws_FnExactFewestToAlike.j0 k (t557 != t550) l0_0 a0_1 t551 t554) else (laws_FnExactFewestToAlike.j0 k true l0_0 a0_1 t551 t554)) = some r := H
  have A11 := Aside0.mk A110
  clear A110
  have HC12 := Aside0.mk H
  clear H
  go_enter Try.func7,Try.ntmps7
  go_upto_region 8 with (first | ((with_reducible refine gate_dst (N := 2) rfl ?_);refine box_event ?hg (N := 2) ?hd (cs := #[.slice A0_0 l0_0.length c0_0, .int .i64 a0_1]) (t := 24) ?hr ?_;(case hd => rfl);(case hg => rfl);(case hr => first | (go_simp;done) | (go_simp;rfl));intro gb543 hg w13 hbox hb;have n0_ := Aside0.mk (below_step (by repeat (first | (with_reducible first | exact HB.out | apply below_alloc | apply pw_below_drewN | apply below_drew1) | exact HB.out)) hb);have n1_ := Aside0.mk (hbox);have n2_ := Aside0.mk ((by rw [hg];exact (below_size (by repeat (first | (with_reducible first | exact HB.out | apply below_alloc | apply pw_below_drewN | apply below_drew1) | exact HB.out))) : w.heap.size ≤ gb543));have n3_ := Aside0.mk ((by rw [hg];exact (below_size (by repeat (first | (with_reducible first | exact HB.out | apply below_alloc | apply pw_below_drewN | apply below_drew1) | exact HB.out))) : w.heap.size ≤ gb543));clear HB;have HB := n0_;have BK543 := n1_;have GW543 := n2_;have GE543 := n3_;clear n0_ n1_ n2_ n3_;clear hb hbox hg;have hcz14_0 : w13.cell? ⟨gb543,0,none⟩ = some (.slice A0_0 l0_0.length c0_0) := (blk_cell BK543.out 0).trans rfl;have hcz14_1 : w13.cell? ⟨gb543,1,none⟩ = some (.int .i64 a0_1) := (blk_cell BK543.out 1).trans rfl;have hfz14_0 := blk_frozen BK543.out 0;have hfz14_1 := blk_frozen BK543.out 1) | ((with_reducible refine gate_callee (f := 8) rfl ?_);refine goesL_ (some 13) rfl rfl Try.func8 (by kernel_rfl) rfl #[.agg #[.slice A0_0 l0_0.length c0_0, .int .i64 a0_1], .int .i64 1048576] rfl (by (try simp only [List.map_toArray,List.map_cons,List.map_nil]);first | done | rfl | (simp only [List.length_drop,List.length_take];rfl)) ?_;(with_reducible refine (laws_szCups.calls _ _ l0_0 a0_1 1048576 t544 _ ?side1 ?side2 A3.out).mono ?_);(case side1 => repeat (first | exact (Kd.C_below HR0_0.out HB.out) | (with_reducible refine Kd.C_alloc ?_ _) | (with_reducible refine Kd.C_drewN ?_ _) | (with_reducible refine Kd.C_drew ?_)));(case side2 => exact HC0_0.out);rintro e w15 ⟨rfl,hb⟩;refine ⟨_,rfl,?_⟩;have n0_ := Aside0.mk (blk_below (g := gb543) (o := .cells #[.slice A0_0 l0_0.length c0_0, .int .i64 a0_1] 24 (0,0)) (by (with_reducible repeat (first | refine blk_drewN ?_ _ | refine blk_drew ?_ | refine blk_alloc ?_ _));exact BK543.out) hb);have n1_ := Aside0.mk (below_step (by repeat (first | (with_reducible first | exact HB.out | apply below_alloc | apply pw_below_drewN | apply below_drew1 | refine below_set ?_ GE543.out) | exact HB.out)) hb);clear BK543;clear HB;have BK543 := n0_;have HB := n1_;clear n0_ n1_;(try clear hb);(try clear hb2);(try clear hk);(try clear hi);have hcz16_0 : w15.cell? ⟨gb543,0,none⟩ = some (.slice A0_0 l0_0.length c0_0) := (blk_cell BK543.out 0).trans rfl;have hcz16_1 : w15.cell? ⟨gb543,1,none⟩ = some (.int .i64 a0_1) := (blk_cell BK543.out 1).trans rfl;have hfz16_0 := blk_frozen BK543.out 0;have hfz16_1 := blk_frozen BK543.out 1) | ((with_reducible refine gate_callee (f := 10) rfl ?_);refine goesL_ (some 18) rfl rfl Try.func10 (by kernel_rfl) rfl #[.agg #[.slice A0_0 l0_0.length c0_0, .int .i64 a0_1]] rfl (by (try simp only [List.map_toArray,List.map_cons,List.map_nil]);first | done | rfl | (simp only [List.length_drop,List.length_take];rfl)) ?_;(with_reducible refine (laws_toCups.calls k _ _ l0_0 a0_1 t545 t548 _ ?side1 ?side2 A8.out).mono ?_);(case side1 => repeat (first | exact (Kd.C_below HR0_0.out HB.out) | (with_reducible refine Kd.C_alloc ?_ _) | (with_reducible refine Kd.C_drewN ?_ _) | (with_reducible refine Kd.C_drew ?_)));(case side2 => exact HC0_0.out);rintro e w17 ⟨v546,rfl,ho0,hb⟩;refine ⟨_,rfl,?_⟩;have n0_ := Aside0.mk (Kd.R_lower ho0 (below_size (by repeat (first | (with_reducible first | exact HB.out | apply below_alloc | apply pw_below_drewN | apply below_drew1 | refine below_set ?_ GE543.out) | exact HB.out))));have n1_ := Aside0.mk (blk_below (g := gb543) (o := .cells #[.slice A0_0 l0_0.length c0_0, .int .i64 a0_1] 24 (0,0)) (by (with_reducible repeat (first | refine blk_drewN ?_ _ | refine blk_drew ?_ | refine blk_alloc ?_ _));exact BK543.out) hb);have n2_ := Aside0.mk (below_step (by repeat (first | (with_reducible first | exact HB.out | apply below_alloc | apply pw_below_drewN | apply below_drew1 | refine below_set ?_ GE543.out) | exact HB.out)) hb);clear BK543;clear HB;have HO547 := n0_;have BK543 := n1_;have HB := n2_;clear n0_ n1_ n2_;(try clear hb);(try clear hb2);(try clear hk);(try clear hi);(try clear ho0);obtain ⟨Ao18,co18,eo18⟩ := Kd.R_slice HO547.out;subst eo18) | ((with_reducible refine gate_callee (f := 26) rfl ?_);refine goesL_ (some 20) rfl rfl Try.func26 (by kernel_rfl) rfl #[.agg #[.slice Ao18 t545.length co18, .int .i64 t548], .int .i64 a1] rfl (by (try simp only [List.map_toArray,List.map_cons,List.map_nil]);first | done | rfl | (simp only [List.length_drop,List.length_take];rfl)) ?_;(with_reducible refine (spec_FewestToAlike.calls k _ _ t545 t548 a1 t549 t550 _ ?side1 ?side2 A9.out).mono ?_);(case side1 => repeat (first | exact (Kd.R_reads' HO547.out).2.2 | (with_reducible refine Kd.C_alloc ?_ _) | (with_reducible refine Kd.C_drewN ?_ _) | (with_reducible refine Kd.C_drew ?_)));(case side2 => exact (Kd.R_reads' HO547.out).2.1);rintro e w19 ⟨rfl,hb⟩;refine ⟨_,rfl,?_⟩;have n0_ := Aside0.mk (Kd.R_below (by (with_reducible repeat (first | apply Kd.R_alloc | apply Kd.R_drewN | apply Kd.R_drew));exact HO547.out) hb);have n1_ := Aside0.mk (blk_below (g := gb543) (o := .cells #[.slice A0_0 l0_0.length c0_0, .int .i64 a0_1] 24 (0,0)) (by (with_reducible repeat (first | refine blk_drewN ?_ _ | refine blk_drew ?_ | refine blk_alloc ?_ _));exact BK543.out) hb);have n2_ := Aside0.mk (below_step (by repeat (first | (with_reducible first | exact HB.out | apply below_alloc | apply pw_below_drewN | apply below_drew1 | refine below_set ?_ GE543.out) | exact HB.out)) hb);clear HO547;clear BK543;clear HB;have HO547 := n0_;have BK543 := n1_;have HB := n2_;clear n0_ n1_ n2_;(try clear hb);(try clear hb2);(try clear hk);(try clear hi);have hcz20_0 : w19.cell? ⟨gb543,0,none⟩ = some (.slice A0_0 l0_0.length c0_0) := (blk_cell BK543.out 0).trans rfl;have hcz20_1 : w19.cell? ⟨gb543,1,none⟩ = some (.int .i64 a0_1) := (blk_cell BK543.out 1).trans rfl;have hfz20_0 := blk_frozen BK543.out 0;have hfz20_1 := blk_frozen BK543.out 1) | ((with_reducible refine gate_callee (f := 10) rfl ?_);refine goesL_ (some 24) rfl rfl Try.func10 (by kernel_rfl) rfl #[.agg #[.slice A0_0 l0_0.length c0_0, .int .i64 a0_1]] rfl (by (try simp only [List.map_toArray,List.map_cons,List.map_nil]);first | done | rfl | (simp only [List.length_drop,List.length_take];rfl)) ?_;(with_reducible refine (laws_toCups.calls k _ _ l0_0 a0_1 t551 t554 _ ?side1 ?side2 A10.out).mono ?_);(case side1 => repeat (first | exact (Kd.C_below HR0_0.out HB.out) | (with_reducible refine Kd.C_alloc ?_ _) | (with_reducible refine Kd.C_drewN ?_ _) | (with_reducible refine Kd.C_drew ?_)));(case side2 => exact HC0_0.out);rintro e w21 ⟨v552,rfl,ho0,hb⟩;refine ⟨_,rfl,?_⟩;have n0_ := Aside0.mk (Kd.R_elder' (by (with_reducible repeat (first | apply Kd.R_alloc | apply Kd.R_drewN | apply Kd.R_drew));exact HO547.out) (Kd.R_base ho0) hb);have n1_ := Aside0.mk (Kd.R_lower (Kd.R_new' ho0 (Kd.R_lt (by (with_reducible repeat (first | apply Kd.R_alloc | apply Kd.R_drewN | apply Kd.R_drew));exact HO547.out))) (below_size (by repeat (first | (with_reducible first | exact HB.out | apply below_alloc | apply pw_below_drewN | apply below_drew1 | refine below_set ?_ GE543.out) | exact HB.out))));have n2_ := Aside0.mk (blk_below (g := gb543) (o := .cells #[.slice A0_0 l0_0.length c0_0, .int .i64 a0_1] 24 (0,0)) (by (with_reducible repeat (first | refine blk_drewN ?_ _ | refine blk_drew ?_ | refine blk_alloc ?_ _));exact BK543.out) hb);have n3_ := Aside0.mk (below_step (by repeat (first | (with_reducible first | exact HB.out | apply below_alloc | apply pw_below_drewN | apply below_drew1 | refine below_set ?_ GE543.out) | exact HB.out)) hb);clear HO547;clear BK543;clear HB;have HO547 := n0_;have HO553 := n1_;have BK543 := n2_;have HB := n3_;clear n0_ n1_ n2_ n3_;(try clear hb);(try clear hb2);(try clear hk);(try clear hi);(try clear ho0)) | ((with_reducible refine gate_dst (N := 8) rfl ?_);refine box_event ?hg (N := 8) ?hd (cs := #[.slice none 0 0, .int .i64 0]) (t := 29) ?hr ?_;(case hd => rfl);(case hg => rfl);(case hr => first | (go_simp;done) | (go_simp;rfl));intro gb555 hg w22 hbox hb;have n0_ := Aside0.mk (Kd.R_below (by (with_reducible repeat (first | apply Kd.R_alloc | apply Kd.R_drewN | apply Kd.R_drew));exact HO547.out) hb);have n1_ := Aside0.mk (Kd.R_below (by (with_reducible repeat (first | apply Kd.R_alloc | apply Kd.R_drewN | apply Kd.R_drew));exact HO553.out) hb);have n2_ := Aside0.mk (blk_below (g := gb543) (o := .cells #[.slice A0_0 l0_0.length c0_0, .int .i64 a0_1] 24 (0,0)) (by (with_reducible repeat (first | refine blk_drewN ?_ _ | refine blk_drew ?_ | refine blk_alloc ?_ _));exact BK543.out) hb);have n3_ := Aside0.mk (below_step (by repeat (first | (with_reducible first | exact HB.out | apply below_alloc | apply pw_below_drewN | apply below_drew1 | refine below_set ?_ GE543.out) | exact HB.out)) hb);have n4_ := Aside0.mk (hbox);have n5_ := Aside0.mk ((by rw [hg];exact (below_size (by repeat (first | (with_reducible first | exact HB.out | apply below_alloc | apply pw_below_drewN | apply below_drew1 | refine below_set ?_ GE543.out) | exact HB.out))) : w.heap.size ≤ gb555));have n6_ := Aside0.mk ((by rw [hg];exact (below_size (by repeat (first | (with_reducible first | exact HB.out | apply below_alloc | apply pw_below_drewN | apply below_drew1 | refine below_set ?_ GE543.out) | exact HB.out))) : w.heap.size ≤ gb555));have n7_ := Aside0.mk ((by rw [hg];exact Nat.ne_of_lt (blk_lt (g := gb543) (o := .cells #[.slice A0_0 l0_0.length c0_0, .int .i64 a0_1] 24 (0,0)) (by (with_reducible repeat (first | refine blk_drewN ?_ _ | refine blk_drew ?_ | refine blk_alloc ?_ _));exact BK543.out)) : gb543 ≠ gb555));have n8_ := Aside0.mk ((by rw [hg];exact Nat.ne_of_gt (blk_lt (g := gb543) (o := .cells #[.slice A0_0 l0_0.length c0_0, .int .i64 a0_1] 24 (0,0)) (by (with_reducible repeat (first | refine blk_drewN ?_ _ | refine blk_drew ?_ | refine blk_alloc ?_ _));exact BK543.out)) : gb555 ≠ gb543));clear HO547;clear HO553;clear BK543;clear HB;have HO547 := n0_;have HO553 := n1_;have BK543 := n2_;have HB := n3_;have BK555 := n4_;have GW555 := n5_;have GE555 := n6_;have NB543_555 := n7_;have NB555_543 := n8_;clear n0_ n1_ n2_ n3_ n4_ n5_ n6_ n7_ n8_;clear hb hbox hg;obtain ⟨Ao23,co23,eo23⟩ := Kd.R_slice HO553.out;subst eo23;have hnb24 := NB555_543.out;have hnc24 := NB543_555.out;have hcz25_0 : w22.cell? ⟨gb555,0,none⟩ = some (.slice none 0 0) := (blk_cell BK555.out 0).trans rfl;have hcz25_1 : w22.cell? ⟨gb555,1,none⟩ = some (.int .i64 0) := (blk_cell BK555.out 1).trans rfl;have hfz25_0 := blk_frozen BK555.out 0;have hfz25_1 := blk_frozen BK555.out 1) | ((with_reducible refine gate_callee (f := 27) rfl ?_);refine goesL_ (some 28) rfl rfl Try.func27 (by kernel_rfl) rfl #[.agg #[.slice Ao23 t551.length co23, .int .i64 t554], .int .i64 a1] rfl (by (try simp only [List.map_toArray,List.map_cons,List.map_nil]);first | done | rfl | (simp only [List.length_drop,List.length_take];rfl)) ?_;(with_reducible refine (impl_FewestToAlike.calls k _ _ t551 t554 a1 t556 t557 _ ?side1 ?side2 A11.out).mono ?_);(case side1 => refine Kd.R_mono (Kd.R_lower (base := w.heap.size) (ok := fun k_ => (True ∧ some k_ ≠ (.slice Ao18 t545.length co18 : Value).ownBlock)) ?_ (Nat.zero_le _)) (fun _ _ => trivial);exact (by (with_reducible repeat (first | apply Kd.R_alloc | apply Kd.R_drewN | apply Kd.R_drew));exact (Kd.R_mono (Kd.R_far (p := ⟨gb555,1,none⟩) (Kd.R_far (p := ⟨gb555,0,none⟩) (Kd.R_types HO553.out BK555.out (by decide)) (fun _ hk => hk.2) (.slice Ao23 t551.length co23)) (fun _ hk => hk.2) (.int .i64 t554)) (fun _ h_ => h_.1))));(case side2 => exact (Kd.R_reads' HO553.out).2.1);rintro e w26 ⟨rfl,hb⟩;refine ⟨_,rfl,?_⟩;have n0_ := Aside0.mk (Kd.R_below (by (with_reducible repeat (first | apply Kd.R_alloc | apply Kd.R_drewN | apply Kd.R_drew));exact (Kd.R_mono (Kd.R_far (p := ⟨gb555,1,none⟩) (Kd.R_far (p := ⟨gb555,0,none⟩) (Kd.R_types HO547.out BK555.out (by decide)) (fun _ hk => hk.2) (.slice Ao23 t551.length co23)) (fun _ hk => hk.2) (.int .i64 t554)) (fun _ h_ => h_.1))) hb);have n1_ := Aside0.mk (Kd.R_below (by (with_reducible repeat (first | apply Kd.R_alloc | apply Kd.R_drewN | apply Kd.R_drew));exact (Kd.R_mono (Kd.R_far (p := ⟨gb555,1,none⟩) (Kd.R_far (p := ⟨gb555,0,none⟩) (Kd.R_types HO553.out BK555.out (by decide)) (fun _ hk => hk.2) (.slice Ao23 t551.length co23)) (fun _ hk => hk.2) (.int .i64 t554)) (fun _ h_ => h_.1))) hb);have n2_ := Aside0.mk (blk_below (g := gb543) (o := .cells #[.slice A0_0 l0_0.length c0_0, .int .i64 a0_1] 24 (0,0)) (by (with_reducible repeat (first | refine blk_drewN ?_ _ | refine blk_drew ?_ | refine blk_alloc ?_ _));refine blk_far ?_ NB543_555.out _;(with_reducible repeat (first | refine blk_drewN ?_ _ | refine blk_drew ?_ | refine blk_alloc ?_ _));refine blk_far ?_ NB543_555.out _;(with_reducible repeat (first | refine blk_drewN ?_ _ | refine blk_drew ?_ | refine blk_alloc ?_ _));exact BK543.out) hb);have n3_ := Aside0.mk (blk_below (g := gb555) (o := .cells #[.slice Ao23 t551.length co23, .int .i64 t554] 29 (0,0)) (by (with_reducible repeat (first | refine blk_drewN ?_ _ | refine blk_drew ?_ | refine blk_alloc ?_ _));refine blk_put (cs := #[.slice Ao23 t551.length co23, .int .i64 0]) ?_ 1 _ rfl;(with_reducible repeat (first | refine blk_drewN ?_ _ | refine blk_drew ?_ | refine blk_alloc ?_ _));refine blk_put (cs := #[.slice none 0 0, .int .i64 0]) ?_ 0 _ rfl;(with_reducible repeat (first | refine blk_drewN ?_ _ | refine blk_drew ?_ | refine blk_alloc ?_ _));exact BK555.out) hb);have n4_ := Aside0.mk (below_step (by repeat (first | (with_reducible first | exact HB.out | apply below_alloc | apply pw_below_drewN | apply below_drew1 | refine below_set ?_ GE543.out | refine below_set ?_ GE555.out) | exact HB.out)) hb);clear HO547;clear HO553;clear BK543;clear BK555;clear HB;have HO547 := n0_;have HO553 := n1_;have BK543 := n2_;have BK555 := n3_;have HB := n4_;clear n0_ n1_ n2_ n3_ n4_;(try clear hb);(try clear hb2);(try clear hk);(try clear hi)))
  (try simp only [Act.put,List.setIfInBounds_toArray,List.set_cons_zero,List.set_cons_succ])
  go_cut [38] (fun v38 wc => ∃ (kq : Nat) (x38_11 : Bool),v38 = .bool x38_11 ∧ Aside0 (laws_FnExactFewestToAlike.j0 kq x38_11 l0_0 a0_1 t551 t554 = some r) ∧ Aside0 (kq ≤ k) ∧ Aside0 (Kd.R (Kd.int .i64) 3 wc w.heap.size (fun _ => True) (.slice Ao23 t551.length co23) t551) ∧ Aside0 (wc.heap[gb543]? = some (.cells #[(.slice A0_0 l0_0.length c0_0), .int .i64 a0_1] 24 (0,0))) ∧ Aside0 (wc.heap[gb555]? = some (.cells #[(.slice Ao23 t551.length co23), .int .i64 t554] 29 (0,0))) ∧ Aside0 (Below w.heap.size w wc))
  case first =>
   have H := HC12.out
   clear HC12
   by_cases c27 : t556 = t549
   ·rw [if_pos c27] at H
    have c27b0 : (t556 == t549) = true := beq_iff_eq.mpr c27
    have c27b1 : (t556 != t549) = false := bne_eq_false_iff_eq.mpr c27
    clear c27
    (first | rw [c27b0] | (simp only [i64_w,i32_w];rw [c27b0]) | skip)
    have H' := Aside0.mk H
    clear H
    go_wp2
    go_meet
    case rel => exact ⟨_,((t557 != t550)),(by first | rfl | (simp;done) | (simp [*];done)),H',⟨by first | omega | exact Nat.le_refl _⟩,⟨by (with_reducible repeat (first | apply Kd.R_alloc | apply Kd.R_drewN | apply Kd.R_drew));exact Kd.R_mono HO553.out (fun _ hk => trivial)⟩,⟨by (with_reducible repeat (first | refine blk_drewN ?_ _ | refine blk_drew ?_ | refine blk_alloc ?_ _));exact BK543.out⟩,⟨by (with_reducible repeat (first | refine blk_drewN ?_ _ | refine blk_drew ?_ | refine blk_alloc ?_ _));exact BK555.out⟩,⟨by repeat (first | (with_reducible first | exact HB.out | apply below_alloc | apply pw_below_drewN | apply below_drew1 | refine below_set ?_ GE543.out | refine below_set ?_ GE555.out) | exact HB.out)⟩⟩
   ·rw [if_neg c27] at H
    have c27b0 : (t556 == t549) = false := beq_eq_false_iff_ne.mpr c27
    have c27b1 : (t556 != t549) = true := bne_iff_ne.mpr c27
    (first | rw [c27b0] | (simp only [i64_w,i32_w];rw [c27b0]) | skip)
    have H' := Aside0.mk H
    clear H
    go_wp2
    go_meet
    case rel => exact ⟨_,(true),(by first | rfl | (simp;done) | (simp [*];done)),H',⟨by first | omega | exact Nat.le_refl _⟩,⟨by (with_reducible repeat (first | apply Kd.R_alloc | apply Kd.R_drewN | apply Kd.R_drew));exact Kd.R_mono HO553.out (fun _ hk => trivial)⟩,⟨by (with_reducible repeat (first | refine blk_drewN ?_ _ | refine blk_drew ?_ | refine blk_alloc ?_ _));exact BK543.out⟩,⟨by (with_reducible repeat (first | refine blk_drewN ?_ _ | refine blk_drew ?_ | refine blk_alloc ?_ _));exact BK555.out⟩,⟨by repeat (first | (with_reducible first | exact HB.out | apply below_alloc | apply pw_below_drewN | apply below_drew1 | refine below_set ?_ GE543.out | refine below_set ?_ GE555.out) | exact HB.out)⟩⟩
  case rest =>
   clear HC12
   try clear c1
   try clear c2
   try clear p2
   try clear c4
   try clear c4b0
   try clear c7
   try clear c8
   try clear c10
   try clear c24
   try clear c26
   try clear c27
   try clear c27b0
   try clear c27b1
   try clear hcz14_0
   try clear hcz14_1
   try clear hcz16_0
   try clear hcz16_1
   try clear hcz20_0
   try clear hcz20_1
   try clear hcz25_0
   try clear hcz25_1
   try clear hcz6_0
   try clear hcz6_1
   try clear hfz14_0
   try clear hfz14_1
   try clear hfz16_0
   try clear hfz16_1
   try clear hfz20_0
   try clear hfz20_1
   try clear hfz25_0
   try clear hfz25_1
   try clear hfz6_0
   try clear hfz6_1
   obtain ⟨kq,x38_11,rfl,HA,HJ11,HO_556000,BK543,BK555,HB⟩ := hcut
   cases kq with
   | zero => exact absurd HA.out (by simp [laws_FnExactFewestToAlike.j0])
   | succ kj11 =>
    have H := HA.out
    clear HA
    simp only [laws_FnExactFewestToAlike.j0] at H
    by_cases c28 : x38_11 = true
    ·subst c28
     have H1 : (some false) = some r := by rw [if_pos rfl] at H;exact H
     clear H
     have H := H1
     clear H1
     obtain rfl := Option.some.inj H
     go_wp2
     go_ret
     exact ⟨by first | rfl | (simp [errW_none,errW_some] <;> rfl) | (simp [*,errW_none,errW_some] <;> rfl),by repeat (first | (with_reducible first | exact HB.out | apply below_alloc | apply pw_below_drewN | apply below_drew1 | refine below_set ?_ GE543.out | refine below_set ?_ GE555.out) | exact HB.out)⟩
    ·replace c28 := Bool.eq_false_iff.mpr c28
     subst c28
     have H1 : ((laws_toCups.f kj11 l0_0 a0_1).bind fun bt558 => ((laws_eqCups.f kj11 t551 t554 bt558.1 bt558.2).bind fun t562 => (if t562 = true then (some true) else (some false)))) = some r := by rw [if_neg (show ¬ (false = true) by decide)] at H;exact H
     clear H
     have H := H1
     clear H1
     replace H := Option.bind_eq_some_iff.mp H
     obtain ⟨⟨t558,t561⟩,A290,H⟩ := H
     replace H : ((laws_eqCups.f kj11 t551 t554 t558 t561).bind fun t562 => (if t562 = true then (some true) else (some false))) = some r := H
     have A29 := Aside0.mk A290
     clear A290
     replace H := Option.bind_eq_some_iff.mp H
     obtain ⟨t562,A300,H⟩ := H
     replace H : (if t562 = true then (some true) else (some false)) = some r := H
     have A30 := Aside0.mk A300
     clear A300
     by_cases c31 : t562 = true
     ·subst c31
      have H1 : (some true) = some r := by rw [if_pos rfl] at H;exact H
      clear H
      have H := H1
      clear H1
      obtain rfl := Option.some.inj H
      try go_wp2
      have n0_ := Aside0.mk (Kd.R_drew HO_556000.out)
      have n1_ := Aside0.mk (blk_drew BK543.out)
      have n2_ := Aside0.mk (blk_drew BK555.out)
      have n3_ := Aside0.mk (below_drew1 HB.out)
      clear HO_556000
      clear BK543
      clear BK555
      clear HB
      have HO_556000 := n0_
      have BK543 := n1_
      have BK555 := n2_
      have HB := n3_
      clear n0_ n1_ n2_ n3_
      refine start_ (n := 5) (S := fun w' => w'.cell? ⟨gb555,0,none⟩ = some (.slice Ao23 t551.length co23) ∧ w'.cell? ⟨gb555,1,none⟩ = some (.int .i64 t554) ∧ w'.cell? ⟨gb543,0,none⟩ = some (.slice A0_0 l0_0.length c0_0) ∧ w'.cell? ⟨gb543,1,none⟩ = some (.int .i64 a0_1)) (ds := []) #[false,false,false,false,false] (by kernel_rfl) rfl rfl ⟨(blk_cell BK555.out 0).trans rfl,(blk_cell BK555.out 1).trans rfl,(blk_cell BK543.out 0).trans rfl,(blk_cell BK543.out 1).trans rfl⟩ (fun hHeld => ?_)
      generalize wc.drew = w32 at HO_556000 BK543 BK555 HB hHeld ⊢
      refine take_ (i := 0) (N := some 39) (v := ?_) (a' := ?_) #[true,false,false,false,false] rfl rfl (by kernel_rfl) (fun _ _ _ h => h) (Or.inl ⟨by rfl,?_⟩) hHeld ?_ ?_
      rotate_left
      ·rintro w' ⟨s0,s1,s2,s3⟩
       go_simp
       with_reducible rfl
      rotate_left
      ·simp only [Act.put,List.setIfInBounds_toArray,List.set_cons_zero,List.set_cons_succ,i64_w,i32_w]
       rfl
      refine take_ (i := 1) (N := some 40) (v := ?_) (a' := ?_) #[true,true,false,false,false] rfl rfl (by kernel_rfl) (fun _ _ _ h => h) (Or.inl ⟨by rfl,?_⟩) hHeld ?_ ?_
      rotate_left
      ·rintro w' ⟨s0,s1,s2,s3⟩
       go_simp
       with_reducible rfl
      rotate_left
      ·simp only [Act.put,List.setIfInBounds_toArray,List.set_cons_zero,List.set_cons_succ,i64_w,i32_w]
       rfl
      refine one_ (i := 2) (N := some 41) #[true,true,true,false,false] rfl rfl (by kernel_rfl) (by decide) (fun K hK => ?_)
      refine goes_ Try.func10 (by kernel_rfl) rfl #[.agg #[.slice A0_0 l0_0.length c0_0, .int .i64 a0_1]] (by rfl) rfl rfl (by (try simp only [List.map_toArray,List.map_cons,List.map_nil]);first | done | rfl | (simp only [List.length_drop,List.length_take];rfl)) ?_
      with_reducible refine (laws_toCups.calls kj11 _ _ l0_0 a0_1 t558 t561 _ ?side1 ?side2 A29.out).mono ?_
      (case side1 => repeat (first | exact (Kd.C_below HR0_0.out HB.out) | (with_reducible refine Kd.C_alloc ?_ _) | (with_reducible refine Kd.C_drewN ?_ _) | (with_reducible refine Kd.C_drew ?_)))
      (case side2 => exact HC0_0.out)
      rintro e w33 ⟨v559,rfl,ho0,hb⟩
      refine ⟨_,rfl,?_⟩
      have n0_ := Aside0.mk (Kd.R_elder' (by (with_reducible repeat (first | apply Kd.R_alloc | apply Kd.R_drewN | apply Kd.R_drew));exact HO_556000.out) (Kd.R_base ho0) hb)
      have n1_ := Aside0.mk (Kd.R_lower (Kd.R_new' ho0 (Kd.R_lt (by (with_reducible repeat (first | apply Kd.R_alloc | apply Kd.R_drewN | apply Kd.R_drew));exact HO_556000.out))) (below_size (by repeat (first | (with_reducible first | exact HB.out | apply below_alloc | apply pw_below_drewN | apply below_drew1 | refine below_set ?_ GE543.out | refine below_set ?_ GE555.out) | exact HB.out))))
      have n2_ := Aside0.mk (blk_below (g := gb543) (o := .cells #[.slice A0_0 l0_0.length c0_0, .int .i64 a0_1] 24 (0,0)) (by (with_reducible repeat (first | refine blk_drewN ?_ _ | refine blk_drew ?_ | refine blk_alloc ?_ _));exact BK543.out) hb)
      have n3_ := Aside0.mk (blk_below (g := gb555) (o := .cells #[.slice Ao23 t551.length co23, .int .i64 t554] 29 (0,0)) (by (with_reducible repeat (first | refine blk_drewN ?_ _ | refine blk_drew ?_ | refine blk_alloc ?_ _));exact BK555.out) hb)
      have n4_ := Aside0.mk (below_step (by repeat (first | (with_reducible first | exact HB.out | apply below_alloc | apply pw_below_drewN | apply below_drew1 | refine below_set ?_ GE543.out | refine below_set ?_ GE555.out) | exact HB.out)) hb)
      clear HO_556000
      clear BK543
      clear BK555
      clear HB
      have HO_556000 := n0_
      have HO560 := n1_
      have BK543 := n2_
      have BK555 := n3_
      have HB := n4_
      clear n0_ n1_ n2_ n3_ n4_
      (try clear hb)
      (try clear hb2)
      (try clear hk)
      (try clear hi)
      (try clear ho0)
      obtain ⟨Ao34,co34,eo34⟩ := Kd.R_slice HO560.out
      (first | subst eo34 | (injection eo34 with f1_ f2_ f3_;have f4_ := f1_.symm;have f5_ := f3_.symm;clear f1_ f2_ f3_;subst f4_;subst f5_))
      refine hK.out _ _ ⟨(blk_cell BK555.out 0).trans rfl,(blk_cell BK555.out 1).trans rfl,(blk_cell BK543.out 0).trans rfl,(blk_cell BK543.out 1).trans rfl⟩ (fun hHeld => ?_)
      clear hK K
      refine norm_ (a' := ?_) ?_ ?_
      rotate_left
      ·show Act.put _ (some 41) _ = _
       simp only [Act.put,List.setIfInBounds_toArray,List.set_cons_zero,List.set_cons_succ,i64_w,i32_w]
       rfl
      refine one_ (i := 3) (N := some 42) #[true,true,true,true,false] rfl rfl (by kernel_rfl) (by decide) (fun K hK => ?_)
      refine goes_ Try.func13 (by kernel_rfl) rfl #[.agg #[.slice Ao23 t551.length co23, .int .i64 t554], .agg #[.slice Ao34 t558.length co34, .int .i64 t561]] (by rfl) rfl rfl (by (try simp only [List.map_toArray,List.map_cons,List.map_nil]);first | done | rfl | (simp only [List.length_drop,List.length_take];rfl)) ?_
      with_reducible refine (laws_eqCups.calls kj11 _ _ t551 t554 _ _ t558 t561 true _ ?side1 ?side2 ?side3 ?side4 A30.out).mono ?_
      (case side1 => repeat (first | exact (Kd.R_reads' HO_556000.out).2.2 | (with_reducible refine Kd.C_alloc ?_ _) | (with_reducible refine Kd.C_drewN ?_ _) | (with_reducible refine Kd.C_drew ?_)))
      (case side2 => exact (Kd.R_reads' HO_556000.out).2.1)
      (case side3 => repeat (first | exact (Kd.R_reads' HO560.out).2.2 | (with_reducible refine Kd.C_alloc ?_ _) | (with_reducible refine Kd.C_drewN ?_ _) | (with_reducible refine Kd.C_drew ?_)))
      (case side4 => exact (Kd.R_reads' HO560.out).2.1)
      rintro e w35 ⟨rfl,hb⟩
      refine ⟨_,rfl,?_⟩
      have n0_ := Aside0.mk (Kd.R_below (by (with_reducible repeat (first | apply Kd.R_alloc | apply Kd.R_drewN | apply Kd.R_drew));exact HO_556000.out) hb)
      have n1_ := Aside0.mk (Kd.R_below (by (with_reducible repeat (first | apply Kd.R_alloc | apply Kd.R_drewN | apply Kd.R_drew));exact HO560.out) hb)
      have n2_ := Aside0.mk (blk_below (g := gb543) (o := .cells #[.slice A0_0 l0_0.length c0_0, .int .i64 a0_1] 24 (0,0)) (by (with_reducible repeat (first | refine blk_drewN ?_ _ | refine blk_drew ?_ | refine blk_alloc ?_ _));exact BK543.out) hb)
      have n3_ := Aside0.mk (blk_below (g := gb555) (o := .cells #[.slice Ao23 t551.length co23, .int .i64 t554] 29 (0,0)) (by (with_reducible repeat (first | refine blk_drewN ?_ _ | refine blk_drew ?_ | refine blk_alloc ?_ _));exact BK555.out) hb)
      have n4_ := Aside0.mk (below_step (by repeat (first | (with_reducible first | exact HB.out | apply below_alloc | apply pw_below_drewN | apply below_drew1 | refine below_set ?_ GE543.out | refine below_set ?_ GE555.out) | exact HB.out)) hb)
      clear HO_556000
      clear HO560
      clear BK543
      clear BK555
      clear HB
      have HO_556000 := n0_
      have HO560 := n1_
      have BK543 := n2_
      have BK555 := n3_
      have HB := n4_
      clear n0_ n1_ n2_ n3_ n4_
      (try clear hb)
      (try clear hb2)
      (try clear hk)
      (try clear hi)
      refine hK.out _ _ ⟨(blk_cell BK555.out 0).trans rfl,(blk_cell BK555.out 1).trans rfl,(blk_cell BK543.out 0).trans rfl,(blk_cell BK543.out 1).trans rfl⟩ (fun hHeld => ?_)
      clear hK K
      refine norm_ (a' := ?_) ?_ ?_
      rotate_left
      ·show Act.put _ (some 42) _ = _
       simp only [Act.put,List.setIfInBounds_toArray,List.set_cons_zero,List.set_cons_succ,i64_w,i32_w]
       rfl
      refine pure_ (i := 4) (N := some 43) (v := ?_) (a' := ?_) #[true,true,true,true,true] rfl rfl (by kernel_rfl) (fun _ _ _ h => h) (Or.inl ⟨by rfl,?_⟩) ?_ ?_
      rotate_left
      ·intro w'
       go_simp
       with_reducible rfl
      rotate_left
      ·simp only [Act.put,List.setIfInBounds_toArray,List.set_cons_zero,List.set_cons_succ,i64_w,i32_w]
       rfl
      refine done_ (by kernel_rfl) ?_
      try go_wp2
      go_ret
      exact ⟨by first | rfl | (simp [errW_none,errW_some] <;> rfl) | (simp [*,errW_none,errW_some] <;> rfl),by repeat (first | (with_reducible first | exact HB.out | apply below_alloc | apply pw_below_drewN | apply below_drew1 | refine below_set ?_ GE543.out | refine below_set ?_ GE555.out) | exact HB.out)⟩
     ·replace c31 := Bool.eq_false_iff.mpr c31
      subst c31
      have H1 : (some false) = some r := by rw [if_neg (show ¬ (false = true) by decide)] at H;exact H
      clear H
      have H := H1
      clear H1
      obtain rfl := Option.some.inj H
      try go_wp2
      have n0_ := Aside0.mk (Kd.R_drew HO_556000.out)
      have n1_ := Aside0.mk (blk_drew BK543.out)
      have n2_ := Aside0.mk (blk_drew BK555.out)
      have n3_ := Aside0.mk (below_drew1 HB.out)
      clear HO_556000
      clear BK543
      clear BK555
      clear HB
      have HO_556000 := n0_
      have BK543 := n1_
      have BK555 := n2_
      have HB := n3_
      clear n0_ n1_ n2_ n3_
      refine start_ (n := 5) (S := fun w' => w'.cell? ⟨gb555,0,none⟩ = some (.slice Ao23 t551.length co23) ∧ w'.cell? ⟨gb555,1,none⟩ = some (.int .i64 t554) ∧ w'.cell? ⟨gb543,0,none⟩ = some (.slice A0_0 l0_0.length c0_0) ∧ w'.cell? ⟨gb543,1,none⟩ = some (.int .i64 a0_1)) (ds := []) #[false,false,false,false,false] (by kernel_rfl) rfl rfl ⟨(blk_cell BK555.out 0).trans rfl,(blk_cell BK555.out 1).trans rfl,(blk_cell BK543.out 0).trans rfl,(blk_cell BK543.out 1).trans rfl⟩ (fun hHeld => ?_)
      generalize wc.drew = w36 at HO_556000 BK543 BK555 HB hHeld ⊢
      refine take_ (i := 0) (N := some 39) (v := ?_) (a' := ?_) #[true,false,false,false,false] rfl rfl (by kernel_rfl) (fun _ _ _ h => h) (Or.inl ⟨by rfl,?_⟩) hHeld ?_ ?_
      rotate_left
      ·rintro w' ⟨s0,s1,s2,s3⟩
       go_simp
       with_reducible rfl
      rotate_left
      ·simp only [Act.put,List.setIfInBounds_toArray,List.set_cons_zero,List.set_cons_succ,i64_w,i32_w]
       rfl
      refine take_ (i := 1) (N := some 40) (v := ?_) (a' := ?_) #[true,true,false,false,false] rfl rfl (by kernel_rfl) (fun _ _ _ h => h) (Or.inl ⟨by rfl,?_⟩) hHeld ?_ ?_
      rotate_left
      ·rintro w' ⟨s0,s1,s2,s3⟩
       go_simp
       with_reducible rfl
      rotate_left
      ·simp only [Act.put,List.setIfInBounds_toArray,List.set_cons_zero,List.set_cons_succ,i64_w,i32_w]
       rfl
      refine one_ (i := 2) (N := some 41) #[true,true,true,false,false] rfl rfl (by kernel_rfl) (by decide) (fun K hK => ?_)
      refine goes_ Try.func10 (by kernel_rfl) rfl #[.agg #[.slice A0_0 l0_0.length c0_0, .int .i64 a0_1]] (by rfl) rfl rfl (by (try simp only [List.map_toArray,List.map_cons,List.map_nil]);first | done | rfl | (simp only [List.length_drop,List.length_take];rfl)) ?_
      with_reducible refine (laws_toCups.calls kj11 _ _ l0_0 a0_1 t558 t561 _ ?side1 ?side2 A29.out).mono ?_
      (case side1 => repeat (first | exact (Kd.C_below HR0_0.out HB.out) | (with_reducible refine Kd.C_alloc ?_ _) | (with_reducible refine Kd.C_drewN ?_ _) | (with_reducible refine Kd.C_drew ?_)))
      (case side2 => exact HC0_0.out)
      rintro e w37 ⟨v559,rfl,ho0,hb⟩
      refine ⟨_,rfl,?_⟩
      have n0_ := Aside0.mk (Kd.R_elder' (by (with_reducible repeat (first | apply Kd.R_alloc | apply Kd.R_drewN | apply Kd.R_drew));exact HO_556000.out) (Kd.R_base ho0) hb)
      have n1_ := Aside0.mk (Kd.R_lower (Kd.R_new' ho0 (Kd.R_lt (by (with_reducible repeat (first | apply Kd.R_alloc | apply Kd.R_drewN | apply Kd.R_drew));exact HO_556000.out))) (below_size (by repeat (first | (with_reducible first | exact HB.out | apply below_alloc | apply pw_below_drewN | apply below_drew1 | refine below_set ?_ GE543.out | refine below_set ?_ GE555.out) | exact HB.out))))
      have n2_ := Aside0.mk (blk_below (g := gb543) (o := .cells #[.slice A0_0 l0_0.length c0_0, .int .i64 a0_1] 24 (0,0)) (by (with_reducible repeat (first | refine blk_drewN ?_ _ | refine blk_drew ?_ | refine blk_alloc ?_ _));exact BK543.out) hb)
      have n3_ := Aside0.mk (blk_below (g := gb555) (o := .cells #[.slice Ao23 t551.length co23, .int .i64 t554] 29 (0,0)) (by (with_reducible repeat (first | refine blk_drewN ?_ _ | refine blk_drew ?_ | refine blk_alloc ?_ _));exact BK555.out) hb)
      have n4_ := Aside0.mk (below_step (by repeat (first | (with_reducible first | exact HB.out | apply below_alloc | apply pw_below_drewN | apply below_drew1 | refine below_set ?_ GE543.out | refine below_set ?_ GE555.out) | exact HB.out)) hb)
      clear HO_556000
      clear BK543
      clear BK555
      clear HB
      have HO_556000 := n0_
      have HO560 := n1_
      have BK543 := n2_
      have BK555 := n3_
      have HB := n4_
      clear n0_ n1_ n2_ n3_ n4_
      (try clear hb)
      (try clear hb2)
      (try clear hk)
      (try clear hi)
      (try clear ho0)
      obtain ⟨Ao38,co38,eo38⟩ := Kd.R_slice HO560.out
      (first | subst eo38 | (injection eo38 with f1_ f2_ f3_;have f4_ := f1_.symm;have f5_ := f3_.symm;clear f1_ f2_ f3_;subst f4_;subst f5_))
      refine hK.out _ _ ⟨(blk_cell BK555.out 0).trans rfl,(blk_cell BK555.out 1).trans rfl,(blk_cell BK543.out 0).trans rfl,(blk_cell BK543.out 1).trans rfl⟩ (fun hHeld => ?_)
      clear hK K
      refine norm_ (a' := ?_) ?_ ?_
      rotate_left
      ·show Act.put _ (some 41) _ = _
       simp only [Act.put,List.setIfInBounds_toArray,List.set_cons_zero,List.set_cons_succ,i64_w,i32_w]
       rfl
      refine one_ (i := 3) (N := some 42) #[true,true,true,true,false] rfl rfl (by kernel_rfl) (by decide) (fun K hK => ?_)
      refine goes_ Try.func13 (by kernel_rfl) rfl #[.agg #[.slice Ao23 t551.length co23, .int .i64 t554], .agg #[.slice Ao38 t558.length co38, .int .i64 t561]] (by rfl) rfl rfl (by (try simp only [List.map_toArray,List.map_cons,List.map_nil]);first | done | rfl | (simp only [List.length_drop,List.length_take];rfl)) ?_
      with_reducible refine (laws_eqCups.calls kj11 _ _ t551 t554 _ _ t558 t561 false _ ?side1 ?side2 ?side3 ?side4 A30.out).mono ?_
      (case side1 => repeat (first | exact (Kd.R_reads' HO_556000.out).2.2 | (with_reducible refine Kd.C_alloc ?_ _) | (with_reducible refine Kd.C_drewN ?_ _) | (with_reducible refine Kd.C_drew ?_)))
      (case side2 => exact (Kd.R_reads' HO_556000.out).2.1)
      (case side3 => repeat (first | exact (Kd.R_reads' HO560.out).2.2 | (with_reducible refine Kd.C_alloc ?_ _) | (with_reducible refine Kd.C_drewN ?_ _) | (with_reducible refine Kd.C_drew ?_)))
      (case side4 => exact (Kd.R_reads' HO560.out).2.1)
      rintro e w39 ⟨rfl,hb⟩
      refine ⟨_,rfl,?_⟩
      have n0_ := Aside0.mk (Kd.R_below (by (with_reducible repeat (first | apply Kd.R_alloc | apply Kd.R_drewN | apply Kd.R_drew));exact HO_556000.out) hb)
      have n1_ := Aside0.mk (Kd.R_below (by (with_reducible repeat (first | apply Kd.R_alloc | apply Kd.R_drewN | apply Kd.R_drew));exact HO560.out) hb)
      have n2_ := Aside0.mk (blk_below (g := gb543) (o := .cells #[.slice A0_0 l0_0.length c0_0, .int .i64 a0_1] 24 (0,0)) (by (with_reducible repeat (first | refine blk_drewN ?_ _ | refine blk_drew ?_ | refine blk_alloc ?_ _));exact BK543.out) hb)
      have n3_ := Aside0.mk (blk_below (g := gb555) (o := .cells #[.slice Ao23 t551.length co23, .int .i64 t554] 29 (0,0)) (by (with_reducible repeat (first | refine blk_drewN ?_ _ | refine blk_drew ?_ | refine blk_alloc ?_ _));exact BK555.out) hb)
      have n4_ := Aside0.mk (below_step (by repeat (first | (with_reducible first | exact HB.out | apply below_alloc | apply pw_below_drewN | apply below_drew1 | refine below_set ?_ GE543.out | refine below_set ?_ GE555.out) | exact HB.out)) hb)
      clear HO_556000
      clear HO560
      clear BK543
      clear BK555
      clear HB
      have HO_556000 := n0_
      have HO560 := n1_
      have BK543 := n2_
      have BK555 := n3_
      have HB := n4_
      clear n0_ n1_ n2_ n3_ n4_
      (try clear hb)
      (try clear hb2)
      (try clear hk)
      (try clear hi)
      refine hK.out _ _ ⟨(blk_cell BK555.out 0).trans rfl,(blk_cell BK555.out 1).trans rfl,(blk_cell BK543.out 0).trans rfl,(blk_cell BK543.out 1).trans rfl⟩ (fun hHeld => ?_)
      clear hK K
      refine norm_ (a' := ?_) ?_ ?_
      rotate_left
      ·show Act.put _ (some 42) _ = _
       simp only [Act.put,List.setIfInBounds_toArray,List.set_cons_zero,List.set_cons_succ,i64_w,i32_w]
       rfl
      refine pure_ (i := 4) (N := some 43) (v := ?_) (a' := ?_) #[true,true,true,true,true] rfl rfl (by kernel_rfl) (fun _ _ _ h => h) (Or.inl ⟨by rfl,?_⟩) ?_ ?_
      rotate_left
      ·intro w'
       go_simp
       with_reducible rfl
      rotate_left
      ·simp only [Act.put,List.setIfInBounds_toArray,List.set_cons_zero,List.set_cons_succ,i64_w,i32_w]
       rfl
      refine done_ (by kernel_rfl) ?_
      try go_wp2
      go_ret
      exact ⟨by first | rfl | (simp [errW_none,errW_some] <;> rfl) | (simp [*,errW_none,errW_some] <;> rfl),by repeat (first | (with_reducible first | exact HB.out | apply below_alloc | apply pw_below_drewN | apply below_drew1 | refine below_set ?_ GE543.out | refine below_set ?_ GE555.out) | exact HB.out)⟩

end Go.Proofs.Ytmkpngmdikbbeaa.P
