/- Written by a program of this workplace (own_print.py, over the kit's print) for the functions that the statements reach, with contracts of its own. Lean checks it. -/
import Derived.Test.YtmkpngmdikbbeaaPx0
import Derived.Test.YtmkpngmdikbbeaaPx1
import Derived.Test.YtmkpngmdikbbeaaPx7
import Derived.Test.YtmkpngmdikbbeaaPx10
namespace Go.Proofs.Ytmkpngmdikbbeaa.P
open Go.RowKit Go.Proofs.YtmkpngmdikbbeaaW.PrintWords Go.Proofs.YtmkpngmdikbbeaaW.PrintLast Go.Proofs.YtmkpngmdikbbeaaW.PrintMore
attribute [local go_sem] max2_int min2_int max_two min_two max_three min_three max_four min_four   -- for this text's walks alone
set_option linter.unusedVariables false
set_option linter.unusedSimpArgs false

/-! ### spec_cuFew: function 60 -/
def spec_cuFew.f (k : Nat) (l0_0 : List Int) (a0_1 : Int) (a1 : Int) (a2 : Int) : Option (Bool) := (spec_cuGood.f k l0_0 a0_1).bind fun t433 => (if t433 = true then (if (l0_0.length : Int) ≤ 4 then (if a0_1 ≤ 1024 then ((spec_l1In.f a1 0 (wrap64 ((l0_0.length : Int) - 1))).bind fun t434 => (if t434 = true then ((spec_l1In.f a2 0 4).bind fun t435 => (some t435)) else (some false))) else (some false)) else (some false)) else (some false))
theorem spec_cuFew.mono : ∀ a0 a1 a2 a3 k,LeO (spec_cuFew.f k a0 a1 a2 a3) (spec_cuFew.f (k + 1) a0 a1 a2 a3) := by
 intro a0 a1 a2 a3 k
 unfold spec_cuFew.f
 repeat' first
   | (with_reducible exact spec_cuGood.mono _ _ _)
   | (with_reducible exact LeO.refl _)
   | (with_reducible exact LeO.none _)
   | (with_reducible refine LeO.ite ?_ ?_)
   | (with_reducible refine LeO.bind ?_ (fun _ => ?_))
   | exact spec_cuGood.mono _ _ _
   | exact LeO.none _
   | refine LeO.ite ?_ ?_
   | refine LeO.bind ?_ (fun _ => ?_)
set_option maxHeartbeats 8000000 in
set_option maxRecDepth 100000 in
theorem spec_cuFew.calls (k : Nat) (A0_0 : Option Addr) (c0_0 : Nat) (l0_0 : List Int) (a0_1 : Int) (a1 : Int) (a2 : Int) (r : Bool) (w : World) (hr0_0 : Kd.C (Kd.int .i64) w A0_0 l0_0.length l0_0) (hc0_0 : l0_0.length ≤ c0_0) (h : spec_cuFew.f k l0_0 a0_1 a1 a2 = some r) :
  Calls Try.prog 60 #[.agg #[.slice A0_0 l0_0.length c0_0, .int .i64 a0_1], .int .i64 a1, .int .i64 a2] w fun e w' => e = .returned (.bool r) ∧ Below w.heap.size w w' := by
 have hu29 := Try.underlying29
 have HR0_0 := Aside0.mk hr0_0
 have HC0_0 := Aside0.mk hc0_0
 clear hr0_0 hc0_0
 have HB := Aside0.mk (Below.refl w.heap.size w)
 have H : ((spec_cuGood.f k l0_0 a0_1).bind fun t433 => (if t433 = true then (if (l0_0.length : Int) ≤ 4 then (if a0_1 ≤ 1024 then ((spec_l1In.f a1 0 (wrap64 ((l0_0.length : Int) - 1))).bind fun t434 => (if t434 = true then ((spec_l1In.f a2 0 4).bind fun t435 => (some t435)) else (some false))) else (some false)) else (some false)) else (some false))) = some r := h
 clear h
 replace H := Option.bind_eq_some_iff.mp H
 obtain ⟨t433,A40,H⟩ := H
 replace H : (if t433 = true then (if (l0_0.length : Int) ≤ 4 then (if a0_1 ≤ 1024 then ((spec_l1In.f a1 0 (wrap64 ((l0_0.length : Int) - 1))).bind fun t434 => (if t434 = true then ((spec_l1In.f a2 0 4).bind fun t435 => (some t435)) else (some false))) else (some false)) else (some false)) else (some false)) = some r := H
 have A4 := Aside0.mk A40
 clear A40
 by_cases c5 : t433 = true
 ·subst c5
  have H1 : (if (l0_0.length : Int) ≤ 4 then (if a0_1 ≤ 1024 then ((spec_l1In.f a1 0 (wrap64 ((l0_0.length : Int) - 1))).bind fun t434 => (if t434 = true then ((spec_l1In.f a2 0 4).bind fun t435 => (some t435)) else (some false))) else (some false)) else (some false)) = some r := by rw [if_pos rfl] at H;exact H
  clear H
  have H := H1
  clear H1
  by_cases c6 : (l0_0.length : Int) ≤ 4
  ·rw [if_pos c6] at H
   have c6b0 : decide ((l0_0.length : Int) ≤ 4) = true := decide_eq_true c6
   have c6b1 : decide (l0_0.length ≤ 4) = true := decide_eq_true (by omega)
   clear c6
   by_cases c7 : a0_1 ≤ 1024
   ·rw [if_pos c7] at H
    have c7b0 : decide (a0_1 ≤ 1024) = true := decide_eq_true c7
    clear c7
    replace H := Option.bind_eq_some_iff.mp H
    obtain ⟨t434,A80,H⟩ := H
    replace H : (if t434 = true then ((spec_l1In.f a2 0 4).bind fun t435 => (some t435)) else (some false)) = some r := H
    have A8 := Aside0.mk A80
    clear A80
    by_cases c9 : t434 = true
    ·subst c9
     have H1 : ((spec_l1In.f a2 0 4).bind fun t435 => (some t435)) = some r := by rw [if_pos rfl] at H;exact H
     clear H
     have H := H1
     clear H1
     replace H := Option.bind_eq_some_iff.mp H
     obtain ⟨t435,A100,H⟩ := H
     replace H : (some t435) = some r := H
     have A10 := Aside0.mk A100
     clear A100
     obtain rfl := Option.some.inj H
     go_enter Try.func60,Try.ntmps60
     go_wp2_with (first | ((with_reducible refine gate_dst (N := 3) rfl ?_);(try (refine gate_guard (by rfl) ?_;dsimp only));refine box_event ?hg (N := 3) ?hd (cs := #[.slice A0_0 l0_0.length c0_0, .int .i64 a0_1]) (t := 29) ?hr ?_;(case hd => rfl);(case hg => rfl);(case hr => first | (go_simp;done) | (go_simp;rfl));intro gb432 hg w11 hbox hb;have n0_ := Aside0.mk (below_step (by repeat (first | (with_reducible first | exact HB.out | apply below_alloc | apply pw_below_drewN | apply below_drew1) | exact HB.out)) hb);have n1_ := Aside0.mk (hbox);have n2_ := Aside0.mk ((by rw [hg];exact (below_size (by repeat (first | (with_reducible first | exact HB.out | apply below_alloc | apply pw_below_drewN | apply below_drew1) | exact HB.out))) : w.heap.size ≤ gb432));have n3_ := Aside0.mk ((by rw [hg];exact (below_size (by repeat (first | (with_reducible first | exact HB.out | apply below_alloc | apply pw_below_drewN | apply below_drew1) | exact HB.out))) : w.heap.size ≤ gb432));clear HB;have HB := n0_;have BK432 := n1_;have GW432 := n2_;have GE432 := n3_;clear n0_ n1_ n2_ n3_;clear hb hbox hg;have hcz12_0 : w11.cell? ⟨gb432,0,none⟩ = some (.slice A0_0 l0_0.length c0_0) := (blk_cell BK432.out 0).trans rfl;have hcz12_1 : w11.cell? ⟨gb432,1,none⟩ = some (.int .i64 a0_1) := (blk_cell BK432.out 1).trans rfl;have hfz12_0 := blk_frozen BK432.out 0;have hfz12_1 := blk_frozen BK432.out 1) | ((with_reducible refine gate_callee (f := 29) rfl ?_);refine goesL_ (some 8) rfl rfl Try.func29 (by kernel_rfl) rfl #[.agg #[.slice A0_0 l0_0.length c0_0, .int .i64 a0_1]] rfl (by (try simp only [List.map_toArray,List.map_cons,List.map_nil]);first | done | rfl | (simp only [List.length_drop,List.length_take];rfl)) ?_;(with_reducible refine (spec_cuGood.calls k _ _ l0_0 a0_1 true _ ?side1 ?side2 A4.out).mono ?_);(case side1 => repeat (first | exact (Kd.C_below HR0_0.out HB.out) | (with_reducible refine Kd.C_alloc ?_ _) | (with_reducible refine Kd.C_drewN ?_ _) | (with_reducible refine Kd.C_drew ?_)));(case side2 => exact HC0_0.out);rintro e w13 ⟨rfl,hb⟩;refine ⟨_,rfl,?_⟩;have n0_ := Aside0.mk (blk_below (g := gb432) (o := .cells #[.slice A0_0 l0_0.length c0_0, .int .i64 a0_1] 29 (0,0)) (by (with_reducible repeat (first | refine blk_drewN ?_ _ | refine blk_drew ?_ | refine blk_alloc ?_ _));exact BK432.out) hb);have n1_ := Aside0.mk (below_step (by repeat (first | (with_reducible first | exact HB.out | apply below_alloc | apply pw_below_drewN | apply below_drew1 | refine below_set ?_ GE432.out) | exact HB.out)) hb);clear BK432;clear HB;have BK432 := n0_;have HB := n1_;clear n0_ n1_;(try clear hb);(try clear hb2);(try clear hk);(try clear hi);have hcz14_0 : w13.cell? ⟨gb432,0,none⟩ = some (.slice A0_0 l0_0.length c0_0) := (blk_cell BK432.out 0).trans rfl;have hcz14_1 : w13.cell? ⟨gb432,1,none⟩ = some (.int .i64 a0_1) := (blk_cell BK432.out 1).trans rfl;have hfz14_0 := blk_frozen BK432.out 0;have hfz14_1 := blk_frozen BK432.out 1) | (go_at_call 48;(with_reducible refine (spec_l1In.calls a1 0 (wrap64 ((l0_0.length : Int) - 1)) true _ A8.out).mono ?_);rintro e w' ⟨rfl,⟨nd,rfl⟩⟩) | (go_at_call 48;(with_reducible refine (spec_l1In.calls a2 0 4 t435 _ A10.out).mono ?_);rintro e w' ⟨rfl,⟨nd,rfl⟩⟩))
     go_ret
     exact ⟨by first | rfl | (simp [errW_none,errW_some] <;> rfl) | (simp [*,errW_none,errW_some] <;> rfl),by repeat (first | (with_reducible first | exact HB.out | apply below_alloc | apply pw_below_drewN | apply below_drew1 | refine below_set ?_ GE432.out) | exact HB.out)⟩
    ·replace c9 := Bool.eq_false_iff.mpr c9
     subst c9
     have H1 : (some false) = some r := by rw [if_neg (show ¬ (false = true) by decide)] at H;exact H
     clear H
     have H := H1
     clear H1
     obtain rfl := Option.some.inj H
     go_enter Try.func60,Try.ntmps60
     go_wp2_with (first | ((with_reducible refine gate_dst (N := 3) rfl ?_);(try (refine gate_guard (by rfl) ?_;dsimp only));refine box_event ?hg (N := 3) ?hd (cs := #[.slice A0_0 l0_0.length c0_0, .int .i64 a0_1]) (t := 29) ?hr ?_;(case hd => rfl);(case hg => rfl);(case hr => first | (go_simp;done) | (go_simp;rfl));intro gb432 hg w15 hbox hb;have n0_ := Aside0.mk (below_step (by repeat (first | (with_reducible first | exact HB.out | apply below_alloc | apply pw_below_drewN | apply below_drew1) | exact HB.out)) hb);have n1_ := Aside0.mk (hbox);have n2_ := Aside0.mk ((by rw [hg];exact (below_size (by repeat (first | (with_reducible first | exact HB.out | apply below_alloc | apply pw_below_drewN | apply below_drew1) | exact HB.out))) : w.heap.size ≤ gb432));have n3_ := Aside0.mk ((by rw [hg];exact (below_size (by repeat (first | (with_reducible first | exact HB.out | apply below_alloc | apply pw_below_drewN | apply below_drew1) | exact HB.out))) : w.heap.size ≤ gb432));clear HB;have HB := n0_;have BK432 := n1_;have GW432 := n2_;have GE432 := n3_;clear n0_ n1_ n2_ n3_;clear hb hbox hg;have hcz16_0 : w15.cell? ⟨gb432,0,none⟩ = some (.slice A0_0 l0_0.length c0_0) := (blk_cell BK432.out 0).trans rfl;have hcz16_1 : w15.cell? ⟨gb432,1,none⟩ = some (.int .i64 a0_1) := (blk_cell BK432.out 1).trans rfl;have hfz16_0 := blk_frozen BK432.out 0;have hfz16_1 := blk_frozen BK432.out 1) | ((with_reducible refine gate_callee (f := 29) rfl ?_);refine goesL_ (some 8) rfl rfl Try.func29 (by kernel_rfl) rfl #[.agg #[.slice A0_0 l0_0.length c0_0, .int .i64 a0_1]] rfl (by (try simp only [List.map_toArray,List.map_cons,List.map_nil]);first | done | rfl | (simp only [List.length_drop,List.length_take];rfl)) ?_;(with_reducible refine (spec_cuGood.calls k _ _ l0_0 a0_1 true _ ?side1 ?side2 A4.out).mono ?_);(case side1 => repeat (first | exact (Kd.C_below HR0_0.out HB.out) | (with_reducible refine Kd.C_alloc ?_ _) | (with_reducible refine Kd.C_drewN ?_ _) | (with_reducible refine Kd.C_drew ?_)));(case side2 => exact HC0_0.out);rintro e w17 ⟨rfl,hb⟩;refine ⟨_,rfl,?_⟩;have n0_ := Aside0.mk (blk_below (g := gb432) (o := .cells #[.slice A0_0 l0_0.length c0_0, .int .i64 a0_1] 29 (0,0)) (by (with_reducible repeat (first | refine blk_drewN ?_ _ | refine blk_drew ?_ | refine blk_alloc ?_ _));exact BK432.out) hb);have n1_ := Aside0.mk (below_step (by repeat (first | (with_reducible first | exact HB.out | apply below_alloc | apply pw_below_drewN | apply below_drew1 | refine below_set ?_ GE432.out) | exact HB.out)) hb);clear BK432;clear HB;have BK432 := n0_;have HB := n1_;clear n0_ n1_;(try clear hb);(try clear hb2);(try clear hk);(try clear hi);have hcz18_0 : w17.cell? ⟨gb432,0,none⟩ = some (.slice A0_0 l0_0.length c0_0) := (blk_cell BK432.out 0).trans rfl;have hcz18_1 : w17.cell? ⟨gb432,1,none⟩ = some (.int .i64 a0_1) := (blk_cell BK432.out 1).trans rfl;have hfz18_0 := blk_frozen BK432.out 0;have hfz18_1 := blk_frozen BK432.out 1) | (go_at_call 48;(with_reducible refine (spec_l1In.calls a1 0 (wrap64 ((l0_0.length : Int) - 1)) false _ A8.out).mono ?_);rintro e w' ⟨rfl,⟨nd,rfl⟩⟩))
     go_ret
     exact ⟨by first | rfl | (simp [errW_none,errW_some] <;> rfl) | (simp [*,errW_none,errW_some] <;> rfl),by repeat (first | (with_reducible first | exact HB.out | apply below_alloc | apply pw_below_drewN | apply below_drew1 | refine below_set ?_ GE432.out) | exact HB.out)⟩
   ·rw [if_neg c7] at H
    have c7b0 : decide (a0_1 ≤ 1024) = false := decide_eq_false c7
    clear c7
    obtain rfl := Option.some.inj H
    go_enter Try.func60,Try.ntmps60
    go_wp2_with (first | ((with_reducible refine gate_dst (N := 3) rfl ?_);(try (refine gate_guard (by rfl) ?_;dsimp only));refine box_event ?hg (N := 3) ?hd (cs := #[.slice A0_0 l0_0.length c0_0, .int .i64 a0_1]) (t := 29) ?hr ?_;(case hd => rfl);(case hg => rfl);(case hr => first | (go_simp;done) | (go_simp;rfl));intro gb432 hg w19 hbox hb;have n0_ := Aside0.mk (below_step (by repeat (first | (with_reducible first | exact HB.out | apply below_alloc | apply pw_below_drewN | apply below_drew1) | exact HB.out)) hb);have n1_ := Aside0.mk (hbox);have n2_ := Aside0.mk ((by rw [hg];exact (below_size (by repeat (first | (with_reducible first | exact HB.out | apply below_alloc | apply pw_below_drewN | apply below_drew1) | exact HB.out))) : w.heap.size ≤ gb432));have n3_ := Aside0.mk ((by rw [hg];exact (below_size (by repeat (first | (with_reducible first | exact HB.out | apply below_alloc | apply pw_below_drewN | apply below_drew1) | exact HB.out))) : w.heap.size ≤ gb432));clear HB;have HB := n0_;have BK432 := n1_;have GW432 := n2_;have GE432 := n3_;clear n0_ n1_ n2_ n3_;clear hb hbox hg;have hcz20_0 : w19.cell? ⟨gb432,0,none⟩ = some (.slice A0_0 l0_0.length c0_0) := (blk_cell BK432.out 0).trans rfl;have hcz20_1 : w19.cell? ⟨gb432,1,none⟩ = some (.int .i64 a0_1) := (blk_cell BK432.out 1).trans rfl;have hfz20_0 := blk_frozen BK432.out 0;have hfz20_1 := blk_frozen BK432.out 1) | ((with_reducible refine gate_callee (f := 29) rfl ?_);refine goesL_ (some 8) rfl rfl Try.func29 (by kernel_rfl) rfl #[.agg #[.slice A0_0 l0_0.length c0_0, .int .i64 a0_1]] rfl (by (try simp only [List.map_toArray,List.map_cons,List.map_nil]);first | done | rfl | (simp only [List.length_drop,List.length_take];rfl)) ?_;(with_reducible refine (spec_cuGood.calls k _ _ l0_0 a0_1 true _ ?side1 ?side2 A4.out).mono ?_);(case side1 => repeat (first | exact (Kd.C_below HR0_0.out HB.out) | (with_reducible refine Kd.C_alloc ?_ _) | (with_reducible refine Kd.C_drewN ?_ _) | (with_reducible refine Kd.C_drew ?_)));(case side2 => exact HC0_0.out);rintro e w21 ⟨rfl,hb⟩;refine ⟨_,rfl,?_⟩;have n0_ := Aside0.mk (blk_below (g := gb432) (o := .cells #[.slice A0_0 l0_0.length c0_0, .int .i64 a0_1] 29 (0,0)) (by (with_reducible repeat (first | refine blk_drewN ?_ _ | refine blk_drew ?_ | refine blk_alloc ?_ _));exact BK432.out) hb);have n1_ := Aside0.mk (below_step (by repeat (first | (with_reducible first | exact HB.out | apply below_alloc | apply pw_below_drewN | apply below_drew1 | refine below_set ?_ GE432.out) | exact HB.out)) hb);clear BK432;clear HB;have BK432 := n0_;have HB := n1_;clear n0_ n1_;(try clear hb);(try clear hb2);(try clear hk);(try clear hi);have hcz22_0 : w21.cell? ⟨gb432,0,none⟩ = some (.slice A0_0 l0_0.length c0_0) := (blk_cell BK432.out 0).trans rfl;have hcz22_1 : w21.cell? ⟨gb432,1,none⟩ = some (.int .i64 a0_1) := (blk_cell BK432.out 1).trans rfl;have hfz22_0 := blk_frozen BK432.out 0;have hfz22_1 := blk_frozen BK432.out 1))
    go_ret
    exact ⟨by first | rfl | (simp [errW_none,errW_some] <;> rfl) | (simp [*,errW_none,errW_some] <;> rfl),by repeat (first | (with_reducible first | exact HB.out | apply below_alloc | apply pw_below_drewN | apply below_drew1 | refine below_set ?_ GE432.out) | exact HB.out)⟩
  ·rw [if_neg c6] at H
   have c6b0 : decide ((l0_0.length : Int) ≤ 4) = false := decide_eq_false c6
   have c6b1 : decide (l0_0.length ≤ 4) = false := decide_eq_false (by omega)
   clear c6
   obtain rfl := Option.some.inj H
   go_enter Try.func60,Try.ntmps60
   go_wp2_with (first | ((with_reducible refine gate_dst (N := 3) rfl ?_);(try (refine gate_guard (by rfl) ?_;dsimp only));refine box_event ?hg (N := 3) ?hd (cs := #[.slice A0_0 l0_0.length c0_0, .int .i64 a0_1]) (t := 29) ?hr ?_;(case hd => rfl);(case hg => rfl);(case hr => first | (go_simp;done) | (go_simp;rfl));intro gb432 hg w23 hbox hb;have n0_ := Aside0.mk (below_step (by repeat (first | (with_reducible first | exact HB.out | apply below_alloc | apply pw_below_drewN | apply below_drew1) | exact HB.out)) hb);have n1_ := Aside0.mk (hbox);have n2_ := Aside0.mk ((by rw [hg];exact (below_size (by repeat (first | (with_reducible first | exact HB.out | apply below_alloc | apply pw_below_drewN | apply below_drew1) | exact HB.out))) : w.heap.size ≤ gb432));have n3_ := Aside0.mk ((by rw [hg];exact (below_size (by repeat (first | (with_reducible first | exact HB.out | apply below_alloc | apply pw_below_drewN | apply below_drew1) | exact HB.out))) : w.heap.size ≤ gb432));clear HB;have HB := n0_;have BK432 := n1_;have GW432 := n2_;have GE432 := n3_;clear n0_ n1_ n2_ n3_;clear hb hbox hg;have hcz24_0 : w23.cell? ⟨gb432,0,none⟩ = some (.slice A0_0 l0_0.length c0_0) := (blk_cell BK432.out 0).trans rfl;have hcz24_1 : w23.cell? ⟨gb432,1,none⟩ = some (.int .i64 a0_1) := (blk_cell BK432.out 1).trans rfl;have hfz24_0 := blk_frozen BK432.out 0;have hfz24_1 := blk_frozen BK432.out 1) | ((with_reducible refine gate_callee (f := 29) rfl ?_);refine goesL_ (some 8) rfl rfl Try.func29 (by kernel_rfl) rfl #[.agg #[.slice A0_0 l0_0.length c0_0, .int .i64 a0_1]] rfl (by (try simp only [List.map_toArray,List.map_cons,List.map_nil]);first | done | rfl | (simp only [List.length_drop,List.length_take];rfl)) ?_;(with_reducible refine (spec_cuGood.calls k _ _ l0_0 a0_1 true _ ?side1 ?side2 A4.out).mono ?_);(case side1 => repeat (first | exact (Kd.C_below HR0_0.out HB.out) | (with_reducible refine Kd.C_alloc ?_ _) | (with_reducible refine Kd.C_drewN ?_ _) | (with_reducible refine Kd.C_drew ?_)));(case side2 => exact HC0_0.out);rintro e w25 ⟨rfl,hb⟩;refine ⟨_,rfl,?_⟩;have n0_ := Aside0.mk (blk_below (g := gb432) (o := .cells #[.slice A0_0 l0_0.length c0_0, .int .i64 a0_1] 29 (0,0)) (by (with_reducible repeat (first | refine blk_drewN ?_ _ | refine blk_drew ?_ | refine blk_alloc ?_ _));exact BK432.out) hb);have n1_ := Aside0.mk (below_step (by repeat (first | (with_reducible first | exact HB.out | apply below_alloc | apply pw_below_drewN | apply below_drew1 | refine below_set ?_ GE432.out) | exact HB.out)) hb);clear BK432;clear HB;have BK432 := n0_;have HB := n1_;clear n0_ n1_;(try clear hb);(try clear hb2);(try clear hk);(try clear hi);have hcz26_0 : w25.cell? ⟨gb432,0,none⟩ = some (.slice A0_0 l0_0.length c0_0) := (blk_cell BK432.out 0).trans rfl;have hcz26_1 : w25.cell? ⟨gb432,1,none⟩ = some (.int .i64 a0_1) := (blk_cell BK432.out 1).trans rfl;have hfz26_0 := blk_frozen BK432.out 0;have hfz26_1 := blk_frozen BK432.out 1))
   go_ret
   exact ⟨by first | rfl | (simp [errW_none,errW_some] <;> rfl) | (simp [*,errW_none,errW_some] <;> rfl),by repeat (first | (with_reducible first | exact HB.out | apply below_alloc | apply pw_below_drewN | apply below_drew1 | refine below_set ?_ GE432.out) | exact HB.out)⟩
 ·replace c5 := Bool.eq_false_iff.mpr c5
  subst c5
  have H1 : (some false) = some r := by rw [if_neg (show ¬ (false = true) by decide)] at H;exact H
  clear H
  have H := H1
  clear H1
  obtain rfl := Option.some.inj H
  go_enter Try.func60,Try.ntmps60
  go_wp2_with (first | ((with_reducible refine gate_dst (N := 3) rfl ?_);(try (refine gate_guard (by rfl) ?_;dsimp only));refine box_event ?hg (N := 3) ?hd (cs := #[.slice A0_0 l0_0.length c0_0, .int .i64 a0_1]) (t := 29) ?hr ?_;(case hd => rfl);(case hg => rfl);(case hr => first | (go_simp;done) | (go_simp;rfl));intro gb432 hg w27 hbox hb;have n0_ := Aside0.mk (below_step (by repeat (first | (with_reducible first | exact HB.out | apply below_alloc | apply pw_below_drewN | apply below_drew1) | exact HB.out)) hb);have n1_ := Aside0.mk (hbox);have n2_ := Aside0.mk ((by rw [hg];exact (below_size (by repeat (first | (with_reducible first | exact HB.out | apply below_alloc | apply pw_below_drewN | apply below_drew1) | exact HB.out))) : w.heap.size ≤ gb432));have n3_ := Aside0.mk ((by rw [hg];exact (below_size (by repeat (first | (with_reducible first | exact HB.out | apply below_alloc | apply pw_below_drewN | apply below_drew1) | exact HB.out))) : w.heap.size ≤ gb432));clear HB;have HB := n0_;have BK432 := n1_;have GW432 := n2_;have GE432 := n3_;clear n0_ n1_ n2_ n3_;clear hb hbox hg;have hcz28_0 : w27.cell? ⟨gb432,0,none⟩ = some (.slice A0_0 l0_0.length c0_0) := (blk_cell BK432.out 0).trans rfl;have hcz28_1 : w27.cell? ⟨gb432,1,none⟩ = some (.int .i64 a0_1) := (blk_cell BK432.out 1).trans rfl;have hfz28_0 := blk_frozen BK432.out 0;have hfz28_1 := blk_frozen BK432.out 1) | ((with_reducible refine gate_callee (f := 29) rfl ?_);refine goesL_ (some 8) rfl rfl Try.func29 (by kernel_rfl) rfl #[.agg #[.slice A0_0 l0_0.length c0_0, .int .i64 a0_1]] rfl (by (try simp only [List.map_toArray,List.map_cons,List.map_nil]);first | done | rfl | (simp only [List.length_drop,List.length_take];rfl)) ?_;(with_reducible refine (spec_cuGood.calls k _ _ l0_0 a0_1 false _ ?side1 ?side2 A4.out).mono ?_);(case side1 => repeat (first | exact (Kd.C_below HR0_0.out HB.out) | (with_reducible refine Kd.C_alloc ?_ _) | (with_reducible refine Kd.C_drewN ?_ _) | (with_reducible refine Kd.C_drew ?_)));(case side2 => exact HC0_0.out);rintro e w29 ⟨rfl,hb⟩;refine ⟨_,rfl,?_⟩;have n0_ := Aside0.mk (blk_below (g := gb432) (o := .cells #[.slice A0_0 l0_0.length c0_0, .int .i64 a0_1] 29 (0,0)) (by (with_reducible repeat (first | refine blk_drewN ?_ _ | refine blk_drew ?_ | refine blk_alloc ?_ _));exact BK432.out) hb);have n1_ := Aside0.mk (below_step (by repeat (first | (with_reducible first | exact HB.out | apply below_alloc | apply pw_below_drewN | apply below_drew1 | refine below_set ?_ GE432.out) | exact HB.out)) hb);clear BK432;clear HB;have BK432 := n0_;have HB := n1_;clear n0_ n1_;(try clear hb);(try clear hb2);(try clear hk);(try clear hi)))
  go_ret
  exact ⟨by first | rfl | (simp [errW_none,errW_some] <;> rfl) | (simp [*,errW_none,errW_some] <;> rfl),by repeat (first | (with_reducible first | exact HB.out | apply below_alloc | apply pw_below_drewN | apply below_drew1 | refine below_set ?_ GE432.out) | exact HB.out)⟩

/-! ### spec_cuLess: function 76 -/
def spec_cuLess.f (a0 : Int) (a1 : Int) (a2 : Int) (a3 : Int) : Option (Bool) := some (decide ((wrap64 (a0 * a3)) < (wrap64 (a2 * a1))))
set_option maxHeartbeats 8000000 in
set_option maxRecDepth 100000 in
theorem spec_cuLess.calls (a0 : Int) (a1 : Int) (a2 : Int) (a3 : Int) (r : Bool) (w : World) (h : spec_cuLess.f a0 a1 a2 a3 = some r) :
  Calls Try.prog 76 #[.int .i64 a0, .int .i64 a1, .int .i64 a2, .int .i64 a3] w fun e w' => e = .returned (.bool r) ∧ Drawn0 w w' := by
 have H : (some (decide ((wrap64 (a0 * a3)) < (wrap64 (a2 * a1))))) = some r := h
 clear h
 obtain rfl := Option.some.inj H
 go_enter Try.func76,Try.ntmps76
 go_wp2
 go_ret
 exact ⟨by first | rfl | (simp;done) | (simp [*];done),by repeat (first | exact Drawn0.refl _ | apply Drawn0.step)⟩

/-! ### spec_cuSearch: function 61 -/
/-- Is what a cup has now better? -/
def better (most : Bool) (num den x y : Int) : Bool := if most then decide (wrap64 (num * y) < wrap64 (x * den)) else decide (wrap64 (x * den) < wrap64 (num * y))
def seekIn (k : Nat) (l : List Int) (u cup : Int) (most : Bool) : List (List (List Int)) → (List (List Int) × Int × Int) → Option (Option (List (List Int) × Int × Int))
 | [],s => some (some s)
 | ls :: rest,s => (spec_cuPlay.f k l u ls).bind fun e => if e.2.2 = true then (if 0 ≤ cup ∧ cup < (e.1.length : Int) then seekIn k l u cup most rest (if better most s.2.1 s.2.2 (rd e.1 cup) e.2.1 = true then (ls,rd e.1 cup,e.2.1) else s) else none) else some none
def search (k : Nat) (l : List Int) (u cup : Int) (most : Bool) : Nat → Nat → (List (List Int) × Int × Int) → Option (List (List Int) × Bool)
 | 0,_,s => some (s.1,true)
 | d + 1,e,s => (spec_cuLists.f k (l.length : Int) (e : Int)).bind fun L => if L.length ≤ 1000000 then (seekIn k l u cup most L s).bind fun o => (match o with
  | none => some ([],false)
  | some s' => search k l u cup most d (e + 1) s') else none
def spec_cuSearch.f (k : Nat) (l : List Int) (u cup mixes : Int) (most : Bool) : Option (List (List Int) × Bool) := if 0 ≤ cup ∧ cup < (l.length : Int) ∧ 0 ≤ mixes ∧ mixes ≤ 5 then search k l u cup most mixes.toNat 1 ([],rd l cup,u) else none
theorem seekIn_mono (k : Nat) (l : List Int) (u cup : Int) (most : Bool) : ∀ L s,LeO (seekIn k l u cup most L s) (seekIn (k + 1) l u cup most L s)
 | [],_ => LeO.refl _
 | ls :: L,s => by
  unfold seekIn
  refine LeO.bind (spec_cuPlay.mono _ _ _ _) (fun e => ?_)
  split
  ·split
   ·exact seekIn_mono k l u cup most L _
   ·exact LeO.refl _
  ·exact LeO.refl _
theorem search_mono (k : Nat) (l : List Int) (u cup : Int) (most : Bool) : ∀ d e s,LeO (search k l u cup most d e s) (search (k + 1) l u cup most d e s)
 | 0,_,_ => LeO.refl _
 | d + 1,e,s => by
  unfold search
  refine LeO.bind (spec_cuLists.mono _ _ _) (fun L => LeO.ite (LeO.bind (seekIn_mono k l u cup most L s) (fun o => ?_)) (LeO.refl _))
  cases o with
  | none => exact LeO.refl _
  | some s' => exact search_mono k l u cup most d (e + 1) s'
theorem spec_cuSearch.mono : ∀ l u cup mixes most k,LeO (spec_cuSearch.f k l u cup mixes most) (spec_cuSearch.f (k + 1) l u cup mixes most) := fun l u cup mixes most k => by
 unfold spec_cuSearch.f
 exact LeO.ite (search_mono k l u cup most _ _ _) (LeO.refl _)
set_option maxHeartbeats 4000000 in
set_option maxRecDepth 100000 in
theorem spec_cuSearch.calls (k : Nat) (A0_0 : Option Addr) (c0_0 : Nat) (l0_0 : List Int) (a0_1 a1 a2 : Int) (a3 : Bool) (r1 : List (List Int)) (r2 : Bool) (w : World) (hr0_0 : Kd.C (Kd.int .i64) w A0_0 l0_0.length l0_0) (hc0_0 : l0_0.length ≤ c0_0) (h : spec_cuSearch.f k l0_0 a0_1 a1 a2 a3 = some (r1,r2)) :
  Calls Try.prog 61 #[.agg #[.slice A0_0 l0_0.length c0_0, .int .i64 a0_1], .int .i64 a1, .int .i64 a2, .bool a3] w fun e w' => ∃ v0_ : Value,e = .returned (.tuple #[v0_, .bool r2]) ∧ Kd.R (Kd.slice 3 (Kd.int .i64)) 22 w' w.heap.size (fun _ => True) v0_ r1 ∧ Below w.heap.size w w' := by
 by_cases hc : 0 ≤ a1 ∧ a1 < (l0_0.length : Int) ∧ 0 ≤ a2 ∧ a2 ≤ 5
 rotate_left
 ·unfold spec_cuSearch.f at h;rw [if_neg hc] at h;cases h
 unfold spec_cuSearch.f at h
 rw [if_pos hc] at h
 have H := Aside0.mk h
 have HC := Aside0.mk hc
 have HR := Aside0.mk hr0_0
 have HCC := Aside0.mk hc0_0
 have HB := Aside0.mk (Below.refl w.heap.size w)
 have hu29 := Try.underlying29
 have q1 : (0 ≤ a1) = True := eq_true hc.1
 have q2 : (a1 < (l0_0.length : Int)) = True := eq_true hc.2.1
 obtain ⟨ad,ea,_⟩ := Kd.at_int hr0_0 a1 hc.1 hc.2.1
 subst ea
 clear hc h hr0_0 hc0_0
 go_enter Try.func61,Try.ntmps61
 go_wp2_with (first | ((with_reducible refine gate_dst (N := 4) rfl ?_);(try (refine gate_guard (by rfl) ?_;dsimp only));refine box_event ?hg (N := 4) ?hd (cs := #[.slice (some ad) l0_0.length c0_0, .int .i64 a0_1]) (t := 29) ?hr ?_;(case hd => rfl);(case hg => rfl);(case hr => first | (go_simp;done) | (go_simp;rfl));intro gb hg w5 hbox hb;have n0_ := Aside0.mk (below_step HB.out hb);have BK := Aside0.mk hbox;clear HB hb hbox hg;have HB := n0_;clear n0_;have hz0 : w5.cell? ⟨gb,0,none⟩ = some (.slice (some ad) l0_0.length c0_0) := (blk_cell BK.out 0).trans rfl;have hz1 : w5.cell? ⟨gb,1,none⟩ = some (.int .i64 a0_1) := (blk_cell BK.out 1).trans rfl;obtain ⟨_,ea,hx⟩ := Kd.at_int (Kd.C_below HR.out HB.out) a1 HC.out.1 HC.out.2.1;cases ea))
 repeat (go_quiet (fail);try go_wp2)
 generalize hq_ : World.drewN w5 _ = w6
 have HB0 := HB
 replace HB : Aside0 (Below w.heap.size w w6) := ⟨by rw [← hq_];exact pw_below_drewN HB0.out _⟩
 replace BK : Aside0 (w6.heap[gb]? = some (.cells #[.slice (some ad) l0_0.length c0_0, .int .i64 a0_1] 29 (0,0))) := ⟨by rw [← hq_];exact blk_drewN BK.out _⟩
 clear hq_ HB0 hz0 hz1 hx
 go_loopg [10,11,12,13] 5 (fun kq v10 v11 v12 v13 w' => ∃ (d e : Nat) (ls : List (List Int)) (num den : Int),v11 = .int .i64 num ∧ v12 = .int .i64 den ∧ v13 = .int .i64 (e : Int) ∧ Aside0 (e + d = a2.toNat + 1) ∧ Aside0 (d ≤ kq) ∧ Aside0 (search k l0_0 a0_1 a1 a3 d e (ls,num,den) = some (r1,r2)) ∧ Aside0 (Kd.R (Kd.slice 3 (Kd.int .i64)) 22 w' w.heap.size (fun _ => True) v10 ls) ∧ Aside0 (w'.heap[gb]? = some (.cells #[.slice (some ad) l0_0.length c0_0, .int .i64 a0_1] 29 (0,0))) ∧ Aside0 (Below w.heap.size w w'))
 case atStart => exact ⟨a2.toNat,1,[],rd l0_0 a1,a0_1,rfl,rfl,rfl,⟨by omega⟩,⟨by have := HC.out;omega⟩,H,⟨Kd.R_nil _ _ _ _ _⟩,BK,HB⟩
 case round =>
  clear H BK HB
  obtain ⟨d,e,ls,num,den,rfl,rfl,rfl,Hde,HK1,H,HL,BK,HB⟩ := hrel
  obtain ⟨A10,c10,e10⟩ := Kd.R_slice HL.out
  subst e10
  cases d with
  | zero =>
   have c0 : decide ((e : Int) ≤ a2) = false := decide_eq_false (by have := Hde.out;have := HC.out;omega)
   have E := Option.some.inj H.out
   cases E
   clear H
   go_wp2
   go_ret2
   exact ⟨_,rfl,HL.out,HB.out⟩
  | succ d =>
   have c0 : decide ((e : Int) ≤ a2) = true := decide_eq_true (by have := Hde.out;have := HC.out;omega)
   obtain ⟨L,HLL,H⟩ := Option.bind_eq_some_iff.mp H.out
   replace HLL := Aside0.mk HLL
   by_cases h6 : L.length ≤ 1000000
   rotate_left
   ·rw [if_neg h6] at H;cases H
   rw [if_pos h6] at H
   replace H := Aside0.mk H
   have H6 := Aside0.mk h6
   clear h6
   have hz0 : wr.cell? ⟨gb,0,none⟩ = some (.slice (some ad) l0_0.length c0_0) := (blk_cell BK.out 0).trans rfl
   have hz1 : wr.cell? ⟨gb,1,none⟩ = some (.int .i64 a0_1) := (blk_cell BK.out 1).trans rfl
   go_wp2_with fail
   refine (spec_cuLists.calls k (l0_0.length : Int) (e : Int) L _ HLL.out).mono ?_
   rintro e2 w7 ⟨v34,rfl,ho,hb⟩
   have O34 := Aside0.mk (Kd.R_lower ho HB.out.size)
   have n0_ := Aside0.mk (below_step HB.out hb)
   have n1_ := Aside0.mk (blk_below BK.out hb)
   have n2_ := Aside0.mk (Kd.R_below HL.out hb)
   clear hz0 hz1 ho hb HB BK HL
   have HB := n0_
   have BK := n1_
   have HL := n2_
   clear n0_ n1_ n2_
   obtain ⟨A34,c34,e34⟩ := Kd.R_slice O34.out
   subst e34
   obtain ⟨LL,hLL⟩ : ∃ LL,L.length = LL := ⟨_,rfl⟩
   have HLX := Aside0.mk hLL
   rw [hLL] at O34 ⊢
   clear hLL
   go_wp2
   go_loopg [10,11,12,36] LL (fun kq v10 v11 v12 v36 w' => ∃ (i : Nat) (ls : List (List Int)) (num den : Int),v11 = .int .i64 num ∧ v12 = .int .i64 den ∧ v36 = .int .i64 (i : Int) ∧ Aside0 (i ≤ LL) ∧ Aside0 (LL - i ≤ kq) ∧ Aside0 (((seekIn k l0_0 a0_1 a1 a3 (L.drop i) (ls,num,den)).bind fun o => (match o with
  | none => some ([],false)
  | some s' => search k l0_0 a0_1 a1 a3 d (e + 1) s')) = some (r1,r2)) ∧ Aside0 (Kd.R dL 26 w' w.heap.size (fun _ => True) (.slice A34 LL c34) L) ∧ Aside0 (Kd.R (Kd.slice 3 (Kd.int .i64)) 22 w' w.heap.size (fun _ => True) v10 ls) ∧ Aside0 (w'.heap[gb]? = some (.cells #[.slice (some ad) l0_0.length c0_0, .int .i64 a0_1] 29 (0,0))) ∧ Aside0 (Below w.heap.size w w'))
   case atStart => exact ⟨0,ls,num,den,rfl,rfl,rfl,⟨Nat.zero_le _⟩,⟨by omega⟩,H,O34,HL,BK,HB⟩
   case round =>
    clear H O34 HL BK HB
    obtain ⟨i,ls,num,den,rfl,rfl,rfl,Hi,HK2,H,HV,HL,BK,HB⟩ := hrel
    obtain ⟨A10,c10,e10⟩ := Kd.R_slice HL.out
    subst e10
    by_cases hi : i < LL
    ·have hib : decide ((i : Int) < (LL : Int)) = true := decide_eq_true (by omega)
     have hib1 : ((i : Int) < (LL : Int)) = True := eq_true (by omega)
     have hiL : i < L.length := by have := HLX.out;omega
     have HIL := Aside0.mk hi
     have hU := H.out
     rw [List.drop_eq_getElem_cons hiL] at hU
     simp only [seekIn] at hU
     obtain ⟨o,HO,hU2⟩ := Option.bind_eq_some_iff.mp hU
     obtain ⟨g5,rfl⟩ : ∃ g5,A34 = some ⟨g5,0,none⟩ := by
      obtain ⟨g,cap,he,_⟩ := Kd.R_form HV.out (by omega)
      injection he with h1 _ _
      exact ⟨_,h1⟩
     obtain ⟨cc,hcl,hM,hcc,_⟩ := Kd.R_elem HV.out ([] : List (List Int)) (i : Int) (by omega) (by omega)
     have hl : L.getD ((i : Int)).toNat [] = L[i] := by rw [Int.toNat_natCast,List.getD_eq_getElem?_getD,List.getElem?_eq_getElem hiL];rfl
     rw [hl] at hM
     obtain ⟨lev,hlev⟩ : ∃ x,L[i] = x := ⟨_,rfl⟩
     rw [hlev] at hM HO
     obtain ⟨⟨p,pu,pb⟩,HPL,HO⟩ := Option.bind_eq_some_iff.mp HO
     replace HPL := Aside0.mk HPL
     dsimp only at HO
     obtain ⟨vx,rfl,hRx⟩ := hM
     have hx := hcc 0 vx rfl
     simp only [show dL.sz = 1 from rfl,Nat.mul_one,Nat.add_zero,Int.toNat_natCast] at hx
     obtain ⟨Ax,cx,ex⟩ := Kd.R_slice hRx
     subst ex
     have HX := Aside0.mk (Kd.R_mono hRx (ok' := fun _ => True) (fun _ _ => trivial))
     have RX := Aside0.mk (Kd.R_reads' HX.out)
     clear hU hRx hcc hcl hl hlev hi hiL H
     have HO := Aside0.mk HO
     have HU2 := Aside0.mk hU2
     clear hU2
     have hz0 : wr.cell? ⟨gb,0,none⟩ = some (.slice (some ad) l0_0.length c0_0) := (blk_cell BK.out 0).trans rfl
     have hz1 : wr.cell? ⟨gb,1,none⟩ = some (.int .i64 a0_1) := (blk_cell BK.out 1).trans rfl
     cases pb with
     | false =>
      go_wp2_with fail
      refine (spec_cuPlay.calls k _ _ l0_0 a0_1 _ _ lev p pu false _ (Kd.C_below HR.out HB.out) HCC.out RX.out.2.2 RX.out.2.1 HPL.out).mono ?_
      rintro e2 w8 ⟨v40,rfl,ho,hb⟩
      have O40 := Aside0.mk (Kd.R_lower ho HB.out.size)
      have n0_ := Aside0.mk (below_step HB.out hb)
      have n1_ := Aside0.mk (blk_below BK.out hb)
      have n2_ := Aside0.mk (Kd.R_below HL.out hb)
      have n3_ := Aside0.mk (Kd.R_below HV.out hb)
      have n4_ := Aside0.mk (Kd.R_below HX.out hb)
      clear hz0 hz1 ho hb HB BK HL HV HX RX hx
      have HB := n0_
      have BK := n1_
      have HL := n2_
      have HV := n3_
      have HX := n4_
      clear n0_ n1_ n2_ n3_ n4_
      obtain ⟨A40,c40,e40⟩ := Kd.R_slice O40.out
      subst e40
      go_wp2_with (first | ((with_reducible refine gate_dst (N := 16) rfl ?_);(try (refine gate_guard (by rfl) ?_;dsimp only));refine box_event ?hg (N := 16) ?hd (cs := #[.slice none 0 0, .int .i64 0]) (t := 29) ?hr ?_;(case hd => rfl);(case hg => rfl);(case hr => first | (go_simp;done) | (go_simp;rfl));intro gp hg w9 hbox hb;have HXX := Aside0.mk hb;have HY := Aside0.mk hbox;have HZ := Aside0.mk hg;clear hb hbox hg;have hq0 : w9.cell? ⟨gp,0,none⟩ = some (.slice none 0 0) := (blk_cell HY.out 0).trans rfl;have hq1 : w9.cell? ⟨gp,1,none⟩ = some (.int .i64 0) := (blk_cell HY.out 1).trans rfl;have hf0 := blk_frozen HY.out 0;have hf1 := blk_frozen HY.out 1))
      have HXY := Aside0.mk (show Below w8.heap.size w8 ((w9.setCell ⟨gp,0,none⟩ (.slice A40 p.length c40)).setCell ⟨gp,1,none⟩ (.int .i64 pu)) from below_set (below_set HXX.out (by rw [HZ.out];exact Nat.le_refl _)) (by rw [HZ.out];exact Nat.le_refl _))
      have KP := Aside0.mk (show ((w9.setCell ⟨gp,0,none⟩ (.slice A40 p.length c40)).setCell ⟨gp,1,none⟩ (.int .i64 pu)).heap[gp]? = some (.cells #[.slice A40 p.length c40, .int .i64 pu] 29 (0,0)) from blk_put (blk_put HY.out 0 _ rfl) 1 _ rfl)
      try clear hq0
      try clear hq1
      try clear hf0
      try clear hf1
      generalize ((w9.setCell ⟨gp,0,none⟩ (.slice A40 p.length c40)).setCell ⟨gp,1,none⟩ (.int .i64 pu)) = w10 at HXY KP ⊢
      have n0_ := Aside0.mk (below_step HB.out HXY.out)
      have n1_ := Aside0.mk (blk_below BK.out HXY.out)
      have n2_ := Aside0.mk (Kd.R_below HL.out HXY.out)
      have n3_ := Aside0.mk (Kd.R_below HV.out HXY.out)
      have n4_ := Aside0.mk (Kd.R_below HX.out HXY.out)
      have n5_ := Aside0.mk (Kd.R_below O40.out HXY.out)
      clear HB BK HL HV HX O40 HXX HY HZ HXY
      have HB := n0_
      have BK := n1_
      have HL := n2_
      have HV := n3_
      have HX := n4_
      have O40 := n5_
      clear n0_ n1_ n2_ n3_ n4_ n5_
      have e2 : none = o := Option.some.inj (HO.out : some none = some o)
      subst e2
      have e3 : (([] : List (List Int)),false) = (r1,r2) := Option.some.inj HU2.out
      cases e3
      go_wp2
      go_ret2
      exact ⟨_,rfl,Kd.R_nil _ _ _ _ _,HB.out⟩
     | true =>
      go_wp2_with fail
      refine (spec_cuPlay.calls k _ _ l0_0 a0_1 _ _ lev p pu true _ (Kd.C_below HR.out HB.out) HCC.out RX.out.2.2 RX.out.2.1 HPL.out).mono ?_
      rintro e2 w8 ⟨v40,rfl,ho,hb⟩
      have O40 := Aside0.mk (Kd.R_lower ho HB.out.size)
      have n0_ := Aside0.mk (below_step HB.out hb)
      have n1_ := Aside0.mk (blk_below BK.out hb)
      have n2_ := Aside0.mk (Kd.R_below HL.out hb)
      have n3_ := Aside0.mk (Kd.R_below HV.out hb)
      have n4_ := Aside0.mk (Kd.R_below HX.out hb)
      clear hz0 hz1 ho hb HB BK HL HV HX RX hx
      have HB := n0_
      have BK := n1_
      have HL := n2_
      have HV := n3_
      have HX := n4_
      clear n0_ n1_ n2_ n3_ n4_
      obtain ⟨A40,c40,e40⟩ := Kd.R_slice O40.out
      subst e40
      go_wp2_with (first | ((with_reducible refine gate_dst (N := 16) rfl ?_);(try (refine gate_guard (by rfl) ?_;dsimp only));refine box_event ?hg (N := 16) ?hd (cs := #[.slice none 0 0, .int .i64 0]) (t := 29) ?hr ?_;(case hd => rfl);(case hg => rfl);(case hr => first | (go_simp;done) | (go_simp;rfl));intro gp hg w9 hbox hb;have HXX := Aside0.mk hb;have HY := Aside0.mk hbox;have HZ := Aside0.mk hg;clear hb hbox hg;have hq0 : w9.cell? ⟨gp,0,none⟩ = some (.slice none 0 0) := (blk_cell HY.out 0).trans rfl;have hq1 : w9.cell? ⟨gp,1,none⟩ = some (.int .i64 0) := (blk_cell HY.out 1).trans rfl;have hf0 := blk_frozen HY.out 0;have hf1 := blk_frozen HY.out 1))
      have HXY := Aside0.mk (show Below w8.heap.size w8 ((w9.setCell ⟨gp,0,none⟩ (.slice A40 p.length c40)).setCell ⟨gp,1,none⟩ (.int .i64 pu)) from below_set (below_set HXX.out (by rw [HZ.out];exact Nat.le_refl _)) (by rw [HZ.out];exact Nat.le_refl _))
      have KP := Aside0.mk (show ((w9.setCell ⟨gp,0,none⟩ (.slice A40 p.length c40)).setCell ⟨gp,1,none⟩ (.int .i64 pu)).heap[gp]? = some (.cells #[.slice A40 p.length c40, .int .i64 pu] 29 (0,0)) from blk_put (blk_put HY.out 0 _ rfl) 1 _ rfl)
      try clear hq0
      try clear hq1
      try clear hf0
      try clear hf1
      generalize ((w9.setCell ⟨gp,0,none⟩ (.slice A40 p.length c40)).setCell ⟨gp,1,none⟩ (.int .i64 pu)) = w10 at HXY KP ⊢
      have n0_ := Aside0.mk (below_step HB.out HXY.out)
      have n1_ := Aside0.mk (blk_below BK.out HXY.out)
      have n2_ := Aside0.mk (Kd.R_below HL.out HXY.out)
      have n3_ := Aside0.mk (Kd.R_below HV.out HXY.out)
      have n4_ := Aside0.mk (Kd.R_below HX.out HXY.out)
      have n5_ := Aside0.mk (Kd.R_below O40.out HXY.out)
      clear HB BK HL HV HX O40 HXX HY HZ HXY
      have HB := n0_
      have BK := n1_
      have HL := n2_
      have HV := n3_
      have HX := n4_
      have O40 := n5_
      clear n0_ n1_ n2_ n3_ n4_ n5_
      by_cases hcp : 0 ≤ a1 ∧ a1 < (p.length : Int)
      rotate_left
      ·exact absurd HO.out (by rw [if_neg hcp];simp)
      have q3 : (a1 < (p.length : Int)) = True := eq_true hcp.2
      have HO := Aside0.mk (show seekIn k l0_0 a0_1 a1 a3 (L.drop (i + 1)) (if better a3 num den (rd p a1) pu = true then (lev,rd p a1,pu) else (ls,num,den)) = some o from by have h_ := HO.out;(try simp only [if_true] at h_);rw [if_pos hcp] at h_;exact h_)
      obtain ⟨ap,eap,hxp⟩ := Kd.at_int (Kd.R_reads' O40.out).2.2 a1 hcp.1 hcp.2
      subst eap
      clear hcp
      have hy0 : w10.cell? ⟨gp,0,none⟩ = some (.slice (some ap) p.length c40) := (blk_cell KP.out 0).trans rfl
      have hy1 : w10.cell? ⟨gp,1,none⟩ = some (.int .i64 pu) := (blk_cell KP.out 1).trans rfl
      cases a3 with
      | true =>
       cases hbt : better true num den (rd p a1) pu with
       | true =>
        have EL := Aside0.mk (show spec_cuLess.f num den (rd p a1) pu = some true from by rw [← hbt];rfl)
        have HO := Aside0.mk (show seekIn k l0_0 a0_1 a1 true (L.drop (i + 1)) (lev,rd p a1,pu) = some o from by have h_ := HO.out;rw [hbt] at h_;exact h_)
        clear hbt
        go_quiet (first | (go_at_call 76;(with_reducible refine (spec_cuLess.calls _ _ _ _ true _ EL.out).mono ?_);rintro e w' ⟨rfl,⟨nd,rfl⟩⟩;(try first | exact ⟨rfl,_,World.drewN_drewN _ _ _⟩ | exact ⟨rfl,_,Eq.trans (World.drewN_drewN _ _ _) (congrArg (World.drewN _) (Nat.add_assoc _ _ _))⟩)))
        generalize hq_ : World.drewN w10 _ = w11
        have n0_ := Aside0.mk (show Below w.heap.size w w11 from by rw [← hq_];exact pw_below_drewN HB.out _)
        have n1_ := Aside0.mk (show w11.heap[gb]? = some (.cells #[.slice (some ad) l0_0.length c0_0, .int .i64 a0_1] 29 (0,0)) from by rw [← hq_];exact blk_drewN BK.out _)
        have n2_ := Aside0.mk (show Kd.R (Kd.slice 3 (Kd.int .i64)) 22 w11 w.heap.size (fun _ => True) _ ls from by rw [← hq_];exact Kd.R_drewN HL.out _)
        have n3_ := Aside0.mk (show Kd.R dL 26 w11 w.heap.size (fun _ => True) _ L from by rw [← hq_];exact Kd.R_drewN HV.out _)
        have n4_ := Aside0.mk (show Kd.R (Kd.slice 3 (Kd.int .i64)) 22 w11 w.heap.size (fun _ => True) _ lev from by rw [← hq_];exact Kd.R_drewN HX.out _)
        have n5_ := Aside0.mk (show Kd.R (Kd.int .i64) 3 w11 w.heap.size (fun _ => True) _ p from by rw [← hq_];exact Kd.R_drewN O40.out _)
        have n6_ := Aside0.mk (show w11.heap[gp]? = some (.cells #[.slice (some ap) p.length c40, .int .i64 pu] 29 (0,0)) from by rw [← hq_];exact blk_drewN KP.out _)
        clear HB BK HL HV HX O40 KP hy0 hy1 hxp hq_
        have hy0 : w11.cell? ⟨gp,0,none⟩ = some (.slice (some ap) p.length c40) := (blk_cell n6_.out 0).trans rfl
        have hy1 : w11.cell? ⟨gp,1,none⟩ = some (.int .i64 pu) := (blk_cell n6_.out 1).trans rfl
        obtain ⟨_,ey,hxp⟩ := Kd.at_int (Kd.R_reads' n5_.out).2.2 a1 HC.out.1 (of_eq_true q3)
        cases ey
        clear n5_ n6_
        have HB := n0_
        have BK := n1_
        have HL := n2_
        have HV := n3_
        have HX := n4_
        clear n0_ n1_ n2_ n3_ n4_
        go_wp2
        go_roundg (LL - (i + 1))
        case measure => have := HK2.out;have := HIL.out;omega
        case rel =>
         have h1 := HIL.out;have h2 := H6.out;have h3 := HLX.out
         exact ⟨i + 1,lev,rd p a1,pu,rfl,rfl,up_one (by omega),⟨by omega⟩,⟨by omega⟩,⟨by rw [HO.out];exact HU2.out⟩,HV,HX,BK,HB⟩
       | false =>
        have EL := Aside0.mk (show spec_cuLess.f num den (rd p a1) pu = some false from by rw [← hbt];rfl)
        have HO := Aside0.mk (show seekIn k l0_0 a0_1 a1 true (L.drop (i + 1)) (ls,num,den) = some o from by have h_ := HO.out;rw [hbt] at h_;exact h_)
        clear hbt
        go_quiet (first | (go_at_call 76;(with_reducible refine (spec_cuLess.calls _ _ _ _ false _ EL.out).mono ?_);rintro e w' ⟨rfl,⟨nd,rfl⟩⟩;(try first | exact ⟨rfl,_,World.drewN_drewN _ _ _⟩ | exact ⟨rfl,_,Eq.trans (World.drewN_drewN _ _ _) (congrArg (World.drewN _) (Nat.add_assoc _ _ _))⟩)))
        generalize hq_ : World.drewN w10 _ = w11
        have n0_ := Aside0.mk (show Below w.heap.size w w11 from by rw [← hq_];exact pw_below_drewN HB.out _)
        have n1_ := Aside0.mk (show w11.heap[gb]? = some (.cells #[.slice (some ad) l0_0.length c0_0, .int .i64 a0_1] 29 (0,0)) from by rw [← hq_];exact blk_drewN BK.out _)
        have n2_ := Aside0.mk (show Kd.R (Kd.slice 3 (Kd.int .i64)) 22 w11 w.heap.size (fun _ => True) _ ls from by rw [← hq_];exact Kd.R_drewN HL.out _)
        have n3_ := Aside0.mk (show Kd.R dL 26 w11 w.heap.size (fun _ => True) _ L from by rw [← hq_];exact Kd.R_drewN HV.out _)
        have n4_ := Aside0.mk (show Kd.R (Kd.slice 3 (Kd.int .i64)) 22 w11 w.heap.size (fun _ => True) _ lev from by rw [← hq_];exact Kd.R_drewN HX.out _)
        have n5_ := Aside0.mk (show Kd.R (Kd.int .i64) 3 w11 w.heap.size (fun _ => True) _ p from by rw [← hq_];exact Kd.R_drewN O40.out _)
        have n6_ := Aside0.mk (show w11.heap[gp]? = some (.cells #[.slice (some ap) p.length c40, .int .i64 pu] 29 (0,0)) from by rw [← hq_];exact blk_drewN KP.out _)
        clear HB BK HL HV HX O40 KP hy0 hy1 hxp hq_
        have hy0 : w11.cell? ⟨gp,0,none⟩ = some (.slice (some ap) p.length c40) := (blk_cell n6_.out 0).trans rfl
        have hy1 : w11.cell? ⟨gp,1,none⟩ = some (.int .i64 pu) := (blk_cell n6_.out 1).trans rfl
        obtain ⟨_,ey,hxp⟩ := Kd.at_int (Kd.R_reads' n5_.out).2.2 a1 HC.out.1 (of_eq_true q3)
        cases ey
        clear n5_ n6_
        have HB := n0_
        have BK := n1_
        have HL := n2_
        have HV := n3_
        have HX := n4_
        clear n0_ n1_ n2_ n3_ n4_
        go_wp2
        go_roundg (LL - (i + 1))
        case measure => have := HK2.out;have := HIL.out;omega
        case rel =>
         have h1 := HIL.out;have h2 := H6.out;have h3 := HLX.out
         exact ⟨i + 1,ls,num,den,rfl,rfl,up_one (by omega),⟨by omega⟩,⟨by omega⟩,⟨by rw [HO.out];exact HU2.out⟩,HV,HL,BK,HB⟩
      | false =>
       cases hbt : better false num den (rd p a1) pu with
       | true =>
        have EL := Aside0.mk (show spec_cuLess.f (rd p a1) pu num den = some true from by rw [← hbt];rfl)
        have HO := Aside0.mk (show seekIn k l0_0 a0_1 a1 false (L.drop (i + 1)) (lev,rd p a1,pu) = some o from by have h_ := HO.out;rw [hbt] at h_;exact h_)
        clear hbt
        go_quiet (first | (go_at_call 76;(with_reducible refine (spec_cuLess.calls _ _ _ _ true _ EL.out).mono ?_);rintro e w' ⟨rfl,⟨nd,rfl⟩⟩;(try first | exact ⟨rfl,_,World.drewN_drewN _ _ _⟩ | exact ⟨rfl,_,Eq.trans (World.drewN_drewN _ _ _) (congrArg (World.drewN _) (Nat.add_assoc _ _ _))⟩)))
        generalize hq_ : World.drewN w10 _ = w11
        have n0_ := Aside0.mk (show Below w.heap.size w w11 from by rw [← hq_];exact pw_below_drewN HB.out _)
        have n1_ := Aside0.mk (show w11.heap[gb]? = some (.cells #[.slice (some ad) l0_0.length c0_0, .int .i64 a0_1] 29 (0,0)) from by rw [← hq_];exact blk_drewN BK.out _)
        have n2_ := Aside0.mk (show Kd.R (Kd.slice 3 (Kd.int .i64)) 22 w11 w.heap.size (fun _ => True) _ ls from by rw [← hq_];exact Kd.R_drewN HL.out _)
        have n3_ := Aside0.mk (show Kd.R dL 26 w11 w.heap.size (fun _ => True) _ L from by rw [← hq_];exact Kd.R_drewN HV.out _)
        have n4_ := Aside0.mk (show Kd.R (Kd.slice 3 (Kd.int .i64)) 22 w11 w.heap.size (fun _ => True) _ lev from by rw [← hq_];exact Kd.R_drewN HX.out _)
        have n5_ := Aside0.mk (show Kd.R (Kd.int .i64) 3 w11 w.heap.size (fun _ => True) _ p from by rw [← hq_];exact Kd.R_drewN O40.out _)
        have n6_ := Aside0.mk (show w11.heap[gp]? = some (.cells #[.slice (some ap) p.length c40, .int .i64 pu] 29 (0,0)) from by rw [← hq_];exact blk_drewN KP.out _)
        clear HB BK HL HV HX O40 KP hy0 hy1 hxp hq_
        have hy0 : w11.cell? ⟨gp,0,none⟩ = some (.slice (some ap) p.length c40) := (blk_cell n6_.out 0).trans rfl
        have hy1 : w11.cell? ⟨gp,1,none⟩ = some (.int .i64 pu) := (blk_cell n6_.out 1).trans rfl
        obtain ⟨_,ey,hxp⟩ := Kd.at_int (Kd.R_reads' n5_.out).2.2 a1 HC.out.1 (of_eq_true q3)
        cases ey
        clear n5_ n6_
        have HB := n0_
        have BK := n1_
        have HL := n2_
        have HV := n3_
        have HX := n4_
        clear n0_ n1_ n2_ n3_ n4_
        go_wp2
        go_roundg (LL - (i + 1))
        case measure => have := HK2.out;have := HIL.out;omega
        case rel =>
         have h1 := HIL.out;have h2 := H6.out;have h3 := HLX.out
         exact ⟨i + 1,lev,rd p a1,pu,rfl,rfl,up_one (by omega),⟨by omega⟩,⟨by omega⟩,⟨by rw [HO.out];exact HU2.out⟩,HV,HX,BK,HB⟩
       | false =>
        have EL := Aside0.mk (show spec_cuLess.f (rd p a1) pu num den = some false from by rw [← hbt];rfl)
        have HO := Aside0.mk (show seekIn k l0_0 a0_1 a1 false (L.drop (i + 1)) (ls,num,den) = some o from by have h_ := HO.out;rw [hbt] at h_;exact h_)
        clear hbt
        go_quiet (first | (go_at_call 76;(with_reducible refine (spec_cuLess.calls _ _ _ _ false _ EL.out).mono ?_);rintro e w' ⟨rfl,⟨nd,rfl⟩⟩;(try first | exact ⟨rfl,_,World.drewN_drewN _ _ _⟩ | exact ⟨rfl,_,Eq.trans (World.drewN_drewN _ _ _) (congrArg (World.drewN _) (Nat.add_assoc _ _ _))⟩)))
        generalize hq_ : World.drewN w10 _ = w11
        have n0_ := Aside0.mk (show Below w.heap.size w w11 from by rw [← hq_];exact pw_below_drewN HB.out _)
        have n1_ := Aside0.mk (show w11.heap[gb]? = some (.cells #[.slice (some ad) l0_0.length c0_0, .int .i64 a0_1] 29 (0,0)) from by rw [← hq_];exact blk_drewN BK.out _)
        have n2_ := Aside0.mk (show Kd.R (Kd.slice 3 (Kd.int .i64)) 22 w11 w.heap.size (fun _ => True) _ ls from by rw [← hq_];exact Kd.R_drewN HL.out _)
        have n3_ := Aside0.mk (show Kd.R dL 26 w11 w.heap.size (fun _ => True) _ L from by rw [← hq_];exact Kd.R_drewN HV.out _)
        have n4_ := Aside0.mk (show Kd.R (Kd.slice 3 (Kd.int .i64)) 22 w11 w.heap.size (fun _ => True) _ lev from by rw [← hq_];exact Kd.R_drewN HX.out _)
        have n5_ := Aside0.mk (show Kd.R (Kd.int .i64) 3 w11 w.heap.size (fun _ => True) _ p from by rw [← hq_];exact Kd.R_drewN O40.out _)
        have n6_ := Aside0.mk (show w11.heap[gp]? = some (.cells #[.slice (some ap) p.length c40, .int .i64 pu] 29 (0,0)) from by rw [← hq_];exact blk_drewN KP.out _)
        clear HB BK HL HV HX O40 KP hy0 hy1 hxp hq_
        have hy0 : w11.cell? ⟨gp,0,none⟩ = some (.slice (some ap) p.length c40) := (blk_cell n6_.out 0).trans rfl
        have hy1 : w11.cell? ⟨gp,1,none⟩ = some (.int .i64 pu) := (blk_cell n6_.out 1).trans rfl
        obtain ⟨_,ey,hxp⟩ := Kd.at_int (Kd.R_reads' n5_.out).2.2 a1 HC.out.1 (of_eq_true q3)
        cases ey
        clear n5_ n6_
        have HB := n0_
        have BK := n1_
        have HL := n2_
        have HV := n3_
        have HX := n4_
        clear n0_ n1_ n2_ n3_ n4_
        go_wp2
        go_roundg (LL - (i + 1))
        case measure => have := HK2.out;have := HIL.out;omega
        case rel =>
         have h1 := HIL.out;have h2 := H6.out;have h3 := HLX.out
         exact ⟨i + 1,ls,num,den,rfl,rfl,up_one (by omega),⟨by omega⟩,⟨by omega⟩,⟨by rw [HO.out];exact HU2.out⟩,HV,HL,BK,HB⟩
    ·have hib : decide ((i : Int) < (LL : Int)) = false := decide_eq_false (by omega)
     have e2 : search k l0_0 a0_1 a1 a3 d (e + 1) (ls,num,den) = some (r1,r2) := by
      have := H.out
      rw [List.drop_of_length_le (by have := HLX.out;omega)] at this
      simp only [seekIn,Option.bind_some] at this
      exact this
     replace H := Aside0.mk e2
     clear e2
     go_wp2
     go_roundg d
     case measure => have := HK1.out;omega
     case rel =>
      have h1 := Hde.out;have h2 := HC.out;have h3 := HK1.out
      exact ⟨d,e + 1,ls,num,den,rfl,rfl,up_one (by omega),⟨by omega⟩,⟨by omega⟩,H,HL,BK,HB⟩

/-! ### spec_cuPart: function 62 -/
def spec_cuPart.l0 : Nat → Int → Int → Int → Int → Option (Int × Int)
 | 0,_,_,_,_ => none
 | k + 1,x0,x1,x6,x7 => if x7 > 0 then (if x7 = 0 then (none) else (spec_cuPart.l0 k x0 x1 x7 (Int.tmod x6 x7))) else (if x6 = 0 then (none) else (some (wrap64 (Int.tdiv x0 x6),wrap64 (Int.tdiv x1 x6))))
def spec_cuPart.f (k : Nat) (a0 : Int) (a1 : Int) : Option (Int × Int) := spec_cuPart.l0 k a0 a1 a0 a1
theorem spec_cuPart.mono_l : ∀ k,(∀ y0 y1 y2 y3,LeO (spec_cuPart.l0 k y0 y1 y2 y3) (spec_cuPart.l0 (k + 1) y0 y1 y2 y3))
 | 0 => fun _ _ _ _ r h => by simp [spec_cuPart.l0] at h
 | k + 1 => by
  have ih0 := spec_cuPart.mono_l k
  ·intro y0 y1 y2 y3
   unfold spec_cuPart.l0
   repeat' first
   | (with_reducible exact ih0 _ _ _ _)
   | (with_reducible exact LeO.refl _)
   | (with_reducible exact LeO.none _)
   | (with_reducible refine LeO.ite ?_ ?_)
   | (with_reducible refine LeO.bind ?_ (fun _ => ?_))
   | exact ih0 _ _ _ _
   | exact LeO.none _
   | refine LeO.ite ?_ ?_
   | refine LeO.bind ?_ (fun _ => ?_)
theorem spec_cuPart.mono : ∀ a0 a1 k,LeO (spec_cuPart.f k a0 a1) (spec_cuPart.f (k + 1) a0 a1) := by
 intro a0 a1 k
 have ih0 := spec_cuPart.mono_l k
 unfold spec_cuPart.f
 repeat' first
   | (with_reducible exact ih0 _ _ _ _)
   | (with_reducible exact LeO.refl _)
   | (with_reducible exact LeO.none _)
   | (with_reducible refine LeO.ite ?_ ?_)
   | (with_reducible refine LeO.bind ?_ (fun _ => ?_))
   | exact ih0 _ _ _ _
   | exact LeO.none _
   | refine LeO.ite ?_ ?_
   | refine LeO.bind ?_ (fun _ => ?_)
set_option maxHeartbeats 8000000 in
set_option maxRecDepth 100000 in
theorem spec_cuPart.calls (k : Nat) (a0 : Int) (a1 : Int) (r1 : Int) (r2 : Int) (w : World) (h : spec_cuPart.f k a0 a1 = some (r1,r2)) :
  Calls Try.prog 62 #[.int .i64 a0, .int .i64 a1] w fun e w' => e = .returned (.tuple #[.int .i64 r1, .int .i64 r2]) ∧ Drawn0 w w' := by
 have H : (spec_cuPart.l0 k a0 a1 a0 a1) = some (r1,r2) := h
 clear h
 have H' := Aside0.mk H
 clear H
 go_enter Try.func62,Try.ntmps62
 go_wp2
 repeat (go_quiet (fail);try go_wp2)
 go_loopg [6,7] k (fun kq v6 v7 w' => ∃ (x6_1 : Int) (x7_1 : Int),v6 = .int .i64 x6_1 ∧ v7 = .int .i64 x7_1 ∧ Aside0 (spec_cuPart.l0 kq a0 a1 x6_1 x7_1 = some (r1,r2)) ∧ Aside0 (kq ≤ k) ∧ Drawn0 w w')
 case atStart => exact ⟨(a0),(a1),(by first | rfl | (simp;done) | (simp [*];done)),(by first | rfl | (simp;done) | (simp [*];done)),H',⟨Nat.le_refl _⟩,by repeat (first | exact Drawn0.refl _ | apply Drawn0.step)⟩
 case round =>
  clear H'
  try clear p2
  obtain ⟨x6_1,x7_1,rfl,rfl,HA,HK1,⟨m1,rfl⟩⟩ := hrel
  cases gk with
  | zero => exact absurd HA.out (by simp [spec_cuPart.l0])
  | succ k1 =>
   have H := HA.out
   clear HA
   simp only [spec_cuPart.l0] at H
   by_cases c3 : x7_1 > 0
   ·rw [if_pos c3] at H
    have c3b0 : decide (0 < x7_1) = true := decide_eq_true c3
    clear c3
    by_cases c4 : x7_1 = 0
    ·rw [if_pos c4] at H
     exact absurd H (by simp)
    ·rw [if_neg c4] at H
     have c4b0 : (x7_1 == 0) = false := beq_eq_false_iff_ne.mpr c4
     have c4b1 : (x7_1 != 0) = true := bne_iff_ne.mpr c4
     have H' := Aside0.mk H
     clear H
     go_wp2
     repeat (go_quiet (fail);try go_wp2)
     go_roundg k1
     case measure => have := HK1.out;omega
     case rel => exact ⟨(x7_1),(Int.tmod x6_1 x7_1),(by first | rfl | (simp;done) | (simp [*];done)),(by first | rfl | (simp;done) | (simp [*];done)),H',⟨by have := HK1.out;omega⟩,by repeat (first | exact Drawn0.refl _ | apply Drawn0.step)⟩
   ·rw [if_neg c3] at H
    have c3b0 : decide (0 < x7_1) = false := decide_eq_false c3
    clear c3
    by_cases c5 : x6_1 = 0
    ·rw [if_pos c5] at H
     exact absurd H (by simp)
    ·rw [if_neg c5] at H
     have c5b0 : (x6_1 == 0) = false := beq_eq_false_iff_ne.mpr c5
     have c5b1 : (x6_1 != 0) = true := bne_iff_ne.mpr c5
     simp only [Option.some.injEq,Prod.mk.injEq] at H
     obtain ⟨rfl,rfl⟩ := H
     go_wp2
     repeat (go_quiet (fail);try go_wp2)
     go_ret2
     exact ⟨by first | rfl | (simp;done) | (simp [*];done),by repeat (first | exact Drawn0.refl _ | apply Drawn0.step)⟩

end Go.Proofs.Ytmkpngmdikbbeaa.P
