/- Written by a program of this workplace (own_print.py, over the kit's print) for the functions that the statements reach, with contracts of its own. Lean checks it. -/
import Derived.Test.YtmkpngmdikbbeaaPx0
import Derived.Test.YtmkpngmdikbbeaaPx1
import Derived.Test.YtmkpngmdikbbeaaPx7
import Derived.Test.YtmkpngmdikbbeaaPx10
namespace Go.Proofs.Ytmkpngmdikbbeaa.P
open Go.RowKit Go.Proofs.YtmkpngmdikbbeaaW.PrintWords Go.Proofs.YtmkpngmdikbbeaaW.PrintLast Go.Proofs.YtmkpngmdikbbeaaW.PrintMore
attribute [local go_sem] max2_int min2_int max_two min_two max_three min_three max_four min_four   -- for this text's walks alone
set_option linter.unusedVariables false
set_option linter.unusedSimpArgs false

/-! ### spec_cuAsked: function 45 -/
def spec_cuAsked.f (k : Nat) (l0_0 : List Int) (a0_1 : Int) (a1 : Int) : Option (Bool) := (spec_cuGood.f k l0_0 a0_1).bind fun t487 => (if t487 = true then (if (l0_0.length : Int) ≤ 4 then (if a0_1 ≤ 1024 then ((spec_l1In.f a1 0 5).bind fun t488 => (some t488)) else (some false)) else (some false)) else (some false))
theorem spec_cuAsked.mono : ∀ a0 a1 a2 k,LeO (spec_cuAsked.f k a0 a1 a2) (spec_cuAsked.f (k + 1) a0 a1 a2) := by
 intro a0 a1 a2 k
 unfold spec_cuAsked.f
 repeat' first
   | (with_reducible exact spec_cuGood.mono _ _ _)
   | (with_reducible exact LeO.refl _)
   | (with_reducible exact LeO.none _)
   | (with_reducible refine LeO.ite ?_ ?_)
   | (with_reducible refine LeO.bind ?_ (fun _ => ?_))
   | exact spec_cuGood.mono _ _ _
   | exact LeO.none _
   | refine LeO.ite ?_ ?_
   | refine LeO.bind ?_ (fun _ => ?_)
set_option maxHeartbeats 8000000 in
set_option maxRecDepth 100000 in
theorem spec_cuAsked.calls (k : Nat) (A0_0 : Option Addr) (c0_0 : Nat) (l0_0 : List Int) (a0_1 : Int) (a1 : Int) (r : Bool) (w : World) (hr0_0 : Kd.C (Kd.int .i64) w A0_0 l0_0.length l0_0) (hc0_0 : l0_0.length ≤ c0_0) (h : spec_cuAsked.f k l0_0 a0_1 a1 = some r) :
  Calls Try.prog 45 #[.agg #[.slice A0_0 l0_0.length c0_0, .int .i64 a0_1], .int .i64 a1] w fun e w' => e = .returned (.bool r) ∧ Below w.heap.size w w' := by
 have hu29 := Try.underlying29
 have HR0_0 := Aside0.mk hr0_0
 have HC0_0 := Aside0.mk hc0_0
 clear hr0_0 hc0_0
 have HB := Aside0.mk (Below.refl w.heap.size w)
 have H : ((spec_cuGood.f k l0_0 a0_1).bind fun t487 => (if t487 = true then (if (l0_0.length : Int) ≤ 4 then (if a0_1 ≤ 1024 then ((spec_l1In.f a1 0 5).bind fun t488 => (some t488)) else (some false)) else (some false)) else (some false))) = some r := h
 clear h
 replace H := Option.bind_eq_some_iff.mp H
 obtain ⟨t487,A30,H⟩ := H
 replace H : (if t487 = true then (if (l0_0.length : Int) ≤ 4 then (if a0_1 ≤ 1024 then ((spec_l1In.f a1 0 5).bind fun t488 => (some t488)) else (some false)) else (some false)) else (some false)) = some r := H
 have A3 := Aside0.mk A30
 clear A30
 by_cases c4 : t487 = true
 ·subst c4
  have H1 : (if (l0_0.length : Int) ≤ 4 then (if a0_1 ≤ 1024 then ((spec_l1In.f a1 0 5).bind fun t488 => (some t488)) else (some false)) else (some false)) = some r := by rw [if_pos rfl] at H;exact H
  clear H
  have H := H1
  clear H1
  by_cases c5 : (l0_0.length : Int) ≤ 4
  ·rw [if_pos c5] at H
   have c5b0 : decide ((l0_0.length : Int) ≤ 4) = true := decide_eq_true c5
   have c5b1 : decide (l0_0.length ≤ 4) = true := decide_eq_true (by omega)
   clear c5
   by_cases c6 : a0_1 ≤ 1024
   ·rw [if_pos c6] at H
    have c6b0 : decide (a0_1 ≤ 1024) = true := decide_eq_true c6
    clear c6
    replace H := Option.bind_eq_some_iff.mp H
    obtain ⟨t488,A70,H⟩ := H
    replace H : (some t488) = some r := H
    have A7 := Aside0.mk A70
    clear A70
    obtain rfl := Option.some.inj H
    go_enter Try.func45,Try.ntmps45
    go_wp2_with (first | ((with_reducible refine gate_dst (N := 2) rfl ?_);(try (refine gate_guard (by rfl) ?_;dsimp only));refine box_event ?hg (N := 2) ?hd (cs := #[.slice A0_0 l0_0.length c0_0, .int .i64 a0_1]) (t := 29) ?hr ?_;(case hd => rfl);(case hg => rfl);(case hr => first | (go_simp;done) | (go_simp;rfl));intro gb486 hg w8 hbox hb;have n0_ := Aside0.mk (below_step (by repeat (first | (with_reducible first | exact HB.out | apply below_alloc | apply pw_below_drewN | apply below_drew1) | exact HB.out)) hb);have n1_ := Aside0.mk (hbox);have n2_ := Aside0.mk ((by rw [hg];exact (below_size (by repeat (first | (with_reducible first | exact HB.out | apply below_alloc | apply pw_below_drewN | apply below_drew1) | exact HB.out))) : w.heap.size ≤ gb486));have n3_ := Aside0.mk ((by rw [hg];exact (below_size (by repeat (first | (with_reducible first | exact HB.out | apply below_alloc | apply pw_below_drewN | apply below_drew1) | exact HB.out))) : w.heap.size ≤ gb486));clear HB;have HB := n0_;have BK486 := n1_;have GW486 := n2_;have GE486 := n3_;clear n0_ n1_ n2_ n3_;clear hb hbox hg;have hcz9_0 : w8.cell? ⟨gb486,0,none⟩ = some (.slice A0_0 l0_0.length c0_0) := (blk_cell BK486.out 0).trans rfl;have hcz9_1 : w8.cell? ⟨gb486,1,none⟩ = some (.int .i64 a0_1) := (blk_cell BK486.out 1).trans rfl;have hfz9_0 := blk_frozen BK486.out 0;have hfz9_1 := blk_frozen BK486.out 1) | ((with_reducible refine gate_callee (f := 29) rfl ?_);refine goesL_ (some 6) rfl rfl Try.func29 (by kernel_rfl) rfl #[.agg #[.slice A0_0 l0_0.length c0_0, .int .i64 a0_1]] rfl (by (try simp only [List.map_toArray,List.map_cons,List.map_nil]);first | done | rfl | (simp only [List.length_drop,List.length_take];rfl)) ?_;(with_reducible refine (spec_cuGood.calls k _ _ l0_0 a0_1 true _ ?side1 ?side2 A3.out).mono ?_);(case side1 => repeat (first | exact (Kd.C_below HR0_0.out HB.out) | (with_reducible refine Kd.C_alloc ?_ _) | (with_reducible refine Kd.C_drewN ?_ _) | (with_reducible refine Kd.C_drew ?_)));(case side2 => exact HC0_0.out);rintro e w10 ⟨rfl,hb⟩;refine ⟨_,rfl,?_⟩;have n0_ := Aside0.mk (blk_below (g := gb486) (o := .cells #[.slice A0_0 l0_0.length c0_0, .int .i64 a0_1] 29 (0,0)) (by (with_reducible repeat (first | refine blk_drewN ?_ _ | refine blk_drew ?_ | refine blk_alloc ?_ _));exact BK486.out) hb);have n1_ := Aside0.mk (below_step (by repeat (first | (with_reducible first | exact HB.out | apply below_alloc | apply pw_below_drewN | apply below_drew1 | refine below_set ?_ GE486.out) | exact HB.out)) hb);clear BK486;clear HB;have BK486 := n0_;have HB := n1_;clear n0_ n1_;(try clear hb);(try clear hb2);(try clear hk);(try clear hi);have hcz11_0 : w10.cell? ⟨gb486,0,none⟩ = some (.slice A0_0 l0_0.length c0_0) := (blk_cell BK486.out 0).trans rfl;have hcz11_1 : w10.cell? ⟨gb486,1,none⟩ = some (.int .i64 a0_1) := (blk_cell BK486.out 1).trans rfl;have hfz11_0 := blk_frozen BK486.out 0;have hfz11_1 := blk_frozen BK486.out 1) | (go_at_call 48;(with_reducible refine (spec_l1In.calls a1 0 5 t488 _ A7.out).mono ?_);rintro e w' ⟨rfl,⟨nd,rfl⟩⟩))
    go_ret
    exact ⟨by first | rfl | (simp [errW_none,errW_some] <;> rfl) | (simp [*,errW_none,errW_some] <;> rfl),by repeat (first | (with_reducible first | exact HB.out | apply below_alloc | apply pw_below_drewN | apply below_drew1 | refine below_set ?_ GE486.out) | exact HB.out)⟩
   ·rw [if_neg c6] at H
    have c6b0 : decide (a0_1 ≤ 1024) = false := decide_eq_false c6
    clear c6
    obtain rfl := Option.some.inj H
    go_enter Try.func45,Try.ntmps45
    go_wp2_with (first | ((with_reducible refine gate_dst (N := 2) rfl ?_);(try (refine gate_guard (by rfl) ?_;dsimp only));refine box_event ?hg (N := 2) ?hd (cs := #[.slice A0_0 l0_0.length c0_0, .int .i64 a0_1]) (t := 29) ?hr ?_;(case hd => rfl);(case hg => rfl);(case hr => first | (go_simp;done) | (go_simp;rfl));intro gb486 hg w12 hbox hb;have n0_ := Aside0.mk (below_step (by repeat (first | (with_reducible first | exact HB.out | apply below_alloc | apply pw_below_drewN | apply below_drew1) | exact HB.out)) hb);have n1_ := Aside0.mk (hbox);have n2_ := Aside0.mk ((by rw [hg];exact (below_size (by repeat (first | (with_reducible first | exact HB.out | apply below_alloc | apply pw_below_drewN | apply below_drew1) | exact HB.out))) : w.heap.size ≤ gb486));have n3_ := Aside0.mk ((by rw [hg];exact (below_size (by repeat (first | (with_reducible first | exact HB.out | apply below_alloc | apply pw_below_drewN | apply below_drew1) | exact HB.out))) : w.heap.size ≤ gb486));clear HB;have HB := n0_;have BK486 := n1_;have GW486 := n2_;have GE486 := n3_;clear n0_ n1_ n2_ n3_;clear hb hbox hg;have hcz13_0 : w12.cell? ⟨gb486,0,none⟩ = some (.slice A0_0 l0_0.length c0_0) := (blk_cell BK486.out 0).trans rfl;have hcz13_1 : w12.cell? ⟨gb486,1,none⟩ = some (.int .i64 a0_1) := (blk_cell BK486.out 1).trans rfl;have hfz13_0 := blk_frozen BK486.out 0;have hfz13_1 := blk_frozen BK486.out 1) | ((with_reducible refine gate_callee (f := 29) rfl ?_);refine goesL_ (some 6) rfl rfl Try.func29 (by kernel_rfl) rfl #[.agg #[.slice A0_0 l0_0.length c0_0, .int .i64 a0_1]] rfl (by (try simp only [List.map_toArray,List.map_cons,List.map_nil]);first | done | rfl | (simp only [List.length_drop,List.length_take];rfl)) ?_;(with_reducible refine (spec_cuGood.calls k _ _ l0_0 a0_1 true _ ?side1 ?side2 A3.out).mono ?_);(case side1 => repeat (first | exact (Kd.C_below HR0_0.out HB.out) | (with_reducible refine Kd.C_alloc ?_ _) | (with_reducible refine Kd.C_drewN ?_ _) | (with_reducible refine Kd.C_drew ?_)));(case side2 => exact HC0_0.out);rintro e w14 ⟨rfl,hb⟩;refine ⟨_,rfl,?_⟩;have n0_ := Aside0.mk (blk_below (g := gb486) (o := .cells #[.slice A0_0 l0_0.length c0_0, .int .i64 a0_1] 29 (0,0)) (by (with_reducible repeat (first | refine blk_drewN ?_ _ | refine blk_drew ?_ | refine blk_alloc ?_ _));exact BK486.out) hb);have n1_ := Aside0.mk (below_step (by repeat (first | (with_reducible first | exact HB.out | apply below_alloc | apply pw_below_drewN | apply below_drew1 | refine below_set ?_ GE486.out) | exact HB.out)) hb);clear BK486;clear HB;have BK486 := n0_;have HB := n1_;clear n0_ n1_;(try clear hb);(try clear hb2);(try clear hk);(try clear hi);have hcz15_0 : w14.cell? ⟨gb486,0,none⟩ = some (.slice A0_0 l0_0.length c0_0) := (blk_cell BK486.out 0).trans rfl;have hcz15_1 : w14.cell? ⟨gb486,1,none⟩ = some (.int .i64 a0_1) := (blk_cell BK486.out 1).trans rfl;have hfz15_0 := blk_frozen BK486.out 0;have hfz15_1 := blk_frozen BK486.out 1))
    go_ret
    exact ⟨by first | rfl | (simp [errW_none,errW_some] <;> rfl) | (simp [*,errW_none,errW_some] <;> rfl),by repeat (first | (with_reducible first | exact HB.out | apply below_alloc | apply pw_below_drewN | apply below_drew1 | refine below_set ?_ GE486.out) | exact HB.out)⟩
  ·rw [if_neg c5] at H
   have c5b0 : decide ((l0_0.length : Int) ≤ 4) = false := decide_eq_false c5
   have c5b1 : decide (l0_0.length ≤ 4) = false := decide_eq_false (by omega)
   clear c5
   obtain rfl := Option.some.inj H
   go_enter Try.func45,Try.ntmps45
   go_wp2_with (first | ((with_reducible refine gate_dst (N := 2) rfl ?_);(try (refine gate_guard (by rfl) ?_;dsimp only));refine box_event ?hg (N := 2) ?hd (cs := #[.slice A0_0 l0_0.length c0_0, .int .i64 a0_1]) (t := 29) ?hr ?_;(case hd => rfl);(case hg => rfl);(case hr => first | (go_simp;done) | (go_simp;rfl));intro gb486 hg w16 hbox hb;have n0_ := Aside0.mk (below_step (by repeat (first | (with_reducible first | exact HB.out | apply below_alloc | apply pw_below_drewN | apply below_drew1) | exact HB.out)) hb);have n1_ := Aside0.mk (hbox);have n2_ := Aside0.mk ((by rw [hg];exact (below_size (by repeat (first | (with_reducible first | exact HB.out | apply below_alloc | apply pw_below_drewN | apply below_drew1) | exact HB.out))) : w.heap.size ≤ gb486));have n3_ := Aside0.mk ((by rw [hg];exact (below_size (by repeat (first | (with_reducible first | exact HB.out | apply below_alloc | apply pw_below_drewN | apply below_drew1) | exact HB.out))) : w.heap.size ≤ gb486));clear HB;have HB := n0_;have BK486 := n1_;have GW486 := n2_;have GE486 := n3_;clear n0_ n1_ n2_ n3_;clear hb hbox hg;have hcz17_0 : w16.cell? ⟨gb486,0,none⟩ = some (.slice A0_0 l0_0.length c0_0) := (blk_cell BK486.out 0).trans rfl;have hcz17_1 : w16.cell? ⟨gb486,1,none⟩ = some (.int .i64 a0_1) := (blk_cell BK486.out 1).trans rfl;have hfz17_0 := blk_frozen BK486.out 0;have hfz17_1 := blk_frozen BK486.out 1) | ((with_reducible refine gate_callee (f := 29) rfl ?_);refine goesL_ (some 6) rfl rfl Try.func29 (by kernel_rfl) rfl #[.agg #[.slice A0_0 l0_0.length c0_0, .int .i64 a0_1]] rfl (by (try simp only [List.map_toArray,List.map_cons,List.map_nil]);first | done | rfl | (simp only [List.length_drop,List.length_take];rfl)) ?_;(with_reducible refine (spec_cuGood.calls k _ _ l0_0 a0_1 true _ ?side1 ?side2 A3.out).mono ?_);(case side1 => repeat (first | exact (Kd.C_below HR0_0.out HB.out) | (with_reducible refine Kd.C_alloc ?_ _) | (with_reducible refine Kd.C_drewN ?_ _) | (with_reducible refine Kd.C_drew ?_)));(case side2 => exact HC0_0.out);rintro e w18 ⟨rfl,hb⟩;refine ⟨_,rfl,?_⟩;have n0_ := Aside0.mk (blk_below (g := gb486) (o := .cells #[.slice A0_0 l0_0.length c0_0, .int .i64 a0_1] 29 (0,0)) (by (with_reducible repeat (first | refine blk_drewN ?_ _ | refine blk_drew ?_ | refine blk_alloc ?_ _));exact BK486.out) hb);have n1_ := Aside0.mk (below_step (by repeat (first | (with_reducible first | exact HB.out | apply below_alloc | apply pw_below_drewN | apply below_drew1 | refine below_set ?_ GE486.out) | exact HB.out)) hb);clear BK486;clear HB;have BK486 := n0_;have HB := n1_;clear n0_ n1_;(try clear hb);(try clear hb2);(try clear hk);(try clear hi);have hcz19_0 : w18.cell? ⟨gb486,0,none⟩ = some (.slice A0_0 l0_0.length c0_0) := (blk_cell BK486.out 0).trans rfl;have hcz19_1 : w18.cell? ⟨gb486,1,none⟩ = some (.int .i64 a0_1) := (blk_cell BK486.out 1).trans rfl;have hfz19_0 := blk_frozen BK486.out 0;have hfz19_1 := blk_frozen BK486.out 1))
   go_ret
   exact ⟨by first | rfl | (simp [errW_none,errW_some] <;> rfl) | (simp [*,errW_none,errW_some] <;> rfl),by repeat (first | (with_reducible first | exact HB.out | apply below_alloc | apply pw_below_drewN | apply below_drew1 | refine below_set ?_ GE486.out) | exact HB.out)⟩
 ·replace c4 := Bool.eq_false_iff.mpr c4
  subst c4
  have H1 : (some false) = some r := by rw [if_neg (show ¬ (false = true) by decide)] at H;exact H
  clear H
  have H := H1
  clear H1
  obtain rfl := Option.some.inj H
  go_enter Try.func45,Try.ntmps45
  go_wp2_with (first | ((with_reducible refine gate_dst (N := 2) rfl ?_);(try (refine gate_guard (by rfl) ?_;dsimp only));refine box_event ?hg (N := 2) ?hd (cs := #[.slice A0_0 l0_0.length c0_0, .int .i64 a0_1]) (t := 29) ?hr ?_;(case hd => rfl);(case hg => rfl);(case hr => first | (go_simp;done) | (go_simp;rfl));intro gb486 hg w20 hbox hb;have n0_ := Aside0.mk (below_step (by repeat (first | (with_reducible first | exact HB.out | apply below_alloc | apply pw_below_drewN | apply below_drew1) | exact HB.out)) hb);have n1_ := Aside0.mk (hbox);have n2_ := Aside0.mk ((by rw [hg];exact (below_size (by repeat (first | (with_reducible first | exact HB.out | apply below_alloc | apply pw_below_drewN | apply below_drew1) | exact HB.out))) : w.heap.size ≤ gb486));have n3_ := Aside0.mk ((by rw [hg];exact (below_size (by repeat (first | (with_reducible first | exact HB.out | apply below_alloc | apply pw_below_drewN | apply below_drew1) | exact HB.out))) : w.heap.size ≤ gb486));clear HB;have HB := n0_;have BK486 := n1_;have GW486 := n2_;have GE486 := n3_;clear n0_ n1_ n2_ n3_;clear hb hbox hg;have hcz21_0 : w20.cell? ⟨gb486,0,none⟩ = some (.slice A0_0 l0_0.length c0_0) := (blk_cell BK486.out 0).trans rfl;have hcz21_1 : w20.cell? ⟨gb486,1,none⟩ = some (.int .i64 a0_1) := (blk_cell BK486.out 1).trans rfl;have hfz21_0 := blk_frozen BK486.out 0;have hfz21_1 := blk_frozen BK486.out 1) | ((with_reducible refine gate_callee (f := 29) rfl ?_);refine goesL_ (some 6) rfl rfl Try.func29 (by kernel_rfl) rfl #[.agg #[.slice A0_0 l0_0.length c0_0, .int .i64 a0_1]] rfl (by (try simp only [List.map_toArray,List.map_cons,List.map_nil]);first | done | rfl | (simp only [List.length_drop,List.length_take];rfl)) ?_;(with_reducible refine (spec_cuGood.calls k _ _ l0_0 a0_1 false _ ?side1 ?side2 A3.out).mono ?_);(case side1 => repeat (first | exact (Kd.C_below HR0_0.out HB.out) | (with_reducible refine Kd.C_alloc ?_ _) | (with_reducible refine Kd.C_drewN ?_ _) | (with_reducible refine Kd.C_drew ?_)));(case side2 => exact HC0_0.out);rintro e w22 ⟨rfl,hb⟩;refine ⟨_,rfl,?_⟩;have n0_ := Aside0.mk (blk_below (g := gb486) (o := .cells #[.slice A0_0 l0_0.length c0_0, .int .i64 a0_1] 29 (0,0)) (by (with_reducible repeat (first | refine blk_drewN ?_ _ | refine blk_drew ?_ | refine blk_alloc ?_ _));exact BK486.out) hb);have n1_ := Aside0.mk (below_step (by repeat (first | (with_reducible first | exact HB.out | apply below_alloc | apply pw_below_drewN | apply below_drew1 | refine below_set ?_ GE486.out) | exact HB.out)) hb);clear BK486;clear HB;have BK486 := n0_;have HB := n1_;clear n0_ n1_;(try clear hb);(try clear hb2);(try clear hk);(try clear hi)))
  go_ret
  exact ⟨by first | rfl | (simp [errW_none,errW_some] <;> rfl) | (simp [*,errW_none,errW_some] <;> rfl),by repeat (first | (with_reducible first | exact HB.out | apply below_alloc | apply pw_below_drewN | apply below_drew1 | refine below_set ?_ GE486.out) | exact HB.out)⟩

/-! ### spec_l1Least: function 78 -/
def spec_l1Least.f (a0 : Int) (a1 : Int) : Option (Int) := if a0 < a1 then (some a0) else (some a1)
set_option maxHeartbeats 8000000 in
set_option maxRecDepth 100000 in
theorem spec_l1Least.calls (a0 : Int) (a1 : Int) (r : Int) (w : World) (h : spec_l1Least.f a0 a1 = some r) :
  Calls Try.prog 78 #[.int .i64 a0, .int .i64 a1] w fun e w' => e = .returned (.int .i64 r) ∧ Drawn0 w w' := by
 have H : (if a0 < a1 then (some a0) else (some a1)) = some r := h
 clear h
 by_cases c3 : a0 < a1
 ·rw [if_pos c3] at H
  have c3b0 : decide (a0 < a1) = true := decide_eq_true c3
  clear c3
  obtain rfl := Option.some.inj H
  go_enter Try.func78,Try.ntmps78
  go_wp2
  go_ret
  exact ⟨by first | rfl | (simp;done) | (simp [*];done),by repeat (first | exact Drawn0.refl _ | apply Drawn0.step)⟩
 ·rw [if_neg c3] at H
  have c3b0 : decide (a0 < a1) = false := decide_eq_false c3
  clear c3
  obtain rfl := Option.some.inj H
  go_enter Try.func78,Try.ntmps78
  go_wp2
  go_ret
  exact ⟨by first | rfl | (simp;done) | (simp [*];done),by repeat (first | exact Drawn0.refl _ | apply Drawn0.step)⟩

/-! ### spec_l1Most: function 79 -/
def spec_l1Most.f (a0 : Int) (a1 : Int) : Option (Int) := if a0 > a1 then (some a0) else (some a1)
set_option maxHeartbeats 8000000 in
set_option maxRecDepth 100000 in
theorem spec_l1Most.calls (a0 : Int) (a1 : Int) (r : Int) (w : World) (h : spec_l1Most.f a0 a1 = some r) :
  Calls Try.prog 79 #[.int .i64 a0, .int .i64 a1] w fun e w' => e = .returned (.int .i64 r) ∧ Drawn0 w w' := by
 have H : (if a0 > a1 then (some a0) else (some a1)) = some r := h
 clear h
 by_cases c3 : a0 > a1
 ·rw [if_pos c3] at H
  have c3b0 : decide (a1 < a0) = true := decide_eq_true c3
  clear c3
  obtain rfl := Option.some.inj H
  go_enter Try.func79,Try.ntmps79
  go_wp2
  go_ret
  exact ⟨by first | rfl | (simp;done) | (simp [*];done),by repeat (first | exact Drawn0.refl _ | apply Drawn0.step)⟩
 ·rw [if_neg c3] at H
  have c3b0 : decide (a1 < a0) = false := decide_eq_false c3
  clear c3
  obtain rfl := Option.some.inj H
  go_enter Try.func79,Try.ntmps79
  go_wp2
  go_ret
  exact ⟨by first | rfl | (simp;done) | (simp [*];done),by repeat (first | exact Drawn0.refl _ | apply Drawn0.step)⟩

/-! ### spec_cySpread: function 67 -/
def spec_cySpread.l0 : Nat → Int → Int → List Int → Int → Int → Option (Int)
 | 0,_,_,_,_,_ => none
 | k + 1,x3,x4,x13,x14,x15 => if x15 < x14 then (if 0 ≤ x15 then (if x15 < (x13.length : Int) then ((spec_l1Least.f x3 (rd x13 x15)).bind fun t492 => ((spec_l1Most.f x4 (rd x13 x15)).bind fun t493 => (spec_cySpread.l0 k t492 t493 x13 x14 (wrap64 (x15 + 1))))) else (none)) else (none)) else (some (wrap64 (x4 - x3)))
def spec_cySpread.f (k : Nat) (l0 : List Int) : Option (Int) := if 0 < (l0.length : Int) then (spec_cySpread.l0 k (rd l0 0) (rd l0 0) l0 (l0.length : Int) 0) else (none)
theorem spec_cySpread.mono_l : ∀ k,(∀ y0 y1 y2 y3 y4,LeO (spec_cySpread.l0 k y0 y1 y2 y3 y4) (spec_cySpread.l0 (k + 1) y0 y1 y2 y3 y4))
 | 0 => fun _ _ _ _ _ r h => by simp [spec_cySpread.l0] at h
 | k + 1 => by
  have ih0 := spec_cySpread.mono_l k
  ·intro y0 y1 y2 y3 y4
   unfold spec_cySpread.l0
   repeat' first
   | (with_reducible exact ih0 _ _ _ _ _)
   | (with_reducible exact LeO.refl _)
   | (with_reducible exact LeO.none _)
   | (with_reducible refine LeO.ite ?_ ?_)
   | (with_reducible refine LeO.bind ?_ (fun _ => ?_))
   | exact ih0 _ _ _ _ _
   | exact LeO.none _
   | refine LeO.ite ?_ ?_
   | refine LeO.bind ?_ (fun _ => ?_)
theorem spec_cySpread.mono : ∀ a0 k,LeO (spec_cySpread.f k a0) (spec_cySpread.f (k + 1) a0) := by
 intro a0 k
 have ih0 := spec_cySpread.mono_l k
 unfold spec_cySpread.f
 repeat' first
   | (with_reducible exact ih0 _ _ _ _ _)
   | (with_reducible exact LeO.refl _)
   | (with_reducible exact LeO.none _)
   | (with_reducible refine LeO.ite ?_ ?_)
   | (with_reducible refine LeO.bind ?_ (fun _ => ?_))
   | exact ih0 _ _ _ _ _
   | exact LeO.none _
   | refine LeO.ite ?_ ?_
   | refine LeO.bind ?_ (fun _ => ?_)
set_option maxHeartbeats 8000000 in
set_option maxRecDepth 100000 in
theorem spec_cySpread.calls (k : Nat) (A0 : Option Addr) (c0 : Nat) (l0 : List Int) (r : Int) (w : World) (hr0 : Kd.C (Kd.int .i64) w A0 l0.length l0) (hc0 : l0.length ≤ c0) (h : spec_cySpread.f k l0 = some r) :
  Calls Try.prog 67 #[.slice A0 l0.length c0] w fun e w' => e = .returned (.int .i64 r) ∧ Drawn0 w w' := by
 have HR0 := Aside0.mk hr0
 have HC0 := Aside0.mk hc0
 clear hr0 hc0
 have H : (if 0 < (l0.length : Int) then (spec_cySpread.l0 k (rd l0 0) (rd l0 0) l0 (l0.length : Int) 0) else (none)) = some r := h
 clear h
 by_cases c2 : 0 < (l0.length : Int)
 ·rw [if_pos c2] at H
  have c2b0 : decide (0 < (l0.length : Int)) = true := decide_eq_true c2
  have c2b1 : decide (0 < l0.length) = true := decide_eq_true (by omega)
  clear c2
  have H' := Aside0.mk H
  clear H
  have p489 : 0 ≤ (0 : Int) := (by omega)
  have q489 : 0 < (l0.length : Int) := of_decide_eq_true (by first | (with_reducible assumption) | assumption)
  obtain ⟨ad489,e489,hx489_0⟩ := Kd.at_int HR0.out 0 p489 q489
  cases e489
  have qi489 : (0 < l0.length) = True := eq_true (by omega)
  (try rw [show ((0 : Int)).toNat = 0 from rfl] at hx489_0)
  (try rw [Addr.add_zero'] at hx489_0)
  replace p489 := eq_true p489
  replace q489 := eq_true q489
  have p490 : 0 ≤ (0 : Int) := (by omega)
  have q490 : 0 < (l0.length : Int) := of_decide_eq_true (by first | (with_reducible assumption) | assumption)
  obtain ⟨ad490,e490,hx490_0⟩ := Kd.at_int HR0.out 0 p490 q490
  obtain rfl : ad489 = ad490 := (by injection e490)
  have qi490 : (0 < l0.length) = True := eq_true (by omega)
  (try rw [show ((0 : Int)).toNat = 0 from rfl] at hx490_0)
  (try rw [Addr.add_zero'] at hx490_0)
  replace p490 := eq_true p490
  replace q490 := eq_true q490
  go_enter Try.func67,Try.ntmps67
  go_wp2
  repeat (go_quiet (fail);try go_wp2)
  go_loopg [3,4,15] k (fun kq v3 v4 v15 w' => ∃ (x3_1 : Int) (x4_1 : Int) (x15_1 : Int),v3 = .int .i64 x3_1 ∧ v4 = .int .i64 x4_1 ∧ v15 = .int .i64 x15_1 ∧ Aside0 (spec_cySpread.l0 kq x3_1 x4_1 l0 (l0.length : Int) x15_1 = some r) ∧ Aside0 (kq ≤ k) ∧ Drawn0 w w')
  case atStart => exact ⟨(rd l0 0),(rd l0 0),(0),(by first | rfl | (simp;done) | (simp [*];done)),(by first | rfl | (simp;done) | (simp [*];done)),(by first | rfl | (simp;done) | (simp [*];done)),H',⟨Nat.le_refl _⟩,by repeat (first | exact Drawn0.refl _ | apply Drawn0.step)⟩
  case round =>
   clear H'
   try clear c2
   try clear c2b0
   try clear c2b1
   try clear p2
   try clear hx489_0
   try clear hx490_0
   try clear p489
   try clear p490
   try clear q489
   try clear q490
   obtain ⟨x3_1,x4_1,x15_1,rfl,rfl,rfl,HA,HK1,⟨m1,rfl⟩⟩ := hrel
   cases gk with
   | zero => exact absurd HA.out (by simp [spec_cySpread.l0])
   | succ k1 =>
    have H := HA.out
    clear HA
    simp only [spec_cySpread.l0] at H
    by_cases c3 : x15_1 < (l0.length : Int)
    ·rw [if_pos c3] at H
     have c3b0 : decide (x15_1 < (l0.length : Int)) = true := decide_eq_true c3
     clear c3
     by_cases c4 : 0 ≤ x15_1
     ·rw [if_pos c4] at H
      have c4b0 : decide (0 ≤ x15_1) = true := decide_eq_true c4
      clear c4
      by_cases c5 : x15_1 < (l0.length : Int)
      ·rw [if_pos c5] at H
       have c5b0 : decide (x15_1 < (l0.length : Int)) = true := decide_eq_true c5
       clear c5
       replace H := Option.bind_eq_some_iff.mp H
       obtain ⟨t492,A60,H⟩ := H
       replace H : ((spec_l1Most.f x4_1 (rd l0 x15_1)).bind fun t493 => (spec_cySpread.l0 k1 t492 t493 l0 (l0.length : Int) (wrap64 (x15_1 + 1)))) = some r := H
       have A6 := Aside0.mk A60
       clear A60
       replace H := Option.bind_eq_some_iff.mp H
       obtain ⟨t493,A70,H⟩ := H
       replace H : (spec_cySpread.l0 k1 t492 t493 l0 (l0.length : Int) (wrap64 (x15_1 + 1))) = some r := H
       have A7 := Aside0.mk A70
       clear A70
       have H' := Aside0.mk H
       clear H
       have p491 : 0 ≤ (x15_1 : Int) := of_decide_eq_true (by first | (with_reducible assumption) | assumption)
       have q491 : x15_1 < (l0.length : Int) := of_decide_eq_true (by first | (with_reducible assumption) | assumption)
       obtain ⟨ad491,e491,hx491_0⟩ := Kd.at_int HR0.out x15_1 p491 q491
       obtain rfl : ad489 = ad491 := (by injection e491)
       replace p491 := eq_true p491
       replace q491 := eq_true q491
       go_wp2_with (first | (go_at_call 78;(with_reducible refine (spec_l1Least.calls x3_1 (rd l0 x15_1) t492 _ A6.out).mono ?_);rintro e w' ⟨rfl,⟨nd,rfl⟩⟩;(try first | exact ⟨rfl,_,World.drewN_drewN _ _ _⟩ | exact ⟨rfl,_,Eq.trans (World.drewN_drewN _ _ _) (congrArg (World.drewN _) (Nat.add_assoc _ _ _))⟩)) | (go_at_call 79;(with_reducible refine (spec_l1Most.calls x4_1 (rd l0 x15_1) t493 _ A7.out).mono ?_);rintro e w' ⟨rfl,⟨nd,rfl⟩⟩;(try first | exact ⟨rfl,_,World.drewN_drewN _ _ _⟩ | exact ⟨rfl,_,Eq.trans (World.drewN_drewN _ _ _) (congrArg (World.drewN _) (Nat.add_assoc _ _ _))⟩)))
       repeat (go_quiet (first | (go_at_call 78;(with_reducible refine (spec_l1Least.calls x3_1 (rd l0 x15_1) t492 _ A6.out).mono ?_);rintro e w' ⟨rfl,⟨nd,rfl⟩⟩;(try first | exact ⟨rfl,_,World.drewN_drewN _ _ _⟩ | exact ⟨rfl,_,Eq.trans (World.drewN_drewN _ _ _) (congrArg (World.drewN _) (Nat.add_assoc _ _ _))⟩)) | (go_at_call 79;(with_reducible refine (spec_l1Most.calls x4_1 (rd l0 x15_1) t493 _ A7.out).mono ?_);rintro e w' ⟨rfl,⟨nd,rfl⟩⟩;(try first | exact ⟨rfl,_,World.drewN_drewN _ _ _⟩ | exact ⟨rfl,_,Eq.trans (World.drewN_drewN _ _ _) (congrArg (World.drewN _) (Nat.add_assoc _ _ _))⟩)));try go_wp2_with (first | (go_at_call 78;(with_reducible refine (spec_l1Least.calls x3_1 (rd l0 x15_1) t492 _ A6.out).mono ?_);rintro e w' ⟨rfl,⟨nd,rfl⟩⟩;(try first | exact ⟨rfl,_,World.drewN_drewN _ _ _⟩ | exact ⟨rfl,_,Eq.trans (World.drewN_drewN _ _ _) (congrArg (World.drewN _) (Nat.add_assoc _ _ _))⟩)) | (go_at_call 79;(with_reducible refine (spec_l1Most.calls x4_1 (rd l0 x15_1) t493 _ A7.out).mono ?_);rintro e w' ⟨rfl,⟨nd,rfl⟩⟩;(try first | exact ⟨rfl,_,World.drewN_drewN _ _ _⟩ | exact ⟨rfl,_,Eq.trans (World.drewN_drewN _ _ _) (congrArg (World.drewN _) (Nat.add_assoc _ _ _))⟩))))
       go_roundg k1
       case measure => have := HK1.out;omega
       case rel => exact ⟨(t492),(t493),(wrap64 (x15_1 + 1)),(by first | rfl | (simp;done) | (simp [*];done)),(by first | rfl | (simp;done) | (simp [*];done)),(by first | rfl | (simp;done) | (simp [*];done)),H',⟨by have := HK1.out;omega⟩,by repeat (first | exact Drawn0.refl _ | apply Drawn0.step)⟩
      ·rw [if_neg c5] at H
       exact absurd H (by simp)
     ·rw [if_neg c4] at H
      exact absurd H (by simp)
    ·rw [if_neg c3] at H
     have c3b0 : decide (x15_1 < (l0.length : Int)) = false := decide_eq_false c3
     clear c3
     obtain rfl := Option.some.inj H
     go_wp2
     repeat (go_quiet (fail);try go_wp2)
     go_ret
     exact ⟨by first | rfl | (simp;done) | (simp [*];done),by repeat (first | exact Drawn0.refl _ | apply Drawn0.step)⟩
 ·rw [if_neg c2] at H
  exact absurd H (by simp)

/-! ### spec_cuAlike: function 46 -/
mutual
def spec_cuAlike.l0 : Nat → Int → Int → List Int → Int → Option ((List (List Int)) × Bool)
 | 0,_,_,_,_ => none
 | k + 1,x1,x6,x495000,x495001 => if x6 ≤ x1 then ((spec_cuLists.f k (x495000.length : Int) x6).bind fun t495 => (spec_cuAlike.l1 k x1 x6 t495 (t495.length : Int) 0 x495000 x495001)) else (some (([] : List (List Int)),false))
def spec_cuAlike.l1 : Nat → Int → Int → List (List (List Int)) → Int → Int → List Int → Int → Option ((List (List Int)) × Bool)
 | 0,_,_,_,_,_,_,_ => none
 | k + 1,x1,x6,x20,x21,x22,x495000,x495001 => if x22 < x21 then (if 0 ≤ x22 then (if x22 < (x20.length : Int) then ((spec_cuPlay.f k x495000 x495001 (rd_L2 x20 x22)).bind fun bt499 => (if bt499.2.2 = true then ((spec_cySpread.f k bt499.1).bind fun t505 => (if t505 = 0 then (some (rd_L2 x20 x22,true)) else (spec_cuAlike.l1 k x1 x6 x20 x21 (wrap64 (x22 + 1)) x495000 x495001))) else (some (([] : List (List Int)),false)))) else (none)) else (none)) else (spec_cuAlike.l0 k x1 (wrap64 (x6 + 1)) x495000 x495001)
end
def spec_cuAlike.f (k : Nat) (l0_0 : List Int) (a0_1 : Int) (a1 : Int) : Option ((List (List Int)) × Bool) := spec_cuAlike.l0 k a1 0 l0_0 a0_1
theorem spec_cuAlike.mono_l : ∀ k,(∀ y0 y1 y2 y3,LeO (spec_cuAlike.l0 k y0 y1 y2 y3) (spec_cuAlike.l0 (k + 1) y0 y1 y2 y3)) ∧ (∀ y0 y1 y2 y3 y4 y5 y6,LeO (spec_cuAlike.l1 k y0 y1 y2 y3 y4 y5 y6) (spec_cuAlike.l1 (k + 1) y0 y1 y2 y3 y4 y5 y6))
 | 0 => ⟨fun _ _ _ _ r h => by simp [spec_cuAlike.l0] at h,fun _ _ _ _ _ _ _ r h => by simp [spec_cuAlike.l1] at h⟩
 | k + 1 => by
  obtain ⟨ih0,ih1⟩ := spec_cuAlike.mono_l k
  refine ⟨?_,?_⟩
  ·intro y0 y1 y2 y3
   unfold spec_cuAlike.l0
   repeat' first
   | (with_reducible exact ih0 _ _ _ _)
   | (with_reducible exact ih1 _ _ _ _ _ _ _)
   | (with_reducible exact spec_cuLists.mono _ _ _)
   | (with_reducible exact spec_cuPlay.mono _ _ _ _)
   | (with_reducible exact spec_cySpread.mono _ _)
   | (with_reducible exact LeO.refl _)
   | (with_reducible exact LeO.none _)
   | (with_reducible refine LeO.ite ?_ ?_)
   | (with_reducible refine LeO.bind ?_ (fun _ => ?_))
   | exact ih0 _ _ _ _
   | exact ih1 _ _ _ _ _ _ _
   | exact spec_cuLists.mono _ _ _
   | exact spec_cuPlay.mono _ _ _ _
   | exact spec_cySpread.mono _ _
   | exact LeO.none _
   | refine LeO.ite ?_ ?_
   | refine LeO.bind ?_ (fun _ => ?_)
  ·intro y0 y1 y2 y3 y4 y5 y6
   unfold spec_cuAlike.l1
   repeat' first
   | (with_reducible exact ih0 _ _ _ _)
   | (with_reducible exact ih1 _ _ _ _ _ _ _)
   | (with_reducible exact spec_cuLists.mono _ _ _)
   | (with_reducible exact spec_cuPlay.mono _ _ _ _)
   | (with_reducible exact spec_cySpread.mono _ _)
   | (with_reducible exact LeO.refl _)
   | (with_reducible exact LeO.none _)
   | (with_reducible refine LeO.ite ?_ ?_)
   | (with_reducible refine LeO.bind ?_ (fun _ => ?_))
   | exact ih0 _ _ _ _
   | exact ih1 _ _ _ _ _ _ _
   | exact spec_cuLists.mono _ _ _
   | exact spec_cuPlay.mono _ _ _ _
   | exact spec_cySpread.mono _ _
   | exact LeO.none _
   | refine LeO.ite ?_ ?_
   | refine LeO.bind ?_ (fun _ => ?_)
theorem spec_cuAlike.mono : ∀ a0 a1 a2 k,LeO (spec_cuAlike.f k a0 a1 a2) (spec_cuAlike.f (k + 1) a0 a1 a2) := by
 intro a0 a1 a2 k
 obtain ⟨ih0,ih1⟩ := spec_cuAlike.mono_l k
 unfold spec_cuAlike.f
 repeat' first
   | (with_reducible exact ih0 _ _ _ _)
   | (with_reducible exact ih1 _ _ _ _ _ _ _)
   | (with_reducible exact spec_cuLists.mono _ _ _)
   | (with_reducible exact spec_cuPlay.mono _ _ _ _)
   | (with_reducible exact spec_cySpread.mono _ _)
   | (with_reducible exact LeO.refl _)
   | (with_reducible exact LeO.none _)
   | (with_reducible refine LeO.ite ?_ ?_)
   | (with_reducible refine LeO.bind ?_ (fun _ => ?_))
   | exact ih0 _ _ _ _
   | exact ih1 _ _ _ _ _ _ _
   | exact spec_cuLists.mono _ _ _
   | exact spec_cuPlay.mono _ _ _ _
   | exact spec_cySpread.mono _ _
   | exact LeO.none _
   | refine LeO.ite ?_ ?_
   | refine LeO.bind ?_ (fun _ => ?_)
set_option maxHeartbeats 8000000 in
set_option maxRecDepth 100000 in
theorem spec_cuAlike.calls (k : Nat) (A0_0 : Option Addr) (c0_0 : Nat) (l0_0 : List Int) (a0_1 : Int) (a1 : Int) (r1 : List (List Int)) (r2 : Bool) (w : World) (hr0_0 : Kd.C (Kd.int .i64) w A0_0 l0_0.length l0_0) (hc0_0 : l0_0.length ≤ c0_0) (h : spec_cuAlike.f k l0_0 a0_1 a1 = some (r1,r2)) :
  Calls Try.prog 46 #[.agg #[.slice A0_0 l0_0.length c0_0, .int .i64 a0_1], .int .i64 a1] w fun e w' => ∃ v0_ : Value,e = .returned (.tuple #[v0_, .bool r2]) ∧ Kd.R (Kd.slice 3 (Kd.int .i64)) 22 w' w.heap.size (fun _ => True) v0_ r1 ∧ Below w.heap.size w w' := by
 have hu29 := Try.underlying29
 have HR0_0 := Aside0.mk hr0_0
 have HC0_0 := Aside0.mk hc0_0
 clear hr0_0 hc0_0
 have HB := Aside0.mk (Below.refl w.heap.size w)
 have H : (spec_cuAlike.l0 k a1 0 l0_0 a0_1) = some (r1,r2) := h
 clear h
 have H' := Aside0.mk H
 clear H
 go_enter Try.func46,Try.ntmps46
 go_wp2_with (first | ((with_reducible refine gate_dst (N := 2) rfl ?_);refine box_event ?hg (N := 2) ?hd (cs := #[.slice A0_0 l0_0.length c0_0, .int .i64 a0_1]) (t := 29) ?hr ?_;(case hd => rfl);(case hg => rfl);(case hr => first | (go_simp;done) | (go_simp;rfl));intro gb494 hg w3 hbox hb;have n0_ := Aside0.mk (below_step (by repeat (first | (with_reducible first | exact HB.out | apply below_alloc | apply pw_below_drewN | apply below_drew1) | exact HB.out)) hb);have n1_ := Aside0.mk (hbox);have n2_ := Aside0.mk ((by rw [hg];exact (below_size (by repeat (first | (with_reducible first | exact HB.out | apply below_alloc | apply pw_below_drewN | apply below_drew1) | exact HB.out))) : w.heap.size ≤ gb494));have n3_ := Aside0.mk ((by rw [hg];exact (below_size (by repeat (first | (with_reducible first | exact HB.out | apply below_alloc | apply pw_below_drewN | apply below_drew1) | exact HB.out))) : w.heap.size ≤ gb494));clear HB;have HB := n0_;have BK494 := n1_;have GW494 := n2_;have GE494 := n3_;clear n0_ n1_ n2_ n3_;clear hb hbox hg))
 go_loopg [6] k (fun kq v6 w' => ∃ (x6_1 : Int),v6 = .int .i64 x6_1 ∧ Aside0 (spec_cuAlike.l0 kq a1 x6_1 l0_0 a0_1 = some (r1,r2)) ∧ Aside0 (kq ≤ k) ∧ Aside0 (w'.heap[gb494]? = some (.cells #[(.slice A0_0 l0_0.length c0_0), .int .i64 a0_1] 29 (0,0))) ∧ Aside0 (Below w.heap.size w w'))
 case atStart => exact ⟨(0),(by first | rfl | (simp;done) | (simp [*];done)),H',⟨Nat.le_refl _⟩,⟨by (with_reducible repeat (first | refine blk_drewN ?_ _ | refine blk_drew ?_ | refine blk_alloc ?_ _));exact BK494.out⟩,⟨by repeat (first | (with_reducible first | exact HB.out | apply below_alloc | apply pw_below_drewN | apply below_drew1 | refine below_set ?_ GE494.out) | exact HB.out)⟩⟩
 case round =>
  clear H'
  try clear p2
  obtain ⟨x6_1,rfl,HA,HK1,BK494,HB⟩ := hrel
  cases gk with
  | zero => exact absurd HA.out (by simp [spec_cuAlike.l0])
  | succ k1 =>
   have H := HA.out
   clear HA
   simp only [spec_cuAlike.l0] at H
   by_cases c4 : x6_1 ≤ a1
   ·rw [if_pos c4] at H
    have c4b0 : decide (x6_1 ≤ a1) = true := decide_eq_true c4
    clear c4
    replace H := Option.bind_eq_some_iff.mp H
    obtain ⟨t495,A50,H⟩ := H
    replace H : (spec_cuAlike.l1 k1 a1 x6_1 t495 (t495.length : Int) 0 l0_0 a0_1) = some (r1,r2) := H
    have A5 := Aside0.mk A50
    clear A50
    have H' := Aside0.mk H
    clear H
    have hcz6_0 : wr.cell? ⟨gb494,0,none⟩ = some (.slice A0_0 l0_0.length c0_0) := (blk_cell BK494.out 0).trans rfl
    have hcz6_1 : wr.cell? ⟨gb494,1,none⟩ = some (.int .i64 a0_1) := (blk_cell BK494.out 1).trans rfl
    have hfz6_0 := blk_frozen BK494.out 0
    have hfz6_1 := blk_frozen BK494.out 1
    go_wp2_with (first | ((with_reducible refine gate_callee (f := 66) rfl ?_);refine goesL_ (some 20) rfl rfl Try.func66 (by kernel_rfl) rfl #[.int .i64 (l0_0.length : Int), .int .i64 x6_1] rfl (by (try simp only [List.map_toArray,List.map_cons,List.map_nil]);first | done | rfl | (simp only [List.length_drop,List.length_take];rfl)) ?_;(with_reducible refine (spec_cuLists.calls k1 (l0_0.length : Int) x6_1 t495 _ A5.out).mono ?_);rintro e w7 ⟨v496,rfl,ho0,hb⟩;refine ⟨_,rfl,?_⟩;have n0_ := Aside0.mk (Kd.R_lower ho0 (below_size (by repeat (first | (with_reducible first | exact HB.out | apply below_alloc | apply pw_below_drewN | apply below_drew1 | refine below_set ?_ GE494.out) | exact HB.out))));have n1_ := Aside0.mk (blk_below (g := gb494) (o := .cells #[.slice A0_0 l0_0.length c0_0, .int .i64 a0_1] 29 (0,0)) (by (with_reducible repeat (first | refine blk_drewN ?_ _ | refine blk_drew ?_ | refine blk_alloc ?_ _));exact BK494.out) hb);have n2_ := Aside0.mk (below_step (by repeat (first | (with_reducible first | exact HB.out | apply below_alloc | apply pw_below_drewN | apply below_drew1 | refine below_set ?_ GE494.out) | exact HB.out)) hb);clear BK494;clear HB;have HO497 := n0_;have BK494 := n1_;have HB := n2_;clear n0_ n1_ n2_;(try clear hb);(try clear hb2);(try clear hk);(try clear hi);(try clear ho0);obtain ⟨Ao8,co8,eo8⟩ := Kd.R_slice HO497.out;subst eo8))
    go_loopg [22] k1 (fun kq v22 w' => ∃ (x22_2 : Int),v22 = .int .i64 x22_2 ∧ Aside0 (spec_cuAlike.l1 kq a1 x6_1 t495 (t495.length : Int) x22_2 l0_0 a0_1 = some (r1,r2)) ∧ Aside0 (kq ≤ k1) ∧ Aside0 (Kd.R (Kd.slice 22 (Kd.slice 3 (Kd.int .i64))) 26 w' w.heap.size (fun _ => True) (.slice Ao8 t495.length co8) t495) ∧ Aside0 (w'.heap[gb494]? = some (.cells #[(.slice A0_0 l0_0.length c0_0), .int .i64 a0_1] 29 (0,0))) ∧ Aside0 (Below w.heap.size w w'))
    case atStart => exact ⟨(0),(by first | rfl | (simp;done) | (simp [*];done)),H',⟨Nat.le_refl _⟩,⟨by (with_reducible repeat (first | apply Kd.R_alloc | apply Kd.R_drewN | apply Kd.R_drew));exact HO497.out⟩,⟨by (with_reducible repeat (first | refine blk_drewN ?_ _ | refine blk_drew ?_ | refine blk_alloc ?_ _));exact BK494.out⟩,⟨by repeat (first | (with_reducible first | exact HB.out | apply below_alloc | apply pw_below_drewN | apply below_drew1 | refine below_set ?_ GE494.out) | exact HB.out)⟩⟩
    case round =>
     clear H'
     try clear p2
     try clear c4
     try clear c4b0
     try clear c6
     try clear hcz6_0
     try clear hcz6_1
     try clear hfz6_0
     try clear hfz6_1
     try clear p2
     obtain ⟨x22_2,rfl,HA,HK2,HO_20,BK494,HB⟩ := hrel
     cases gk with
     | zero => exact absurd HA.out (by simp [spec_cuAlike.l1])
     | succ k2 =>
      have H := HA.out
      clear HA
      simp only [spec_cuAlike.l1] at H
      by_cases c9 : x22_2 < (t495.length : Int)
      ·rw [if_pos c9] at H
       have c9b0 : decide (x22_2 < (t495.length : Int)) = true := decide_eq_true c9
       clear c9
       by_cases c10 : 0 ≤ x22_2
       ·rw [if_pos c10] at H
        have c10b0 : decide (0 ≤ x22_2) = true := decide_eq_true c10
        clear c10
        by_cases c11 : x22_2 < (t495.length : Int)
        ·rw [if_pos c11] at H
         have c11b0 : decide (x22_2 < (t495.length : Int)) = true := decide_eq_true c11
         clear c11
         replace H := Option.bind_eq_some_iff.mp H
         obtain ⟨⟨t499,t502,t503⟩,A120,H⟩ := H
         replace H : (if t503 = true then ((spec_cySpread.f k2 t499).bind fun t505 => (if t505 = 0 then (some (rd_L2 t495 x22_2,true)) else (spec_cuAlike.l1 k2 a1 x6_1 t495 (t495.length : Int) (wrap64 (x22_2 + 1)) l0_0 a0_1))) else (some (([] : List (List Int)),false))) = some (r1,r2) := H
         have A12 := Aside0.mk A120
         clear A120
         by_cases c13 : t503 = true
         ·subst c13
          have H1 : ((spec_cySpread.f k2 t499).bind fun t505 => (if t505 = 0 then (some (rd_L2 t495 x22_2,true)) else (spec_cuAlike.l1 k2 a1 x6_1 t495 (t495.length : Int) (wrap64 (x22_2 + 1)) l0_0 a0_1))) = some (r1,r2) := by rw [if_pos rfl] at H;exact H
          clear H
          have H := H1
          clear H1
          replace H := Option.bind_eq_some_iff.mp H
          obtain ⟨t505,A140,H⟩ := H
          replace H : (if t505 = 0 then (some (rd_L2 t495 x22_2,true)) else (spec_cuAlike.l1 k2 a1 x6_1 t495 (t495.length : Int) (wrap64 (x22_2 + 1)) l0_0 a0_1)) = some (r1,r2) := H
          have A14 := Aside0.mk A140
          clear A140
          by_cases c15 : t505 = 0
          ·rw [if_pos c15] at H
           have c15b0 : (t505 == 0) = true := beq_iff_eq.mpr c15
           have c15b1 : (t505 != 0) = false := bne_eq_false_iff_eq.mpr c15
           clear c15
           simp only [Option.some.injEq,Prod.mk.injEq] at H
           obtain ⟨rfl,rfl⟩ := H
           have p498 : 0 ≤ (x22_2 : Int) := of_decide_eq_true (by first | (with_reducible assumption) | assumption)
           have q498 : x22_2 < (t495.length : Int) := of_decide_eq_true (by first | (with_reducible assumption) | assumption)
           obtain ⟨ad498,A498_0,c498_0,e498,hx498_0,hl498_0,hi498_0⟩ := at_L2 (Kd.R_reads' HO_20.out).2.2 x22_2 p498 q498
           cases e498
           obtain ⟨ce498,hce498,hMe498,hcc498⟩ := Kd.R_get HO_20.out [] x22_2 p498 (by first | exact q498 | exact of_decide_eq_true (by first | (with_reducible assumption) | assumption) | (have e_ := (Kd.R_reads' HO_20.out).1;omega))
           obtain ⟨ve498_0,rfl,ge498_0⟩ := hMe498
           have hv498_0 := hcc498 0 _ rfl
           rw [Nat.add_zero,show ((Kd.slice 22 (Kd.slice 3 (Kd.int .i64)))).sz = 1 from rfl,Nat.mul_one] at hv498_0
           replace hv498_0 := Option.some.inj (hv498_0.symm.trans hx498_0)
           rw [hv498_0] at ge498_0
           have HL498_0 := Aside0.mk (show Kd.R (Kd.slice 3 (Kd.int .i64)) 22 _ _ _ _ (rd_L2 t495 x22_2) from ge498_0)
           clear hv498_0 ge498_0
           clear hcc498 hce498
           have HR498_0 := Aside0.mk hi498_0
           have HC498_0 := Aside0.mk hl498_0
           clear hi498_0 hl498_0
           replace p498 := eq_true p498
           replace q498 := eq_true q498
           have hcz16_0 : wr.cell? ⟨gb494,0,none⟩ = some (.slice A0_0 l0_0.length c0_0) := (blk_cell BK494.out 0).trans rfl
           have hcz16_1 : wr.cell? ⟨gb494,1,none⟩ = some (.int .i64 a0_1) := (blk_cell BK494.out 1).trans rfl
           have hfz16_0 := blk_frozen BK494.out 0
           have hfz16_1 := blk_frozen BK494.out 1
           go_wp2_with (first | ((with_reducible refine gate_callee (f := 39) rfl ?_);refine goesL_ (some 29) rfl rfl Try.func39 (by kernel_rfl) rfl #[.agg #[.slice A0_0 l0_0.length c0_0, .int .i64 a0_1], .slice A498_0 (rd_L2 t495 x22_2).length c498_0] rfl (by (try simp only [List.map_toArray,List.map_cons,List.map_nil]);first | done | rfl | (simp only [List.length_drop,List.length_take];rfl)) ?_;(with_reducible refine (spec_cuPlay.calls k2 _ _ l0_0 a0_1 _ _ (rd_L2 t495 x22_2) t499 t502 true _ ?side1 ?side2 ?side3 ?side4 A12.out).mono ?_);(case side1 => repeat (first | exact (Kd.C_below HR0_0.out HB.out) | (with_reducible refine Kd.C_alloc ?_ _) | (with_reducible refine Kd.C_drewN ?_ _) | (with_reducible refine Kd.C_drew ?_)));(case side2 => exact HC0_0.out);(case side3 => repeat (first | exact (by repeat (first | (with_reducible exact HR498_0.out) | (with_reducible refine Kd.C_alloc ?_ _) | (with_reducible refine Kd.C_drewN ?_ _) | (with_reducible refine Kd.C_drew ?_) | exact HR498_0.out)) | (with_reducible refine Kd.C_alloc ?_ _) | (with_reducible refine Kd.C_drewN ?_ _) | (with_reducible refine Kd.C_drew ?_)));(case side4 => exact HC498_0.out);rintro e w17 ⟨v500,rfl,ho0,hb⟩;refine ⟨_,rfl,?_⟩;have n0_ := Aside0.mk (Kd.R_elder' (by (with_reducible repeat (first | apply Kd.R_alloc | apply Kd.R_drewN | apply Kd.R_drew));exact HO_20.out) (Kd.R_base ho0) hb);have n1_ := Aside0.mk (Kd.R_elder' (by (with_reducible repeat (first | apply Kd.R_alloc | apply Kd.R_drewN | apply Kd.R_drew));exact HL498_0.out) (Kd.R_base ho0) hb);have n2_ := Aside0.mk (Kd.R_lower ho0 (below_size (by repeat (first | (with_reducible first | exact HB.out | apply below_alloc | apply pw_below_drewN | apply below_drew1 | refine below_set ?_ GE494.out) | exact HB.out))));have n3_ := Aside0.mk (blk_below (g := gb494) (o := .cells #[.slice A0_0 l0_0.length c0_0, .int .i64 a0_1] 29 (0,0)) (by (with_reducible repeat (first | refine blk_drewN ?_ _ | refine blk_drew ?_ | refine blk_alloc ?_ _));exact BK494.out) hb);have n4_ := Aside0.mk (Kd.C_below (by repeat (first | (with_reducible exact HR498_0.out) | (with_reducible refine Kd.C_alloc ?_ _) | (with_reducible refine Kd.C_drewN ?_ _) | (with_reducible refine Kd.C_drew ?_) | exact HR498_0.out)) hb);have n5_ := Aside0.mk (below_step (by repeat (first | (with_reducible first | exact HB.out | apply below_alloc | apply pw_below_drewN | apply below_drew1 | refine below_set ?_ GE494.out) | exact HB.out)) hb);clear HO_20;clear HL498_0;clear BK494;clear HR498_0;clear HB;have HO_20 := n0_;have HL498_0 := n1_;have HO501 := n2_;have BK494 := n3_;have HR498_0 := n4_;have HB := n5_;clear n0_ n1_ n2_ n3_ n4_ n5_;(try clear hb);(try clear hb2);(try clear hk);(try clear hi);(try clear ho0)) | ((with_reducible refine gate_dst (N := 9) rfl ?_);refine box_event ?hg (N := 9) ?hd (cs := #[.slice none 0 0, .int .i64 0]) (t := 29) ?hr ?_;(case hd => rfl);(case hg => rfl);(case hr => first | (go_simp;done) | (go_simp;rfl));intro gb504 hg w18 hbox hb;have n0_ := Aside0.mk (Kd.R_below (by (with_reducible repeat (first | apply Kd.R_alloc | apply Kd.R_drewN | apply Kd.R_drew));exact HO_20.out) hb);have n1_ := Aside0.mk (Kd.R_below (by (with_reducible repeat (first | apply Kd.R_alloc | apply Kd.R_drewN | apply Kd.R_drew));exact HL498_0.out) hb);have n2_ := Aside0.mk (Kd.R_below (by (with_reducible repeat (first | apply Kd.R_alloc | apply Kd.R_drewN | apply Kd.R_drew));exact HO501.out) hb);have n3_ := Aside0.mk (blk_below (g := gb494) (o := .cells #[.slice A0_0 l0_0.length c0_0, .int .i64 a0_1] 29 (0,0)) (by (with_reducible repeat (first | refine blk_drewN ?_ _ | refine blk_drew ?_ | refine blk_alloc ?_ _));exact BK494.out) hb);have n4_ := Aside0.mk (Kd.C_below (by repeat (first | (with_reducible exact HR498_0.out) | (with_reducible refine Kd.C_alloc ?_ _) | (with_reducible refine Kd.C_drewN ?_ _) | (with_reducible refine Kd.C_drew ?_) | exact HR498_0.out)) hb);have n5_ := Aside0.mk (below_step (by repeat (first | (with_reducible first | exact HB.out | apply below_alloc | apply pw_below_drewN | apply below_drew1 | refine below_set ?_ GE494.out) | exact HB.out)) hb);have n6_ := Aside0.mk (hbox);have n7_ := Aside0.mk ((by rw [hg];exact (below_size (by repeat (first | (with_reducible first | exact HB.out | apply below_alloc | apply pw_below_drewN | apply below_drew1 | refine below_set ?_ GE494.out) | exact HB.out))) : w.heap.size ≤ gb504));have n8_ := Aside0.mk ((by rw [hg];exact (below_size (by repeat (first | (with_reducible first | exact HB.out | apply below_alloc | apply pw_below_drewN | apply below_drew1 | refine below_set ?_ GE494.out) | exact HB.out))) : w.heap.size ≤ gb504));have n9_ := Aside0.mk ((by rw [hg];exact Nat.ne_of_lt (blk_lt (g := gb494) (o := .cells #[.slice A0_0 l0_0.length c0_0, .int .i64 a0_1] 29 (0,0)) (by (with_reducible repeat (first | refine blk_drewN ?_ _ | refine blk_drew ?_ | refine blk_alloc ?_ _));exact BK494.out)) : gb494 ≠ gb504));have n10_ := Aside0.mk ((by rw [hg];exact Nat.ne_of_gt (blk_lt (g := gb494) (o := .cells #[.slice A0_0 l0_0.length c0_0, .int .i64 a0_1] 29 (0,0)) (by (with_reducible repeat (first | refine blk_drewN ?_ _ | refine blk_drew ?_ | refine blk_alloc ?_ _));exact BK494.out)) : gb504 ≠ gb494));clear HO_20;clear HL498_0;clear HO501;clear BK494;clear HR498_0;clear HB;have HO_20 := n0_;have HL498_0 := n1_;have HO501 := n2_;have BK494 := n3_;have HR498_0 := n4_;have HB := n5_;have BK504 := n6_;have GW504 := n7_;have GE504 := n8_;have NB494_504 := n9_;have NB504_494 := n10_;clear n0_ n1_ n2_ n3_ n4_ n5_ n6_ n7_ n8_ n9_ n10_;clear hb hbox hg;obtain ⟨Ao19,co19,eo19⟩ := Kd.R_slice HO501.out;subst eo19;have hnb20 := NB504_494.out;have hnc20 := NB494_504.out;have hcz21_0 : w18.cell? ⟨gb504,0,none⟩ = some (.slice none 0 0) := (blk_cell BK504.out 0).trans rfl;have hcz21_1 : w18.cell? ⟨gb504,1,none⟩ = some (.int .i64 0) := (blk_cell BK504.out 1).trans rfl;have hfz21_0 := blk_frozen BK504.out 0;have hfz21_1 := blk_frozen BK504.out 1) | ((with_reducible refine gate_callee (f := 67) rfl ?_);refine goesL_ (some 36) rfl rfl Try.func67 (by kernel_rfl) rfl #[.slice Ao19 t499.length co19] rfl (by (try simp only [List.map_toArray,List.map_cons,List.map_nil]);first | done | rfl | (simp only [List.length_drop,List.length_take];rfl)) ?_;(with_reducible refine (spec_cySpread.calls k2 _ _ t499 t505 _ ?side1 ?side2 A14.out).mono ?_);(case side1 => refine (Kd.R_reads' (e := 3) (base := w.heap.size) (ok := fun k_ => True) (n := t499.length) (c := co19) ?_).2.2;exact (by (with_reducible repeat (first | apply Kd.R_alloc | apply Kd.R_drewN | apply Kd.R_drew));exact (Kd.R_mono (Kd.R_far (p := ⟨gb504,1,none⟩) (Kd.R_far (p := ⟨gb504,0,none⟩) (Kd.R_types HO501.out BK504.out (by decide)) (fun _ hk => hk.2) (.slice Ao19 t499.length co19)) (fun _ hk => hk.2) (.int .i64 t502)) (fun _ h_ => h_.1))));(case side2 => exact (Kd.R_reads' HO501.out).2.1);rintro e w' ⟨rfl,⟨nd,rfl⟩⟩;refine ⟨_,rfl,?_⟩))
           go_ret2
           exact ⟨_,by first | rfl | (simp [errW_none,errW_some] <;> rfl) | (simp [*,errW_none,errW_some] <;> rfl),by (with_reducible repeat (first | apply Kd.R_alloc | apply Kd.R_drewN | apply Kd.R_drew));exact Kd.R_mono (Kd.R_far (p := ⟨gb504,1,none⟩) (Kd.R_far (p := ⟨gb504,0,none⟩) (Kd.R_types HL498_0.out BK504.out (by decide)) (fun _ hk => hk.2) (.slice Ao19 t499.length co19)) (fun _ hk => hk.2) (.int .i64 t502)) (fun _ hk => trivial),by repeat (first | (with_reducible first | exact HB.out | apply below_alloc | apply pw_below_drewN | apply below_drew1 | refine below_set ?_ GE494.out | refine below_set ?_ GE504.out) | exact HB.out)⟩
          ·rw [if_neg c15] at H
           have c15b0 : (t505 == 0) = false := beq_eq_false_iff_ne.mpr c15
           have c15b1 : (t505 != 0) = true := bne_iff_ne.mpr c15
           have H' := Aside0.mk H
           clear H
           have p498 : 0 ≤ (x22_2 : Int) := of_decide_eq_true (by first | (with_reducible assumption) | assumption)
           have q498 : x22_2 < (t495.length : Int) := of_decide_eq_true (by first | (with_reducible assumption) | assumption)
           obtain ⟨ad498,A498_0,c498_0,e498,hx498_0,hl498_0,hi498_0⟩ := at_L2 (Kd.R_reads' HO_20.out).2.2 x22_2 p498 q498
           cases e498
           obtain ⟨ce498,hce498,hMe498,hcc498⟩ := Kd.R_get HO_20.out [] x22_2 p498 (by first | exact q498 | exact of_decide_eq_true (by first | (with_reducible assumption) | assumption) | (have e_ := (Kd.R_reads' HO_20.out).1;omega))
           obtain ⟨ve498_0,rfl,ge498_0⟩ := hMe498
           have hv498_0 := hcc498 0 _ rfl
           rw [Nat.add_zero,show ((Kd.slice 22 (Kd.slice 3 (Kd.int .i64)))).sz = 1 from rfl,Nat.mul_one] at hv498_0
           replace hv498_0 := Option.some.inj (hv498_0.symm.trans hx498_0)
           rw [hv498_0] at ge498_0
           have HL498_0 := Aside0.mk (show Kd.R (Kd.slice 3 (Kd.int .i64)) 22 _ _ _ _ (rd_L2 t495 x22_2) from ge498_0)
           clear hv498_0 ge498_0
           clear hcc498 hce498
           have HR498_0 := Aside0.mk hi498_0
           have HC498_0 := Aside0.mk hl498_0
           clear hi498_0 hl498_0
           replace p498 := eq_true p498
           replace q498 := eq_true q498
           have hcz22_0 : wr.cell? ⟨gb494,0,none⟩ = some (.slice A0_0 l0_0.length c0_0) := (blk_cell BK494.out 0).trans rfl
           have hcz22_1 : wr.cell? ⟨gb494,1,none⟩ = some (.int .i64 a0_1) := (blk_cell BK494.out 1).trans rfl
           have hfz22_0 := blk_frozen BK494.out 0
           have hfz22_1 := blk_frozen BK494.out 1
           go_wp2_with (first | ((with_reducible refine gate_callee (f := 39) rfl ?_);refine goesL_ (some 29) rfl rfl Try.func39 (by kernel_rfl) rfl #[.agg #[.slice A0_0 l0_0.length c0_0, .int .i64 a0_1], .slice A498_0 (rd_L2 t495 x22_2).length c498_0] rfl (by (try simp only [List.map_toArray,List.map_cons,List.map_nil]);first | done | rfl | (simp only [List.length_drop,List.length_take];rfl)) ?_;(with_reducible refine (spec_cuPlay.calls k2 _ _ l0_0 a0_1 _ _ (rd_L2 t495 x22_2) t499 t502 true _ ?side1 ?side2 ?side3 ?side4 A12.out).mono ?_);(case side1 => repeat (first | exact (Kd.C_below HR0_0.out HB.out) | (with_reducible refine Kd.C_alloc ?_ _) | (with_reducible refine Kd.C_drewN ?_ _) | (with_reducible refine Kd.C_drew ?_)));(case side2 => exact HC0_0.out);(case side3 => repeat (first | exact (by repeat (first | (with_reducible exact HR498_0.out) | (with_reducible refine Kd.C_alloc ?_ _) | (with_reducible refine Kd.C_drewN ?_ _) | (with_reducible refine Kd.C_drew ?_) | exact HR498_0.out)) | (with_reducible refine Kd.C_alloc ?_ _) | (with_reducible refine Kd.C_drewN ?_ _) | (with_reducible refine Kd.C_drew ?_)));(case side4 => exact HC498_0.out);rintro e w23 ⟨v500,rfl,ho0,hb⟩;refine ⟨_,rfl,?_⟩;have n0_ := Aside0.mk (Kd.R_elder' (by (with_reducible repeat (first | apply Kd.R_alloc | apply Kd.R_drewN | apply Kd.R_drew));exact HO_20.out) (Kd.R_base ho0) hb);have n1_ := Aside0.mk (Kd.R_elder' (by (with_reducible repeat (first | apply Kd.R_alloc | apply Kd.R_drewN | apply Kd.R_drew));exact HL498_0.out) (Kd.R_base ho0) hb);have n2_ := Aside0.mk (Kd.R_lower ho0 (below_size (by repeat (first | (with_reducible first | exact HB.out | apply below_alloc | apply pw_below_drewN | apply below_drew1 | refine below_set ?_ GE494.out) | exact HB.out))));have n3_ := Aside0.mk (blk_below (g := gb494) (o := .cells #[.slice A0_0 l0_0.length c0_0, .int .i64 a0_1] 29 (0,0)) (by (with_reducible repeat (first | refine blk_drewN ?_ _ | refine blk_drew ?_ | refine blk_alloc ?_ _));exact BK494.out) hb);have n4_ := Aside0.mk (Kd.C_below (by repeat (first | (with_reducible exact HR498_0.out) | (with_reducible refine Kd.C_alloc ?_ _) | (with_reducible refine Kd.C_drewN ?_ _) | (with_reducible refine Kd.C_drew ?_) | exact HR498_0.out)) hb);have n5_ := Aside0.mk (below_step (by repeat (first | (with_reducible first | exact HB.out | apply below_alloc | apply pw_below_drewN | apply below_drew1 | refine below_set ?_ GE494.out) | exact HB.out)) hb);clear HO_20;clear HL498_0;clear BK494;clear HR498_0;clear HB;have HO_20 := n0_;have HL498_0 := n1_;have HO501 := n2_;have BK494 := n3_;have HR498_0 := n4_;have HB := n5_;clear n0_ n1_ n2_ n3_ n4_ n5_;(try clear hb);(try clear hb2);(try clear hk);(try clear hi);(try clear ho0)) | ((with_reducible refine gate_dst (N := 9) rfl ?_);refine box_event ?hg (N := 9) ?hd (cs := #[.slice none 0 0, .int .i64 0]) (t := 29) ?hr ?_;(case hd => rfl);(case hg => rfl);(case hr => first | (go_simp;done) | (go_simp;rfl));intro gb504 hg w24 hbox hb;have n0_ := Aside0.mk (Kd.R_below (by (with_reducible repeat (first | apply Kd.R_alloc | apply Kd.R_drewN | apply Kd.R_drew));exact HO_20.out) hb);have n1_ := Aside0.mk (Kd.R_below (by (with_reducible repeat (first | apply Kd.R_alloc | apply Kd.R_drewN | apply Kd.R_drew));exact HL498_0.out) hb);have n2_ := Aside0.mk (Kd.R_below (by (with_reducible repeat (first | apply Kd.R_alloc | apply Kd.R_drewN | apply Kd.R_drew));exact HO501.out) hb);have n3_ := Aside0.mk (blk_below (g := gb494) (o := .cells #[.slice A0_0 l0_0.length c0_0, .int .i64 a0_1] 29 (0,0)) (by (with_reducible repeat (first | refine blk_drewN ?_ _ | refine blk_drew ?_ | refine blk_alloc ?_ _));exact BK494.out) hb);have n4_ := Aside0.mk (Kd.C_below (by repeat (first | (with_reducible exact HR498_0.out) | (with_reducible refine Kd.C_alloc ?_ _) | (with_reducible refine Kd.C_drewN ?_ _) | (with_reducible refine Kd.C_drew ?_) | exact HR498_0.out)) hb);have n5_ := Aside0.mk (below_step (by repeat (first | (with_reducible first | exact HB.out | apply below_alloc | apply pw_below_drewN | apply below_drew1 | refine below_set ?_ GE494.out) | exact HB.out)) hb);have n6_ := Aside0.mk (hbox);have n7_ := Aside0.mk ((by rw [hg];exact (below_size (by repeat (first | (with_reducible first | exact HB.out | apply below_alloc | apply pw_below_drewN | apply below_drew1 | refine below_set ?_ GE494.out) | exact HB.out))) : w.heap.size ≤ gb504));have n8_ := Aside0.mk ((by rw [hg];exact (below_size (by repeat (first | (with_reducible first | exact HB.out | apply below_alloc | apply pw_below_drewN | apply below_drew1 | refine below_set ?_ GE494.out) | exact HB.out))) : w.heap.size ≤ gb504));have n9_ := Aside0.mk ((by rw [hg];exact Nat.ne_of_lt (blk_lt (g := gb494) (o := .cells #[.slice A0_0 l0_0.length c0_0, .int .i64 a0_1] 29 (0,0)) (by (with_reducible repeat (first | refine blk_drewN ?_ _ | refine blk_drew ?_ | refine blk_alloc ?_ _));exact BK494.out)) : gb494 ≠ gb504));have n10_ := Aside0.mk ((by rw [hg];exact Nat.ne_of_gt (blk_lt (g := gb494) (o := .cells #[.slice A0_0 l0_0.length c0_0, .int .i64 a0_1] 29 (0,0)) (by (with_reducible repeat (first | refine blk_drewN ?_ _ | refine blk_drew ?_ | refine blk_alloc ?_ _));exact BK494.out)) : gb504 ≠ gb494));clear HO_20;clear HL498_0;clear HO501;clear BK494;clear HR498_0;clear HB;have HO_20 := n0_;have HL498_0 := n1_;have HO501 := n2_;have BK494 := n3_;have HR498_0 := n4_;have HB := n5_;have BK504 := n6_;have GW504 := n7_;have GE504 := n8_;have NB494_504 := n9_;have NB504_494 := n10_;clear n0_ n1_ n2_ n3_ n4_ n5_ n6_ n7_ n8_ n9_ n10_;clear hb hbox hg;obtain ⟨Ao25,co25,eo25⟩ := Kd.R_slice HO501.out;subst eo25;have hnb26 := NB504_494.out;have hnc26 := NB494_504.out;have hcz27_0 : w24.cell? ⟨gb504,0,none⟩ = some (.slice none 0 0) := (blk_cell BK504.out 0).trans rfl;have hcz27_1 : w24.cell? ⟨gb504,1,none⟩ = some (.int .i64 0) := (blk_cell BK504.out 1).trans rfl;have hfz27_0 := blk_frozen BK504.out 0;have hfz27_1 := blk_frozen BK504.out 1) | ((with_reducible refine gate_callee (f := 67) rfl ?_);refine goesL_ (some 36) rfl rfl Try.func67 (by kernel_rfl) rfl #[.slice Ao25 t499.length co25] rfl (by (try simp only [List.map_toArray,List.map_cons,List.map_nil]);first | done | rfl | (simp only [List.length_drop,List.length_take];rfl)) ?_;(with_reducible refine (spec_cySpread.calls k2 _ _ t499 t505 _ ?side1 ?side2 A14.out).mono ?_);(case side1 => refine (Kd.R_reads' (e := 3) (base := w.heap.size) (ok := fun k_ => True) (n := t499.length) (c := co25) ?_).2.2;exact (by (with_reducible repeat (first | apply Kd.R_alloc | apply Kd.R_drewN | apply Kd.R_drew));exact (Kd.R_mono (Kd.R_far (p := ⟨gb504,1,none⟩) (Kd.R_far (p := ⟨gb504,0,none⟩) (Kd.R_types HO501.out BK504.out (by decide)) (fun _ hk => hk.2) (.slice Ao25 t499.length co25)) (fun _ hk => hk.2) (.int .i64 t502)) (fun _ h_ => h_.1))));(case side2 => exact (Kd.R_reads' HO501.out).2.1);rintro e w' ⟨rfl,⟨nd,rfl⟩⟩;refine ⟨_,rfl,?_⟩))
           go_roundg k2
           case measure => have := HK1.out;have := HK2.out;omega
           case rel => exact ⟨(wrap64 (x22_2 + 1)),(by first | rfl | (simp;done) | (simp [*];done)),H',⟨by have := HK1.out;have := HK2.out;omega⟩,⟨by (with_reducible repeat (first | apply Kd.R_alloc | apply Kd.R_drewN | apply Kd.R_drew));exact Kd.R_mono (Kd.R_far (p := ⟨gb504,1,none⟩) (Kd.R_far (p := ⟨gb504,0,none⟩) (Kd.R_types HO_20.out BK504.out (by decide)) (fun _ hk => hk.2) (.slice Ao25 t499.length co25)) (fun _ hk => hk.2) (.int .i64 t502)) (fun _ hk => trivial)⟩,⟨by (with_reducible repeat (first | refine blk_drewN ?_ _ | refine blk_drew ?_ | refine blk_alloc ?_ _));refine blk_far ?_ NB494_504.out _;(with_reducible repeat (first | refine blk_drewN ?_ _ | refine blk_drew ?_ | refine blk_alloc ?_ _));refine blk_far ?_ NB494_504.out _;(with_reducible repeat (first | refine blk_drewN ?_ _ | refine blk_drew ?_ | refine blk_alloc ?_ _));exact BK494.out⟩,⟨by repeat (first | (with_reducible first | exact HB.out | apply below_alloc | apply pw_below_drewN | apply below_drew1 | refine below_set ?_ GE494.out | refine below_set ?_ GE504.out) | exact HB.out)⟩⟩
         ·replace c13 := Bool.eq_false_iff.mpr c13
          subst c13
          have H1 : (some (([] : List (List Int)),false)) = some (r1,r2) := by rw [if_neg (show ¬ (false = true) by decide)] at H;exact H
          clear H
          have H := H1
          clear H1
          simp only [Option.some.injEq,Prod.mk.injEq] at H
          obtain ⟨rfl,rfl⟩ := H
          have p498 : 0 ≤ (x22_2 : Int) := of_decide_eq_true (by first | (with_reducible assumption) | assumption)
          have q498 : x22_2 < (t495.length : Int) := of_decide_eq_true (by first | (with_reducible assumption) | assumption)
          obtain ⟨ad498,A498_0,c498_0,e498,hx498_0,hl498_0,hi498_0⟩ := at_L2 (Kd.R_reads' HO_20.out).2.2 x22_2 p498 q498
          cases e498
          obtain ⟨ce498,hce498,hMe498,hcc498⟩ := Kd.R_get HO_20.out [] x22_2 p498 (by first | exact q498 | exact of_decide_eq_true (by first | (with_reducible assumption) | assumption) | (have e_ := (Kd.R_reads' HO_20.out).1;omega))
          obtain ⟨ve498_0,rfl,ge498_0⟩ := hMe498
          have hv498_0 := hcc498 0 _ rfl
          rw [Nat.add_zero,show ((Kd.slice 22 (Kd.slice 3 (Kd.int .i64)))).sz = 1 from rfl,Nat.mul_one] at hv498_0
          replace hv498_0 := Option.some.inj (hv498_0.symm.trans hx498_0)
          rw [hv498_0] at ge498_0
          have HL498_0 := Aside0.mk (show Kd.R (Kd.slice 3 (Kd.int .i64)) 22 _ _ _ _ (rd_L2 t495 x22_2) from ge498_0)
          clear hv498_0 ge498_0
          clear hcc498 hce498
          have HR498_0 := Aside0.mk hi498_0
          have HC498_0 := Aside0.mk hl498_0
          clear hi498_0 hl498_0
          replace p498 := eq_true p498
          replace q498 := eq_true q498
          have hcz28_0 : wr.cell? ⟨gb494,0,none⟩ = some (.slice A0_0 l0_0.length c0_0) := (blk_cell BK494.out 0).trans rfl
          have hcz28_1 : wr.cell? ⟨gb494,1,none⟩ = some (.int .i64 a0_1) := (blk_cell BK494.out 1).trans rfl
          have hfz28_0 := blk_frozen BK494.out 0
          have hfz28_1 := blk_frozen BK494.out 1
          go_wp2_with (first | ((with_reducible refine gate_callee (f := 39) rfl ?_);refine goesL_ (some 29) rfl rfl Try.func39 (by kernel_rfl) rfl #[.agg #[.slice A0_0 l0_0.length c0_0, .int .i64 a0_1], .slice A498_0 (rd_L2 t495 x22_2).length c498_0] rfl (by (try simp only [List.map_toArray,List.map_cons,List.map_nil]);first | done | rfl | (simp only [List.length_drop,List.length_take];rfl)) ?_;(with_reducible refine (spec_cuPlay.calls k2 _ _ l0_0 a0_1 _ _ (rd_L2 t495 x22_2) t499 t502 false _ ?side1 ?side2 ?side3 ?side4 A12.out).mono ?_);(case side1 => repeat (first | exact (Kd.C_below HR0_0.out HB.out) | (with_reducible refine Kd.C_alloc ?_ _) | (with_reducible refine Kd.C_drewN ?_ _) | (with_reducible refine Kd.C_drew ?_)));(case side2 => exact HC0_0.out);(case side3 => repeat (first | exact (by repeat (first | (with_reducible exact HR498_0.out) | (with_reducible refine Kd.C_alloc ?_ _) | (with_reducible refine Kd.C_drewN ?_ _) | (with_reducible refine Kd.C_drew ?_) | exact HR498_0.out)) | (with_reducible refine Kd.C_alloc ?_ _) | (with_reducible refine Kd.C_drewN ?_ _) | (with_reducible refine Kd.C_drew ?_)));(case side4 => exact HC498_0.out);rintro e w29 ⟨v500,rfl,ho0,hb⟩;refine ⟨_,rfl,?_⟩;have n0_ := Aside0.mk (Kd.R_elder' (by (with_reducible repeat (first | apply Kd.R_alloc | apply Kd.R_drewN | apply Kd.R_drew));exact HO_20.out) (Kd.R_base ho0) hb);have n1_ := Aside0.mk (Kd.R_elder' (by (with_reducible repeat (first | apply Kd.R_alloc | apply Kd.R_drewN | apply Kd.R_drew));exact HL498_0.out) (Kd.R_base ho0) hb);have n2_ := Aside0.mk (Kd.R_lower ho0 (below_size (by repeat (first | (with_reducible first | exact HB.out | apply below_alloc | apply pw_below_drewN | apply below_drew1 | refine below_set ?_ GE494.out) | exact HB.out))));have n3_ := Aside0.mk (blk_below (g := gb494) (o := .cells #[.slice A0_0 l0_0.length c0_0, .int .i64 a0_1] 29 (0,0)) (by (with_reducible repeat (first | refine blk_drewN ?_ _ | refine blk_drew ?_ | refine blk_alloc ?_ _));exact BK494.out) hb);have n4_ := Aside0.mk (Kd.C_below (by repeat (first | (with_reducible exact HR498_0.out) | (with_reducible refine Kd.C_alloc ?_ _) | (with_reducible refine Kd.C_drewN ?_ _) | (with_reducible refine Kd.C_drew ?_) | exact HR498_0.out)) hb);have n5_ := Aside0.mk (below_step (by repeat (first | (with_reducible first | exact HB.out | apply below_alloc | apply pw_below_drewN | apply below_drew1 | refine below_set ?_ GE494.out) | exact HB.out)) hb);clear HO_20;clear HL498_0;clear BK494;clear HR498_0;clear HB;have HO_20 := n0_;have HL498_0 := n1_;have HO501 := n2_;have BK494 := n3_;have HR498_0 := n4_;have HB := n5_;clear n0_ n1_ n2_ n3_ n4_ n5_;(try clear hb);(try clear hb2);(try clear hk);(try clear hi);(try clear ho0)) | ((with_reducible refine gate_dst (N := 9) rfl ?_);refine box_event ?hg (N := 9) ?hd (cs := #[.slice none 0 0, .int .i64 0]) (t := 29) ?hr ?_;(case hd => rfl);(case hg => rfl);(case hr => first | (go_simp;done) | (go_simp;rfl));intro gb504 hg w30 hbox hb;have n0_ := Aside0.mk (Kd.R_below (by (with_reducible repeat (first | apply Kd.R_alloc | apply Kd.R_drewN | apply Kd.R_drew));exact HO_20.out) hb);have n1_ := Aside0.mk (Kd.R_below (by (with_reducible repeat (first | apply Kd.R_alloc | apply Kd.R_drewN | apply Kd.R_drew));exact HL498_0.out) hb);have n2_ := Aside0.mk (Kd.R_below (by (with_reducible repeat (first | apply Kd.R_alloc | apply Kd.R_drewN | apply Kd.R_drew));exact HO501.out) hb);have n3_ := Aside0.mk (blk_below (g := gb494) (o := .cells #[.slice A0_0 l0_0.length c0_0, .int .i64 a0_1] 29 (0,0)) (by (with_reducible repeat (first | refine blk_drewN ?_ _ | refine blk_drew ?_ | refine blk_alloc ?_ _));exact BK494.out) hb);have n4_ := Aside0.mk (Kd.C_below (by repeat (first | (with_reducible exact HR498_0.out) | (with_reducible refine Kd.C_alloc ?_ _) | (with_reducible refine Kd.C_drewN ?_ _) | (with_reducible refine Kd.C_drew ?_) | exact HR498_0.out)) hb);have n5_ := Aside0.mk (below_step (by repeat (first | (with_reducible first | exact HB.out | apply below_alloc | apply pw_below_drewN | apply below_drew1 | refine below_set ?_ GE494.out) | exact HB.out)) hb);have n6_ := Aside0.mk (hbox);have n7_ := Aside0.mk ((by rw [hg];exact (below_size (by repeat (first | (with_reducible first | exact HB.out | apply below_alloc | apply pw_below_drewN | apply below_drew1 | refine below_set ?_ GE494.out) | exact HB.out))) : w.heap.size ≤ gb504));have n8_ := Aside0.mk ((by rw [hg];exact (below_size (by repeat (first | (with_reducible first | exact HB.out | apply below_alloc | apply pw_below_drewN | apply below_drew1 | refine below_set ?_ GE494.out) | exact HB.out))) : w.heap.size ≤ gb504));have n9_ := Aside0.mk ((by rw [hg];exact Nat.ne_of_lt (blk_lt (g := gb494) (o := .cells #[.slice A0_0 l0_0.length c0_0, .int .i64 a0_1] 29 (0,0)) (by (with_reducible repeat (first | refine blk_drewN ?_ _ | refine blk_drew ?_ | refine blk_alloc ?_ _));exact BK494.out)) : gb494 ≠ gb504));have n10_ := Aside0.mk ((by rw [hg];exact Nat.ne_of_gt (blk_lt (g := gb494) (o := .cells #[.slice A0_0 l0_0.length c0_0, .int .i64 a0_1] 29 (0,0)) (by (with_reducible repeat (first | refine blk_drewN ?_ _ | refine blk_drew ?_ | refine blk_alloc ?_ _));exact BK494.out)) : gb504 ≠ gb494));clear HO_20;clear HL498_0;clear HO501;clear BK494;clear HR498_0;clear HB;have HO_20 := n0_;have HL498_0 := n1_;have HO501 := n2_;have BK494 := n3_;have HR498_0 := n4_;have HB := n5_;have BK504 := n6_;have GW504 := n7_;have GE504 := n8_;have NB494_504 := n9_;have NB504_494 := n10_;clear n0_ n1_ n2_ n3_ n4_ n5_ n6_ n7_ n8_ n9_ n10_;clear hb hbox hg;obtain ⟨Ao31,co31,eo31⟩ := Kd.R_slice HO501.out;subst eo31;have hnb32 := NB504_494.out;have hnc32 := NB494_504.out;have hcz33_0 : w30.cell? ⟨gb504,0,none⟩ = some (.slice none 0 0) := (blk_cell BK504.out 0).trans rfl;have hcz33_1 : w30.cell? ⟨gb504,1,none⟩ = some (.int .i64 0) := (blk_cell BK504.out 1).trans rfl;have hfz33_0 := blk_frozen BK504.out 0;have hfz33_1 := blk_frozen BK504.out 1))
          go_ret2
          exact ⟨_,by first | rfl | (simp [errW_none,errW_some] <;> rfl) | (simp [*,errW_none,errW_some] <;> rfl),by first | exact Kd.R_nil _ _ _ _ _ | exact Kd.N_nil _ _ _ _ _ | exact Kd.V_nil _ _ _ _ _ | exact Kd.Q_nil _ _ _ _ _ | exact Kd.R_nil _ _ _ _ _,by repeat (first | (with_reducible first | exact HB.out | apply below_alloc | apply pw_below_drewN | apply below_drew1 | refine below_set ?_ GE494.out | refine below_set ?_ GE504.out) | exact HB.out)⟩
        ·rw [if_neg c11] at H
         exact absurd H (by simp)
       ·rw [if_neg c10] at H
        exact absurd H (by simp)
      ·rw [if_neg c9] at H
       have c9b0 : decide (x22_2 < (t495.length : Int)) = false := decide_eq_false c9
       clear c9
       have H' := Aside0.mk H
       clear H
       go_wp2
       go_roundg k2
       case measure => have := HK1.out;have := HK2.out;omega
       case rel => exact ⟨(wrap64 (x6_1 + 1)),(by first | rfl | (simp;done) | (simp [*];done)),H',⟨by have := HK1.out;have := HK2.out;omega⟩,⟨by (with_reducible repeat (first | refine blk_drewN ?_ _ | refine blk_drew ?_ | refine blk_alloc ?_ _));exact BK494.out⟩,⟨by repeat (first | (with_reducible first | exact HB.out | apply below_alloc | apply pw_below_drewN | apply below_drew1 | refine below_set ?_ GE494.out) | exact HB.out)⟩⟩
   ·rw [if_neg c4] at H
    have c4b0 : decide (x6_1 ≤ a1) = false := decide_eq_false c4
    clear c4
    simp only [Option.some.injEq,Prod.mk.injEq] at H
    obtain ⟨rfl,rfl⟩ := H
    go_wp2
    go_ret2
    exact ⟨_,by first | rfl | (simp [errW_none,errW_some] <;> rfl) | (simp [*,errW_none,errW_some] <;> rfl),by first | exact Kd.R_nil _ _ _ _ _ | exact Kd.N_nil _ _ _ _ _ | exact Kd.V_nil _ _ _ _ _ | exact Kd.Q_nil _ _ _ _ _ | exact Kd.R_nil _ _ _ _ _,by repeat (first | (with_reducible first | exact HB.out | apply below_alloc | apply pw_below_drewN | apply below_drew1 | refine below_set ?_ GE494.out) | exact HB.out)⟩

/-! ### spec_FewestToAlike: function 26 -/
def spec_FewestToAlike.f (k : Nat) (l0_0 : List Int) (a0_1 : Int) (a1 : Int) : Option (Int × Bool) := (spec_cuAsked.f k l0_0 a0_1 a1).bind fun t507 => (if t507 = true then ((spec_cuAlike.f k l0_0 a0_1 a1).bind fun bt508 => (if bt508.2 = true then (some ((bt508.1.length : Int),true)) else (some (0,false)))) else (some (0,false)))
theorem spec_FewestToAlike.mono : ∀ a0 a1 a2 k,LeO (spec_FewestToAlike.f k a0 a1 a2) (spec_FewestToAlike.f (k + 1) a0 a1 a2) := by
 intro a0 a1 a2 k
 unfold spec_FewestToAlike.f
 repeat' first
   | (with_reducible exact spec_cuAlike.mono _ _ _ _)
   | (with_reducible exact spec_cuAsked.mono _ _ _ _)
   | (with_reducible exact LeO.refl _)
   | (with_reducible exact LeO.none _)
   | (with_reducible refine LeO.ite ?_ ?_)
   | (with_reducible refine LeO.bind ?_ (fun _ => ?_))
   | exact spec_cuAlike.mono _ _ _ _
   | exact spec_cuAsked.mono _ _ _ _
   | exact LeO.none _
   | refine LeO.ite ?_ ?_
   | refine LeO.bind ?_ (fun _ => ?_)
set_option maxHeartbeats 8000000 in
set_option maxRecDepth 100000 in
theorem spec_FewestToAlike.calls (k : Nat) (A0_0 : Option Addr) (c0_0 : Nat) (l0_0 : List Int) (a0_1 : Int) (a1 : Int) (r1 : Int) (r2 : Bool) (w : World) (hr0_0 : Kd.C (Kd.int .i64) w A0_0 l0_0.length l0_0) (hc0_0 : l0_0.length ≤ c0_0) (h : spec_FewestToAlike.f k l0_0 a0_1 a1 = some (r1,r2)) :
  Calls Try.prog 26 #[.agg #[.slice A0_0 l0_0.length c0_0, .int .i64 a0_1], .int .i64 a1] w fun e w' => e = .returned (.tuple #[.int .i64 r1, .bool r2]) ∧ Below w.heap.size w w' := by
 have hu29 := Try.underlying29
 have HR0_0 := Aside0.mk hr0_0
 have HC0_0 := Aside0.mk hc0_0
 clear hr0_0 hc0_0
 have HB := Aside0.mk (Below.refl w.heap.size w)
 have H : ((spec_cuAsked.f k l0_0 a0_1 a1).bind fun t507 => (if t507 = true then ((spec_cuAlike.f k l0_0 a0_1 a1).bind fun bt508 => (if bt508.2 = true then (some ((bt508.1.length : Int),true)) else (some (0,false)))) else (some (0,false)))) = some (r1,r2) := h
 clear h
 replace H := Option.bind_eq_some_iff.mp H
 obtain ⟨t507,A30,H⟩ := H
 replace H : (if t507 = true then ((spec_cuAlike.f k l0_0 a0_1 a1).bind fun bt508 => (if bt508.2 = true then (some ((bt508.1.length : Int),true)) else (some (0,false)))) else (some (0,false))) = some (r1,r2) := H
 have A3 := Aside0.mk A30
 clear A30
 by_cases c4 : t507 = true
 ·subst c4
  have H1 : ((spec_cuAlike.f k l0_0 a0_1 a1).bind fun bt508 => (if bt508.2 = true then (some ((bt508.1.length : Int),true)) else (some (0,false)))) = some (r1,r2) := by rw [if_pos rfl] at H;exact H
  clear H
  have H := H1
  clear H1
  replace H := Option.bind_eq_some_iff.mp H
  obtain ⟨⟨t508,t511⟩,A50,H⟩ := H
  replace H : (if t511 = true then (some ((t508.length : Int),true)) else (some (0,false))) = some (r1,r2) := H
  have A5 := Aside0.mk A50
  clear A50
  by_cases c6 : t511 = true
  ·subst c6
   have H1 : (some ((t508.length : Int),true)) = some (r1,r2) := by rw [if_pos rfl] at H;exact H
   clear H
   have H := H1
   clear H1
   simp only [Option.some.injEq,Prod.mk.injEq] at H
   obtain ⟨rfl,rfl⟩ := H
   go_enter Try.func26,Try.ntmps26
   go_wp2_with (first | ((with_reducible refine gate_dst (N := 2) rfl ?_);refine box_event ?hg (N := 2) ?hd (cs := #[.slice A0_0 l0_0.length c0_0, .int .i64 a0_1]) (t := 29) ?hr ?_;(case hd => rfl);(case hg => rfl);(case hr => first | (go_simp;done) | (go_simp;rfl));intro gb506 hg w7 hbox hb;have n0_ := Aside0.mk (below_step (by repeat (first | (with_reducible first | exact HB.out | apply below_alloc | apply pw_below_drewN | apply below_drew1) | exact HB.out)) hb);have n1_ := Aside0.mk (hbox);have n2_ := Aside0.mk ((by rw [hg];exact (below_size (by repeat (first | (with_reducible first | exact HB.out | apply below_alloc | apply pw_below_drewN | apply below_drew1) | exact HB.out))) : w.heap.size ≤ gb506));have n3_ := Aside0.mk ((by rw [hg];exact (below_size (by repeat (first | (with_reducible first | exact HB.out | apply below_alloc | apply pw_below_drewN | apply below_drew1) | exact HB.out))) : w.heap.size ≤ gb506));clear HB;have HB := n0_;have BK506 := n1_;have GW506 := n2_;have GE506 := n3_;clear n0_ n1_ n2_ n3_;clear hb hbox hg;have hcz8_0 : w7.cell? ⟨gb506,0,none⟩ = some (.slice A0_0 l0_0.length c0_0) := (blk_cell BK506.out 0).trans rfl;have hcz8_1 : w7.cell? ⟨gb506,1,none⟩ = some (.int .i64 a0_1) := (blk_cell BK506.out 1).trans rfl;have hfz8_0 := blk_frozen BK506.out 0;have hfz8_1 := blk_frozen BK506.out 1) | ((with_reducible refine gate_callee (f := 45) rfl ?_);refine goesL_ (some 10) rfl rfl Try.func45 (by kernel_rfl) rfl #[.agg #[.slice A0_0 l0_0.length c0_0, .int .i64 a0_1], .int .i64 a1] rfl (by (try simp only [List.map_toArray,List.map_cons,List.map_nil]);first | done | rfl | (simp only [List.length_drop,List.length_take];rfl)) ?_;(with_reducible refine (spec_cuAsked.calls k _ _ l0_0 a0_1 a1 true _ ?side1 ?side2 A3.out).mono ?_);(case side1 => repeat (first | exact (Kd.C_below HR0_0.out HB.out) | (with_reducible refine Kd.C_alloc ?_ _) | (with_reducible refine Kd.C_drewN ?_ _) | (with_reducible refine Kd.C_drew ?_)));(case side2 => exact HC0_0.out);rintro e w9 ⟨rfl,hb⟩;refine ⟨_,rfl,?_⟩;have n0_ := Aside0.mk (blk_below (g := gb506) (o := .cells #[.slice A0_0 l0_0.length c0_0, .int .i64 a0_1] 29 (0,0)) (by (with_reducible repeat (first | refine blk_drewN ?_ _ | refine blk_drew ?_ | refine blk_alloc ?_ _));exact BK506.out) hb);have n1_ := Aside0.mk (below_step (by repeat (first | (with_reducible first | exact HB.out | apply below_alloc | apply pw_below_drewN | apply below_drew1 | refine below_set ?_ GE506.out) | exact HB.out)) hb);clear BK506;clear HB;have BK506 := n0_;have HB := n1_;clear n0_ n1_;(try clear hb);(try clear hb2);(try clear hk);(try clear hi);have hcz10_0 : w9.cell? ⟨gb506,0,none⟩ = some (.slice A0_0 l0_0.length c0_0) := (blk_cell BK506.out 0).trans rfl;have hcz10_1 : w9.cell? ⟨gb506,1,none⟩ = some (.int .i64 a0_1) := (blk_cell BK506.out 1).trans rfl;have hfz10_0 := blk_frozen BK506.out 0;have hfz10_1 := blk_frozen BK506.out 1) | ((with_reducible refine gate_callee (f := 46) rfl ?_);refine goesL_ (some 15) rfl rfl Try.func46 (by kernel_rfl) rfl #[.agg #[.slice A0_0 l0_0.length c0_0, .int .i64 a0_1], .int .i64 a1] rfl (by (try simp only [List.map_toArray,List.map_cons,List.map_nil]);first | done | rfl | (simp only [List.length_drop,List.length_take];rfl)) ?_;(with_reducible refine (spec_cuAlike.calls k _ _ l0_0 a0_1 a1 t508 true _ ?side1 ?side2 A5.out).mono ?_);(case side1 => repeat (first | exact (Kd.C_below HR0_0.out HB.out) | (with_reducible refine Kd.C_alloc ?_ _) | (with_reducible refine Kd.C_drewN ?_ _) | (with_reducible refine Kd.C_drew ?_)));(case side2 => exact HC0_0.out);rintro e w11 ⟨v509,rfl,ho0,hb⟩;refine ⟨_,rfl,?_⟩;have n0_ := Aside0.mk (Kd.R_lower ho0 (below_size (by repeat (first | (with_reducible first | exact HB.out | apply below_alloc | apply pw_below_drewN | apply below_drew1 | refine below_set ?_ GE506.out) | exact HB.out))));have n1_ := Aside0.mk (blk_below (g := gb506) (o := .cells #[.slice A0_0 l0_0.length c0_0, .int .i64 a0_1] 29 (0,0)) (by (with_reducible repeat (first | refine blk_drewN ?_ _ | refine blk_drew ?_ | refine blk_alloc ?_ _));exact BK506.out) hb);have n2_ := Aside0.mk (below_step (by repeat (first | (with_reducible first | exact HB.out | apply below_alloc | apply pw_below_drewN | apply below_drew1 | refine below_set ?_ GE506.out) | exact HB.out)) hb);clear BK506;clear HB;have HO510 := n0_;have BK506 := n1_;have HB := n2_;clear n0_ n1_ n2_;(try clear hb);(try clear hb2);(try clear hk);(try clear hi);(try clear ho0);obtain ⟨Ao12,co12,eo12⟩ := Kd.R_slice HO510.out;subst eo12))
   go_ret2
   exact ⟨by first | rfl | (simp [errW_none,errW_some] <;> rfl) | (simp [*,errW_none,errW_some] <;> rfl),by repeat (first | (with_reducible first | exact HB.out | apply below_alloc | apply pw_below_drewN | apply below_drew1 | refine below_set ?_ GE506.out) | exact HB.out)⟩
  ·replace c6 := Bool.eq_false_iff.mpr c6
   subst c6
   have H1 : (some (0,false)) = some (r1,r2) := by rw [if_neg (show ¬ (false = true) by decide)] at H;exact H
   clear H
   have H := H1
   clear H1
   simp only [Option.some.injEq,Prod.mk.injEq] at H
   obtain ⟨rfl,rfl⟩ := H
   go_enter Try.func26,Try.ntmps26
   go_wp2_with (first | ((with_reducible refine gate_dst (N := 2) rfl ?_);refine box_event ?hg (N := 2) ?hd (cs := #[.slice A0_0 l0_0.length c0_0, .int .i64 a0_1]) (t := 29) ?hr ?_;(case hd => rfl);(case hg => rfl);(case hr => first | (go_simp;done) | (go_simp;rfl));intro gb506 hg w13 hbox hb;have n0_ := Aside0.mk (below_step (by repeat (first | (with_reducible first | exact HB.out | apply below_alloc | apply pw_below_drewN | apply below_drew1) | exact HB.out)) hb);have n1_ := Aside0.mk (hbox);have n2_ := Aside0.mk ((by rw [hg];exact (below_size (by repeat (first | (with_reducible first | exact HB.out | apply below_alloc | apply pw_below_drewN | apply below_drew1) | exact HB.out))) : w.heap.size ≤ gb506));have n3_ := Aside0.mk ((by rw [hg];exact (below_size (by repeat (first | (with_reducible first | exact HB.out | apply below_alloc | apply pw_below_drewN | apply below_drew1) | exact HB.out))) : w.heap.size ≤ gb506));clear HB;have HB := n0_;have BK506 := n1_;have GW506 := n2_;have GE506 := n3_;clear n0_ n1_ n2_ n3_;clear hb hbox hg;have hcz14_0 : w13.cell? ⟨gb506,0,none⟩ = some (.slice A0_0 l0_0.length c0_0) := (blk_cell BK506.out 0).trans rfl;have hcz14_1 : w13.cell? ⟨gb506,1,none⟩ = some (.int .i64 a0_1) := (blk_cell BK506.out 1).trans rfl;have hfz14_0 := blk_frozen BK506.out 0;have hfz14_1 := blk_frozen BK506.out 1) | ((with_reducible refine gate_callee (f := 45) rfl ?_);refine goesL_ (some 10) rfl rfl Try.func45 (by kernel_rfl) rfl #[.agg #[.slice A0_0 l0_0.length c0_0, .int .i64 a0_1], .int .i64 a1] rfl (by (try simp only [List.map_toArray,List.map_cons,List.map_nil]);first | done | rfl | (simp only [List.length_drop,List.length_take];rfl)) ?_;(with_reducible refine (spec_cuAsked.calls k _ _ l0_0 a0_1 a1 true _ ?side1 ?side2 A3.out).mono ?_);(case side1 => repeat (first | exact (Kd.C_below HR0_0.out HB.out) | (with_reducible refine Kd.C_alloc ?_ _) | (with_reducible refine Kd.C_drewN ?_ _) | (with_reducible refine Kd.C_drew ?_)));(case side2 => exact HC0_0.out);rintro e w15 ⟨rfl,hb⟩;refine ⟨_,rfl,?_⟩;have n0_ := Aside0.mk (blk_below (g := gb506) (o := .cells #[.slice A0_0 l0_0.length c0_0, .int .i64 a0_1] 29 (0,0)) (by (with_reducible repeat (first | refine blk_drewN ?_ _ | refine blk_drew ?_ | refine blk_alloc ?_ _));exact BK506.out) hb);have n1_ := Aside0.mk (below_step (by repeat (first | (with_reducible first | exact HB.out | apply below_alloc | apply pw_below_drewN | apply below_drew1 | refine below_set ?_ GE506.out) | exact HB.out)) hb);clear BK506;clear HB;have BK506 := n0_;have HB := n1_;clear n0_ n1_;(try clear hb);(try clear hb2);(try clear hk);(try clear hi);have hcz16_0 : w15.cell? ⟨gb506,0,none⟩ = some (.slice A0_0 l0_0.length c0_0) := (blk_cell BK506.out 0).trans rfl;have hcz16_1 : w15.cell? ⟨gb506,1,none⟩ = some (.int .i64 a0_1) := (blk_cell BK506.out 1).trans rfl;have hfz16_0 := blk_frozen BK506.out 0;have hfz16_1 := blk_frozen BK506.out 1) | ((with_reducible refine gate_callee (f := 46) rfl ?_);refine goesL_ (some 15) rfl rfl Try.func46 (by kernel_rfl) rfl #[.agg #[.slice A0_0 l0_0.length c0_0, .int .i64 a0_1], .int .i64 a1] rfl (by (try simp only [List.map_toArray,List.map_cons,List.map_nil]);first | done | rfl | (simp only [List.length_drop,List.length_take];rfl)) ?_;(with_reducible refine (spec_cuAlike.calls k _ _ l0_0 a0_1 a1 t508 false _ ?side1 ?side2 A5.out).mono ?_);(case side1 => repeat (first | exact (Kd.C_below HR0_0.out HB.out) | (with_reducible refine Kd.C_alloc ?_ _) | (with_reducible refine Kd.C_drewN ?_ _) | (with_reducible refine Kd.C_drew ?_)));(case side2 => exact HC0_0.out);rintro e w17 ⟨v509,rfl,ho0,hb⟩;refine ⟨_,rfl,?_⟩;have n0_ := Aside0.mk (Kd.R_lower ho0 (below_size (by repeat (first | (with_reducible first | exact HB.out | apply below_alloc | apply pw_below_drewN | apply below_drew1 | refine below_set ?_ GE506.out) | exact HB.out))));have n1_ := Aside0.mk (blk_below (g := gb506) (o := .cells #[.slice A0_0 l0_0.length c0_0, .int .i64 a0_1] 29 (0,0)) (by (with_reducible repeat (first | refine blk_drewN ?_ _ | refine blk_drew ?_ | refine blk_alloc ?_ _));exact BK506.out) hb);have n2_ := Aside0.mk (below_step (by repeat (first | (with_reducible first | exact HB.out | apply below_alloc | apply pw_below_drewN | apply below_drew1 | refine below_set ?_ GE506.out) | exact HB.out)) hb);clear BK506;clear HB;have HO510 := n0_;have BK506 := n1_;have HB := n2_;clear n0_ n1_ n2_;(try clear hb);(try clear hb2);(try clear hk);(try clear hi);(try clear ho0)))
   go_ret2
   exact ⟨by first | rfl | (simp [errW_none,errW_some] <;> rfl) | (simp [*,errW_none,errW_some] <;> rfl),by repeat (first | (with_reducible first | exact HB.out | apply below_alloc | apply pw_below_drewN | apply below_drew1 | refine below_set ?_ GE506.out) | exact HB.out)⟩
 ·replace c4 := Bool.eq_false_iff.mpr c4
  subst c4
  have H1 : (some (0,false)) = some (r1,r2) := by rw [if_neg (show ¬ (false = true) by decide)] at H;exact H
  clear H
  have H := H1
  clear H1
  simp only [Option.some.injEq,Prod.mk.injEq] at H
  obtain ⟨rfl,rfl⟩ := H
  go_enter Try.func26,Try.ntmps26
  go_wp2_with (first | ((with_reducible refine gate_dst (N := 2) rfl ?_);refine box_event ?hg (N := 2) ?hd (cs := #[.slice A0_0 l0_0.length c0_0, .int .i64 a0_1]) (t := 29) ?hr ?_;(case hd => rfl);(case hg => rfl);(case hr => first | (go_simp;done) | (go_simp;rfl));intro gb506 hg w18 hbox hb;have n0_ := Aside0.mk (below_step (by repeat (first | (with_reducible first | exact HB.out | apply below_alloc | apply pw_below_drewN | apply below_drew1) | exact HB.out)) hb);have n1_ := Aside0.mk (hbox);have n2_ := Aside0.mk ((by rw [hg];exact (below_size (by repeat (first | (with_reducible first | exact HB.out | apply below_alloc | apply pw_below_drewN | apply below_drew1) | exact HB.out))) : w.heap.size ≤ gb506));have n3_ := Aside0.mk ((by rw [hg];exact (below_size (by repeat (first | (with_reducible first | exact HB.out | apply below_alloc | apply pw_below_drewN | apply below_drew1) | exact HB.out))) : w.heap.size ≤ gb506));clear HB;have HB := n0_;have BK506 := n1_;have GW506 := n2_;have GE506 := n3_;clear n0_ n1_ n2_ n3_;clear hb hbox hg;have hcz19_0 : w18.cell? ⟨gb506,0,none⟩ = some (.slice A0_0 l0_0.length c0_0) := (blk_cell BK506.out 0).trans rfl;have hcz19_1 : w18.cell? ⟨gb506,1,none⟩ = some (.int .i64 a0_1) := (blk_cell BK506.out 1).trans rfl;have hfz19_0 := blk_frozen BK506.out 0;have hfz19_1 := blk_frozen BK506.out 1) | ((with_reducible refine gate_callee (f := 45) rfl ?_);refine goesL_ (some 10) rfl rfl Try.func45 (by kernel_rfl) rfl #[.agg #[.slice A0_0 l0_0.length c0_0, .int .i64 a0_1], .int .i64 a1] rfl (by (try simp only [List.map_toArray,List.map_cons,List.map_nil]);first | done | rfl | (simp only [List.length_drop,List.length_take];rfl)) ?_;(with_reducible refine (spec_cuAsked.calls k _ _ l0_0 a0_1 a1 false _ ?side1 ?side2 A3.out).mono ?_);(case side1 => repeat (first | exact (Kd.C_below HR0_0.out HB.out) | (with_reducible refine Kd.C_alloc ?_ _) | (with_reducible refine Kd.C_drewN ?_ _) | (with_reducible refine Kd.C_drew ?_)));(case side2 => exact HC0_0.out);rintro e w20 ⟨rfl,hb⟩;refine ⟨_,rfl,?_⟩;have n0_ := Aside0.mk (blk_below (g := gb506) (o := .cells #[.slice A0_0 l0_0.length c0_0, .int .i64 a0_1] 29 (0,0)) (by (with_reducible repeat (first | refine blk_drewN ?_ _ | refine blk_drew ?_ | refine blk_alloc ?_ _));exact BK506.out) hb);have n1_ := Aside0.mk (below_step (by repeat (first | (with_reducible first | exact HB.out | apply below_alloc | apply pw_below_drewN | apply below_drew1 | refine below_set ?_ GE506.out) | exact HB.out)) hb);clear BK506;clear HB;have BK506 := n0_;have HB := n1_;clear n0_ n1_;(try clear hb);(try clear hb2);(try clear hk);(try clear hi)))
  go_ret2
  exact ⟨by first | rfl | (simp [errW_none,errW_some] <;> rfl) | (simp [*,errW_none,errW_some] <;> rfl),by repeat (first | (with_reducible first | exact HB.out | apply below_alloc | apply pw_below_drewN | apply below_drew1 | refine below_set ?_ GE506.out) | exact HB.out)⟩

end Go.Proofs.Ytmkpngmdikbbeaa.P
