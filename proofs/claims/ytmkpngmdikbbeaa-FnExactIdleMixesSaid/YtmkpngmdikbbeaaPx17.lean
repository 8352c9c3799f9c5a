/- Written by a program of this workplace (own_print.py, over the kit's print) for the functions that the statements reach, with contracts of its own. Lean checks it. -/
import Derived.Test.YtmkpngmdikbbeaaPx0
import Derived.Test.YtmkpngmdikbbeaaPx1
import Derived.Test.YtmkpngmdikbbeaaPx4
namespace Go.Proofs.Ytmkpngmdikbbeaa.P
open Go.RowKit Go.Proofs.YtmkpngmdikbbeaaW.PrintWords Go.Proofs.YtmkpngmdikbbeaaW.PrintLast Go.Proofs.YtmkpngmdikbbeaaW.PrintMore
attribute [local go_sem] max2_int min2_int max_two min_two max_three min_three max_four min_four   -- for this text's walks alone
set_option linter.unusedVariables false
set_option linter.unusedSimpArgs false

/-! ### spec_IdleMixes: function 9 -/
def spec_IdleMixes.l0 : Nat → List (List Int) → List (List Int) → Int → Int → List Int → Int → Option ((List (List Int)) × Bool)
 | 0,_,_,_,_,_,_ => none
 | k + 1,x4,x13,x14,x15,x118000,x118001 => if x15 < x14 then (if 0 ≤ x15 then (if x15 < (x13.length : Int) then (if 0 < ((rd_L1 x13 x15).length : Int) then (if 0 ≤ (rd (rd_L1 x13 x15) 0) then (if (rd (rd_L1 x13 x15) 0) < (x118000.length : Int) then (if 1 < ((rd_L1 x13 x15).length : Int) then (if 0 ≤ (rd (rd_L1 x13 x15) 1) then (if (rd (rd_L1 x13 x15) 1) < (x118000.length : Int) then (if (rd x118000 (rd (rd_L1 x13 x15) 0)) = (rd x118000 (rd (rd_L1 x13 x15) 1)) then (if x4.length < 5864062014805 then (spec_IdleMixes.l0 k (x4 ++ [rd_L1 x13 x15]) x13 x14 (wrap64 (x15 + 1)) x118000 x118001) else (none)) else (spec_IdleMixes.l0 k x4 x13 x14 (wrap64 (x15 + 1)) x118000 x118001)) else (none)) else (none)) else (none)) else (none)) else (none)) else (none)) else (none)) else (none)) else (some (x4,true))
def spec_IdleMixes.f (k : Nat) (l0_0 : List Int) (a0_1 : Int) : Option ((List (List Int)) × Bool) := (spec_cuGood.f k l0_0 a0_1).bind fun t118 => (if t118 = true then ((spec_cuPairs.f k (l0_0.length : Int)).bind fun t119 => (spec_IdleMixes.l0 k ([] : List (List Int)) t119 (t119.length : Int) 0 l0_0 a0_1)) else (some (([] : List (List Int)),false)))
theorem spec_IdleMixes.mono_l : ∀ k,(∀ y0 y1 y2 y3 y4 y5,LeO (spec_IdleMixes.l0 k y0 y1 y2 y3 y4 y5) (spec_IdleMixes.l0 (k + 1) y0 y1 y2 y3 y4 y5))
 | 0 => fun _ _ _ _ _ _ r h => by simp [spec_IdleMixes.l0] at h
 | k + 1 => by
  have ih0 := spec_IdleMixes.mono_l k
  ·intro y0 y1 y2 y3 y4 y5
   unfold spec_IdleMixes.l0
   repeat' first
   | (with_reducible exact ih0 _ _ _ _ _ _)
   | (with_reducible exact spec_cuGood.mono _ _ _)
   | (with_reducible exact spec_cuPairs.mono _ _)
   | (with_reducible exact LeO.refl _)
   | (with_reducible exact LeO.none _)
   | (with_reducible refine LeO.ite ?_ ?_)
   | (with_reducible refine LeO.bind ?_ (fun _ => ?_))
   | exact ih0 _ _ _ _ _ _
   | exact spec_cuGood.mono _ _ _
   | exact spec_cuPairs.mono _ _
   | exact LeO.none _
   | refine LeO.ite ?_ ?_
   | refine LeO.bind ?_ (fun _ => ?_)
theorem spec_IdleMixes.mono : ∀ a0 a1 k,LeO (spec_IdleMixes.f k a0 a1) (spec_IdleMixes.f (k + 1) a0 a1) := by
 intro a0 a1 k
 have ih0 := spec_IdleMixes.mono_l k
 unfold spec_IdleMixes.f
 repeat' first
   | (with_reducible exact ih0 _ _ _ _ _ _)
   | (with_reducible exact spec_cuGood.mono _ _ _)
   | (with_reducible exact spec_cuPairs.mono _ _)
   | (with_reducible exact LeO.refl _)
   | (with_reducible exact LeO.none _)
   | (with_reducible refine LeO.ite ?_ ?_)
   | (with_reducible refine LeO.bind ?_ (fun _ => ?_))
   | exact ih0 _ _ _ _ _ _
   | exact spec_cuGood.mono _ _ _
   | exact spec_cuPairs.mono _ _
   | exact LeO.none _
   | refine LeO.ite ?_ ?_
   | refine LeO.bind ?_ (fun _ => ?_)
set_option maxHeartbeats 8000000 in
set_option maxRecDepth 100000 in
theorem spec_IdleMixes.calls (k : Nat) (A0_0 : Option Addr) (c0_0 : Nat) (l0_0 : List Int) (a0_1 : Int) (r1 : List (List Int)) (r2 : Bool) (w : World) (hr0_0 : Kd.C (Kd.int .i64) w A0_0 l0_0.length l0_0) (hc0_0 : l0_0.length ≤ c0_0) (h : spec_IdleMixes.f k l0_0 a0_1 = some (r1,r2)) :
  Calls Try.prog 9 #[.agg #[.slice A0_0 l0_0.length c0_0, .int .i64 a0_1]] w fun e w' => ∃ v0_ : Value,e = .returned (.tuple #[v0_, .bool r2]) ∧ Kd.N (Kd.slice 3 (Kd.int .i64)) 22 w' w.heap.size (fun k_ => (w.heap.size ≤ k_)) v0_ r1 ∧ Below w.heap.size w w' := by
 have hu29 := Try.underlying29
 have HR0_0 := Aside0.mk hr0_0
 have HC0_0 := Aside0.mk hc0_0
 clear hr0_0 hc0_0
 have HB := Aside0.mk (Below.refl w.heap.size w)
 have H : ((spec_cuGood.f k l0_0 a0_1).bind fun t118 => (if t118 = true then ((spec_cuPairs.f k (l0_0.length : Int)).bind fun t119 => (spec_IdleMixes.l0 k ([] : List (List Int)) t119 (t119.length : Int) 0 l0_0 a0_1)) else (some (([] : List (List Int)),false)))) = some (r1,r2) := h
 clear h
 replace H := Option.bind_eq_some_iff.mp H
 obtain ⟨t118,A20,H⟩ := H
 replace H : (if t118 = true then ((spec_cuPairs.f k (l0_0.length : Int)).bind fun t119 => (spec_IdleMixes.l0 k ([] : List (List Int)) t119 (t119.length : Int) 0 l0_0 a0_1)) else (some (([] : List (List Int)),false))) = some (r1,r2) := H
 have A2 := Aside0.mk A20
 clear A20
 by_cases c3 : t118 = true
 ·subst c3
  have H1 : ((spec_cuPairs.f k (l0_0.length : Int)).bind fun t119 => (spec_IdleMixes.l0 k ([] : List (List Int)) t119 (t119.length : Int) 0 l0_0 a0_1)) = some (r1,r2) := by rw [if_pos rfl] at H;exact H
  clear H
  have H := H1
  clear H1
  replace H := Option.bind_eq_some_iff.mp H
  obtain ⟨t119,A40,H⟩ := H
  replace H : (spec_IdleMixes.l0 k ([] : List (List Int)) t119 (t119.length : Int) 0 l0_0 a0_1) = some (r1,r2) := H
  have A4 := Aside0.mk A40
  clear A40
  have H' := Aside0.mk H
  clear H
  go_enter Try.func9,Try.ntmps9
  go_wp2_with (first | ((with_reducible refine gate_dst (N := 1) rfl ?_);refine box_event ?hg (N := 1) ?hd (cs := #[.slice A0_0 l0_0.length c0_0, .int .i64 a0_1]) (t := 29) ?hr ?_;(case hd => rfl);(case hg => rfl);(case hr => first | (go_simp;done) | (go_simp;rfl));intro gb117 hg w5 hbox hb;have n0_ := Aside0.mk (below_step (by repeat (first | (with_reducible first | exact HB.out | apply below_alloc | apply pw_below_drewN | apply below_drew1) | exact HB.out)) hb);have n1_ := Aside0.mk (hbox);have n2_ := Aside0.mk ((by rw [hg];exact (below_size (by repeat (first | (with_reducible first | exact HB.out | apply below_alloc | apply pw_below_drewN | apply below_drew1) | exact HB.out))) : w.heap.size ≤ gb117));have n3_ := Aside0.mk ((by rw [hg];exact (below_size (by repeat (first | (with_reducible first | exact HB.out | apply below_alloc | apply pw_below_drewN | apply below_drew1) | exact HB.out))) : w.heap.size ≤ gb117));clear HB;have HB := n0_;have BK117 := n1_;have GW117 := n2_;have GE117 := n3_;clear n0_ n1_ n2_ n3_;clear hb hbox hg;have hcz6_0 : w5.cell? ⟨gb117,0,none⟩ = some (.slice A0_0 l0_0.length c0_0) := (blk_cell BK117.out 0).trans rfl;have hcz6_1 : w5.cell? ⟨gb117,1,none⟩ = some (.int .i64 a0_1) := (blk_cell BK117.out 1).trans rfl;have hfz6_0 := blk_frozen BK117.out 0;have hfz6_1 := blk_frozen BK117.out 1) | (go_at_call 29;(with_reducible refine (spec_cuGood.calls k _ _ l0_0 a0_1 true _ ?side1 ?side2 A2.out).mono ?_);(case side1 => repeat (first | exact (Kd.C_below HR0_0.out HB.out) | (with_reducible refine Kd.C_alloc ?_ _) | (with_reducible refine Kd.C_drewN ?_ _) | (with_reducible refine Kd.C_drew ?_)));(case side2 => exact HC0_0.out);rintro e w7 ⟨rfl,hb⟩;have n0_ := Aside0.mk (blk_below (g := gb117) (o := .cells #[.slice A0_0 l0_0.length c0_0, .int .i64 a0_1] 29 (0,0)) (by (with_reducible repeat (first | refine blk_drewN ?_ _ | refine blk_drew ?_ | refine blk_alloc ?_ _));exact BK117.out) hb);have n1_ := Aside0.mk (below_step (by repeat (first | (with_reducible first | exact HB.out | apply below_alloc | apply pw_below_drewN | apply below_drew1 | refine below_set ?_ GE117.out) | exact HB.out)) hb);clear BK117;clear HB;have BK117 := n0_;have HB := n1_;clear n0_ n1_;(try clear hb);(try clear hb2);(try clear hk);(try clear hi);have hcz8_0 : w7.cell? ⟨gb117,0,none⟩ = some (.slice A0_0 l0_0.length c0_0) := (blk_cell BK117.out 0).trans rfl;have hcz8_1 : w7.cell? ⟨gb117,1,none⟩ = some (.int .i64 a0_1) := (blk_cell BK117.out 1).trans rfl;have hfz8_0 := blk_frozen BK117.out 0;have hfz8_1 := blk_frozen BK117.out 1) | (go_at_call 30;(with_reducible refine (spec_cuPairs.calls k (l0_0.length : Int) t119 _ A4.out).mono ?_);rintro e w9 ⟨v120,rfl,ho0,hb⟩;have n0_ := Aside0.mk (Kd.N_lower (Kd.N_mono (ok' := fun k_ => (w.heap.size ≤ k_) ∧ k_ ≠ gb117) (Kd.S_N (Kd.S_bound ho0)) (fun k_ hk_ => ⟨(Nat.le_trans (below_size (by repeat (first | (with_reducible first | exact HB.out | apply below_alloc | apply pw_below_drewN | apply below_drew1 | refine below_set ?_ GE117.out) | exact HB.out))) hk_.2.1),(Kd.freshB (g := gb117) (o := .cells #[.slice A0_0 l0_0.length c0_0, .int .i64 a0_1] 29 (0,0)) (by (with_reducible repeat (first | refine blk_drewN ?_ _ | refine blk_drew ?_ | refine blk_alloc ?_ _));exact BK117.out) k_ hk_.2.1)⟩)) (below_size (by repeat (first | (with_reducible first | exact HB.out | apply below_alloc | apply pw_below_drewN | apply below_drew1 | refine below_set ?_ GE117.out) | exact HB.out))));have n1_ := Aside0.mk (blk_below (g := gb117) (o := .cells #[.slice A0_0 l0_0.length c0_0, .int .i64 a0_1] 29 (0,0)) (by (with_reducible repeat (first | refine blk_drewN ?_ _ | refine blk_drew ?_ | refine blk_alloc ?_ _));exact BK117.out) hb);have n2_ := Aside0.mk (below_step (by repeat (first | (with_reducible first | exact HB.out | apply below_alloc | apply pw_below_drewN | apply below_drew1 | refine below_set ?_ GE117.out) | exact HB.out)) hb);clear BK117;clear HB;have HO121 := n0_;have BK117 := n1_;have HB := n2_;clear n0_ n1_ n2_;(try clear hb);(try clear hb2);(try clear hk);(try clear hi);(try clear ho0);obtain ⟨Ao10,co10,eo10⟩ := Kd.N_slice HO121.out;subst eo10))
  repeat (go_quiet (first | ((with_reducible refine gate_dst (N := 1) rfl ?_);refine box_event ?hg (N := 1) ?hd (cs := #[.slice A0_0 l0_0.length c0_0, .int .i64 a0_1]) (t := 29) ?hr ?_;(case hd => rfl);(case hg => rfl);(case hr => first | (go_simp;done) | (go_simp;rfl));intro gb117 hg w5 hbox hb;have n0_ := Aside0.mk (below_step (by repeat (first | (with_reducible first | exact HB.out | apply below_alloc | apply pw_below_drewN | apply below_drew1) | exact HB.out)) hb);have n1_ := Aside0.mk (hbox);have n2_ := Aside0.mk ((by rw [hg];exact (below_size (by repeat (first | (with_reducible first | exact HB.out | apply below_alloc | apply pw_below_drewN | apply below_drew1) | exact HB.out))) : w.heap.size ≤ gb117));have n3_ := Aside0.mk ((by rw [hg];exact (below_size (by repeat (first | (with_reducible first | exact HB.out | apply below_alloc | apply pw_below_drewN | apply below_drew1) | exact HB.out))) : w.heap.size ≤ gb117));clear HB;have HB := n0_;have BK117 := n1_;have GW117 := n2_;have GE117 := n3_;clear n0_ n1_ n2_ n3_;clear hb hbox hg;have hcz6_0 : w5.cell? ⟨gb117,0,none⟩ = some (.slice A0_0 l0_0.length c0_0) := (blk_cell BK117.out 0).trans rfl;have hcz6_1 : w5.cell? ⟨gb117,1,none⟩ = some (.int .i64 a0_1) := (blk_cell BK117.out 1).trans rfl;have hfz6_0 := blk_frozen BK117.out 0;have hfz6_1 := blk_frozen BK117.out 1) | (go_at_call 29;(with_reducible refine (spec_cuGood.calls k _ _ l0_0 a0_1 true _ ?side1 ?side2 A2.out).mono ?_);(case side1 => repeat (first | exact (Kd.C_below HR0_0.out HB.out) | (with_reducible refine Kd.C_alloc ?_ _) | (with_reducible refine Kd.C_drewN ?_ _) | (with_reducible refine Kd.C_drew ?_)));(case side2 => exact HC0_0.out);rintro e w7 ⟨rfl,hb⟩;have n0_ := Aside0.mk (blk_below (g := gb117) (o := .cells #[.slice A0_0 l0_0.length c0_0, .int .i64 a0_1] 29 (0,0)) (by (with_reducible repeat (first | refine blk_drewN ?_ _ | refine blk_drew ?_ | refine blk_alloc ?_ _));exact BK117.out) hb);have n1_ := Aside0.mk (below_step (by repeat (first | (with_reducible first | exact HB.out | apply below_alloc | apply pw_below_drewN | apply below_drew1 | refine below_set ?_ GE117.out) | exact HB.out)) hb);clear BK117;clear HB;have BK117 := n0_;have HB := n1_;clear n0_ n1_;(try clear hb);(try clear hb2);(try clear hk);(try clear hi);have hcz8_0 : w7.cell? ⟨gb117,0,none⟩ = some (.slice A0_0 l0_0.length c0_0) := (blk_cell BK117.out 0).trans rfl;have hcz8_1 : w7.cell? ⟨gb117,1,none⟩ = some (.int .i64 a0_1) := (blk_cell BK117.out 1).trans rfl;have hfz8_0 := blk_frozen BK117.out 0;have hfz8_1 := blk_frozen BK117.out 1) | (go_at_call 30;(with_reducible refine (spec_cuPairs.calls k (l0_0.length : Int) t119 _ A4.out).mono ?_);rintro e w9 ⟨v120,rfl,ho0,hb⟩;have n0_ := Aside0.mk (Kd.N_lower (Kd.N_mono (ok' := fun k_ => (w.heap.size ≤ k_) ∧ k_ ≠ gb117) (Kd.S_N (Kd.S_bound ho0)) (fun k_ hk_ => ⟨(Nat.le_trans (below_size (by repeat (first | (with_reducible first | exact HB.out | apply below_alloc | apply pw_below_drewN | apply below_drew1 | refine below_set ?_ GE117.out) | exact HB.out))) hk_.2.1),(Kd.freshB (g := gb117) (o := .cells #[.slice A0_0 l0_0.length c0_0, .int .i64 a0_1] 29 (0,0)) (by (with_reducible repeat (first | refine blk_drewN ?_ _ | refine blk_drew ?_ | refine blk_alloc ?_ _));exact BK117.out) k_ hk_.2.1)⟩)) (below_size (by repeat (first | (with_reducible first | exact HB.out | apply below_alloc | apply pw_below_drewN | apply below_drew1 | refine below_set ?_ GE117.out) | exact HB.out))));have n1_ := Aside0.mk (blk_below (g := gb117) (o := .cells #[.slice A0_0 l0_0.length c0_0, .int .i64 a0_1] 29 (0,0)) (by (with_reducible repeat (first | refine blk_drewN ?_ _ | refine blk_drew ?_ | refine blk_alloc ?_ _));exact BK117.out) hb);have n2_ := Aside0.mk (below_step (by repeat (first | (with_reducible first | exact HB.out | apply below_alloc | apply pw_below_drewN | apply below_drew1 | refine below_set ?_ GE117.out) | exact HB.out)) hb);clear BK117;clear HB;have HO121 := n0_;have BK117 := n1_;have HB := n2_;clear n0_ n1_ n2_;(try clear hb);(try clear hb2);(try clear hk);(try clear hi);(try clear ho0);obtain ⟨Ao10,co10,eo10⟩ := Kd.N_slice HO121.out;subst eo10));try go_wp2_with (first | ((with_reducible refine gate_dst (N := 1) rfl ?_);refine box_event ?hg (N := 1) ?hd (cs := #[.slice A0_0 l0_0.length c0_0, .int .i64 a0_1]) (t := 29) ?hr ?_;(case hd => rfl);(case hg => rfl);(case hr => first | (go_simp;done) | (go_simp;rfl));intro gb117 hg w5 hbox hb;have n0_ := Aside0.mk (below_step (by repeat (first | (with_reducible first | exact HB.out | apply below_alloc | apply pw_below_drewN | apply below_drew1) | exact HB.out)) hb);have n1_ := Aside0.mk (hbox);have n2_ := Aside0.mk ((by rw [hg];exact (below_size (by repeat (first | (with_reducible first | exact HB.out | apply below_alloc | apply pw_below_drewN | apply below_drew1) | exact HB.out))) : w.heap.size ≤ gb117));have n3_ := Aside0.mk ((by rw [hg];exact (below_size (by repeat (first | (with_reducible first | exact HB.out | apply below_alloc | apply pw_below_drewN | apply below_drew1) | exact HB.out))) : w.heap.size ≤ gb117));clear HB;have HB := n0_;have BK117 := n1_;have GW117 := n2_;have GE117 := n3_;clear n0_ n1_ n2_ n3_;clear hb hbox hg;have hcz6_0 : w5.cell? ⟨gb117,0,none⟩ = some (.slice A0_0 l0_0.length c0_0) := (blk_cell BK117.out 0).trans rfl;have hcz6_1 : w5.cell? ⟨gb117,1,none⟩ = some (.int .i64 a0_1) := (blk_cell BK117.out 1).trans rfl;have hfz6_0 := blk_frozen BK117.out 0;have hfz6_1 := blk_frozen BK117.out 1) | (go_at_call 29;(with_reducible refine (spec_cuGood.calls k _ _ l0_0 a0_1 true _ ?side1 ?side2 A2.out).mono ?_);(case side1 => repeat (first | exact (Kd.C_below HR0_0.out HB.out) | (with_reducible refine Kd.C_alloc ?_ _) | (with_reducible refine Kd.C_drewN ?_ _) | (with_reducible refine Kd.C_drew ?_)));(case side2 => exact HC0_0.out);rintro e w7 ⟨rfl,hb⟩;have n0_ := Aside0.mk (blk_below (g := gb117) (o := .cells #[.slice A0_0 l0_0.length c0_0, .int .i64 a0_1] 29 (0,0)) (by (with_reducible repeat (first | refine blk_drewN ?_ _ | refine blk_drew ?_ | refine blk_alloc ?_ _));exact BK117.out) hb);have n1_ := Aside0.mk (below_step (by repeat (first | (with_reducible first | exact HB.out | apply below_alloc | apply pw_below_drewN | apply below_drew1 | refine below_set ?_ GE117.out) | exact HB.out)) hb);clear BK117;clear HB;have BK117 := n0_;have HB := n1_;clear n0_ n1_;(try clear hb);(try clear hb2);(try clear hk);(try clear hi);have hcz8_0 : w7.cell? ⟨gb117,0,none⟩ = some (.slice A0_0 l0_0.length c0_0) := (blk_cell BK117.out 0).trans rfl;have hcz8_1 : w7.cell? ⟨gb117,1,none⟩ = some (.int .i64 a0_1) := (blk_cell BK117.out 1).trans rfl;have hfz8_0 := blk_frozen BK117.out 0;have hfz8_1 := blk_frozen BK117.out 1) | (go_at_call 30;(with_reducible refine (spec_cuPairs.calls k (l0_0.length : Int) t119 _ A4.out).mono ?_);rintro e w9 ⟨v120,rfl,ho0,hb⟩;have n0_ := Aside0.mk (Kd.N_lower (Kd.N_mono (ok' := fun k_ => (w.heap.size ≤ k_) ∧ k_ ≠ gb117) (Kd.S_N (Kd.S_bound ho0)) (fun k_ hk_ => ⟨(Nat.le_trans (below_size (by repeat (first | (with_reducible first | exact HB.out | apply below_alloc | apply pw_below_drewN | apply below_drew1 | refine below_set ?_ GE117.out) | exact HB.out))) hk_.2.1),(Kd.freshB (g := gb117) (o := .cells #[.slice A0_0 l0_0.length c0_0, .int .i64 a0_1] 29 (0,0)) (by (with_reducible repeat (first | refine blk_drewN ?_ _ | refine blk_drew ?_ | refine blk_alloc ?_ _));exact BK117.out) k_ hk_.2.1)⟩)) (below_size (by repeat (first | (with_reducible first | exact HB.out | apply below_alloc | apply pw_below_drewN | apply below_drew1 | refine below_set ?_ GE117.out) | exact HB.out))));have n1_ := Aside0.mk (blk_below (g := gb117) (o := .cells #[.slice A0_0 l0_0.length c0_0, .int .i64 a0_1] 29 (0,0)) (by (with_reducible repeat (first | refine blk_drewN ?_ _ | refine blk_drew ?_ | refine blk_alloc ?_ _));exact BK117.out) hb);have n2_ := Aside0.mk (below_step (by repeat (first | (with_reducible first | exact HB.out | apply below_alloc | apply pw_below_drewN | apply below_drew1 | refine below_set ?_ GE117.out) | exact HB.out)) hb);clear BK117;clear HB;have HO121 := n0_;have BK117 := n1_;have HB := n2_;clear n0_ n1_ n2_;(try clear hb);(try clear hb2);(try clear hk);(try clear hi);(try clear ho0);obtain ⟨Ao10,co10,eo10⟩ := Kd.N_slice HO121.out;subst eo10)))
  go_loopg [4,15] k (fun kq v4 v15 w' => ∃ (x4_1 : List (List Int)) (x15_1 : Int),v15 = .int .i64 x15_1 ∧ Aside0 (spec_IdleMixes.l0 kq x4_1 t119 (t119.length : Int) x15_1 l0_0 a0_1 = some (r1,r2)) ∧ Aside0 (kq ≤ k) ∧ Aside0 (Kd.N (Kd.slice 3 (Kd.int .i64)) 22 w' w.heap.size (fun k_ => (w.heap.size ≤ k_) ∧ some k_ ≠ ((.slice Ao10 t119.length co10) : Value).ownBlock ∧ k_ ≠ gb117) v4 x4_1) ∧ Aside0 (Kd.N (Kd.slice 3 (Kd.int .i64)) 22 w' w.heap.size (fun k_ => (w.heap.size ≤ k_) ∧ some k_ ≠ (v4 : Value).ownBlock ∧ k_ ≠ gb117) (.slice Ao10 t119.length co10) t119) ∧ Aside0 (w'.heap[gb117]? = some (.cells #[(.slice A0_0 l0_0.length c0_0), .int .i64 a0_1] 29 (0,0))) ∧ Aside0 (Below w.heap.size w w'))
  case atStart => exact ⟨(([] : List (List Int))),(0),(by first | rfl | (simp;done) | (simp [*];done)),H',⟨Nat.le_refl _⟩,⟨by first | exact Kd.S_nil _ _ _ _ _ | exact Kd.N_nil _ _ _ _ _ | exact Kd.V_nil _ _ _ _ _ | exact Kd.Q_nil _ _ _ _ _ | exact Kd.R_nil _ _ _ _ _⟩,⟨by (with_reducible repeat (first | apply Kd.N_alloc | apply Kd.N_drewN | apply Kd.N_drew));exact Kd.N_mono HO121.out (fun _ hk => ⟨hk.1,⟨(by simp [Value.ownBlock]),hk.2⟩⟩)⟩,⟨by (with_reducible repeat (first | refine blk_drewN ?_ _ | refine blk_drew ?_ | refine blk_alloc ?_ _));exact BK117.out⟩,⟨by repeat (first | (with_reducible first | exact HB.out | apply below_alloc | apply pw_below_drewN | apply below_drew1 | refine below_set ?_ GE117.out) | exact HB.out)⟩⟩
  case round =>
   clear H'
   try clear p2
   try clear c3
   try clear c9
   try clear hcz6_0
   try clear hcz6_1
   try clear hcz8_0
   try clear hcz8_1
   try clear hfz6_0
   try clear hfz6_1
   try clear hfz8_0
   try clear hfz8_1
   obtain ⟨x4_1,x15_1,rfl,HA,HK1,HO_4,HO_13,BK117,HB⟩ := hrel
   cases gk with
   | zero => exact absurd HA.out (by simp [spec_IdleMixes.l0])
   | succ k1 =>
    have H := HA.out
    clear HA
    simp only [spec_IdleMixes.l0] at H
    by_cases c11 : x15_1 < (t119.length : Int)
    ·rw [if_pos c11] at H
     have c11b0 : decide (x15_1 < (t119.length : Int)) = true := decide_eq_true c11
     clear c11
     by_cases c12 : 0 ≤ x15_1
     ·rw [if_pos c12] at H
      have c12b0 : decide (0 ≤ x15_1) = true := decide_eq_true c12
      clear c12
      by_cases c13 : x15_1 < (t119.length : Int)
      ·rw [if_pos c13] at H
       have c13b0 : decide (x15_1 < (t119.length : Int)) = true := decide_eq_true c13
       clear c13
       by_cases c14 : 0 < ((rd_L1 t119 x15_1).length : Int)
       ·rw [if_pos c14] at H
        have c14b0 : decide (0 < ((rd_L1 t119 x15_1).length : Int)) = true := decide_eq_true c14
        have c14b1 : decide (0 < (rd_L1 t119 x15_1).length) = true := decide_eq_true (by omega)
        clear c14
        by_cases c15 : 0 ≤ (rd (rd_L1 t119 x15_1) 0)
        ·rw [if_pos c15] at H
         have c15b0 : decide (0 ≤ (rd (rd_L1 t119 x15_1) 0)) = true := decide_eq_true c15
         clear c15
         by_cases c16 : (rd (rd_L1 t119 x15_1) 0) < (l0_0.length : Int)
         ·rw [if_pos c16] at H
          have c16b0 : decide ((rd (rd_L1 t119 x15_1) 0) < (l0_0.length : Int)) = true := decide_eq_true c16
          clear c16
          by_cases c17 : 1 < ((rd_L1 t119 x15_1).length : Int)
          ·rw [if_pos c17] at H
           have c17b0 : decide (1 < ((rd_L1 t119 x15_1).length : Int)) = true := decide_eq_true c17
           have c17b1 : decide (1 < (rd_L1 t119 x15_1).length) = true := decide_eq_true (by omega)
           clear c17
           by_cases c18 : 0 ≤ (rd (rd_L1 t119 x15_1) 1)
           ·rw [if_pos c18] at H
            have c18b0 : decide (0 ≤ (rd (rd_L1 t119 x15_1) 1)) = true := decide_eq_true c18
            clear c18
            by_cases c19 : (rd (rd_L1 t119 x15_1) 1) < (l0_0.length : Int)
            ·rw [if_pos c19] at H
             have c19b0 : decide ((rd (rd_L1 t119 x15_1) 1) < (l0_0.length : Int)) = true := decide_eq_true c19
             clear c19
             by_cases c20 : (rd l0_0 (rd (rd_L1 t119 x15_1) 0)) = (rd l0_0 (rd (rd_L1 t119 x15_1) 1))
             ·rw [if_pos c20] at H
              have c20b0 : ((rd l0_0 (rd (rd_L1 t119 x15_1) 0)) == (rd l0_0 (rd (rd_L1 t119 x15_1) 1))) = true := beq_iff_eq.mpr c20
              have c20b1 : ((rd l0_0 (rd (rd_L1 t119 x15_1) 0)) != (rd l0_0 (rd (rd_L1 t119 x15_1) 1))) = false := bne_eq_false_iff_eq.mpr c20
              clear c20
              by_cases c21 : x4_1.length < 5864062014805
              ·rw [if_pos c21] at H
               have LMc21 := Aside0.mk c21
               clear c21
               obtain ⟨y127,hy127⟩ : ∃ y_ : List (List Int),y_ = (x4_1 ++ [rd_L1 t119 x15_1]) := ⟨_,rfl⟩
               replace H : (spec_IdleMixes.l0 k1 y127 t119 (t119.length : Int) (wrap64 (x15_1 + 1)) l0_0 a0_1) = some (r1,r2) := by first | (rw [hy127];with_reducible exact H) | (have H2_ := (Option.bind_some _ _).symm.trans H;rw [hy127];with_reducible exact H2_) | (have H2_ := (Option.bind_some _ _).symm.trans H;with_reducible exact H2_) | with_reducible exact H | (rw [hy127];exact H) | exact H
               have Ny127 := Aside0.mk hy127
               clear hy127
               have H' := Aside0.mk H
               clear H
               have p122 : 0 ≤ (x15_1 : Int) := of_decide_eq_true (by first | (with_reducible assumption) | assumption)
               have q122 : x15_1 < (t119.length : Int) := of_decide_eq_true (by first | (with_reducible assumption) | assumption)
               obtain ⟨ad122,A122_0,c122_0,e122,hx122_0,hl122_0,hi122_0⟩ := at_L1 (Kd.N_reads' HO_13.out).2.2 x15_1 p122 q122
               cases e122
               obtain ⟨ce122,hce122,hMe122,hcc122⟩ := Kd.N_get HO_13.out [] x15_1 p122 (by first | exact q122 | exact of_decide_eq_true (by first | (with_reducible assumption) | assumption) | (have e_ := (Kd.N_reads' HO_13.out).1;omega))
               obtain ⟨ua122_0,uc122_0,rfl,ul122_0,ge122_0⟩ := Kd.FK_slice_open hMe122
               have hv122_0 := hcc122 0 _ rfl
               rw [Nat.add_zero,show ((Kd.slice 3 (Kd.int .i64))).sz = 1 from rfl,Nat.mul_one] at hv122_0
               replace hv122_0 := Option.some.inj (hv122_0.symm.trans hx122_0)
               injection hv122_0 with hva_ hvn_ hvc_
               rw [hva_] at ge122_0
               rw [hvc_] at ul122_0
               have HL122_0 := Aside0.mk (show Kd.V (Kd.int .i64) 3 _ w.heap.size _ _ (rd_L1 t119 x15_1) from Kd.V_mk ul122_0 ge122_0)
               clear hva_ hvn_ hvc_ ge122_0 ul122_0
               clear hcc122 hce122
               have HR122_0 := Aside0.mk hi122_0
               have HC122_0 := Aside0.mk hl122_0
               clear hi122_0 hl122_0
               replace p122 := eq_true p122
               replace q122 := eq_true q122
               have hcz22_0 : wr.cell? ⟨gb117,0,none⟩ = some (.slice A0_0 l0_0.length c0_0) := (blk_cell BK117.out 0).trans rfl
               have hcz22_1 : wr.cell? ⟨gb117,1,none⟩ = some (.int .i64 a0_1) := (blk_cell BK117.out 1).trans rfl
               have hfz22_0 := blk_frozen BK117.out 0
               have hfz22_1 := blk_frozen BK117.out 1
               have p123 : 0 ≤ (0 : Int) := (by omega)
               have q123 : 0 < ((rd_L1 t119 x15_1).length : Int) := of_decide_eq_true (by first | (with_reducible assumption) | assumption)
               obtain ⟨ad123,e123,hx123_0⟩ := Kd.at_int (by repeat (first | (with_reducible exact HR122_0.out) | (with_reducible refine Kd.C_alloc ?_ _) | (with_reducible refine Kd.C_drewN ?_ _) | (with_reducible refine Kd.C_drew ?_) | exact HR122_0.out)) 0 p123 q123
               cases e123
               have qi123 : (0 < (rd_L1 t119 x15_1).length) = True := eq_true (by omega)
               (try rw [show ((0 : Int)).toNat = 0 from rfl] at hx123_0)
               (try rw [Addr.add_zero'] at hx123_0)
               replace p123 := eq_true p123
               replace q123 := eq_true q123
               have p124 : 0 ≤ ((rd (rd_L1 t119 x15_1) 0) : Int) := of_decide_eq_true (by first | (with_reducible assumption) | assumption)
               have q124 : (rd (rd_L1 t119 x15_1) 0) < (l0_0.length : Int) := of_decide_eq_true (by first | (with_reducible assumption) | assumption)
               obtain ⟨ad124,e124,hx124_0⟩ := Kd.at_int HR0_0.out (rd (rd_L1 t119 x15_1) 0) p124 q124
               cases e124
               replace hx124_0 := (HB.out.cell (World.block_lt_of_cell? w _ hx124_0)).trans hx124_0
               replace p124 := eq_true p124
               replace q124 := eq_true q124
               have p125 : 0 ≤ (1 : Int) := (by omega)
               have q125 : 1 < ((rd_L1 t119 x15_1).length : Int) := of_decide_eq_true (by first | (with_reducible assumption) | assumption)
               obtain ⟨ad125,e125,hx125_0⟩ := Kd.at_int (by repeat (first | (with_reducible exact HR122_0.out) | (with_reducible refine Kd.C_alloc ?_ _) | (with_reducible refine Kd.C_drewN ?_ _) | (with_reducible refine Kd.C_drew ?_) | exact HR122_0.out)) 1 p125 q125
               obtain rfl : ad123 = ad125 := (by injection e125)
               (try simp only [show (1 : Int).toNat = 1 from rfl,Nat.reduceMul,Nat.reduceEqDiff,Go.Addr.add, ↓reduceIte] at hx125_0)
               have qi125 : (1 < (rd_L1 t119 x15_1).length) = True := eq_true (by omega)
               (try rw [show ((1 : Int)).toNat = 1 from rfl] at hx125_0)
               replace p125 := eq_true p125
               replace q125 := eq_true q125
               have p126 : 0 ≤ ((rd (rd_L1 t119 x15_1) 1) : Int) := of_decide_eq_true (by first | (with_reducible assumption) | assumption)
               have q126 : (rd (rd_L1 t119 x15_1) 1) < (l0_0.length : Int) := of_decide_eq_true (by first | (with_reducible assumption) | assumption)
               obtain ⟨ad126,e126,hx126_0⟩ := Kd.at_int HR0_0.out (rd (rd_L1 t119 x15_1) 1) p126 q126
               obtain rfl : ad124 = ad126 := (by injection e126)
               replace hx126_0 := (HB.out.cell (World.block_lt_of_cell? w _ hx126_0)).trans hx126_0
               replace p126 := eq_true p126
               replace q126 := eq_true q126
               go_wp2_with (first | ((with_reducible refine gate_builtin (b := .append) (xs := #[.tmp 34, .tmp 36]) rfl ?_);at_builtin;refine Kd.N_append (Kd.slice 3 (Kd.int .i64)) (w0 := w) w.heap.size rfl (.tmp 34) (.tmp 36) 26 22 (.slice none 0 0) 24 rfl Try.underlying26 info22 rfl (by decide) (by omega) u4 x4_1 (rd_L1 t119 x15_1) [.slice (some ad123) (rd_L1 t119 x15_1).length c122_0] (fun k_ => (w.heap.size ≤ k_) ∧ some k_ ≠ (.slice (some ad122) t119.length co10 : Value).ownBlock ∧ k_ ≠ gb117) (fun k_ => ((fun k_ => (w.heap.size ≤ k_) ∧ some k_ ≠ (.slice (some ad122) t119.length co10 : Value).ownBlock ∧ k_ ≠ gb117)) k_ ∧ some k_ ≠ (u4 : Value).ownBlock) rfl rfl ?aP (fun _ hk => hk) ?aF ?aO ?aB ?aS ?aL ?_;(case aP => exact (Kd.FK_slice_mk (Kd.V_reads' (Kd.V_mono (ok' := (fun k_ => ((fun k_ => (w.heap.size ≤ k_) ∧ some k_ ≠ (.slice (some ad122) t119.length co10 : Value).ownBlock ∧ k_ ≠ gb117)) k_ ∧ some k_ ≠ (u4 : Value).ownBlock)) (HL122_0.out) (fun k_ hk => ⟨⟨hk.1.1,⟨hk.2,hk.1.2.2⟩⟩,hk.1.2.1⟩))).2.1 (Kd.V_F (Kd.V_mono (ok' := (fun k_ => ((fun k_ => (w.heap.size ≤ k_) ∧ some k_ ≠ (.slice (some ad122) t119.length co10 : Value).ownBlock ∧ k_ ≠ gb117)) k_ ∧ some k_ ≠ (u4 : Value).ownBlock)) (Kd.V_drewN HL122_0.out _) (fun k_ hk => ⟨⟨hk.1.1,⟨hk.2,hk.1.2.2⟩⟩,hk.1.2.1⟩)))));(case aB => exact (by repeat (first | (with_reducible first | exact HB.out | apply below_alloc | apply pw_below_drewN | apply below_drew1 | refine below_set ?_ GE117.out) | exact HB.out)));(case aF => exact (fun k_ hk => ⟨(Nat.le_trans (below_size (by repeat (first | (with_reducible first | exact HB.out | apply below_alloc | apply pw_below_drewN | apply below_drew1 | refine below_set ?_ GE117.out) | exact HB.out))) hk),Kd.fresh' (Kd.N_lt (by (with_reducible repeat (first | apply Kd.N_alloc | apply Kd.N_drewN | apply Kd.N_drew));exact HO_13.out)) k_ hk,Kd.freshB (g := gb117) (o := .cells #[.slice (some ad124) l0_0.length c0_0, .int .i64 a0_1] 29 (0,0)) (by (with_reducible repeat (first | refine blk_drewN ?_ _ | refine blk_drew ?_ | refine blk_alloc ?_ _));exact BK117.out) k_ hk⟩));(case aO => exact (by (with_reducible repeat (first | apply Kd.N_alloc | apply Kd.N_drewN | apply Kd.N_drew));exact HO_4.out));(case aS => exact (below_size (by repeat (first | (with_reducible first | exact HB.out | apply below_alloc | apply pw_below_drewN | apply below_drew1 | refine below_set ?_ GE117.out) | exact HB.out))));(case aL => have := LMc21.out;omega);intro v128 w23 ho hb hg hat;rw [← Ny127.out] at ho;have n0_ := Aside0.mk (Kd.N_afterv (ok := (fun k_ => (w.heap.size ≤ k_) ∧ k_ ≠ gb117)) (by (with_reducible repeat (first | apply Kd.N_alloc | apply Kd.N_drewN | apply Kd.N_drew));exact Kd.N_mono HO_13.out (fun _ hk => ⟨⟨hk.1,hk.2.2⟩,hk.2.1⟩)) hg hat);have n1_ := Aside0.mk (blk_grown (g := gb117) (o := .cells #[.slice (some ad124) l0_0.length c0_0, .int .i64 a0_1] 29 (0,0)) (by (with_reducible repeat (first | refine blk_drewN ?_ _ | refine blk_drew ?_ | refine blk_alloc ?_ _));exact BK117.out) hg (Kd.N_ne HO_4.out BK117.out (by decide)));have n2_ := Aside0.mk (Kd.V_afterv (ok := (fun k_ => (w.heap.size ≤ k_) ∧ some k_ ≠ (.slice (some ad122) t119.length co10 : Value).ownBlock ∧ k_ ≠ gb117)) (by (with_reducible repeat (first | apply Kd.V_alloc | apply Kd.V_drewN | apply Kd.V_drew));exact Kd.V_mono HL122_0.out (fun _ hk => ⟨⟨hk.1.1,⟨hk.2,hk.1.2.2⟩⟩,hk.1.2.1⟩)) hg hat);have n3_ := Aside0.mk (hb);have n4_ := Aside0.mk (ho);clear HO_13;clear BK117;clear HL122_0;clear HB;clear HO_4;have HO_13 := n0_;have BK117 := n1_;have HL122_0 := n2_;have HB := n3_;have HO129 := n4_;clear n0_ n1_ n2_ n3_ n4_;clear ho hb hg hat))
               repeat (go_quiet (first | ((with_reducible refine gate_builtin (b := .append) (xs := #[.tmp 34, .tmp 36]) rfl ?_);at_builtin;refine Kd.N_append (Kd.slice 3 (Kd.int .i64)) (w0 := w) w.heap.size rfl (.tmp 34) (.tmp 36) 26 22 (.slice none 0 0) 24 rfl Try.underlying26 info22 rfl (by decide) (by omega) u4 x4_1 (rd_L1 t119 x15_1) [.slice (some ad123) (rd_L1 t119 x15_1).length c122_0] (fun k_ => (w.heap.size ≤ k_) ∧ some k_ ≠ (.slice (some ad122) t119.length co10 : Value).ownBlock ∧ k_ ≠ gb117) (fun k_ => ((fun k_ => (w.heap.size ≤ k_) ∧ some k_ ≠ (.slice (some ad122) t119.length co10 : Value).ownBlock ∧ k_ ≠ gb117)) k_ ∧ some k_ ≠ (u4 : Value).ownBlock) rfl rfl ?aP (fun _ hk => hk) ?aF ?aO ?aB ?aS ?aL ?_;(case aP => exact (Kd.FK_slice_mk (Kd.V_reads' (Kd.V_mono (ok' := (fun k_ => ((fun k_ => (w.heap.size ≤ k_) ∧ some k_ ≠ (.slice (some ad122) t119.length co10 : Value).ownBlock ∧ k_ ≠ gb117)) k_ ∧ some k_ ≠ (u4 : Value).ownBlock)) (HL122_0.out) (fun k_ hk => ⟨⟨hk.1.1,⟨hk.2,hk.1.2.2⟩⟩,hk.1.2.1⟩))).2.1 (Kd.V_F (Kd.V_mono (ok' := (fun k_ => ((fun k_ => (w.heap.size ≤ k_) ∧ some k_ ≠ (.slice (some ad122) t119.length co10 : Value).ownBlock ∧ k_ ≠ gb117)) k_ ∧ some k_ ≠ (u4 : Value).ownBlock)) (Kd.V_drewN HL122_0.out _) (fun k_ hk => ⟨⟨hk.1.1,⟨hk.2,hk.1.2.2⟩⟩,hk.1.2.1⟩)))));(case aB => exact (by repeat (first | (with_reducible first | exact HB.out | apply below_alloc | apply pw_below_drewN | apply below_drew1 | refine below_set ?_ GE117.out) | exact HB.out)));(case aF => exact (fun k_ hk => ⟨(Nat.le_trans (below_size (by repeat (first | (with_reducible first | exact HB.out | apply below_alloc | apply pw_below_drewN | apply below_drew1 | refine below_set ?_ GE117.out) | exact HB.out))) hk),Kd.fresh' (Kd.N_lt (by (with_reducible repeat (first | apply Kd.N_alloc | apply Kd.N_drewN | apply Kd.N_drew));exact HO_13.out)) k_ hk,Kd.freshB (g := gb117) (o := .cells #[.slice (some ad124) l0_0.length c0_0, .int .i64 a0_1] 29 (0,0)) (by (with_reducible repeat (first | refine blk_drewN ?_ _ | refine blk_drew ?_ | refine blk_alloc ?_ _));exact BK117.out) k_ hk⟩));(case aO => exact (by (with_reducible repeat (first | apply Kd.N_alloc | apply Kd.N_drewN | apply Kd.N_drew));exact HO_4.out));(case aS => exact (below_size (by repeat (first | (with_reducible first | exact HB.out | apply below_alloc | apply pw_below_drewN | apply below_drew1 | refine below_set ?_ GE117.out) | exact HB.out))));(case aL => have := LMc21.out;omega);intro v128 w23 ho hb hg hat;rw [← Ny127.out] at ho;have n0_ := Aside0.mk (Kd.N_afterv (ok := (fun k_ => (w.heap.size ≤ k_) ∧ k_ ≠ gb117)) (by (with_reducible repeat (first | apply Kd.N_alloc | apply Kd.N_drewN | apply Kd.N_drew));exact Kd.N_mono HO_13.out (fun _ hk => ⟨⟨hk.1,hk.2.2⟩,hk.2.1⟩)) hg hat);have n1_ := Aside0.mk (blk_grown (g := gb117) (o := .cells #[.slice (some ad124) l0_0.length c0_0, .int .i64 a0_1] 29 (0,0)) (by (with_reducible repeat (first | refine blk_drewN ?_ _ | refine blk_drew ?_ | refine blk_alloc ?_ _));exact BK117.out) hg (Kd.N_ne HO_4.out BK117.out (by decide)));have n2_ := Aside0.mk (Kd.V_afterv (ok := (fun k_ => (w.heap.size ≤ k_) ∧ some k_ ≠ (.slice (some ad122) t119.length co10 : Value).ownBlock ∧ k_ ≠ gb117)) (by (with_reducible repeat (first | apply Kd.V_alloc | apply Kd.V_drewN | apply Kd.V_drew));exact Kd.V_mono HL122_0.out (fun _ hk => ⟨⟨hk.1.1,⟨hk.2,hk.1.2.2⟩⟩,hk.1.2.1⟩)) hg hat);have n3_ := Aside0.mk (hb);have n4_ := Aside0.mk (ho);clear HO_13;clear BK117;clear HL122_0;clear HB;clear HO_4;have HO_13 := n0_;have BK117 := n1_;have HL122_0 := n2_;have HB := n3_;have HO129 := n4_;clear n0_ n1_ n2_ n3_ n4_;clear ho hb hg hat));try go_wp2_with (first | ((with_reducible refine gate_builtin (b := .append) (xs := #[.tmp 34, .tmp 36]) rfl ?_);at_builtin;refine Kd.N_append (Kd.slice 3 (Kd.int .i64)) (w0 := w) w.heap.size rfl (.tmp 34) (.tmp 36) 26 22 (.slice none 0 0) 24 rfl Try.underlying26 info22 rfl (by decide) (by omega) u4 x4_1 (rd_L1 t119 x15_1) [.slice (some ad123) (rd_L1 t119 x15_1).length c122_0] (fun k_ => (w.heap.size ≤ k_) ∧ some k_ ≠ (.slice (some ad122) t119.length co10 : Value).ownBlock ∧ k_ ≠ gb117) (fun k_ => ((fun k_ => (w.heap.size ≤ k_) ∧ some k_ ≠ (.slice (some ad122) t119.length co10 : Value).ownBlock ∧ k_ ≠ gb117)) k_ ∧ some k_ ≠ (u4 : Value).ownBlock) rfl rfl ?aP (fun _ hk => hk) ?aF ?aO ?aB ?aS ?aL ?_;(case aP => exact (Kd.FK_slice_mk (Kd.V_reads' (Kd.V_mono (ok' := (fun k_ => ((fun k_ => (w.heap.size ≤ k_) ∧ some k_ ≠ (.slice (some ad122) t119.length co10 : Value).ownBlock ∧ k_ ≠ gb117)) k_ ∧ some k_ ≠ (u4 : Value).ownBlock)) (HL122_0.out) (fun k_ hk => ⟨⟨hk.1.1,⟨hk.2,hk.1.2.2⟩⟩,hk.1.2.1⟩))).2.1 (Kd.V_F (Kd.V_mono (ok' := (fun k_ => ((fun k_ => (w.heap.size ≤ k_) ∧ some k_ ≠ (.slice (some ad122) t119.length co10 : Value).ownBlock ∧ k_ ≠ gb117)) k_ ∧ some k_ ≠ (u4 : Value).ownBlock)) (Kd.V_drewN HL122_0.out _) (fun k_ hk => ⟨⟨hk.1.1,⟨hk.2,hk.1.2.2⟩⟩,hk.1.2.1⟩)))));(case aB => exact (by repeat (first | (with_reducible first | exact HB.out | apply below_alloc | apply pw_below_drewN | apply below_drew1 | refine below_set ?_ GE117.out) | exact HB.out)));(case aF => exact (fun k_ hk => ⟨(Nat.le_trans (below_size (by repeat (first | (with_reducible first | exact HB.out | apply below_alloc | apply pw_below_drewN | apply below_drew1 | refine below_set ?_ GE117.out) | exact HB.out))) hk),Kd.fresh' (Kd.N_lt (by (with_reducible repeat (first | apply Kd.N_alloc | apply Kd.N_drewN | apply Kd.N_drew));exact HO_13.out)) k_ hk,Kd.freshB (g := gb117) (o := .cells #[.slice (some ad124) l0_0.length c0_0, .int .i64 a0_1] 29 (0,0)) (by (with_reducible repeat (first | refine blk_drewN ?_ _ | refine blk_drew ?_ | refine blk_alloc ?_ _));exact BK117.out) k_ hk⟩));(case aO => exact (by (with_reducible repeat (first | apply Kd.N_alloc | apply Kd.N_drewN | apply Kd.N_drew));exact HO_4.out));(case aS => exact (below_size (by repeat (first | (with_reducible first | exact HB.out | apply below_alloc | apply pw_below_drewN | apply below_drew1 | refine below_set ?_ GE117.out) | exact HB.out))));(case aL => have := LMc21.out;omega);intro v128 w23 ho hb hg hat;rw [← Ny127.out] at ho;have n0_ := Aside0.mk (Kd.N_afterv (ok := (fun k_ => (w.heap.size ≤ k_) ∧ k_ ≠ gb117)) (by (with_reducible repeat (first | apply Kd.N_alloc | apply Kd.N_drewN | apply Kd.N_drew));exact Kd.N_mono HO_13.out (fun _ hk => ⟨⟨hk.1,hk.2.2⟩,hk.2.1⟩)) hg hat);have n1_ := Aside0.mk (blk_grown (g := gb117) (o := .cells #[.slice (some ad124) l0_0.length c0_0, .int .i64 a0_1] 29 (0,0)) (by (with_reducible repeat (first | refine blk_drewN ?_ _ | refine blk_drew ?_ | refine blk_alloc ?_ _));exact BK117.out) hg (Kd.N_ne HO_4.out BK117.out (by decide)));have n2_ := Aside0.mk (Kd.V_afterv (ok := (fun k_ => (w.heap.size ≤ k_) ∧ some k_ ≠ (.slice (some ad122) t119.length co10 : Value).ownBlock ∧ k_ ≠ gb117)) (by (with_reducible repeat (first | apply Kd.V_alloc | apply Kd.V_drewN | apply Kd.V_drew));exact Kd.V_mono HL122_0.out (fun _ hk => ⟨⟨hk.1.1,⟨hk.2,hk.1.2.2⟩⟩,hk.1.2.1⟩)) hg hat);have n3_ := Aside0.mk (hb);have n4_ := Aside0.mk (ho);clear HO_13;clear BK117;clear HL122_0;clear HB;clear HO_4;have HO_13 := n0_;have BK117 := n1_;have HL122_0 := n2_;have HB := n3_;have HO129 := n4_;clear n0_ n1_ n2_ n3_ n4_;clear ho hb hg hat)))
               go_roundg k1
               case measure => have := HK1.out;omega
               case rel => exact ⟨(y127),(wrap64 (x15_1 + 1)),(by first | rfl | (simp;done) | (simp [*];done)),H',⟨by have := HK1.out;omega⟩,⟨by (with_reducible repeat (first | apply Kd.N_alloc | apply Kd.N_drewN | apply Kd.N_drew));exact HO129.out⟩,⟨by (with_reducible repeat (first | apply Kd.N_alloc | apply Kd.N_drewN | apply Kd.N_drew));exact Kd.N_mono HO_13.out (fun _ hk => ⟨hk.1.1,⟨hk.2,hk.1.2⟩⟩)⟩,⟨by (with_reducible repeat (first | refine blk_drewN ?_ _ | refine blk_drew ?_ | refine blk_alloc ?_ _));exact BK117.out⟩,⟨by repeat (first | (with_reducible first | exact HB.out | apply below_alloc | apply pw_below_drewN | apply below_drew1 | refine below_set ?_ GE117.out) | exact HB.out)⟩⟩
              ·rw [if_neg c21] at H
               exact absurd H (by simp)
             ·rw [if_neg c20] at H
              have c20b0 : ((rd l0_0 (rd (rd_L1 t119 x15_1) 0)) == (rd l0_0 (rd (rd_L1 t119 x15_1) 1))) = false := beq_eq_false_iff_ne.mpr c20
              have c20b1 : ((rd l0_0 (rd (rd_L1 t119 x15_1) 0)) != (rd l0_0 (rd (rd_L1 t119 x15_1) 1))) = true := bne_iff_ne.mpr c20
              have H' := Aside0.mk H
              clear H
              have p122 : 0 ≤ (x15_1 : Int) := of_decide_eq_true (by first | (with_reducible assumption) | assumption)
              have q122 : x15_1 < (t119.length : Int) := of_decide_eq_true (by first | (with_reducible assumption) | assumption)
              obtain ⟨ad122,A122_0,c122_0,e122,hx122_0,hl122_0,hi122_0⟩ := at_L1 (Kd.N_reads' HO_13.out).2.2 x15_1 p122 q122
              cases e122
              obtain ⟨ce122,hce122,hMe122,hcc122⟩ := Kd.N_get HO_13.out [] x15_1 p122 (by first | exact q122 | exact of_decide_eq_true (by first | (with_reducible assumption) | assumption) | (have e_ := (Kd.N_reads' HO_13.out).1;omega))
              obtain ⟨ua122_0,uc122_0,rfl,ul122_0,ge122_0⟩ := Kd.FK_slice_open hMe122
              have hv122_0 := hcc122 0 _ rfl
              rw [Nat.add_zero,show ((Kd.slice 3 (Kd.int .i64))).sz = 1 from rfl,Nat.mul_one] at hv122_0
              replace hv122_0 := Option.some.inj (hv122_0.symm.trans hx122_0)
              injection hv122_0 with hva_ hvn_ hvc_
              rw [hva_] at ge122_0
              rw [hvc_] at ul122_0
              have HL122_0 := Aside0.mk (show Kd.V (Kd.int .i64) 3 _ w.heap.size _ _ (rd_L1 t119 x15_1) from Kd.V_mk ul122_0 ge122_0)
              clear hva_ hvn_ hvc_ ge122_0 ul122_0
              clear hcc122 hce122
              have HR122_0 := Aside0.mk hi122_0
              have HC122_0 := Aside0.mk hl122_0
              clear hi122_0 hl122_0
              replace p122 := eq_true p122
              replace q122 := eq_true q122
              have hcz24_0 : wr.cell? ⟨gb117,0,none⟩ = some (.slice A0_0 l0_0.length c0_0) := (blk_cell BK117.out 0).trans rfl
              have hcz24_1 : wr.cell? ⟨gb117,1,none⟩ = some (.int .i64 a0_1) := (blk_cell BK117.out 1).trans rfl
              have hfz24_0 := blk_frozen BK117.out 0
              have hfz24_1 := blk_frozen BK117.out 1
              have p123 : 0 ≤ (0 : Int) := (by omega)
              have q123 : 0 < ((rd_L1 t119 x15_1).length : Int) := of_decide_eq_true (by first | (with_reducible assumption) | assumption)
              obtain ⟨ad123,e123,hx123_0⟩ := Kd.at_int (by repeat (first | (with_reducible exact HR122_0.out) | (with_reducible refine Kd.C_alloc ?_ _) | (with_reducible refine Kd.C_drewN ?_ _) | (with_reducible refine Kd.C_drew ?_) | exact HR122_0.out)) 0 p123 q123
              cases e123
              have qi123 : (0 < (rd_L1 t119 x15_1).length) = True := eq_true (by omega)
              (try rw [show ((0 : Int)).toNat = 0 from rfl] at hx123_0)
              (try rw [Addr.add_zero'] at hx123_0)
              replace p123 := eq_true p123
              replace q123 := eq_true q123
              have p124 : 0 ≤ ((rd (rd_L1 t119 x15_1) 0) : Int) := of_decide_eq_true (by first | (with_reducible assumption) | assumption)
              have q124 : (rd (rd_L1 t119 x15_1) 0) < (l0_0.length : Int) := of_decide_eq_true (by first | (with_reducible assumption) | assumption)
              obtain ⟨ad124,e124,hx124_0⟩ := Kd.at_int HR0_0.out (rd (rd_L1 t119 x15_1) 0) p124 q124
              cases e124
              replace hx124_0 := (HB.out.cell (World.block_lt_of_cell? w _ hx124_0)).trans hx124_0
              replace p124 := eq_true p124
              replace q124 := eq_true q124
              have p125 : 0 ≤ (1 : Int) := (by omega)
              have q125 : 1 < ((rd_L1 t119 x15_1).length : Int) := of_decide_eq_true (by first | (with_reducible assumption) | assumption)
              obtain ⟨ad125,e125,hx125_0⟩ := Kd.at_int (by repeat (first | (with_reducible exact HR122_0.out) | (with_reducible refine Kd.C_alloc ?_ _) | (with_reducible refine Kd.C_drewN ?_ _) | (with_reducible refine Kd.C_drew ?_) | exact HR122_0.out)) 1 p125 q125
              obtain rfl : ad123 = ad125 := (by injection e125)
              (try simp only [show (1 : Int).toNat = 1 from rfl,Nat.reduceMul,Nat.reduceEqDiff,Go.Addr.add, ↓reduceIte] at hx125_0)
              have qi125 : (1 < (rd_L1 t119 x15_1).length) = True := eq_true (by omega)
              (try rw [show ((1 : Int)).toNat = 1 from rfl] at hx125_0)
              replace p125 := eq_true p125
              replace q125 := eq_true q125
              have p126 : 0 ≤ ((rd (rd_L1 t119 x15_1) 1) : Int) := of_decide_eq_true (by first | (with_reducible assumption) | assumption)
              have q126 : (rd (rd_L1 t119 x15_1) 1) < (l0_0.length : Int) := of_decide_eq_true (by first | (with_reducible assumption) | assumption)
              obtain ⟨ad126,e126,hx126_0⟩ := Kd.at_int HR0_0.out (rd (rd_L1 t119 x15_1) 1) p126 q126
              obtain rfl : ad124 = ad126 := (by injection e126)
              replace hx126_0 := (HB.out.cell (World.block_lt_of_cell? w _ hx126_0)).trans hx126_0
              replace p126 := eq_true p126
              replace q126 := eq_true q126
              go_wp2
              repeat (go_quiet (fail);try go_wp2)
              go_roundg k1
              case measure => have := HK1.out;omega
              case rel => exact ⟨(x4_1),(wrap64 (x15_1 + 1)),(by first | rfl | (simp;done) | (simp [*];done)),H',⟨by have := HK1.out;omega⟩,⟨by (with_reducible repeat (first | apply Kd.N_alloc | apply Kd.N_drewN | apply Kd.N_drew));exact HO_4.out⟩,⟨by (with_reducible repeat (first | apply Kd.N_alloc | apply Kd.N_drewN | apply Kd.N_drew));exact HO_13.out⟩,⟨by (with_reducible repeat (first | refine blk_drewN ?_ _ | refine blk_drew ?_ | refine blk_alloc ?_ _));exact BK117.out⟩,⟨by repeat (first | (with_reducible first | exact HB.out | apply below_alloc | apply pw_below_drewN | apply below_drew1 | refine below_set ?_ GE117.out) | exact HB.out)⟩⟩
            ·rw [if_neg c19] at H
             exact absurd H (by simp)
           ·rw [if_neg c18] at H
            exact absurd H (by simp)
          ·rw [if_neg c17] at H
           exact absurd H (by simp)
         ·rw [if_neg c16] at H
          exact absurd H (by simp)
        ·rw [if_neg c15] at H
         exact absurd H (by simp)
       ·rw [if_neg c14] at H
        exact absurd H (by simp)
      ·rw [if_neg c13] at H
       exact absurd H (by simp)
     ·rw [if_neg c12] at H
      exact absurd H (by simp)
    ·rw [if_neg c11] at H
     have c11b0 : decide (x15_1 < (t119.length : Int)) = false := decide_eq_false c11
     clear c11
     simp only [Option.some.injEq,Prod.mk.injEq] at H
     obtain ⟨rfl,rfl⟩ := H
     go_wp2
     repeat (go_quiet (fail);try go_wp2)
     go_ret2
     exact ⟨_,by first | rfl | (simp [errW_none,errW_some] <;> rfl) | (simp [*,errW_none,errW_some] <;> rfl),by (with_reducible repeat (first | apply Kd.N_alloc | apply Kd.N_drewN | apply Kd.N_drew));exact Kd.N_mono HO_4.out (fun _ hk => hk.1),by repeat (first | (with_reducible first | exact HB.out | apply below_alloc | apply pw_below_drewN | apply below_drew1 | refine below_set ?_ GE117.out) | exact HB.out)⟩
 ·replace c3 := Bool.eq_false_iff.mpr c3
  subst c3
  have H1 : (some (([] : List (List Int)),false)) = some (r1,r2) := by rw [if_neg (show ¬ (false = true) by decide)] at H;exact H
  clear H
  have H := H1
  clear H1
  simp only [Option.some.injEq,Prod.mk.injEq] at H
  obtain ⟨rfl,rfl⟩ := H
  go_enter Try.func9,Try.ntmps9
  go_wp2_with (first | ((with_reducible refine gate_dst (N := 1) rfl ?_);refine box_event ?hg (N := 1) ?hd (cs := #[.slice A0_0 l0_0.length c0_0, .int .i64 a0_1]) (t := 29) ?hr ?_;(case hd => rfl);(case hg => rfl);(case hr => first | (go_simp;done) | (go_simp;rfl));intro gb117 hg w25 hbox hb;have n0_ := Aside0.mk (below_step (by repeat (first | (with_reducible first | exact HB.out | apply below_alloc | apply pw_below_drewN | apply below_drew1) | exact HB.out)) hb);have n1_ := Aside0.mk (hbox);have n2_ := Aside0.mk ((by rw [hg];exact (below_size (by repeat (first | (with_reducible first | exact HB.out | apply below_alloc | apply pw_below_drewN | apply below_drew1) | exact HB.out))) : w.heap.size ≤ gb117));have n3_ := Aside0.mk ((by rw [hg];exact (below_size (by repeat (first | (with_reducible first | exact HB.out | apply below_alloc | apply pw_below_drewN | apply below_drew1) | exact HB.out))) : w.heap.size ≤ gb117));clear HB;have HB := n0_;have BK117 := n1_;have GW117 := n2_;have GE117 := n3_;clear n0_ n1_ n2_ n3_;clear hb hbox hg;have hcz26_0 : w25.cell? ⟨gb117,0,none⟩ = some (.slice A0_0 l0_0.length c0_0) := (blk_cell BK117.out 0).trans rfl;have hcz26_1 : w25.cell? ⟨gb117,1,none⟩ = some (.int .i64 a0_1) := (blk_cell BK117.out 1).trans rfl;have hfz26_0 := blk_frozen BK117.out 0;have hfz26_1 := blk_frozen BK117.out 1) | (go_at_call 29;(with_reducible refine (spec_cuGood.calls k _ _ l0_0 a0_1 false _ ?side1 ?side2 A2.out).mono ?_);(case side1 => repeat (first | exact (Kd.C_below HR0_0.out HB.out) | (with_reducible refine Kd.C_alloc ?_ _) | (with_reducible refine Kd.C_drewN ?_ _) | (with_reducible refine Kd.C_drew ?_)));(case side2 => exact HC0_0.out);rintro e w27 ⟨rfl,hb⟩;have n0_ := Aside0.mk (blk_below (g := gb117) (o := .cells #[.slice A0_0 l0_0.length c0_0, .int .i64 a0_1] 29 (0,0)) (by (with_reducible repeat (first | refine blk_drewN ?_ _ | refine blk_drew ?_ | refine blk_alloc ?_ _));exact BK117.out) hb);have n1_ := Aside0.mk (below_step (by repeat (first | (with_reducible first | exact HB.out | apply below_alloc | apply pw_below_drewN | apply below_drew1 | refine below_set ?_ GE117.out) | exact HB.out)) hb);clear BK117;clear HB;have BK117 := n0_;have HB := n1_;clear n0_ n1_;(try clear hb);(try clear hb2);(try clear hk);(try clear hi)))
  repeat (go_quiet (first | ((with_reducible refine gate_dst (N := 1) rfl ?_);refine box_event ?hg (N := 1) ?hd (cs := #[.slice A0_0 l0_0.length c0_0, .int .i64 a0_1]) (t := 29) ?hr ?_;(case hd => rfl);(case hg => rfl);(case hr => first | (go_simp;done) | (go_simp;rfl));intro gb117 hg w25 hbox hb;have n0_ := Aside0.mk (below_step (by repeat (first | (with_reducible first | exact HB.out | apply below_alloc | apply pw_below_drewN | apply below_drew1) | exact HB.out)) hb);have n1_ := Aside0.mk (hbox);have n2_ := Aside0.mk ((by rw [hg];exact (below_size (by repeat (first | (with_reducible first | exact HB.out | apply below_alloc | apply pw_below_drewN | apply below_drew1) | exact HB.out))) : w.heap.size ≤ gb117));have n3_ := Aside0.mk ((by rw [hg];exact (below_size (by repeat (first | (with_reducible first | exact HB.out | apply below_alloc | apply pw_below_drewN | apply below_drew1) | exact HB.out))) : w.heap.size ≤ gb117));clear HB;have HB := n0_;have BK117 := n1_;have GW117 := n2_;have GE117 := n3_;clear n0_ n1_ n2_ n3_;clear hb hbox hg;have hcz26_0 : w25.cell? ⟨gb117,0,none⟩ = some (.slice A0_0 l0_0.length c0_0) := (blk_cell BK117.out 0).trans rfl;have hcz26_1 : w25.cell? ⟨gb117,1,none⟩ = some (.int .i64 a0_1) := (blk_cell BK117.out 1).trans rfl;have hfz26_0 := blk_frozen BK117.out 0;have hfz26_1 := blk_frozen BK117.out 1) | (go_at_call 29;(with_reducible refine (spec_cuGood.calls k _ _ l0_0 a0_1 false _ ?side1 ?side2 A2.out).mono ?_);(case side1 => repeat (first | exact (Kd.C_below HR0_0.out HB.out) | (with_reducible refine Kd.C_alloc ?_ _) | (with_reducible refine Kd.C_drewN ?_ _) | (with_reducible refine Kd.C_drew ?_)));(case side2 => exact HC0_0.out);rintro e w27 ⟨rfl,hb⟩;have n0_ := Aside0.mk (blk_below (g := gb117) (o := .cells #[.slice A0_0 l0_0.length c0_0, .int .i64 a0_1] 29 (0,0)) (by (with_reducible repeat (first | refine blk_drewN ?_ _ | refine blk_drew ?_ | refine blk_alloc ?_ _));exact BK117.out) hb);have n1_ := Aside0.mk (below_step (by repeat (first | (with_reducible first | exact HB.out | apply below_alloc | apply pw_below_drewN | apply below_drew1 | refine below_set ?_ GE117.out) | exact HB.out)) hb);clear BK117;clear HB;have BK117 := n0_;have HB := n1_;clear n0_ n1_;(try clear hb);(try clear hb2);(try clear hk);(try clear hi)));try go_wp2_with (first | ((with_reducible refine gate_dst (N := 1) rfl ?_);refine box_event ?hg (N := 1) ?hd (cs := #[.slice A0_0 l0_0.length c0_0, .int .i64 a0_1]) (t := 29) ?hr ?_;(case hd => rfl);(case hg => rfl);(case hr => first | (go_simp;done) | (go_simp;rfl));intro gb117 hg w25 hbox hb;have n0_ := Aside0.mk (below_step (by repeat (first | (with_reducible first | exact HB.out | apply below_alloc | apply pw_below_drewN | apply below_drew1) | exact HB.out)) hb);have n1_ := Aside0.mk (hbox);have n2_ := Aside0.mk ((by rw [hg];exact (below_size (by repeat (first | (with_reducible first | exact HB.out | apply below_alloc | apply pw_below_drewN | apply below_drew1) | exact HB.out))) : w.heap.size ≤ gb117));have n3_ := Aside0.mk ((by rw [hg];exact (below_size (by repeat (first | (with_reducible first | exact HB.out | apply below_alloc | apply pw_below_drewN | apply below_drew1) | exact HB.out))) : w.heap.size ≤ gb117));clear HB;have HB := n0_;have BK117 := n1_;have GW117 := n2_;have GE117 := n3_;clear n0_ n1_ n2_ n3_;clear hb hbox hg;have hcz26_0 : w25.cell? ⟨gb117,0,none⟩ = some (.slice A0_0 l0_0.length c0_0) := (blk_cell BK117.out 0).trans rfl;have hcz26_1 : w25.cell? ⟨gb117,1,none⟩ = some (.int .i64 a0_1) := (blk_cell BK117.out 1).trans rfl;have hfz26_0 := blk_frozen BK117.out 0;have hfz26_1 := blk_frozen BK117.out 1) | (go_at_call 29;(with_reducible refine (spec_cuGood.calls k _ _ l0_0 a0_1 false _ ?side1 ?side2 A2.out).mono ?_);(case side1 => repeat (first | exact (Kd.C_below HR0_0.out HB.out) | (with_reducible refine Kd.C_alloc ?_ _) | (with_reducible refine Kd.C_drewN ?_ _) | (with_reducible refine Kd.C_drew ?_)));(case side2 => exact HC0_0.out);rintro e w27 ⟨rfl,hb⟩;have n0_ := Aside0.mk (blk_below (g := gb117) (o := .cells #[.slice A0_0 l0_0.length c0_0, .int .i64 a0_1] 29 (0,0)) (by (with_reducible repeat (first | refine blk_drewN ?_ _ | refine blk_drew ?_ | refine blk_alloc ?_ _));exact BK117.out) hb);have n1_ := Aside0.mk (below_step (by repeat (first | (with_reducible first | exact HB.out | apply below_alloc | apply pw_below_drewN | apply below_drew1 | refine below_set ?_ GE117.out) | exact HB.out)) hb);clear BK117;clear HB;have BK117 := n0_;have HB := n1_;clear n0_ n1_;(try clear hb);(try clear hb2);(try clear hk);(try clear hi))))
  go_ret2
  exact ⟨_,by first | rfl | (simp [errW_none,errW_some] <;> rfl) | (simp [*,errW_none,errW_some] <;> rfl),by first | exact Kd.S_nil _ _ _ _ _ | exact Kd.N_nil _ _ _ _ _ | exact Kd.V_nil _ _ _ _ _ | exact Kd.Q_nil _ _ _ _ _ | exact Kd.R_nil _ _ _ _ _,by repeat (first | (with_reducible first | exact HB.out | apply below_alloc | apply pw_below_drewN | apply below_drew1 | refine below_set ?_ GE117.out) | exact HB.out)⟩

end Go.Proofs.Ytmkpngmdikbbeaa.P
