/- Written by a program of this workplace (own_print.py, over the kit's print) for the functions that the statements reach, with contracts of its own. Lean checks it. -/
import Derived.Test.YtmkpngmdikbbeaaPx0
import Derived.Test.YtmkpngmdikbbeaaPx5
import Derived.Test.YtmkpngmdikbbeaaPx6
namespace Go.Proofs.Ytmkpngmdikbbeaa.P
open Go.RowKit Go.Proofs.YtmkpngmdikbbeaaW.PrintWords Go.Proofs.YtmkpngmdikbbeaaW.PrintLast Go.Proofs.YtmkpngmdikbbeaaW.PrintMore
attribute [local go_sem] max2_int min2_int max_two min_two max_three min_three max_four min_four   -- for this text's walks alone
set_option linter.unusedVariables false
set_option linter.unusedSimpArgs false

/-! ### spec_cuPlay: function 39 -/
mutual
def spec_cuPlay.l0 : Nat → List (List Int) → Int → Int → List Int → Int → List Int → Int → Option (List Int × Int × Bool)
 | 0,_,_,_,_,_,_,_ => none
 | k + 1,x13,x14,x15,x223000,x223001,x229000,x229001 => if x15 < x14 then (if 0 ≤ x15 then (if x15 < (x13.length : Int) then (if ((rd_L1 x13 x15).length : Int) = 2 then (if 0 < ((rd_L1 x13 x15).length : Int) then (if 1 < ((rd_L1 x13 x15).length : Int) then ((spec_cuTwo.f x223000 x223001 (rd (rd_L1 x13 x15) 0) (rd (rd_L1 x13 x15) 1)).bind fun t232 => (if t232 = true then (spec_cuPlay.j1 k (rd_L1 x13 x15) x13 x14 x15 (decide ((rd (rd_L1 x13 x15) 0) > (rd (rd_L1 x13 x15) 1))) x223000 x223001 x229000 x229001) else (spec_cuPlay.j1 k (rd_L1 x13 x15) x13 x14 x15 true x223000 x223001 x229000 x229001))) else (none)) else (none)) else (spec_cuPlay.j1 k (rd_L1 x13 x15) x13 x14 x15 true x223000 x223001 x229000 x229001)) else (none)) else (none)) else (some (x229000,x229001,true))
def spec_cuPlay.j1 : Nat → List Int → List (List Int) → Int → Int → Bool → List Int → Int → List Int → Int → Option (List Int × Int × Bool)
 | 0,_,_,_,_,_,_,_,_,_ => none
 | k + 1,x8,x13,x14,x15,x41,x223000,x223001,x229000,x229001 => if x41 = true then (some (([] : List Int),0,false)) else (if 0 < (x8.length : Int) then (if 1 < (x8.length : Int) then ((spec_cuMix.f k x229000 x229001 (rd x8 0) (rd x8 1)).bind fun bt237 => (if bt237.2.2 = true then (spec_cuPlay.l0 k x13 x14 (wrap64 (x15 + 1)) x223000 x223001 bt237.1 bt237.2.1) else (some (([] : List Int),0,false)))) else (none)) else (none))
end
def spec_cuPlay.f (k : Nat) (l0_0 : List Int) (a0_1 : Int) (l1 : List (List Int)) : Option (List Int × Int × Bool) := (spec_cuLow.f k l0_0 a0_1).bind fun bt224 => (spec_cuPlay.l0 k l1 (l1.length : Int) 0 l0_0 a0_1 bt224.1 bt224.2)
theorem spec_cuPlay.mono_l : ∀ k,(∀ y0 y1 y2 y3 y4 y5 y6,LeO (spec_cuPlay.l0 k y0 y1 y2 y3 y4 y5 y6) (spec_cuPlay.l0 (k + 1) y0 y1 y2 y3 y4 y5 y6)) ∧ (∀ y0 y1 y2 y3 y4 y5 y6 y7 y8,LeO (spec_cuPlay.j1 k y0 y1 y2 y3 y4 y5 y6 y7 y8) (spec_cuPlay.j1 (k + 1) y0 y1 y2 y3 y4 y5 y6 y7 y8))
 | 0 => ⟨fun _ _ _ _ _ _ _ r h => by simp [spec_cuPlay.l0] at h,fun _ _ _ _ _ _ _ _ _ r h => by simp [spec_cuPlay.j1] at h⟩
 | k + 1 => by
  obtain ⟨ih0,ih1⟩ := spec_cuPlay.mono_l k
  refine ⟨?_,?_⟩
  ·intro y0 y1 y2 y3 y4 y5 y6
   unfold spec_cuPlay.l0
   repeat' first
   | (with_reducible exact ih0 _ _ _ _ _ _ _)
   | (with_reducible exact ih1 _ _ _ _ _ _ _ _ _)
   | (with_reducible exact spec_cuLow.mono _ _ _)
   | (with_reducible exact spec_cuMix.mono _ _ _ _ _)
   | (with_reducible exact LeO.refl _)
   | (with_reducible exact LeO.none _)
   | (with_reducible refine LeO.ite ?_ ?_)
   | (with_reducible refine LeO.bind ?_ (fun _ => ?_))
   | exact ih0 _ _ _ _ _ _ _
   | exact ih1 _ _ _ _ _ _ _ _ _
   | exact spec_cuLow.mono _ _ _
   | exact spec_cuMix.mono _ _ _ _ _
   | exact LeO.none _
   | refine LeO.ite ?_ ?_
   | refine LeO.bind ?_ (fun _ => ?_)
  ·intro y0 y1 y2 y3 y4 y5 y6 y7 y8
   unfold spec_cuPlay.j1
   repeat' first
   | (with_reducible exact ih0 _ _ _ _ _ _ _)
   | (with_reducible exact ih1 _ _ _ _ _ _ _ _ _)
   | (with_reducible exact spec_cuLow.mono _ _ _)
   | (with_reducible exact spec_cuMix.mono _ _ _ _ _)
   | (with_reducible exact LeO.refl _)
   | (with_reducible exact LeO.none _)
   | (with_reducible refine LeO.ite ?_ ?_)
   | (with_reducible refine LeO.bind ?_ (fun _ => ?_))
   | exact ih0 _ _ _ _ _ _ _
   | exact ih1 _ _ _ _ _ _ _ _ _
   | exact spec_cuLow.mono _ _ _
   | exact spec_cuMix.mono _ _ _ _ _
   | exact LeO.none _
   | refine LeO.ite ?_ ?_
   | refine LeO.bind ?_ (fun _ => ?_)
theorem spec_cuPlay.mono : ∀ a0 a1 a2 k,LeO (spec_cuPlay.f k a0 a1 a2) (spec_cuPlay.f (k + 1) a0 a1 a2) := by
 intro a0 a1 a2 k
 obtain ⟨ih0,ih1⟩ := spec_cuPlay.mono_l k
 unfold spec_cuPlay.f
 repeat' first
   | (with_reducible exact ih0 _ _ _ _ _ _ _)
   | (with_reducible exact ih1 _ _ _ _ _ _ _ _ _)
   | (with_reducible exact spec_cuLow.mono _ _ _)
   | (with_reducible exact spec_cuMix.mono _ _ _ _ _)
   | (with_reducible exact LeO.refl _)
   | (with_reducible exact LeO.none _)
   | (with_reducible refine LeO.ite ?_ ?_)
   | (with_reducible refine LeO.bind ?_ (fun _ => ?_))
   | exact ih0 _ _ _ _ _ _ _
   | exact ih1 _ _ _ _ _ _ _ _ _
   | exact spec_cuLow.mono _ _ _
   | exact spec_cuMix.mono _ _ _ _ _
   | exact LeO.none _
   | refine LeO.ite ?_ ?_
   | refine LeO.bind ?_ (fun _ => ?_)
def spec_cuPlay.T5 : Bool × List (List Nat × List Nat) := (true,[([],[]),([0],[0]),([1],[1]),([2],[2]),([3],[3]),([3],[3]),([5,3],[3,5]),([6,3],[3,6]),([3],[3]),([8,3],[3,8]),([9,3],[3,9]),([4,7,10,3,3],[3,4,7,10]),([11,3],[3,11]),([3,12],[3,12]),([13,11],[13]),([14],[14]),([15,14],[14,15]),([16,14],[14,16]),([14],[14]),([18,14],[14,18]),([19,14],[14,19]),([17,20,14],[14,17,20]),([14,21],[14,21])])
def spec_cuPlay.B5 : List Nat := [0,1,3,7,15,15,47,111,15,271,783,2047,4095,8191,16383,32767,65535,131071,32767,294911,819199,2097151,4194303]
theorem spec_cuPlay.tab5 : rtab .any (opsOf Try.f39 5) = spec_cuPlay.T5 := by kernel_rfl
theorem spec_cuPlay.bits5 : waitsOk spec_cuPlay.T5.2 spec_cuPlay.B5 = true := by kernel_rfl
def spec_cuPlay.T7 : Bool × List (List Nat × List Nat) := (true,[([],[]),([],[]),([1],[1]),([2],[2]),([],[]),([4],[4]),([5],[5]),([0,3,6],[0,3,6]),([7],[7]),([8],[8]),([8],[8]),([],[]),([11,9,7,0,1,2,3,4,5,6,7,8,9,11],[9,11]),([10,12,0,1,2,3,4,5,6,7,8,9,10,11,12],[10])])
def spec_cuPlay.B7 : List Nat := [0,0,2,6,0,16,48,127,255,511,511,0,3071,8191]
theorem spec_cuPlay.tab7 : rtab .any (opsOf Try.f39 7) = spec_cuPlay.T7 := by kernel_rfl
theorem spec_cuPlay.bits7 : waitsOk spec_cuPlay.T7.2 spec_cuPlay.B7 = true := by kernel_rfl
set_option maxHeartbeats 8000000 in
set_option maxRecDepth 100000 in
theorem spec_cuPlay.calls (k : Nat) (A0_0 : Option Addr) (c0_0 : Nat) (l0_0 : List Int) (a0_1 : Int) (A1 : Option Addr) (c1 : Nat) (l1 : List (List Int)) (r1 : List Int) (r2 : Int) (r3 : Bool) (w : World) (hr0_0 : Kd.C (Kd.int .i64) w A0_0 l0_0.length l0_0) (hc0_0 : l0_0.length ≤ c0_0) (hr1 : Kd.C (Kd.slice 3 (Kd.int .i64)) w A1 l1.length l1) (hc1 : l1.length ≤ c1) (h : spec_cuPlay.f k l0_0 a0_1 l1 = some (r1,r2,r3)) :
  Calls Try.prog 39 #[.agg #[.slice A0_0 l0_0.length c0_0, .int .i64 a0_1], .slice A1 l1.length c1] w fun e w' => ∃ v0_ : Value,e = .returned (.tuple #[.agg #[v0_, .int .i64 r2], .bool r3]) ∧ Kd.R (Kd.int .i64) 3 w' w.heap.size (fun _ => True) v0_ r1 ∧ Below w.heap.size w w' := by
 have hu29 := Try.underlying29
 have HR0_0 := Aside0.mk hr0_0
 have HC0_0 := Aside0.mk hc0_0
 clear hr0_0 hc0_0
 have HR1 := Aside0.mk hr1
 have HC1 := Aside0.mk hc1
 clear hr1 hc1
 have HB := Aside0.mk (Below.refl w.heap.size w)
 have H : ((spec_cuLow.f k l0_0 a0_1).bind fun bt224 => (spec_cuPlay.l0 k l1 (l1.length : Int) 0 l0_0 a0_1 bt224.1 bt224.2)) = some (r1,r2,r3) := h
 clear h
 replace H := Option.bind_eq_some_iff.mp H
 obtain ⟨⟨t224,t227⟩,A30,H⟩ := H
 replace H : (spec_cuPlay.l0 k l1 (l1.length : Int) 0 l0_0 a0_1 t224 t227) = some (r1,r2,r3) := H
 have A3 := Aside0.mk A30
 clear A30
 have H' := Aside0.mk H
 clear H
 go_enter Try.func39,Try.ntmps39
 go_wp2_with (first | ((with_reducible refine gate_dst (N := 2) rfl ?_);refine box_event ?hg (N := 2) ?hd (cs := #[.slice A0_0 l0_0.length c0_0, .int .i64 a0_1]) (t := 29) ?hr ?_;(case hd => rfl);(case hg => rfl);(case hr => first | (go_simp;done) | (go_simp;rfl));intro gb222 hg w4 hbox hb;have n0_ := Aside0.mk (below_step (by repeat (first | (with_reducible first | exact HB.out | apply below_alloc | apply pw_below_drewN | apply below_drew1) | exact HB.out)) hb);have n1_ := Aside0.mk (hbox);have n2_ := Aside0.mk ((by rw [hg];exact (below_size (by repeat (first | (with_reducible first | exact HB.out | apply below_alloc | apply pw_below_drewN | apply below_drew1) | exact HB.out))) : w.heap.size ≤ gb222));have n3_ := Aside0.mk ((by rw [hg];exact (below_size (by repeat (first | (with_reducible first | exact HB.out | apply below_alloc | apply pw_below_drewN | apply below_drew1) | exact HB.out))) : w.heap.size ≤ gb222));clear HB;have HB := n0_;have BK222 := n1_;have GW222 := n2_;have GE222 := n3_;clear n0_ n1_ n2_ n3_;clear hb hbox hg) | ((with_reducible refine gate_dst (N := 4) rfl ?_);refine box_event ?hg (N := 4) ?hd (cs := #[.slice none 0 0, .int .i64 0]) (t := 29) ?hr ?_;(case hd => rfl);(case hg => rfl);(case hr => first | (go_simp;done) | (go_simp;rfl));intro gb223 hg w5 hbox hb;have n0_ := Aside0.mk (blk_below (g := gb222) (o := .cells #[.slice A0_0 l0_0.length c0_0, .int .i64 a0_1] 29 (0,0)) (by (with_reducible repeat (first | refine blk_drewN ?_ _ | refine blk_drew ?_ | refine blk_alloc ?_ _));exact BK222.out) hb);have n1_ := Aside0.mk (below_step (by repeat (first | (with_reducible first | exact HB.out | apply below_alloc | apply pw_below_drewN | apply below_drew1 | refine below_set ?_ GE222.out) | exact HB.out)) hb);have n2_ := Aside0.mk (hbox);have n3_ := Aside0.mk ((by rw [hg];exact (below_size (by repeat (first | (with_reducible first | exact HB.out | apply below_alloc | apply pw_below_drewN | apply below_drew1 | refine below_set ?_ GE222.out) | exact HB.out))) : w.heap.size ≤ gb223));have n4_ := Aside0.mk ((by rw [hg];exact (below_size (by repeat (first | (with_reducible first | exact HB.out | apply below_alloc | apply pw_below_drewN | apply below_drew1 | refine below_set ?_ GE222.out) | exact HB.out))) : w.heap.size ≤ gb223));have n5_ := Aside0.mk ((by rw [hg];exact Nat.ne_of_lt (blk_lt (g := gb222) (o := .cells #[.slice A0_0 l0_0.length c0_0, .int .i64 a0_1] 29 (0,0)) (by (with_reducible repeat (first | refine blk_drewN ?_ _ | refine blk_drew ?_ | refine blk_alloc ?_ _));exact BK222.out)) : gb222 ≠ gb223));have n6_ := Aside0.mk ((by rw [hg];exact Nat.ne_of_gt (blk_lt (g := gb222) (o := .cells #[.slice A0_0 l0_0.length c0_0, .int .i64 a0_1] 29 (0,0)) (by (with_reducible repeat (first | refine blk_drewN ?_ _ | refine blk_drew ?_ | refine blk_alloc ?_ _));exact BK222.out)) : gb223 ≠ gb222));clear BK222;clear HB;have BK222 := n0_;have HB := n1_;have BK223 := n2_;have GW223 := n3_;have GE223 := n4_;have NB222_223 := n5_;have NB223_222 := n6_;clear n0_ n1_ n2_ n3_ n4_ n5_ n6_;clear hb hbox hg;have hnb6 := NB222_223.out;have hnc6 := NB223_222.out;have hcz7_0 : w5.cell? ⟨gb222,0,none⟩ = some (.slice A0_0 l0_0.length c0_0) := (blk_cell BK222.out 0).trans rfl;have hcz7_1 : w5.cell? ⟨gb222,1,none⟩ = some (.int .i64 a0_1) := (blk_cell BK222.out 1).trans rfl;have hfz7_0 := blk_frozen BK222.out 0;have hfz7_1 := blk_frozen BK222.out 1) | ((with_reducible refine gate_callee (f := 56) rfl ?_);refine goesL_ (some 12) rfl rfl Try.func56 (by kernel_rfl) rfl #[.agg #[.slice A0_0 l0_0.length c0_0, .int .i64 a0_1]] rfl (by (try simp only [List.map_toArray,List.map_cons,List.map_nil]);first | done | rfl | (simp only [List.length_drop,List.length_take];rfl)) ?_;(with_reducible refine (spec_cuLow.calls k _ _ l0_0 a0_1 t224 t227 _ ?side1 ?side2 A3.out).mono ?_);(case side1 => repeat (first | exact (Kd.C_below HR0_0.out HB.out) | (with_reducible refine Kd.C_alloc ?_ _) | (with_reducible refine Kd.C_drewN ?_ _) | (with_reducible refine Kd.C_drew ?_)));(case side2 => exact HC0_0.out);rintro e w8 ⟨v225,rfl,ho0,hb⟩;refine ⟨_,rfl,?_⟩;have n0_ := Aside0.mk (Kd.R_lower ho0 (below_size (by repeat (first | (with_reducible first | exact HB.out | apply below_alloc | apply pw_below_drewN | apply below_drew1 | refine below_set ?_ GE222.out | refine below_set ?_ GE223.out) | exact HB.out))));have n1_ := Aside0.mk (blk_below (g := gb222) (o := .cells #[.slice A0_0 l0_0.length c0_0, .int .i64 a0_1] 29 (0,0)) (by (with_reducible repeat (first | refine blk_drewN ?_ _ | refine blk_drew ?_ | refine blk_alloc ?_ _));exact BK222.out) hb);have n2_ := Aside0.mk (blk_below (g := gb223) (o := .cells #[.slice none 0 0, .int .i64 0] 29 (0,0)) (by (with_reducible repeat (first | refine blk_drewN ?_ _ | refine blk_drew ?_ | refine blk_alloc ?_ _));exact BK223.out) hb);have n3_ := Aside0.mk (below_step (by repeat (first | (with_reducible first | exact HB.out | apply below_alloc | apply pw_below_drewN | apply below_drew1 | refine below_set ?_ GE222.out | refine below_set ?_ GE223.out) | exact HB.out)) hb);clear BK222;clear BK223;clear HB;have HO226 := n0_;have BK222 := n1_;have BK223 := n2_;have HB := n3_;clear n0_ n1_ n2_ n3_;(try clear hb);(try clear hb2);(try clear hk);(try clear hi);(try clear ho0)) | ((with_reducible refine gate_dst (N := 6) rfl ?_);refine box_event ?hg (N := 6) ?hd (cs := #[.slice none 0 0, .int .i64 0]) (t := 29) ?hr ?_;(case hd => rfl);(case hg => rfl);(case hr => first | (go_simp;done) | (go_simp;rfl));intro gb228 hg w9 hbox hb;have n0_ := Aside0.mk (Kd.R_below (by (with_reducible repeat (first | apply Kd.R_alloc | apply Kd.R_drewN | apply Kd.R_drew));exact HO226.out) hb);have n1_ := Aside0.mk (blk_below (g := gb222) (o := .cells #[.slice A0_0 l0_0.length c0_0, .int .i64 a0_1] 29 (0,0)) (by (with_reducible repeat (first | refine blk_drewN ?_ _ | refine blk_drew ?_ | refine blk_alloc ?_ _));exact BK222.out) hb);have n2_ := Aside0.mk (blk_below (g := gb223) (o := .cells #[.slice none 0 0, .int .i64 0] 29 (0,0)) (by (with_reducible repeat (first | refine blk_drewN ?_ _ | refine blk_drew ?_ | refine blk_alloc ?_ _));exact BK223.out) hb);have n3_ := Aside0.mk (below_step (by repeat (first | (with_reducible first | exact HB.out | apply below_alloc | apply pw_below_drewN | apply below_drew1 | refine below_set ?_ GE222.out | refine below_set ?_ GE223.out) | exact HB.out)) hb);have n4_ := Aside0.mk (hbox);have n5_ := Aside0.mk ((by rw [hg];exact (below_size (by repeat (first | (with_reducible first | exact HB.out | apply below_alloc | apply pw_below_drewN | apply below_drew1 | refine below_set ?_ GE222.out | refine below_set ?_ GE223.out) | exact HB.out))) : w.heap.size ≤ gb228));have n6_ := Aside0.mk ((by rw [hg];exact (below_size (by repeat (first | (with_reducible first | exact HB.out | apply below_alloc | apply pw_below_drewN | apply below_drew1 | refine below_set ?_ GE222.out | refine below_set ?_ GE223.out) | exact HB.out))) : w.heap.size ≤ gb228));have n7_ := Aside0.mk ((by rw [hg];exact Nat.ne_of_lt (blk_lt (g := gb222) (o := .cells #[.slice A0_0 l0_0.length c0_0, .int .i64 a0_1] 29 (0,0)) (by (with_reducible repeat (first | refine blk_drewN ?_ _ | refine blk_drew ?_ | refine blk_alloc ?_ _));exact BK222.out)) : gb222 ≠ gb228));have n8_ := Aside0.mk ((by rw [hg];exact Nat.ne_of_gt (blk_lt (g := gb222) (o := .cells #[.slice A0_0 l0_0.length c0_0, .int .i64 a0_1] 29 (0,0)) (by (with_reducible repeat (first | refine blk_drewN ?_ _ | refine blk_drew ?_ | refine blk_alloc ?_ _));exact BK222.out)) : gb228 ≠ gb222));have n9_ := Aside0.mk ((by rw [hg];exact Nat.ne_of_lt (blk_lt (g := gb223) (o := .cells #[.slice none 0 0, .int .i64 0] 29 (0,0)) (by (with_reducible repeat (first | refine blk_drewN ?_ _ | refine blk_drew ?_ | refine blk_alloc ?_ _));exact BK223.out)) : gb223 ≠ gb228));have n10_ := Aside0.mk ((by rw [hg];exact Nat.ne_of_gt (blk_lt (g := gb223) (o := .cells #[.slice none 0 0, .int .i64 0] 29 (0,0)) (by (with_reducible repeat (first | refine blk_drewN ?_ _ | refine blk_drew ?_ | refine blk_alloc ?_ _));exact BK223.out)) : gb228 ≠ gb223));clear HO226;clear BK222;clear BK223;clear HB;have HO226 := n0_;have BK222 := n1_;have BK223 := n2_;have HB := n3_;have BK228 := n4_;have GW228 := n5_;have GE228 := n6_;have NB222_228 := n7_;have NB228_222 := n8_;have NB223_228 := n9_;have NB228_223 := n10_;clear n0_ n1_ n2_ n3_ n4_ n5_ n6_ n7_ n8_ n9_ n10_;clear hb hbox hg;obtain ⟨Ao10,co10,eo10⟩ := Kd.R_slice HO226.out;subst eo10;have hnb11 := NB228_222.out;have hnc11 := NB222_228.out;have hnb12 := NB228_223.out;have hnc12 := NB223_228.out;have hcz13_0 : w9.cell? ⟨gb228,0,none⟩ = some (.slice none 0 0) := (blk_cell BK228.out 0).trans rfl;have hcz13_1 : w9.cell? ⟨gb228,1,none⟩ = some (.int .i64 0) := (blk_cell BK228.out 1).trans rfl;have hfz13_0 := blk_frozen BK228.out 0;have hfz13_1 := blk_frozen BK228.out 1))
 go_loopg [15] k (fun kq v15 w' => ∃ (x15_1 : Int) (x224001_1 : Int) (x229000_1 : List Int) (x229001_1 : Int) (u229000 : Value),v15 = .int .i64 x15_1 ∧ Aside0 (spec_cuPlay.l0 kq l1 (l1.length : Int) x15_1 l0_0 a0_1 x229000_1 x229001_1 = some (r1,r2,r3)) ∧ Aside0 (kq ≤ k) ∧ Aside0 (Kd.R (Kd.int .i64) 3 w' w.heap.size (fun _ => True) u229000 x229000_1) ∧ Aside0 (w'.heap[gb222]? = some (.cells #[(.slice A0_0 l0_0.length c0_0), .int .i64 a0_1] 29 (0,0))) ∧ Aside0 (w'.heap[gb223]? = some (.cells #[(.slice none 0 0), .int .i64 x224001_1] 29 (0,0))) ∧ Aside0 (w'.heap[gb228]? = some (.cells #[u229000, .int .i64 x229001_1] 29 (0,0))) ∧ Aside0 (Below w.heap.size w w'))
 case atStart => exact ⟨(0),(0),(t224),(t227),(.slice Ao10 t224.length co10),(by first | rfl | (simp;done) | (simp [*];done)),H',⟨Nat.le_refl _⟩,⟨by (with_reducible repeat (first | apply Kd.R_alloc | apply Kd.R_drewN | apply Kd.R_drew));exact Kd.R_mono (Kd.R_far (p := ⟨gb228,1,none⟩) (Kd.R_far (p := ⟨gb228,0,none⟩) (Kd.R_types HO226.out BK228.out (by decide)) (fun _ hk => hk.2) (.slice Ao10 t224.length co10)) (fun _ hk => hk.2) (.int .i64 t227)) (fun _ hk => trivial)⟩,⟨by (with_reducible repeat (first | refine blk_drewN ?_ _ | refine blk_drew ?_ | refine blk_alloc ?_ _));refine blk_far ?_ NB222_228.out _;(with_reducible repeat (first | refine blk_drewN ?_ _ | refine blk_drew ?_ | refine blk_alloc ?_ _));refine blk_far ?_ NB222_228.out _;(with_reducible repeat (first | refine blk_drewN ?_ _ | refine blk_drew ?_ | refine blk_alloc ?_ _));exact BK222.out⟩,⟨by (with_reducible repeat (first | refine blk_drewN ?_ _ | refine blk_drew ?_ | refine blk_alloc ?_ _));refine blk_far ?_ NB223_228.out _;(with_reducible repeat (first | refine blk_drewN ?_ _ | refine blk_drew ?_ | refine blk_alloc ?_ _));refine blk_far ?_ NB223_228.out _;(with_reducible repeat (first | refine blk_drewN ?_ _ | refine blk_drew ?_ | refine blk_alloc ?_ _));exact BK223.out⟩,⟨by (with_reducible repeat (first | refine blk_drewN ?_ _ | refine blk_drew ?_ | refine blk_alloc ?_ _));refine blk_put (cs := #[.slice Ao10 t224.length co10, .int .i64 0]) ?_ 1 _ rfl;(with_reducible repeat (first | refine blk_drewN ?_ _ | refine blk_drew ?_ | refine blk_alloc ?_ _));refine blk_put (cs := #[.slice none 0 0, .int .i64 0]) ?_ 0 _ rfl;(with_reducible repeat (first | refine blk_drewN ?_ _ | refine blk_drew ?_ | refine blk_alloc ?_ _));exact BK228.out⟩,⟨by repeat (first | (with_reducible first | exact HB.out | apply below_alloc | apply pw_below_drewN | apply below_drew1 | refine below_set ?_ GE222.out | refine below_set ?_ GE223.out | refine below_set ?_ GE228.out) | exact HB.out)⟩⟩
 case round =>
  clear H'
  try clear c1
  try clear p2
  try clear c3
  try clear c5
  try clear c6
  try clear c11
  try clear c12
  try clear hcz13_0
  try clear hcz13_1
  try clear hcz7_0
  try clear hcz7_1
  try clear hfz13_0
  try clear hfz13_1
  try clear hfz7_0
  try clear hfz7_1
  obtain ⟨x15_1,x224001_1,x229000_1,x229001_1,u229000,rfl,HA,HK1,HO_229000,BK222,BK223,BK228,HB⟩ := hrel
  cases gk with
  | zero => exact absurd HA.out (by simp [spec_cuPlay.l0])
  | succ k1 =>
   have H := HA.out
   clear HA
   simp only [spec_cuPlay.l0] at H
   by_cases c14 : x15_1 < (l1.length : Int)
   ·rw [if_pos c14] at H
    have c14b0 : decide (x15_1 < (l1.length : Int)) = true := decide_eq_true c14
    clear c14
    by_cases c15 : 0 ≤ x15_1
    ·rw [if_pos c15] at H
     have c15b0 : decide (0 ≤ x15_1) = true := decide_eq_true c15
     clear c15
     by_cases c16 : x15_1 < (l1.length : Int)
     ·rw [if_pos c16] at H
      have c16b0 : decide (x15_1 < (l1.length : Int)) = true := decide_eq_true c16
      clear c16
      have HC17 := Aside0.mk H
      clear H
      have p229 : 0 ≤ (x15_1 : Int) := of_decide_eq_true (by first | (with_reducible assumption) | assumption)
      have q229 : x15_1 < (l1.length : Int) := of_decide_eq_true (by first | (with_reducible assumption) | assumption)
      obtain ⟨ad229,A229_0,c229_0,e229,hx229_0,hl229_0,hi229_0⟩ := at_L1 HR1.out x15_1 p229 q229
      cases e229
      replace hx229_0 := (HB.out.cell (World.block_lt_of_cell? w _ hx229_0)).trans hx229_0
      have HR229_0 := Aside0.mk hi229_0
      have HC229_0 := Aside0.mk hl229_0
      clear hi229_0 hl229_0
      replace p229 := eq_true p229
      replace q229 := eq_true q229
      go_upto_region 5 with (fail)
      go_cut [41] (fun v41 wc => ∃ (kq : Nat) (x41_16 : Bool),v41 = .bool x41_16 ∧ Aside0 (spec_cuPlay.j1 kq (rd_L1 l1 x15_1) l1 (l1.length : Int) x15_1 x41_16 l0_0 a0_1 x229000_1 x229001_1 = some (r1,r2,r3)) ∧ Aside0 (kq ≤ k1) ∧ Aside0 (Kd.R (Kd.int .i64) 3 wc w.heap.size (fun _ => True) u229000 x229000_1) ∧ Aside0 (wc.heap[gb222]? = some (.cells #[(.slice A0_0 l0_0.length c0_0), .int .i64 a0_1] 29 (0,0))) ∧ Aside0 (wc.heap[gb223]? = some (.cells #[(.slice none 0 0), .int .i64 x224001_1] 29 (0,0))) ∧ Aside0 (wc.heap[gb228]? = some (.cells #[u229000, .int .i64 x229001_1] 29 (0,0))) ∧ Aside0 (Below w.heap.size w wc))
      case first =>
       have H := HC17.out
       clear HC17
       by_cases c18 : ((rd_L1 l1 x15_1).length : Int) = 2
       ·rw [if_pos c18] at H
        have c18b0 : (((rd_L1 l1 x15_1).length : Int) == 2) = true := beq_iff_eq.mpr c18
        have c18b1 : (((rd_L1 l1 x15_1).length : Int) != 2) = false := bne_eq_false_iff_eq.mpr c18
        clear c18
        (first | rw [c18b0] | (simp only [i64_w,i32_w];rw [c18b0]) | skip)
        by_cases c19 : 0 < ((rd_L1 l1 x15_1).length : Int)
        ·rw [if_pos c19] at H
         have c19b0 : decide (0 < ((rd_L1 l1 x15_1).length : Int)) = true := decide_eq_true c19
         have c19b1 : decide (0 < (rd_L1 l1 x15_1).length) = true := decide_eq_true (by omega)
         clear c19
         by_cases c20 : 1 < ((rd_L1 l1 x15_1).length : Int)
         ·rw [if_pos c20] at H
          have c20b0 : decide (1 < ((rd_L1 l1 x15_1).length : Int)) = true := decide_eq_true c20
          have c20b1 : decide (1 < (rd_L1 l1 x15_1).length) = true := decide_eq_true (by omega)
          clear c20
          replace H := Option.bind_eq_some_iff.mp H
          obtain ⟨t232,A210,H⟩ := H
          replace H : (if t232 = true then (spec_cuPlay.j1 k1 (rd_L1 l1 x15_1) l1 (l1.length : Int) x15_1 (decide ((rd (rd_L1 l1 x15_1) 0) > (rd (rd_L1 l1 x15_1) 1))) l0_0 a0_1 x229000_1 x229001_1) else (spec_cuPlay.j1 k1 (rd_L1 l1 x15_1) l1 (l1.length : Int) x15_1 true l0_0 a0_1 x229000_1 x229001_1)) = some (r1,r2,r3) := H
          have A21 := Aside0.mk A210
          clear A210
          by_cases c22 : t232 = true
          ·subst c22
           have H1 : (spec_cuPlay.j1 k1 (rd_L1 l1 x15_1) l1 (l1.length : Int) x15_1 (decide ((rd (rd_L1 l1 x15_1) 0) > (rd (rd_L1 l1 x15_1) 1))) l0_0 a0_1 x229000_1 x229001_1) = some (r1,r2,r3) := by rw [if_pos rfl] at H;exact H
           clear H
           have H := H1
           clear H1
           have H' := Aside0.mk H
           clear H
           try go_wp2
           have n0_ := Aside0.mk (Kd.R_drew HO_229000.out)
           have n1_ := Aside0.mk (blk_drew BK222.out)
           have n2_ := Aside0.mk (blk_drew BK223.out)
           have n3_ := Aside0.mk (blk_drew BK228.out)
           have n4_ := Aside0.mk (below_drew1 HB.out)
           clear HO_229000
           clear BK222
           clear BK223
           clear BK228
           clear HB
           have HO_229000 := n0_
           have BK222 := n1_
           have BK223 := n2_
           have BK228 := n3_
           have HB := n4_
           clear n0_ n1_ n2_ n3_ n4_
           have p230 : 0 ≤ (0 : Int) := (by omega)
           have q230 : 0 < ((rd_L1 l1 x15_1).length : Int) := of_decide_eq_true (by first | (with_reducible assumption) | assumption)
           obtain ⟨ad230,e230,hx230_0⟩ := Kd.at_int HR229_0.out 0 p230 q230
           have hw230_0 := hx230_0
           (try rw [show ((0 : Int)).toNat = 0 from rfl] at hw230_0)
           (try rw [show 0 * 1 = 0 from rfl] at hw230_0)
           (try rw [Addr.add_zero'] at hw230_0)
           cases e230
           have qi230 : (0 < (rd_L1 l1 x15_1).length) = True := eq_true (by omega)
           (try rw [show ((0 : Int)).toNat = 0 from rfl] at hx230_0)
           (try rw [Addr.add_zero'] at hx230_0)
           replace hx230_0 := (HB.out.cell (World.block_lt_of_cell? w _ hx230_0)).trans hx230_0
           replace p230 := eq_true p230
           replace q230 := eq_true q230
           have p231 : 0 ≤ (1 : Int) := (by omega)
           have q231 : 1 < ((rd_L1 l1 x15_1).length : Int) := of_decide_eq_true (by first | (with_reducible assumption) | assumption)
           obtain ⟨ad231,e231,hx231_0⟩ := Kd.at_int HR229_0.out 1 p231 q231
           have hw231_0 := hx231_0
           (try rw [show ((1 : Int)).toNat = 1 from rfl] at hw231_0)
           (try rw [show 1 * 1 = 1 from rfl] at hw231_0)
           (try simp only [Nat.reduceMul,Nat.reduceEqDiff,Go.Addr.add, ↓reduceIte] at hw231_0)
           obtain rfl : ad230 = ad231 := (by injection e231)
           (try simp only [show (1 : Int).toNat = 1 from rfl,Nat.reduceMul,Nat.reduceEqDiff,Go.Addr.add, ↓reduceIte] at hx231_0)
           have qi231 : (1 < (rd_L1 l1 x15_1).length) = True := eq_true (by omega)
           (try rw [show ((1 : Int)).toNat = 1 from rfl] at hx231_0)
           replace hx231_0 := (HB.out.cell (World.block_lt_of_cell? w _ hx231_0)).trans hx231_0
           replace p231 := eq_true p231
           replace q231 := eq_true q231
           have p233 : 0 ≤ (0 : Int) := (by omega)
           have q233 : 0 < ((rd_L1 l1 x15_1).length : Int) := of_decide_eq_true (by first | (with_reducible assumption) | assumption)
           obtain ⟨ad233,e233,hx233_0⟩ := Kd.at_int HR229_0.out 0 p233 q233
           have hw233_0 := hx233_0
           (try rw [show ((0 : Int)).toNat = 0 from rfl] at hw233_0)
           (try rw [show 0 * 1 = 0 from rfl] at hw233_0)
           (try rw [Addr.add_zero'] at hw233_0)
           obtain rfl : ad230 = ad233 := (by injection e233)
           have qi233 : (0 < (rd_L1 l1 x15_1).length) = True := eq_true (by omega)
           (try rw [show ((0 : Int)).toNat = 0 from rfl] at hx233_0)
           (try rw [Addr.add_zero'] at hx233_0)
           replace hx233_0 := (HB.out.cell (World.block_lt_of_cell? w _ hx233_0)).trans hx233_0
           replace p233 := eq_true p233
           replace q233 := eq_true q233
           have p234 : 0 ≤ (1 : Int) := (by omega)
           have q234 : 1 < ((rd_L1 l1 x15_1).length : Int) := of_decide_eq_true (by first | (with_reducible assumption) | assumption)
           obtain ⟨ad234,e234,hx234_0⟩ := Kd.at_int HR229_0.out 1 p234 q234
           have hw234_0 := hx234_0
           (try rw [show ((1 : Int)).toNat = 1 from rfl] at hw234_0)
           (try rw [show 1 * 1 = 1 from rfl] at hw234_0)
           (try simp only [Nat.reduceMul,Nat.reduceEqDiff,Go.Addr.add, ↓reduceIte] at hw234_0)
           obtain rfl : ad230 = ad234 := (by injection e234)
           (try simp only [show (1 : Int).toNat = 1 from rfl,Nat.reduceMul,Nat.reduceEqDiff,Go.Addr.add, ↓reduceIte] at hx234_0)
           have qi234 : (1 < (rd_L1 l1 x15_1).length) = True := eq_true (by omega)
           (try rw [show ((1 : Int)).toNat = 1 from rfl] at hx234_0)
           replace hx234_0 := (HB.out.cell (World.block_lt_of_cell? w _ hx234_0)).trans hx234_0
           replace p234 := eq_true p234
           replace q234 := eq_true q234
           refine start_ (n := 23) (S := fun w' => w'.cell? ⟨gb222,0,none⟩ = some (.slice A0_0 l0_0.length c0_0) ∧ w'.cell? ⟨gb222,1,none⟩ = some (.int .i64 a0_1) ∧ w'.cell? ad230 = some (.int .i64 (rd (rd_L1 l1 x15_1) 0)) ∧ w'.cell? ⟨ad230.block,ad230.off + 1,none⟩ = some (.int .i64 (rd (rd_L1 l1 x15_1) 1)) ∧ w'.cell? ad230 = some (.int .i64 (rd (rd_L1 l1 x15_1) 0)) ∧ w'.cell? ⟨ad230.block,ad230.off + 1,none⟩ = some (.int .i64 (rd (rd_L1 l1 x15_1) 1))) (ds := []) #[false,false,false,false,false,false,false,false,false,false,false,false,false,false,false,false,false,false,false,false,false,false,false] (by kernel_rfl) rfl rfl ⟨(blk_cell BK222.out 0).trans rfl,(blk_cell BK222.out 1).trans rfl,((HB.out.cell (World.block_lt_of_cell? w _ hw230_0)).trans hw230_0),((HB.out.cell (World.block_lt_of_cell? w _ hw231_0)).trans hw231_0),((HB.out.cell (World.block_lt_of_cell? w _ hw233_0)).trans hw233_0),((HB.out.cell (World.block_lt_of_cell? w _ hw234_0)).trans hw234_0)⟩ (fun hHeld => ?_);refine with_tabW spec_cuPlay.tab5 spec_cuPlay.bits5 (fun HT_ HW_ => ?_)
           generalize wr.drew = w23 at HO_229000 BK222 BK223 BK228 HB hx230_0 hx231_0 hx233_0 hx234_0 hHeld ⊢
           refine pure_ (i := 0) (N := some 19) (v := ?_) (a' := ?_) #[true,false,false,false,false,false,false,false,false,false,false,false,false,false,false,false,false,false,false,false,false,false,false] rfl rfl (any_of HT_.out (by kernel_rfl)) (fun _ _ _ h => h) (Or.inl ⟨by rfl,?_⟩) ?_ ?_
           rotate_left
           ·intro w'
            go_simp
            with_reducible rfl
           rotate_left
           ·simp only [Act.put,List.setIfInBounds_toArray,List.set_cons_zero,List.set_cons_succ,i64_w,i32_w]
            rfl
           refine pure_ (i := 1) (N := some 20) (v := ?_) (a' := ?_) #[true,true,false,false,false,false,false,false,false,false,false,false,false,false,false,false,false,false,false,false,false,false,false] rfl rfl (any_of HT_.out (by kernel_rfl)) (fun _ _ _ h => h) (Or.inl ⟨by rfl,?_⟩) ?_ ?_
           rotate_left
           ·intro w'
            go_simp
            with_reducible rfl
           rotate_left
           ·simp only [Act.put,List.setIfInBounds_toArray,List.set_cons_zero,List.set_cons_succ,i64_w,i32_w]
            rfl
           refine pure_ (i := 2) (N := some 21) (v := ?_) (a' := ?_) #[true,true,true,false,false,false,false,false,false,false,false,false,false,false,false,false,false,false,false,false,false,false,false] rfl rfl (any_of HT_.out (by kernel_rfl)) (fun _ _ _ h => h) (Or.inl ⟨by rfl,?_⟩) ?_ ?_
           rotate_left
           ·intro w'
            go_simp
            with_reducible rfl
           rotate_left
           ·simp only [Act.put,List.setIfInBounds_toArray,List.set_cons_zero,List.set_cons_succ,i64_w,i32_w]
            rfl
           refine pure_ (i := 3) (N := some 22) (v := ?_) (a' := ?_) #[true,true,true,true,false,false,false,false,false,false,false,false,false,false,false,false,false,false,false,false,false,false,false] rfl rfl (any_of HT_.out (by kernel_rfl)) (fun _ _ _ h => h) (Or.inl ⟨by rfl,?_⟩) ?_ ?_
           rotate_left
           ·intro w'
            go_simp
            with_reducible rfl
           rotate_left
           ·simp only [Act.put,List.setIfInBounds_toArray,List.set_cons_zero,List.set_cons_succ,i64_w,i32_w]
            rfl
           refine pure_ (i := 5) (N := some 24) (v := ?_) (a' := ?_) #[true,true,true,true,false,true,false,false,false,false,false,false,false,false,false,false,false,false,false,false,false,false,false] rfl rfl (any_of HT_.out (by kernel_rfl)) (fun _ _ _ h => h) (Or.inl ⟨by rfl,?_⟩) ?_ ?_
           rotate_left
           ·intro w'
            go_simp
            with_reducible rfl
           rotate_left
           ·simp only [Act.put,List.setIfInBounds_toArray,List.set_cons_zero,List.set_cons_succ,i64_w,i32_w]
            rfl
           refine pure_ (i := 6) (N := some 25) (v := ?_) (a' := ?_) #[true,true,true,true,false,true,true,false,false,false,false,false,false,false,false,false,false,false,false,false,false,false,false] rfl rfl (any_of HT_.out (by kernel_rfl)) (fun _ _ _ h => h) (Or.inl ⟨by rfl,?_⟩) ?_ ?_
           rotate_left
           ·intro w'
            go_simp
            with_reducible rfl
           rotate_left
           ·simp only [Act.put,List.setIfInBounds_toArray,List.set_cons_zero,List.set_cons_succ,i64_w,i32_w]
            rfl
           refine pure_ (i := 8) (N := some 27) (v := ?_) (a' := ?_) #[true,true,true,true,false,true,true,false,true,false,false,false,false,false,false,false,false,false,false,false,false,false,false] rfl rfl (any_of HT_.out (by kernel_rfl)) (fun _ _ _ h => h) (Or.inl ⟨by rfl,?_⟩) ?_ ?_
           rotate_left
           ·intro w'
            go_simp
            with_reducible rfl
           rotate_left
           ·simp only [Act.put,List.setIfInBounds_toArray,List.set_cons_zero,List.set_cons_succ,i64_w,i32_w]
            rfl
           refine pure_ (i := 9) (N := some 28) (v := ?_) (a' := ?_) #[true,true,true,true,false,true,true,false,true,true,false,false,false,false,false,false,false,false,false,false,false,false,false] rfl rfl (any_of HT_.out (by kernel_rfl)) (fun _ _ _ h => h) (Or.inl ⟨by rfl,?_⟩) ?_ ?_
           rotate_left
           ·intro w'
            go_simp
            with_reducible rfl
           rotate_left
           ·simp only [Act.put,List.setIfInBounds_toArray,List.set_cons_zero,List.set_cons_succ,i64_w,i32_w]
            rfl
           refine take_ (i := 4) (N := some 23) (v := ?_) (a' := ?_) #[true,true,true,true,true,true,true,false,true,true,false,false,false,false,false,false,false,false,false,false,false,false,false] rfl rfl (take_ofW HT_.out HW_.out (by kernel_rfl)) (fun _ _ _ h => h) (Or.inl ⟨by rfl,?_⟩) hHeld ?_ ?_
           rotate_left
           ·rintro w' ⟨s0,s1,s2,s3,s4,s5⟩
            go_simp
            with_reducible rfl
           rotate_left
           ·simp only [Act.put,List.setIfInBounds_toArray,List.set_cons_zero,List.set_cons_succ,i64_w,i32_w]
            rfl
           refine take_ (i := 7) (N := some 26) (v := ?_) (a' := ?_) #[true,true,true,true,true,true,true,true,true,true,false,false,false,false,false,false,false,false,false,false,false,false,false] rfl rfl (take_ofW HT_.out HW_.out (by kernel_rfl)) (fun _ _ _ h => h) (Or.inl ⟨by rfl,?_⟩) hHeld ?_ ?_
           rotate_left
           ·rintro w' ⟨s0,s1,s2,s3,s4,s5⟩
            go_simp
            with_reducible rfl
           rotate_left
           ·simp only [Act.put,List.setIfInBounds_toArray,List.set_cons_zero,List.set_cons_succ,i64_w,i32_w]
            rfl
           refine take_ (i := 10) (N := some 29) (v := ?_) (a' := ?_) #[true,true,true,true,true,true,true,true,true,true,true,false,false,false,false,false,false,false,false,false,false,false,false] rfl rfl (take_ofW HT_.out HW_.out (by kernel_rfl)) (fun _ _ _ h => h) (Or.inl ⟨by rfl,?_⟩) hHeld ?_ ?_
           rotate_left
           ·rintro w' ⟨s0,s1,s2,s3,s4,s5⟩
            go_simp
            with_reducible rfl
           rotate_left
           ·simp only [Act.put,List.setIfInBounds_toArray,List.set_cons_zero,List.set_cons_succ,i64_w,i32_w]
            rfl
           refine one_ (i := 11) (N := some 30) #[true,true,true,true,true,true,true,true,true,true,true,true,false,false,false,false,false,false,false,false,false,false,false] rfl rfl (one_of HT_.out (by kernel_rfl)) (by decide) (fun K hK => ?_)
           refine goes_ Try.func57 (by kernel_rfl) rfl #[.agg #[.slice A0_0 l0_0.length c0_0, .int .i64 a0_1], .int .i64 (rd (rd_L1 l1 x15_1) 0), .int .i64 (rd (rd_L1 l1 x15_1) 1)] (by rfl) rfl rfl (by (try simp only [List.map_toArray,List.map_cons,List.map_nil]);first | done | rfl | (simp only [List.length_drop,List.length_take];rfl)) ?_
           with_reducible refine (spec_cuTwo.calls _ _ l0_0 a0_1 (rd (rd_L1 l1 x15_1) 0) (rd (rd_L1 l1 x15_1) 1) true _ ?side1 ?side2 A21.out).mono ?_
           (case side1 => repeat (first | exact (Kd.C_below HR0_0.out HB.out) | (with_reducible refine Kd.C_alloc ?_ _) | (with_reducible refine Kd.C_drewN ?_ _) | (with_reducible refine Kd.C_drew ?_)))
           (case side2 => exact HC0_0.out)
           rintro e w24 ⟨rfl,hb⟩
           refine ⟨_,rfl,?_⟩
           have n0_ := Aside0.mk (Kd.R_below (by (with_reducible repeat (first | apply Kd.R_alloc | apply Kd.R_drewN | apply Kd.R_drew));exact HO_229000.out) hb)
           have n1_ := Aside0.mk (blk_below (g := gb222) (o := .cells #[.slice A0_0 l0_0.length c0_0, .int .i64 a0_1] 29 (0,0)) (by (with_reducible repeat (first | refine blk_drewN ?_ _ | refine blk_drew ?_ | refine blk_alloc ?_ _));exact BK222.out) hb)
           have n2_ := Aside0.mk (blk_below (g := gb223) (o := .cells #[.slice none 0 0, .int .i64 x224001_1] 29 (0,0)) (by (with_reducible repeat (first | refine blk_drewN ?_ _ | refine blk_drew ?_ | refine blk_alloc ?_ _));exact BK223.out) hb)
           have n3_ := Aside0.mk (blk_below (g := gb228) (o := .cells #[u229000, .int .i64 x229001_1] 29 (0,0)) (by (with_reducible repeat (first | refine blk_drewN ?_ _ | refine blk_drew ?_ | refine blk_alloc ?_ _));exact BK228.out) hb)
           have n4_ := Aside0.mk (below_step (by repeat (first | (with_reducible first | exact HB.out | apply below_alloc | apply pw_below_drewN | apply below_drew1 | refine below_set ?_ GE222.out | refine below_set ?_ GE223.out | refine below_set ?_ GE228.out) | exact HB.out)) hb)
           clear HO_229000
           clear BK222
           clear BK223
           clear BK228
           clear HB
           have HO_229000 := n0_
           have BK222 := n1_
           have BK223 := n2_
           have BK228 := n3_
           have HB := n4_
           clear n0_ n1_ n2_ n3_ n4_
           (try clear hb)
           (try clear hb2)
           (try clear hk)
           (try clear hi)
           refine hK.out _ _ ⟨(blk_cell BK222.out 0).trans rfl,(blk_cell BK222.out 1).trans rfl,((HB.out.cell (World.block_lt_of_cell? w _ hw230_0)).trans hw230_0),((HB.out.cell (World.block_lt_of_cell? w _ hw231_0)).trans hw231_0),((HB.out.cell (World.block_lt_of_cell? w _ hw233_0)).trans hw233_0),((HB.out.cell (World.block_lt_of_cell? w _ hw234_0)).trans hw234_0)⟩ (fun hHeld => ?_)
           clear hK K
           refine norm_ (a' := ?_) ?_ ?_
           rotate_left
           ·show Act.put _ (some 30) _ = _
            simp only [Act.put,List.setIfInBounds_toArray,List.set_cons_zero,List.set_cons_succ,i64_w,i32_w]
            rfl
           refine pure_ (i := 12) (N := some 31) (v := ?_) (a' := ?_) #[true,true,true,true,true,true,true,true,true,true,true,true,true,false,false,false,false,false,false,false,false,false,false] rfl rfl (any_of HT_.out (by kernel_rfl)) (fun _ _ _ h => h) (Or.inl ⟨by rfl,?_⟩) ?_ ?_
           rotate_left
           ·intro w'
            go_simp
            with_reducible rfl
           rotate_left
           ·simp only [Act.put,List.setIfInBounds_toArray,List.set_cons_zero,List.set_cons_succ,i64_w,i32_w]
            rfl
           refine pure_ (i := 13) (N := some 32) (v := ?_) (a' := ?_) #[true,true,true,true,true,true,true,true,true,true,true,true,true,true,false,false,false,false,false,false,false,false,false] rfl rfl (any_of HT_.out (by kernel_rfl)) (fun _ _ _ h => h) (Or.inl ⟨by rfl,?_⟩) ?_ ?_
           rotate_left
           ·intro w'
            go_simp
            with_reducible rfl
           rotate_left
           ·simp only [Act.put,List.setIfInBounds_toArray,List.set_cons_zero,List.set_cons_succ,i64_w,i32_w]
            rfl
           refine pure_ (i := 14) (N := some 33) (v := ?_) (a' := ?_) #[true,true,true,true,true,true,true,true,true,true,true,true,true,true,true,false,false,false,false,false,false,false,false] rfl rfl (any_of HT_.out (by kernel_rfl)) (fun _ _ _ h => h) (Or.inl ⟨by rfl,?_⟩) ?_ ?_
           rotate_left
           ·intro w'
            go_simp
            with_reducible rfl
           rotate_left
           ·simp only [Act.put,List.setIfInBounds_toArray,List.set_cons_zero,List.set_cons_succ,i64_w,i32_w]
            rfl
           refine pure_ (i := 15) (N := some 34) (v := ?_) (a' := ?_) #[true,true,true,true,true,true,true,true,true,true,true,true,true,true,true,true,false,false,false,false,false,false,false] rfl rfl (any_of HT_.out (by kernel_rfl)) (fun _ _ _ h => h) (Or.inl ⟨by rfl,?_⟩) ?_ ?_
           rotate_left
           ·intro w'
            go_simp
            with_reducible rfl
           rotate_left
           ·simp only [Act.put,List.setIfInBounds_toArray,List.set_cons_zero,List.set_cons_succ,i64_w,i32_w]
            rfl
           refine pure_ (i := 16) (N := some 35) (v := ?_) (a' := ?_) #[true,true,true,true,true,true,true,true,true,true,true,true,true,true,true,true,true,false,false,false,false,false,false] rfl rfl (any_of HT_.out (by kernel_rfl)) (fun _ _ _ h => h) (Or.inl ⟨by rfl,?_⟩) ?_ ?_
           rotate_left
           ·intro w'
            go_simp
            with_reducible rfl
           rotate_left
           ·simp only [Act.put,List.setIfInBounds_toArray,List.set_cons_zero,List.set_cons_succ,i64_w,i32_w]
            rfl
           refine pure_ (i := 18) (N := some 37) (v := ?_) (a' := ?_) #[true,true,true,true,true,true,true,true,true,true,true,true,true,true,true,true,true,false,true,false,false,false,false] rfl rfl (any_of HT_.out (by kernel_rfl)) (fun _ _ _ h => h) (Or.inl ⟨by rfl,?_⟩) ?_ ?_
           rotate_left
           ·intro w'
            go_simp
            with_reducible rfl
           rotate_left
           ·simp only [Act.put,List.setIfInBounds_toArray,List.set_cons_zero,List.set_cons_succ,i64_w,i32_w]
            rfl
           refine pure_ (i := 19) (N := some 38) (v := ?_) (a' := ?_) #[true,true,true,true,true,true,true,true,true,true,true,true,true,true,true,true,true,false,true,true,false,false,false] rfl rfl (any_of HT_.out (by kernel_rfl)) (fun _ _ _ h => h) (Or.inl ⟨by rfl,?_⟩) ?_ ?_
           rotate_left
           ·intro w'
            go_simp
            with_reducible rfl
           rotate_left
           ·simp only [Act.put,List.setIfInBounds_toArray,List.set_cons_zero,List.set_cons_succ,i64_w,i32_w]
            rfl
           refine take_ (i := 17) (N := some 36) (v := ?_) (a' := ?_) #[true,true,true,true,true,true,true,true,true,true,true,true,true,true,true,true,true,true,true,true,false,false,false] rfl rfl (take_ofW HT_.out HW_.out (by kernel_rfl)) (fun _ _ _ h => h) (Or.inl ⟨by rfl,?_⟩) hHeld ?_ ?_
           rotate_left
           ·rintro w' ⟨s0,s1,s2,s3,s4,s5⟩
            go_simp
            with_reducible rfl
           rotate_left
           ·simp only [Act.put,List.setIfInBounds_toArray,List.set_cons_zero,List.set_cons_succ,i64_w,i32_w]
            rfl
           refine take_ (i := 20) (N := some 39) (v := ?_) (a' := ?_) #[true,true,true,true,true,true,true,true,true,true,true,true,true,true,true,true,true,true,true,true,true,false,false] rfl rfl (take_ofW HT_.out HW_.out (by kernel_rfl)) (fun _ _ _ h => h) (Or.inl ⟨by rfl,?_⟩) hHeld ?_ ?_
           rotate_left
           ·rintro w' ⟨s0,s1,s2,s3,s4,s5⟩
            go_simp
            with_reducible rfl
           rotate_left
           ·simp only [Act.put,List.setIfInBounds_toArray,List.set_cons_zero,List.set_cons_succ,i64_w,i32_w]
            rfl
           refine pure_ (i := 21) (N := some 40) (v := ?_) (a' := ?_) #[true,true,true,true,true,true,true,true,true,true,true,true,true,true,true,true,true,true,true,true,true,true,false] rfl rfl (any_of HT_.out (by kernel_rfl)) (fun _ _ _ h => h) (Or.inl ⟨by rfl,?_⟩) ?_ ?_
           rotate_left
           ·intro w'
            go_simp
            with_reducible rfl
           rotate_left
           ·simp only [Act.put,List.setIfInBounds_toArray,List.set_cons_zero,List.set_cons_succ,i64_w,i32_w]
            rfl
           refine pure_ (i := 22) (N := some 41) (v := ?_) (a' := ?_) #[true,true,true,true,true,true,true,true,true,true,true,true,true,true,true,true,true,true,true,true,true,true,true] rfl rfl (any_of HT_.out (by kernel_rfl)) (fun _ _ _ h => h) (Or.inl ⟨by rfl,?_⟩) ?_ ?_
           rotate_left
           ·intro w'
            go_simp
            with_reducible rfl
           rotate_left
           ·simp only [Act.put,List.setIfInBounds_toArray,List.set_cons_zero,List.set_cons_succ,i64_w,i32_w]
            rfl
           refine done_ (done_of HT_.out (by kernel_rfl)) ?_
           try go_wp2
           go_meet
           case rel => exact ⟨_,(decide ((rd (rd_L1 l1 x15_1) 0) > (rd (rd_L1 l1 x15_1) 1))),(by first | rfl | (simp;done) | (simp [*];done)),H',⟨by have := HK1.out;first | omega | exact Nat.le_refl _⟩,⟨by (with_reducible repeat (first | apply Kd.R_alloc | apply Kd.R_drewN | apply Kd.R_drew));exact HO_229000.out⟩,⟨by (with_reducible repeat (first | refine blk_drewN ?_ _ | refine blk_drew ?_ | refine blk_alloc ?_ _));exact BK222.out⟩,⟨by (with_reducible repeat (first | refine blk_drewN ?_ _ | refine blk_drew ?_ | refine blk_alloc ?_ _));exact BK223.out⟩,⟨by (with_reducible repeat (first | refine blk_drewN ?_ _ | refine blk_drew ?_ | refine blk_alloc ?_ _));exact BK228.out⟩,⟨by repeat (first | (with_reducible first | exact HB.out | apply below_alloc | apply pw_below_drewN | apply below_drew1 | refine below_set ?_ GE222.out | refine below_set ?_ GE223.out | refine below_set ?_ GE228.out) | exact HB.out)⟩⟩
          ·replace c22 := Bool.eq_false_iff.mpr c22
           subst c22
           have H1 : (spec_cuPlay.j1 k1 (rd_L1 l1 x15_1) l1 (l1.length : Int) x15_1 true l0_0 a0_1 x229000_1 x229001_1) = some (r1,r2,r3) := by rw [if_neg (show ¬ (false = true) by decide)] at H;exact H
           clear H
           have H := H1
           clear H1
           have H' := Aside0.mk H
           clear H
           try go_wp2
           have n0_ := Aside0.mk (Kd.R_drew HO_229000.out)
           have n1_ := Aside0.mk (blk_drew BK222.out)
           have n2_ := Aside0.mk (blk_drew BK223.out)
           have n3_ := Aside0.mk (blk_drew BK228.out)
           have n4_ := Aside0.mk (below_drew1 HB.out)
           clear HO_229000
           clear BK222
           clear BK223
           clear BK228
           clear HB
           have HO_229000 := n0_
           have BK222 := n1_
           have BK223 := n2_
           have BK228 := n3_
           have HB := n4_
           clear n0_ n1_ n2_ n3_ n4_
           have p230 : 0 ≤ (0 : Int) := (by omega)
           have q230 : 0 < ((rd_L1 l1 x15_1).length : Int) := of_decide_eq_true (by first | (with_reducible assumption) | assumption)
           obtain ⟨ad230,e230,hx230_0⟩ := Kd.at_int HR229_0.out 0 p230 q230
           have hw230_0 := hx230_0
           (try rw [show ((0 : Int)).toNat = 0 from rfl] at hw230_0)
           (try rw [show 0 * 1 = 0 from rfl] at hw230_0)
           (try rw [Addr.add_zero'] at hw230_0)
           cases e230
           have qi230 : (0 < (rd_L1 l1 x15_1).length) = True := eq_true (by omega)
           (try rw [show ((0 : Int)).toNat = 0 from rfl] at hx230_0)
           (try rw [Addr.add_zero'] at hx230_0)
           replace hx230_0 := (HB.out.cell (World.block_lt_of_cell? w _ hx230_0)).trans hx230_0
           replace p230 := eq_true p230
           replace q230 := eq_true q230
           have p231 : 0 ≤ (1 : Int) := (by omega)
           have q231 : 1 < ((rd_L1 l1 x15_1).length : Int) := of_decide_eq_true (by first | (with_reducible assumption) | assumption)
           obtain ⟨ad231,e231,hx231_0⟩ := Kd.at_int HR229_0.out 1 p231 q231
           have hw231_0 := hx231_0
           (try rw [show ((1 : Int)).toNat = 1 from rfl] at hw231_0)
           (try rw [show 1 * 1 = 1 from rfl] at hw231_0)
           (try simp only [Nat.reduceMul,Nat.reduceEqDiff,Go.Addr.add, ↓reduceIte] at hw231_0)
           obtain rfl : ad230 = ad231 := (by injection e231)
           (try simp only [show (1 : Int).toNat = 1 from rfl,Nat.reduceMul,Nat.reduceEqDiff,Go.Addr.add, ↓reduceIte] at hx231_0)
           have qi231 : (1 < (rd_L1 l1 x15_1).length) = True := eq_true (by omega)
           (try rw [show ((1 : Int)).toNat = 1 from rfl] at hx231_0)
           replace hx231_0 := (HB.out.cell (World.block_lt_of_cell? w _ hx231_0)).trans hx231_0
           replace p231 := eq_true p231
           replace q231 := eq_true q231
           refine start_ (n := 23) (S := fun w' => w'.cell? ⟨gb222,0,none⟩ = some (.slice A0_0 l0_0.length c0_0) ∧ w'.cell? ⟨gb222,1,none⟩ = some (.int .i64 a0_1) ∧ w'.cell? ad230 = some (.int .i64 (rd (rd_L1 l1 x15_1) 0)) ∧ w'.cell? ⟨ad230.block,ad230.off + 1,none⟩ = some (.int .i64 (rd (rd_L1 l1 x15_1) 1))) (ds := []) #[false,false,false,false,false,false,false,false,false,false,false,false,false,false,false,false,false,false,false,false,false,false,false] (by kernel_rfl) rfl rfl ⟨(blk_cell BK222.out 0).trans rfl,(blk_cell BK222.out 1).trans rfl,((HB.out.cell (World.block_lt_of_cell? w _ hw230_0)).trans hw230_0),((HB.out.cell (World.block_lt_of_cell? w _ hw231_0)).trans hw231_0)⟩ (fun hHeld => ?_);refine with_tabW spec_cuPlay.tab5 spec_cuPlay.bits5 (fun HT_ HW_ => ?_)
           generalize wr.drew = w25 at HO_229000 BK222 BK223 BK228 HB hx230_0 hx231_0 hHeld ⊢
           refine pure_ (i := 0) (N := some 19) (v := ?_) (a' := ?_) #[true,false,false,false,false,false,false,false,false,false,false,false,false,false,false,false,false,false,false,false,false,false,false] rfl rfl (any_of HT_.out (by kernel_rfl)) (fun _ _ _ h => h) (Or.inl ⟨by rfl,?_⟩) ?_ ?_
           rotate_left
           ·intro w'
            go_simp
            with_reducible rfl
           rotate_left
           ·simp only [Act.put,List.setIfInBounds_toArray,List.set_cons_zero,List.set_cons_succ,i64_w,i32_w]
            rfl
           refine pure_ (i := 1) (N := some 20) (v := ?_) (a' := ?_) #[true,true,false,false,false,false,false,false,false,false,false,false,false,false,false,false,false,false,false,false,false,false,false] rfl rfl (any_of HT_.out (by kernel_rfl)) (fun _ _ _ h => h) (Or.inl ⟨by rfl,?_⟩) ?_ ?_
           rotate_left
           ·intro w'
            go_simp
            with_reducible rfl
           rotate_left
           ·simp only [Act.put,List.setIfInBounds_toArray,List.set_cons_zero,List.set_cons_succ,i64_w,i32_w]
            rfl
           refine pure_ (i := 2) (N := some 21) (v := ?_) (a' := ?_) #[true,true,true,false,false,false,false,false,false,false,false,false,false,false,false,false,false,false,false,false,false,false,false] rfl rfl (any_of HT_.out (by kernel_rfl)) (fun _ _ _ h => h) (Or.inl ⟨by rfl,?_⟩) ?_ ?_
           rotate_left
           ·intro w'
            go_simp
            with_reducible rfl
           rotate_left
           ·simp only [Act.put,List.setIfInBounds_toArray,List.set_cons_zero,List.set_cons_succ,i64_w,i32_w]
            rfl
           refine pure_ (i := 3) (N := some 22) (v := ?_) (a' := ?_) #[true,true,true,true,false,false,false,false,false,false,false,false,false,false,false,false,false,false,false,false,false,false,false] rfl rfl (any_of HT_.out (by kernel_rfl)) (fun _ _ _ h => h) (Or.inl ⟨by rfl,?_⟩) ?_ ?_
           rotate_left
           ·intro w'
            go_simp
            with_reducible rfl
           rotate_left
           ·simp only [Act.put,List.setIfInBounds_toArray,List.set_cons_zero,List.set_cons_succ,i64_w,i32_w]
            rfl
           refine pure_ (i := 5) (N := some 24) (v := ?_) (a' := ?_) #[true,true,true,true,false,true,false,false,false,false,false,false,false,false,false,false,false,false,false,false,false,false,false] rfl rfl (any_of HT_.out (by kernel_rfl)) (fun _ _ _ h => h) (Or.inl ⟨by rfl,?_⟩) ?_ ?_
           rotate_left
           ·intro w'
            go_simp
            with_reducible rfl
           rotate_left
           ·simp only [Act.put,List.setIfInBounds_toArray,List.set_cons_zero,List.set_cons_succ,i64_w,i32_w]
            rfl
           refine pure_ (i := 6) (N := some 25) (v := ?_) (a' := ?_) #[true,true,true,true,false,true,true,false,false,false,false,false,false,false,false,false,false,false,false,false,false,false,false] rfl rfl (any_of HT_.out (by kernel_rfl)) (fun _ _ _ h => h) (Or.inl ⟨by rfl,?_⟩) ?_ ?_
           rotate_left
           ·intro w'
            go_simp
            with_reducible rfl
           rotate_left
           ·simp only [Act.put,List.setIfInBounds_toArray,List.set_cons_zero,List.set_cons_succ,i64_w,i32_w]
            rfl
           refine pure_ (i := 8) (N := some 27) (v := ?_) (a' := ?_) #[true,true,true,true,false,true,true,false,true,false,false,false,false,false,false,false,false,false,false,false,false,false,false] rfl rfl (any_of HT_.out (by kernel_rfl)) (fun _ _ _ h => h) (Or.inl ⟨by rfl,?_⟩) ?_ ?_
           rotate_left
           ·intro w'
            go_simp
            with_reducible rfl
           rotate_left
           ·simp only [Act.put,List.setIfInBounds_toArray,List.set_cons_zero,List.set_cons_succ,i64_w,i32_w]
            rfl
           refine pure_ (i := 9) (N := some 28) (v := ?_) (a' := ?_) #[true,true,true,true,false,true,true,false,true,true,false,false,false,false,false,false,false,false,false,false,false,false,false] rfl rfl (any_of HT_.out (by kernel_rfl)) (fun _ _ _ h => h) (Or.inl ⟨by rfl,?_⟩) ?_ ?_
           rotate_left
           ·intro w'
            go_simp
            with_reducible rfl
           rotate_left
           ·simp only [Act.put,List.setIfInBounds_toArray,List.set_cons_zero,List.set_cons_succ,i64_w,i32_w]
            rfl
           refine take_ (i := 4) (N := some 23) (v := ?_) (a' := ?_) #[true,true,true,true,true,true,true,false,true,true,false,false,false,false,false,false,false,false,false,false,false,false,false] rfl rfl (take_ofW HT_.out HW_.out (by kernel_rfl)) (fun _ _ _ h => h) (Or.inl ⟨by rfl,?_⟩) hHeld ?_ ?_
           rotate_left
           ·rintro w' ⟨s0,s1,s2,s3⟩
            go_simp
            with_reducible rfl
           rotate_left
           ·simp only [Act.put,List.setIfInBounds_toArray,List.set_cons_zero,List.set_cons_succ,i64_w,i32_w]
            rfl
           refine take_ (i := 7) (N := some 26) (v := ?_) (a' := ?_) #[true,true,true,true,true,true,true,true,true,true,false,false,false,false,false,false,false,false,false,false,false,false,false] rfl rfl (take_ofW HT_.out HW_.out (by kernel_rfl)) (fun _ _ _ h => h) (Or.inl ⟨by rfl,?_⟩) hHeld ?_ ?_
           rotate_left
           ·rintro w' ⟨s0,s1,s2,s3⟩
            go_simp
            with_reducible rfl
           rotate_left
           ·simp only [Act.put,List.setIfInBounds_toArray,List.set_cons_zero,List.set_cons_succ,i64_w,i32_w]
            rfl
           refine take_ (i := 10) (N := some 29) (v := ?_) (a' := ?_) #[true,true,true,true,true,true,true,true,true,true,true,false,false,false,false,false,false,false,false,false,false,false,false] rfl rfl (take_ofW HT_.out HW_.out (by kernel_rfl)) (fun _ _ _ h => h) (Or.inl ⟨by rfl,?_⟩) hHeld ?_ ?_
           rotate_left
           ·rintro w' ⟨s0,s1,s2,s3⟩
            go_simp
            with_reducible rfl
           rotate_left
           ·simp only [Act.put,List.setIfInBounds_toArray,List.set_cons_zero,List.set_cons_succ,i64_w,i32_w]
            rfl
           refine one_ (i := 11) (N := some 30) #[true,true,true,true,true,true,true,true,true,true,true,true,false,false,false,false,false,false,false,false,false,false,false] rfl rfl (one_of HT_.out (by kernel_rfl)) (by decide) (fun K hK => ?_)
           refine goes_ Try.func57 (by kernel_rfl) rfl #[.agg #[.slice A0_0 l0_0.length c0_0, .int .i64 a0_1], .int .i64 (rd (rd_L1 l1 x15_1) 0), .int .i64 (rd (rd_L1 l1 x15_1) 1)] (by rfl) rfl rfl (by (try simp only [List.map_toArray,List.map_cons,List.map_nil]);first | done | rfl | (simp only [List.length_drop,List.length_take];rfl)) ?_
           with_reducible refine (spec_cuTwo.calls _ _ l0_0 a0_1 (rd (rd_L1 l1 x15_1) 0) (rd (rd_L1 l1 x15_1) 1) false _ ?side1 ?side2 A21.out).mono ?_
           (case side1 => repeat (first | exact (Kd.C_below HR0_0.out HB.out) | (with_reducible refine Kd.C_alloc ?_ _) | (with_reducible refine Kd.C_drewN ?_ _) | (with_reducible refine Kd.C_drew ?_)))
           (case side2 => exact HC0_0.out)
           rintro e w26 ⟨rfl,hb⟩
           refine ⟨_,rfl,?_⟩
           have n0_ := Aside0.mk (Kd.R_below (by (with_reducible repeat (first | apply Kd.R_alloc | apply Kd.R_drewN | apply Kd.R_drew));exact HO_229000.out) hb)
           have n1_ := Aside0.mk (blk_below (g := gb222) (o := .cells #[.slice A0_0 l0_0.length c0_0, .int .i64 a0_1] 29 (0,0)) (by (with_reducible repeat (first | refine blk_drewN ?_ _ | refine blk_drew ?_ | refine blk_alloc ?_ _));exact BK222.out) hb)
           have n2_ := Aside0.mk (blk_below (g := gb223) (o := .cells #[.slice none 0 0, .int .i64 x224001_1] 29 (0,0)) (by (with_reducible repeat (first | refine blk_drewN ?_ _ | refine blk_drew ?_ | refine blk_alloc ?_ _));exact BK223.out) hb)
           have n3_ := Aside0.mk (blk_below (g := gb228) (o := .cells #[u229000, .int .i64 x229001_1] 29 (0,0)) (by (with_reducible repeat (first | refine blk_drewN ?_ _ | refine blk_drew ?_ | refine blk_alloc ?_ _));exact BK228.out) hb)
           have n4_ := Aside0.mk (below_step (by repeat (first | (with_reducible first | exact HB.out | apply below_alloc | apply pw_below_drewN | apply below_drew1 | refine below_set ?_ GE222.out | refine below_set ?_ GE223.out | refine below_set ?_ GE228.out) | exact HB.out)) hb)
           clear HO_229000
           clear BK222
           clear BK223
           clear BK228
           clear HB
           have HO_229000 := n0_
           have BK222 := n1_
           have BK223 := n2_
           have BK228 := n3_
           have HB := n4_
           clear n0_ n1_ n2_ n3_ n4_
           (try clear hb)
           (try clear hb2)
           (try clear hk)
           (try clear hi)
           refine hK.out _ _ ⟨(blk_cell BK222.out 0).trans rfl,(blk_cell BK222.out 1).trans rfl,((HB.out.cell (World.block_lt_of_cell? w _ hw230_0)).trans hw230_0),((HB.out.cell (World.block_lt_of_cell? w _ hw231_0)).trans hw231_0)⟩ (fun hHeld => ?_)
           clear hK K
           refine norm_ (a' := ?_) ?_ ?_
           rotate_left
           ·show Act.put _ (some 30) _ = _
            simp only [Act.put,List.setIfInBounds_toArray,List.set_cons_zero,List.set_cons_succ,i64_w,i32_w]
            rfl
           refine pure_ (i := 12) (N := some 31) (v := ?_) (a' := ?_) #[true,true,true,true,true,true,true,true,true,true,true,true,true,false,false,false,false,false,false,false,false,false,false] rfl rfl (any_of HT_.out (by kernel_rfl)) (fun _ _ _ h => h) (Or.inl ⟨by rfl,?_⟩) ?_ ?_
           rotate_left
           ·intro w'
            go_simp
            with_reducible rfl
           rotate_left
           ·simp only [Act.put,List.setIfInBounds_toArray,List.set_cons_zero,List.set_cons_succ,i64_w,i32_w]
            rfl
           refine pure_ (i := 13) (N := some 32) (v := ?_) (a' := ?_) #[true,true,true,true,true,true,true,true,true,true,true,true,true,true,false,false,false,false,false,false,false,false,false] rfl rfl (any_of HT_.out (by kernel_rfl)) (fun _ _ _ h => h) (Or.inl ⟨by rfl,?_⟩) ?_ ?_
           rotate_left
           ·intro w'
            go_simp
            with_reducible rfl
           rotate_left
           ·simp only [Act.put,List.setIfInBounds_toArray,List.set_cons_zero,List.set_cons_succ,i64_w,i32_w]
            rfl
           refine pure_ (i := 14) (N := some 33) (v := ?_) (a' := ?_) #[true,true,true,true,true,true,true,true,true,true,true,true,true,true,true,false,false,false,false,false,false,false,false] rfl rfl (any_of HT_.out (by kernel_rfl)) (fun _ _ _ h => h) (Or.inl ⟨by rfl,?_⟩) ?_ ?_
           rotate_left
           ·intro w'
            go_simp
            with_reducible rfl
           rotate_left
           ·simp only [Act.put,List.setIfInBounds_toArray,List.set_cons_zero,List.set_cons_succ,i64_w,i32_w]
            rfl
           refine pure_ (i := 15) (N := some 34) (v := undef) (a' := ?_) #[true,true,true,true,true,true,true,true,true,true,true,true,true,true,true,true,false,false,false,false,false,false,false] rfl rfl (any_of HT_.out (by kernel_rfl)) (fun _ _ _ h => h) (Or.inr ⟨by rfl,rfl⟩) ?_ ?_
           rotate_left
           ·simp only [Act.put,List.setIfInBounds_toArray,List.set_cons_zero,List.set_cons_succ,i64_w,i32_w]
            rfl
           refine pure_ (i := 16) (N := some 35) (v := undef) (a' := ?_) #[true,true,true,true,true,true,true,true,true,true,true,true,true,true,true,true,true,false,false,false,false,false,false] rfl rfl (any_of HT_.out (by kernel_rfl)) (fun _ _ _ h => h) (Or.inr ⟨by rfl,rfl⟩) ?_ ?_
           rotate_left
           ·simp only [Act.put,List.setIfInBounds_toArray,List.set_cons_zero,List.set_cons_succ,i64_w,i32_w]
            rfl
           refine pure_ (i := 17) (N := some 36) (v := undef) (a' := ?_) #[true,true,true,true,true,true,true,true,true,true,true,true,true,true,true,true,true,true,false,false,false,false,false] rfl rfl (any_of HT_.out (by kernel_rfl)) (fun _ _ _ h => h) (Or.inr ⟨by rfl,rfl⟩) ?_ ?_
           rotate_left
           ·simp only [Act.put,List.setIfInBounds_toArray,List.set_cons_zero,List.set_cons_succ,i64_w,i32_w]
            rfl
           refine pure_ (i := 18) (N := some 37) (v := undef) (a' := ?_) #[true,true,true,true,true,true,true,true,true,true,true,true,true,true,true,true,true,true,true,false,false,false,false] rfl rfl (any_of HT_.out (by kernel_rfl)) (fun _ _ _ h => h) (Or.inr ⟨by rfl,rfl⟩) ?_ ?_
           rotate_left
           ·simp only [Act.put,List.setIfInBounds_toArray,List.set_cons_zero,List.set_cons_succ,i64_w,i32_w]
            rfl
           refine pure_ (i := 19) (N := some 38) (v := undef) (a' := ?_) #[true,true,true,true,true,true,true,true,true,true,true,true,true,true,true,true,true,true,true,true,false,false,false] rfl rfl (any_of HT_.out (by kernel_rfl)) (fun _ _ _ h => h) (Or.inr ⟨by rfl,rfl⟩) ?_ ?_
           rotate_left
           ·simp only [Act.put,List.setIfInBounds_toArray,List.set_cons_zero,List.set_cons_succ,i64_w,i32_w]
            rfl
           refine pure_ (i := 20) (N := some 39) (v := undef) (a' := ?_) #[true,true,true,true,true,true,true,true,true,true,true,true,true,true,true,true,true,true,true,true,true,false,false] rfl rfl (any_of HT_.out (by kernel_rfl)) (fun _ _ _ h => h) (Or.inr ⟨by rfl,rfl⟩) ?_ ?_
           rotate_left
           ·simp only [Act.put,List.setIfInBounds_toArray,List.set_cons_zero,List.set_cons_succ,i64_w,i32_w]
            rfl
           refine pure_ (i := 21) (N := some 40) (v := undef) (a' := ?_) #[true,true,true,true,true,true,true,true,true,true,true,true,true,true,true,true,true,true,true,true,true,true,false] rfl rfl (any_of HT_.out (by kernel_rfl)) (fun _ _ _ h => h) (Or.inr ⟨by rfl,rfl⟩) ?_ ?_
           rotate_left
           ·simp only [Act.put,List.setIfInBounds_toArray,List.set_cons_zero,List.set_cons_succ,i64_w,i32_w]
            rfl
           refine pure_ (i := 22) (N := some 41) (v := ?_) (a' := ?_) #[true,true,true,true,true,true,true,true,true,true,true,true,true,true,true,true,true,true,true,true,true,true,true] rfl rfl (any_of HT_.out (by kernel_rfl)) (fun _ _ _ h => h) (Or.inl ⟨by rfl,?_⟩) ?_ ?_
           rotate_left
           ·intro w'
            go_simp
            with_reducible rfl
           rotate_left
           ·simp only [Act.put,List.setIfInBounds_toArray,List.set_cons_zero,List.set_cons_succ,i64_w,i32_w]
            rfl
           refine done_ (done_of HT_.out (by kernel_rfl)) ?_
           try go_wp2
           go_meet
           case rel => exact ⟨_,(true),(by first | rfl | (simp;done) | (simp [*];done)),H',⟨by have := HK1.out;first | omega | exact Nat.le_refl _⟩,⟨by (with_reducible repeat (first | apply Kd.R_alloc | apply Kd.R_drewN | apply Kd.R_drew));exact HO_229000.out⟩,⟨by (with_reducible repeat (first | refine blk_drewN ?_ _ | refine blk_drew ?_ | refine blk_alloc ?_ _));exact BK222.out⟩,⟨by (with_reducible repeat (first | refine blk_drewN ?_ _ | refine blk_drew ?_ | refine blk_alloc ?_ _));exact BK223.out⟩,⟨by (with_reducible repeat (first | refine blk_drewN ?_ _ | refine blk_drew ?_ | refine blk_alloc ?_ _));exact BK228.out⟩,⟨by repeat (first | (with_reducible first | exact HB.out | apply below_alloc | apply pw_below_drewN | apply below_drew1 | refine below_set ?_ GE222.out | refine below_set ?_ GE223.out | refine below_set ?_ GE228.out) | exact HB.out)⟩⟩
         ·rw [if_neg c20] at H
          exact absurd H (by simp)
        ·rw [if_neg c19] at H
         exact absurd H (by simp)
       ·rw [if_neg c18] at H
        have c18b0 : (((rd_L1 l1 x15_1).length : Int) == 2) = false := beq_eq_false_iff_ne.mpr c18
        have c18b1 : (((rd_L1 l1 x15_1).length : Int) != 2) = true := bne_iff_ne.mpr c18
        (first | rw [c18b0] | (simp only [i64_w,i32_w];rw [c18b0]) | skip)
        have H' := Aside0.mk H
        clear H
        try go_wp2
        have n0_ := Aside0.mk (Kd.R_drew HO_229000.out)
        have n1_ := Aside0.mk (blk_drew BK222.out)
        have n2_ := Aside0.mk (blk_drew BK223.out)
        have n3_ := Aside0.mk (blk_drew BK228.out)
        have n4_ := Aside0.mk (below_drew1 HB.out)
        clear HO_229000
        clear BK222
        clear BK223
        clear BK228
        clear HB
        have HO_229000 := n0_
        have BK222 := n1_
        have BK223 := n2_
        have BK228 := n3_
        have HB := n4_
        clear n0_ n1_ n2_ n3_ n4_
        refine start_ (n := 23) (S := fun w' => True) (ds := []) #[false,false,false,false,false,false,false,false,false,false,false,false,false,false,false,false,false,false,false,false,false,false,false] (by kernel_rfl) rfl rfl trivial (fun hHeld => ?_);refine with_tabW spec_cuPlay.tab5 spec_cuPlay.bits5 (fun HT_ HW_ => ?_)
        generalize wr.drew = w27 at HO_229000 BK222 BK223 BK228 HB hHeld ⊢
        refine pure_ (i := 0) (N := some 19) (v := ?_) (a' := ?_) #[true,false,false,false,false,false,false,false,false,false,false,false,false,false,false,false,false,false,false,false,false,false,false] rfl rfl (any_of HT_.out (by kernel_rfl)) (fun _ _ _ h => h) (Or.inl ⟨by rfl,?_⟩) ?_ ?_
        rotate_left
        ·intro w'
         go_simp
         with_reducible rfl
        rotate_left
        ·simp only [Act.put,List.setIfInBounds_toArray,List.set_cons_zero,List.set_cons_succ,i64_w,i32_w]
         rfl
        refine pure_ (i := 1) (N := some 20) (v := ?_) (a' := ?_) #[true,true,false,false,false,false,false,false,false,false,false,false,false,false,false,false,false,false,false,false,false,false,false] rfl rfl (any_of HT_.out (by kernel_rfl)) (fun _ _ _ h => h) (Or.inl ⟨by rfl,?_⟩) ?_ ?_
        rotate_left
        ·intro w'
         go_simp
         with_reducible rfl
        rotate_left
        ·simp only [Act.put,List.setIfInBounds_toArray,List.set_cons_zero,List.set_cons_succ,i64_w,i32_w]
         rfl
        refine pure_ (i := 2) (N := some 21) (v := ?_) (a' := ?_) #[true,true,true,false,false,false,false,false,false,false,false,false,false,false,false,false,false,false,false,false,false,false,false] rfl rfl (any_of HT_.out (by kernel_rfl)) (fun _ _ _ h => h) (Or.inl ⟨by rfl,?_⟩) ?_ ?_
        rotate_left
        ·intro w'
         go_simp
         with_reducible rfl
        rotate_left
        ·simp only [Act.put,List.setIfInBounds_toArray,List.set_cons_zero,List.set_cons_succ,i64_w,i32_w]
         rfl
        refine pure_ (i := 3) (N := some 22) (v := ?_) (a' := ?_) #[true,true,true,true,false,false,false,false,false,false,false,false,false,false,false,false,false,false,false,false,false,false,false] rfl rfl (any_of HT_.out (by kernel_rfl)) (fun _ _ _ h => h) (Or.inl ⟨by rfl,?_⟩) ?_ ?_
        rotate_left
        ·intro w'
         go_simp
         with_reducible rfl
        rotate_left
        ·simp only [Act.put,List.setIfInBounds_toArray,List.set_cons_zero,List.set_cons_succ,i64_w,i32_w]
         rfl
        refine pure_ (i := 4) (N := some 23) (v := undef) (a' := ?_) #[true,true,true,true,true,false,false,false,false,false,false,false,false,false,false,false,false,false,false,false,false,false,false] rfl rfl (any_of HT_.out (by kernel_rfl)) (fun _ _ _ h => h) (Or.inr ⟨by rfl,rfl⟩) ?_ ?_
        rotate_left
        ·simp only [Act.put,List.setIfInBounds_toArray,List.set_cons_zero,List.set_cons_succ,i64_w,i32_w]
         rfl
        refine pure_ (i := 5) (N := some 24) (v := undef) (a' := ?_) #[true,true,true,true,true,true,false,false,false,false,false,false,false,false,false,false,false,false,false,false,false,false,false] rfl rfl (any_of HT_.out (by kernel_rfl)) (fun _ _ _ h => h) (Or.inr ⟨by rfl,rfl⟩) ?_ ?_
        rotate_left
        ·simp only [Act.put,List.setIfInBounds_toArray,List.set_cons_zero,List.set_cons_succ,i64_w,i32_w]
         rfl
        refine pure_ (i := 6) (N := some 25) (v := undef) (a' := ?_) #[true,true,true,true,true,true,true,false,false,false,false,false,false,false,false,false,false,false,false,false,false,false,false] rfl rfl (any_of HT_.out (by kernel_rfl)) (fun _ _ _ h => h) (Or.inr ⟨by rfl,rfl⟩) ?_ ?_
        rotate_left
        ·simp only [Act.put,List.setIfInBounds_toArray,List.set_cons_zero,List.set_cons_succ,i64_w,i32_w]
         rfl
        refine pure_ (i := 7) (N := some 26) (v := undef) (a' := ?_) #[true,true,true,true,true,true,true,true,false,false,false,false,false,false,false,false,false,false,false,false,false,false,false] rfl rfl (any_of HT_.out (by kernel_rfl)) (fun _ _ _ h => h) (Or.inr ⟨by rfl,rfl⟩) ?_ ?_
        rotate_left
        ·simp only [Act.put,List.setIfInBounds_toArray,List.set_cons_zero,List.set_cons_succ,i64_w,i32_w]
         rfl
        refine pure_ (i := 8) (N := some 27) (v := undef) (a' := ?_) #[true,true,true,true,true,true,true,true,true,false,false,false,false,false,false,false,false,false,false,false,false,false,false] rfl rfl (any_of HT_.out (by kernel_rfl)) (fun _ _ _ h => h) (Or.inr ⟨by rfl,rfl⟩) ?_ ?_
        rotate_left
        ·simp only [Act.put,List.setIfInBounds_toArray,List.set_cons_zero,List.set_cons_succ,i64_w,i32_w]
         rfl
        refine pure_ (i := 9) (N := some 28) (v := undef) (a' := ?_) #[true,true,true,true,true,true,true,true,true,true,false,false,false,false,false,false,false,false,false,false,false,false,false] rfl rfl (any_of HT_.out (by kernel_rfl)) (fun _ _ _ h => h) (Or.inr ⟨by rfl,rfl⟩) ?_ ?_
        rotate_left
        ·simp only [Act.put,List.setIfInBounds_toArray,List.set_cons_zero,List.set_cons_succ,i64_w,i32_w]
         rfl
        refine pure_ (i := 10) (N := some 29) (v := undef) (a' := ?_) #[true,true,true,true,true,true,true,true,true,true,true,false,false,false,false,false,false,false,false,false,false,false,false] rfl rfl (any_of HT_.out (by kernel_rfl)) (fun _ _ _ h => h) (Or.inr ⟨by rfl,rfl⟩) ?_ ?_
        rotate_left
        ·simp only [Act.put,List.setIfInBounds_toArray,List.set_cons_zero,List.set_cons_succ,i64_w,i32_w]
         rfl
        refine pure_ (i := 11) (N := some 30) (v := undef) (a' := ?_) #[true,true,true,true,true,true,true,true,true,true,true,true,false,false,false,false,false,false,false,false,false,false,false] rfl rfl (any_of HT_.out (by kernel_rfl)) (fun _ _ _ h => h) (Or.inr ⟨by rfl,rfl⟩) ?_ ?_
        rotate_left
        ·simp only [Act.put,List.setIfInBounds_toArray,List.set_cons_zero,List.set_cons_succ,i64_w,i32_w]
         rfl
        refine pure_ (i := 12) (N := some 31) (v := undef) (a' := ?_) #[true,true,true,true,true,true,true,true,true,true,true,true,true,false,false,false,false,false,false,false,false,false,false] rfl rfl (any_of HT_.out (by kernel_rfl)) (fun _ _ _ h => h) (Or.inr ⟨by rfl,rfl⟩) ?_ ?_
        rotate_left
        ·simp only [Act.put,List.setIfInBounds_toArray,List.set_cons_zero,List.set_cons_succ,i64_w,i32_w]
         rfl
        refine pure_ (i := 13) (N := some 32) (v := ?_) (a' := ?_) #[true,true,true,true,true,true,true,true,true,true,true,true,true,true,false,false,false,false,false,false,false,false,false] rfl rfl (any_of HT_.out (by kernel_rfl)) (fun _ _ _ h => h) (Or.inl ⟨by rfl,?_⟩) ?_ ?_
        rotate_left
        ·intro w'
         go_simp
         with_reducible rfl
        rotate_left
        ·simp only [Act.put,List.setIfInBounds_toArray,List.set_cons_zero,List.set_cons_succ,i64_w,i32_w]
         rfl
        refine pure_ (i := 14) (N := some 33) (v := ?_) (a' := ?_) #[true,true,true,true,true,true,true,true,true,true,true,true,true,true,true,false,false,false,false,false,false,false,false] rfl rfl (any_of HT_.out (by kernel_rfl)) (fun _ _ _ h => h) (Or.inl ⟨by rfl,?_⟩) ?_ ?_
        rotate_left
        ·intro w'
         go_simp
         with_reducible rfl
        rotate_left
        ·simp only [Act.put,List.setIfInBounds_toArray,List.set_cons_zero,List.set_cons_succ,i64_w,i32_w]
         rfl
        refine pure_ (i := 15) (N := some 34) (v := undef) (a' := ?_) #[true,true,true,true,true,true,true,true,true,true,true,true,true,true,true,true,false,false,false,false,false,false,false] rfl rfl (any_of HT_.out (by kernel_rfl)) (fun _ _ _ h => h) (Or.inr ⟨by rfl,rfl⟩) ?_ ?_
        rotate_left
        ·simp only [Act.put,List.setIfInBounds_toArray,List.set_cons_zero,List.set_cons_succ,i64_w,i32_w]
         rfl
        refine pure_ (i := 16) (N := some 35) (v := undef) (a' := ?_) #[true,true,true,true,true,true,true,true,true,true,true,true,true,true,true,true,true,false,false,false,false,false,false] rfl rfl (any_of HT_.out (by kernel_rfl)) (fun _ _ _ h => h) (Or.inr ⟨by rfl,rfl⟩) ?_ ?_
        rotate_left
        ·simp only [Act.put,List.setIfInBounds_toArray,List.set_cons_zero,List.set_cons_succ,i64_w,i32_w]
         rfl
        refine pure_ (i := 17) (N := some 36) (v := undef) (a' := ?_) #[true,true,true,true,true,true,true,true,true,true,true,true,true,true,true,true,true,true,false,false,false,false,false] rfl rfl (any_of HT_.out (by kernel_rfl)) (fun _ _ _ h => h) (Or.inr ⟨by rfl,rfl⟩) ?_ ?_
        rotate_left
        ·simp only [Act.put,List.setIfInBounds_toArray,List.set_cons_zero,List.set_cons_succ,i64_w,i32_w]
         rfl
        refine pure_ (i := 18) (N := some 37) (v := undef) (a' := ?_) #[true,true,true,true,true,true,true,true,true,true,true,true,true,true,true,true,true,true,true,false,false,false,false] rfl rfl (any_of HT_.out (by kernel_rfl)) (fun _ _ _ h => h) (Or.inr ⟨by rfl,rfl⟩) ?_ ?_
        rotate_left
        ·simp only [Act.put,List.setIfInBounds_toArray,List.set_cons_zero,List.set_cons_succ,i64_w,i32_w]
         rfl
        refine pure_ (i := 19) (N := some 38) (v := undef) (a' := ?_) #[true,true,true,true,true,true,true,true,true,true,true,true,true,true,true,true,true,true,true,true,false,false,false] rfl rfl (any_of HT_.out (by kernel_rfl)) (fun _ _ _ h => h) (Or.inr ⟨by rfl,rfl⟩) ?_ ?_
        rotate_left
        ·simp only [Act.put,List.setIfInBounds_toArray,List.set_cons_zero,List.set_cons_succ,i64_w,i32_w]
         rfl
        refine pure_ (i := 20) (N := some 39) (v := undef) (a' := ?_) #[true,true,true,true,true,true,true,true,true,true,true,true,true,true,true,true,true,true,true,true,true,false,false] rfl rfl (any_of HT_.out (by kernel_rfl)) (fun _ _ _ h => h) (Or.inr ⟨by rfl,rfl⟩) ?_ ?_
        rotate_left
        ·simp only [Act.put,List.setIfInBounds_toArray,List.set_cons_zero,List.set_cons_succ,i64_w,i32_w]
         rfl
        refine pure_ (i := 21) (N := some 40) (v := undef) (a' := ?_) #[true,true,true,true,true,true,true,true,true,true,true,true,true,true,true,true,true,true,true,true,true,true,false] rfl rfl (any_of HT_.out (by kernel_rfl)) (fun _ _ _ h => h) (Or.inr ⟨by rfl,rfl⟩) ?_ ?_
        rotate_left
        ·simp only [Act.put,List.setIfInBounds_toArray,List.set_cons_zero,List.set_cons_succ,i64_w,i32_w]
         rfl
        refine pure_ (i := 22) (N := some 41) (v := ?_) (a' := ?_) #[true,true,true,true,true,true,true,true,true,true,true,true,true,true,true,true,true,true,true,true,true,true,true] rfl rfl (any_of HT_.out (by kernel_rfl)) (fun _ _ _ h => h) (Or.inl ⟨by rfl,?_⟩) ?_ ?_
        rotate_left
        ·intro w'
         go_simp
         with_reducible rfl
        rotate_left
        ·simp only [Act.put,List.setIfInBounds_toArray,List.set_cons_zero,List.set_cons_succ,i64_w,i32_w]
         rfl
        refine done_ (done_of HT_.out (by kernel_rfl)) ?_
        try go_wp2
        go_meet
        case rel => exact ⟨_,(true),(by first | rfl | (simp;done) | (simp [*];done)),H',⟨by have := HK1.out;first | omega | exact Nat.le_refl _⟩,⟨by (with_reducible repeat (first | apply Kd.R_alloc | apply Kd.R_drewN | apply Kd.R_drew));exact HO_229000.out⟩,⟨by (with_reducible repeat (first | refine blk_drewN ?_ _ | refine blk_drew ?_ | refine blk_alloc ?_ _));exact BK222.out⟩,⟨by (with_reducible repeat (first | refine blk_drewN ?_ _ | refine blk_drew ?_ | refine blk_alloc ?_ _));exact BK223.out⟩,⟨by (with_reducible repeat (first | refine blk_drewN ?_ _ | refine blk_drew ?_ | refine blk_alloc ?_ _));exact BK228.out⟩,⟨by repeat (first | (with_reducible first | exact HB.out | apply below_alloc | apply pw_below_drewN | apply below_drew1 | refine below_set ?_ GE222.out | refine below_set ?_ GE223.out | refine below_set ?_ GE228.out) | exact HB.out)⟩⟩
      case rest =>
       clear HC17
       try clear c1
       try clear c2
       try clear p2
       try clear q2
       try clear hx2
       try clear qi2
       try clear c5
       try clear c18
       try clear c18b0
       try clear c18b1
       try clear c19
       try clear c20
       try clear c22
       try clear p23
       try clear q23
       try clear hx23
       try clear qi23
       try clear hx230_0
       try clear hx231_0
       try clear p230
       try clear p231
       try clear q230
       try clear q231
       obtain ⟨kq,x41_16,rfl,HA,HJ16,HO_229000,BK222,BK223,BK228,HB⟩ := hcut
       cases kq with
       | zero => exact absurd HA.out (by simp [spec_cuPlay.j1])
       | succ kj16 =>
        have H := HA.out
        clear HA
        simp only [spec_cuPlay.j1] at H
        by_cases c28 : x41_16 = true
        ·subst c28
         have H1 : (some (([] : List Int),0,false)) = some (r1,r2,r3) := by rw [if_pos rfl] at H;exact H
         clear H
         have H := H1
         clear H1
         simp only [Option.some.injEq,Prod.mk.injEq] at H
         obtain ⟨rfl,rfl,rfl⟩ := H
         have hnb29 := NB223_222.out
         have hnc29 := NB222_223.out
         have hnb30 := NB223_228.out
         have hnc30 := NB228_223.out
         have hcz31_0 : wc.cell? ⟨gb223,0,none⟩ = some (.slice none 0 0) := (blk_cell BK223.out 0).trans rfl
         have hcz31_1 : wc.cell? ⟨gb223,1,none⟩ = some (.int .i64 x224001_1) := (blk_cell BK223.out 1).trans rfl
         have hfz31_0 := blk_frozen BK223.out 0
         have hfz31_1 := blk_frozen BK223.out 1
         go_wp2
         refine bodyPost_ret (results_ct rfl _ _ gb223 29 #[.slice none 0 0, .int .i64 0] (0,0) _ rfl (by (with_reducible repeat (first | refine blk_drewN ?_ _ | refine blk_drew ?_ | refine blk_alloc ?_ _));refine blk_put (cs := #[.slice none 0 0, .int .i64 x224001_1]) ?_ 1 _ rfl;(with_reducible repeat (first | refine blk_drewN ?_ _ | refine blk_drew ?_ | refine blk_alloc ?_ _));refine blk_put (cs := #[.slice none 0 0, .int .i64 x224001_1]) ?_ 0 _ rfl;(with_reducible repeat (first | refine blk_drewN ?_ _ | refine blk_drew ?_ | refine blk_alloc ?_ _));exact BK223.out) Try.underlying29 rfl (by kernel_rfl)) rfl ?_
         exact ⟨_,by first | rfl | (simp [errW_none,errW_some] <;> rfl) | (simp [*,errW_none,errW_some] <;> rfl),by first | exact Kd.R_nil _ _ _ _ _ | exact Kd.N_nil _ _ _ _ _ | exact Kd.V_nil _ _ _ _ _ | exact Kd.Q_nil _ _ _ _ _ | exact Kd.S_nil _ _ _ _ _,by repeat (first | (with_reducible first | exact HB.out | apply below_alloc | apply pw_below_drewN | apply below_drew1 | refine below_set ?_ GE222.out | refine below_set ?_ GE223.out | refine below_set ?_ GE228.out) | exact HB.out)⟩
        ·replace c28 := Bool.eq_false_iff.mpr c28
         subst c28
         have H1 : (if 0 < ((rd_L1 l1 x15_1).length : Int) then (if 1 < ((rd_L1 l1 x15_1).length : Int) then ((spec_cuMix.f kj16 x229000_1 x229001_1 (rd (rd_L1 l1 x15_1) 0) (rd (rd_L1 l1 x15_1) 1)).bind fun bt237 => (if bt237.2.2 = true then (spec_cuPlay.l0 kj16 l1 (l1.length : Int) (wrap64 (x15_1 + 1)) l0_0 a0_1 bt237.1 bt237.2.1) else (some (([] : List Int),0,false)))) else (none)) else (none)) = some (r1,r2,r3) := by rw [if_neg (show ¬ (false = true) by decide)] at H;exact H
         clear H
         have H := H1
         clear H1
         by_cases c32 : 0 < ((rd_L1 l1 x15_1).length : Int)
         ·rw [if_pos c32] at H
          have c32b0 : decide (0 < ((rd_L1 l1 x15_1).length : Int)) = true := decide_eq_true c32
          have c32b1 : decide (0 < (rd_L1 l1 x15_1).length) = true := decide_eq_true (by omega)
          clear c32
          by_cases c33 : 1 < ((rd_L1 l1 x15_1).length : Int)
          ·rw [if_pos c33] at H
           have c33b0 : decide (1 < ((rd_L1 l1 x15_1).length : Int)) = true := decide_eq_true c33
           have c33b1 : decide (1 < (rd_L1 l1 x15_1).length) = true := decide_eq_true (by omega)
           clear c33
           replace H := Option.bind_eq_some_iff.mp H
           obtain ⟨⟨t237,t240,t241⟩,A340,H⟩ := H
           replace H : (if t241 = true then (spec_cuPlay.l0 kj16 l1 (l1.length : Int) (wrap64 (x15_1 + 1)) l0_0 a0_1 t237 t240) else (some (([] : List Int),0,false))) = some (r1,r2,r3) := H
           have A34 := Aside0.mk A340
           clear A340
           by_cases c35 : t241 = true
           ·subst c35
            have H1 : (spec_cuPlay.l0 kj16 l1 (l1.length : Int) (wrap64 (x15_1 + 1)) l0_0 a0_1 t237 t240) = some (r1,r2,r3) := by rw [if_pos rfl] at H;exact H
            clear H
            have H := H1
            clear H1
            have H' := Aside0.mk H
            clear H
            obtain ⟨Ao36,co36,eo36⟩ := Kd.R_slice HO_229000.out
            subst eo36
            try go_wp2
            have n0_ := Aside0.mk (Kd.R_drew HO_229000.out)
            have n1_ := Aside0.mk (blk_drew BK222.out)
            have n2_ := Aside0.mk (blk_drew BK223.out)
            have n3_ := Aside0.mk (blk_drew BK228.out)
            have n4_ := Aside0.mk (below_drew1 HB.out)
            clear HO_229000
            clear BK222
            clear BK223
            clear BK228
            clear HB
            have HO_229000 := n0_
            have BK222 := n1_
            have BK223 := n2_
            have BK228 := n3_
            have HB := n4_
            clear n0_ n1_ n2_ n3_ n4_
            have p235 : 0 ≤ (0 : Int) := (by omega)
            have q235 : 0 < ((rd_L1 l1 x15_1).length : Int) := of_decide_eq_true (by first | (with_reducible assumption) | assumption)
            obtain ⟨ad235,e235,hx235_0⟩ := Kd.at_int HR229_0.out 0 p235 q235
            have hw235_0 := hx235_0
            (try rw [show ((0 : Int)).toNat = 0 from rfl] at hw235_0)
            (try rw [show 0 * 1 = 0 from rfl] at hw235_0)
            (try rw [Addr.add_zero'] at hw235_0)
            cases e235
            have qi235 : (0 < (rd_L1 l1 x15_1).length) = True := eq_true (by omega)
            (try rw [show ((0 : Int)).toNat = 0 from rfl] at hx235_0)
            (try rw [Addr.add_zero'] at hx235_0)
            replace hx235_0 := (HB.out.cell (World.block_lt_of_cell? w _ hx235_0)).trans hx235_0
            replace p235 := eq_true p235
            replace q235 := eq_true q235
            have p236 : 0 ≤ (1 : Int) := (by omega)
            have q236 : 1 < ((rd_L1 l1 x15_1).length : Int) := of_decide_eq_true (by first | (with_reducible assumption) | assumption)
            obtain ⟨ad236,e236,hx236_0⟩ := Kd.at_int HR229_0.out 1 p236 q236
            have hw236_0 := hx236_0
            (try rw [show ((1 : Int)).toNat = 1 from rfl] at hw236_0)
            (try rw [show 1 * 1 = 1 from rfl] at hw236_0)
            (try simp only [Nat.reduceMul,Nat.reduceEqDiff,Go.Addr.add, ↓reduceIte] at hw236_0)
            obtain rfl : ad235 = ad236 := (by injection e236)
            (try simp only [show (1 : Int).toNat = 1 from rfl,Nat.reduceMul,Nat.reduceEqDiff,Go.Addr.add, ↓reduceIte] at hx236_0)
            have qi236 : (1 < (rd_L1 l1 x15_1).length) = True := eq_true (by omega)
            (try rw [show ((1 : Int)).toNat = 1 from rfl] at hx236_0)
            replace hx236_0 := (HB.out.cell (World.block_lt_of_cell? w _ hx236_0)).trans hx236_0
            replace p236 := eq_true p236
            replace q236 := eq_true q236
            refine start_ (n := 14) (S := fun w' => w'.cell? ⟨gb228,0,none⟩ = some (.slice Ao36 x229000_1.length co36) ∧ w'.cell? ⟨gb228,1,none⟩ = some (.int .i64 x229001_1) ∧ w'.cell? ad235 = some (.int .i64 (rd (rd_L1 l1 x15_1) 0)) ∧ w'.cell? ⟨ad235.block,ad235.off + 1,none⟩ = some (.int .i64 (rd (rd_L1 l1 x15_1) 1))) (ds := []) #[false,false,false,false,false,false,false,false,false,false,false,false,false,false] (by kernel_rfl) rfl rfl ⟨(blk_cell BK228.out 0).trans rfl,(blk_cell BK228.out 1).trans rfl,((HB.out.cell (World.block_lt_of_cell? w _ hw235_0)).trans hw235_0),((HB.out.cell (World.block_lt_of_cell? w _ hw236_0)).trans hw236_0)⟩ (fun hHeld => ?_);refine with_tabW spec_cuPlay.tab7 spec_cuPlay.bits7 (fun HT_ HW_ => ?_)
            generalize wc.drew = w37 at HO_229000 BK222 BK223 BK228 HB hx235_0 hx236_0 hHeld ⊢
            refine pure_ (i := 1) (N := some 45) (v := ?_) (a' := ?_) #[false,true,false,false,false,false,false,false,false,false,false,false,false,false] rfl rfl (any_of HT_.out (by kernel_rfl)) (fun _ _ _ h => h) (Or.inl ⟨by rfl,?_⟩) ?_ ?_
            rotate_left
            ·intro w'
             go_simp
             with_reducible rfl
            rotate_left
            ·simp only [Act.put,List.setIfInBounds_toArray,List.set_cons_zero,List.set_cons_succ,i64_w,i32_w]
             rfl
            refine pure_ (i := 2) (N := some 46) (v := ?_) (a' := ?_) #[false,true,true,false,false,false,false,false,false,false,false,false,false,false] rfl rfl (any_of HT_.out (by kernel_rfl)) (fun _ _ _ h => h) (Or.inl ⟨by rfl,?_⟩) ?_ ?_
            rotate_left
            ·intro w'
             go_simp
             with_reducible rfl
            rotate_left
            ·simp only [Act.put,List.setIfInBounds_toArray,List.set_cons_zero,List.set_cons_succ,i64_w,i32_w]
             rfl
            refine pure_ (i := 4) (N := some 48) (v := ?_) (a' := ?_) #[false,true,true,false,true,false,false,false,false,false,false,false,false,false] rfl rfl (any_of HT_.out (by kernel_rfl)) (fun _ _ _ h => h) (Or.inl ⟨by rfl,?_⟩) ?_ ?_
            rotate_left
            ·intro w'
             go_simp
             with_reducible rfl
            rotate_left
            ·simp only [Act.put,List.setIfInBounds_toArray,List.set_cons_zero,List.set_cons_succ,i64_w,i32_w]
             rfl
            refine pure_ (i := 5) (N := some 49) (v := ?_) (a' := ?_) #[false,true,true,false,true,true,false,false,false,false,false,false,false,false] rfl rfl (any_of HT_.out (by kernel_rfl)) (fun _ _ _ h => h) (Or.inl ⟨by rfl,?_⟩) ?_ ?_
            rotate_left
            ·intro w'
             go_simp
             with_reducible rfl
            rotate_left
            ·simp only [Act.put,List.setIfInBounds_toArray,List.set_cons_zero,List.set_cons_succ,i64_w,i32_w]
             rfl
            refine take_ (i := 0) (N := some 44) (v := ?_) (a' := ?_) #[true,true,true,false,true,true,false,false,false,false,false,false,false,false] rfl rfl (take_ofW HT_.out HW_.out (by kernel_rfl)) (fun _ _ _ h => h) (Or.inl ⟨by rfl,?_⟩) hHeld ?_ ?_
            rotate_left
            ·rintro w' ⟨s0,s1,s2,s3⟩
             go_simp
             with_reducible rfl
            rotate_left
            ·simp only [Act.put,List.setIfInBounds_toArray,List.set_cons_zero,List.set_cons_succ,i64_w,i32_w]
             rfl
            refine take_ (i := 3) (N := some 47) (v := ?_) (a' := ?_) #[true,true,true,true,true,true,false,false,false,false,false,false,false,false] rfl rfl (take_ofW HT_.out HW_.out (by kernel_rfl)) (fun _ _ _ h => h) (Or.inl ⟨by rfl,?_⟩) hHeld ?_ ?_
            rotate_left
            ·rintro w' ⟨s0,s1,s2,s3⟩
             go_simp
             with_reducible rfl
            rotate_left
            ·simp only [Act.put,List.setIfInBounds_toArray,List.set_cons_zero,List.set_cons_succ,i64_w,i32_w]
             rfl
            refine take_ (i := 6) (N := some 50) (v := ?_) (a' := ?_) #[true,true,true,true,true,true,true,false,false,false,false,false,false,false] rfl rfl (take_ofW HT_.out HW_.out (by kernel_rfl)) (fun _ _ _ h => h) (Or.inl ⟨by rfl,?_⟩) hHeld ?_ ?_
            rotate_left
            ·rintro w' ⟨s0,s1,s2,s3⟩
             go_simp
             with_reducible rfl
            rotate_left
            ·simp only [Act.put,List.setIfInBounds_toArray,List.set_cons_zero,List.set_cons_succ,i64_w,i32_w]
             rfl
            refine join_ (σ := Value × Nat) 2 #[true,true,true,true,true,true,true,true,true,true,true,true,false,false] (fun s_ => [(51, .tuple #[.agg #[s_.1, .int .i64 t240], .bool true]),(9, .pointer (some ⟨s_.2,0,none⟩)),(43, .tuple #[.agg #[s_.1, .int .i64 t240], .bool true]),(52, .agg #[s_.1, .int .i64 t240]),(53, .bool true)]) (fun s_ w' => (w'.cell? ⟨gb228,0,none⟩ = some (.slice Ao36 x229000_1.length co36) ∧ w'.cell? ⟨gb228,1,none⟩ = some (.int .i64 x229001_1) ∧ w'.cell? ad235 = some (.int .i64 (rd (rd_L1 l1 x15_1) 0)) ∧ w'.cell? ⟨ad235.block,ad235.off + 1,none⟩ = some (.int .i64 (rd (rd_L1 l1 x15_1) 1))) ∧ (Kd.R (Kd.int .i64) 3 w' w.heap.size (fun k_ => some k_ ≠ (.slice Ao36 x229000_1.length co36 : Value).ownBlock) s_.1 t237) ∧ (Kd.R (Kd.int .i64) 3 w' w.heap.size (fun k_ => some k_ ≠ (s_.1 : Value).ownBlock) (.slice Ao36 x229000_1.length co36) x229000_1) ∧ (w'.heap[gb222]? = some (.cells #[.slice A0_0 l0_0.length c0_0, .int .i64 a0_1] 29 (0,0))) ∧ (w'.heap[gb223]? = some (.cells #[.slice none 0 0, .int .i64 x224001_1] 29 (0,0))) ∧ (w'.heap[gb228]? = some (.cells #[.slice Ao36 x229000_1.length co36, .int .i64 x229001_1] 29 (0,0))) ∧ (w'.heap[s_.2]? = some (.cells #[.slice none 0 0, .int .i64 0] 29 (0,0))) ∧ (w.heap.size ≤ s_.2) ∧ (w.heap.size ≤ s_.2) ∧ (gb222 ≠ s_.2) ∧ (s_.2 ≠ gb222) ∧ (gb223 ≠ s_.2) ∧ (s_.2 ≠ gb223) ∧ (gb228 ≠ s_.2) ∧ (s_.2 ≠ gb228) ∧ (Below w.heap.size w w')) ?_ ?_
            rotate_left
            ·intro hCont
             refine two_ (i := 7) (j := 11) (Ni := some 51) (Nj := some 9) #[true,true,true,true,true,true,true,true,false,false,false,false,false,false] #[true,true,true,true,true,true,true,false,false,false,false,true,false,false] rfl rfl rfl rfl (two_of HT_.out (by kernel_rfl)) (by decide) (by decide) (fun K hK => ?_) (fun K hK => ?_)
             ·skip
              refine goes_ Try.func58 (by kernel_rfl) rfl #[.agg #[.slice Ao36 x229000_1.length co36, .int .i64 x229001_1], .int .i64 (rd (rd_L1 l1 x15_1) 0), .int .i64 (rd (rd_L1 l1 x15_1) 1)] (by rfl) rfl rfl (by (try simp only [List.map_toArray,List.map_cons,List.map_nil]);first | done | rfl | (simp only [List.length_drop,List.length_take];rfl)) ?_
              with_reducible refine (spec_cuMix.calls kj16 _ _ x229000_1 x229001_1 (rd (rd_L1 l1 x15_1) 0) (rd (rd_L1 l1 x15_1) 1) t237 t240 true _ ?side1 ?side2 A34.out).mono ?_
              (case side1 => repeat (first | exact (Kd.R_reads' HO_229000.out).2.2 | (with_reducible refine Kd.C_alloc ?_ _) | (with_reducible refine Kd.C_drewN ?_ _) | (with_reducible refine Kd.C_drew ?_)))
              (case side2 => exact (Kd.R_reads' HO_229000.out).2.1)
              rintro e w38 ⟨v238,rfl,ho0,hb⟩
              refine ⟨_,rfl,?_⟩
              have n0_ := Aside0.mk (Kd.R_elder' (by (with_reducible repeat (first | apply Kd.R_alloc | apply Kd.R_drewN | apply Kd.R_drew));exact HO_229000.out) (Kd.R_base ho0) hb)
              have n1_ := Aside0.mk (Kd.R_lower (Kd.R_new' ho0 (Kd.R_lt (by (with_reducible repeat (first | apply Kd.R_alloc | apply Kd.R_drewN | apply Kd.R_drew));exact HO_229000.out))) (below_size (by repeat (first | (with_reducible first | exact HB.out | apply below_alloc | apply pw_below_drewN | apply below_drew1 | refine below_set ?_ GE222.out | refine below_set ?_ GE223.out | refine below_set ?_ GE228.out) | exact HB.out))))
              have n2_ := Aside0.mk (blk_below (g := gb222) (o := .cells #[.slice A0_0 l0_0.length c0_0, .int .i64 a0_1] 29 (0,0)) (by (with_reducible repeat (first | refine blk_drewN ?_ _ | refine blk_drew ?_ | refine blk_alloc ?_ _));exact BK222.out) hb)
              have n3_ := Aside0.mk (blk_below (g := gb223) (o := .cells #[.slice none 0 0, .int .i64 x224001_1] 29 (0,0)) (by (with_reducible repeat (first | refine blk_drewN ?_ _ | refine blk_drew ?_ | refine blk_alloc ?_ _));exact BK223.out) hb)
              have n4_ := Aside0.mk (blk_below (g := gb228) (o := .cells #[.slice Ao36 x229000_1.length co36, .int .i64 x229001_1] 29 (0,0)) (by (with_reducible repeat (first | refine blk_drewN ?_ _ | refine blk_drew ?_ | refine blk_alloc ?_ _));exact BK228.out) hb)
              have n5_ := Aside0.mk (below_step (by repeat (first | (with_reducible first | exact HB.out | apply below_alloc | apply pw_below_drewN | apply below_drew1 | refine below_set ?_ GE222.out | refine below_set ?_ GE223.out | refine below_set ?_ GE228.out) | exact HB.out)) hb)
              clear HO_229000
              clear BK222
              clear BK223
              clear BK228
              clear HB
              have HO_229000 := n0_
              have HO239 := n1_
              have BK222 := n2_
              have BK223 := n3_
              have BK228 := n4_
              have HB := n5_
              clear n0_ n1_ n2_ n3_ n4_ n5_
              (try clear hb)
              (try clear hb2)
              (try clear hk)
              (try clear hi)
              (try clear ho0)
              refine hK.out _ _ ⟨(blk_cell BK228.out 0).trans rfl,(blk_cell BK228.out 1).trans rfl,((HB.out.cell (World.block_lt_of_cell? w _ hw235_0)).trans hw235_0),((HB.out.cell (World.block_lt_of_cell? w _ hw236_0)).trans hw236_0)⟩ (fun hHeld => ?_)
              clear hK K
              refine norm_ (a' := ?_) ?_ ?_
              rotate_left
              ·show Act.put _ (some 51) _ = _
               simp only [Act.put,List.setIfInBounds_toArray,List.set_cons_zero,List.set_cons_succ,i64_w,i32_w]
               rfl
              refine pure_ (i := 8) (N := some 43) (v := ?_) (a' := ?_) #[true,true,true,true,true,true,true,true,true,false,false,false,false,false] rfl rfl (any_of HT_.out (by kernel_rfl)) (fun _ _ _ h => h) (Or.inl ⟨by rfl,?_⟩) ?_ ?_
              rotate_left
              ·intro w'
               go_simp
               with_reducible rfl
              rotate_left
              ·simp only [Act.put,List.setIfInBounds_toArray,List.set_cons_zero,List.set_cons_succ,i64_w,i32_w]
               rfl
              refine pure_ (i := 9) (N := some 52) (v := ?_) (a' := ?_) #[true,true,true,true,true,true,true,true,true,true,false,false,false,false] rfl rfl (any_of HT_.out (by kernel_rfl)) (fun _ _ _ h => h) (Or.inl ⟨by rfl,?_⟩) ?_ ?_
              rotate_left
              ·intro w'
               go_simp
               with_reducible rfl
              rotate_left
              ·simp only [Act.put,List.setIfInBounds_toArray,List.set_cons_zero,List.set_cons_succ,i64_w,i32_w]
               rfl
              refine pure_ (i := 10) (N := some 53) (v := ?_) (a' := ?_) #[true,true,true,true,true,true,true,true,true,true,true,false,false,false] rfl rfl (any_of HT_.out (by kernel_rfl)) (fun _ _ _ h => h) (Or.inl ⟨by rfl,?_⟩) ?_ ?_
              rotate_left
              ·intro w'
               go_simp
               with_reducible rfl
              rotate_left
              ·simp only [Act.put,List.setIfInBounds_toArray,List.set_cons_zero,List.set_cons_succ,i64_w,i32_w]
               rfl
              refine one_ (i := 11) (N := some 9) #[true,true,true,true,true,true,true,true,true,true,true,true,false,false] rfl rfl (one_of HT_.out (by kernel_rfl)) (by decide) (fun K hK => ?_)
              refine box_step ?hg (N := 9) ?hd (cs := #[.slice none 0 0, .int .i64 0]) (t := 29) ?hr ?_;(case hd => rfl);(case hg => rfl);(case hr => first | (go_simp;done) | (go_simp;rfl))
              intro gb242 hg w39 hbox hb
              have n0_ := Aside0.mk (Kd.R_below (by (with_reducible repeat (first | apply Kd.R_alloc | apply Kd.R_drewN | apply Kd.R_drew));exact HO_229000.out) hb)
              have n1_ := Aside0.mk (Kd.R_below (by (with_reducible repeat (first | apply Kd.R_alloc | apply Kd.R_drewN | apply Kd.R_drew));exact HO239.out) hb)
              have n2_ := Aside0.mk (blk_below (g := gb222) (o := .cells #[.slice A0_0 l0_0.length c0_0, .int .i64 a0_1] 29 (0,0)) (by (with_reducible repeat (first | refine blk_drewN ?_ _ | refine blk_drew ?_ | refine blk_alloc ?_ _));exact BK222.out) hb)
              have n3_ := Aside0.mk (blk_below (g := gb223) (o := .cells #[.slice none 0 0, .int .i64 x224001_1] 29 (0,0)) (by (with_reducible repeat (first | refine blk_drewN ?_ _ | refine blk_drew ?_ | refine blk_alloc ?_ _));exact BK223.out) hb)
              have n4_ := Aside0.mk (blk_below (g := gb228) (o := .cells #[.slice Ao36 x229000_1.length co36, .int .i64 x229001_1] 29 (0,0)) (by (with_reducible repeat (first | refine blk_drewN ?_ _ | refine blk_drew ?_ | refine blk_alloc ?_ _));exact BK228.out) hb)
              have n5_ := Aside0.mk (below_step (by repeat (first | (with_reducible first | exact HB.out | apply below_alloc | apply pw_below_drewN | apply below_drew1 | refine below_set ?_ GE222.out | refine below_set ?_ GE223.out | refine below_set ?_ GE228.out) | exact HB.out)) hb)
              have n6_ := Aside0.mk (hbox)
              have n7_ := Aside0.mk ((by rw [hg];exact (below_size (by repeat (first | (with_reducible first | exact HB.out | apply below_alloc | apply pw_below_drewN | apply below_drew1 | refine below_set ?_ GE222.out | refine below_set ?_ GE223.out | refine below_set ?_ GE228.out) | exact HB.out))) : w.heap.size ≤ gb242))
              have n8_ := Aside0.mk ((by rw [hg];exact (below_size (by repeat (first | (with_reducible first | exact HB.out | apply below_alloc | apply pw_below_drewN | apply below_drew1 | refine below_set ?_ GE222.out | refine below_set ?_ GE223.out | refine below_set ?_ GE228.out) | exact HB.out))) : w.heap.size ≤ gb242))
              have n9_ := Aside0.mk ((by rw [hg];exact Nat.ne_of_lt (blk_lt (g := gb222) (o := .cells #[.slice A0_0 l0_0.length c0_0, .int .i64 a0_1] 29 (0,0)) (by (with_reducible repeat (first | refine blk_drewN ?_ _ | refine blk_drew ?_ | refine blk_alloc ?_ _));exact BK222.out)) : gb222 ≠ gb242))
              have n10_ := Aside0.mk ((by rw [hg];exact Nat.ne_of_gt (blk_lt (g := gb222) (o := .cells #[.slice A0_0 l0_0.length c0_0, .int .i64 a0_1] 29 (0,0)) (by (with_reducible repeat (first | refine blk_drewN ?_ _ | refine blk_drew ?_ | refine blk_alloc ?_ _));exact BK222.out)) : gb242 ≠ gb222))
              have n11_ := Aside0.mk ((by rw [hg];exact Nat.ne_of_lt (blk_lt (g := gb223) (o := .cells #[.slice none 0 0, .int .i64 x224001_1] 29 (0,0)) (by (with_reducible repeat (first | refine blk_drewN ?_ _ | refine blk_drew ?_ | refine blk_alloc ?_ _));exact BK223.out)) : gb223 ≠ gb242))
              have n12_ := Aside0.mk ((by rw [hg];exact Nat.ne_of_gt (blk_lt (g := gb223) (o := .cells #[.slice none 0 0, .int .i64 x224001_1] 29 (0,0)) (by (with_reducible repeat (first | refine blk_drewN ?_ _ | refine blk_drew ?_ | refine blk_alloc ?_ _));exact BK223.out)) : gb242 ≠ gb223))
              have n13_ := Aside0.mk ((by rw [hg];exact Nat.ne_of_lt (blk_lt (g := gb228) (o := .cells #[.slice Ao36 x229000_1.length co36, .int .i64 x229001_1] 29 (0,0)) (by (with_reducible repeat (first | refine blk_drewN ?_ _ | refine blk_drew ?_ | refine blk_alloc ?_ _));exact BK228.out)) : gb228 ≠ gb242))
              have n14_ := Aside0.mk ((by rw [hg];exact Nat.ne_of_gt (blk_lt (g := gb228) (o := .cells #[.slice Ao36 x229000_1.length co36, .int .i64 x229001_1] 29 (0,0)) (by (with_reducible repeat (first | refine blk_drewN ?_ _ | refine blk_drew ?_ | refine blk_alloc ?_ _));exact BK228.out)) : gb242 ≠ gb228))
              clear HO_229000
              clear HO239
              clear BK222
              clear BK223
              clear BK228
              clear HB
              have HO_229000 := n0_
              have HO239 := n1_
              have BK222 := n2_
              have BK223 := n3_
              have BK228 := n4_
              have HB := n5_
              have BK242 := n6_
              have GW242 := n7_
              have GE242 := n8_
              have NB222_242 := n9_
              have NB242_222 := n10_
              have NB223_242 := n11_
              have NB242_223 := n12_
              have NB228_242 := n13_
              have NB242_228 := n14_
              clear n0_ n1_ n2_ n3_ n4_ n5_ n6_ n7_ n8_ n9_ n10_ n11_ n12_ n13_ n14_
              clear hb hbox hg
              refine hK.out _ _ ⟨(blk_cell BK228.out 0).trans rfl,(blk_cell BK228.out 1).trans rfl,((HB.out.cell (World.block_lt_of_cell? w _ hw235_0)).trans hw235_0),((HB.out.cell (World.block_lt_of_cell? w _ hw236_0)).trans hw236_0)⟩ (fun hHeld => ?_)
              clear hK K
              refine norm_ (a' := ?_) ?_ ?_
              rotate_left
              ·show Act.put _ (some 9) _ = _
               simp only [Act.put,List.setIfInBounds_toArray,List.set_cons_zero,List.set_cons_succ,i64_w,i32_w]
               rfl
              exact norm_ (by simp only [putAll,Act.put,List.setIfInBounds_toArray,List.set_cons_zero,List.set_cons_succ]) (hCont (v238,gb242) _ ⟨hHeld,(by (with_reducible repeat (first | apply Kd.R_alloc | apply Kd.R_drewN | apply Kd.R_drew));exact Kd.R_mono HO239.out (fun _ hk => hk.2)),(by (with_reducible repeat (first | apply Kd.R_alloc | apply Kd.R_drewN | apply Kd.R_drew));exact Kd.R_mono HO_229000.out (fun _ hk => hk.2)),(by (with_reducible repeat (first | refine blk_drewN ?_ _ | refine blk_drew ?_ | refine blk_alloc ?_ _));exact BK222.out),(by (with_reducible repeat (first | refine blk_drewN ?_ _ | refine blk_drew ?_ | refine blk_alloc ?_ _));exact BK223.out),(by (with_reducible repeat (first | refine blk_drewN ?_ _ | refine blk_drew ?_ | refine blk_alloc ?_ _));exact BK228.out),(by (with_reducible repeat (first | refine blk_drewN ?_ _ | refine blk_drew ?_ | refine blk_alloc ?_ _));exact BK242.out),GW242.out,GE242.out,NB222_242.out,NB242_222.out,NB223_242.out,NB242_223.out,NB228_242.out,NB242_228.out,(by repeat (first | (with_reducible first | exact HB.out | apply below_alloc | apply pw_below_drewN | apply below_drew1 | refine below_set ?_ GE222.out | refine below_set ?_ GE223.out | refine below_set ?_ GE228.out | refine below_set ?_ GE242.out) | exact HB.out))⟩)
             ·skip
              refine box_step ?hg (N := 9) ?hd (cs := #[.slice none 0 0, .int .i64 0]) (t := 29) ?hr ?_;(case hd => rfl);(case hg => rfl);(case hr => first | (go_simp;done) | (go_simp;rfl))
              intro gb242 hg w38 hbox hb
              have n0_ := Aside0.mk (Kd.R_below (by (with_reducible repeat (first | apply Kd.R_alloc | apply Kd.R_drewN | apply Kd.R_drew));exact HO_229000.out) hb)
              have n1_ := Aside0.mk (blk_below (g := gb222) (o := .cells #[.slice A0_0 l0_0.length c0_0, .int .i64 a0_1] 29 (0,0)) (by (with_reducible repeat (first | refine blk_drewN ?_ _ | refine blk_drew ?_ | refine blk_alloc ?_ _));exact BK222.out) hb)
              have n2_ := Aside0.mk (blk_below (g := gb223) (o := .cells #[.slice none 0 0, .int .i64 x224001_1] 29 (0,0)) (by (with_reducible repeat (first | refine blk_drewN ?_ _ | refine blk_drew ?_ | refine blk_alloc ?_ _));exact BK223.out) hb)
              have n3_ := Aside0.mk (blk_below (g := gb228) (o := .cells #[.slice Ao36 x229000_1.length co36, .int .i64 x229001_1] 29 (0,0)) (by (with_reducible repeat (first | refine blk_drewN ?_ _ | refine blk_drew ?_ | refine blk_alloc ?_ _));exact BK228.out) hb)
              have n4_ := Aside0.mk (below_step (by repeat (first | (with_reducible first | exact HB.out | apply below_alloc | apply pw_below_drewN | apply below_drew1 | refine below_set ?_ GE222.out | refine below_set ?_ GE223.out | refine below_set ?_ GE228.out) | exact HB.out)) hb)
              have n5_ := Aside0.mk (hbox)
              have n6_ := Aside0.mk ((by rw [hg];exact (below_size (by repeat (first | (with_reducible first | exact HB.out | apply below_alloc | apply pw_below_drewN | apply below_drew1 | refine below_set ?_ GE222.out | refine below_set ?_ GE223.out | refine below_set ?_ GE228.out) | exact HB.out))) : w.heap.size ≤ gb242))
              have n7_ := Aside0.mk ((by rw [hg];exact (below_size (by repeat (first | (with_reducible first | exact HB.out | apply below_alloc | apply pw_below_drewN | apply below_drew1 | refine below_set ?_ GE222.out | refine below_set ?_ GE223.out | refine below_set ?_ GE228.out) | exact HB.out))) : w.heap.size ≤ gb242))
              have n8_ := Aside0.mk ((by rw [hg];exact Nat.ne_of_lt (blk_lt (g := gb222) (o := .cells #[.slice A0_0 l0_0.length c0_0, .int .i64 a0_1] 29 (0,0)) (by (with_reducible repeat (first | refine blk_drewN ?_ _ | refine blk_drew ?_ | refine blk_alloc ?_ _));exact BK222.out)) : gb222 ≠ gb242))
              have n9_ := Aside0.mk ((by rw [hg];exact Nat.ne_of_gt (blk_lt (g := gb222) (o := .cells #[.slice A0_0 l0_0.length c0_0, .int .i64 a0_1] 29 (0,0)) (by (with_reducible repeat (first | refine blk_drewN ?_ _ | refine blk_drew ?_ | refine blk_alloc ?_ _));exact BK222.out)) : gb242 ≠ gb222))
              have n10_ := Aside0.mk ((by rw [hg];exact Nat.ne_of_lt (blk_lt (g := gb223) (o := .cells #[.slice none 0 0, .int .i64 x224001_1] 29 (0,0)) (by (with_reducible repeat (first | refine blk_drewN ?_ _ | refine blk_drew ?_ | refine blk_alloc ?_ _));exact BK223.out)) : gb223 ≠ gb242))
              have n11_ := Aside0.mk ((by rw [hg];exact Nat.ne_of_gt (blk_lt (g := gb223) (o := .cells #[.slice none 0 0, .int .i64 x224001_1] 29 (0,0)) (by (with_reducible repeat (first | refine blk_drewN ?_ _ | refine blk_drew ?_ | refine blk_alloc ?_ _));exact BK223.out)) : gb242 ≠ gb223))
              have n12_ := Aside0.mk ((by rw [hg];exact Nat.ne_of_lt (blk_lt (g := gb228) (o := .cells #[.slice Ao36 x229000_1.length co36, .int .i64 x229001_1] 29 (0,0)) (by (with_reducible repeat (first | refine blk_drewN ?_ _ | refine blk_drew ?_ | refine blk_alloc ?_ _));exact BK228.out)) : gb228 ≠ gb242))
              have n13_ := Aside0.mk ((by rw [hg];exact Nat.ne_of_gt (blk_lt (g := gb228) (o := .cells #[.slice Ao36 x229000_1.length co36, .int .i64 x229001_1] 29 (0,0)) (by (with_reducible repeat (first | refine blk_drewN ?_ _ | refine blk_drew ?_ | refine blk_alloc ?_ _));exact BK228.out)) : gb242 ≠ gb228))
              clear HO_229000
              clear BK222
              clear BK223
              clear BK228
              clear HB
              have HO_229000 := n0_
              have BK222 := n1_
              have BK223 := n2_
              have BK228 := n3_
              have HB := n4_
              have BK242 := n5_
              have GW242 := n6_
              have GE242 := n7_
              have NB222_242 := n8_
              have NB242_222 := n9_
              have NB223_242 := n10_
              have NB242_223 := n11_
              have NB228_242 := n12_
              have NB242_228 := n13_
              clear n0_ n1_ n2_ n3_ n4_ n5_ n6_ n7_ n8_ n9_ n10_ n11_ n12_ n13_
              clear hb hbox hg
              refine hK.out _ _ ⟨(blk_cell BK228.out 0).trans rfl,(blk_cell BK228.out 1).trans rfl,((HB.out.cell (World.block_lt_of_cell? w _ hw235_0)).trans hw235_0),((HB.out.cell (World.block_lt_of_cell? w _ hw236_0)).trans hw236_0)⟩ (fun hHeld => ?_)
              clear hK K
              refine norm_ (a' := ?_) ?_ ?_
              rotate_left
              ·show Act.put _ (some 9) _ = _
               simp only [Act.put,List.setIfInBounds_toArray,List.set_cons_zero,List.set_cons_succ,i64_w,i32_w]
               rfl
              refine one_ (i := 7) (N := some 51) #[true,true,true,true,true,true,true,true,false,false,false,true,false,false] rfl rfl (one_of HT_.out (by kernel_rfl)) (by decide) (fun K hK => ?_)
              refine goes_ Try.func58 (by kernel_rfl) rfl #[.agg #[.slice Ao36 x229000_1.length co36, .int .i64 x229001_1], .int .i64 (rd (rd_L1 l1 x15_1) 0), .int .i64 (rd (rd_L1 l1 x15_1) 1)] (by rfl) rfl rfl (by (try simp only [List.map_toArray,List.map_cons,List.map_nil]);first | done | rfl | (simp only [List.length_drop,List.length_take];rfl)) ?_
              with_reducible refine (spec_cuMix.calls kj16 _ _ x229000_1 x229001_1 (rd (rd_L1 l1 x15_1) 0) (rd (rd_L1 l1 x15_1) 1) t237 t240 true _ ?side1 ?side2 A34.out).mono ?_
              (case side1 => repeat (first | exact (Kd.R_reads' HO_229000.out).2.2 | (with_reducible refine Kd.C_alloc ?_ _) | (with_reducible refine Kd.C_drewN ?_ _) | (with_reducible refine Kd.C_drew ?_)))
              (case side2 => exact (Kd.R_reads' HO_229000.out).2.1)
              rintro e w39 ⟨v238,rfl,ho0,hb⟩
              refine ⟨_,rfl,?_⟩
              have n0_ := Aside0.mk (Kd.R_elder' (by (with_reducible repeat (first | apply Kd.R_alloc | apply Kd.R_drewN | apply Kd.R_drew));exact HO_229000.out) (Kd.R_base ho0) hb)
              have n1_ := Aside0.mk (Kd.R_lower (Kd.R_new' ho0 (Kd.R_lt (by (with_reducible repeat (first | apply Kd.R_alloc | apply Kd.R_drewN | apply Kd.R_drew));exact HO_229000.out))) (below_size (by repeat (first | (with_reducible first | exact HB.out | apply below_alloc | apply pw_below_drewN | apply below_drew1 | refine below_set ?_ GE222.out | refine below_set ?_ GE223.out | refine below_set ?_ GE228.out | refine below_set ?_ GE242.out) | exact HB.out))))
              have n2_ := Aside0.mk (blk_below (g := gb222) (o := .cells #[.slice A0_0 l0_0.length c0_0, .int .i64 a0_1] 29 (0,0)) (by (with_reducible repeat (first | refine blk_drewN ?_ _ | refine blk_drew ?_ | refine blk_alloc ?_ _));exact BK222.out) hb)
              have n3_ := Aside0.mk (blk_below (g := gb223) (o := .cells #[.slice none 0 0, .int .i64 x224001_1] 29 (0,0)) (by (with_reducible repeat (first | refine blk_drewN ?_ _ | refine blk_drew ?_ | refine blk_alloc ?_ _));exact BK223.out) hb)
              have n4_ := Aside0.mk (blk_below (g := gb228) (o := .cells #[.slice Ao36 x229000_1.length co36, .int .i64 x229001_1] 29 (0,0)) (by (with_reducible repeat (first | refine blk_drewN ?_ _ | refine blk_drew ?_ | refine blk_alloc ?_ _));exact BK228.out) hb)
              have n5_ := Aside0.mk (blk_below (g := gb242) (o := .cells #[.slice none 0 0, .int .i64 0] 29 (0,0)) (by (with_reducible repeat (first | refine blk_drewN ?_ _ | refine blk_drew ?_ | refine blk_alloc ?_ _));exact BK242.out) hb)
              have n6_ := Aside0.mk (below_step (by repeat (first | (with_reducible first | exact HB.out | apply below_alloc | apply pw_below_drewN | apply below_drew1 | refine below_set ?_ GE222.out | refine below_set ?_ GE223.out | refine below_set ?_ GE228.out | refine below_set ?_ GE242.out) | exact HB.out)) hb)
              clear HO_229000
              clear BK222
              clear BK223
              clear BK228
              clear BK242
              clear HB
              have HO_229000 := n0_
              have HO239 := n1_
              have BK222 := n2_
              have BK223 := n3_
              have BK228 := n4_
              have BK242 := n5_
              have HB := n6_
              clear n0_ n1_ n2_ n3_ n4_ n5_ n6_
              (try clear hb)
              (try clear hb2)
              (try clear hk)
              (try clear hi)
              (try clear ho0)
              refine hK.out _ _ ⟨(blk_cell BK228.out 0).trans rfl,(blk_cell BK228.out 1).trans rfl,((HB.out.cell (World.block_lt_of_cell? w _ hw235_0)).trans hw235_0),((HB.out.cell (World.block_lt_of_cell? w _ hw236_0)).trans hw236_0)⟩ (fun hHeld => ?_)
              clear hK K
              refine norm_ (a' := ?_) ?_ ?_
              rotate_left
              ·show Act.put _ (some 51) _ = _
               simp only [Act.put,List.setIfInBounds_toArray,List.set_cons_zero,List.set_cons_succ,i64_w,i32_w]
               rfl
              refine pure_ (i := 8) (N := some 43) (v := ?_) (a' := ?_) #[true,true,true,true,true,true,true,true,true,false,false,true,false,false] rfl rfl (any_of HT_.out (by kernel_rfl)) (fun _ _ _ h => h) (Or.inl ⟨by rfl,?_⟩) ?_ ?_
              rotate_left
              ·intro w'
               go_simp
               with_reducible rfl
              rotate_left
              ·simp only [Act.put,List.setIfInBounds_toArray,List.set_cons_zero,List.set_cons_succ,i64_w,i32_w]
               rfl
              refine pure_ (i := 9) (N := some 52) (v := ?_) (a' := ?_) #[true,true,true,true,true,true,true,true,true,true,false,true,false,false] rfl rfl (any_of HT_.out (by kernel_rfl)) (fun _ _ _ h => h) (Or.inl ⟨by rfl,?_⟩) ?_ ?_
              rotate_left
              ·intro w'
               go_simp
               with_reducible rfl
              rotate_left
              ·simp only [Act.put,List.setIfInBounds_toArray,List.set_cons_zero,List.set_cons_succ,i64_w,i32_w]
               rfl
              refine pure_ (i := 10) (N := some 53) (v := ?_) (a' := ?_) #[true,true,true,true,true,true,true,true,true,true,true,true,false,false] rfl rfl (any_of HT_.out (by kernel_rfl)) (fun _ _ _ h => h) (Or.inl ⟨by rfl,?_⟩) ?_ ?_
              rotate_left
              ·intro w'
               go_simp
               with_reducible rfl
              rotate_left
              ·simp only [Act.put,List.setIfInBounds_toArray,List.set_cons_zero,List.set_cons_succ,i64_w,i32_w]
               rfl
              exact norm_ (by simp only [putAll,Act.put,List.setIfInBounds_toArray,List.set_cons_zero,List.set_cons_succ]) (hCont (v238,gb242) _ ⟨hHeld,(by (with_reducible repeat (first | apply Kd.R_alloc | apply Kd.R_drewN | apply Kd.R_drew));exact Kd.R_mono HO239.out (fun _ hk => hk.2)),(by (with_reducible repeat (first | apply Kd.R_alloc | apply Kd.R_drewN | apply Kd.R_drew));exact Kd.R_mono HO_229000.out (fun _ hk => hk.2)),(by (with_reducible repeat (first | refine blk_drewN ?_ _ | refine blk_drew ?_ | refine blk_alloc ?_ _));exact BK222.out),(by (with_reducible repeat (first | refine blk_drewN ?_ _ | refine blk_drew ?_ | refine blk_alloc ?_ _));exact BK223.out),(by (with_reducible repeat (first | refine blk_drewN ?_ _ | refine blk_drew ?_ | refine blk_alloc ?_ _));exact BK228.out),(by (with_reducible repeat (first | refine blk_drewN ?_ _ | refine blk_drew ?_ | refine blk_alloc ?_ _));exact BK242.out),GW242.out,GE242.out,NB222_242.out,NB242_222.out,NB223_242.out,NB242_223.out,NB228_242.out,NB242_228.out,(by repeat (first | (with_reducible first | exact HB.out | apply below_alloc | apply pw_below_drewN | apply below_drew1 | refine below_set ?_ GE222.out | refine below_set ?_ GE223.out | refine below_set ?_ GE228.out | refine below_set ?_ GE242.out) | exact HB.out))⟩)
            rintro ⟨v238,gb242⟩ w40 ⟨hS_,h0_,h1_,h2_,h3_,h4_,h5_,h6_,h7_,h8_,h9_,h10_,h11_,h12_,h13_,h14_⟩
            have n0_ : Aside0 (Kd.R (Kd.int .i64) 3 w40 w.heap.size (fun k_ => some k_ ≠ (.slice Ao36 x229000_1.length co36 : Value).ownBlock) v238 t237) := ⟨h0_⟩
            have n1_ : Aside0 (Kd.R (Kd.int .i64) 3 w40 w.heap.size (fun k_ => some k_ ≠ (v238 : Value).ownBlock) (.slice Ao36 x229000_1.length co36) x229000_1) := ⟨h1_⟩
            have n2_ : Aside0 (w40.heap[gb222]? = some (.cells #[.slice A0_0 l0_0.length c0_0, .int .i64 a0_1] 29 (0,0))) := ⟨h2_⟩
            have n3_ : Aside0 (w40.heap[gb223]? = some (.cells #[.slice none 0 0, .int .i64 x224001_1] 29 (0,0))) := ⟨h3_⟩
            have n4_ : Aside0 (w40.heap[gb228]? = some (.cells #[.slice Ao36 x229000_1.length co36, .int .i64 x229001_1] 29 (0,0))) := ⟨h4_⟩
            have n5_ : Aside0 (w40.heap[gb242]? = some (.cells #[.slice none 0 0, .int .i64 0] 29 (0,0))) := ⟨h5_⟩
            have n6_ : Aside0 (w.heap.size ≤ gb242) := ⟨h6_⟩
            have n7_ : Aside0 (w.heap.size ≤ gb242) := ⟨h7_⟩
            have n8_ : Aside0 (gb222 ≠ gb242) := ⟨h8_⟩
            have n9_ : Aside0 (gb242 ≠ gb222) := ⟨h9_⟩
            have n10_ : Aside0 (gb223 ≠ gb242) := ⟨h10_⟩
            have n11_ : Aside0 (gb242 ≠ gb223) := ⟨h11_⟩
            have n12_ : Aside0 (gb228 ≠ gb242) := ⟨h12_⟩
            have n13_ : Aside0 (gb242 ≠ gb228) := ⟨h13_⟩
            have n14_ : Aside0 (Below w.heap.size w w40) := ⟨h14_⟩
            clear HO_229000
            clear BK222
            clear BK223
            clear BK228
            clear HB
            clear h0_ h1_ h2_ h3_ h4_ h5_ h6_ h7_ h8_ h9_ h10_ h11_ h12_ h13_ h14_
            have HO239 := n0_
            have HO_229000 := n1_
            have BK222 := n2_
            have BK223 := n3_
            have BK228 := n4_
            have BK242 := n5_
            have GW242 := n6_
            have GE242 := n7_
            have NB222_242 := n8_
            have NB242_222 := n9_
            have NB223_242 := n10_
            have NB242_223 := n11_
            have NB228_242 := n12_
            have NB242_228 := n13_
            have HB := n14_
            clear n0_ n1_ n2_ n3_ n4_ n5_ n6_ n7_ n8_ n9_ n10_ n11_ n12_ n13_ n14_
            have hHeld : w40.cell? ⟨gb228,0,none⟩ = some (.slice Ao36 x229000_1.length co36) ∧ w40.cell? ⟨gb228,1,none⟩ = some (.int .i64 x229001_1) ∧ w40.cell? ad235 = some (.int .i64 (rd (rd_L1 l1 x15_1) 0)) ∧ w40.cell? ⟨ad235.block,ad235.off + 1,none⟩ = some (.int .i64 (rd (rd_L1 l1 x15_1) 1)) := hS_
            obtain ⟨Ao41,co41,eo41⟩ := Kd.R_slice HO239.out
            (first | subst eo41 | (injection eo41 with f1_ f2_ f3_;have f4_ := f1_.symm;have f5_ := f3_.symm;clear f1_ f2_ f3_;subst f4_;subst f5_))
            refine norm_ (a' := ?_) ?_ ?_
            rotate_left
            ·simp only [putAll,Act.put,List.setIfInBounds_toArray,List.set_cons_zero,List.set_cons_succ]
             rfl
            refine one_ (i := 12) (N := none) #[true,true,true,true,true,true,true,true,true,true,true,true,true,false] rfl rfl (one_of HT_.out (by kernel_rfl)) (by decide) (fun K hK => ?_)
            have hs42 : w40.cell? ⟨gb242,0,none⟩ = some (.slice none 0 0) := (blk_cell BK242.out 0).trans rfl
            have hfs42 := blk_frozen BK242.out 0
            have hns42_0 := NB222_242.out
            have hns42_1 := NB223_242.out
            have hns42_2 := NB228_242.out
            have hms42_0 := NB242_222.out
            have hms42_1 := NB242_223.out
            have hms42_2 := NB242_228.out
            have hs43 : w40.cell? ⟨gb242,1,none⟩ = some (.int .i64 0) := (blk_cell BK242.out 1).trans rfl
            have hfs43 := blk_frozen BK242.out 1
            have hns43_0 := NB222_242.out
            have hns43_1 := NB223_242.out
            have hns43_2 := NB228_242.out
            have hms43_0 := NB242_222.out
            have hms43_1 := NB242_223.out
            have hms43_2 := NB242_228.out
            refine skip_ (w1 := ?_) (by rfl) rfl ?_ ?_
            rotate_left
            ·go_simp
             rfl
            refine hK.out _ _ ⟨((cell_far (p := ⟨gb242,_,none⟩) NB228_242.out _).trans (((cell_far (p := ⟨gb242,_,none⟩) NB228_242.out _).trans (hHeld.1)))),((cell_far (p := ⟨gb242,_,none⟩) NB228_242.out _).trans (((cell_far (p := ⟨gb242,_,none⟩) NB228_242.out _).trans (hHeld.2.1)))),((cell_far (p := ⟨gb242,_,none⟩) (by first | exact Nat.ne_of_lt (Nat.lt_of_lt_of_le (by have := World.block_lt_of_cell? _ _ hw235_0;first | rwa [add_block] at this | exact this) GW242.out) | (rw [add_block];exact Nat.ne_of_lt (Nat.lt_of_lt_of_le (by have := World.block_lt_of_cell? _ _ hw235_0;first | rwa [add_block] at this | exact this) GW242.out)) | (show (Addr.add _ _).block ≠ _;rw [add_block];exact Nat.ne_of_lt (Nat.lt_of_lt_of_le (by have := World.block_lt_of_cell? _ _ hw235_0;first | rwa [add_block] at this | exact this) GW242.out)) | (dsimp only;exact Nat.ne_of_lt (Nat.lt_of_lt_of_le (by have := World.block_lt_of_cell? _ _ hw235_0;first | rwa [add_block] at this | exact this) GW242.out))) _).trans (((cell_far (p := ⟨gb242,_,none⟩) (by first | exact Nat.ne_of_lt (Nat.lt_of_lt_of_le (by have := World.block_lt_of_cell? _ _ hw235_0;first | rwa [add_block] at this | exact this) GW242.out) | (rw [add_block];exact Nat.ne_of_lt (Nat.lt_of_lt_of_le (by have := World.block_lt_of_cell? _ _ hw235_0;first | rwa [add_block] at this | exact this) GW242.out)) | (show (Addr.add _ _).block ≠ _;rw [add_block];exact Nat.ne_of_lt (Nat.lt_of_lt_of_le (by have := World.block_lt_of_cell? _ _ hw235_0;first | rwa [add_block] at this | exact this) GW242.out)) | (dsimp only;exact Nat.ne_of_lt (Nat.lt_of_lt_of_le (by have := World.block_lt_of_cell? _ _ hw235_0;first | rwa [add_block] at this | exact this) GW242.out))) _).trans (hHeld.2.2.1)))),((cell_far (p := ⟨gb242,_,none⟩) (by first | exact Nat.ne_of_lt (Nat.lt_of_lt_of_le (by have := World.block_lt_of_cell? _ _ hw236_0;first | rwa [add_block] at this | exact this) GW242.out) | (rw [add_block];exact Nat.ne_of_lt (Nat.lt_of_lt_of_le (by have := World.block_lt_of_cell? _ _ hw236_0;first | rwa [add_block] at this | exact this) GW242.out)) | (show (Addr.add _ _).block ≠ _;rw [add_block];exact Nat.ne_of_lt (Nat.lt_of_lt_of_le (by have := World.block_lt_of_cell? _ _ hw236_0;first | rwa [add_block] at this | exact this) GW242.out)) | (dsimp only;exact Nat.ne_of_lt (Nat.lt_of_lt_of_le (by have := World.block_lt_of_cell? _ _ hw236_0;first | rwa [add_block] at this | exact this) GW242.out))) _).trans (((cell_far (p := ⟨gb242,_,none⟩) (by first | exact Nat.ne_of_lt (Nat.lt_of_lt_of_le (by have := World.block_lt_of_cell? _ _ hw236_0;first | rwa [add_block] at this | exact this) GW242.out) | (rw [add_block];exact Nat.ne_of_lt (Nat.lt_of_lt_of_le (by have := World.block_lt_of_cell? _ _ hw236_0;first | rwa [add_block] at this | exact this) GW242.out)) | (show (Addr.add _ _).block ≠ _;rw [add_block];exact Nat.ne_of_lt (Nat.lt_of_lt_of_le (by have := World.block_lt_of_cell? _ _ hw236_0;first | rwa [add_block] at this | exact this) GW242.out)) | (dsimp only;exact Nat.ne_of_lt (Nat.lt_of_lt_of_le (by have := World.block_lt_of_cell? _ _ hw236_0;first | rwa [add_block] at this | exact this) GW242.out))) _).trans (hHeld.2.2.2))))⟩ (fun hHeld => ?_)
            clear hK K
            refine pure_ (i := 13) (N := some 10) (v := ?_) (a' := ?_) #[true,true,true,true,true,true,true,true,true,true,true,true,true,true] rfl rfl (any_of HT_.out (by kernel_rfl)) (fun _ _ _ h => h) (Or.inl ⟨by rfl,?_⟩) ?_ ?_
            rotate_left
            ·intro w'
             go_simp
             with_reducible rfl
            rotate_left
            ·simp only [Act.put,List.setIfInBounds_toArray,List.set_cons_zero,List.set_cons_succ,i64_w,i32_w]
             rfl
            refine done_ (done_of HT_.out (by kernel_rfl)) ?_
            have hnb44 := NB242_222.out
            have hnc44 := NB222_242.out
            have hnb45 := NB242_223.out
            have hnc45 := NB223_242.out
            have hnb46 := NB242_228.out
            have hnc46 := NB228_242.out
            have hcz47_0 : w40.cell? ⟨gb242,0,none⟩ = some (.slice none 0 0) := (blk_cell BK242.out 0).trans rfl
            have hcz47_1 : w40.cell? ⟨gb242,1,none⟩ = some (.int .i64 0) := (blk_cell BK242.out 1).trans rfl
            have hfz47_0 := blk_frozen BK242.out 0
            have hfz47_1 := blk_frozen BK242.out 1
            have hnb48 := NB228_222.out
            have hnc48 := NB222_228.out
            have hnb49 := NB228_223.out
            have hnc49 := NB223_228.out
            have hcz50_0 : w40.cell? ⟨gb228,0,none⟩ = some (.slice Ao36 x229000_1.length co36) := (blk_cell BK228.out 0).trans rfl
            have hcz50_1 : w40.cell? ⟨gb228,1,none⟩ = some (.int .i64 x229001_1) := (blk_cell BK228.out 1).trans rfl
            have hfz50_0 := blk_frozen BK228.out 0
            have hfz50_1 := blk_frozen BK228.out 1
            try go_wp2
            go_roundg kj16
            case measure => have := HK1.out;have := HJ16.out;omega
            case rel => exact ⟨(wrap64 (x15_1 + 1)),(x224001_1),(t237),(t240),(.slice Ao41 t237.length co41),(by first | rfl | (simp;done) | (simp [*];done)),H',⟨by have := HK1.out;have := HJ16.out;omega⟩,⟨by (with_reducible repeat (first | apply Kd.R_alloc | apply Kd.R_drewN | apply Kd.R_drew));exact Kd.R_mono (Kd.R_far (p := ⟨gb228,1,none⟩) (Kd.R_far (p := ⟨gb228,0,none⟩) (Kd.R_far (p := ⟨gb242,1,none⟩) (Kd.R_far (p := ⟨gb242,0,none⟩) (Kd.R_types (Kd.R_types HO239.out BK242.out (by decide)) BK228.out (by decide)) (fun _ hk => hk.1.2) (.slice Ao41 t237.length co41)) (fun _ hk => hk.1.2) (.int .i64 t240)) (fun _ hk => hk.2) (.slice Ao41 t237.length co41)) (fun _ hk => hk.2) (.int .i64 t240)) (fun _ hk => trivial)⟩,⟨by (with_reducible repeat (first | refine blk_drewN ?_ _ | refine blk_drew ?_ | refine blk_alloc ?_ _));refine blk_far ?_ NB222_228.out _;(with_reducible repeat (first | refine blk_drewN ?_ _ | refine blk_drew ?_ | refine blk_alloc ?_ _));refine blk_far ?_ NB222_228.out _;(with_reducible repeat (first | refine blk_drewN ?_ _ | refine blk_drew ?_ | refine blk_alloc ?_ _));refine blk_far ?_ NB222_242.out _;(with_reducible repeat (first | refine blk_drewN ?_ _ | refine blk_drew ?_ | refine blk_alloc ?_ _));refine blk_far ?_ NB222_242.out _;(with_reducible repeat (first | refine blk_drewN ?_ _ | refine blk_drew ?_ | refine blk_alloc ?_ _));exact BK222.out⟩,⟨by (with_reducible repeat (first | refine blk_drewN ?_ _ | refine blk_drew ?_ | refine blk_alloc ?_ _));refine blk_far ?_ NB223_228.out _;(with_reducible repeat (first | refine blk_drewN ?_ _ | refine blk_drew ?_ | refine blk_alloc ?_ _));refine blk_far ?_ NB223_228.out _;(with_reducible repeat (first | refine blk_drewN ?_ _ | refine blk_drew ?_ | refine blk_alloc ?_ _));refine blk_far ?_ NB223_242.out _;(with_reducible repeat (first | refine blk_drewN ?_ _ | refine blk_drew ?_ | refine blk_alloc ?_ _));refine blk_far ?_ NB223_242.out _;(with_reducible repeat (first | refine blk_drewN ?_ _ | refine blk_drew ?_ | refine blk_alloc ?_ _));exact BK223.out⟩,⟨by (with_reducible repeat (first | refine blk_drewN ?_ _ | refine blk_drew ?_ | refine blk_alloc ?_ _));refine blk_put (cs := #[.slice Ao41 t237.length co41, .int .i64 x229001_1]) ?_ 1 _ rfl;(with_reducible repeat (first | refine blk_drewN ?_ _ | refine blk_drew ?_ | refine blk_alloc ?_ _));refine blk_put (cs := #[.slice Ao36 x229000_1.length co36, .int .i64 x229001_1]) ?_ 0 _ rfl;(with_reducible repeat (first | refine blk_drewN ?_ _ | refine blk_drew ?_ | refine blk_alloc ?_ _));refine blk_far ?_ NB228_242.out _;(with_reducible repeat (first | refine blk_drewN ?_ _ | refine blk_drew ?_ | refine blk_alloc ?_ _));refine blk_far ?_ NB228_242.out _;(with_reducible repeat (first | refine blk_drewN ?_ _ | refine blk_drew ?_ | refine blk_alloc ?_ _));exact BK228.out⟩,⟨by repeat (first | (with_reducible first | exact HB.out | apply below_alloc | apply pw_below_drewN | apply below_drew1 | refine below_set ?_ GE222.out | refine below_set ?_ GE223.out | refine below_set ?_ GE228.out | refine below_set ?_ GE242.out) | exact HB.out)⟩⟩
           ·replace c35 := Bool.eq_false_iff.mpr c35
            subst c35
            have H1 : (some (([] : List Int),0,false)) = some (r1,r2,r3) := by rw [if_neg (show ¬ (false = true) by decide)] at H;exact H
            clear H
            have H := H1
            clear H1
            simp only [Option.some.injEq,Prod.mk.injEq] at H
            obtain ⟨rfl,rfl,rfl⟩ := H
            obtain ⟨Ao51,co51,eo51⟩ := Kd.R_slice HO_229000.out
            subst eo51
            try go_wp2
            have n0_ := Aside0.mk (Kd.R_drew HO_229000.out)
            have n1_ := Aside0.mk (blk_drew BK222.out)
            have n2_ := Aside0.mk (blk_drew BK223.out)
            have n3_ := Aside0.mk (blk_drew BK228.out)
            have n4_ := Aside0.mk (below_drew1 HB.out)
            clear HO_229000
            clear BK222
            clear BK223
            clear BK228
            clear HB
            have HO_229000 := n0_
            have BK222 := n1_
            have BK223 := n2_
            have BK228 := n3_
            have HB := n4_
            clear n0_ n1_ n2_ n3_ n4_
            have p235 : 0 ≤ (0 : Int) := (by omega)
            have q235 : 0 < ((rd_L1 l1 x15_1).length : Int) := of_decide_eq_true (by first | (with_reducible assumption) | assumption)
            obtain ⟨ad235,e235,hx235_0⟩ := Kd.at_int HR229_0.out 0 p235 q235
            have hw235_0 := hx235_0
            (try rw [show ((0 : Int)).toNat = 0 from rfl] at hw235_0)
            (try rw [show 0 * 1 = 0 from rfl] at hw235_0)
            (try rw [Addr.add_zero'] at hw235_0)
            cases e235
            have qi235 : (0 < (rd_L1 l1 x15_1).length) = True := eq_true (by omega)
            (try rw [show ((0 : Int)).toNat = 0 from rfl] at hx235_0)
            (try rw [Addr.add_zero'] at hx235_0)
            replace hx235_0 := (HB.out.cell (World.block_lt_of_cell? w _ hx235_0)).trans hx235_0
            replace p235 := eq_true p235
            replace q235 := eq_true q235
            have p236 : 0 ≤ (1 : Int) := (by omega)
            have q236 : 1 < ((rd_L1 l1 x15_1).length : Int) := of_decide_eq_true (by first | (with_reducible assumption) | assumption)
            obtain ⟨ad236,e236,hx236_0⟩ := Kd.at_int HR229_0.out 1 p236 q236
            have hw236_0 := hx236_0
            (try rw [show ((1 : Int)).toNat = 1 from rfl] at hw236_0)
            (try rw [show 1 * 1 = 1 from rfl] at hw236_0)
            (try simp only [Nat.reduceMul,Nat.reduceEqDiff,Go.Addr.add, ↓reduceIte] at hw236_0)
            obtain rfl : ad235 = ad236 := (by injection e236)
            (try simp only [show (1 : Int).toNat = 1 from rfl,Nat.reduceMul,Nat.reduceEqDiff,Go.Addr.add, ↓reduceIte] at hx236_0)
            have qi236 : (1 < (rd_L1 l1 x15_1).length) = True := eq_true (by omega)
            (try rw [show ((1 : Int)).toNat = 1 from rfl] at hx236_0)
            replace hx236_0 := (HB.out.cell (World.block_lt_of_cell? w _ hx236_0)).trans hx236_0
            replace p236 := eq_true p236
            replace q236 := eq_true q236
            refine start_ (n := 14) (S := fun w' => w'.cell? ⟨gb228,0,none⟩ = some (.slice Ao51 x229000_1.length co51) ∧ w'.cell? ⟨gb228,1,none⟩ = some (.int .i64 x229001_1) ∧ w'.cell? ad235 = some (.int .i64 (rd (rd_L1 l1 x15_1) 0)) ∧ w'.cell? ⟨ad235.block,ad235.off + 1,none⟩ = some (.int .i64 (rd (rd_L1 l1 x15_1) 1))) (ds := []) #[false,false,false,false,false,false,false,false,false,false,false,false,false,false] (by kernel_rfl) rfl rfl ⟨(blk_cell BK228.out 0).trans rfl,(blk_cell BK228.out 1).trans rfl,((HB.out.cell (World.block_lt_of_cell? w _ hw235_0)).trans hw235_0),((HB.out.cell (World.block_lt_of_cell? w _ hw236_0)).trans hw236_0)⟩ (fun hHeld => ?_);refine with_tabW spec_cuPlay.tab7 spec_cuPlay.bits7 (fun HT_ HW_ => ?_)
            generalize wc.drew = w52 at HO_229000 BK222 BK223 BK228 HB hx235_0 hx236_0 hHeld ⊢
            refine pure_ (i := 1) (N := some 45) (v := ?_) (a' := ?_) #[false,true,false,false,false,false,false,false,false,false,false,false,false,false] rfl rfl (any_of HT_.out (by kernel_rfl)) (fun _ _ _ h => h) (Or.inl ⟨by rfl,?_⟩) ?_ ?_
            rotate_left
            ·intro w'
             go_simp
             with_reducible rfl
            rotate_left
            ·simp only [Act.put,List.setIfInBounds_toArray,List.set_cons_zero,List.set_cons_succ,i64_w,i32_w]
             rfl
            refine pure_ (i := 2) (N := some 46) (v := ?_) (a' := ?_) #[false,true,true,false,false,false,false,false,false,false,false,false,false,false] rfl rfl (any_of HT_.out (by kernel_rfl)) (fun _ _ _ h => h) (Or.inl ⟨by rfl,?_⟩) ?_ ?_
            rotate_left
            ·intro w'
             go_simp
             with_reducible rfl
            rotate_left
            ·simp only [Act.put,List.setIfInBounds_toArray,List.set_cons_zero,List.set_cons_succ,i64_w,i32_w]
             rfl
            refine pure_ (i := 4) (N := some 48) (v := ?_) (a' := ?_) #[false,true,true,false,true,false,false,false,false,false,false,false,false,false] rfl rfl (any_of HT_.out (by kernel_rfl)) (fun _ _ _ h => h) (Or.inl ⟨by rfl,?_⟩) ?_ ?_
            rotate_left
            ·intro w'
             go_simp
             with_reducible rfl
            rotate_left
            ·simp only [Act.put,List.setIfInBounds_toArray,List.set_cons_zero,List.set_cons_succ,i64_w,i32_w]
             rfl
            refine pure_ (i := 5) (N := some 49) (v := ?_) (a' := ?_) #[false,true,true,false,true,true,false,false,false,false,false,false,false,false] rfl rfl (any_of HT_.out (by kernel_rfl)) (fun _ _ _ h => h) (Or.inl ⟨by rfl,?_⟩) ?_ ?_
            rotate_left
            ·intro w'
             go_simp
             with_reducible rfl
            rotate_left
            ·simp only [Act.put,List.setIfInBounds_toArray,List.set_cons_zero,List.set_cons_succ,i64_w,i32_w]
             rfl
            refine take_ (i := 0) (N := some 44) (v := ?_) (a' := ?_) #[true,true,true,false,true,true,false,false,false,false,false,false,false,false] rfl rfl (take_ofW HT_.out HW_.out (by kernel_rfl)) (fun _ _ _ h => h) (Or.inl ⟨by rfl,?_⟩) hHeld ?_ ?_
            rotate_left
            ·rintro w' ⟨s0,s1,s2,s3⟩
             go_simp
             with_reducible rfl
            rotate_left
            ·simp only [Act.put,List.setIfInBounds_toArray,List.set_cons_zero,List.set_cons_succ,i64_w,i32_w]
             rfl
            refine take_ (i := 3) (N := some 47) (v := ?_) (a' := ?_) #[true,true,true,true,true,true,false,false,false,false,false,false,false,false] rfl rfl (take_ofW HT_.out HW_.out (by kernel_rfl)) (fun _ _ _ h => h) (Or.inl ⟨by rfl,?_⟩) hHeld ?_ ?_
            rotate_left
            ·rintro w' ⟨s0,s1,s2,s3⟩
             go_simp
             with_reducible rfl
            rotate_left
            ·simp only [Act.put,List.setIfInBounds_toArray,List.set_cons_zero,List.set_cons_succ,i64_w,i32_w]
             rfl
            refine take_ (i := 6) (N := some 50) (v := ?_) (a' := ?_) #[true,true,true,true,true,true,true,false,false,false,false,false,false,false] rfl rfl (take_ofW HT_.out HW_.out (by kernel_rfl)) (fun _ _ _ h => h) (Or.inl ⟨by rfl,?_⟩) hHeld ?_ ?_
            rotate_left
            ·rintro w' ⟨s0,s1,s2,s3⟩
             go_simp
             with_reducible rfl
            rotate_left
            ·simp only [Act.put,List.setIfInBounds_toArray,List.set_cons_zero,List.set_cons_succ,i64_w,i32_w]
             rfl
            refine join_ (σ := Value × Nat) 2 #[true,true,true,true,true,true,true,true,true,true,true,true,false,false] (fun s_ => [(51, .tuple #[.agg #[s_.1, .int .i64 t240], .bool false]),(9, .pointer (some ⟨s_.2,0,none⟩)),(43, .tuple #[.agg #[s_.1, .int .i64 t240], .bool false]),(52, .agg #[s_.1, .int .i64 t240]),(53, .bool false)]) (fun s_ w' => (w'.cell? ⟨gb228,0,none⟩ = some (.slice Ao51 x229000_1.length co51) ∧ w'.cell? ⟨gb228,1,none⟩ = some (.int .i64 x229001_1) ∧ w'.cell? ad235 = some (.int .i64 (rd (rd_L1 l1 x15_1) 0)) ∧ w'.cell? ⟨ad235.block,ad235.off + 1,none⟩ = some (.int .i64 (rd (rd_L1 l1 x15_1) 1))) ∧ (Kd.R (Kd.int .i64) 3 w' w.heap.size (fun k_ => some k_ ≠ (.slice Ao51 x229000_1.length co51 : Value).ownBlock) s_.1 t237) ∧ (Kd.R (Kd.int .i64) 3 w' w.heap.size (fun k_ => some k_ ≠ (s_.1 : Value).ownBlock) (.slice Ao51 x229000_1.length co51) x229000_1) ∧ (w'.heap[gb222]? = some (.cells #[.slice A0_0 l0_0.length c0_0, .int .i64 a0_1] 29 (0,0))) ∧ (w'.heap[gb223]? = some (.cells #[.slice none 0 0, .int .i64 x224001_1] 29 (0,0))) ∧ (w'.heap[gb228]? = some (.cells #[.slice Ao51 x229000_1.length co51, .int .i64 x229001_1] 29 (0,0))) ∧ (w'.heap[s_.2]? = some (.cells #[.slice none 0 0, .int .i64 0] 29 (0,0))) ∧ (w.heap.size ≤ s_.2) ∧ (w.heap.size ≤ s_.2) ∧ (gb222 ≠ s_.2) ∧ (s_.2 ≠ gb222) ∧ (gb223 ≠ s_.2) ∧ (s_.2 ≠ gb223) ∧ (gb228 ≠ s_.2) ∧ (s_.2 ≠ gb228) ∧ (Below w.heap.size w w')) ?_ ?_
            rotate_left
            ·intro hCont
             refine two_ (i := 7) (j := 11) (Ni := some 51) (Nj := some 9) #[true,true,true,true,true,true,true,true,false,false,false,false,false,false] #[true,true,true,true,true,true,true,false,false,false,false,true,false,false] rfl rfl rfl rfl (two_of HT_.out (by kernel_rfl)) (by decide) (by decide) (fun K hK => ?_) (fun K hK => ?_)
             ·skip
              refine goes_ Try.func58 (by kernel_rfl) rfl #[.agg #[.slice Ao51 x229000_1.length co51, .int .i64 x229001_1], .int .i64 (rd (rd_L1 l1 x15_1) 0), .int .i64 (rd (rd_L1 l1 x15_1) 1)] (by rfl) rfl rfl (by (try simp only [List.map_toArray,List.map_cons,List.map_nil]);first | done | rfl | (simp only [List.length_drop,List.length_take];rfl)) ?_
              with_reducible refine (spec_cuMix.calls kj16 _ _ x229000_1 x229001_1 (rd (rd_L1 l1 x15_1) 0) (rd (rd_L1 l1 x15_1) 1) t237 t240 false _ ?side1 ?side2 A34.out).mono ?_
              (case side1 => repeat (first | exact (Kd.R_reads' HO_229000.out).2.2 | (with_reducible refine Kd.C_alloc ?_ _) | (with_reducible refine Kd.C_drewN ?_ _) | (with_reducible refine Kd.C_drew ?_)))
              (case side2 => exact (Kd.R_reads' HO_229000.out).2.1)
              rintro e w53 ⟨v238,rfl,ho0,hb⟩
              refine ⟨_,rfl,?_⟩
              have n0_ := Aside0.mk (Kd.R_elder' (by (with_reducible repeat (first | apply Kd.R_alloc | apply Kd.R_drewN | apply Kd.R_drew));exact HO_229000.out) (Kd.R_base ho0) hb)
              have n1_ := Aside0.mk (Kd.R_lower (Kd.R_new' ho0 (Kd.R_lt (by (with_reducible repeat (first | apply Kd.R_alloc | apply Kd.R_drewN | apply Kd.R_drew));exact HO_229000.out))) (below_size (by repeat (first | (with_reducible first | exact HB.out | apply below_alloc | apply pw_below_drewN | apply below_drew1 | refine below_set ?_ GE222.out | refine below_set ?_ GE223.out | refine below_set ?_ GE228.out) | exact HB.out))))
              have n2_ := Aside0.mk (blk_below (g := gb222) (o := .cells #[.slice A0_0 l0_0.length c0_0, .int .i64 a0_1] 29 (0,0)) (by (with_reducible repeat (first | refine blk_drewN ?_ _ | refine blk_drew ?_ | refine blk_alloc ?_ _));exact BK222.out) hb)
              have n3_ := Aside0.mk (blk_below (g := gb223) (o := .cells #[.slice none 0 0, .int .i64 x224001_1] 29 (0,0)) (by (with_reducible repeat (first | refine blk_drewN ?_ _ | refine blk_drew ?_ | refine blk_alloc ?_ _));exact BK223.out) hb)
              have n4_ := Aside0.mk (blk_below (g := gb228) (o := .cells #[.slice Ao51 x229000_1.length co51, .int .i64 x229001_1] 29 (0,0)) (by (with_reducible repeat (first | refine blk_drewN ?_ _ | refine blk_drew ?_ | refine blk_alloc ?_ _));exact BK228.out) hb)
              have n5_ := Aside0.mk (below_step (by repeat (first | (with_reducible first | exact HB.out | apply below_alloc | apply pw_below_drewN | apply below_drew1 | refine below_set ?_ GE222.out | refine below_set ?_ GE223.out | refine below_set ?_ GE228.out) | exact HB.out)) hb)
              clear HO_229000
              clear BK222
              clear BK223
              clear BK228
              clear HB
              have HO_229000 := n0_
              have HO239 := n1_
              have BK222 := n2_
              have BK223 := n3_
              have BK228 := n4_
              have HB := n5_
              clear n0_ n1_ n2_ n3_ n4_ n5_
              (try clear hb)
              (try clear hb2)
              (try clear hk)
              (try clear hi)
              (try clear ho0)
              refine hK.out _ _ ⟨(blk_cell BK228.out 0).trans rfl,(blk_cell BK228.out 1).trans rfl,((HB.out.cell (World.block_lt_of_cell? w _ hw235_0)).trans hw235_0),((HB.out.cell (World.block_lt_of_cell? w _ hw236_0)).trans hw236_0)⟩ (fun hHeld => ?_)
              clear hK K
              refine norm_ (a' := ?_) ?_ ?_
              rotate_left
              ·show Act.put _ (some 51) _ = _
               simp only [Act.put,List.setIfInBounds_toArray,List.set_cons_zero,List.set_cons_succ,i64_w,i32_w]
               rfl
              refine pure_ (i := 8) (N := some 43) (v := ?_) (a' := ?_) #[true,true,true,true,true,true,true,true,true,false,false,false,false,false] rfl rfl (any_of HT_.out (by kernel_rfl)) (fun _ _ _ h => h) (Or.inl ⟨by rfl,?_⟩) ?_ ?_
              rotate_left
              ·intro w'
               go_simp
               with_reducible rfl
              rotate_left
              ·simp only [Act.put,List.setIfInBounds_toArray,List.set_cons_zero,List.set_cons_succ,i64_w,i32_w]
               rfl
              refine pure_ (i := 9) (N := some 52) (v := ?_) (a' := ?_) #[true,true,true,true,true,true,true,true,true,true,false,false,false,false] rfl rfl (any_of HT_.out (by kernel_rfl)) (fun _ _ _ h => h) (Or.inl ⟨by rfl,?_⟩) ?_ ?_
              rotate_left
              ·intro w'
               go_simp
               with_reducible rfl
              rotate_left
              ·simp only [Act.put,List.setIfInBounds_toArray,List.set_cons_zero,List.set_cons_succ,i64_w,i32_w]
               rfl
              refine pure_ (i := 10) (N := some 53) (v := ?_) (a' := ?_) #[true,true,true,true,true,true,true,true,true,true,true,false,false,false] rfl rfl (any_of HT_.out (by kernel_rfl)) (fun _ _ _ h => h) (Or.inl ⟨by rfl,?_⟩) ?_ ?_
              rotate_left
              ·intro w'
               go_simp
               with_reducible rfl
              rotate_left
              ·simp only [Act.put,List.setIfInBounds_toArray,List.set_cons_zero,List.set_cons_succ,i64_w,i32_w]
               rfl
              refine one_ (i := 11) (N := some 9) #[true,true,true,true,true,true,true,true,true,true,true,true,false,false] rfl rfl (one_of HT_.out (by kernel_rfl)) (by decide) (fun K hK => ?_)
              refine box_step ?hg (N := 9) ?hd (cs := #[.slice none 0 0, .int .i64 0]) (t := 29) ?hr ?_;(case hd => rfl);(case hg => rfl);(case hr => first | (go_simp;done) | (go_simp;rfl))
              intro gb242 hg w54 hbox hb
              have n0_ := Aside0.mk (Kd.R_below (by (with_reducible repeat (first | apply Kd.R_alloc | apply Kd.R_drewN | apply Kd.R_drew));exact HO_229000.out) hb)
              have n1_ := Aside0.mk (Kd.R_below (by (with_reducible repeat (first | apply Kd.R_alloc | apply Kd.R_drewN | apply Kd.R_drew));exact HO239.out) hb)
              have n2_ := Aside0.mk (blk_below (g := gb222) (o := .cells #[.slice A0_0 l0_0.length c0_0, .int .i64 a0_1] 29 (0,0)) (by (with_reducible repeat (first | refine blk_drewN ?_ _ | refine blk_drew ?_ | refine blk_alloc ?_ _));exact BK222.out) hb)
              have n3_ := Aside0.mk (blk_below (g := gb223) (o := .cells #[.slice none 0 0, .int .i64 x224001_1] 29 (0,0)) (by (with_reducible repeat (first | refine blk_drewN ?_ _ | refine blk_drew ?_ | refine blk_alloc ?_ _));exact BK223.out) hb)
              have n4_ := Aside0.mk (blk_below (g := gb228) (o := .cells #[.slice Ao51 x229000_1.length co51, .int .i64 x229001_1] 29 (0,0)) (by (with_reducible repeat (first | refine blk_drewN ?_ _ | refine blk_drew ?_ | refine blk_alloc ?_ _));exact BK228.out) hb)
              have n5_ := Aside0.mk (below_step (by repeat (first | (with_reducible first | exact HB.out | apply below_alloc | apply pw_below_drewN | apply below_drew1 | refine below_set ?_ GE222.out | refine below_set ?_ GE223.out | refine below_set ?_ GE228.out) | exact HB.out)) hb)
              have n6_ := Aside0.mk (hbox)
              have n7_ := Aside0.mk ((by rw [hg];exact (below_size (by repeat (first | (with_reducible first | exact HB.out | apply below_alloc | apply pw_below_drewN | apply below_drew1 | refine below_set ?_ GE222.out | refine below_set ?_ GE223.out | refine below_set ?_ GE228.out) | exact HB.out))) : w.heap.size ≤ gb242))
              have n8_ := Aside0.mk ((by rw [hg];exact (below_size (by repeat (first | (with_reducible first | exact HB.out | apply below_alloc | apply pw_below_drewN | apply below_drew1 | refine below_set ?_ GE222.out | refine below_set ?_ GE223.out | refine below_set ?_ GE228.out) | exact HB.out))) : w.heap.size ≤ gb242))
              have n9_ := Aside0.mk ((by rw [hg];exact Nat.ne_of_lt (blk_lt (g := gb222) (o := .cells #[.slice A0_0 l0_0.length c0_0, .int .i64 a0_1] 29 (0,0)) (by (with_reducible repeat (first | refine blk_drewN ?_ _ | refine blk_drew ?_ | refine blk_alloc ?_ _));exact BK222.out)) : gb222 ≠ gb242))
              have n10_ := Aside0.mk ((by rw [hg];exact Nat.ne_of_gt (blk_lt (g := gb222) (o := .cells #[.slice A0_0 l0_0.length c0_0, .int .i64 a0_1] 29 (0,0)) (by (with_reducible repeat (first | refine blk_drewN ?_ _ | refine blk_drew ?_ | refine blk_alloc ?_ _));exact BK222.out)) : gb242 ≠ gb222))
              have n11_ := Aside0.mk ((by rw [hg];exact Nat.ne_of_lt (blk_lt (g := gb223) (o := .cells #[.slice none 0 0, .int .i64 x224001_1] 29 (0,0)) (by (with_reducible repeat (first | refine blk_drewN ?_ _ | refine blk_drew ?_ | refine blk_alloc ?_ _));exact BK223.out)) : gb223 ≠ gb242))
              have n12_ := Aside0.mk ((by rw [hg];exact Nat.ne_of_gt (blk_lt (g := gb223) (o := .cells #[.slice none 0 0, .int .i64 x224001_1] 29 (0,0)) (by (with_reducible repeat (first | refine blk_drewN ?_ _ | refine blk_drew ?_ | refine blk_alloc ?_ _));exact BK223.out)) : gb242 ≠ gb223))
              have n13_ := Aside0.mk ((by rw [hg];exact Nat.ne_of_lt (blk_lt (g := gb228) (o := .cells #[.slice Ao51 x229000_1.length co51, .int .i64 x229001_1] 29 (0,0)) (by (with_reducible repeat (first | refine blk_drewN ?_ _ | refine blk_drew ?_ | refine blk_alloc ?_ _));exact BK228.out)) : gb228 ≠ gb242))
              have n14_ := Aside0.mk ((by rw [hg];exact Nat.ne_of_gt (blk_lt (g := gb228) (o := .cells #[.slice Ao51 x229000_1.length co51, .int .i64 x229001_1] 29 (0,0)) (by (with_reducible repeat (first | refine blk_drewN ?_ _ | refine blk_drew ?_ | refine blk_alloc ?_ _));exact BK228.out)) : gb242 ≠ gb228))
              clear HO_229000
              clear HO239
              clear BK222
              clear BK223
              clear BK228
              clear HB
              have HO_229000 := n0_
              have HO239 := n1_
              have BK222 := n2_
              have BK223 := n3_
              have BK228 := n4_
              have HB := n5_
              have BK242 := n6_
              have GW242 := n7_
              have GE242 := n8_
              have NB222_242 := n9_
              have NB242_222 := n10_
              have NB223_242 := n11_
              have NB242_223 := n12_
              have NB228_242 := n13_
              have NB242_228 := n14_
              clear n0_ n1_ n2_ n3_ n4_ n5_ n6_ n7_ n8_ n9_ n10_ n11_ n12_ n13_ n14_
              clear hb hbox hg
              refine hK.out _ _ ⟨(blk_cell BK228.out 0).trans rfl,(blk_cell BK228.out 1).trans rfl,((HB.out.cell (World.block_lt_of_cell? w _ hw235_0)).trans hw235_0),((HB.out.cell (World.block_lt_of_cell? w _ hw236_0)).trans hw236_0)⟩ (fun hHeld => ?_)
              clear hK K
              refine norm_ (a' := ?_) ?_ ?_
              rotate_left
              ·show Act.put _ (some 9) _ = _
               simp only [Act.put,List.setIfInBounds_toArray,List.set_cons_zero,List.set_cons_succ,i64_w,i32_w]
               rfl
              exact norm_ (by simp only [putAll,Act.put,List.setIfInBounds_toArray,List.set_cons_zero,List.set_cons_succ]) (hCont (v238,gb242) _ ⟨hHeld,(by (with_reducible repeat (first | apply Kd.R_alloc | apply Kd.R_drewN | apply Kd.R_drew));exact Kd.R_mono HO239.out (fun _ hk => hk.2)),(by (with_reducible repeat (first | apply Kd.R_alloc | apply Kd.R_drewN | apply Kd.R_drew));exact Kd.R_mono HO_229000.out (fun _ hk => hk.2)),(by (with_reducible repeat (first | refine blk_drewN ?_ _ | refine blk_drew ?_ | refine blk_alloc ?_ _));exact BK222.out),(by (with_reducible repeat (first | refine blk_drewN ?_ _ | refine blk_drew ?_ | refine blk_alloc ?_ _));exact BK223.out),(by (with_reducible repeat (first | refine blk_drewN ?_ _ | refine blk_drew ?_ | refine blk_alloc ?_ _));exact BK228.out),(by (with_reducible repeat (first | refine blk_drewN ?_ _ | refine blk_drew ?_ | refine blk_alloc ?_ _));exact BK242.out),GW242.out,GE242.out,NB222_242.out,NB242_222.out,NB223_242.out,NB242_223.out,NB228_242.out,NB242_228.out,(by repeat (first | (with_reducible first | exact HB.out | apply below_alloc | apply pw_below_drewN | apply below_drew1 | refine below_set ?_ GE222.out | refine below_set ?_ GE223.out | refine below_set ?_ GE228.out | refine below_set ?_ GE242.out) | exact HB.out))⟩)
             ·skip
              refine box_step ?hg (N := 9) ?hd (cs := #[.slice none 0 0, .int .i64 0]) (t := 29) ?hr ?_;(case hd => rfl);(case hg => rfl);(case hr => first | (go_simp;done) | (go_simp;rfl))
              intro gb242 hg w53 hbox hb
              have n0_ := Aside0.mk (Kd.R_below (by (with_reducible repeat (first | apply Kd.R_alloc | apply Kd.R_drewN | apply Kd.R_drew));exact HO_229000.out) hb)
              have n1_ := Aside0.mk (blk_below (g := gb222) (o := .cells #[.slice A0_0 l0_0.length c0_0, .int .i64 a0_1] 29 (0,0)) (by (with_reducible repeat (first | refine blk_drewN ?_ _ | refine blk_drew ?_ | refine blk_alloc ?_ _));exact BK222.out) hb)
              have n2_ := Aside0.mk (blk_below (g := gb223) (o := .cells #[.slice none 0 0, .int .i64 x224001_1] 29 (0,0)) (by (with_reducible repeat (first | refine blk_drewN ?_ _ | refine blk_drew ?_ | refine blk_alloc ?_ _));exact BK223.out) hb)
              have n3_ := Aside0.mk (blk_below (g := gb228) (o := .cells #[.slice Ao51 x229000_1.length co51, .int .i64 x229001_1] 29 (0,0)) (by (with_reducible repeat (first | refine blk_drewN ?_ _ | refine blk_drew ?_ | refine blk_alloc ?_ _));exact BK228.out) hb)
              have n4_ := Aside0.mk (below_step (by repeat (first | (with_reducible first | exact HB.out | apply below_alloc | apply pw_below_drewN | apply below_drew1 | refine below_set ?_ GE222.out | refine below_set ?_ GE223.out | refine below_set ?_ GE228.out) | exact HB.out)) hb)
              have n5_ := Aside0.mk (hbox)
              have n6_ := Aside0.mk ((by rw [hg];exact (below_size (by repeat (first | (with_reducible first | exact HB.out | apply below_alloc | apply pw_below_drewN | apply below_drew1 | refine below_set ?_ GE222.out | refine below_set ?_ GE223.out | refine below_set ?_ GE228.out) | exact HB.out))) : w.heap.size ≤ gb242))
              have n7_ := Aside0.mk ((by rw [hg];exact (below_size (by repeat (first | (with_reducible first | exact HB.out | apply below_alloc | apply pw_below_drewN | apply below_drew1 | refine below_set ?_ GE222.out | refine below_set ?_ GE223.out | refine below_set ?_ GE228.out) | exact HB.out))) : w.heap.size ≤ gb242))
              have n8_ := Aside0.mk ((by rw [hg];exact Nat.ne_of_lt (blk_lt (g := gb222) (o := .cells #[.slice A0_0 l0_0.length c0_0, .int .i64 a0_1] 29 (0,0)) (by (with_reducible repeat (first | refine blk_drewN ?_ _ | refine blk_drew ?_ | refine blk_alloc ?_ _));exact BK222.out)) : gb222 ≠ gb242))
              have n9_ := Aside0.mk ((by rw [hg];exact Nat.ne_of_gt (blk_lt (g := gb222) (o := .cells #[.slice A0_0 l0_0.length c0_0, .int .i64 a0_1] 29 (0,0)) (by (with_reducible repeat (first | refine blk_drewN ?_ _ | refine blk_drew ?_ | refine blk_alloc ?_ _));exact BK222.out)) : gb242 ≠ gb222))
              have n10_ := Aside0.mk ((by rw [hg];exact Nat.ne_of_lt (blk_lt (g := gb223) (o := .cells #[.slice none 0 0, .int .i64 x224001_1] 29 (0,0)) (by (with_reducible repeat (first | refine blk_drewN ?_ _ | refine blk_drew ?_ | refine blk_alloc ?_ _));exact BK223.out)) : gb223 ≠ gb242))
              have n11_ := Aside0.mk ((by rw [hg];exact Nat.ne_of_gt (blk_lt (g := gb223) (o := .cells #[.slice none 0 0, .int .i64 x224001_1] 29 (0,0)) (by (with_reducible repeat (first | refine blk_drewN ?_ _ | refine blk_drew ?_ | refine blk_alloc ?_ _));exact BK223.out)) : gb242 ≠ gb223))
              have n12_ := Aside0.mk ((by rw [hg];exact Nat.ne_of_lt (blk_lt (g := gb228) (o := .cells #[.slice Ao51 x229000_1.length co51, .int .i64 x229001_1] 29 (0,0)) (by (with_reducible repeat (first | refine blk_drewN ?_ _ | refine blk_drew ?_ | refine blk_alloc ?_ _));exact BK228.out)) : gb228 ≠ gb242))
              have n13_ := Aside0.mk ((by rw [hg];exact Nat.ne_of_gt (blk_lt (g := gb228) (o := .cells #[.slice Ao51 x229000_1.length co51, .int .i64 x229001_1] 29 (0,0)) (by (with_reducible repeat (first | refine blk_drewN ?_ _ | refine blk_drew ?_ | refine blk_alloc ?_ _));exact BK228.out)) : gb242 ≠ gb228))
              clear HO_229000
              clear BK222
              clear BK223
              clear BK228
              clear HB
              have HO_229000 := n0_
              have BK222 := n1_
              have BK223 := n2_
              have BK228 := n3_
              have HB := n4_
              have BK242 := n5_
              have GW242 := n6_
              have GE242 := n7_
              have NB222_242 := n8_
              have NB242_222 := n9_
              have NB223_242 := n10_
              have NB242_223 := n11_
              have NB228_242 := n12_
              have NB242_228 := n13_
              clear n0_ n1_ n2_ n3_ n4_ n5_ n6_ n7_ n8_ n9_ n10_ n11_ n12_ n13_
              clear hb hbox hg
              refine hK.out _ _ ⟨(blk_cell BK228.out 0).trans rfl,(blk_cell BK228.out 1).trans rfl,((HB.out.cell (World.block_lt_of_cell? w _ hw235_0)).trans hw235_0),((HB.out.cell (World.block_lt_of_cell? w _ hw236_0)).trans hw236_0)⟩ (fun hHeld => ?_)
              clear hK K
              refine norm_ (a' := ?_) ?_ ?_
              rotate_left
              ·show Act.put _ (some 9) _ = _
               simp only [Act.put,List.setIfInBounds_toArray,List.set_cons_zero,List.set_cons_succ,i64_w,i32_w]
               rfl
              refine one_ (i := 7) (N := some 51) #[true,true,true,true,true,true,true,true,false,false,false,true,false,false] rfl rfl (one_of HT_.out (by kernel_rfl)) (by decide) (fun K hK => ?_)
              refine goes_ Try.func58 (by kernel_rfl) rfl #[.agg #[.slice Ao51 x229000_1.length co51, .int .i64 x229001_1], .int .i64 (rd (rd_L1 l1 x15_1) 0), .int .i64 (rd (rd_L1 l1 x15_1) 1)] (by rfl) rfl rfl (by (try simp only [List.map_toArray,List.map_cons,List.map_nil]);first | done | rfl | (simp only [List.length_drop,List.length_take];rfl)) ?_
              with_reducible refine (spec_cuMix.calls kj16 _ _ x229000_1 x229001_1 (rd (rd_L1 l1 x15_1) 0) (rd (rd_L1 l1 x15_1) 1) t237 t240 false _ ?side1 ?side2 A34.out).mono ?_
              (case side1 => repeat (first | exact (Kd.R_reads' HO_229000.out).2.2 | (with_reducible refine Kd.C_alloc ?_ _) | (with_reducible refine Kd.C_drewN ?_ _) | (with_reducible refine Kd.C_drew ?_)))
              (case side2 => exact (Kd.R_reads' HO_229000.out).2.1)
              rintro e w54 ⟨v238,rfl,ho0,hb⟩
              refine ⟨_,rfl,?_⟩
              have n0_ := Aside0.mk (Kd.R_elder' (by (with_reducible repeat (first | apply Kd.R_alloc | apply Kd.R_drewN | apply Kd.R_drew));exact HO_229000.out) (Kd.R_base ho0) hb)
              have n1_ := Aside0.mk (Kd.R_lower (Kd.R_new' ho0 (Kd.R_lt (by (with_reducible repeat (first | apply Kd.R_alloc | apply Kd.R_drewN | apply Kd.R_drew));exact HO_229000.out))) (below_size (by repeat (first | (with_reducible first | exact HB.out | apply below_alloc | apply pw_below_drewN | apply below_drew1 | refine below_set ?_ GE222.out | refine below_set ?_ GE223.out | refine below_set ?_ GE228.out | refine below_set ?_ GE242.out) | exact HB.out))))
              have n2_ := Aside0.mk (blk_below (g := gb222) (o := .cells #[.slice A0_0 l0_0.length c0_0, .int .i64 a0_1] 29 (0,0)) (by (with_reducible repeat (first | refine blk_drewN ?_ _ | refine blk_drew ?_ | refine blk_alloc ?_ _));exact BK222.out) hb)
              have n3_ := Aside0.mk (blk_below (g := gb223) (o := .cells #[.slice none 0 0, .int .i64 x224001_1] 29 (0,0)) (by (with_reducible repeat (first | refine blk_drewN ?_ _ | refine blk_drew ?_ | refine blk_alloc ?_ _));exact BK223.out) hb)
              have n4_ := Aside0.mk (blk_below (g := gb228) (o := .cells #[.slice Ao51 x229000_1.length co51, .int .i64 x229001_1] 29 (0,0)) (by (with_reducible repeat (first | refine blk_drewN ?_ _ | refine blk_drew ?_ | refine blk_alloc ?_ _));exact BK228.out) hb)
              have n5_ := Aside0.mk (blk_below (g := gb242) (o := .cells #[.slice none 0 0, .int .i64 0] 29 (0,0)) (by (with_reducible repeat (first | refine blk_drewN ?_ _ | refine blk_drew ?_ | refine blk_alloc ?_ _));exact BK242.out) hb)
              have n6_ := Aside0.mk (below_step (by repeat (first | (with_reducible first | exact HB.out | apply below_alloc | apply pw_below_drewN | apply below_drew1 | refine below_set ?_ GE222.out | refine below_set ?_ GE223.out | refine below_set ?_ GE228.out | refine below_set ?_ GE242.out) | exact HB.out)) hb)
              clear HO_229000
              clear BK222
              clear BK223
              clear BK228
              clear BK242
              clear HB
              have HO_229000 := n0_
              have HO239 := n1_
              have BK222 := n2_
              have BK223 := n3_
              have BK228 := n4_
              have BK242 := n5_
              have HB := n6_
              clear n0_ n1_ n2_ n3_ n4_ n5_ n6_
              (try clear hb)
              (try clear hb2)
              (try clear hk)
              (try clear hi)
              (try clear ho0)
              refine hK.out _ _ ⟨(blk_cell BK228.out 0).trans rfl,(blk_cell BK228.out 1).trans rfl,((HB.out.cell (World.block_lt_of_cell? w _ hw235_0)).trans hw235_0),((HB.out.cell (World.block_lt_of_cell? w _ hw236_0)).trans hw236_0)⟩ (fun hHeld => ?_)
              clear hK K
              refine norm_ (a' := ?_) ?_ ?_
              rotate_left
              ·show Act.put _ (some 51) _ = _
               simp only [Act.put,List.setIfInBounds_toArray,List.set_cons_zero,List.set_cons_succ,i64_w,i32_w]
               rfl
              refine pure_ (i := 8) (N := some 43) (v := ?_) (a' := ?_) #[true,true,true,true,true,true,true,true,true,false,false,true,false,false] rfl rfl (any_of HT_.out (by kernel_rfl)) (fun _ _ _ h => h) (Or.inl ⟨by rfl,?_⟩) ?_ ?_
              rotate_left
              ·intro w'
               go_simp
               with_reducible rfl
              rotate_left
              ·simp only [Act.put,List.setIfInBounds_toArray,List.set_cons_zero,List.set_cons_succ,i64_w,i32_w]
               rfl
              refine pure_ (i := 9) (N := some 52) (v := ?_) (a' := ?_) #[true,true,true,true,true,true,true,true,true,true,false,true,false,false] rfl rfl (any_of HT_.out (by kernel_rfl)) (fun _ _ _ h => h) (Or.inl ⟨by rfl,?_⟩) ?_ ?_
              rotate_left
              ·intro w'
               go_simp
               with_reducible rfl
              rotate_left
              ·simp only [Act.put,List.setIfInBounds_toArray,List.set_cons_zero,List.set_cons_succ,i64_w,i32_w]
               rfl
              refine pure_ (i := 10) (N := some 53) (v := ?_) (a' := ?_) #[true,true,true,true,true,true,true,true,true,true,true,true,false,false] rfl rfl (any_of HT_.out (by kernel_rfl)) (fun _ _ _ h => h) (Or.inl ⟨by rfl,?_⟩) ?_ ?_
              rotate_left
              ·intro w'
               go_simp
               with_reducible rfl
              rotate_left
              ·simp only [Act.put,List.setIfInBounds_toArray,List.set_cons_zero,List.set_cons_succ,i64_w,i32_w]
               rfl
              exact norm_ (by simp only [putAll,Act.put,List.setIfInBounds_toArray,List.set_cons_zero,List.set_cons_succ]) (hCont (v238,gb242) _ ⟨hHeld,(by (with_reducible repeat (first | apply Kd.R_alloc | apply Kd.R_drewN | apply Kd.R_drew));exact Kd.R_mono HO239.out (fun _ hk => hk.2)),(by (with_reducible repeat (first | apply Kd.R_alloc | apply Kd.R_drewN | apply Kd.R_drew));exact Kd.R_mono HO_229000.out (fun _ hk => hk.2)),(by (with_reducible repeat (first | refine blk_drewN ?_ _ | refine blk_drew ?_ | refine blk_alloc ?_ _));exact BK222.out),(by (with_reducible repeat (first | refine blk_drewN ?_ _ | refine blk_drew ?_ | refine blk_alloc ?_ _));exact BK223.out),(by (with_reducible repeat (first | refine blk_drewN ?_ _ | refine blk_drew ?_ | refine blk_alloc ?_ _));exact BK228.out),(by (with_reducible repeat (first | refine blk_drewN ?_ _ | refine blk_drew ?_ | refine blk_alloc ?_ _));exact BK242.out),GW242.out,GE242.out,NB222_242.out,NB242_222.out,NB223_242.out,NB242_223.out,NB228_242.out,NB242_228.out,(by repeat (first | (with_reducible first | exact HB.out | apply below_alloc | apply pw_below_drewN | apply below_drew1 | refine below_set ?_ GE222.out | refine below_set ?_ GE223.out | refine below_set ?_ GE228.out | refine below_set ?_ GE242.out) | exact HB.out))⟩)
            rintro ⟨v238,gb242⟩ w55 ⟨hS_,h0_,h1_,h2_,h3_,h4_,h5_,h6_,h7_,h8_,h9_,h10_,h11_,h12_,h13_,h14_⟩
            have n0_ : Aside0 (Kd.R (Kd.int .i64) 3 w55 w.heap.size (fun k_ => some k_ ≠ (.slice Ao51 x229000_1.length co51 : Value).ownBlock) v238 t237) := ⟨h0_⟩
            have n1_ : Aside0 (Kd.R (Kd.int .i64) 3 w55 w.heap.size (fun k_ => some k_ ≠ (v238 : Value).ownBlock) (.slice Ao51 x229000_1.length co51) x229000_1) := ⟨h1_⟩
            have n2_ : Aside0 (w55.heap[gb222]? = some (.cells #[.slice A0_0 l0_0.length c0_0, .int .i64 a0_1] 29 (0,0))) := ⟨h2_⟩
            have n3_ : Aside0 (w55.heap[gb223]? = some (.cells #[.slice none 0 0, .int .i64 x224001_1] 29 (0,0))) := ⟨h3_⟩
            have n4_ : Aside0 (w55.heap[gb228]? = some (.cells #[.slice Ao51 x229000_1.length co51, .int .i64 x229001_1] 29 (0,0))) := ⟨h4_⟩
            have n5_ : Aside0 (w55.heap[gb242]? = some (.cells #[.slice none 0 0, .int .i64 0] 29 (0,0))) := ⟨h5_⟩
            have n6_ : Aside0 (w.heap.size ≤ gb242) := ⟨h6_⟩
            have n7_ : Aside0 (w.heap.size ≤ gb242) := ⟨h7_⟩
            have n8_ : Aside0 (gb222 ≠ gb242) := ⟨h8_⟩
            have n9_ : Aside0 (gb242 ≠ gb222) := ⟨h9_⟩
            have n10_ : Aside0 (gb223 ≠ gb242) := ⟨h10_⟩
            have n11_ : Aside0 (gb242 ≠ gb223) := ⟨h11_⟩
            have n12_ : Aside0 (gb228 ≠ gb242) := ⟨h12_⟩
            have n13_ : Aside0 (gb242 ≠ gb228) := ⟨h13_⟩
            have n14_ : Aside0 (Below w.heap.size w w55) := ⟨h14_⟩
            clear HO_229000
            clear BK222
            clear BK223
            clear BK228
            clear HB
            clear h0_ h1_ h2_ h3_ h4_ h5_ h6_ h7_ h8_ h9_ h10_ h11_ h12_ h13_ h14_
            have HO239 := n0_
            have HO_229000 := n1_
            have BK222 := n2_
            have BK223 := n3_
            have BK228 := n4_
            have BK242 := n5_
            have GW242 := n6_
            have GE242 := n7_
            have NB222_242 := n8_
            have NB242_222 := n9_
            have NB223_242 := n10_
            have NB242_223 := n11_
            have NB228_242 := n12_
            have NB242_228 := n13_
            have HB := n14_
            clear n0_ n1_ n2_ n3_ n4_ n5_ n6_ n7_ n8_ n9_ n10_ n11_ n12_ n13_ n14_
            have hHeld : w55.cell? ⟨gb228,0,none⟩ = some (.slice Ao51 x229000_1.length co51) ∧ w55.cell? ⟨gb228,1,none⟩ = some (.int .i64 x229001_1) ∧ w55.cell? ad235 = some (.int .i64 (rd (rd_L1 l1 x15_1) 0)) ∧ w55.cell? ⟨ad235.block,ad235.off + 1,none⟩ = some (.int .i64 (rd (rd_L1 l1 x15_1) 1)) := hS_
            obtain ⟨Ao56,co56,eo56⟩ := Kd.R_slice HO239.out
            (first | subst eo56 | (injection eo56 with f1_ f2_ f3_;have f4_ := f1_.symm;have f5_ := f3_.symm;clear f1_ f2_ f3_;subst f4_;subst f5_))
            refine norm_ (a' := ?_) ?_ ?_
            rotate_left
            ·simp only [putAll,Act.put,List.setIfInBounds_toArray,List.set_cons_zero,List.set_cons_succ]
             rfl
            refine one_ (i := 12) (N := none) #[true,true,true,true,true,true,true,true,true,true,true,true,true,false] rfl rfl (one_of HT_.out (by kernel_rfl)) (by decide) (fun K hK => ?_)
            have hs57 : w55.cell? ⟨gb242,0,none⟩ = some (.slice none 0 0) := (blk_cell BK242.out 0).trans rfl
            have hfs57 := blk_frozen BK242.out 0
            have hns57_0 := NB222_242.out
            have hns57_1 := NB223_242.out
            have hns57_2 := NB228_242.out
            have hms57_0 := NB242_222.out
            have hms57_1 := NB242_223.out
            have hms57_2 := NB242_228.out
            have hs58 : w55.cell? ⟨gb242,1,none⟩ = some (.int .i64 0) := (blk_cell BK242.out 1).trans rfl
            have hfs58 := blk_frozen BK242.out 1
            have hns58_0 := NB222_242.out
            have hns58_1 := NB223_242.out
            have hns58_2 := NB228_242.out
            have hms58_0 := NB242_222.out
            have hms58_1 := NB242_223.out
            have hms58_2 := NB242_228.out
            refine skip_ (w1 := ?_) (by rfl) rfl ?_ ?_
            rotate_left
            ·go_simp
             rfl
            refine hK.out _ _ ⟨((cell_far (p := ⟨gb242,_,none⟩) NB228_242.out _).trans (((cell_far (p := ⟨gb242,_,none⟩) NB228_242.out _).trans (hHeld.1)))),((cell_far (p := ⟨gb242,_,none⟩) NB228_242.out _).trans (((cell_far (p := ⟨gb242,_,none⟩) NB228_242.out _).trans (hHeld.2.1)))),((cell_far (p := ⟨gb242,_,none⟩) (by first | exact Nat.ne_of_lt (Nat.lt_of_lt_of_le (by have := World.block_lt_of_cell? _ _ hw235_0;first | rwa [add_block] at this | exact this) GW242.out) | (rw [add_block];exact Nat.ne_of_lt (Nat.lt_of_lt_of_le (by have := World.block_lt_of_cell? _ _ hw235_0;first | rwa [add_block] at this | exact this) GW242.out)) | (show (Addr.add _ _).block ≠ _;rw [add_block];exact Nat.ne_of_lt (Nat.lt_of_lt_of_le (by have := World.block_lt_of_cell? _ _ hw235_0;first | rwa [add_block] at this | exact this) GW242.out)) | (dsimp only;exact Nat.ne_of_lt (Nat.lt_of_lt_of_le (by have := World.block_lt_of_cell? _ _ hw235_0;first | rwa [add_block] at this | exact this) GW242.out))) _).trans (((cell_far (p := ⟨gb242,_,none⟩) (by first | exact Nat.ne_of_lt (Nat.lt_of_lt_of_le (by have := World.block_lt_of_cell? _ _ hw235_0;first | rwa [add_block] at this | exact this) GW242.out) | (rw [add_block];exact Nat.ne_of_lt (Nat.lt_of_lt_of_le (by have := World.block_lt_of_cell? _ _ hw235_0;first | rwa [add_block] at this | exact this) GW242.out)) | (show (Addr.add _ _).block ≠ _;rw [add_block];exact Nat.ne_of_lt (Nat.lt_of_lt_of_le (by have := World.block_lt_of_cell? _ _ hw235_0;first | rwa [add_block] at this | exact this) GW242.out)) | (dsimp only;exact Nat.ne_of_lt (Nat.lt_of_lt_of_le (by have := World.block_lt_of_cell? _ _ hw235_0;first | rwa [add_block] at this | exact this) GW242.out))) _).trans (hHeld.2.2.1)))),((cell_far (p := ⟨gb242,_,none⟩) (by first | exact Nat.ne_of_lt (Nat.lt_of_lt_of_le (by have := World.block_lt_of_cell? _ _ hw236_0;first | rwa [add_block] at this | exact this) GW242.out) | (rw [add_block];exact Nat.ne_of_lt (Nat.lt_of_lt_of_le (by have := World.block_lt_of_cell? _ _ hw236_0;first | rwa [add_block] at this | exact this) GW242.out)) | (show (Addr.add _ _).block ≠ _;rw [add_block];exact Nat.ne_of_lt (Nat.lt_of_lt_of_le (by have := World.block_lt_of_cell? _ _ hw236_0;first | rwa [add_block] at this | exact this) GW242.out)) | (dsimp only;exact Nat.ne_of_lt (Nat.lt_of_lt_of_le (by have := World.block_lt_of_cell? _ _ hw236_0;first | rwa [add_block] at this | exact this) GW242.out))) _).trans (((cell_far (p := ⟨gb242,_,none⟩) (by first | exact Nat.ne_of_lt (Nat.lt_of_lt_of_le (by have := World.block_lt_of_cell? _ _ hw236_0;first | rwa [add_block] at this | exact this) GW242.out) | (rw [add_block];exact Nat.ne_of_lt (Nat.lt_of_lt_of_le (by have := World.block_lt_of_cell? _ _ hw236_0;first | rwa [add_block] at this | exact this) GW242.out)) | (show (Addr.add _ _).block ≠ _;rw [add_block];exact Nat.ne_of_lt (Nat.lt_of_lt_of_le (by have := World.block_lt_of_cell? _ _ hw236_0;first | rwa [add_block] at this | exact this) GW242.out)) | (dsimp only;exact Nat.ne_of_lt (Nat.lt_of_lt_of_le (by have := World.block_lt_of_cell? _ _ hw236_0;first | rwa [add_block] at this | exact this) GW242.out))) _).trans (hHeld.2.2.2))))⟩ (fun hHeld => ?_)
            clear hK K
            refine pure_ (i := 13) (N := some 10) (v := ?_) (a' := ?_) #[true,true,true,true,true,true,true,true,true,true,true,true,true,true] rfl rfl (any_of HT_.out (by kernel_rfl)) (fun _ _ _ h => h) (Or.inl ⟨by rfl,?_⟩) ?_ ?_
            rotate_left
            ·intro w'
             go_simp
             with_reducible rfl
            rotate_left
            ·simp only [Act.put,List.setIfInBounds_toArray,List.set_cons_zero,List.set_cons_succ,i64_w,i32_w]
             rfl
            refine done_ (done_of HT_.out (by kernel_rfl)) ?_
            have hnb59 := NB223_222.out
            have hnc59 := NB222_223.out
            have hnb60 := NB223_228.out
            have hnc60 := NB228_223.out
            have hnb61 := NB223_242.out
            have hnc61 := NB242_223.out
            have hcz62_0 : w55.cell? ⟨gb223,0,none⟩ = some (.slice none 0 0) := (blk_cell BK223.out 0).trans rfl
            have hcz62_1 : w55.cell? ⟨gb223,1,none⟩ = some (.int .i64 x224001_1) := (blk_cell BK223.out 1).trans rfl
            have hfz62_0 := blk_frozen BK223.out 0
            have hfz62_1 := blk_frozen BK223.out 1
            try go_wp2
            refine bodyPost_ret (results_ct rfl _ _ gb223 29 #[.slice none 0 0, .int .i64 0] (0,0) _ rfl (by (with_reducible repeat (first | refine blk_drewN ?_ _ | refine blk_drew ?_ | refine blk_alloc ?_ _));refine blk_put (cs := #[.slice none 0 0, .int .i64 x224001_1]) ?_ 1 _ rfl;(with_reducible repeat (first | refine blk_drewN ?_ _ | refine blk_drew ?_ | refine blk_alloc ?_ _));refine blk_put (cs := #[.slice none 0 0, .int .i64 x224001_1]) ?_ 0 _ rfl;(with_reducible repeat (first | refine blk_drewN ?_ _ | refine blk_drew ?_ | refine blk_alloc ?_ _));refine blk_far ?_ NB223_242.out _;(with_reducible repeat (first | refine blk_drewN ?_ _ | refine blk_drew ?_ | refine blk_alloc ?_ _));refine blk_far ?_ NB223_242.out _;(with_reducible repeat (first | refine blk_drewN ?_ _ | refine blk_drew ?_ | refine blk_alloc ?_ _));exact BK223.out) Try.underlying29 rfl (by kernel_rfl)) rfl ?_
            exact ⟨_,by first | rfl | (simp [errW_none,errW_some] <;> rfl) | (simp [*,errW_none,errW_some] <;> rfl),by first | exact Kd.R_nil _ _ _ _ _ | exact Kd.N_nil _ _ _ _ _ | exact Kd.V_nil _ _ _ _ _ | exact Kd.Q_nil _ _ _ _ _ | exact Kd.S_nil _ _ _ _ _,by repeat (first | (with_reducible first | exact HB.out | apply below_alloc | apply pw_below_drewN | apply below_drew1 | refine below_set ?_ GE222.out | refine below_set ?_ GE223.out | refine below_set ?_ GE228.out | refine below_set ?_ GE242.out) | exact HB.out)⟩
          ·rw [if_neg c33] at H
           exact absurd H (by simp)
         ·rw [if_neg c32] at H
          exact absurd H (by simp)
     ·rw [if_neg c16] at H
      exact absurd H (by simp)
    ·rw [if_neg c15] at H
     exact absurd H (by simp)
   ·rw [if_neg c14] at H
    have c14b0 : decide (x15_1 < (l1.length : Int)) = false := decide_eq_false c14
    clear c14
    simp only [Option.some.injEq,Prod.mk.injEq] at H
    obtain ⟨rfl,rfl,rfl⟩ := H
    have hnb63 := NB228_222.out
    have hnc63 := NB222_228.out
    have hnb64 := NB228_223.out
    have hnc64 := NB223_228.out
    have hcz65_0 : wr.cell? ⟨gb228,0,none⟩ = some (u229000) := (blk_cell BK228.out 0).trans rfl
    have hcz65_1 : wr.cell? ⟨gb228,1,none⟩ = some (.int .i64 x229001_1) := (blk_cell BK228.out 1).trans rfl
    have hfz65_0 := blk_frozen BK228.out 0
    have hfz65_1 := blk_frozen BK228.out 1
    obtain ⟨Ao66,co66,eo66⟩ := Kd.R_slice HO_229000.out
    subst eo66
    have hnb67 := NB223_222.out
    have hnc67 := NB222_223.out
    have hcz68_0 : wr.cell? ⟨gb223,0,none⟩ = some (.slice none 0 0) := (blk_cell BK223.out 0).trans rfl
    have hcz68_1 : wr.cell? ⟨gb223,1,none⟩ = some (.int .i64 x224001_1) := (blk_cell BK223.out 1).trans rfl
    have hfz68_0 := blk_frozen BK223.out 0
    have hfz68_1 := blk_frozen BK223.out 1
    go_wp2
    refine bodyPost_ret (results_ct rfl _ _ gb223 29 #[.slice Ao66 x229000_1.length co66, .int .i64 x229001_1] (0,0) _ rfl (by (with_reducible repeat (first | refine blk_drewN ?_ _ | refine blk_drew ?_ | refine blk_alloc ?_ _));refine blk_put (cs := #[.slice Ao66 x229000_1.length co66, .int .i64 x224001_1]) ?_ 1 _ rfl;(with_reducible repeat (first | refine blk_drewN ?_ _ | refine blk_drew ?_ | refine blk_alloc ?_ _));refine blk_put (cs := #[.slice none 0 0, .int .i64 x224001_1]) ?_ 0 _ rfl;(with_reducible repeat (first | refine blk_drewN ?_ _ | refine blk_drew ?_ | refine blk_alloc ?_ _));exact BK223.out) Try.underlying29 rfl (by kernel_rfl)) rfl ?_
    exact ⟨_,by first | rfl | (simp [errW_none,errW_some] <;> rfl) | (simp [*,errW_none,errW_some] <;> rfl),by (with_reducible repeat (first | apply Kd.R_alloc | apply Kd.R_drewN | apply Kd.R_drew));exact Kd.R_mono (Kd.R_far (p := ⟨gb223,1,none⟩) (Kd.R_far (p := ⟨gb223,0,none⟩) (Kd.R_types HO_229000.out BK223.out (by decide)) (fun _ hk => hk.2) (.slice Ao66 x229000_1.length co66)) (fun _ hk => hk.2) (.int .i64 x229001_1)) (fun _ hk => trivial),by repeat (first | (with_reducible first | exact HB.out | apply below_alloc | apply pw_below_drewN | apply below_drew1 | refine below_set ?_ GE222.out | refine below_set ?_ GE223.out | refine below_set ?_ GE228.out) | exact HB.out)⟩

end Go.Proofs.Ytmkpngmdikbbeaa.P
