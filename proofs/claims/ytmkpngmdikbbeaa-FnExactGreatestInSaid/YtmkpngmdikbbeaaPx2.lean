/- Written by a program of this workplace (own_print.py, over the kit's print) for the functions that the statements reach, with contracts of its own. Lean checks it. -/
import Derived.Test.YtmkpngmdikbbeaaPx0
import Derived.Test.YtmkpngmdikbbeaaPx1
namespace Go.Proofs.Ytmkpngmdikbbeaa.P
open Go.RowKit Go.Proofs.YtmkpngmdikbbeaaW.PrintWords Go.Proofs.YtmkpngmdikbbeaaW.PrintLast Go.Proofs.YtmkpngmdikbbeaaW.PrintMore
attribute [local go_sem] max2_int min2_int max_two min_two max_three min_three max_four min_four   -- for this text's walks alone
set_option linter.unusedVariables false
set_option linter.unusedSimpArgs false

/-! ### laws_toCups: function 10 -/
def laws_toCups.f (k : Nat) (l0_0 : List Int) (a0_1 : Int) : Option (List Int × Int) := (laws_toIntS.f k l0_0).bind fun t138 => (some (t138,a0_1))
theorem laws_toCups.mono : ∀ a0 a1 k,LeO (laws_toCups.f k a0 a1) (laws_toCups.f (k + 1) a0 a1) := by
 intro a0 a1 k
 unfold laws_toCups.f
 repeat' first
   | (with_reducible exact laws_toIntS.mono _ _)
   | (with_reducible exact LeO.refl _)
   | (with_reducible exact LeO.none _)
   | (with_reducible refine LeO.ite ?_ ?_)
   | (with_reducible refine LeO.bind ?_ (fun _ => ?_))
   | exact laws_toIntS.mono _ _
   | exact LeO.none _
   | refine LeO.ite ?_ ?_
   | refine LeO.bind ?_ (fun _ => ?_)
set_option maxHeartbeats 8000000 in
set_option maxRecDepth 100000 in
theorem laws_toCups.calls (k : Nat) (A0_0 : Option Addr) (c0_0 : Nat) (l0_0 : List Int) (a0_1 : Int) (r1 : List Int) (r2 : Int) (w : World) (hr0_0 : Kd.C (Kd.int .i64) w A0_0 l0_0.length l0_0) (hc0_0 : l0_0.length ≤ c0_0) (h : laws_toCups.f k l0_0 a0_1 = some (r1,r2)) :
  Calls Try.prog 10 #[.agg #[.slice A0_0 l0_0.length c0_0, .int .i64 a0_1]] w fun e w' => ∃ v0_ : Value,e = .returned (.agg #[v0_, .int .i64 r2]) ∧ Kd.R (Kd.int .i64) 3 w' w.heap.size (fun _ => True) v0_ r1 ∧ Below w.heap.size w w' := by
 have hu24 := Try.underlying24
 have hu29 := Try.underlying29
 have HR0_0 := Aside0.mk hr0_0
 have HC0_0 := Aside0.mk hc0_0
 clear hr0_0 hc0_0
 have HB := Aside0.mk (Below.refl w.heap.size w)
 have H : ((laws_toIntS.f k l0_0).bind fun t138 => (some (t138,a0_1))) = some (r1,r2) := h
 clear h
 replace H := Option.bind_eq_some_iff.mp H
 obtain ⟨t138,A20,H⟩ := H
 replace H : (some (t138,a0_1)) = some (r1,r2) := H
 have A2 := Aside0.mk A20
 clear A20
 simp only [Option.some.injEq,Prod.mk.injEq] at H
 obtain ⟨rfl,rfl⟩ := H
 go_enter Try.func10,Try.ntmps10
 go_wp2_with (first | ((with_reducible refine gate_dst (N := 1) rfl ?_);refine box_event ?hg (N := 1) ?hd (cs := #[.slice A0_0 l0_0.length c0_0, .int .i64 a0_1]) (t := 24) ?hr ?_;(case hd => rfl);(case hg => rfl);(case hr => first | (go_simp;done) | (go_simp;rfl));intro gb135 hg w3 hbox hb;have n0_ := Aside0.mk (below_step (by repeat (first | (with_reducible first | exact HB.out | apply below_alloc | apply pw_below_drewN | apply below_drew1) | exact HB.out)) hb);have n1_ := Aside0.mk (hbox);have n2_ := Aside0.mk ((by rw [hg];exact (below_size (by repeat (first | (with_reducible first | exact HB.out | apply below_alloc | apply pw_below_drewN | apply below_drew1) | exact HB.out))) : w.heap.size ≤ gb135));have n3_ := Aside0.mk ((by rw [hg];exact (below_size (by repeat (first | (with_reducible first | exact HB.out | apply below_alloc | apply pw_below_drewN | apply below_drew1) | exact HB.out))) : w.heap.size ≤ gb135));clear HB;have HB := n0_;have BK135 := n1_;have GW135 := n2_;have GE135 := n3_;clear n0_ n1_ n2_ n3_;clear hb hbox hg) | ((with_reducible refine gate_dst (N := 2) rfl ?_);refine box_event ?hg (N := 2) ?hd (cs := #[.slice none 0 0, .int .i64 0]) (t := 29) ?hr ?_;(case hd => rfl);(case hg => rfl);(case hr => first | (go_simp;done) | (go_simp;rfl));intro gb136 hg w4 hbox hb;have n0_ := Aside0.mk (blk_below (g := gb135) (o := .cells #[.slice A0_0 l0_0.length c0_0, .int .i64 a0_1] 24 (0,0)) (by (with_reducible repeat (first | refine blk_drewN ?_ _ | refine blk_drew ?_ | refine blk_alloc ?_ _));exact BK135.out) hb);have n1_ := Aside0.mk (below_step (by repeat (first | (with_reducible first | exact HB.out | apply below_alloc | apply pw_below_drewN | apply below_drew1 | refine below_set ?_ GE135.out) | exact HB.out)) hb);have n2_ := Aside0.mk (hbox);have n3_ := Aside0.mk ((by rw [hg];exact (below_size (by repeat (first | (with_reducible first | exact HB.out | apply below_alloc | apply pw_below_drewN | apply below_drew1 | refine below_set ?_ GE135.out) | exact HB.out))) : w.heap.size ≤ gb136));have n4_ := Aside0.mk ((by rw [hg];exact (below_size (by repeat (first | (with_reducible first | exact HB.out | apply below_alloc | apply pw_below_drewN | apply below_drew1 | refine below_set ?_ GE135.out) | exact HB.out))) : w.heap.size ≤ gb136));have n5_ := Aside0.mk ((by rw [hg];exact Nat.ne_of_lt (blk_lt (g := gb135) (o := .cells #[.slice A0_0 l0_0.length c0_0, .int .i64 a0_1] 24 (0,0)) (by (with_reducible repeat (first | refine blk_drewN ?_ _ | refine blk_drew ?_ | refine blk_alloc ?_ _));exact BK135.out)) : gb135 ≠ gb136));have n6_ := Aside0.mk ((by rw [hg];exact Nat.ne_of_gt (blk_lt (g := gb135) (o := .cells #[.slice A0_0 l0_0.length c0_0, .int .i64 a0_1] 24 (0,0)) (by (with_reducible repeat (first | refine blk_drewN ?_ _ | refine blk_drew ?_ | refine blk_alloc ?_ _));exact BK135.out)) : gb136 ≠ gb135));clear BK135;clear HB;have BK135 := n0_;have HB := n1_;have BK136 := n2_;have GW136 := n3_;have GE136 := n4_;have NB135_136 := n5_;have NB136_135 := n6_;clear n0_ n1_ n2_ n3_ n4_ n5_ n6_;clear hb hbox hg) | ((with_reducible refine gate_dst (N := 3) rfl ?_);refine box_event ?hg (N := 3) ?hd (cs := #[.slice none 0 0, .int .i64 0]) (t := 29) ?hr ?_;(case hd => rfl);(case hg => rfl);(case hr => first | (go_simp;done) | (go_simp;rfl));intro gb137 hg w5 hbox hb;have n0_ := Aside0.mk (blk_below (g := gb135) (o := .cells #[.slice A0_0 l0_0.length c0_0, .int .i64 a0_1] 24 (0,0)) (by (with_reducible repeat (first | refine blk_drewN ?_ _ | refine blk_drew ?_ | refine blk_alloc ?_ _));exact BK135.out) hb);have n1_ := Aside0.mk (blk_below (g := gb136) (o := .cells #[.slice none 0 0, .int .i64 0] 29 (0,0)) (by (with_reducible repeat (first | refine blk_drewN ?_ _ | refine blk_drew ?_ | refine blk_alloc ?_ _));exact BK136.out) hb);have n2_ := Aside0.mk (below_step (by repeat (first | (with_reducible first | exact HB.out | apply below_alloc | apply pw_below_drewN | apply below_drew1 | refine below_set ?_ GE135.out | refine below_set ?_ GE136.out) | exact HB.out)) hb);have n3_ := Aside0.mk (hbox);have n4_ := Aside0.mk ((by rw [hg];exact (below_size (by repeat (first | (with_reducible first | exact HB.out | apply below_alloc | apply pw_below_drewN | apply below_drew1 | refine below_set ?_ GE135.out | refine below_set ?_ GE136.out) | exact HB.out))) : w.heap.size ≤ gb137));have n5_ := Aside0.mk ((by rw [hg];exact (below_size (by repeat (first | (with_reducible first | exact HB.out | apply below_alloc | apply pw_below_drewN | apply below_drew1 | refine below_set ?_ GE135.out | refine below_set ?_ GE136.out) | exact HB.out))) : w.heap.size ≤ gb137));have n6_ := Aside0.mk ((by rw [hg];exact Nat.ne_of_lt (blk_lt (g := gb135) (o := .cells #[.slice A0_0 l0_0.length c0_0, .int .i64 a0_1] 24 (0,0)) (by (with_reducible repeat (first | refine blk_drewN ?_ _ | refine blk_drew ?_ | refine blk_alloc ?_ _));exact BK135.out)) : gb135 ≠ gb137));have n7_ := Aside0.mk ((by rw [hg];exact Nat.ne_of_gt (blk_lt (g := gb135) (o := .cells #[.slice A0_0 l0_0.length c0_0, .int .i64 a0_1] 24 (0,0)) (by (with_reducible repeat (first | refine blk_drewN ?_ _ | refine blk_drew ?_ | refine blk_alloc ?_ _));exact BK135.out)) : gb137 ≠ gb135));have n8_ := Aside0.mk ((by rw [hg];exact Nat.ne_of_lt (blk_lt (g := gb136) (o := .cells #[.slice none 0 0, .int .i64 0] 29 (0,0)) (by (with_reducible repeat (first | refine blk_drewN ?_ _ | refine blk_drew ?_ | refine blk_alloc ?_ _));exact BK136.out)) : gb136 ≠ gb137));have n9_ := Aside0.mk ((by rw [hg];exact Nat.ne_of_gt (blk_lt (g := gb136) (o := .cells #[.slice none 0 0, .int .i64 0] 29 (0,0)) (by (with_reducible repeat (first | refine blk_drewN ?_ _ | refine blk_drew ?_ | refine blk_alloc ?_ _));exact BK136.out)) : gb137 ≠ gb136));clear BK135;clear BK136;clear HB;have BK135 := n0_;have BK136 := n1_;have HB := n2_;have BK137 := n3_;have GW137 := n4_;have GE137 := n5_;have NB135_137 := n6_;have NB137_135 := n7_;have NB136_137 := n8_;have NB137_136 := n9_;clear n0_ n1_ n2_ n3_ n4_ n5_ n6_ n7_ n8_ n9_;clear hb hbox hg;have hnb6 := NB135_136.out;have hnc6 := NB136_135.out;have hnb7 := NB135_137.out;have hnc7 := NB137_135.out;have hcz8_0 : w5.cell? ⟨gb135,0,none⟩ = some (.slice A0_0 l0_0.length c0_0) := (blk_cell BK135.out 0).trans rfl;have hcz8_1 : w5.cell? ⟨gb135,1,none⟩ = some (.int .i64 a0_1) := (blk_cell BK135.out 1).trans rfl;have hfz8_0 := blk_frozen BK135.out 0;have hfz8_1 := blk_frozen BK135.out 1) | ((with_reducible refine gate_callee (f := 31) rfl ?_);refine goesL_ (some 6) rfl rfl Try.func31 (by kernel_rfl) rfl #[.slice A0_0 l0_0.length c0_0] rfl (by (try simp only [List.map_toArray,List.map_cons,List.map_nil]);first | done | rfl | (simp only [List.length_drop,List.length_take];rfl)) ?_;(with_reducible refine (laws_toIntS.calls k _ _ l0_0 t138 _ ?side1 ?side2 A2.out).mono ?_);(case side1 => repeat (first | exact (Kd.C_below HR0_0.out HB.out) | (with_reducible refine Kd.C_alloc ?_ _) | (with_reducible refine Kd.C_drewN ?_ _) | (with_reducible refine Kd.C_drew ?_)));(case side2 => exact HC0_0.out);rintro e w9 ⟨v139,rfl,ho0,hb⟩;refine ⟨_,rfl,?_⟩;have n0_ := Aside0.mk (Kd.R_lower ho0 (below_size (by repeat (first | (with_reducible first | exact HB.out | apply below_alloc | apply pw_below_drewN | apply below_drew1 | refine below_set ?_ GE135.out | refine below_set ?_ GE136.out | refine below_set ?_ GE137.out) | exact HB.out))));have n1_ := Aside0.mk (blk_below (g := gb135) (o := .cells #[.slice A0_0 l0_0.length c0_0, .int .i64 a0_1] 24 (0,0)) (by (with_reducible repeat (first | refine blk_drewN ?_ _ | refine blk_drew ?_ | refine blk_alloc ?_ _));exact BK135.out) hb);have n2_ := Aside0.mk (blk_below (g := gb136) (o := .cells #[.slice none 0 0, .int .i64 0] 29 (0,0)) (by (with_reducible repeat (first | refine blk_drewN ?_ _ | refine blk_drew ?_ | refine blk_alloc ?_ _));exact BK136.out) hb);have n3_ := Aside0.mk (blk_below (g := gb137) (o := .cells #[.slice none 0 0, .int .i64 0] 29 (0,0)) (by (with_reducible repeat (first | refine blk_drewN ?_ _ | refine blk_drew ?_ | refine blk_alloc ?_ _));exact BK137.out) hb);have n4_ := Aside0.mk (below_step (by repeat (first | (with_reducible first | exact HB.out | apply below_alloc | apply pw_below_drewN | apply below_drew1 | refine below_set ?_ GE135.out | refine below_set ?_ GE136.out | refine below_set ?_ GE137.out) | exact HB.out)) hb);clear BK135;clear BK136;clear BK137;clear HB;have HO140 := n0_;have BK135 := n1_;have BK136 := n2_;have BK137 := n3_;have HB := n4_;clear n0_ n1_ n2_ n3_ n4_;(try clear hb);(try clear hb2);(try clear hk);(try clear hi);(try clear ho0);obtain ⟨Ao10,co10,eo10⟩ := Kd.R_slice HO140.out;subst eo10;have hnb11 := NB137_136.out;have hnc11 := NB136_137.out;have hcz12_0 : w9.cell? ⟨gb137,0,none⟩ = some (.slice none 0 0) := (blk_cell BK137.out 0).trans rfl;have hcz12_1 : w9.cell? ⟨gb137,1,none⟩ = some (.int .i64 0) := (blk_cell BK137.out 1).trans rfl;have hfz12_0 := blk_frozen BK137.out 0;have hfz12_1 := blk_frozen BK137.out 1;have hcz13_0 : w9.cell? ⟨gb135,0,none⟩ = some (.slice A0_0 l0_0.length c0_0) := (blk_cell BK135.out 0).trans rfl;have hcz13_1 : w9.cell? ⟨gb135,1,none⟩ = some (.int .i64 a0_1) := (blk_cell BK135.out 1).trans rfl;have hfz13_0 := blk_frozen BK135.out 0;have hfz13_1 := blk_frozen BK135.out 1;have hcz14_0 : w9.cell? ⟨gb136,0,none⟩ = some (.slice none 0 0) := (blk_cell BK136.out 0).trans rfl;have hcz14_1 : w9.cell? ⟨gb136,1,none⟩ = some (.int .i64 0) := (blk_cell BK136.out 1).trans rfl;have hfz14_0 := blk_frozen BK136.out 0;have hfz14_1 := blk_frozen BK136.out 1))
 refine bodyPost_ret (results_cell_row rfl _ _ gb136 29 #[.slice Ao10 t138.length co10, .int .i64 a0_1] (0,0) _ rfl (by (with_reducible repeat (first | refine blk_drewN ?_ _ | refine blk_drew ?_ | refine blk_alloc ?_ _));refine blk_put (cs := #[.slice Ao10 t138.length co10, .int .i64 0]) ?_ 1 _ rfl;(with_reducible repeat (first | refine blk_drewN ?_ _ | refine blk_drew ?_ | refine blk_alloc ?_ _));refine blk_put (cs := #[.slice none 0 0, .int .i64 0]) ?_ 0 _ rfl;(with_reducible repeat (first | refine blk_drewN ?_ _ | refine blk_drew ?_ | refine blk_alloc ?_ _));refine blk_far ?_ NB136_137.out _;(with_reducible repeat (first | refine blk_drewN ?_ _ | refine blk_drew ?_ | refine blk_alloc ?_ _));refine blk_far ?_ NB136_137.out _;(with_reducible repeat (first | refine blk_drewN ?_ _ | refine blk_drew ?_ | refine blk_alloc ?_ _));exact BK136.out) Try.underlying29 rfl (by kernel_rfl)) rfl ?_
 exact ⟨_,by first | rfl | (simp [errW_none,errW_some] <;> rfl) | (simp [*,errW_none,errW_some] <;> rfl),by (with_reducible repeat (first | apply Kd.R_alloc | apply Kd.R_drewN | apply Kd.R_drew));exact Kd.R_mono (Kd.R_far (p := ⟨gb136,1,none⟩) (Kd.R_far (p := ⟨gb136,0,none⟩) (Kd.R_far (p := ⟨gb137,1,none⟩) (Kd.R_far (p := ⟨gb137,0,none⟩) (Kd.R_types (Kd.R_types HO140.out BK137.out (by decide)) BK136.out (by decide)) (fun _ hk => hk.1.2) (.slice Ao10 t138.length co10)) (fun _ hk => hk.1.2) (.int .i64 a0_1)) (fun _ hk => hk.2) (.slice Ao10 t138.length co10)) (fun _ hk => hk.2) (.int .i64 a0_1)) (fun _ hk => trivial),by repeat (first | (with_reducible first | exact HB.out | apply below_alloc | apply pw_below_drewN | apply below_drew1 | refine below_set ?_ GE135.out | refine below_set ?_ GE136.out | refine below_set ?_ GE137.out) | exact HB.out)⟩

/-! ### impl_within: function 51 -/
def impl_within.f (a0 : Int) (a1 : Int) (a2 : Int) : Option (Bool) := if a0 ≥ a1 then (some (decide (a0 ≤ a2))) else (some false)
set_option maxHeartbeats 8000000 in
set_option maxRecDepth 100000 in
theorem impl_within.calls (a0 : Int) (a1 : Int) (a2 : Int) (r : Bool) (w : World) (h : impl_within.f a0 a1 a2 = some r) :
  Calls Try.prog 51 #[.int .i64 a0, .int .i64 a1, .int .i64 a2] w fun e w' => e = .returned (.bool r) ∧ Drawn0 w w' := by
 have H : (if a0 ≥ a1 then (some (decide (a0 ≤ a2))) else (some false)) = some r := h
 clear h
 by_cases c4 : a0 ≥ a1
 ·rw [if_pos c4] at H
  have c4b0 : decide (a1 ≤ a0) = true := decide_eq_true c4
  clear c4
  obtain rfl := Option.some.inj H
  go_enter Try.func51,Try.ntmps51
  go_wp2
  go_ret
  exact ⟨by first | rfl | (simp;done) | (simp [*];done),by repeat (first | exact Drawn0.refl _ | apply Drawn0.step)⟩
 ·rw [if_neg c4] at H
  have c4b0 : decide (a1 ≤ a0) = false := decide_eq_false c4
  clear c4
  obtain rfl := Option.some.inj H
  go_enter Try.func51,Try.ntmps51
  go_wp2
  go_ret
  exact ⟨by first | rfl | (simp;done) | (simp [*];done),by repeat (first | exact Drawn0.refl _ | apply Drawn0.step)⟩

/-! ### slices_ContainsFunc_int_int: function 52 -/
/-- Is a number odd,as Go's remainder tells it? -/
def oddx (x : Int) : Bool := decide (Int.tmod x 2 = 1)
/-- The functions that ask for odd numbers. -/
def isOddFn (c : Nat) : Bool := c == 53 || c == 75
def slices_ContainsFunc_int_int.f (l0 : List Int) (c : Nat) : Option (Bool) := if isOddFn c = true then some (l0.any oddx) else none
set_option maxHeartbeats 1000000 in
theorem slices_ContainsFunc_int_int.lit1 (x : Int) (w : World) :
  Calls Try.prog 53 #[.int .i64 x] w fun e w' => e = .returned (.bool (oddx x)) ∧ Drawn0 w w' := by
 by_cases c1 : Int.tmod x 2 = 1
 ·have HE := Aside0.mk (show oddx x = true from decide_eq_true c1)
  have c1b0 : (Int.tmod x 2 == 1) = true := beq_iff_eq.mpr c1
  have HF := Aside0.mk c1
  go_enter Try.func53,Try.ntmps53
  go_wp2
  go_ret
  exact ⟨by rw [HE.out];first | rfl | (simp [HF.out];done),Drawn0.refl _⟩
 ·have HE := Aside0.mk (show oddx x = false from decide_eq_false c1)
  have c1b0 : (Int.tmod x 2 == 1) = false := beq_eq_false_iff_ne.mpr c1
  have HF := Aside0.mk c1
  go_enter Try.func53,Try.ntmps53
  go_wp2
  go_ret
  exact ⟨by rw [HE.out];first | rfl | (simp [HF.out];done),Drawn0.refl _⟩
set_option maxHeartbeats 1000000 in
theorem slices_ContainsFunc_int_int.lit2 (x : Int) (w : World) :
  Calls Try.prog 75 #[.int .i64 x] w fun e w' => e = .returned (.bool (oddx x)) ∧ Drawn0 w w' := by
 by_cases c1 : Int.tmod x 2 = 1
 ·have HE := Aside0.mk (show oddx x = true from decide_eq_true c1)
  have c1b0 : (Int.tmod x 2 == 1) = true := beq_iff_eq.mpr c1
  have HF := Aside0.mk c1
  go_enter Try.func75,Try.ntmps75
  go_wp2
  go_ret
  exact ⟨by rw [HE.out];first | rfl | (simp [HF.out];done),Drawn0.refl _⟩
 ·have HE := Aside0.mk (show oddx x = false from decide_eq_false c1)
  have c1b0 : (Int.tmod x 2 == 1) = false := beq_eq_false_iff_ne.mpr c1
  have HF := Aside0.mk c1
  go_enter Try.func75,Try.ntmps75
  go_wp2
  go_ret
  exact ⟨by rw [HE.out];first | rfl | (simp [HF.out];done),Drawn0.refl _⟩
def slices_ContainsFunc_int_int.Idx (l : List Int) (w : World) (e : Ending) (w' : World) : Prop := ∃ r : Int,e = .returned (.int .i64 r) ∧ decide (0 ≤ r) = l.any oddx ∧ Drawn0 w w'
set_option maxHeartbeats 2000000 in
theorem slices_ContainsFunc_int_int.index1 (A0 : Option Addr) (c0 : Nat) (l0 : List Int) (w : World) (hr0 : Kd.C (Kd.int .i64) w A0 l0.length l0) :
  Calls Try.prog 72 #[.slice A0 l0.length c0, .func (.func 53) #[] #[]] w (slices_ContainsFunc_int_int.Idx l0 w) := by
 have HR0 := Aside0.mk hr0
 have hm := Kd.C_max hr0
 clear hr0
 go_enter Try.func72,Try.ntmps72
 go_wp2
 go_loopw [8] (fun i wr => ∃ k : Nat,k ≤ l0.length ∧ i = .int .i64 k ∧ Aside0 ((l0.take k).any oddx = false) ∧ Drawn0 w wr) (fun i _ => l0.length - (intOf i).toNat)
 case atStart => exact ⟨0,Nat.zero_le _,rfl,⟨rfl⟩,Drawn0.refl _⟩
 case round =>
  obtain ⟨k,hk,rfl,HT,⟨m,rfl⟩⟩ := hrel
  by_cases hlt : k < l0.length
  ·obtain ⟨ad,e1,hx⟩ := Kd.at_int HR0.out (k : Int) (by omega) (by omega)
   cases e1
   rw [Int.toNat_natCast] at hx
   have HS : Aside0 ((l0.take (k + 1)).any oddx = oddx (rd l0 k)) := ⟨by
    rw [List.take_succ_eq_append_getElem hlt,List.any_append,HT.out]
    simp [rd,List.getD_eq_getElem?_getD,List.getElem?_eq_getElem hlt]⟩
   by_cases hb : oddx (rd l0 k) = true
   ·have HB := Aside0.mk hb
    have HF : Aside0 (l0.any oddx = true) := ⟨by
     rw [← List.take_append_drop (k + 1) l0,List.any_append,HS.out,HB.out];rfl⟩
    clear hb
    go_wp2_with (go_at_call 53;refine (slices_ContainsFunc_int_int.lit1 _ _).mono ?_;rintro e w' ⟨rfl,⟨n,rfl⟩⟩;rw [HB.out])
    go_ret
    exact ⟨k,rfl,by rw [HF.out];simp,by repeat (first | exact Drawn0.refl _ | apply Drawn0.step)⟩
   ·have HB : Aside0 (oddx (rd l0 k) = false) := ⟨by simpa using hb⟩
    clear hb
    go_wp2_with (go_at_call 53;refine (slices_ContainsFunc_int_int.lit1 _ _).mono ?_;rintro e w' ⟨rfl,⟨n,rfl⟩⟩;rw [HB.out])
    go_roundw
    case rel => exact ⟨k + 1,by omega,by go_num,⟨by rw [HS.out,HB.out]⟩,by repeat (first | exact Drawn0.refl _ | apply Drawn0.step)⟩
    case measure => simp [intOf];omega
  ·have HF : Aside0 (l0.any oddx = false) := ⟨by have := HT.out;rwa [List.take_of_length_le (by omega)] at this⟩
   go_wp2
   go_ret
   exact ⟨-1,rfl,by rw [HF.out];simp,by repeat (first | exact Drawn0.refl _ | apply Drawn0.step)⟩
set_option maxHeartbeats 2000000 in
theorem slices_ContainsFunc_int_int.index2 (A0 : Option Addr) (c0 : Nat) (l0 : List Int) (w : World) (hr0 : Kd.C (Kd.int .i64) w A0 l0.length l0) :
  Calls Try.prog 72 #[.slice A0 l0.length c0, .func (.func 75) #[] #[]] w (slices_ContainsFunc_int_int.Idx l0 w) := by
 have HR0 := Aside0.mk hr0
 have hm := Kd.C_max hr0
 clear hr0
 go_enter Try.func72,Try.ntmps72
 go_wp2
 go_loopw [8] (fun i wr => ∃ k : Nat,k ≤ l0.length ∧ i = .int .i64 k ∧ Aside0 ((l0.take k).any oddx = false) ∧ Drawn0 w wr) (fun i _ => l0.length - (intOf i).toNat)
 case atStart => exact ⟨0,Nat.zero_le _,rfl,⟨rfl⟩,Drawn0.refl _⟩
 case round =>
  obtain ⟨k,hk,rfl,HT,⟨m,rfl⟩⟩ := hrel
  by_cases hlt : k < l0.length
  ·obtain ⟨ad,e1,hx⟩ := Kd.at_int HR0.out (k : Int) (by omega) (by omega)
   cases e1
   rw [Int.toNat_natCast] at hx
   have HS : Aside0 ((l0.take (k + 1)).any oddx = oddx (rd l0 k)) := ⟨by
    rw [List.take_succ_eq_append_getElem hlt,List.any_append,HT.out]
    simp [rd,List.getD_eq_getElem?_getD,List.getElem?_eq_getElem hlt]⟩
   by_cases hb : oddx (rd l0 k) = true
   ·have HB := Aside0.mk hb
    have HF : Aside0 (l0.any oddx = true) := ⟨by
     rw [← List.take_append_drop (k + 1) l0,List.any_append,HS.out,HB.out];rfl⟩
    clear hb
    go_wp2_with (go_at_call 75;refine (slices_ContainsFunc_int_int.lit2 _ _).mono ?_;rintro e w' ⟨rfl,⟨n,rfl⟩⟩;rw [HB.out])
    go_ret
    exact ⟨k,rfl,by rw [HF.out];simp,by repeat (first | exact Drawn0.refl _ | apply Drawn0.step)⟩
   ·have HB : Aside0 (oddx (rd l0 k) = false) := ⟨by simpa using hb⟩
    clear hb
    go_wp2_with (go_at_call 75;refine (slices_ContainsFunc_int_int.lit2 _ _).mono ?_;rintro e w' ⟨rfl,⟨n,rfl⟩⟩;rw [HB.out])
    go_roundw
    case rel => exact ⟨k + 1,by omega,by go_num,⟨by rw [HS.out,HB.out]⟩,by repeat (first | exact Drawn0.refl _ | apply Drawn0.step)⟩
    case measure => simp [intOf];omega
  ·have HF : Aside0 (l0.any oddx = false) := ⟨by have := HT.out;rwa [List.take_of_length_le (by omega)] at this⟩
   go_wp2
   go_ret
   exact ⟨-1,rfl,by rw [HF.out];simp,by repeat (first | exact Drawn0.refl _ | apply Drawn0.step)⟩
set_option maxHeartbeats 1000000 in
theorem slices_ContainsFunc_int_int.calls (A0 : Option Addr) (c0 : Nat) (l0 : List Int) (c : Nat) (r : Bool) (w : World) (hr0 : Kd.C (Kd.int .i64) w A0 l0.length l0) (hc0 : l0.length ≤ c0) (h : slices_ContainsFunc_int_int.f l0 c = some r) :
  Calls Try.prog 52 #[.slice A0 l0.length c0, .func (.func c) #[] #[]] w fun e w' => e = .returned (.bool r) ∧ Below w.heap.size w w' := by
 unfold slices_ContainsFunc_int_int.f at h
 by_cases hc : isOddFn c = true
 ·rw [if_pos hc] at h
  have HE := Aside0.mk (Option.some.inj h)
  clear h
  simp only [isOddFn,Bool.or_eq_true,beq_iff_eq] at hc
  rcases hc with rfl | rfl
  ·go_enter Try.func52,Try.ntmps52
   go_wp2_with fail
   refine (slices_ContainsFunc_int_int.index1 A0 c0 l0 _ hr0).mono ?_
   rintro e w1 ⟨r,rfl,hr,⟨n,rfl⟩⟩
   have HQ := Aside0.mk hr
   clear hr
   go_wp2
   go_ret
   exact ⟨by rw [← HE.out, ← HQ.out];rfl,pw_below_drewN (Below.refl _ _) _⟩
  ·go_enter Try.func52,Try.ntmps52
   go_wp2_with fail
   refine (slices_ContainsFunc_int_int.index2 A0 c0 l0 _ hr0).mono ?_
   rintro e w1 ⟨r,rfl,hr,⟨n,rfl⟩⟩
   have HQ := Aside0.mk hr
   clear hr
   go_wp2
   go_ret
   exact ⟨by rw [← HE.out, ← HQ.out];rfl,pw_below_drewN (Below.refl _ _) _⟩
 ·rw [if_neg hc] at h
  exact absurd h (by simp)

/-! ### impl_areIn: function 54 -/
/-- All numbers are in a range. -/
def inB (lo hi x : Int) : Bool := decide (lo ≤ x) && decide (x ≤ hi)
def impl_areIn.f (l0 : List Int) (a1 : Int) (a2 : Int) : Option (Bool) := some (l0.all (inB a1 a2))
theorem inB_out_lo {lo hi x : Int} (h : x < lo) : inB lo hi x = false := by simp [inB];omega
theorem inB_out_hi {lo hi x : Int} (h : hi < x) : inB lo hi x = false := by simp [inB];omega
theorem inB_in {lo hi x : Int} (h : lo ≤ x) (h' : x ≤ hi) : inB lo hi x = true := by simp [inB];omega
set_option maxHeartbeats 1000000 in
theorem impl_areIn.lit (x lo hi : Int) (b1 b2 : Nat) (w : World) (h1 : w.cell? ⟨b1,0,none⟩ = some (.int .i64 lo)) (h2 : w.cell? ⟨b2,0,none⟩ = some (.int .i64 hi)) :
  Calls Try.prog 73 #[.int .i64 x, .pointer (some ⟨b1,0,none⟩), .pointer (some ⟨b2,0,none⟩)] w fun e w' => e = .returned (.bool (!(inB lo hi x))) ∧ Drawn0 w w' := by
 by_cases c1 : lo ≤ x
 ·by_cases c2 : x ≤ hi
  ·have e1 := inB_in c1 c2
   have HE := Aside0.mk e1
   clear e1
   go_enter Try.func73,Try.ntmps73
   go_wp2
   go_ret
   exact ⟨by rw [HE.out];rfl,Drawn0.refl _⟩
  ·have e1 := inB_out_hi (lo := lo) (show hi < x by omega)
   have HE := Aside0.mk e1
   clear e1
   go_enter Try.func73,Try.ntmps73
   go_wp2
   go_ret
   exact ⟨by rw [HE.out];rfl,Drawn0.refl _⟩
 ·have e1 := inB_out_lo (hi := hi) (show x < lo by omega)
  have HE := Aside0.mk e1
  clear e1
  go_enter Try.func73,Try.ntmps73
  go_wp2
  go_ret
  exact ⟨by rw [HE.out];rfl,Drawn0.refl _⟩
def impl_areIn.Idx (l : List Int) (lo hi : Int) (w : World) (e : Ending) (w' : World) : Prop := ∃ r : Int,e = .returned (.int .i64 r) ∧ decide (0 ≤ r) = !(l.all (inB lo hi)) ∧ Drawn0 w w'
set_option maxHeartbeats 2000000 in
theorem impl_areIn.index (A0 : Option Addr) (c0 : Nat) (l0 : List Int) (lo hi : Int) (b1 b2 : Nat) (w : World) (hr0 : Kd.C (Kd.int .i64) w A0 l0.length l0) (h1 : w.cell? ⟨b1,0,none⟩ = some (.int .i64 lo)) (h2 : w.cell? ⟨b2,0,none⟩ = some (.int .i64 hi)) :
  Calls Try.prog 72 #[.slice A0 l0.length c0, .func (.func 73) #[] #[.pointer (some ⟨b1,0,none⟩), .pointer (some ⟨b2,0,none⟩)]] w (impl_areIn.Idx l0 lo hi w) := by
 have HR0 := Aside0.mk hr0
 have hm := Kd.C_max hr0
 clear hr0
 go_enter Try.func72,Try.ntmps72
 go_wp2
 go_loopw [8] (fun i wr => ∃ k : Nat,k ≤ l0.length ∧ i = .int .i64 k ∧ Aside0 ((l0.take k).all (inB lo hi) = true) ∧ Drawn0 w wr) (fun i _ => l0.length - (intOf i).toNat)
 case atStart => exact ⟨0,Nat.zero_le _,rfl,⟨rfl⟩,Drawn0.refl _⟩
 case round =>
  obtain ⟨k,hk,rfl,HT,⟨m,rfl⟩⟩ := hrel
  by_cases hlt : k < l0.length
  ·obtain ⟨ad,e1,hx⟩ := Kd.at_int HR0.out (k : Int) (by omega) (by omega)
   cases e1
   rw [Int.toNat_natCast] at hx
   have HS : Aside0 ((l0.take (k + 1)).all (inB lo hi) = inB lo hi (rd l0 k)) := ⟨by
    rw [List.take_succ_eq_append_getElem hlt,List.all_append,HT.out]
    simp [rd,List.getD_eq_getElem?_getD,List.getElem?_eq_getElem hlt]⟩
   by_cases hb : inB lo hi (rd l0 k) = true
   ·have HB := Aside0.mk hb
    clear hb
    go_wp2_with (go_at_call 73;refine (impl_areIn.lit _ lo hi b1 b2 _ (by simpa using h1) (by simpa using h2)).mono ?_;rintro e w' ⟨rfl,⟨n,rfl⟩⟩;rw [HB.out])
    go_roundw
    case rel => exact ⟨k + 1,by omega,by go_num,⟨by rw [HS.out,HB.out]⟩,by repeat (first | exact Drawn0.refl _ | apply Drawn0.step)⟩
    case measure => simp [intOf];omega
   ·have HB : Aside0 (inB lo hi (rd l0 k) = false) := ⟨by simpa using hb⟩
    have HF : Aside0 (l0.all (inB lo hi) = false) := ⟨by
     rw [← List.take_append_drop (k + 1) l0,List.all_append,HS.out,HB.out];rfl⟩
    clear hb
    go_wp2_with (go_at_call 73;refine (impl_areIn.lit _ lo hi b1 b2 _ (by simpa using h1) (by simpa using h2)).mono ?_;rintro e w' ⟨rfl,⟨n,rfl⟩⟩;rw [HB.out])
    go_ret
    exact ⟨k,rfl,by rw [HF.out];simp,by repeat (first | exact Drawn0.refl _ | apply Drawn0.step)⟩
  ·have HF : Aside0 (l0.all (inB lo hi) = true) := ⟨by have := HT.out;rwa [List.take_of_length_le (by omega)] at this⟩
   go_wp2
   go_ret
   exact ⟨-1,rfl,by rw [HF.out];simp,by repeat (first | exact Drawn0.refl _ | apply Drawn0.step)⟩
set_option maxHeartbeats 1000000 in
theorem impl_areIn.contains (A0 : Option Addr) (c0 : Nat) (l0 : List Int) (lo hi : Int) (b1 b2 : Nat) (w : World) (hr0 : Kd.C (Kd.int .i64) w A0 l0.length l0) (h1 : w.cell? ⟨b1,0,none⟩ = some (.int .i64 lo)) (h2 : w.cell? ⟨b2,0,none⟩ = some (.int .i64 hi)) :
  Calls Try.prog 52 #[.slice A0 l0.length c0, .func (.func 73) #[] #[.pointer (some ⟨b1,0,none⟩), .pointer (some ⟨b2,0,none⟩)]] w fun e w' => e = .returned (.bool (!(l0.all (inB lo hi)))) ∧ Drawn0 w w' := by
 go_enter Try.func52,Try.ntmps52
 go_wp2_with fail
 refine (impl_areIn.index A0 c0 l0 lo hi b1 b2 _ hr0 h1 h2).mono ?_
 rintro e w1 ⟨r,rfl,hr,⟨n,rfl⟩⟩
 have HQ := Aside0.mk hr
 clear hr
 go_wp2
 go_ret
 exact ⟨by rw [← HQ.out];rfl,by repeat (first | exact Drawn0.refl _ | apply Drawn0.step)⟩
set_option maxHeartbeats 2000000 in
theorem impl_areIn.calls (A0 : Option Addr) (c0 : Nat) (l0 : List Int) (a1 : Int) (a2 : Int) (r : Bool) (w : World) (hr0 : Kd.C (Kd.int .i64) w A0 l0.length l0) (hc0 : l0.length ≤ c0) (h : impl_areIn.f l0 a1 a2 = some r) :
  Calls Try.prog 54 #[.slice A0 l0.length c0, .int .i64 a1, .int .i64 a2] w fun e w' => e = .returned (.bool r) ∧ Below w.heap.size w w' := by
 have HE := Aside0.mk (Option.some.inj h)
 clear h
 have hmf : ∀ (fn : Fn) (first cap : Array Value) (w : World),(Instr.makeFunc fn first cap).run Try.prog w = .ok (.func fn first cap) w := fun _ _ _ _ => rfl
 have hr2 : Aside0 (Kd.C (Kd.int .i64) ((w.alloc (.cells #[.int .i64 a1] 3)).alloc (.cells #[.int .i64 a2] 3)) A0 l0.length l0) := ⟨Kd.C_alloc (Kd.C_alloc hr0 _) _⟩
 clear hr0
 have hM2 : ((w.alloc (.cells #[.int .i64 a1] 3)).alloc (.cells #[.int .i64 a2] 3)).cell? ⟨w.heap.size,0,none⟩ = some (.int .i64 a1) := by
  rw [World.cell?_alloc_past _ _ _ (by simp),World.cell?_alloc_at _ _ _ _ rfl];rfl
 have hD2 : ((w.alloc (.cells #[.int .i64 a1] 3)).alloc (.cells #[.int .i64 a2] 3)).cell? ⟨w.heap.size + 1,0,none⟩ = some (.int .i64 a2) := by
  rw [World.cell?_alloc_at _ _ _ _ (by simp)];rfl
 have HM := Aside0.mk hM2
 have HD := Aside0.mk hD2
 clear hM2 hD2
 go_enter Try.func54,Try.ntmps54
 go_wp2_with fail
 refine (impl_areIn.contains A0 c0 l0 a1 a2 w.heap.size (w.heap.size + 1) _ hr2.out HM.out HD.out).mono ?_
 rintro e w1 ⟨rfl,⟨n,rfl⟩⟩
 go_wp2
 go_ret
 exact ⟨by rw [← HE.out];simp,pw_below_drewN (below_alloc (below_alloc (Below.refl _ _) _) _) _⟩

/-! ### impl_AreCups: function 32 -/
def impl_AreCups.j0 : Nat → Bool → List Int → Int → Option (Bool)
 | 0,_,_,_ => none
 | k + 1,x23,x143000,x143001 => if x23 = true then (some false) else ((slices_ContainsFunc_int_int.f x143000 53).bind fun t145 => ((impl_areIn.f x143000 0 (wrap64 (1000 * x143001))).bind fun t146 => (if t146 = true then (if x143001 = 1 then (some true) else (some t145)) else (some false))))
def impl_AreCups.f (k : Nat) (l0_0 : List Int) (a0_1 : Int) : Option (Bool) := (impl_within.f (l0_0.length : Int) 2 6).bind fun t143 => (if t143 = true then ((impl_within.f a0_1 1 1048576).bind fun t144 => (if t144 = true then (impl_AreCups.j0 k ((Go.bits .and .i64 a0_1 (wrap64 (a0_1 - 1))) != 0) l0_0 a0_1) else (impl_AreCups.j0 k true l0_0 a0_1))) else (impl_AreCups.j0 k true l0_0 a0_1))
theorem impl_AreCups.mono_l : ∀ k,(∀ y0 y1 y2,LeO (impl_AreCups.j0 k y0 y1 y2) (impl_AreCups.j0 (k + 1) y0 y1 y2))
 | 0 => fun _ _ _ r h => by simp [impl_AreCups.j0] at h
 | k + 1 => by
  have ih0 := impl_AreCups.mono_l k
  ·intro y0 y1 y2
   unfold impl_AreCups.j0
   repeat' first
   | (with_reducible exact ih0 _ _ _)
   | (with_reducible exact LeO.refl _)
   | (with_reducible exact LeO.none _)
   | (with_reducible refine LeO.ite ?_ ?_)
   | (with_reducible refine LeO.bind ?_ (fun _ => ?_))
   | exact ih0 _ _ _
   | exact LeO.none _
   | refine LeO.ite ?_ ?_
   | refine LeO.bind ?_ (fun _ => ?_)
theorem impl_AreCups.mono : ∀ a0 a1 k,LeO (impl_AreCups.f k a0 a1) (impl_AreCups.f (k + 1) a0 a1) := by
 intro a0 a1 k
 have ih0 := impl_AreCups.mono_l k
 unfold impl_AreCups.f
 repeat' first
   | (with_reducible exact ih0 _ _ _)
   | (with_reducible exact LeO.refl _)
   | (with_reducible exact LeO.none _)
   | (with_reducible refine LeO.ite ?_ ?_)
   | (with_reducible refine LeO.bind ?_ (fun _ => ?_))
   | exact ih0 _ _ _
   | exact LeO.none _
   | refine LeO.ite ?_ ?_
   | refine LeO.bind ?_ (fun _ => ?_)
set_option maxHeartbeats 8000000 in
set_option maxRecDepth 100000 in
theorem impl_AreCups.calls (k : Nat) (A0_0 : Option Addr) (c0_0 : Nat) (l0_0 : List Int) (a0_1 : Int) (r : Bool) (w : World) (hr0_0 : Kd.C (Kd.int .i64) w A0_0 l0_0.length l0_0) (hc0_0 : l0_0.length ≤ c0_0) (h : impl_AreCups.f k l0_0 a0_1 = some r) :
  Calls Try.prog 32 #[.agg #[.slice A0_0 l0_0.length c0_0, .int .i64 a0_1]] w fun e w' => e = .returned (.bool r) ∧ Below w.heap.size w w' := by
 have hu29 := Try.underlying29
 have HR0_0 := Aside0.mk hr0_0
 have HC0_0 := Aside0.mk hc0_0
 clear hr0_0 hc0_0
 have HB := Aside0.mk (Below.refl w.heap.size w)
 have H : ((impl_within.f (l0_0.length : Int) 2 6).bind fun t143 => (if t143 = true then ((impl_within.f a0_1 1 1048576).bind fun t144 => (if t144 = true then (impl_AreCups.j0 k ((Go.bits .and .i64 a0_1 (wrap64 (a0_1 - 1))) != 0) l0_0 a0_1) else (impl_AreCups.j0 k true l0_0 a0_1))) else (impl_AreCups.j0 k true l0_0 a0_1))) = some r := h
 clear h
 have HC2 := Aside0.mk H
 clear H
 go_enter Try.func32,Try.ntmps32
 go_upto_region 1 with (first | ((with_reducible refine gate_dst (N := 1) rfl ?_);refine box_event ?hg (N := 1) ?hd (cs := #[.slice A0_0 l0_0.length c0_0, .int .i64 a0_1]) (t := 29) ?hr ?_;(case hd => rfl);(case hg => rfl);(case hr => first | (go_simp;done) | (go_simp;rfl));intro gb142 hg w3 hbox hb;have n0_ := Aside0.mk (below_step (by repeat (first | (with_reducible first | exact HB.out | apply below_alloc | apply pw_below_drewN | apply below_drew1) | exact HB.out)) hb);have n1_ := Aside0.mk (hbox);have n2_ := Aside0.mk ((by rw [hg];exact (below_size (by repeat (first | (with_reducible first | exact HB.out | apply below_alloc | apply pw_below_drewN | apply below_drew1) | exact HB.out))) : w.heap.size ≤ gb142));have n3_ := Aside0.mk ((by rw [hg];exact (below_size (by repeat (first | (with_reducible first | exact HB.out | apply below_alloc | apply pw_below_drewN | apply below_drew1) | exact HB.out))) : w.heap.size ≤ gb142));clear HB;have HB := n0_;have BK142 := n1_;have GW142 := n2_;have GE142 := n3_;clear n0_ n1_ n2_ n3_;clear hb hbox hg))
 (try simp only [Act.put,List.setIfInBounds_toArray,List.set_cons_zero,List.set_cons_succ])
 go_cut [23] (fun v23 wc => ∃ (kq : Nat) (x23_1 : Bool),v23 = .bool x23_1 ∧ Aside0 (impl_AreCups.j0 kq x23_1 l0_0 a0_1 = some r) ∧ Aside0 (kq ≤ k) ∧ Aside0 (wc.heap[gb142]? = some (.cells #[(.slice A0_0 l0_0.length c0_0), .int .i64 a0_1] 29 (0,0))) ∧ Aside0 (Below w.heap.size w wc))
 case first =>
  have H := HC2.out
  clear HC2
  replace H := Option.bind_eq_some_iff.mp H
  obtain ⟨t143,A40,H⟩ := H
  replace H : (if t143 = true then ((impl_within.f a0_1 1 1048576).bind fun t144 => (if t144 = true then (impl_AreCups.j0 k ((Go.bits .and .i64 a0_1 (wrap64 (a0_1 - 1))) != 0) l0_0 a0_1) else (impl_AreCups.j0 k true l0_0 a0_1))) else (impl_AreCups.j0 k true l0_0 a0_1)) = some r := H
  have A4 := Aside0.mk A40
  clear A40
  by_cases c5 : t143 = true
  ·subst c5
   have H1 : ((impl_within.f a0_1 1 1048576).bind fun t144 => (if t144 = true then (impl_AreCups.j0 k ((Go.bits .and .i64 a0_1 (wrap64 (a0_1 - 1))) != 0) l0_0 a0_1) else (impl_AreCups.j0 k true l0_0 a0_1))) = some r := by rw [if_pos rfl] at H;exact H
   clear H
   have H := H1
   clear H1
   replace H := Option.bind_eq_some_iff.mp H
   obtain ⟨t144,A60,H⟩ := H
   replace H : (if t144 = true then (impl_AreCups.j0 k ((Go.bits .and .i64 a0_1 (wrap64 (a0_1 - 1))) != 0) l0_0 a0_1) else (impl_AreCups.j0 k true l0_0 a0_1)) = some r := H
   have A6 := Aside0.mk A60
   clear A60
   by_cases c7 : t144 = true
   ·subst c7
    have H1 : (impl_AreCups.j0 k ((Go.bits .and .i64 a0_1 (wrap64 (a0_1 - 1))) != 0) l0_0 a0_1) = some r := by rw [if_pos rfl] at H;exact H
    clear H
    have H := H1
    clear H1
    have H' := Aside0.mk H
    clear H
    have hcz8_0 : w3.cell? ⟨gb142,0,none⟩ = some (.slice A0_0 l0_0.length c0_0) := (blk_cell BK142.out 0).trans rfl
    have hcz8_1 : w3.cell? ⟨gb142,1,none⟩ = some (.int .i64 a0_1) := (blk_cell BK142.out 1).trans rfl
    have hfz8_0 := blk_frozen BK142.out 0
    have hfz8_1 := blk_frozen BK142.out 1
    go_wp2_with (first | ((with_reducible refine gate_callee (f := 51) rfl ?_);refine goesL_ (some 7) rfl rfl Try.func51 (by kernel_rfl) rfl #[.int .i64 (l0_0.length : Int), .int .i64 2, .int .i64 6] rfl (by (try simp only [List.map_toArray,List.map_cons,List.map_nil]);first | done | rfl | (simp only [List.length_drop,List.length_take];rfl)) ?_;(with_reducible refine (impl_within.calls (l0_0.length : Int) 2 6 true _ A4.out).mono ?_);rintro e w' ⟨rfl,⟨nd,rfl⟩⟩;refine ⟨_,rfl,?_⟩) | (go_at_call 51;(with_reducible refine (impl_within.calls a0_1 1 1048576 true _ A6.out).mono ?_);rintro e w' ⟨rfl,⟨nd,rfl⟩⟩))
    go_meet
    case rel => exact ⟨_,(((Go.bits .and .i64 a0_1 (wrap64 (a0_1 - 1))) != 0)),(by first | rfl | (simp;done) | (simp [*];done)),H',⟨by first | omega | exact Nat.le_refl _⟩,⟨by (with_reducible repeat (first | refine blk_drewN ?_ _ | refine blk_drew ?_ | refine blk_alloc ?_ _));exact BK142.out⟩,⟨by repeat (first | (with_reducible first | exact HB.out | apply below_alloc | apply pw_below_drewN | apply below_drew1 | refine below_set ?_ GE142.out) | exact HB.out)⟩⟩
   ·replace c7 := Bool.eq_false_iff.mpr c7
    subst c7
    have H1 : (impl_AreCups.j0 k true l0_0 a0_1) = some r := by rw [if_neg (show ¬ (false = true) by decide)] at H;exact H
    clear H
    have H := H1
    clear H1
    have H' := Aside0.mk H
    clear H
    have hcz9_0 : w3.cell? ⟨gb142,0,none⟩ = some (.slice A0_0 l0_0.length c0_0) := (blk_cell BK142.out 0).trans rfl
    have hcz9_1 : w3.cell? ⟨gb142,1,none⟩ = some (.int .i64 a0_1) := (blk_cell BK142.out 1).trans rfl
    have hfz9_0 := blk_frozen BK142.out 0
    have hfz9_1 := blk_frozen BK142.out 1
    go_wp2_with (first | ((with_reducible refine gate_callee (f := 51) rfl ?_);refine goesL_ (some 7) rfl rfl Try.func51 (by kernel_rfl) rfl #[.int .i64 (l0_0.length : Int), .int .i64 2, .int .i64 6] rfl (by (try simp only [List.map_toArray,List.map_cons,List.map_nil]);first | done | rfl | (simp only [List.length_drop,List.length_take];rfl)) ?_;(with_reducible refine (impl_within.calls (l0_0.length : Int) 2 6 true _ A4.out).mono ?_);rintro e w' ⟨rfl,⟨nd,rfl⟩⟩;refine ⟨_,rfl,?_⟩) | (go_at_call 51;(with_reducible refine (impl_within.calls a0_1 1 1048576 false _ A6.out).mono ?_);rintro e w' ⟨rfl,⟨nd,rfl⟩⟩))
    go_meet
    case rel => exact ⟨_,(true),(by first | rfl | (simp;done) | (simp [*];done)),H',⟨by first | omega | exact Nat.le_refl _⟩,⟨by (with_reducible repeat (first | refine blk_drewN ?_ _ | refine blk_drew ?_ | refine blk_alloc ?_ _));exact BK142.out⟩,⟨by repeat (first | (with_reducible first | exact HB.out | apply below_alloc | apply pw_below_drewN | apply below_drew1 | refine below_set ?_ GE142.out) | exact HB.out)⟩⟩
  ·replace c5 := Bool.eq_false_iff.mpr c5
   subst c5
   have H1 : (impl_AreCups.j0 k true l0_0 a0_1) = some r := by rw [if_neg (show ¬ (false = true) by decide)] at H;exact H
   clear H
   have H := H1
   clear H1
   have H' := Aside0.mk H
   clear H
   have hcz10_0 : w3.cell? ⟨gb142,0,none⟩ = some (.slice A0_0 l0_0.length c0_0) := (blk_cell BK142.out 0).trans rfl
   have hcz10_1 : w3.cell? ⟨gb142,1,none⟩ = some (.int .i64 a0_1) := (blk_cell BK142.out 1).trans rfl
   have hfz10_0 := blk_frozen BK142.out 0
   have hfz10_1 := blk_frozen BK142.out 1
   go_wp2_with (first | ((with_reducible refine gate_callee (f := 51) rfl ?_);refine goesL_ (some 7) rfl rfl Try.func51 (by kernel_rfl) rfl #[.int .i64 (l0_0.length : Int), .int .i64 2, .int .i64 6] rfl (by (try simp only [List.map_toArray,List.map_cons,List.map_nil]);first | done | rfl | (simp only [List.length_drop,List.length_take];rfl)) ?_;(with_reducible refine (impl_within.calls (l0_0.length : Int) 2 6 false _ A4.out).mono ?_);rintro e w' ⟨rfl,⟨nd,rfl⟩⟩;refine ⟨_,rfl,?_⟩))
   go_meet
   case rel => exact ⟨_,(true),(by first | rfl | (simp;done) | (simp [*];done)),H',⟨by first | omega | exact Nat.le_refl _⟩,⟨by (with_reducible repeat (first | refine blk_drewN ?_ _ | refine blk_drew ?_ | refine blk_alloc ?_ _));exact BK142.out⟩,⟨by repeat (first | (with_reducible first | exact HB.out | apply below_alloc | apply pw_below_drewN | apply below_drew1 | refine below_set ?_ GE142.out) | exact HB.out)⟩⟩
 case rest =>
  clear HC2
  try clear p2
  try clear c3
  try clear c5
  try clear p6
  try clear c7
  try clear hcz10_0
  try clear hcz10_1
  try clear hcz8_0
  try clear hcz8_1
  try clear hcz9_0
  try clear hcz9_1
  try clear hfz10_0
  try clear hfz10_1
  try clear hfz8_0
  try clear hfz8_1
  try clear hfz9_0
  try clear hfz9_1
  obtain ⟨kq,x23_1,rfl,HA,HJ1,BK142,HB⟩ := hcut
  cases kq with
  | zero => exact absurd HA.out (by simp [impl_AreCups.j0])
  | succ kj1 =>
   have H := HA.out
   clear HA
   simp only [impl_AreCups.j0] at H
   by_cases c11 : x23_1 = true
   ·subst c11
    have H1 : (some false) = some r := by rw [if_pos rfl] at H;exact H
    clear H
    have H := H1
    clear H1
    obtain rfl := Option.some.inj H
    go_wp2
    go_ret
    exact ⟨by first | rfl | (simp [errW_none,errW_some] <;> rfl) | (simp [*,errW_none,errW_some] <;> rfl),by repeat (first | (with_reducible first | exact HB.out | apply below_alloc | apply pw_below_drewN | apply below_drew1 | refine below_set ?_ GE142.out) | exact HB.out)⟩
   ·replace c11 := Bool.eq_false_iff.mpr c11
    subst c11
    have H1 : ((slices_ContainsFunc_int_int.f l0_0 53).bind fun t145 => ((impl_areIn.f l0_0 0 (wrap64 (1000 * a0_1))).bind fun t146 => (if t146 = true then (if a0_1 = 1 then (some true) else (some t145)) else (some false)))) = some r := by rw [if_neg (show ¬ (false = true) by decide)] at H;exact H
    clear H
    have H := H1
    clear H1
    replace H := Option.bind_eq_some_iff.mp H
    obtain ⟨t145,A120,H⟩ := H
    replace H : ((impl_areIn.f l0_0 0 (wrap64 (1000 * a0_1))).bind fun t146 => (if t146 = true then (if a0_1 = 1 then (some true) else (some t145)) else (some false))) = some r := H
    have A12 := Aside0.mk A120
    clear A120
    replace H := Option.bind_eq_some_iff.mp H
    obtain ⟨t146,A130,H⟩ := H
    replace H : (if t146 = true then (if a0_1 = 1 then (some true) else (some t145)) else (some false)) = some r := H
    have A13 := Aside0.mk A130
    clear A130
    by_cases c14 : t146 = true
    ·subst c14
     have H1 : (if a0_1 = 1 then (some true) else (some t145)) = some r := by rw [if_pos rfl] at H;exact H
     clear H
     have H := H1
     clear H1
     by_cases c15 : a0_1 = 1
     ·rw [if_pos c15] at H
      have c15b0 : (a0_1 == 1) = true := beq_iff_eq.mpr c15
      have c15b1 : (a0_1 != 1) = false := bne_eq_false_iff_eq.mpr c15
      clear c15
      obtain rfl := Option.some.inj H
      have hcz16_0 : wc.cell? ⟨gb142,0,none⟩ = some (.slice A0_0 l0_0.length c0_0) := (blk_cell BK142.out 0).trans rfl
      have hcz16_1 : wc.cell? ⟨gb142,1,none⟩ = some (.int .i64 a0_1) := (blk_cell BK142.out 1).trans rfl
      have hfz16_0 := blk_frozen BK142.out 0
      have hfz16_1 := blk_frozen BK142.out 1
      go_wp2_with (first | ((with_reducible refine gate_callee (f := 52) rfl ?_);refine goesL_ (some 26) rfl rfl Try.func52 (by kernel_rfl) rfl #[.slice A0_0 l0_0.length c0_0, .func (.func 53) #[] #[]] rfl (by (try simp only [List.map_toArray,List.map_cons,List.map_nil]);first | done | rfl | (simp only [List.length_drop,List.length_take];rfl)) ?_;(with_reducible refine (slices_ContainsFunc_int_int.calls _ _ l0_0 53 t145 _ ?side1 ?side2 A12.out).mono ?_);(case side1 => repeat (first | exact (Kd.C_below HR0_0.out HB.out) | (with_reducible refine Kd.C_alloc ?_ _) | (with_reducible refine Kd.C_drewN ?_ _) | (with_reducible refine Kd.C_drew ?_)));(case side2 => exact HC0_0.out);rintro e w17 ⟨rfl,hb⟩;refine ⟨_,rfl,?_⟩;have n0_ := Aside0.mk (blk_below (g := gb142) (o := .cells #[.slice A0_0 l0_0.length c0_0, .int .i64 a0_1] 29 (0,0)) (by (with_reducible repeat (first | refine blk_drewN ?_ _ | refine blk_drew ?_ | refine blk_alloc ?_ _));exact BK142.out) hb);have n1_ := Aside0.mk (below_step (by repeat (first | (with_reducible first | exact HB.out | apply below_alloc | apply pw_below_drewN | apply below_drew1 | refine below_set ?_ GE142.out) | exact HB.out)) hb);clear BK142;clear HB;have BK142 := n0_;have HB := n1_;clear n0_ n1_;(try clear hb);(try clear hb2);(try clear hk);(try clear hi);have hcz18_0 : w17.cell? ⟨gb142,0,none⟩ = some (.slice A0_0 l0_0.length c0_0) := (blk_cell BK142.out 0).trans rfl;have hcz18_1 : w17.cell? ⟨gb142,1,none⟩ = some (.int .i64 a0_1) := (blk_cell BK142.out 1).trans rfl;have hfz18_0 := blk_frozen BK142.out 0;have hfz18_1 := blk_frozen BK142.out 1) | ((with_reducible refine gate_callee (f := 54) rfl ?_);refine goesL_ (some 32) rfl rfl Try.func54 (by kernel_rfl) rfl #[.slice A0_0 l0_0.length c0_0, .int .i64 0, .int .i64 (wrap64 (1000 * a0_1))] rfl (by (try simp only [List.map_toArray,List.map_cons,List.map_nil]);first | done | rfl | (simp only [List.length_drop,List.length_take];rfl)) ?_;(with_reducible refine (impl_areIn.calls _ _ l0_0 0 (wrap64 (1000 * a0_1)) true _ ?side1 ?side2 A13.out).mono ?_);(case side1 => repeat (first | exact (Kd.C_below HR0_0.out HB.out) | (with_reducible refine Kd.C_alloc ?_ _) | (with_reducible refine Kd.C_drewN ?_ _) | (with_reducible refine Kd.C_drew ?_)));(case side2 => exact HC0_0.out);rintro e w19 ⟨rfl,hb⟩;refine ⟨_,rfl,?_⟩;have n0_ := Aside0.mk (blk_below (g := gb142) (o := .cells #[.slice A0_0 l0_0.length c0_0, .int .i64 a0_1] 29 (0,0)) (by (with_reducible repeat (first | refine blk_drewN ?_ _ | refine blk_drew ?_ | refine blk_alloc ?_ _));exact BK142.out) hb);have n1_ := Aside0.mk (below_step (by repeat (first | (with_reducible first | exact HB.out | apply below_alloc | apply pw_below_drewN | apply below_drew1 | refine below_set ?_ GE142.out) | exact HB.out)) hb);clear BK142;clear HB;have BK142 := n0_;have HB := n1_;clear n0_ n1_;(try clear hb);(try clear hb2);(try clear hk);(try clear hi);have hcz20_0 : w19.cell? ⟨gb142,0,none⟩ = some (.slice A0_0 l0_0.length c0_0) := (blk_cell BK142.out 0).trans rfl;have hcz20_1 : w19.cell? ⟨gb142,1,none⟩ = some (.int .i64 a0_1) := (blk_cell BK142.out 1).trans rfl;have hfz20_0 := blk_frozen BK142.out 0;have hfz20_1 := blk_frozen BK142.out 1))
      go_ret
      exact ⟨by first | rfl | (simp [errW_none,errW_some] <;> rfl) | (simp [*,errW_none,errW_some] <;> rfl),by repeat (first | (with_reducible first | exact HB.out | apply below_alloc | apply pw_below_drewN | apply below_drew1 | refine below_set ?_ GE142.out) | exact HB.out)⟩
     ·rw [if_neg c15] at H
      have c15b0 : (a0_1 == 1) = false := beq_eq_false_iff_ne.mpr c15
      have c15b1 : (a0_1 != 1) = true := bne_iff_ne.mpr c15
      obtain rfl := Option.some.inj H
      have hcz21_0 : wc.cell? ⟨gb142,0,none⟩ = some (.slice A0_0 l0_0.length c0_0) := (blk_cell BK142.out 0).trans rfl
      have hcz21_1 : wc.cell? ⟨gb142,1,none⟩ = some (.int .i64 a0_1) := (blk_cell BK142.out 1).trans rfl
      have hfz21_0 := blk_frozen BK142.out 0
      have hfz21_1 := blk_frozen BK142.out 1
      go_wp2_with (first | ((with_reducible refine gate_callee (f := 52) rfl ?_);refine goesL_ (some 26) rfl rfl Try.func52 (by kernel_rfl) rfl #[.slice A0_0 l0_0.length c0_0, .func (.func 53) #[] #[]] rfl (by (try simp only [List.map_toArray,List.map_cons,List.map_nil]);first | done | rfl | (simp only [List.length_drop,List.length_take];rfl)) ?_;(with_reducible refine (slices_ContainsFunc_int_int.calls _ _ l0_0 53 t145 _ ?side1 ?side2 A12.out).mono ?_);(case side1 => repeat (first | exact (Kd.C_below HR0_0.out HB.out) | (with_reducible refine Kd.C_alloc ?_ _) | (with_reducible refine Kd.C_drewN ?_ _) | (with_reducible refine Kd.C_drew ?_)));(case side2 => exact HC0_0.out);rintro e w22 ⟨rfl,hb⟩;refine ⟨_,rfl,?_⟩;have n0_ := Aside0.mk (blk_below (g := gb142) (o := .cells #[.slice A0_0 l0_0.length c0_0, .int .i64 a0_1] 29 (0,0)) (by (with_reducible repeat (first | refine blk_drewN ?_ _ | refine blk_drew ?_ | refine blk_alloc ?_ _));exact BK142.out) hb);have n1_ := Aside0.mk (below_step (by repeat (first | (with_reducible first | exact HB.out | apply below_alloc | apply pw_below_drewN | apply below_drew1 | refine below_set ?_ GE142.out) | exact HB.out)) hb);clear BK142;clear HB;have BK142 := n0_;have HB := n1_;clear n0_ n1_;(try clear hb);(try clear hb2);(try clear hk);(try clear hi);have hcz23_0 : w22.cell? ⟨gb142,0,none⟩ = some (.slice A0_0 l0_0.length c0_0) := (blk_cell BK142.out 0).trans rfl;have hcz23_1 : w22.cell? ⟨gb142,1,none⟩ = some (.int .i64 a0_1) := (blk_cell BK142.out 1).trans rfl;have hfz23_0 := blk_frozen BK142.out 0;have hfz23_1 := blk_frozen BK142.out 1) | ((with_reducible refine gate_callee (f := 54) rfl ?_);refine goesL_ (some 32) rfl rfl Try.func54 (by kernel_rfl) rfl #[.slice A0_0 l0_0.length c0_0, .int .i64 0, .int .i64 (wrap64 (1000 * a0_1))] rfl (by (try simp only [List.map_toArray,List.map_cons,List.map_nil]);first | done | rfl | (simp only [List.length_drop,List.length_take];rfl)) ?_;(with_reducible refine (impl_areIn.calls _ _ l0_0 0 (wrap64 (1000 * a0_1)) true _ ?side1 ?side2 A13.out).mono ?_);(case side1 => repeat (first | exact (Kd.C_below HR0_0.out HB.out) | (with_reducible refine Kd.C_alloc ?_ _) | (with_reducible refine Kd.C_drewN ?_ _) | (with_reducible refine Kd.C_drew ?_)));(case side2 => exact HC0_0.out);rintro e w24 ⟨rfl,hb⟩;refine ⟨_,rfl,?_⟩;have n0_ := Aside0.mk (blk_below (g := gb142) (o := .cells #[.slice A0_0 l0_0.length c0_0, .int .i64 a0_1] 29 (0,0)) (by (with_reducible repeat (first | refine blk_drewN ?_ _ | refine blk_drew ?_ | refine blk_alloc ?_ _));exact BK142.out) hb);have n1_ := Aside0.mk (below_step (by repeat (first | (with_reducible first | exact HB.out | apply below_alloc | apply pw_below_drewN | apply below_drew1 | refine below_set ?_ GE142.out) | exact HB.out)) hb);clear BK142;clear HB;have BK142 := n0_;have HB := n1_;clear n0_ n1_;(try clear hb);(try clear hb2);(try clear hk);(try clear hi);have hcz25_0 : w24.cell? ⟨gb142,0,none⟩ = some (.slice A0_0 l0_0.length c0_0) := (blk_cell BK142.out 0).trans rfl;have hcz25_1 : w24.cell? ⟨gb142,1,none⟩ = some (.int .i64 a0_1) := (blk_cell BK142.out 1).trans rfl;have hfz25_0 := blk_frozen BK142.out 0;have hfz25_1 := blk_frozen BK142.out 1))
      go_ret
      exact ⟨by first | rfl | (simp [errW_none,errW_some] <;> rfl) | (simp [*,errW_none,errW_some] <;> rfl),by repeat (first | (with_reducible first | exact HB.out | apply below_alloc | apply pw_below_drewN | apply below_drew1 | refine below_set ?_ GE142.out) | exact HB.out)⟩
    ·replace c14 := Bool.eq_false_iff.mpr c14
     subst c14
     have H1 : (some false) = some r := by rw [if_neg (show ¬ (false = true) by decide)] at H;exact H
     clear H
     have H := H1
     clear H1
     obtain rfl := Option.some.inj H
     have hcz26_0 : wc.cell? ⟨gb142,0,none⟩ = some (.slice A0_0 l0_0.length c0_0) := (blk_cell BK142.out 0).trans rfl
     have hcz26_1 : wc.cell? ⟨gb142,1,none⟩ = some (.int .i64 a0_1) := (blk_cell BK142.out 1).trans rfl
     have hfz26_0 := blk_frozen BK142.out 0
     have hfz26_1 := blk_frozen BK142.out 1
     go_wp2_with (first | ((with_reducible refine gate_callee (f := 52) rfl ?_);refine goesL_ (some 26) rfl rfl Try.func52 (by kernel_rfl) rfl #[.slice A0_0 l0_0.length c0_0, .func (.func 53) #[] #[]] rfl (by (try simp only [List.map_toArray,List.map_cons,List.map_nil]);first | done | rfl | (simp only [List.length_drop,List.length_take];rfl)) ?_;(with_reducible refine (slices_ContainsFunc_int_int.calls _ _ l0_0 53 t145 _ ?side1 ?side2 A12.out).mono ?_);(case side1 => repeat (first | exact (Kd.C_below HR0_0.out HB.out) | (with_reducible refine Kd.C_alloc ?_ _) | (with_reducible refine Kd.C_drewN ?_ _) | (with_reducible refine Kd.C_drew ?_)));(case side2 => exact HC0_0.out);rintro e w27 ⟨rfl,hb⟩;refine ⟨_,rfl,?_⟩;have n0_ := Aside0.mk (blk_below (g := gb142) (o := .cells #[.slice A0_0 l0_0.length c0_0, .int .i64 a0_1] 29 (0,0)) (by (with_reducible repeat (first | refine blk_drewN ?_ _ | refine blk_drew ?_ | refine blk_alloc ?_ _));exact BK142.out) hb);have n1_ := Aside0.mk (below_step (by repeat (first | (with_reducible first | exact HB.out | apply below_alloc | apply pw_below_drewN | apply below_drew1 | refine below_set ?_ GE142.out) | exact HB.out)) hb);clear BK142;clear HB;have BK142 := n0_;have HB := n1_;clear n0_ n1_;(try clear hb);(try clear hb2);(try clear hk);(try clear hi);have hcz28_0 : w27.cell? ⟨gb142,0,none⟩ = some (.slice A0_0 l0_0.length c0_0) := (blk_cell BK142.out 0).trans rfl;have hcz28_1 : w27.cell? ⟨gb142,1,none⟩ = some (.int .i64 a0_1) := (blk_cell BK142.out 1).trans rfl;have hfz28_0 := blk_frozen BK142.out 0;have hfz28_1 := blk_frozen BK142.out 1) | ((with_reducible refine gate_callee (f := 54) rfl ?_);refine goesL_ (some 32) rfl rfl Try.func54 (by kernel_rfl) rfl #[.slice A0_0 l0_0.length c0_0, .int .i64 0, .int .i64 (wrap64 (1000 * a0_1))] rfl (by (try simp only [List.map_toArray,List.map_cons,List.map_nil]);first | done | rfl | (simp only [List.length_drop,List.length_take];rfl)) ?_;(with_reducible refine (impl_areIn.calls _ _ l0_0 0 (wrap64 (1000 * a0_1)) false _ ?side1 ?side2 A13.out).mono ?_);(case side1 => repeat (first | exact (Kd.C_below HR0_0.out HB.out) | (with_reducible refine Kd.C_alloc ?_ _) | (with_reducible refine Kd.C_drewN ?_ _) | (with_reducible refine Kd.C_drew ?_)));(case side2 => exact HC0_0.out);rintro e w29 ⟨rfl,hb⟩;refine ⟨_,rfl,?_⟩;have n0_ := Aside0.mk (blk_below (g := gb142) (o := .cells #[.slice A0_0 l0_0.length c0_0, .int .i64 a0_1] 29 (0,0)) (by (with_reducible repeat (first | refine blk_drewN ?_ _ | refine blk_drew ?_ | refine blk_alloc ?_ _));exact BK142.out) hb);have n1_ := Aside0.mk (below_step (by repeat (first | (with_reducible first | exact HB.out | apply below_alloc | apply pw_below_drewN | apply below_drew1 | refine below_set ?_ GE142.out) | exact HB.out)) hb);clear BK142;clear HB;have BK142 := n0_;have HB := n1_;clear n0_ n1_;(try clear hb);(try clear hb2);(try clear hk);(try clear hi)))
     go_ret
     exact ⟨by first | rfl | (simp [errW_none,errW_some] <;> rfl) | (simp [*,errW_none,errW_some] <;> rfl),by repeat (first | (with_reducible first | exact HB.out | apply below_alloc | apply pw_below_drewN | apply below_drew1 | refine below_set ?_ GE142.out) | exact HB.out)⟩

/-! ### laws_eqIntS: function 36 -/
def laws_eqIntS.l0 : Nat → List Int → List Int → Int → Option (Bool)
 | 0,_,_,_ => none
 | k + 1,x0,x1,x5 => if x5 < (x0.length : Int) then (if 0 ≤ x5 then (if x5 < (x1.length : Int) then (if (rd x0 x5) = (rd x1 x5) then (laws_eqIntS.l0 k x0 x1 (wrap64 (x5 + 1))) else (some false)) else (none)) else (none)) else (some true)
def laws_eqIntS.f (k : Nat) (l0 : List Int) (l1 : List Int) : Option (Bool) := if (l0.length : Int) = (l1.length : Int) then (laws_eqIntS.l0 k l0 l1 0) else (some false)
theorem laws_eqIntS.mono_l : ∀ k,(∀ y0 y1 y2,LeO (laws_eqIntS.l0 k y0 y1 y2) (laws_eqIntS.l0 (k + 1) y0 y1 y2))
 | 0 => fun _ _ _ r h => by simp [laws_eqIntS.l0] at h
 | k + 1 => by
  have ih0 := laws_eqIntS.mono_l k
  ·intro y0 y1 y2
   unfold laws_eqIntS.l0
   repeat' first
   | (with_reducible exact ih0 _ _ _)
   | (with_reducible exact LeO.refl _)
   | (with_reducible exact LeO.none _)
   | (with_reducible refine LeO.ite ?_ ?_)
   | (with_reducible refine LeO.bind ?_ (fun _ => ?_))
   | exact ih0 _ _ _
   | exact LeO.none _
   | refine LeO.ite ?_ ?_
   | refine LeO.bind ?_ (fun _ => ?_)
theorem laws_eqIntS.mono : ∀ a0 a1 k,LeO (laws_eqIntS.f k a0 a1) (laws_eqIntS.f (k + 1) a0 a1) := by
 intro a0 a1 k
 have ih0 := laws_eqIntS.mono_l k
 unfold laws_eqIntS.f
 repeat' first
   | (with_reducible exact ih0 _ _ _)
   | (with_reducible exact LeO.refl _)
   | (with_reducible exact LeO.none _)
   | (with_reducible refine LeO.ite ?_ ?_)
   | (with_reducible refine LeO.bind ?_ (fun _ => ?_))
   | exact ih0 _ _ _
   | exact LeO.none _
   | refine LeO.ite ?_ ?_
   | refine LeO.bind ?_ (fun _ => ?_)
set_option maxHeartbeats 8000000 in
set_option maxRecDepth 100000 in
theorem laws_eqIntS.calls (k : Nat) (A0 : Option Addr) (c0 : Nat) (l0 : List Int) (A1 : Option Addr) (c1 : Nat) (l1 : List Int) (r : Bool) (w : World) (hr0 : Kd.C (Kd.int .i64) w A0 l0.length l0) (hc0 : l0.length ≤ c0) (hr1 : Kd.C (Kd.int .i64) w A1 l1.length l1) (hc1 : l1.length ≤ c1) (h : laws_eqIntS.f k l0 l1 = some r) :
  Calls Try.prog 36 #[.slice A0 l0.length c0, .slice A1 l1.length c1] w fun e w' => e = .returned (.bool r) ∧ Drawn0 w w' := by
 have HR0 := Aside0.mk hr0
 have HC0 := Aside0.mk hc0
 clear hr0 hc0
 have HR1 := Aside0.mk hr1
 have HC1 := Aside0.mk hc1
 clear hr1 hc1
 have H : (if (l0.length : Int) = (l1.length : Int) then (laws_eqIntS.l0 k l0 l1 0) else (some false)) = some r := h
 clear h
 by_cases c3 : (l0.length : Int) = (l1.length : Int)
 ·rw [if_pos c3] at H
  have c3b0 : ((l0.length : Int) == (l1.length : Int)) = true := beq_iff_eq.mpr c3
  have c3b1 : ((l0.length : Int) != (l1.length : Int)) = false := bne_eq_false_iff_eq.mpr c3
  have c3b2 : (l0.length == l1.length) = true := by first | simpa using c3 | (simp at c3 ⊢;omega)
  clear c3
  have H' := Aside0.mk H
  clear H
  go_enter Try.func36,Try.ntmps36
  go_wp2
  repeat (go_quiet (fail);try go_wp2)
  go_loopg [5] k (fun kq v5 w' => ∃ (x5_1 : Int),v5 = .int .i64 x5_1 ∧ Aside0 (laws_eqIntS.l0 kq l0 l1 x5_1 = some r) ∧ Aside0 (kq ≤ k) ∧ Drawn0 w w')
  case atStart => exact ⟨(0),(by first | rfl | (simp;done) | (simp [*];done)),H',⟨Nat.le_refl _⟩,by repeat (first | exact Drawn0.refl _ | apply Drawn0.step)⟩
  case round =>
   clear H'
   try clear c1
   try clear p2
   try clear c3
   try clear c3b0
   try clear c3b1
   try clear c3b2
   obtain ⟨x5_1,rfl,HA,HK1,⟨m1,rfl⟩⟩ := hrel
   cases gk with
   | zero => exact absurd HA.out (by simp [laws_eqIntS.l0])
   | succ k1 =>
    have H := HA.out
    clear HA
    simp only [laws_eqIntS.l0] at H
    by_cases c4 : x5_1 < (l0.length : Int)
    ·rw [if_pos c4] at H
     have c4b0 : decide (x5_1 < (l0.length : Int)) = true := decide_eq_true c4
     clear c4
     by_cases c5 : 0 ≤ x5_1
     ·rw [if_pos c5] at H
      have c5b0 : decide (0 ≤ x5_1) = true := decide_eq_true c5
      clear c5
      by_cases c6 : x5_1 < (l1.length : Int)
      ·rw [if_pos c6] at H
       have c6b0 : decide (x5_1 < (l1.length : Int)) = true := decide_eq_true c6
       clear c6
       by_cases c7 : (rd l0 x5_1) = (rd l1 x5_1)
       ·rw [if_pos c7] at H
        have c7b0 : ((rd l0 x5_1) == (rd l1 x5_1)) = true := beq_iff_eq.mpr c7
        have c7b1 : ((rd l0 x5_1) != (rd l1 x5_1)) = false := bne_eq_false_iff_eq.mpr c7
        clear c7
        have H' := Aside0.mk H
        clear H
        have p157 : 0 ≤ (x5_1 : Int) := of_decide_eq_true (by first | (with_reducible assumption) | assumption)
        have q157 : x5_1 < (l0.length : Int) := of_decide_eq_true (by first | (with_reducible assumption) | assumption)
        obtain ⟨ad157,e157,hx157_0⟩ := Kd.at_int HR0.out x5_1 p157 q157
        cases e157
        replace p157 := eq_true p157
        replace q157 := eq_true q157
        have p158 : 0 ≤ (x5_1 : Int) := of_decide_eq_true (by first | (with_reducible assumption) | assumption)
        have q158 : x5_1 < (l1.length : Int) := of_decide_eq_true (by first | (with_reducible assumption) | assumption)
        obtain ⟨ad158,e158,hx158_0⟩ := Kd.at_int HR1.out x5_1 p158 q158
        cases e158
        replace p158 := eq_true p158
        replace q158 := eq_true q158
        go_wp2
        repeat (go_quiet (fail);try go_wp2)
        go_roundg k1
        case measure => have := HK1.out;omega
        case rel => exact ⟨(wrap64 (x5_1 + 1)),(by first | rfl | (simp;done) | (simp [*];done)),H',⟨by have := HK1.out;omega⟩,by repeat (first | exact Drawn0.refl _ | apply Drawn0.step)⟩
       ·rw [if_neg c7] at H
        have c7b0 : ((rd l0 x5_1) == (rd l1 x5_1)) = false := beq_eq_false_iff_ne.mpr c7
        have c7b1 : ((rd l0 x5_1) != (rd l1 x5_1)) = true := bne_iff_ne.mpr c7
        obtain rfl := Option.some.inj H
        have p157 : 0 ≤ (x5_1 : Int) := of_decide_eq_true (by first | (with_reducible assumption) | assumption)
        have q157 : x5_1 < (l0.length : Int) := of_decide_eq_true (by first | (with_reducible assumption) | assumption)
        obtain ⟨ad157,e157,hx157_0⟩ := Kd.at_int HR0.out x5_1 p157 q157
        cases e157
        replace p157 := eq_true p157
        replace q157 := eq_true q157
        have p158 : 0 ≤ (x5_1 : Int) := of_decide_eq_true (by first | (with_reducible assumption) | assumption)
        have q158 : x5_1 < (l1.length : Int) := of_decide_eq_true (by first | (with_reducible assumption) | assumption)
        obtain ⟨ad158,e158,hx158_0⟩ := Kd.at_int HR1.out x5_1 p158 q158
        cases e158
        replace p158 := eq_true p158
        replace q158 := eq_true q158
        go_wp2
        repeat (go_quiet (fail);try go_wp2)
        go_ret
        exact ⟨by first | rfl | (simp;done) | (simp [*];done),by repeat (first | exact Drawn0.refl _ | apply Drawn0.step)⟩
      ·rw [if_neg c6] at H
       exact absurd H (by simp)
     ·rw [if_neg c5] at H
      exact absurd H (by simp)
    ·rw [if_neg c4] at H
     have c4b0 : decide (x5_1 < (l0.length : Int)) = false := decide_eq_false c4
     clear c4
     obtain rfl := Option.some.inj H
     go_wp2
     repeat (go_quiet (fail);try go_wp2)
     go_ret
     exact ⟨by first | rfl | (simp;done) | (simp [*];done),by repeat (first | exact Drawn0.refl _ | apply Drawn0.step)⟩
 ·rw [if_neg c3] at H
  have c3b0 : ((l0.length : Int) == (l1.length : Int)) = false := beq_eq_false_iff_ne.mpr c3
  have c3b1 : ((l0.length : Int) != (l1.length : Int)) = true := bne_iff_ne.mpr c3
  have c3b2 : (l0.length == l1.length) = false := by first | simpa using c3 | (simp at c3 ⊢;omega)
  obtain rfl := Option.some.inj H
  go_enter Try.func36,Try.ntmps36
  go_wp2
  repeat (go_quiet (fail);try go_wp2)
  go_ret
  exact ⟨by first | rfl | (simp;done) | (simp [*];done),by repeat (first | exact Drawn0.refl _ | apply Drawn0.step)⟩

end Go.Proofs.Ytmkpngmdikbbeaa.P
