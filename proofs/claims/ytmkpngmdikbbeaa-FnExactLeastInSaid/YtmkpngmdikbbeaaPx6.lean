/- Written by a program of this workplace (own_print.py, over the kit's print) for the functions that the statements reach, with contracts of its own. Lean checks it. -/
import Derived.Test.YtmkpngmdikbbeaaPx0
import Derived.Test.YtmkpngmdikbbeaaPx1
import Derived.Test.YtmkpngmdikbbeaaPx5
namespace Go.Proofs.Ytmkpngmdikbbeaa.P
open Go.RowKit Go.Proofs.YtmkpngmdikbbeaaW.PrintWords Go.Proofs.YtmkpngmdikbbeaaW.PrintLast Go.Proofs.YtmkpngmdikbbeaaW.PrintMore
attribute [local go_sem] max2_int min2_int max_two min_two max_three min_three max_four min_four   -- for this text's walks alone
set_option linter.unusedVariables false
set_option linter.unusedSimpArgs false

/-! ### spec_cuTwo: function 57 -/
def spec_cuTwo.f (l0_0 : List Int) (a0_1 : Int) (a1 : Int) (a2 : Int) : Option (Bool) := (spec_l1In.f a1 0 (wrap64 ((l0_0.length : Int) - 1))).bind fun t200 => (if t200 = true then ((spec_l1In.f a2 0 (wrap64 ((l0_0.length : Int) - 1))).bind fun t201 => (if t201 = true then (some (a1 != a2)) else (some false))) else (some false))
set_option maxHeartbeats 8000000 in
set_option maxRecDepth 100000 in
theorem spec_cuTwo.calls (A0_0 : Option Addr) (c0_0 : Nat) (l0_0 : List Int) (a0_1 : Int) (a1 : Int) (a2 : Int) (r : Bool) (w : World) (hr0_0 : Kd.C (Kd.int .i64) w A0_0 l0_0.length l0_0) (hc0_0 : l0_0.length ≤ c0_0) (h : spec_cuTwo.f l0_0 a0_1 a1 a2 = some r) :
  Calls Try.prog 57 #[.agg #[.slice A0_0 l0_0.length c0_0, .int .i64 a0_1], .int .i64 a1, .int .i64 a2] w fun e w' => e = .returned (.bool r) ∧ Below w.heap.size w w' := by
 have hu29 := Try.underlying29
 have HR0_0 := Aside0.mk hr0_0
 have HC0_0 := Aside0.mk hc0_0
 clear hr0_0 hc0_0
 have HB := Aside0.mk (Below.refl w.heap.size w)
 have H : ((spec_l1In.f a1 0 (wrap64 ((l0_0.length : Int) - 1))).bind fun t200 => (if t200 = true then ((spec_l1In.f a2 0 (wrap64 ((l0_0.length : Int) - 1))).bind fun t201 => (if t201 = true then (some (a1 != a2)) else (some false))) else (some false))) = some r := h
 clear h
 replace H := Option.bind_eq_some_iff.mp H
 obtain ⟨t200,A40,H⟩ := H
 replace H : (if t200 = true then ((spec_l1In.f a2 0 (wrap64 ((l0_0.length : Int) - 1))).bind fun t201 => (if t201 = true then (some (a1 != a2)) else (some false))) else (some false)) = some r := H
 have A4 := Aside0.mk A40
 clear A40
 by_cases c5 : t200 = true
 ·subst c5
  have H1 : ((spec_l1In.f a2 0 (wrap64 ((l0_0.length : Int) - 1))).bind fun t201 => (if t201 = true then (some (a1 != a2)) else (some false))) = some r := by rw [if_pos rfl] at H;exact H
  clear H
  have H := H1
  clear H1
  replace H := Option.bind_eq_some_iff.mp H
  obtain ⟨t201,A60,H⟩ := H
  replace H : (if t201 = true then (some (a1 != a2)) else (some false)) = some r := H
  have A6 := Aside0.mk A60
  clear A60
  by_cases c7 : t201 = true
  ·subst c7
   have H1 : (some (a1 != a2)) = some r := by rw [if_pos rfl] at H;exact H
   clear H
   have H := H1
   clear H1
   obtain rfl := Option.some.inj H
   go_enter Try.func57,Try.ntmps57
   go_wp2_with (first | ((with_reducible refine gate_dst (N := 3) rfl ?_);(try (refine gate_guard (by rfl) ?_;dsimp only));refine box_event ?hg (N := 3) ?hd (cs := #[.slice A0_0 l0_0.length c0_0, .int .i64 a0_1]) (t := 29) ?hr ?_;(case hd => rfl);(case hg => rfl);(case hr => first | (go_simp;done) | (go_simp;rfl));intro gb199 hg w8 hbox hb;have n0_ := Aside0.mk (below_step (by repeat (first | (with_reducible first | exact HB.out | apply below_alloc | apply pw_below_drewN | apply below_drew1) | exact HB.out)) hb);have n1_ := Aside0.mk (hbox);have n2_ := Aside0.mk ((by rw [hg];exact (below_size (by repeat (first | (with_reducible first | exact HB.out | apply below_alloc | apply pw_below_drewN | apply below_drew1) | exact HB.out))) : w.heap.size ≤ gb199));have n3_ := Aside0.mk ((by rw [hg];exact (below_size (by repeat (first | (with_reducible first | exact HB.out | apply below_alloc | apply pw_below_drewN | apply below_drew1) | exact HB.out))) : w.heap.size ≤ gb199));clear HB;have HB := n0_;have BK199 := n1_;have GW199 := n2_;have GE199 := n3_;clear n0_ n1_ n2_ n3_;clear hb hbox hg;have hcz9_0 : w8.cell? ⟨gb199,0,none⟩ = some (.slice A0_0 l0_0.length c0_0) := (blk_cell BK199.out 0).trans rfl;have hcz9_1 : w8.cell? ⟨gb199,1,none⟩ = some (.int .i64 a0_1) := (blk_cell BK199.out 1).trans rfl;have hfz9_0 := blk_frozen BK199.out 0;have hfz9_1 := blk_frozen BK199.out 1) | ((with_reducible refine gate_callee (f := 48) rfl ?_);refine goesL_ (some 12) rfl rfl Try.func48 (by kernel_rfl) rfl #[.int .i64 a1, .int .i64 0, .int .i64 (wrap64 ((l0_0.length : Int) - 1))] rfl (by (try simp only [List.map_toArray,List.map_cons,List.map_nil]);first | done | rfl | (simp only [List.length_drop,List.length_take];rfl)) ?_;(with_reducible refine (spec_l1In.calls a1 0 (wrap64 ((l0_0.length : Int) - 1)) true _ A4.out).mono ?_);rintro e w' ⟨rfl,⟨nd,rfl⟩⟩;refine ⟨_,rfl,?_⟩) | (go_at_call 48;(with_reducible refine (spec_l1In.calls a2 0 (wrap64 ((l0_0.length : Int) - 1)) true _ A6.out).mono ?_);rintro e w' ⟨rfl,⟨nd,rfl⟩⟩))
   go_ret
   exact ⟨by first | rfl | (simp [errW_none,errW_some] <;> rfl) | (simp [*,errW_none,errW_some] <;> rfl),by repeat (first | (with_reducible first | exact HB.out | apply below_alloc | apply pw_below_drewN | apply below_drew1 | refine below_set ?_ GE199.out) | exact HB.out)⟩
  ·replace c7 := Bool.eq_false_iff.mpr c7
   subst c7
   have H1 : (some false) = some r := by rw [if_neg (show ¬ (false = true) by decide)] at H;exact H
   clear H
   have H := H1
   clear H1
   obtain rfl := Option.some.inj H
   go_enter Try.func57,Try.ntmps57
   go_wp2_with (first | ((with_reducible refine gate_dst (N := 3) rfl ?_);(try (refine gate_guard (by rfl) ?_;dsimp only));refine box_event ?hg (N := 3) ?hd (cs := #[.slice A0_0 l0_0.length c0_0, .int .i64 a0_1]) (t := 29) ?hr ?_;(case hd => rfl);(case hg => rfl);(case hr => first | (go_simp;done) | (go_simp;rfl));intro gb199 hg w10 hbox hb;have n0_ := Aside0.mk (below_step (by repeat (first | (with_reducible first | exact HB.out | apply below_alloc | apply pw_below_drewN | apply below_drew1) | exact HB.out)) hb);have n1_ := Aside0.mk (hbox);have n2_ := Aside0.mk ((by rw [hg];exact (below_size (by repeat (first | (with_reducible first | exact HB.out | apply below_alloc | apply pw_below_drewN | apply below_drew1) | exact HB.out))) : w.heap.size ≤ gb199));have n3_ := Aside0.mk ((by rw [hg];exact (below_size (by repeat (first | (with_reducible first | exact HB.out | apply below_alloc | apply pw_below_drewN | apply below_drew1) | exact HB.out))) : w.heap.size ≤ gb199));clear HB;have HB := n0_;have BK199 := n1_;have GW199 := n2_;have GE199 := n3_;clear n0_ n1_ n2_ n3_;clear hb hbox hg;have hcz11_0 : w10.cell? ⟨gb199,0,none⟩ = some (.slice A0_0 l0_0.length c0_0) := (blk_cell BK199.out 0).trans rfl;have hcz11_1 : w10.cell? ⟨gb199,1,none⟩ = some (.int .i64 a0_1) := (blk_cell BK199.out 1).trans rfl;have hfz11_0 := blk_frozen BK199.out 0;have hfz11_1 := blk_frozen BK199.out 1) | ((with_reducible refine gate_callee (f := 48) rfl ?_);refine goesL_ (some 12) rfl rfl Try.func48 (by kernel_rfl) rfl #[.int .i64 a1, .int .i64 0, .int .i64 (wrap64 ((l0_0.length : Int) - 1))] rfl (by (try simp only [List.map_toArray,List.map_cons,List.map_nil]);first | done | rfl | (simp only [List.length_drop,List.length_take];rfl)) ?_;(with_reducible refine (spec_l1In.calls a1 0 (wrap64 ((l0_0.length : Int) - 1)) true _ A4.out).mono ?_);rintro e w' ⟨rfl,⟨nd,rfl⟩⟩;refine ⟨_,rfl,?_⟩) | (go_at_call 48;(with_reducible refine (spec_l1In.calls a2 0 (wrap64 ((l0_0.length : Int) - 1)) false _ A6.out).mono ?_);rintro e w' ⟨rfl,⟨nd,rfl⟩⟩))
   go_ret
   exact ⟨by first | rfl | (simp [errW_none,errW_some] <;> rfl) | (simp [*,errW_none,errW_some] <;> rfl),by repeat (first | (with_reducible first | exact HB.out | apply below_alloc | apply pw_below_drewN | apply below_drew1 | refine below_set ?_ GE199.out) | exact HB.out)⟩
 ·replace c5 := Bool.eq_false_iff.mpr c5
  subst c5
  have H1 : (some false) = some r := by rw [if_neg (show ¬ (false = true) by decide)] at H;exact H
  clear H
  have H := H1
  clear H1
  obtain rfl := Option.some.inj H
  go_enter Try.func57,Try.ntmps57
  go_wp2_with (first | ((with_reducible refine gate_dst (N := 3) rfl ?_);(try (refine gate_guard (by rfl) ?_;dsimp only));refine box_event ?hg (N := 3) ?hd (cs := #[.slice A0_0 l0_0.length c0_0, .int .i64 a0_1]) (t := 29) ?hr ?_;(case hd => rfl);(case hg => rfl);(case hr => first | (go_simp;done) | (go_simp;rfl));intro gb199 hg w12 hbox hb;have n0_ := Aside0.mk (below_step (by repeat (first | (with_reducible first | exact HB.out | apply below_alloc | apply pw_below_drewN | apply below_drew1) | exact HB.out)) hb);have n1_ := Aside0.mk (hbox);have n2_ := Aside0.mk ((by rw [hg];exact (below_size (by repeat (first | (with_reducible first | exact HB.out | apply below_alloc | apply pw_below_drewN | apply below_drew1) | exact HB.out))) : w.heap.size ≤ gb199));have n3_ := Aside0.mk ((by rw [hg];exact (below_size (by repeat (first | (with_reducible first | exact HB.out | apply below_alloc | apply pw_below_drewN | apply below_drew1) | exact HB.out))) : w.heap.size ≤ gb199));clear HB;have HB := n0_;have BK199 := n1_;have GW199 := n2_;have GE199 := n3_;clear n0_ n1_ n2_ n3_;clear hb hbox hg;have hcz13_0 : w12.cell? ⟨gb199,0,none⟩ = some (.slice A0_0 l0_0.length c0_0) := (blk_cell BK199.out 0).trans rfl;have hcz13_1 : w12.cell? ⟨gb199,1,none⟩ = some (.int .i64 a0_1) := (blk_cell BK199.out 1).trans rfl;have hfz13_0 := blk_frozen BK199.out 0;have hfz13_1 := blk_frozen BK199.out 1) | ((with_reducible refine gate_callee (f := 48) rfl ?_);refine goesL_ (some 12) rfl rfl Try.func48 (by kernel_rfl) rfl #[.int .i64 a1, .int .i64 0, .int .i64 (wrap64 ((l0_0.length : Int) - 1))] rfl (by (try simp only [List.map_toArray,List.map_cons,List.map_nil]);first | done | rfl | (simp only [List.length_drop,List.length_take];rfl)) ?_;(with_reducible refine (spec_l1In.calls a1 0 (wrap64 ((l0_0.length : Int) - 1)) false _ A4.out).mono ?_);rintro e w' ⟨rfl,⟨nd,rfl⟩⟩;refine ⟨_,rfl,?_⟩))
  go_ret
  exact ⟨by first | rfl | (simp [errW_none,errW_some] <;> rfl) | (simp [*,errW_none,errW_some] <;> rfl),by repeat (first | (with_reducible first | exact HB.out | apply below_alloc | apply pw_below_drewN | apply below_drew1 | refine below_set ?_ GE199.out) | exact HB.out)⟩

/-! ### spec_cuMix: function 58 -/
def spec_cuMix.l0 : Nat → Int → Int → Int → List Int → Int → Int → List Int → Int → Option (List Int × Int × Bool)
 | 0,_,_,_,_,_,_,_,_ => none
 | k + 1,x1,x2,x8,x28,x29,x30,x207000,x207001 => if x30 < x29 then (if 0 ≤ x30 then (if x30 < (x28.length : Int) then (if x30 = x1 then (if x207000.length < 17592186044416 then (spec_cuMix.l0 k x1 x2 x8 x28 x29 (wrap64 (x30 + 1)) (x207000 ++ [x8]) x207001) else (none)) else (if x30 = x2 then (if x207000.length < 17592186044416 then (spec_cuMix.l0 k x1 x2 x8 x28 x29 (wrap64 (x30 + 1)) (x207000 ++ [x8]) x207001) else (none)) else (if x207000.length < 17592186044416 then (spec_cuMix.l0 k x1 x2 x8 x28 x29 (wrap64 (x30 + 1)) (x207000 ++ [wrap64 (2 * (rd x28 x30))]) x207001) else (none)))) else (none)) else (none)) else ((spec_cuLow.f k x207000 x207001).bind fun bt217 => ((spec_cuUnit.f bt217.2).bind fun t221 => (some (bt217.1,bt217.2,t221))))
def spec_cuMix.f (k : Nat) (l0_0 : List Int) (a0_1 : Int) (a1 : Int) (a2 : Int) : Option (List Int × Int × Bool) := if 0 ≤ a1 then (if a1 < (l0_0.length : Int) then (if 0 ≤ a2 then (if a2 < (l0_0.length : Int) then (spec_cuMix.l0 k a1 a2 (wrap64 ((rd l0_0 a1) + (rd l0_0 a2))) l0_0 (l0_0.length : Int) 0 ([] : List Int) (wrap64 (2 * a0_1))) else (none)) else (none)) else (none)) else (none)
theorem spec_cuMix.mono_l : ∀ k,(∀ y0 y1 y2 y3 y4 y5 y6 y7,LeO (spec_cuMix.l0 k y0 y1 y2 y3 y4 y5 y6 y7) (spec_cuMix.l0 (k + 1) y0 y1 y2 y3 y4 y5 y6 y7))
 | 0 => fun _ _ _ _ _ _ _ _ r h => by simp [spec_cuMix.l0] at h
 | k + 1 => by
  have ih0 := spec_cuMix.mono_l k
  ·intro y0 y1 y2 y3 y4 y5 y6 y7
   unfold spec_cuMix.l0
   repeat' first
   | (with_reducible exact ih0 _ _ _ _ _ _ _ _)
   | (with_reducible exact spec_cuLow.mono _ _ _)
   | (with_reducible exact LeO.refl _)
   | (with_reducible exact LeO.none _)
   | (with_reducible refine LeO.ite ?_ ?_)
   | (with_reducible refine LeO.bind ?_ (fun _ => ?_))
   | exact ih0 _ _ _ _ _ _ _ _
   | exact spec_cuLow.mono _ _ _
   | exact LeO.none _
   | refine LeO.ite ?_ ?_
   | refine LeO.bind ?_ (fun _ => ?_)
theorem spec_cuMix.mono : ∀ a0 a1 a2 a3 k,LeO (spec_cuMix.f k a0 a1 a2 a3) (spec_cuMix.f (k + 1) a0 a1 a2 a3) := by
 intro a0 a1 a2 a3 k
 have ih0 := spec_cuMix.mono_l k
 unfold spec_cuMix.f
 repeat' first
   | (with_reducible exact ih0 _ _ _ _ _ _ _ _)
   | (with_reducible exact spec_cuLow.mono _ _ _)
   | (with_reducible exact LeO.refl _)
   | (with_reducible exact LeO.none _)
   | (with_reducible refine LeO.ite ?_ ?_)
   | (with_reducible refine LeO.bind ?_ (fun _ => ?_))
   | exact ih0 _ _ _ _ _ _ _ _
   | exact spec_cuLow.mono _ _ _
   | exact LeO.none _
   | refine LeO.ite ?_ ?_
   | refine LeO.bind ?_ (fun _ => ?_)
def spec_cuMix.T1 : Bool × List (List Nat × List Nat) := (true,[([],[]),([0],[0]),([],[]),([1,2],[1,2]),([3],[3]),([],[]),([5],[5]),([],[]),([6,7],[6,7]),([8],[8]),([4,9],[4,9]),([10,0,1,2,3,4,5,6,7,8,9,10],[10])])
def spec_cuMix.B1 : List Nat := [0,1,0,7,15,0,32,0,224,480,1023,2047]
theorem spec_cuMix.tab1 : rtab .any (opsOf Try.f58 1) = spec_cuMix.T1 := by kernel_rfl
theorem spec_cuMix.bits1 : waitsOk spec_cuMix.T1.2 spec_cuMix.B1 = true := by kernel_rfl
set_option maxHeartbeats 8000000 in
set_option maxRecDepth 100000 in
theorem spec_cuMix.calls (k : Nat) (A0_0 : Option Addr) (c0_0 : Nat) (l0_0 : List Int) (a0_1 : Int) (a1 : Int) (a2 : Int) (r1 : List Int) (r2 : Int) (r3 : Bool) (w : World) (hr0_0 : Kd.C (Kd.int .i64) w A0_0 l0_0.length l0_0) (hc0_0 : l0_0.length ≤ c0_0) (h : spec_cuMix.f k l0_0 a0_1 a1 a2 = some (r1,r2,r3)) :
  Calls Try.prog 58 #[.agg #[.slice A0_0 l0_0.length c0_0, .int .i64 a0_1], .int .i64 a1, .int .i64 a2] w fun e w' => ∃ v0_ : Value,e = .returned (.tuple #[.agg #[v0_, .int .i64 r2], .bool r3]) ∧ Kd.R (Kd.int .i64) 3 w' w.heap.size (fun _ => True) v0_ r1 ∧ Below w.heap.size w w' := by
 have hu29 := Try.underlying29
 have HR0_0 := Aside0.mk hr0_0
 have HC0_0 := Aside0.mk hc0_0
 clear hr0_0 hc0_0
 have HB := Aside0.mk (Below.refl w.heap.size w)
 have H : (if 0 ≤ a1 then (if a1 < (l0_0.length : Int) then (if 0 ≤ a2 then (if a2 < (l0_0.length : Int) then (spec_cuMix.l0 k a1 a2 (wrap64 ((rd l0_0 a1) + (rd l0_0 a2))) l0_0 (l0_0.length : Int) 0 ([] : List Int) (wrap64 (2 * a0_1))) else (none)) else (none)) else (none)) else (none)) = some (r1,r2,r3) := h
 clear h
 by_cases c4 : 0 ≤ a1
 ·rw [if_pos c4] at H
  have c4b0 : decide (0 ≤ a1) = true := decide_eq_true c4
  clear c4
  by_cases c5 : a1 < (l0_0.length : Int)
  ·rw [if_pos c5] at H
   have c5b0 : decide (a1 < (l0_0.length : Int)) = true := decide_eq_true c5
   clear c5
   by_cases c6 : 0 ≤ a2
   ·rw [if_pos c6] at H
    have c6b0 : decide (0 ≤ a2) = true := decide_eq_true c6
    clear c6
    by_cases c7 : a2 < (l0_0.length : Int)
    ·rw [if_pos c7] at H
     have c7b0 : decide (a2 < (l0_0.length : Int)) = true := decide_eq_true c7
     clear c7
     have H' := Aside0.mk H
     clear H
     go_enter Try.func58,Try.ntmps58
     try go_wp2_with (first | ((with_reducible refine gate_dst (N := 3) rfl ?_);refine box_event ?hg (N := 3) ?hd (cs := #[.slice A0_0 l0_0.length c0_0, .int .i64 a0_1]) (t := 29) ?hr ?_;(case hd => rfl);(case hg => rfl);(case hr => first | (go_simp;done) | (go_simp;rfl));intro gb202 hg w8 hbox hb;have n0_ := Aside0.mk (below_step (by repeat (first | (with_reducible first | exact HB.out | apply below_alloc | apply pw_below_drewN | apply below_drew1) | exact HB.out)) hb);have n1_ := Aside0.mk (hbox);have n2_ := Aside0.mk ((by rw [hg];exact (below_size (by repeat (first | (with_reducible first | exact HB.out | apply below_alloc | apply pw_below_drewN | apply below_drew1) | exact HB.out))) : w.heap.size ≤ gb202));have n3_ := Aside0.mk ((by rw [hg];exact (below_size (by repeat (first | (with_reducible first | exact HB.out | apply below_alloc | apply pw_below_drewN | apply below_drew1) | exact HB.out))) : w.heap.size ≤ gb202));clear HB;have HB := n0_;have BK202 := n1_;have GW202 := n2_;have GE202 := n3_;clear n0_ n1_ n2_ n3_;clear hb hbox hg) | ((with_reducible refine gate_dst (N := 6) rfl ?_);refine box_event ?hg (N := 6) ?hd (cs := #[.slice none 0 0, .int .i64 0]) (t := 29) ?hr ?_;(case hd => rfl);(case hg => rfl);(case hr => first | (go_simp;done) | (go_simp;rfl));intro gb203 hg w9 hbox hb;have n0_ := Aside0.mk (blk_below (g := gb202) (o := .cells #[.slice A0_0 l0_0.length c0_0, .int .i64 a0_1] 29 (0,0)) (by (with_reducible repeat (first | refine blk_drewN ?_ _ | refine blk_drew ?_ | refine blk_alloc ?_ _));exact BK202.out) hb);have n1_ := Aside0.mk (below_step (by repeat (first | (with_reducible first | exact HB.out | apply below_alloc | apply pw_below_drewN | apply below_drew1 | refine below_set ?_ GE202.out) | exact HB.out)) hb);have n2_ := Aside0.mk (hbox);have n3_ := Aside0.mk ((by rw [hg];exact (below_size (by repeat (first | (with_reducible first | exact HB.out | apply below_alloc | apply pw_below_drewN | apply below_drew1 | refine below_set ?_ GE202.out) | exact HB.out))) : w.heap.size ≤ gb203));have n4_ := Aside0.mk ((by rw [hg];exact (below_size (by repeat (first | (with_reducible first | exact HB.out | apply below_alloc | apply pw_below_drewN | apply below_drew1 | refine below_set ?_ GE202.out) | exact HB.out))) : w.heap.size ≤ gb203));have n5_ := Aside0.mk ((by rw [hg];exact Nat.ne_of_lt (blk_lt (g := gb202) (o := .cells #[.slice A0_0 l0_0.length c0_0, .int .i64 a0_1] 29 (0,0)) (by (with_reducible repeat (first | refine blk_drewN ?_ _ | refine blk_drew ?_ | refine blk_alloc ?_ _));exact BK202.out)) : gb202 ≠ gb203));have n6_ := Aside0.mk ((by rw [hg];exact Nat.ne_of_gt (blk_lt (g := gb202) (o := .cells #[.slice A0_0 l0_0.length c0_0, .int .i64 a0_1] 29 (0,0)) (by (with_reducible repeat (first | refine blk_drewN ?_ _ | refine blk_drew ?_ | refine blk_alloc ?_ _));exact BK202.out)) : gb203 ≠ gb202));clear BK202;clear HB;have BK202 := n0_;have HB := n1_;have BK203 := n2_;have GW203 := n3_;have GE203 := n4_;have NB202_203 := n5_;have NB203_202 := n6_;clear n0_ n1_ n2_ n3_ n4_ n5_ n6_;clear hb hbox hg))
     have n0_ := Aside0.mk (blk_drew BK202.out)
     have n1_ := Aside0.mk (blk_drew BK203.out)
     have n2_ := Aside0.mk (below_drew1 HB.out)
     clear BK202
     clear BK203
     clear HB
     have BK202 := n0_
     have BK203 := n1_
     have HB := n2_
     clear n0_ n1_ n2_
     have p204 : 0 ≤ (a1 : Int) := of_decide_eq_true (by first | (with_reducible assumption) | assumption)
     have q204 : a1 < (l0_0.length : Int) := of_decide_eq_true (by first | (with_reducible assumption) | assumption)
     obtain ⟨ad204,e204,hx204_0⟩ := Kd.at_int HR0_0.out a1 p204 q204
     have hw204_0 := hx204_0
     cases e204
     replace hx204_0 := (HB.out.cell (World.block_lt_of_cell? w _ hx204_0)).trans hx204_0
     replace p204 := eq_true p204
     replace q204 := eq_true q204
     have p205 : 0 ≤ (a2 : Int) := of_decide_eq_true (by first | (with_reducible assumption) | assumption)
     have q205 : a2 < (l0_0.length : Int) := of_decide_eq_true (by first | (with_reducible assumption) | assumption)
     obtain ⟨ad205,e205,hx205_0⟩ := Kd.at_int HR0_0.out a2 p205 q205
     have hw205_0 := hx205_0
     obtain rfl : ad204 = ad205 := (by injection e205)
     replace hx205_0 := (HB.out.cell (World.block_lt_of_cell? w _ hx205_0)).trans hx205_0
     replace p205 := eq_true p205
     replace q205 := eq_true q205
     refine start_ (n := 12) (S := fun w' => w'.cell? ⟨gb202,0,none⟩ = some (.slice (some ad204) l0_0.length c0_0) ∧ w'.cell? ⟨gb202,1,none⟩ = some (.int .i64 a0_1) ∧ w'.cell? (ad204.add (a1).toNat) = some (.int .i64 (rd l0_0 a1)) ∧ w'.cell? (ad204.add (a2).toNat) = some (.int .i64 (rd l0_0 a2))) (ds := []) #[false,false,false,false,false,false,false,false,false,false,false,false] (by kernel_rfl) rfl rfl ⟨(blk_cell BK202.out 0).trans rfl,(blk_cell BK202.out 1).trans rfl,((HB.out.cell (World.block_lt_of_cell? w _ hw204_0)).trans hw204_0),((HB.out.cell (World.block_lt_of_cell? w _ hw205_0)).trans hw205_0)⟩ (fun hHeld => ?_);refine with_tabW spec_cuMix.tab1 spec_cuMix.bits1 (fun HT_ HW_ => ?_)
     generalize w9.drew = w10 at BK202 BK203 HB hx204_0 hx205_0 hHeld ⊢
     refine pure_ (i := 0) (N := some 12) (v := ?_) (a' := ?_) #[true,false,false,false,false,false,false,false,false,false,false,false] rfl rfl (any_of HT_.out (by kernel_rfl)) (fun _ _ _ h => h) (Or.inl ⟨by rfl,?_⟩) ?_ ?_
     rotate_left
     ·intro w'
      go_simp
      with_reducible rfl
     rotate_left
     ·simp only [Act.put,List.setIfInBounds_toArray,List.set_cons_zero,List.set_cons_succ,i64_w,i32_w]
      rfl
     refine pure_ (i := 2) (N := some 14) (v := ?_) (a' := ?_) #[true,false,true,false,false,false,false,false,false,false,false,false] rfl rfl (any_of HT_.out (by kernel_rfl)) (fun _ _ _ h => h) (Or.inl ⟨by rfl,?_⟩) ?_ ?_
     rotate_left
     ·intro w'
      go_simp
      with_reducible rfl
     rotate_left
     ·simp only [Act.put,List.setIfInBounds_toArray,List.set_cons_zero,List.set_cons_succ,i64_w,i32_w]
      rfl
     refine pure_ (i := 5) (N := some 17) (v := ?_) (a' := ?_) #[true,false,true,false,false,true,false,false,false,false,false,false] rfl rfl (any_of HT_.out (by kernel_rfl)) (fun _ _ _ h => h) (Or.inl ⟨by rfl,?_⟩) ?_ ?_
     rotate_left
     ·intro w'
      go_simp
      with_reducible rfl
     rotate_left
     ·simp only [Act.put,List.setIfInBounds_toArray,List.set_cons_zero,List.set_cons_succ,i64_w,i32_w]
      rfl
     refine pure_ (i := 7) (N := some 19) (v := ?_) (a' := ?_) #[true,false,true,false,false,true,false,true,false,false,false,false] rfl rfl (any_of HT_.out (by kernel_rfl)) (fun _ _ _ h => h) (Or.inl ⟨by rfl,?_⟩) ?_ ?_
     rotate_left
     ·intro w'
      go_simp
      with_reducible rfl
     rotate_left
     ·simp only [Act.put,List.setIfInBounds_toArray,List.set_cons_zero,List.set_cons_succ,i64_w,i32_w]
      rfl
     refine take_ (i := 1) (N := some 13) (v := ?_) (a' := ?_) #[true,true,true,false,false,true,false,true,false,false,false,false] rfl rfl (take_ofW HT_.out HW_.out (by kernel_rfl)) (fun _ _ _ h => h) (Or.inl ⟨by rfl,?_⟩) hHeld ?_ ?_
     rotate_left
     ·rintro w' ⟨s0,s1,s2,s3⟩
      go_simp
      with_reducible rfl
     rotate_left
     ·simp only [Act.put,List.setIfInBounds_toArray,List.set_cons_zero,List.set_cons_succ,i64_w,i32_w]
      rfl
     refine pure_ (i := 3) (N := some 15) (v := ?_) (a' := ?_) #[true,true,true,true,false,true,false,true,false,false,false,false] rfl rfl (any_of HT_.out (by kernel_rfl)) (fun _ _ _ h => h) (Or.inl ⟨by rfl,?_⟩) ?_ ?_
     rotate_left
     ·intro w'
      go_simp
      with_reducible rfl
     rotate_left
     ·simp only [Act.put,List.setIfInBounds_toArray,List.set_cons_zero,List.set_cons_succ,i64_w,i32_w]
      rfl
     refine take_ (i := 4) (N := some 16) (v := ?_) (a' := ?_) #[true,true,true,true,true,true,false,true,false,false,false,false] rfl rfl (take_ofW HT_.out HW_.out (by kernel_rfl)) (fun _ _ _ h => h) (Or.inl ⟨by rfl,?_⟩) hHeld ?_ ?_
     rotate_left
     ·rintro w' ⟨s0,s1,s2,s3⟩
      go_simp
      with_reducible rfl
     rotate_left
     ·simp only [Act.put,List.setIfInBounds_toArray,List.set_cons_zero,List.set_cons_succ,i64_w,i32_w]
      rfl
     refine take_ (i := 6) (N := some 18) (v := ?_) (a' := ?_) #[true,true,true,true,true,true,true,true,false,false,false,false] rfl rfl (take_ofW HT_.out HW_.out (by kernel_rfl)) (fun _ _ _ h => h) (Or.inl ⟨by rfl,?_⟩) hHeld ?_ ?_
     rotate_left
     ·rintro w' ⟨s0,s1,s2,s3⟩
      go_simp
      with_reducible rfl
     rotate_left
     ·simp only [Act.put,List.setIfInBounds_toArray,List.set_cons_zero,List.set_cons_succ,i64_w,i32_w]
      rfl
     refine pure_ (i := 8) (N := some 20) (v := ?_) (a' := ?_) #[true,true,true,true,true,true,true,true,true,false,false,false] rfl rfl (any_of HT_.out (by kernel_rfl)) (fun _ _ _ h => h) (Or.inl ⟨by rfl,?_⟩) ?_ ?_
     rotate_left
     ·intro w'
      go_simp
      with_reducible rfl
     rotate_left
     ·simp only [Act.put,List.setIfInBounds_toArray,List.set_cons_zero,List.set_cons_succ,i64_w,i32_w]
      rfl
     refine take_ (i := 9) (N := some 21) (v := ?_) (a' := ?_) #[true,true,true,true,true,true,true,true,true,true,false,false] rfl rfl (take_ofW HT_.out HW_.out (by kernel_rfl)) (fun _ _ _ h => h) (Or.inl ⟨by rfl,?_⟩) hHeld ?_ ?_
     rotate_left
     ·rintro w' ⟨s0,s1,s2,s3⟩
      go_simp
      with_reducible rfl
     rotate_left
     ·simp only [Act.put,List.setIfInBounds_toArray,List.set_cons_zero,List.set_cons_succ,i64_w,i32_w]
      rfl
     refine pure_ (i := 10) (N := some 22) (v := ?_) (a' := ?_) #[true,true,true,true,true,true,true,true,true,true,true,false] rfl rfl (any_of HT_.out (by kernel_rfl)) (fun _ _ _ h => h) (Or.inl ⟨by rfl,?_⟩) ?_ ?_
     rotate_left
     ·intro w'
      go_simp
      with_reducible rfl
     rotate_left
     ·simp only [Act.put,List.setIfInBounds_toArray,List.set_cons_zero,List.set_cons_succ,i64_w,i32_w]
      rfl
     refine pure_ (i := 11) (N := some 8) (v := ?_) (a' := ?_) #[true,true,true,true,true,true,true,true,true,true,true,true] rfl rfl (any_of HT_.out (by kernel_rfl)) (fun _ _ _ h => h) (Or.inl ⟨by rfl,?_⟩) ?_ ?_
     rotate_left
     ·intro w'
      go_simp
      with_reducible rfl
     rotate_left
     ·simp only [Act.put,List.setIfInBounds_toArray,List.set_cons_zero,List.set_cons_succ,i64_w,i32_w]
      rfl
     refine done_ (done_of HT_.out (by kernel_rfl)) ?_
     have hnb11 := NB202_203.out
     have hnc11 := NB203_202.out
     have hcz12_0 : w10.cell? ⟨gb202,0,none⟩ = some (.slice (some ad204) l0_0.length c0_0) := (blk_cell BK202.out 0).trans rfl
     have hcz12_1 : w10.cell? ⟨gb202,1,none⟩ = some (.int .i64 a0_1) := (blk_cell BK202.out 1).trans rfl
     have hfz12_0 := blk_frozen BK202.out 0
     have hfz12_1 := blk_frozen BK202.out 1
     try go_wp2_with (first | ((with_reducible refine gate_dst (N := 9) rfl ?_);refine box_event ?hg (N := 9) ?hd (cs := #[.slice none 0 0, .int .i64 0]) (t := 29) ?hr ?_;(case hd => rfl);(case hg => rfl);(case hr => first | (go_simp;done) | (go_simp;rfl));intro gb206 hg w13 hbox hb;have n0_ := Aside0.mk (blk_below (g := gb202) (o := .cells #[.slice (some ad204) l0_0.length c0_0, .int .i64 a0_1] 29 (0,0)) (by (with_reducible repeat (first | refine blk_drewN ?_ _ | refine blk_drew ?_ | refine blk_alloc ?_ _));exact BK202.out) hb);have n1_ := Aside0.mk (blk_below (g := gb203) (o := .cells #[.slice none 0 0, .int .i64 0] 29 (0,0)) (by (with_reducible repeat (first | refine blk_drewN ?_ _ | refine blk_drew ?_ | refine blk_alloc ?_ _));exact BK203.out) hb);have n2_ := Aside0.mk (below_step (by repeat (first | (with_reducible first | exact HB.out | apply below_alloc | apply pw_below_drewN | apply below_drew1 | refine below_set ?_ GE202.out | refine below_set ?_ GE203.out) | exact HB.out)) hb);have n3_ := Aside0.mk (hbox);have n4_ := Aside0.mk ((by rw [hg];exact (below_size (by repeat (first | (with_reducible first | exact HB.out | apply below_alloc | apply pw_below_drewN | apply below_drew1 | refine below_set ?_ GE202.out | refine below_set ?_ GE203.out) | exact HB.out))) : w.heap.size ≤ gb206));have n5_ := Aside0.mk ((by rw [hg];exact (below_size (by repeat (first | (with_reducible first | exact HB.out | apply below_alloc | apply pw_below_drewN | apply below_drew1 | refine below_set ?_ GE202.out | refine below_set ?_ GE203.out) | exact HB.out))) : w.heap.size ≤ gb206));have n6_ := Aside0.mk ((by rw [hg];exact Nat.ne_of_lt (blk_lt (g := gb202) (o := .cells #[.slice (some ad204) l0_0.length c0_0, .int .i64 a0_1] 29 (0,0)) (by (with_reducible repeat (first | refine blk_drewN ?_ _ | refine blk_drew ?_ | refine blk_alloc ?_ _));exact BK202.out)) : gb202 ≠ gb206));have n7_ := Aside0.mk ((by rw [hg];exact Nat.ne_of_gt (blk_lt (g := gb202) (o := .cells #[.slice (some ad204) l0_0.length c0_0, .int .i64 a0_1] 29 (0,0)) (by (with_reducible repeat (first | refine blk_drewN ?_ _ | refine blk_drew ?_ | refine blk_alloc ?_ _));exact BK202.out)) : gb206 ≠ gb202));have n8_ := Aside0.mk ((by rw [hg];exact Nat.ne_of_lt (blk_lt (g := gb203) (o := .cells #[.slice none 0 0, .int .i64 0] 29 (0,0)) (by (with_reducible repeat (first | refine blk_drewN ?_ _ | refine blk_drew ?_ | refine blk_alloc ?_ _));exact BK203.out)) : gb203 ≠ gb206));have n9_ := Aside0.mk ((by rw [hg];exact Nat.ne_of_gt (blk_lt (g := gb203) (o := .cells #[.slice none 0 0, .int .i64 0] 29 (0,0)) (by (with_reducible repeat (first | refine blk_drewN ?_ _ | refine blk_drew ?_ | refine blk_alloc ?_ _));exact BK203.out)) : gb206 ≠ gb203));clear BK202;clear BK203;clear HB;have BK202 := n0_;have BK203 := n1_;have HB := n2_;have BK206 := n3_;have GW206 := n4_;have GE206 := n5_;have NB202_206 := n6_;have NB206_202 := n7_;have NB203_206 := n8_;have NB206_203 := n9_;clear n0_ n1_ n2_ n3_ n4_ n5_ n6_ n7_ n8_ n9_;clear hb hbox hg;have hnb14 := NB206_202.out;have hnc14 := NB202_206.out;have hnb15 := NB206_203.out;have hnc15 := NB203_206.out;have hcz16_0 : w13.cell? ⟨gb206,0,none⟩ = some (.slice none 0 0) := (blk_cell BK206.out 0).trans rfl;have hcz16_1 : w13.cell? ⟨gb206,1,none⟩ = some (.int .i64 0) := (blk_cell BK206.out 1).trans rfl;have hfz16_0 := blk_frozen BK206.out 0;have hfz16_1 := blk_frozen BK206.out 1;have hcz17_0 : w13.cell? ⟨gb202,0,none⟩ = some (.slice (some ad204) l0_0.length c0_0) := (blk_cell BK202.out 0).trans rfl;have hcz17_1 : w13.cell? ⟨gb202,1,none⟩ = some (.int .i64 a0_1) := (blk_cell BK202.out 1).trans rfl;have hfz17_0 := blk_frozen BK202.out 0;have hfz17_1 := blk_frozen BK202.out 1))
     go_loopg [30] k (fun kq v30 w' => ∃ (x30_1 : Int) (x207000_1 : List Int) (u207000 : Value),v30 = .int .i64 x30_1 ∧ Aside0 (spec_cuMix.l0 kq a1 a2 (wrap64 ((rd l0_0 a1) + (rd l0_0 a2))) l0_0 (l0_0.length : Int) x30_1 x207000_1 (wrap64 (2 * a0_1)) = some (r1,r2,r3)) ∧ Aside0 (kq ≤ k) ∧ Aside0 (Kd.R (Kd.int .i64) 3 w' w.heap.size (fun _ => True) u207000 x207000_1) ∧ Aside0 (w'.heap[gb202]? = some (.cells #[(.slice (some ad204) l0_0.length c0_0), .int .i64 a0_1] 29 (0,0))) ∧ Aside0 (w'.heap[gb203]? = some (.cells #[(.slice none 0 0), .int .i64 0] 29 (0,0))) ∧ Aside0 (w'.heap[gb206]? = some (.cells #[u207000, .int .i64 (wrap64 (2 * a0_1))] 29 (0,0))) ∧ Aside0 (Below w.heap.size w w'))
     case atStart => exact ⟨(0),(([] : List Int)),(.slice none 0 0),(by first | rfl | (simp;done) | (simp [*];done)),H',⟨Nat.le_refl _⟩,⟨by first | exact Kd.R_nil _ _ _ _ _ | exact Kd.N_nil _ _ _ _ _ | exact Kd.V_nil _ _ _ _ _ | exact Kd.Q_nil _ _ _ _ _ | exact Kd.S_nil _ _ _ _ _⟩,⟨by (with_reducible repeat (first | refine blk_drewN ?_ _ | refine blk_drew ?_ | refine blk_alloc ?_ _));refine blk_far ?_ NB202_206.out _;(with_reducible repeat (first | refine blk_drewN ?_ _ | refine blk_drew ?_ | refine blk_alloc ?_ _));refine blk_far ?_ NB202_206.out _;(with_reducible repeat (first | refine blk_drewN ?_ _ | refine blk_drew ?_ | refine blk_alloc ?_ _));exact BK202.out⟩,⟨by (with_reducible repeat (first | refine blk_drewN ?_ _ | refine blk_drew ?_ | refine blk_alloc ?_ _));refine blk_far ?_ NB203_206.out _;(with_reducible repeat (first | refine blk_drewN ?_ _ | refine blk_drew ?_ | refine blk_alloc ?_ _));refine blk_far ?_ NB203_206.out _;(with_reducible repeat (first | refine blk_drewN ?_ _ | refine blk_drew ?_ | refine blk_alloc ?_ _));exact BK203.out⟩,⟨by (with_reducible repeat (first | refine blk_drewN ?_ _ | refine blk_drew ?_ | refine blk_alloc ?_ _));refine blk_put (cs := #[.slice none 0 0, .int .i64 0]) ?_ 1 _ rfl;(with_reducible repeat (first | refine blk_drewN ?_ _ | refine blk_drew ?_ | refine blk_alloc ?_ _));refine blk_put (cs := #[.slice none 0 0, .int .i64 0]) ?_ 0 _ rfl;(with_reducible repeat (first | refine blk_drewN ?_ _ | refine blk_drew ?_ | refine blk_alloc ?_ _));exact BK206.out⟩,⟨by repeat (first | (with_reducible first | exact HB.out | apply below_alloc | apply pw_below_drewN | apply below_drew1 | refine below_set ?_ GE202.out | refine below_set ?_ GE203.out | refine below_set ?_ GE206.out) | exact HB.out)⟩⟩
     case round =>
      clear H'
      try clear c1
      try clear p2
      try clear q2
      try clear hx2
      try clear c4
      try clear c4b0
      try clear c5
      try clear c5b0
      try clear c6
      try clear c6b0
      try clear p6
      try clear c7
      try clear c7b0
      try clear c11
      try clear c14
      try clear c15
      try clear hcz12_0
      try clear hcz12_1
      try clear hcz16_0
      try clear hcz16_1
      try clear hcz17_0
      try clear hcz17_1
      try clear hfz12_0
      try clear hfz12_1
      try clear hfz16_0
      try clear hfz16_1
      try clear hfz17_0
      try clear hfz17_1
      try clear hx204_0
      try clear hx205_0
      try clear p204
      try clear p205
      try clear q204
      try clear q205
      obtain ⟨x30_1,x207000_1,u207000,rfl,HA,HK1,HO_207000,BK202,BK203,BK206,HB⟩ := hrel
      cases gk with
      | zero => exact absurd HA.out (by simp [spec_cuMix.l0])
      | succ k1 =>
       have H := HA.out
       clear HA
       simp only [spec_cuMix.l0] at H
       by_cases c18 : x30_1 < (l0_0.length : Int)
       ·rw [if_pos c18] at H
        have c18b0 : decide (x30_1 < (l0_0.length : Int)) = true := decide_eq_true c18
        clear c18
        by_cases c19 : 0 ≤ x30_1
        ·rw [if_pos c19] at H
         have c19b0 : decide (0 ≤ x30_1) = true := decide_eq_true c19
         clear c19
         by_cases c20 : x30_1 < (l0_0.length : Int)
         ·rw [if_pos c20] at H
          have c20b0 : decide (x30_1 < (l0_0.length : Int)) = true := decide_eq_true c20
          clear c20
          by_cases c21 : x30_1 = a1
          ·rw [if_pos c21] at H
           have c21b0 : (x30_1 == a1) = true := beq_iff_eq.mpr c21
           have c21b1 : (x30_1 != a1) = false := bne_eq_false_iff_eq.mpr c21
           clear c21
           by_cases c22 : x207000_1.length < 17592186044416
           ·rw [if_pos c22] at H
            have LMc22 := Aside0.mk c22
            clear c22
            obtain ⟨y208,hy208⟩ : ∃ y_ : List Int,y_ = (x207000_1 ++ [(wrap64 ((rd l0_0 a1) + (rd l0_0 a2)))]) := ⟨_,rfl⟩
            replace H : (spec_cuMix.l0 k1 a1 a2 (wrap64 ((rd l0_0 a1) + (rd l0_0 a2))) l0_0 (l0_0.length : Int) (wrap64 (x30_1 + 1)) y208 (wrap64 (2 * a0_1))) = some (r1,r2,r3) := by first | (rw [hy208];with_reducible exact H) | (have H2_ := (Option.bind_some _ _).symm.trans H;rw [hy208];with_reducible exact H2_) | (have H2_ := (Option.bind_some _ _).symm.trans H;with_reducible exact H2_) | with_reducible exact H | (rw [hy208];exact H) | exact H
            have Ny208 := Aside0.mk hy208
            clear hy208
            have H' := Aside0.mk H
            clear H
            have p207 : 0 ≤ (x30_1 : Int) := of_decide_eq_true (by first | (with_reducible assumption) | assumption)
            have q207 : x30_1 < (l0_0.length : Int) := of_decide_eq_true (by first | (with_reducible assumption) | assumption)
            obtain ⟨ad207,e207,hx207_0⟩ := Kd.at_int HR0_0.out x30_1 p207 q207
            obtain rfl : ad204 = ad207 := (by injection e207)
            replace hx207_0 := (HB.out.cell (World.block_lt_of_cell? w _ hx207_0)).trans hx207_0
            replace p207 := eq_true p207
            replace q207 := eq_true q207
            have hnb23 := NB206_202.out
            have hnc23 := NB202_206.out
            have hnb24 := NB206_203.out
            have hnc24 := NB203_206.out
            have hcz25_0 : wr.cell? ⟨gb206,0,none⟩ = some (u207000) := (blk_cell BK206.out 0).trans rfl
            have hcz25_1 : wr.cell? ⟨gb206,1,none⟩ = some (.int .i64 (wrap64 (2 * a0_1))) := (blk_cell BK206.out 1).trans rfl
            have hfz25_0 := blk_frozen BK206.out 0
            have hfz25_1 := blk_frozen BK206.out 1
            go_wp2_with (first | ((with_reducible refine gate_builtin (b := .append) (xs := #[.tmp 44, .tmp 46]) rfl ?_);at_builtin;refine Kd.R_append (Kd.int .i64) (w0 := w) w.heap.size rfl (.tmp 44) (.tmp 46) 22 3 (.int .i64 0) 8 rfl Try.underlying22 info3 rfl (by decide) (by omega) u207000 x207000_1 (wrap64 ((rd l0_0 a1) + (rd l0_0 a2))) [.int .i64 (wrap64 ((rd l0_0 a1) + (rd l0_0 a2)))] (fun _ => True) (fun _ => False) rfl rfl ?aP (fun _ hk => hk.elim) ?aF ?aO ?aB ?aS ?aL ?_;(case aP => exact rfl);(case aB => exact (by repeat (first | (with_reducible first | exact HB.out | apply below_alloc | apply pw_below_drewN | apply below_drew1 | refine below_set ?_ GE202.out | refine below_set ?_ GE203.out | refine below_set ?_ GE206.out) | exact HB.out)));(case aF => exact (fun _ _ => trivial));(case aO => exact (by (with_reducible repeat (first | apply Kd.R_alloc | apply Kd.R_drewN | apply Kd.R_drew));exact HO_207000.out));(case aS => exact (below_size (by repeat (first | (with_reducible first | exact HB.out | apply below_alloc | apply pw_below_drewN | apply below_drew1 | refine below_set ?_ GE202.out | refine below_set ?_ GE203.out | refine below_set ?_ GE206.out) | exact HB.out))));(case aL => have := LMc22.out;omega);intro v209 w26 ho hb hg hat;rw [← Ny208.out] at ho;have n0_ := Aside0.mk (blk_grown (g := gb202) (o := .cells #[.slice (some ad204) l0_0.length c0_0, .int .i64 a0_1] 29 (0,0)) (by (with_reducible repeat (first | refine blk_drewN ?_ _ | refine blk_drew ?_ | refine blk_alloc ?_ _));exact BK202.out) hg (Kd.R_ne HO_207000.out BK202.out (by decide)));have n1_ := Aside0.mk (blk_grown (g := gb203) (o := .cells #[.slice none 0 0, .int .i64 0] 29 (0,0)) (by (with_reducible repeat (first | refine blk_drewN ?_ _ | refine blk_drew ?_ | refine blk_alloc ?_ _));exact BK203.out) hg (Kd.R_ne HO_207000.out BK203.out (by decide)));have n2_ := Aside0.mk (blk_grown (g := gb206) (o := .cells #[u207000, .int .i64 (wrap64 (2 * a0_1))] 29 (0,0)) (by (with_reducible repeat (first | refine blk_drewN ?_ _ | refine blk_drew ?_ | refine blk_alloc ?_ _));exact BK206.out) hg (Kd.R_ne HO_207000.out BK206.out (by decide)));have n3_ := Aside0.mk (hb);have n4_ := Aside0.mk (ho);clear BK202;clear BK203;clear BK206;clear HB;clear HO_207000;have BK202 := n0_;have BK203 := n1_;have BK206 := n2_;have HB := n3_;have HO210 := n4_;clear n0_ n1_ n2_ n3_ n4_;clear ho hb hg hat;obtain ⟨Ao27,co27,eo27⟩ := Kd.R_slice HO210.out;subst eo27;have hcz28_0 : w26.cell? ⟨gb206,0,none⟩ = some (u207000) := (blk_cell BK206.out 0).trans rfl;have hcz28_1 : w26.cell? ⟨gb206,1,none⟩ = some (.int .i64 (wrap64 (2 * a0_1))) := (blk_cell BK206.out 1).trans rfl;have hfz28_0 := blk_frozen BK206.out 0;have hfz28_1 := blk_frozen BK206.out 1))
            go_roundg k1
            case measure => have := HK1.out;omega
            case rel => exact ⟨(wrap64 (x30_1 + 1)),(y208),(.slice Ao27 y208.length co27),(by first | rfl | (simp;done) | (simp [*];done)),H',⟨by have := HK1.out;omega⟩,⟨by (with_reducible repeat (first | apply Kd.R_alloc | apply Kd.R_drewN | apply Kd.R_drew));exact Kd.R_mono (Kd.R_far (p := ⟨gb206,0,none⟩) (Kd.R_types HO210.out BK206.out (by decide)) (fun _ hk => hk.2) (.slice Ao27 y208.length co27)) (fun _ hk => trivial)⟩,⟨by (with_reducible repeat (first | refine blk_drewN ?_ _ | refine blk_drew ?_ | refine blk_alloc ?_ _));refine blk_far ?_ NB202_206.out _;(with_reducible repeat (first | refine blk_drewN ?_ _ | refine blk_drew ?_ | refine blk_alloc ?_ _));exact BK202.out⟩,⟨by (with_reducible repeat (first | refine blk_drewN ?_ _ | refine blk_drew ?_ | refine blk_alloc ?_ _));refine blk_far ?_ NB203_206.out _;(with_reducible repeat (first | refine blk_drewN ?_ _ | refine blk_drew ?_ | refine blk_alloc ?_ _));exact BK203.out⟩,⟨by (with_reducible repeat (first | refine blk_drewN ?_ _ | refine blk_drew ?_ | refine blk_alloc ?_ _));refine blk_put (cs := #[u207000, .int .i64 (wrap64 (2 * a0_1))]) ?_ 0 _ rfl;(with_reducible repeat (first | refine blk_drewN ?_ _ | refine blk_drew ?_ | refine blk_alloc ?_ _));exact BK206.out⟩,⟨by repeat (first | (with_reducible first | exact HB.out | apply below_alloc | apply pw_below_drewN | apply below_drew1 | refine below_set ?_ GE202.out | refine below_set ?_ GE203.out | refine below_set ?_ GE206.out) | exact HB.out)⟩⟩
           ·rw [if_neg c22] at H
            exact absurd H (by simp)
          ·rw [if_neg c21] at H
           have c21b0 : (x30_1 == a1) = false := beq_eq_false_iff_ne.mpr c21
           have c21b1 : (x30_1 != a1) = true := bne_iff_ne.mpr c21
           by_cases c29 : x30_1 = a2
           ·rw [if_pos c29] at H
            have c29b0 : (x30_1 == a2) = true := beq_iff_eq.mpr c29
            have c29b1 : (x30_1 != a2) = false := bne_eq_false_iff_eq.mpr c29
            clear c29
            by_cases c30 : x207000_1.length < 17592186044416
            ·rw [if_pos c30] at H
             have LMc30 := Aside0.mk c30
             clear c30
             obtain ⟨y211,hy211⟩ : ∃ y_ : List Int,y_ = (x207000_1 ++ [(wrap64 ((rd l0_0 a1) + (rd l0_0 a2)))]) := ⟨_,rfl⟩
             replace H : (spec_cuMix.l0 k1 a1 a2 (wrap64 ((rd l0_0 a1) + (rd l0_0 a2))) l0_0 (l0_0.length : Int) (wrap64 (x30_1 + 1)) y211 (wrap64 (2 * a0_1))) = some (r1,r2,r3) := by first | (rw [hy211];with_reducible exact H) | (have H2_ := (Option.bind_some _ _).symm.trans H;rw [hy211];with_reducible exact H2_) | (have H2_ := (Option.bind_some _ _).symm.trans H;with_reducible exact H2_) | with_reducible exact H | (rw [hy211];exact H) | exact H
             have Ny211 := Aside0.mk hy211
             clear hy211
             have H' := Aside0.mk H
             clear H
             have p207 : 0 ≤ (x30_1 : Int) := of_decide_eq_true (by first | (with_reducible assumption) | assumption)
             have q207 : x30_1 < (l0_0.length : Int) := of_decide_eq_true (by first | (with_reducible assumption) | assumption)
             obtain ⟨ad207,e207,hx207_0⟩ := Kd.at_int HR0_0.out x30_1 p207 q207
             obtain rfl : ad204 = ad207 := (by injection e207)
             replace hx207_0 := (HB.out.cell (World.block_lt_of_cell? w _ hx207_0)).trans hx207_0
             replace p207 := eq_true p207
             replace q207 := eq_true q207
             have hnb31 := NB206_202.out
             have hnc31 := NB202_206.out
             have hnb32 := NB206_203.out
             have hnc32 := NB203_206.out
             have hcz33_0 : wr.cell? ⟨gb206,0,none⟩ = some (u207000) := (blk_cell BK206.out 0).trans rfl
             have hcz33_1 : wr.cell? ⟨gb206,1,none⟩ = some (.int .i64 (wrap64 (2 * a0_1))) := (blk_cell BK206.out 1).trans rfl
             have hfz33_0 := blk_frozen BK206.out 0
             have hfz33_1 := blk_frozen BK206.out 1
             go_wp2_with (first | ((with_reducible refine gate_builtin (b := .append) (xs := #[.tmp 44, .tmp 46]) rfl ?_);at_builtin;refine Kd.R_append (Kd.int .i64) (w0 := w) w.heap.size rfl (.tmp 44) (.tmp 46) 22 3 (.int .i64 0) 8 rfl Try.underlying22 info3 rfl (by decide) (by omega) u207000 x207000_1 (wrap64 ((rd l0_0 a1) + (rd l0_0 a2))) [.int .i64 (wrap64 ((rd l0_0 a1) + (rd l0_0 a2)))] (fun _ => True) (fun _ => False) rfl rfl ?aP (fun _ hk => hk.elim) ?aF ?aO ?aB ?aS ?aL ?_;(case aP => exact rfl);(case aB => exact (by repeat (first | (with_reducible first | exact HB.out | apply below_alloc | apply pw_below_drewN | apply below_drew1 | refine below_set ?_ GE202.out | refine below_set ?_ GE203.out | refine below_set ?_ GE206.out) | exact HB.out)));(case aF => exact (fun _ _ => trivial));(case aO => exact (by (with_reducible repeat (first | apply Kd.R_alloc | apply Kd.R_drewN | apply Kd.R_drew));exact HO_207000.out));(case aS => exact (below_size (by repeat (first | (with_reducible first | exact HB.out | apply below_alloc | apply pw_below_drewN | apply below_drew1 | refine below_set ?_ GE202.out | refine below_set ?_ GE203.out | refine below_set ?_ GE206.out) | exact HB.out))));(case aL => have := LMc30.out;omega);intro v212 w34 ho hb hg hat;rw [← Ny211.out] at ho;have n0_ := Aside0.mk (blk_grown (g := gb202) (o := .cells #[.slice (some ad204) l0_0.length c0_0, .int .i64 a0_1] 29 (0,0)) (by (with_reducible repeat (first | refine blk_drewN ?_ _ | refine blk_drew ?_ | refine blk_alloc ?_ _));exact BK202.out) hg (Kd.R_ne HO_207000.out BK202.out (by decide)));have n1_ := Aside0.mk (blk_grown (g := gb203) (o := .cells #[.slice none 0 0, .int .i64 0] 29 (0,0)) (by (with_reducible repeat (first | refine blk_drewN ?_ _ | refine blk_drew ?_ | refine blk_alloc ?_ _));exact BK203.out) hg (Kd.R_ne HO_207000.out BK203.out (by decide)));have n2_ := Aside0.mk (blk_grown (g := gb206) (o := .cells #[u207000, .int .i64 (wrap64 (2 * a0_1))] 29 (0,0)) (by (with_reducible repeat (first | refine blk_drewN ?_ _ | refine blk_drew ?_ | refine blk_alloc ?_ _));exact BK206.out) hg (Kd.R_ne HO_207000.out BK206.out (by decide)));have n3_ := Aside0.mk (hb);have n4_ := Aside0.mk (ho);clear BK202;clear BK203;clear BK206;clear HB;clear HO_207000;have BK202 := n0_;have BK203 := n1_;have BK206 := n2_;have HB := n3_;have HO213 := n4_;clear n0_ n1_ n2_ n3_ n4_;clear ho hb hg hat;obtain ⟨Ao35,co35,eo35⟩ := Kd.R_slice HO213.out;subst eo35;have hcz36_0 : w34.cell? ⟨gb206,0,none⟩ = some (u207000) := (blk_cell BK206.out 0).trans rfl;have hcz36_1 : w34.cell? ⟨gb206,1,none⟩ = some (.int .i64 (wrap64 (2 * a0_1))) := (blk_cell BK206.out 1).trans rfl;have hfz36_0 := blk_frozen BK206.out 0;have hfz36_1 := blk_frozen BK206.out 1))
             go_roundg k1
             case measure => have := HK1.out;omega
             case rel => exact ⟨(wrap64 (x30_1 + 1)),(y211),(.slice Ao35 y211.length co35),(by first | rfl | (simp;done) | (simp [*];done)),H',⟨by have := HK1.out;omega⟩,⟨by (with_reducible repeat (first | apply Kd.R_alloc | apply Kd.R_drewN | apply Kd.R_drew));exact Kd.R_mono (Kd.R_far (p := ⟨gb206,0,none⟩) (Kd.R_types HO213.out BK206.out (by decide)) (fun _ hk => hk.2) (.slice Ao35 y211.length co35)) (fun _ hk => trivial)⟩,⟨by (with_reducible repeat (first | refine blk_drewN ?_ _ | refine blk_drew ?_ | refine blk_alloc ?_ _));refine blk_far ?_ NB202_206.out _;(with_reducible repeat (first | refine blk_drewN ?_ _ | refine blk_drew ?_ | refine blk_alloc ?_ _));exact BK202.out⟩,⟨by (with_reducible repeat (first | refine blk_drewN ?_ _ | refine blk_drew ?_ | refine blk_alloc ?_ _));refine blk_far ?_ NB203_206.out _;(with_reducible repeat (first | refine blk_drewN ?_ _ | refine blk_drew ?_ | refine blk_alloc ?_ _));exact BK203.out⟩,⟨by (with_reducible repeat (first | refine blk_drewN ?_ _ | refine blk_drew ?_ | refine blk_alloc ?_ _));refine blk_put (cs := #[u207000, .int .i64 (wrap64 (2 * a0_1))]) ?_ 0 _ rfl;(with_reducible repeat (first | refine blk_drewN ?_ _ | refine blk_drew ?_ | refine blk_alloc ?_ _));exact BK206.out⟩,⟨by repeat (first | (with_reducible first | exact HB.out | apply below_alloc | apply pw_below_drewN | apply below_drew1 | refine below_set ?_ GE202.out | refine below_set ?_ GE203.out | refine below_set ?_ GE206.out) | exact HB.out)⟩⟩
            ·rw [if_neg c30] at H
             exact absurd H (by simp)
           ·rw [if_neg c29] at H
            have c29b0 : (x30_1 == a2) = false := beq_eq_false_iff_ne.mpr c29
            have c29b1 : (x30_1 != a2) = true := bne_iff_ne.mpr c29
            by_cases c37 : x207000_1.length < 17592186044416
            ·rw [if_pos c37] at H
             have LMc37 := Aside0.mk c37
             clear c37
             obtain ⟨y214,hy214⟩ : ∃ y_ : List Int,y_ = (x207000_1 ++ [wrap64 (2 * (rd l0_0 x30_1))]) := ⟨_,rfl⟩
             replace H : (spec_cuMix.l0 k1 a1 a2 (wrap64 ((rd l0_0 a1) + (rd l0_0 a2))) l0_0 (l0_0.length : Int) (wrap64 (x30_1 + 1)) y214 (wrap64 (2 * a0_1))) = some (r1,r2,r3) := by first | (rw [hy214];with_reducible exact H) | (have H2_ := (Option.bind_some _ _).symm.trans H;rw [hy214];with_reducible exact H2_) | (have H2_ := (Option.bind_some _ _).symm.trans H;with_reducible exact H2_) | with_reducible exact H | (rw [hy214];exact H) | exact H
             have Ny214 := Aside0.mk hy214
             clear hy214
             have H' := Aside0.mk H
             clear H
             have p207 : 0 ≤ (x30_1 : Int) := of_decide_eq_true (by first | (with_reducible assumption) | assumption)
             have q207 : x30_1 < (l0_0.length : Int) := of_decide_eq_true (by first | (with_reducible assumption) | assumption)
             obtain ⟨ad207,e207,hx207_0⟩ := Kd.at_int HR0_0.out x30_1 p207 q207
             obtain rfl : ad204 = ad207 := (by injection e207)
             replace hx207_0 := (HB.out.cell (World.block_lt_of_cell? w _ hx207_0)).trans hx207_0
             replace p207 := eq_true p207
             replace q207 := eq_true q207
             have hnb38 := NB206_202.out
             have hnc38 := NB202_206.out
             have hnb39 := NB206_203.out
             have hnc39 := NB203_206.out
             have hcz40_0 : wr.cell? ⟨gb206,0,none⟩ = some (u207000) := (blk_cell BK206.out 0).trans rfl
             have hcz40_1 : wr.cell? ⟨gb206,1,none⟩ = some (.int .i64 (wrap64 (2 * a0_1))) := (blk_cell BK206.out 1).trans rfl
             have hfz40_0 := blk_frozen BK206.out 0
             have hfz40_1 := blk_frozen BK206.out 1
             go_wp2_with (first | ((with_reducible refine gate_builtin (b := .append) (xs := #[.tmp 50, .tmp 53]) rfl ?_);at_builtin;refine Kd.R_append (Kd.int .i64) (w0 := w) w.heap.size rfl (.tmp 50) (.tmp 53) 22 3 (.int .i64 0) 8 rfl Try.underlying22 info3 rfl (by decide) (by omega) u207000 x207000_1 (wrap64 (2 * (rd l0_0 x30_1))) [.int .i64 (wrap64 (2 * (rd l0_0 x30_1)))] (fun _ => True) (fun _ => False) rfl rfl ?aP (fun _ hk => hk.elim) ?aF ?aO ?aB ?aS ?aL ?_;(case aP => exact rfl);(case aB => exact (by repeat (first | (with_reducible first | exact HB.out | apply below_alloc | apply pw_below_drewN | apply below_drew1 | refine below_set ?_ GE202.out | refine below_set ?_ GE203.out | refine below_set ?_ GE206.out) | exact HB.out)));(case aF => exact (fun _ _ => trivial));(case aO => exact (by (with_reducible repeat (first | apply Kd.R_alloc | apply Kd.R_drewN | apply Kd.R_drew));exact HO_207000.out));(case aS => exact (below_size (by repeat (first | (with_reducible first | exact HB.out | apply below_alloc | apply pw_below_drewN | apply below_drew1 | refine below_set ?_ GE202.out | refine below_set ?_ GE203.out | refine below_set ?_ GE206.out) | exact HB.out))));(case aL => have := LMc37.out;omega);intro v215 w41 ho hb hg hat;rw [← Ny214.out] at ho;have n0_ := Aside0.mk (blk_grown (g := gb202) (o := .cells #[.slice (some ad204) l0_0.length c0_0, .int .i64 a0_1] 29 (0,0)) (by (with_reducible repeat (first | refine blk_drewN ?_ _ | refine blk_drew ?_ | refine blk_alloc ?_ _));exact BK202.out) hg (Kd.R_ne HO_207000.out BK202.out (by decide)));have n1_ := Aside0.mk (blk_grown (g := gb203) (o := .cells #[.slice none 0 0, .int .i64 0] 29 (0,0)) (by (with_reducible repeat (first | refine blk_drewN ?_ _ | refine blk_drew ?_ | refine blk_alloc ?_ _));exact BK203.out) hg (Kd.R_ne HO_207000.out BK203.out (by decide)));have n2_ := Aside0.mk (blk_grown (g := gb206) (o := .cells #[u207000, .int .i64 (wrap64 (2 * a0_1))] 29 (0,0)) (by (with_reducible repeat (first | refine blk_drewN ?_ _ | refine blk_drew ?_ | refine blk_alloc ?_ _));exact BK206.out) hg (Kd.R_ne HO_207000.out BK206.out (by decide)));have n3_ := Aside0.mk (hb);have n4_ := Aside0.mk (ho);clear BK202;clear BK203;clear BK206;clear HB;clear HO_207000;have BK202 := n0_;have BK203 := n1_;have BK206 := n2_;have HB := n3_;have HO216 := n4_;clear n0_ n1_ n2_ n3_ n4_;clear ho hb hg hat;obtain ⟨Ao42,co42,eo42⟩ := Kd.R_slice HO216.out;subst eo42;have hcz43_0 : w41.cell? ⟨gb206,0,none⟩ = some (u207000) := (blk_cell BK206.out 0).trans rfl;have hcz43_1 : w41.cell? ⟨gb206,1,none⟩ = some (.int .i64 (wrap64 (2 * a0_1))) := (blk_cell BK206.out 1).trans rfl;have hfz43_0 := blk_frozen BK206.out 0;have hfz43_1 := blk_frozen BK206.out 1))
             go_roundg k1
             case measure => have := HK1.out;omega
             case rel => exact ⟨(wrap64 (x30_1 + 1)),(y214),(.slice Ao42 y214.length co42),(by first | rfl | (simp;done) | (simp [*];done)),H',⟨by have := HK1.out;omega⟩,⟨by (with_reducible repeat (first | apply Kd.R_alloc | apply Kd.R_drewN | apply Kd.R_drew));exact Kd.R_mono (Kd.R_far (p := ⟨gb206,0,none⟩) (Kd.R_types HO216.out BK206.out (by decide)) (fun _ hk => hk.2) (.slice Ao42 y214.length co42)) (fun _ hk => trivial)⟩,⟨by (with_reducible repeat (first | refine blk_drewN ?_ _ | refine blk_drew ?_ | refine blk_alloc ?_ _));refine blk_far ?_ NB202_206.out _;(with_reducible repeat (first | refine blk_drewN ?_ _ | refine blk_drew ?_ | refine blk_alloc ?_ _));exact BK202.out⟩,⟨by (with_reducible repeat (first | refine blk_drewN ?_ _ | refine blk_drew ?_ | refine blk_alloc ?_ _));refine blk_far ?_ NB203_206.out _;(with_reducible repeat (first | refine blk_drewN ?_ _ | refine blk_drew ?_ | refine blk_alloc ?_ _));exact BK203.out⟩,⟨by (with_reducible repeat (first | refine blk_drewN ?_ _ | refine blk_drew ?_ | refine blk_alloc ?_ _));refine blk_put (cs := #[u207000, .int .i64 (wrap64 (2 * a0_1))]) ?_ 0 _ rfl;(with_reducible repeat (first | refine blk_drewN ?_ _ | refine blk_drew ?_ | refine blk_alloc ?_ _));exact BK206.out⟩,⟨by repeat (first | (with_reducible first | exact HB.out | apply below_alloc | apply pw_below_drewN | apply below_drew1 | refine below_set ?_ GE202.out | refine below_set ?_ GE203.out | refine below_set ?_ GE206.out) | exact HB.out)⟩⟩
            ·rw [if_neg c37] at H
             exact absurd H (by simp)
         ·rw [if_neg c20] at H
          exact absurd H (by simp)
        ·rw [if_neg c19] at H
         exact absurd H (by simp)
       ·rw [if_neg c18] at H
        have c18b0 : decide (x30_1 < (l0_0.length : Int)) = false := decide_eq_false c18
        clear c18
        replace H := Option.bind_eq_some_iff.mp H
        obtain ⟨⟨t217,t220⟩,A440,H⟩ := H
        replace H : ((spec_cuUnit.f t220).bind fun t221 => (some (t217,t220,t221))) = some (r1,r2,r3) := H
        have A44 := Aside0.mk A440
        clear A440
        replace H := Option.bind_eq_some_iff.mp H
        obtain ⟨t221,A450,H⟩ := H
        replace H : (some (t217,t220,t221)) = some (r1,r2,r3) := H
        have A45 := Aside0.mk A450
        clear A450
        simp only [Option.some.injEq,Prod.mk.injEq] at H
        obtain ⟨rfl,rfl,rfl⟩ := H
        have hnb46 := NB206_202.out
        have hnc46 := NB202_206.out
        have hnb47 := NB206_203.out
        have hnc47 := NB203_206.out
        have hcz48_0 : wr.cell? ⟨gb206,0,none⟩ = some (u207000) := (blk_cell BK206.out 0).trans rfl
        have hcz48_1 : wr.cell? ⟨gb206,1,none⟩ = some (.int .i64 (wrap64 (2 * a0_1))) := (blk_cell BK206.out 1).trans rfl
        have hfz48_0 := blk_frozen BK206.out 0
        have hfz48_1 := blk_frozen BK206.out 1
        obtain ⟨Ao49,co49,eo49⟩ := Kd.R_slice HO_207000.out
        subst eo49
        try go_wp2_with (first | ((with_reducible refine gate_callee (f := 56) rfl ?_);refine goesL_ (some 58) rfl rfl Try.func56 (by kernel_rfl) rfl #[.agg #[.slice Ao49 x207000_1.length co49, .int .i64 (wrap64 (2 * a0_1))]] rfl (by (try simp only [List.map_toArray,List.map_cons,List.map_nil]);first | done | rfl | (simp only [List.length_drop,List.length_take];rfl)) ?_;(with_reducible refine (spec_cuLow.calls k1 _ _ x207000_1 (wrap64 (2 * a0_1)) t217 t220 _ ?side1 ?side2 A44.out).mono ?_);(case side1 => repeat (first | exact (Kd.R_reads' HO_207000.out).2.2 | (with_reducible refine Kd.C_alloc ?_ _) | (with_reducible refine Kd.C_drewN ?_ _) | (with_reducible refine Kd.C_drew ?_)));(case side2 => exact (Kd.R_reads' HO_207000.out).2.1);rintro e w50 ⟨v218,rfl,ho0,hb⟩;refine ⟨_,rfl,?_⟩;have n0_ := Aside0.mk (Kd.R_elder' (by (with_reducible repeat (first | apply Kd.R_alloc | apply Kd.R_drewN | apply Kd.R_drew));exact HO_207000.out) (Kd.R_base ho0) hb);have n1_ := Aside0.mk (Kd.R_lower (Kd.R_new' ho0 (Kd.R_lt (by (with_reducible repeat (first | apply Kd.R_alloc | apply Kd.R_drewN | apply Kd.R_drew));exact HO_207000.out))) (below_size (by repeat (first | (with_reducible first | exact HB.out | apply below_alloc | apply pw_below_drewN | apply below_drew1 | refine below_set ?_ GE202.out | refine below_set ?_ GE203.out | refine below_set ?_ GE206.out) | exact HB.out))));have n2_ := Aside0.mk (blk_below (g := gb202) (o := .cells #[.slice (some ad204) l0_0.length c0_0, .int .i64 a0_1] 29 (0,0)) (by (with_reducible repeat (first | refine blk_drewN ?_ _ | refine blk_drew ?_ | refine blk_alloc ?_ _));exact BK202.out) hb);have n3_ := Aside0.mk (blk_below (g := gb203) (o := .cells #[.slice none 0 0, .int .i64 0] 29 (0,0)) (by (with_reducible repeat (first | refine blk_drewN ?_ _ | refine blk_drew ?_ | refine blk_alloc ?_ _));exact BK203.out) hb);have n4_ := Aside0.mk (blk_below (g := gb206) (o := .cells #[.slice Ao49 x207000_1.length co49, .int .i64 (wrap64 (2 * a0_1))] 29 (0,0)) (by (with_reducible repeat (first | refine blk_drewN ?_ _ | refine blk_drew ?_ | refine blk_alloc ?_ _));exact BK206.out) hb);have n5_ := Aside0.mk (below_step (by repeat (first | (with_reducible first | exact HB.out | apply below_alloc | apply pw_below_drewN | apply below_drew1 | refine below_set ?_ GE202.out | refine below_set ?_ GE203.out | refine below_set ?_ GE206.out) | exact HB.out)) hb);clear HO_207000;clear BK202;clear BK203;clear BK206;clear HB;have HO_207000 := n0_;have HO219 := n1_;have BK202 := n2_;have BK203 := n3_;have BK206 := n4_;have HB := n5_;clear n0_ n1_ n2_ n3_ n4_ n5_;(try clear hb);(try clear hb2);(try clear hk);(try clear hi);(try clear ho0);obtain ⟨Ao51,co51,eo51⟩ := Kd.R_slice HO219.out;subst eo51;have hcz52_0 : w50.cell? ⟨gb206,0,none⟩ = some (.slice Ao49 x207000_1.length co49) := (blk_cell BK206.out 0).trans rfl;have hcz52_1 : w50.cell? ⟨gb206,1,none⟩ = some (.int .i64 (wrap64 (2 * a0_1))) := (blk_cell BK206.out 1).trans rfl;have hfz52_0 := blk_frozen BK206.out 0;have hfz52_1 := blk_frozen BK206.out 1))
        have n0_ : Aside0 (Kd.R (Kd.int .i64) 3 ((w50.setCell ⟨gb206,0,none⟩ (.slice Ao51 t217.length co51)).setCell ⟨gb206,1,none⟩ (.int .i64 t220)) w.heap.size (fun k_ => some k_ ≠ (.slice Ao51 t217.length co51 : Value).ownBlock) (.slice Ao49 x207000_1.length co49) x207000_1) := ⟨by (with_reducible repeat (first | apply Kd.R_alloc | apply Kd.R_drewN | apply Kd.R_drew));exact Kd.R_mono (Kd.R_far (p := ⟨gb206,1,none⟩) (Kd.R_far (p := ⟨gb206,0,none⟩) (Kd.R_types HO_207000.out BK206.out (by decide)) (fun _ hk => hk.2) (.slice Ao51 t217.length co51)) (fun _ hk => hk.2) (.int .i64 t220)) (fun _ hk => hk.1.2)⟩
        have n1_ : Aside0 (Kd.R (Kd.int .i64) 3 ((w50.setCell ⟨gb206,0,none⟩ (.slice Ao51 t217.length co51)).setCell ⟨gb206,1,none⟩ (.int .i64 t220)) w.heap.size (fun k_ => some k_ ≠ (.slice Ao49 x207000_1.length co49 : Value).ownBlock) (.slice Ao51 t217.length co51) t217) := ⟨by (with_reducible repeat (first | apply Kd.R_alloc | apply Kd.R_drewN | apply Kd.R_drew));exact Kd.R_mono (Kd.R_far (p := ⟨gb206,1,none⟩) (Kd.R_far (p := ⟨gb206,0,none⟩) (Kd.R_types HO219.out BK206.out (by decide)) (fun _ hk => hk.2) (.slice Ao51 t217.length co51)) (fun _ hk => hk.2) (.int .i64 t220)) (fun _ hk => hk.1.2)⟩
        have n2_ : Aside0 (((w50.setCell ⟨gb206,0,none⟩ (.slice Ao51 t217.length co51)).setCell ⟨gb206,1,none⟩ (.int .i64 t220)).heap[gb202]? = some (.cells #[.slice (some ad204) l0_0.length c0_0, .int .i64 a0_1] 29 (0,0))) := ⟨by (with_reducible repeat (first | refine blk_drewN ?_ _ | refine blk_drew ?_ | refine blk_alloc ?_ _));refine blk_far ?_ NB202_206.out _;(with_reducible repeat (first | refine blk_drewN ?_ _ | refine blk_drew ?_ | refine blk_alloc ?_ _));refine blk_far ?_ NB202_206.out _;(with_reducible repeat (first | refine blk_drewN ?_ _ | refine blk_drew ?_ | refine blk_alloc ?_ _));exact BK202.out⟩
        have n3_ : Aside0 (((w50.setCell ⟨gb206,0,none⟩ (.slice Ao51 t217.length co51)).setCell ⟨gb206,1,none⟩ (.int .i64 t220)).heap[gb203]? = some (.cells #[.slice none 0 0, .int .i64 0] 29 (0,0))) := ⟨by (with_reducible repeat (first | refine blk_drewN ?_ _ | refine blk_drew ?_ | refine blk_alloc ?_ _));refine blk_far ?_ NB203_206.out _;(with_reducible repeat (first | refine blk_drewN ?_ _ | refine blk_drew ?_ | refine blk_alloc ?_ _));refine blk_far ?_ NB203_206.out _;(with_reducible repeat (first | refine blk_drewN ?_ _ | refine blk_drew ?_ | refine blk_alloc ?_ _));exact BK203.out⟩
        have n4_ : Aside0 (((w50.setCell ⟨gb206,0,none⟩ (.slice Ao51 t217.length co51)).setCell ⟨gb206,1,none⟩ (.int .i64 t220)).heap[gb206]? = some (.cells #[.slice Ao51 t217.length co51, .int .i64 t220] 29 (0,0))) := ⟨by (with_reducible repeat (first | refine blk_drewN ?_ _ | refine blk_drew ?_ | refine blk_alloc ?_ _));refine blk_put (cs := #[.slice Ao51 t217.length co51, .int .i64 (wrap64 (2 * a0_1))]) ?_ 1 _ rfl;(with_reducible repeat (first | refine blk_drewN ?_ _ | refine blk_drew ?_ | refine blk_alloc ?_ _));refine blk_put (cs := #[.slice Ao49 x207000_1.length co49, .int .i64 (wrap64 (2 * a0_1))]) ?_ 0 _ rfl;(with_reducible repeat (first | refine blk_drewN ?_ _ | refine blk_drew ?_ | refine blk_alloc ?_ _));exact BK206.out⟩
        have n5_ : Aside0 (Below w.heap.size w ((w50.setCell ⟨gb206,0,none⟩ (.slice Ao51 t217.length co51)).setCell ⟨gb206,1,none⟩ (.int .i64 t220))) := ⟨by repeat (first | (with_reducible first | exact HB.out | apply below_alloc | apply pw_below_drewN | apply below_drew1 | refine below_set ?_ GE202.out | refine below_set ?_ GE203.out | refine below_set ?_ GE206.out) | exact HB.out)⟩
        (try clear HO_207000)
        (try clear HO219)
        (try clear BK202)
        (try clear BK203)
        (try clear BK206)
        (try clear HB)
        generalize ((w50.setCell ⟨gb206,0,none⟩ (.slice Ao51 t217.length co51)).setCell ⟨gb206,1,none⟩ (.int .i64 t220)) = w53 at n0_ n1_ n2_ n3_ n4_ n5_ ⊢
        have HO_207000 := n0_
        have HO219 := n1_
        have BK202 := n2_
        have BK203 := n3_
        have BK206 := n4_
        have HB := n5_
        clear n0_ n1_ n2_ n3_ n4_ n5_
        have n0_ := Aside0.mk (Kd.R_drew HO_207000.out)
        have n1_ := Aside0.mk (Kd.R_drew HO219.out)
        have n2_ := Aside0.mk (blk_drew BK202.out)
        have n3_ := Aside0.mk (blk_drew BK203.out)
        have n4_ := Aside0.mk (blk_drew BK206.out)
        have n5_ := Aside0.mk (below_drew1 HB.out)
        clear HO_207000
        clear HO219
        clear BK202
        clear BK203
        clear BK206
        clear HB
        have HO_207000 := n0_
        have HO219 := n1_
        have BK202 := n2_
        have BK203 := n3_
        have BK206 := n4_
        have HB := n5_
        clear n0_ n1_ n2_ n3_ n4_ n5_
        refine start_ (n := 6) (S := fun w' => w'.cell? ⟨gb206,0,none⟩ = some (.slice Ao51 t217.length co51) ∧ w'.cell? ⟨gb206,1,none⟩ = some (.int .i64 t220)) (ds := []) #[false,false,false,false,false,false] (by kernel_rfl) rfl rfl ⟨(blk_cell BK206.out 0).trans rfl,(blk_cell BK206.out 1).trans rfl⟩ (fun hHeld => ?_)
        generalize w53.drew = w54 at HO_207000 HO219 BK202 BK203 BK206 HB hHeld ⊢
        refine pure_ (i := 1) (N := some 60) (v := ?_) (a' := ?_) #[false,true,false,false,false,false] rfl rfl (by kernel_rfl) (fun _ _ _ h => h) (Or.inl ⟨by rfl,?_⟩) ?_ ?_
        rotate_left
        ·intro w'
         go_simp
         with_reducible rfl
        rotate_left
        ·simp only [Act.put,List.setIfInBounds_toArray,List.set_cons_zero,List.set_cons_succ,i64_w,i32_w]
         rfl
        refine take_ (i := 0) (N := some 59) (v := ?_) (a' := ?_) #[true,true,false,false,false,false] rfl rfl (by kernel_rfl) (fun _ _ _ h => h) (Or.inl ⟨by rfl,?_⟩) hHeld ?_ ?_
        rotate_left
        ·rintro w' ⟨s0,s1⟩
         go_simp
         with_reducible rfl
        rotate_left
        ·simp only [Act.put,List.setIfInBounds_toArray,List.set_cons_zero,List.set_cons_succ,i64_w,i32_w]
         rfl
        refine take_ (i := 2) (N := some 61) (v := ?_) (a' := ?_) #[true,true,true,false,false,false] rfl rfl (by kernel_rfl) (fun _ _ _ h => h) (Or.inl ⟨by rfl,?_⟩) hHeld ?_ ?_
        rotate_left
        ·rintro w' ⟨s0,s1⟩
         go_simp
         with_reducible rfl
        rotate_left
        ·simp only [Act.put,List.setIfInBounds_toArray,List.set_cons_zero,List.set_cons_succ,i64_w,i32_w]
         rfl
        refine one_ (i := 3) (N := some 62) #[true,true,true,true,false,false] rfl rfl (by kernel_rfl) (by decide) (fun K hK => ?_)
        refine goes_ Try.func49 (by kernel_rfl) rfl #[.int .i64 t220] (by rfl) rfl rfl (by (try simp only [List.map_toArray,List.map_cons,List.map_nil]);first | done | rfl | (simp only [List.length_drop,List.length_take];rfl)) ?_
        with_reducible refine (spec_cuUnit.calls t220 t221 _ A45.out).mono ?_
        rintro e w' ⟨rfl,⟨nd,rfl⟩⟩
        refine ⟨_,rfl,?_⟩
        refine hK.out _ _ ⟨(blk_cell BK206.out 0).trans rfl,(blk_cell BK206.out 1).trans rfl⟩ (fun hHeld => ?_)
        clear hK K
        refine norm_ (a' := ?_) ?_ ?_
        rotate_left
        ·show Act.put _ (some 62) _ = _
         simp only [Act.put,List.setIfInBounds_toArray,List.set_cons_zero,List.set_cons_succ,i64_w,i32_w]
         rfl
        refine one_ (i := 4) (N := none) #[true,true,true,true,true,false] rfl rfl (by kernel_rfl) (by decide) (fun K hK => ?_)
        have hs55 : w54.cell? ⟨gb203,0,none⟩ = some (.slice none 0 0) := (blk_cell BK203.out 0).trans rfl
        have hfs55 := blk_frozen BK203.out 0
        have hns55_0 := NB202_203.out
        have hns55_2 := NB206_203.out
        have hms55_0 := NB203_202.out
        have hms55_2 := NB203_206.out
        have hs56 : w54.cell? ⟨gb203,1,none⟩ = some (.int .i64 0) := (blk_cell BK203.out 1).trans rfl
        have hfs56 := blk_frozen BK203.out 1
        have hns56_0 := NB202_203.out
        have hns56_2 := NB206_203.out
        have hms56_0 := NB203_202.out
        have hms56_2 := NB203_206.out
        refine skip_ (w1 := ?_) (by rfl) rfl ?_ ?_
        rotate_left
        ·go_simp
         rfl
        refine hK.out _ _ ⟨((cell_far (p := ⟨gb203,_,none⟩) NB206_203.out _).trans (((cell_far (p := ⟨gb203,_,none⟩) NB206_203.out _).trans (hHeld.1)))),((cell_far (p := ⟨gb203,_,none⟩) NB206_203.out _).trans (((cell_far (p := ⟨gb203,_,none⟩) NB206_203.out _).trans (hHeld.2))))⟩ (fun hHeld => ?_)
        clear hK K
        refine pure_ (i := 5) (N := some 7) (v := ?_) (a' := ?_) #[true,true,true,true,true,true] rfl rfl (by kernel_rfl) (fun _ _ _ h => h) (Or.inl ⟨by rfl,?_⟩) ?_ ?_
        rotate_left
        ·intro w'
         go_simp
         with_reducible rfl
        rotate_left
        ·simp only [Act.put,List.setIfInBounds_toArray,List.set_cons_zero,List.set_cons_succ,i64_w,i32_w]
         rfl
        refine done_ (by kernel_rfl) ?_
        try go_wp2
        refine bodyPost_ret (results_ct rfl _ _ gb203 29 #[.slice Ao51 t217.length co51, .int .i64 t220] (0,0) _ rfl (by (with_reducible repeat (first | refine blk_drewN ?_ _ | refine blk_drew ?_ | refine blk_alloc ?_ _));refine blk_put (cs := #[.slice Ao51 t217.length co51, .int .i64 0]) ?_ 1 _ rfl;(with_reducible repeat (first | refine blk_drewN ?_ _ | refine blk_drew ?_ | refine blk_alloc ?_ _));refine blk_put (cs := #[.slice none 0 0, .int .i64 0]) ?_ 0 _ rfl;(with_reducible repeat (first | refine blk_drewN ?_ _ | refine blk_drew ?_ | refine blk_alloc ?_ _));exact BK203.out) Try.underlying29 rfl (by kernel_rfl)) rfl ?_
        exact ⟨_,by first | rfl | (simp [errW_none,errW_some] <;> rfl) | (simp [*,errW_none,errW_some] <;> rfl),by (with_reducible repeat (first | apply Kd.R_alloc | apply Kd.R_drewN | apply Kd.R_drew));exact Kd.R_mono (Kd.R_far (p := ⟨gb203,1,none⟩) (Kd.R_far (p := ⟨gb203,0,none⟩) (Kd.R_types HO219.out BK203.out (by decide)) (fun _ hk => hk.2) (.slice Ao51 t217.length co51)) (fun _ hk => hk.2) (.int .i64 t220)) (fun _ hk => trivial),by repeat (first | (with_reducible first | exact HB.out | apply below_alloc | apply pw_below_drewN | apply below_drew1 | refine below_set ?_ GE202.out | refine below_set ?_ GE203.out | refine below_set ?_ GE206.out) | exact HB.out)⟩
    ·rw [if_neg c7] at H
     exact absurd H (by simp)
   ·rw [if_neg c6] at H
    exact absurd H (by simp)
  ·rw [if_neg c5] at H
   exact absurd H (by simp)
 ·rw [if_neg c4] at H
  exact absurd H (by simp)

end Go.Proofs.Ytmkpngmdikbbeaa.P
