/- Written by a program of this workplace (own_print.py, over the kit's print) for the functions that the statements reach, with contracts of its own. Lean checks it. -/
import Derived.Test.YtmkpngmdikbbeaaPx0
import Derived.Test.YtmkpngmdikbbeaaPx8
namespace Go.Proofs.Ytmkpngmdikbbeaa.P
open Go.RowKit Go.Proofs.YtmkpngmdikbbeaaW.PrintWords Go.Proofs.YtmkpngmdikbbeaaW.PrintLast Go.Proofs.YtmkpngmdikbbeaaW.PrintMore
attribute [local go_sem] max2_int min2_int max_two min_two max_three min_three max_four min_four   -- for this text's walks alone
set_option linter.unusedVariables false
set_option linter.unusedSimpArgs false

/-! ### impl_mix: function 42 -/
def impl_mix.l0 : Nat → Int → Int → List Int → Int → Int → List Int → Int → List Int → Int → Option (List Int × Int)
 | 0,_,_,_,_,_,_,_,_,_ => none
 | k + 1,x1,x2,x16,x17,x18,x278000,x278001,x280000,x280001 => if x18 < x17 then (if 0 ≤ x18 then (if x18 < (x16.length : Int) then (if x280000.length < 17592186044416 then (impl_mix.l0 k x1 x2 x16 x17 (wrap64 (x18 + 1)) x278000 x278001 (x280000 ++ [wrap64 (2 * (rd x16 x18))]) x280001) else (none)) else (none)) else (none)) else (if 0 ≤ x1 then (if x1 < (x278000.length : Int) then (if 0 ≤ x2 then (if x2 < (x278000.length : Int) then (if x1 < (x280000.length : Int) then (if x2 < (x280000.length : Int) then ((impl_reduced.f k ((x280000.set (x1 : Int).toNat (wrap64 ((rd x278000 x1) + (rd x278000 x2)))).set (x2 : Int).toNat (wrap64 ((rd x278000 x1) + (rd x278000 x2)))) x280001).bind fun bt288 => (some (bt288.1,bt288.2))) else (none)) else (none)) else (none)) else (none)) else (none)) else (none))
def impl_mix.f (k : Nat) (l0_0 : List Int) (a0_1 : Int) (a1 : Int) (a2 : Int) : Option (List Int × Int) := impl_mix.l0 k a1 a2 l0_0 (l0_0.length : Int) 0 l0_0 a0_1 ([] : List Int) (wrap64 (2 * a0_1))
theorem impl_mix.mono_l : ∀ k,(∀ y0 y1 y2 y3 y4 y5 y6 y7 y8,LeO (impl_mix.l0 k y0 y1 y2 y3 y4 y5 y6 y7 y8) (impl_mix.l0 (k + 1) y0 y1 y2 y3 y4 y5 y6 y7 y8))
 | 0 => fun _ _ _ _ _ _ _ _ _ r h => by simp [impl_mix.l0] at h
 | k + 1 => by
  have ih0 := impl_mix.mono_l k
  ·intro y0 y1 y2 y3 y4 y5 y6 y7 y8
   unfold impl_mix.l0
   repeat' first
   | (with_reducible exact ih0 _ _ _ _ _ _ _ _ _)
   | (with_reducible exact impl_reduced.mono _ _ _)
   | (with_reducible exact LeO.refl _)
   | (with_reducible exact LeO.none _)
   | (with_reducible refine LeO.ite ?_ ?_)
   | (with_reducible refine LeO.bind ?_ (fun _ => ?_))
   | exact ih0 _ _ _ _ _ _ _ _ _
   | exact impl_reduced.mono _ _ _
   | exact LeO.none _
   | refine LeO.ite ?_ ?_
   | refine LeO.bind ?_ (fun _ => ?_)
theorem impl_mix.mono : ∀ a0 a1 a2 a3 k,LeO (impl_mix.f k a0 a1 a2 a3) (impl_mix.f (k + 1) a0 a1 a2 a3) := by
 intro a0 a1 a2 a3 k
 have ih0 := impl_mix.mono_l k
 unfold impl_mix.f
 repeat' first
   | (with_reducible exact ih0 _ _ _ _ _ _ _ _ _)
   | (with_reducible exact impl_reduced.mono _ _ _)
   | (with_reducible exact LeO.refl _)
   | (with_reducible exact LeO.none _)
   | (with_reducible refine LeO.ite ?_ ?_)
   | (with_reducible refine LeO.bind ?_ (fun _ => ?_))
   | exact ih0 _ _ _ _ _ _ _ _ _
   | exact impl_reduced.mono _ _ _
   | exact LeO.none _
   | refine LeO.ite ?_ ?_
   | refine LeO.bind ?_ (fun _ => ?_)
def impl_mix.T7 : Bool × List (List Nat × List Nat) := (true,[([],[]),([0],[0]),([],[]),([1,2],[1,2]),([3],[3]),([],[]),([5],[5]),([],[]),([6,7],[6,7]),([8],[8]),([4,9],[4,9]),([10,0,1,2,3,4,5,6,7,8,9,10],[10])])
def impl_mix.B7 : List Nat := [0,1,0,7,15,0,32,0,224,480,1023,2047]
theorem impl_mix.tab7 : rtab .any (opsOf Try.f42 7) = impl_mix.T7 := by kernel_rfl
theorem impl_mix.bits7 : waitsOk impl_mix.T7.2 impl_mix.B7 = true := by kernel_rfl
def impl_mix.T8 : Bool × List (List Nat × List Nat) := (true,[([],[]),([0],[0]),([],[]),([],[]),([3],[3]),([],[]),([],[]),([],[]),([1,2,0,1,2,6],[1,2]),([8,6,0,1,2,6],[6,8]),([4,5,0,1,2,3,4,5,6,7,8,9],[4,5]),([10,7,9,0,1,2,3,4,5,6,7,8,9],[7,10])])
def impl_mix.B8 : List Nat := [0,1,0,0,8,0,0,0,71,327,1023,2047]
theorem impl_mix.tab8 : rtab .any (opsOf Try.f42 8) = impl_mix.T8 := by kernel_rfl
theorem impl_mix.bits8 : waitsOk impl_mix.T8.2 impl_mix.B8 = true := by kernel_rfl
set_option maxHeartbeats 8000000 in
set_option maxRecDepth 100000 in
theorem impl_mix.calls (k : Nat) (A0_0 : Option Addr) (c0_0 : Nat) (l0_0 : List Int) (a0_1 : Int) (a1 : Int) (a2 : Int) (r1 : List Int) (r2 : Int) (w : World) (hr0_0 : Kd.C (Kd.int .i64) w A0_0 l0_0.length l0_0) (hc0_0 : l0_0.length ≤ c0_0) (h : impl_mix.f k l0_0 a0_1 a1 a2 = some (r1,r2)) :
  Calls Try.prog 42 #[.agg #[.slice A0_0 l0_0.length c0_0, .int .i64 a0_1], .int .i64 a1, .int .i64 a2] w fun e w' => ∃ v0_ : Value,e = .returned (.agg #[v0_, .int .i64 r2]) ∧ Kd.R (Kd.int .i64) 3 w' w.heap.size (fun _ => True) v0_ r1 ∧ Below w.heap.size w w' := by
 have hu29 := Try.underlying29
 have HR0_0 := Aside0.mk hr0_0
 have HC0_0 := Aside0.mk hc0_0
 clear hr0_0 hc0_0
 have HB := Aside0.mk (Below.refl w.heap.size w)
 have H : (impl_mix.l0 k a1 a2 l0_0 (l0_0.length : Int) 0 l0_0 a0_1 ([] : List Int) (wrap64 (2 * a0_1))) = some (r1,r2) := h
 clear h
 have H' := Aside0.mk H
 clear H
 go_enter Try.func42,Try.ntmps42
 go_wp2_with (first | ((with_reducible refine gate_dst (N := 3) rfl ?_);refine box_event ?hg (N := 3) ?hd (cs := #[.slice A0_0 l0_0.length c0_0, .int .i64 a0_1]) (t := 29) ?hr ?_;(case hd => rfl);(case hg => rfl);(case hr => first | (go_simp;done) | (go_simp;rfl));intro gb277 hg w4 hbox hb;have n0_ := Aside0.mk (below_step (by repeat (first | (with_reducible first | exact HB.out | apply below_alloc | apply pw_below_drewN | apply below_drew1) | exact HB.out)) hb);have n1_ := Aside0.mk (hbox);have n2_ := Aside0.mk ((by rw [hg];exact (below_size (by repeat (first | (with_reducible first | exact HB.out | apply below_alloc | apply pw_below_drewN | apply below_drew1) | exact HB.out))) : w.heap.size ≤ gb277));have n3_ := Aside0.mk ((by rw [hg];exact (below_size (by repeat (first | (with_reducible first | exact HB.out | apply below_alloc | apply pw_below_drewN | apply below_drew1) | exact HB.out))) : w.heap.size ≤ gb277));clear HB;have HB := n0_;have BK277 := n1_;have GW277 := n2_;have GE277 := n3_;clear n0_ n1_ n2_ n3_;clear hb hbox hg) | ((with_reducible refine gate_dst (N := 6) rfl ?_);refine box_event ?hg (N := 6) ?hd (cs := #[.slice none 0 0, .int .i64 0]) (t := 29) ?hr ?_;(case hd => rfl);(case hg => rfl);(case hr => first | (go_simp;done) | (go_simp;rfl));intro gb278 hg w5 hbox hb;have n0_ := Aside0.mk (blk_below (g := gb277) (o := .cells #[.slice A0_0 l0_0.length c0_0, .int .i64 a0_1] 29 (0,0)) (by (with_reducible repeat (first | refine blk_drewN ?_ _ | refine blk_drew ?_ | refine blk_alloc ?_ _));exact BK277.out) hb);have n1_ := Aside0.mk (below_step (by repeat (first | (with_reducible first | exact HB.out | apply below_alloc | apply pw_below_drewN | apply below_drew1 | refine below_set ?_ GE277.out) | exact HB.out)) hb);have n2_ := Aside0.mk (hbox);have n3_ := Aside0.mk ((by rw [hg];exact (below_size (by repeat (first | (with_reducible first | exact HB.out | apply below_alloc | apply pw_below_drewN | apply below_drew1 | refine below_set ?_ GE277.out) | exact HB.out))) : w.heap.size ≤ gb278));have n4_ := Aside0.mk ((by rw [hg];exact (below_size (by repeat (first | (with_reducible first | exact HB.out | apply below_alloc | apply pw_below_drewN | apply below_drew1 | refine below_set ?_ GE277.out) | exact HB.out))) : w.heap.size ≤ gb278));have n5_ := Aside0.mk ((by rw [hg];exact Nat.ne_of_lt (blk_lt (g := gb277) (o := .cells #[.slice A0_0 l0_0.length c0_0, .int .i64 a0_1] 29 (0,0)) (by (with_reducible repeat (first | refine blk_drewN ?_ _ | refine blk_drew ?_ | refine blk_alloc ?_ _));exact BK277.out)) : gb277 ≠ gb278));have n6_ := Aside0.mk ((by rw [hg];exact Nat.ne_of_gt (blk_lt (g := gb277) (o := .cells #[.slice A0_0 l0_0.length c0_0, .int .i64 a0_1] 29 (0,0)) (by (with_reducible repeat (first | refine blk_drewN ?_ _ | refine blk_drew ?_ | refine blk_alloc ?_ _));exact BK277.out)) : gb278 ≠ gb277));clear BK277;clear HB;have BK277 := n0_;have HB := n1_;have BK278 := n2_;have GW278 := n3_;have GE278 := n4_;have NB277_278 := n5_;have NB278_277 := n6_;clear n0_ n1_ n2_ n3_ n4_ n5_ n6_;clear hb hbox hg;have hnb6 := NB277_278.out;have hnc6 := NB278_277.out;have hcz7_0 : w5.cell? ⟨gb277,0,none⟩ = some (.slice A0_0 l0_0.length c0_0) := (blk_cell BK277.out 0).trans rfl;have hcz7_1 : w5.cell? ⟨gb277,1,none⟩ = some (.int .i64 a0_1) := (blk_cell BK277.out 1).trans rfl;have hfz7_0 := blk_frozen BK277.out 0;have hfz7_1 := blk_frozen BK277.out 1) | ((with_reducible refine gate_dst (N := 7) rfl ?_);refine box_event ?hg (N := 7) ?hd (cs := #[.slice none 0 0, .int .i64 0]) (t := 29) ?hr ?_;(case hd => rfl);(case hg => rfl);(case hr => first | (go_simp;done) | (go_simp;rfl));intro gb279 hg w8 hbox hb;have n0_ := Aside0.mk (blk_below (g := gb277) (o := .cells #[.slice A0_0 l0_0.length c0_0, .int .i64 a0_1] 29 (0,0)) (by (with_reducible repeat (first | refine blk_drewN ?_ _ | refine blk_drew ?_ | refine blk_alloc ?_ _));exact BK277.out) hb);have n1_ := Aside0.mk (blk_below (g := gb278) (o := .cells #[.slice none 0 0, .int .i64 0] 29 (0,0)) (by (with_reducible repeat (first | refine blk_drewN ?_ _ | refine blk_drew ?_ | refine blk_alloc ?_ _));exact BK278.out) hb);have n2_ := Aside0.mk (below_step (by repeat (first | (with_reducible first | exact HB.out | apply below_alloc | apply pw_below_drewN | apply below_drew1 | refine below_set ?_ GE277.out | refine below_set ?_ GE278.out) | exact HB.out)) hb);have n3_ := Aside0.mk (hbox);have n4_ := Aside0.mk ((by rw [hg];exact (below_size (by repeat (first | (with_reducible first | exact HB.out | apply below_alloc | apply pw_below_drewN | apply below_drew1 | refine below_set ?_ GE277.out | refine below_set ?_ GE278.out) | exact HB.out))) : w.heap.size ≤ gb279));have n5_ := Aside0.mk ((by rw [hg];exact (below_size (by repeat (first | (with_reducible first | exact HB.out | apply below_alloc | apply pw_below_drewN | apply below_drew1 | refine below_set ?_ GE277.out | refine below_set ?_ GE278.out) | exact HB.out))) : w.heap.size ≤ gb279));have n6_ := Aside0.mk ((by rw [hg];exact Nat.ne_of_lt (blk_lt (g := gb277) (o := .cells #[.slice A0_0 l0_0.length c0_0, .int .i64 a0_1] 29 (0,0)) (by (with_reducible repeat (first | refine blk_drewN ?_ _ | refine blk_drew ?_ | refine blk_alloc ?_ _));exact BK277.out)) : gb277 ≠ gb279));have n7_ := Aside0.mk ((by rw [hg];exact Nat.ne_of_gt (blk_lt (g := gb277) (o := .cells #[.slice A0_0 l0_0.length c0_0, .int .i64 a0_1] 29 (0,0)) (by (with_reducible repeat (first | refine blk_drewN ?_ _ | refine blk_drew ?_ | refine blk_alloc ?_ _));exact BK277.out)) : gb279 ≠ gb277));have n8_ := Aside0.mk ((by rw [hg];exact Nat.ne_of_lt (blk_lt (g := gb278) (o := .cells #[.slice none 0 0, .int .i64 0] 29 (0,0)) (by (with_reducible repeat (first | refine blk_drewN ?_ _ | refine blk_drew ?_ | refine blk_alloc ?_ _));exact BK278.out)) : gb278 ≠ gb279));have n9_ := Aside0.mk ((by rw [hg];exact Nat.ne_of_gt (blk_lt (g := gb278) (o := .cells #[.slice none 0 0, .int .i64 0] 29 (0,0)) (by (with_reducible repeat (first | refine blk_drewN ?_ _ | refine blk_drew ?_ | refine blk_alloc ?_ _));exact BK278.out)) : gb279 ≠ gb278));clear BK277;clear BK278;clear HB;have BK277 := n0_;have BK278 := n1_;have HB := n2_;have BK279 := n3_;have GW279 := n4_;have GE279 := n5_;have NB277_279 := n6_;have NB279_277 := n7_;have NB278_279 := n8_;have NB279_278 := n9_;clear n0_ n1_ n2_ n3_ n4_ n5_ n6_ n7_ n8_ n9_;clear hb hbox hg;have hnb9 := NB279_277.out;have hnc9 := NB277_279.out;have hnb10 := NB279_278.out;have hnc10 := NB278_279.out;have hcz11_0 : w8.cell? ⟨gb279,0,none⟩ = some (.slice none 0 0) := (blk_cell BK279.out 0).trans rfl;have hcz11_1 : w8.cell? ⟨gb279,1,none⟩ = some (.int .i64 0) := (blk_cell BK279.out 1).trans rfl;have hfz11_0 := blk_frozen BK279.out 0;have hfz11_1 := blk_frozen BK279.out 1;have hcz12_0 : w8.cell? ⟨gb277,0,none⟩ = some (.slice A0_0 l0_0.length c0_0) := (blk_cell BK277.out 0).trans rfl;have hcz12_1 : w8.cell? ⟨gb277,1,none⟩ = some (.int .i64 a0_1) := (blk_cell BK277.out 1).trans rfl;have hfz12_0 := blk_frozen BK277.out 0;have hfz12_1 := blk_frozen BK277.out 1))
 go_loopg [18] k (fun kq v18 w' => ∃ (x18_1 : Int) (x280000_1 : List Int) (u280000 : Value),v18 = .int .i64 x18_1 ∧ Aside0 (impl_mix.l0 kq a1 a2 l0_0 (l0_0.length : Int) x18_1 l0_0 a0_1 x280000_1 (wrap64 (2 * a0_1)) = some (r1,r2)) ∧ Aside0 (kq ≤ k) ∧ Aside0 (Kd.R (Kd.int .i64) 3 w' w.heap.size (fun _ => True) u280000 x280000_1) ∧ Aside0 (w'.heap[gb277]? = some (.cells #[(.slice A0_0 l0_0.length c0_0), .int .i64 a0_1] 29 (0,0))) ∧ Aside0 (w'.heap[gb278]? = some (.cells #[(.slice none 0 0), .int .i64 0] 29 (0,0))) ∧ Aside0 (w'.heap[gb279]? = some (.cells #[u280000, .int .i64 (wrap64 (2 * a0_1))] 29 (0,0))) ∧ Aside0 (Below w.heap.size w w'))
 case atStart => exact ⟨(0),(([] : List Int)),(.slice none 0 0),(by first | rfl | (simp;done) | (simp [*];done)),H',⟨Nat.le_refl _⟩,⟨by first | exact Kd.R_nil _ _ _ _ _ | exact Kd.N_nil _ _ _ _ _ | exact Kd.V_nil _ _ _ _ _ | exact Kd.Q_nil _ _ _ _ _ | exact Kd.S_nil _ _ _ _ _⟩,⟨by (with_reducible repeat (first | refine blk_drewN ?_ _ | refine blk_drew ?_ | refine blk_alloc ?_ _));refine blk_far ?_ NB277_279.out _;(with_reducible repeat (first | refine blk_drewN ?_ _ | refine blk_drew ?_ | refine blk_alloc ?_ _));refine blk_far ?_ NB277_279.out _;(with_reducible repeat (first | refine blk_drewN ?_ _ | refine blk_drew ?_ | refine blk_alloc ?_ _));exact BK277.out⟩,⟨by (with_reducible repeat (first | refine blk_drewN ?_ _ | refine blk_drew ?_ | refine blk_alloc ?_ _));refine blk_far ?_ NB278_279.out _;(with_reducible repeat (first | refine blk_drewN ?_ _ | refine blk_drew ?_ | refine blk_alloc ?_ _));refine blk_far ?_ NB278_279.out _;(with_reducible repeat (first | refine blk_drewN ?_ _ | refine blk_drew ?_ | refine blk_alloc ?_ _));exact BK278.out⟩,⟨by (with_reducible repeat (first | refine blk_drewN ?_ _ | refine blk_drew ?_ | refine blk_alloc ?_ _));refine blk_put (cs := #[.slice none 0 0, .int .i64 0]) ?_ 1 _ rfl;(with_reducible repeat (first | refine blk_drewN ?_ _ | refine blk_drew ?_ | refine blk_alloc ?_ _));refine blk_put (cs := #[.slice none 0 0, .int .i64 0]) ?_ 0 _ rfl;(with_reducible repeat (first | refine blk_drewN ?_ _ | refine blk_drew ?_ | refine blk_alloc ?_ _));exact BK279.out⟩,⟨by repeat (first | (with_reducible first | exact HB.out | apply below_alloc | apply pw_below_drewN | apply below_drew1 | refine below_set ?_ GE277.out | refine below_set ?_ GE278.out | refine below_set ?_ GE279.out) | exact HB.out)⟩⟩
 case round =>
  clear H'
  try clear c1
  try clear p2
  try clear c4
  try clear c6
  try clear p6
  try clear c9
  try clear c10
  try clear hcz11_0
  try clear hcz11_1
  try clear hcz12_0
  try clear hcz12_1
  try clear hcz7_0
  try clear hcz7_1
  try clear hfz11_0
  try clear hfz11_1
  try clear hfz12_0
  try clear hfz12_1
  try clear hfz7_0
  try clear hfz7_1
  obtain ⟨x18_1,x280000_1,u280000,rfl,HA,HK1,HO_280000,BK277,BK278,BK279,HB⟩ := hrel
  cases gk with
  | zero => exact absurd HA.out (by simp [impl_mix.l0])
  | succ k1 =>
   have H := HA.out
   clear HA
   simp only [impl_mix.l0] at H
   by_cases c13 : x18_1 < (l0_0.length : Int)
   ·rw [if_pos c13] at H
    have c13b0 : decide (x18_1 < (l0_0.length : Int)) = true := decide_eq_true c13
    clear c13
    by_cases c14 : 0 ≤ x18_1
    ·rw [if_pos c14] at H
     have c14b0 : decide (0 ≤ x18_1) = true := decide_eq_true c14
     clear c14
     by_cases c15 : x18_1 < (l0_0.length : Int)
     ·rw [if_pos c15] at H
      have c15b0 : decide (x18_1 < (l0_0.length : Int)) = true := decide_eq_true c15
      clear c15
      by_cases c16 : x280000_1.length < 17592186044416
      ·rw [if_pos c16] at H
       have LMc16 := Aside0.mk c16
       clear c16
       obtain ⟨y281,hy281⟩ : ∃ y_ : List Int,y_ = (x280000_1 ++ [wrap64 (2 * (rd l0_0 x18_1))]) := ⟨_,rfl⟩
       replace H : (impl_mix.l0 k1 a1 a2 l0_0 (l0_0.length : Int) (wrap64 (x18_1 + 1)) l0_0 a0_1 y281 (wrap64 (2 * a0_1))) = some (r1,r2) := by first | (rw [hy281];with_reducible exact H) | (have H2_ := (Option.bind_some _ _).symm.trans H;rw [hy281];with_reducible exact H2_) | (have H2_ := (Option.bind_some _ _).symm.trans H;with_reducible exact H2_) | with_reducible exact H | (rw [hy281];exact H) | exact H
       have Ny281 := Aside0.mk hy281
       clear hy281
       have H' := Aside0.mk H
       clear H
       have p280 : 0 ≤ (x18_1 : Int) := of_decide_eq_true (by first | (with_reducible assumption) | assumption)
       have q280 : x18_1 < (l0_0.length : Int) := of_decide_eq_true (by first | (with_reducible assumption) | assumption)
       obtain ⟨ad280,e280,hx280_0⟩ := Kd.at_int HR0_0.out x18_1 p280 q280
       cases e280
       replace hx280_0 := (HB.out.cell (World.block_lt_of_cell? w _ hx280_0)).trans hx280_0
       replace p280 := eq_true p280
       replace q280 := eq_true q280
       have hnb17 := NB279_277.out
       have hnc17 := NB277_279.out
       have hnb18 := NB279_278.out
       have hnc18 := NB278_279.out
       have hcz19_0 : wr.cell? ⟨gb279,0,none⟩ = some (u280000) := (blk_cell BK279.out 0).trans rfl
       have hcz19_1 : wr.cell? ⟨gb279,1,none⟩ = some (.int .i64 (wrap64 (2 * a0_1))) := (blk_cell BK279.out 1).trans rfl
       have hfz19_0 := blk_frozen BK279.out 0
       have hfz19_1 := blk_frozen BK279.out 1
       go_wp2_with (first | ((with_reducible refine gate_builtin (b := .append) (xs := #[.tmp 23, .tmp 26]) rfl ?_);at_builtin;refine Kd.R_append (Kd.int .i64) (w0 := w) w.heap.size rfl (.tmp 23) (.tmp 26) 22 3 (.int .i64 0) 8 rfl Try.underlying22 info3 rfl (by decide) (by omega) u280000 x280000_1 (wrap64 (2 * (rd l0_0 x18_1))) [.int .i64 (wrap64 (2 * (rd l0_0 x18_1)))] (fun _ => True) (fun _ => False) rfl rfl ?aP (fun _ hk => hk.elim) ?aF ?aO ?aB ?aS ?aL ?_;(case aP => exact rfl);(case aB => exact (by repeat (first | (with_reducible first | exact HB.out | apply below_alloc | apply pw_below_drewN | apply below_drew1 | refine below_set ?_ GE277.out | refine below_set ?_ GE278.out | refine below_set ?_ GE279.out) | exact HB.out)));(case aF => exact (fun _ _ => trivial));(case aO => exact (by (with_reducible repeat (first | apply Kd.R_alloc | apply Kd.R_drewN | apply Kd.R_drew));exact HO_280000.out));(case aS => exact (below_size (by repeat (first | (with_reducible first | exact HB.out | apply below_alloc | apply pw_below_drewN | apply below_drew1 | refine below_set ?_ GE277.out | refine below_set ?_ GE278.out | refine below_set ?_ GE279.out) | exact HB.out))));(case aL => have := LMc16.out;omega);intro v282 w20 ho hb hg hat;rw [← Ny281.out] at ho;have n0_ := Aside0.mk (blk_grown (g := gb277) (o := .cells #[.slice (some ad280) l0_0.length c0_0, .int .i64 a0_1] 29 (0,0)) (by (with_reducible repeat (first | refine blk_drewN ?_ _ | refine blk_drew ?_ | refine blk_alloc ?_ _));exact BK277.out) hg (Kd.R_ne HO_280000.out BK277.out (by decide)));have n1_ := Aside0.mk (blk_grown (g := gb278) (o := .cells #[.slice none 0 0, .int .i64 0] 29 (0,0)) (by (with_reducible repeat (first | refine blk_drewN ?_ _ | refine blk_drew ?_ | refine blk_alloc ?_ _));exact BK278.out) hg (Kd.R_ne HO_280000.out BK278.out (by decide)));have n2_ := Aside0.mk (blk_grown (g := gb279) (o := .cells #[u280000, .int .i64 (wrap64 (2 * a0_1))] 29 (0,0)) (by (with_reducible repeat (first | refine blk_drewN ?_ _ | refine blk_drew ?_ | refine blk_alloc ?_ _));exact BK279.out) hg (Kd.R_ne HO_280000.out BK279.out (by decide)));have n3_ := Aside0.mk (hb);have n4_ := Aside0.mk (ho);clear BK277;clear BK278;clear BK279;clear HB;clear HO_280000;have BK277 := n0_;have BK278 := n1_;have BK279 := n2_;have HB := n3_;have HO283 := n4_;clear n0_ n1_ n2_ n3_ n4_;clear ho hb hg hat;obtain ⟨Ao21,co21,eo21⟩ := Kd.R_slice HO283.out;subst eo21;have hcz22_0 : w20.cell? ⟨gb279,0,none⟩ = some (u280000) := (blk_cell BK279.out 0).trans rfl;have hcz22_1 : w20.cell? ⟨gb279,1,none⟩ = some (.int .i64 (wrap64 (2 * a0_1))) := (blk_cell BK279.out 1).trans rfl;have hfz22_0 := blk_frozen BK279.out 0;have hfz22_1 := blk_frozen BK279.out 1))
       go_roundg k1
       case measure => have := HK1.out;omega
       case rel => exact ⟨(wrap64 (x18_1 + 1)),(y281),(.slice Ao21 y281.length co21),(by first | rfl | (simp;done) | (simp [*];done)),H',⟨by have := HK1.out;omega⟩,⟨by (with_reducible repeat (first | apply Kd.R_alloc | apply Kd.R_drewN | apply Kd.R_drew));exact Kd.R_mono (Kd.R_far (p := ⟨gb279,0,none⟩) (Kd.R_types HO283.out BK279.out (by decide)) (fun _ hk => hk.2) (.slice Ao21 y281.length co21)) (fun _ hk => trivial)⟩,⟨by (with_reducible repeat (first | refine blk_drewN ?_ _ | refine blk_drew ?_ | refine blk_alloc ?_ _));refine blk_far ?_ NB277_279.out _;(with_reducible repeat (first | refine blk_drewN ?_ _ | refine blk_drew ?_ | refine blk_alloc ?_ _));exact BK277.out⟩,⟨by (with_reducible repeat (first | refine blk_drewN ?_ _ | refine blk_drew ?_ | refine blk_alloc ?_ _));refine blk_far ?_ NB278_279.out _;(with_reducible repeat (first | refine blk_drewN ?_ _ | refine blk_drew ?_ | refine blk_alloc ?_ _));exact BK278.out⟩,⟨by (with_reducible repeat (first | refine blk_drewN ?_ _ | refine blk_drew ?_ | refine blk_alloc ?_ _));refine blk_put (cs := #[u280000, .int .i64 (wrap64 (2 * a0_1))]) ?_ 0 _ rfl;(with_reducible repeat (first | refine blk_drewN ?_ _ | refine blk_drew ?_ | refine blk_alloc ?_ _));exact BK279.out⟩,⟨by repeat (first | (with_reducible first | exact HB.out | apply below_alloc | apply pw_below_drewN | apply below_drew1 | refine below_set ?_ GE277.out | refine below_set ?_ GE278.out | refine below_set ?_ GE279.out) | exact HB.out)⟩⟩
      ·rw [if_neg c16] at H
       exact absurd H (by simp)
     ·rw [if_neg c15] at H
      exact absurd H (by simp)
    ·rw [if_neg c14] at H
     exact absurd H (by simp)
   ·rw [if_neg c13] at H
    have c13b0 : decide (x18_1 < (l0_0.length : Int)) = false := decide_eq_false c13
    clear c13
    by_cases c23 : 0 ≤ a1
    ·rw [if_pos c23] at H
     have c23b0 : decide (0 ≤ a1) = true := decide_eq_true c23
     clear c23
     by_cases c24 : a1 < (l0_0.length : Int)
     ·rw [if_pos c24] at H
      have c24b0 : decide (a1 < (l0_0.length : Int)) = true := decide_eq_true c24
      clear c24
      by_cases c25 : 0 ≤ a2
      ·rw [if_pos c25] at H
       have c25b0 : decide (0 ≤ a2) = true := decide_eq_true c25
       clear c25
       by_cases c26 : a2 < (l0_0.length : Int)
       ·rw [if_pos c26] at H
        have c26b0 : decide (a2 < (l0_0.length : Int)) = true := decide_eq_true c26
        clear c26
        by_cases c27 : a1 < (x280000_1.length : Int)
        ·rw [if_pos c27] at H
         have c27b0 : decide (a1 < (x280000_1.length : Int)) = true := decide_eq_true c27
         clear c27
         obtain ⟨y286,hy286⟩ : ∃ y_ : List Int,y_ = (x280000_1.set (a1 : Int).toNat (wrap64 ((rd l0_0 a1) + (rd l0_0 a2)))) := ⟨_,rfl⟩
         replace H : (if a2 < (x280000_1.length : Int) then ((impl_reduced.f k1 (y286.set (a2 : Int).toNat (wrap64 ((rd l0_0 a1) + (rd l0_0 a2)))) (wrap64 (2 * a0_1))).bind fun bt288 => (some (bt288.1,bt288.2))) else (none)) = some (r1,r2) := by first | (rw [hy286];with_reducible exact H) | (have H2_ := (Option.bind_some _ _).symm.trans H;rw [hy286];with_reducible exact H2_) | (have H2_ := (Option.bind_some _ _).symm.trans H;with_reducible exact H2_) | with_reducible exact H | (rw [hy286];exact H) | exact H
         have Ny286 := Aside0.mk hy286
         clear hy286
         by_cases c29 : a2 < (x280000_1.length : Int)
         ·rw [if_pos c29] at H
          have c29b0 : decide (a2 < (x280000_1.length : Int)) = true := decide_eq_true c29
          clear c29
          obtain ⟨y287,hy287⟩ : ∃ y_ : List Int,y_ = (y286.set (a2 : Int).toNat (wrap64 ((rd l0_0 a1) + (rd l0_0 a2)))) := ⟨_,rfl⟩
          replace H : ((impl_reduced.f k1 y287 (wrap64 (2 * a0_1))).bind fun bt288 => (some (bt288.1,bt288.2))) = some (r1,r2) := by first | (rw [hy287];with_reducible exact H) | (have H2_ := (Option.bind_some _ _).symm.trans H;rw [hy287];with_reducible exact H2_) | (have H2_ := (Option.bind_some _ _).symm.trans H;with_reducible exact H2_) | with_reducible exact H | (rw [hy287];exact H) | exact H
          have Ny287 := Aside0.mk hy287
          clear hy287
          replace H := Option.bind_eq_some_iff.mp H
          obtain ⟨⟨t288,t291⟩,A310,H⟩ := H
          replace H : (some (t288,t291)) = some (r1,r2) := H
          have A31 := Aside0.mk A310
          clear A310
          simp only [Option.some.injEq,Prod.mk.injEq] at H
          obtain ⟨rfl,rfl⟩ := H
          try go_wp2
          have n0_ := Aside0.mk (Kd.R_drew HO_280000.out)
          have n1_ := Aside0.mk (blk_drew BK277.out)
          have n2_ := Aside0.mk (blk_drew BK278.out)
          have n3_ := Aside0.mk (blk_drew BK279.out)
          have n4_ := Aside0.mk (below_drew1 HB.out)
          clear HO_280000
          clear BK277
          clear BK278
          clear BK279
          clear HB
          have HO_280000 := n0_
          have BK277 := n1_
          have BK278 := n2_
          have BK279 := n3_
          have HB := n4_
          clear n0_ n1_ n2_ n3_ n4_
          have p284 : 0 ≤ (a1 : Int) := of_decide_eq_true (by first | (with_reducible assumption) | assumption)
          have q284 : a1 < (l0_0.length : Int) := of_decide_eq_true (by first | (with_reducible assumption) | assumption)
          obtain ⟨ad284,e284,hx284_0⟩ := Kd.at_int HR0_0.out a1 p284 q284
          have hw284_0 := hx284_0
          cases e284
          replace hx284_0 := (HB.out.cell (World.block_lt_of_cell? w _ hx284_0)).trans hx284_0
          replace p284 := eq_true p284
          replace q284 := eq_true q284
          have p285 : 0 ≤ (a2 : Int) := of_decide_eq_true (by first | (with_reducible assumption) | assumption)
          have q285 : a2 < (l0_0.length : Int) := of_decide_eq_true (by first | (with_reducible assumption) | assumption)
          obtain ⟨ad285,e285,hx285_0⟩ := Kd.at_int HR0_0.out a2 p285 q285
          have hw285_0 := hx285_0
          obtain rfl : ad284 = ad285 := (by injection e285)
          replace hx285_0 := (HB.out.cell (World.block_lt_of_cell? w _ hx285_0)).trans hx285_0
          replace p285 := eq_true p285
          replace q285 := eq_true q285
          refine start_ (n := 12) (S := fun w' => w'.cell? ⟨gb277,0,none⟩ = some (.slice (some ad284) l0_0.length c0_0) ∧ w'.cell? ⟨gb277,1,none⟩ = some (.int .i64 a0_1) ∧ w'.cell? (ad284.add (a1).toNat) = some (.int .i64 (rd l0_0 a1)) ∧ w'.cell? (ad284.add (a2).toNat) = some (.int .i64 (rd l0_0 a2))) (ds := []) #[false,false,false,false,false,false,false,false,false,false,false,false] (by kernel_rfl) rfl rfl ⟨(blk_cell BK277.out 0).trans rfl,(blk_cell BK277.out 1).trans rfl,((HB.out.cell (World.block_lt_of_cell? w _ hw284_0)).trans hw284_0),((HB.out.cell (World.block_lt_of_cell? w _ hw285_0)).trans hw285_0)⟩ (fun hHeld => ?_);refine with_tabW impl_mix.tab7 impl_mix.bits7 (fun HT_ HW_ => ?_)
          generalize wr.drew = w32 at HO_280000 BK277 BK278 BK279 HB hx284_0 hx285_0 hHeld ⊢
          refine pure_ (i := 0) (N := some 30) (v := ?_) (a' := ?_) #[true,false,false,false,false,false,false,false,false,false,false,false] rfl rfl (any_of HT_.out (by kernel_rfl)) (fun _ _ _ h => h) (Or.inl ⟨by rfl,?_⟩) ?_ ?_
          rotate_left
          ·intro w'
           go_simp
           with_reducible rfl
          rotate_left
          ·simp only [Act.put,List.setIfInBounds_toArray,List.set_cons_zero,List.set_cons_succ,i64_w,i32_w]
           rfl
          refine pure_ (i := 2) (N := some 32) (v := ?_) (a' := ?_) #[true,false,true,false,false,false,false,false,false,false,false,false] rfl rfl (any_of HT_.out (by kernel_rfl)) (fun _ _ _ h => h) (Or.inl ⟨by rfl,?_⟩) ?_ ?_
          rotate_left
          ·intro w'
           go_simp
           with_reducible rfl
          rotate_left
          ·simp only [Act.put,List.setIfInBounds_toArray,List.set_cons_zero,List.set_cons_succ,i64_w,i32_w]
           rfl
          refine pure_ (i := 5) (N := some 35) (v := ?_) (a' := ?_) #[true,false,true,false,false,true,false,false,false,false,false,false] rfl rfl (any_of HT_.out (by kernel_rfl)) (fun _ _ _ h => h) (Or.inl ⟨by rfl,?_⟩) ?_ ?_
          rotate_left
          ·intro w'
           go_simp
           with_reducible rfl
          rotate_left
          ·simp only [Act.put,List.setIfInBounds_toArray,List.set_cons_zero,List.set_cons_succ,i64_w,i32_w]
           rfl
          refine pure_ (i := 7) (N := some 37) (v := ?_) (a' := ?_) #[true,false,true,false,false,true,false,true,false,false,false,false] rfl rfl (any_of HT_.out (by kernel_rfl)) (fun _ _ _ h => h) (Or.inl ⟨by rfl,?_⟩) ?_ ?_
          rotate_left
          ·intro w'
           go_simp
           with_reducible rfl
          rotate_left
          ·simp only [Act.put,List.setIfInBounds_toArray,List.set_cons_zero,List.set_cons_succ,i64_w,i32_w]
           rfl
          refine take_ (i := 1) (N := some 31) (v := ?_) (a' := ?_) #[true,true,true,false,false,true,false,true,false,false,false,false] rfl rfl (take_ofW HT_.out HW_.out (by kernel_rfl)) (fun _ _ _ h => h) (Or.inl ⟨by rfl,?_⟩) hHeld ?_ ?_
          rotate_left
          ·rintro w' ⟨s0,s1,s2,s3⟩
           go_simp
           with_reducible rfl
          rotate_left
          ·simp only [Act.put,List.setIfInBounds_toArray,List.set_cons_zero,List.set_cons_succ,i64_w,i32_w]
           rfl
          refine pure_ (i := 3) (N := some 33) (v := ?_) (a' := ?_) #[true,true,true,true,false,true,false,true,false,false,false,false] rfl rfl (any_of HT_.out (by kernel_rfl)) (fun _ _ _ h => h) (Or.inl ⟨by rfl,?_⟩) ?_ ?_
          rotate_left
          ·intro w'
           go_simp
           with_reducible rfl
          rotate_left
          ·simp only [Act.put,List.setIfInBounds_toArray,List.set_cons_zero,List.set_cons_succ,i64_w,i32_w]
           rfl
          refine take_ (i := 4) (N := some 34) (v := ?_) (a' := ?_) #[true,true,true,true,true,true,false,true,false,false,false,false] rfl rfl (take_ofW HT_.out HW_.out (by kernel_rfl)) (fun _ _ _ h => h) (Or.inl ⟨by rfl,?_⟩) hHeld ?_ ?_
          rotate_left
          ·rintro w' ⟨s0,s1,s2,s3⟩
           go_simp
           with_reducible rfl
          rotate_left
          ·simp only [Act.put,List.setIfInBounds_toArray,List.set_cons_zero,List.set_cons_succ,i64_w,i32_w]
           rfl
          refine take_ (i := 6) (N := some 36) (v := ?_) (a' := ?_) #[true,true,true,true,true,true,true,true,false,false,false,false] rfl rfl (take_ofW HT_.out HW_.out (by kernel_rfl)) (fun _ _ _ h => h) (Or.inl ⟨by rfl,?_⟩) hHeld ?_ ?_
          rotate_left
          ·rintro w' ⟨s0,s1,s2,s3⟩
           go_simp
           with_reducible rfl
          rotate_left
          ·simp only [Act.put,List.setIfInBounds_toArray,List.set_cons_zero,List.set_cons_succ,i64_w,i32_w]
           rfl
          refine pure_ (i := 8) (N := some 38) (v := ?_) (a' := ?_) #[true,true,true,true,true,true,true,true,true,false,false,false] rfl rfl (any_of HT_.out (by kernel_rfl)) (fun _ _ _ h => h) (Or.inl ⟨by rfl,?_⟩) ?_ ?_
          rotate_left
          ·intro w'
           go_simp
           with_reducible rfl
          rotate_left
          ·simp only [Act.put,List.setIfInBounds_toArray,List.set_cons_zero,List.set_cons_succ,i64_w,i32_w]
           rfl
          refine take_ (i := 9) (N := some 39) (v := ?_) (a' := ?_) #[true,true,true,true,true,true,true,true,true,true,false,false] rfl rfl (take_ofW HT_.out HW_.out (by kernel_rfl)) (fun _ _ _ h => h) (Or.inl ⟨by rfl,?_⟩) hHeld ?_ ?_
          rotate_left
          ·rintro w' ⟨s0,s1,s2,s3⟩
           go_simp
           with_reducible rfl
          rotate_left
          ·simp only [Act.put,List.setIfInBounds_toArray,List.set_cons_zero,List.set_cons_succ,i64_w,i32_w]
           rfl
          refine pure_ (i := 10) (N := some 40) (v := ?_) (a' := ?_) #[true,true,true,true,true,true,true,true,true,true,true,false] rfl rfl (any_of HT_.out (by kernel_rfl)) (fun _ _ _ h => h) (Or.inl ⟨by rfl,?_⟩) ?_ ?_
          rotate_left
          ·intro w'
           go_simp
           with_reducible rfl
          rotate_left
          ·simp only [Act.put,List.setIfInBounds_toArray,List.set_cons_zero,List.set_cons_succ,i64_w,i32_w]
           rfl
          refine pure_ (i := 11) (N := some 10) (v := ?_) (a' := ?_) #[true,true,true,true,true,true,true,true,true,true,true,true] rfl rfl (any_of HT_.out (by kernel_rfl)) (fun _ _ _ h => h) (Or.inl ⟨by rfl,?_⟩) ?_ ?_
          rotate_left
          ·intro w'
           go_simp
           with_reducible rfl
          rotate_left
          ·simp only [Act.put,List.setIfInBounds_toArray,List.set_cons_zero,List.set_cons_succ,i64_w,i32_w]
           rfl
          refine done_ (done_of HT_.out (by kernel_rfl)) ?_
          try go_wp2
          have n0_ := Aside0.mk (Kd.R_drew HO_280000.out)
          have n1_ := Aside0.mk (blk_drew BK277.out)
          have n2_ := Aside0.mk (blk_drew BK278.out)
          have n3_ := Aside0.mk (blk_drew BK279.out)
          have n4_ := Aside0.mk (below_drew1 HB.out)
          clear HO_280000
          clear BK277
          clear BK278
          clear BK279
          clear HB
          have HO_280000 := n0_
          have BK277 := n1_
          have BK278 := n2_
          have BK279 := n3_
          have HB := n4_
          clear n0_ n1_ n2_ n3_ n4_
          have p28 : 0 ≤ (a1 : Int) := of_decide_eq_true (by first | (with_reducible assumption) | assumption)
          have q28 : (a1 : Int) < ((x280000_1.length : Int) : Int) := of_decide_eq_true (by first | (with_reducible assumption) | assumption)
          obtain ⟨go28,co28,eo28,gb28,gl28,cl28,HG28⟩ := Kd.R_form HO_280000.out (by omega)
          (first | cases eo28 | (injection eo28 with ea_ en_ ec_;(first | subst ea_ | (injection ea_ with ea_;subst ea_));subst ec_;clear en_))
          have GB28 := Aside0.mk gb28
          have GG28 := Aside0.mk HG28
          clear gb28 gl28 HG28
          obtain ⟨hx28_0,hf28_0⟩ := Kd.R_celln 0 HO_280000.out (a1 : Int) p28 q28
          replace p28 := eq_true p28
          replace q28 := eq_true q28
          have HP34 := Kd.R_putn HO_280000.out (a1 : Int) (wrap64 ((rd l0_0 a1) + (rd l0_0 a2)))
          rw [← Ny286.out] at HP34
          have HQ34 := Aside0.mk HP34
          clear HP34
          have p30 : 0 ≤ (a2 : Int) := of_decide_eq_true (by first | (with_reducible assumption) | assumption)
          have q30 : (a2 : Int) < ((x280000_1.length : Int) : Int) := of_decide_eq_true (by first | (with_reducible assumption) | assumption)
          obtain ⟨hx30_0,hf30_0⟩ := Kd.R_celln 0 HQ34.out (a2 : Int) p30 q30
          replace p30 := eq_true p30
          replace q30 := eq_true q30
          have HP35 := Kd.R_putn HQ34.out (a2 : Int) (wrap64 ((rd l0_0 a1) + (rd l0_0 a2)))
          rw [← Ny287.out] at HP35
          have HQ35 := Aside0.mk HP35
          clear HP35
          refine start_ (n := 12) (S := fun w' => w'.cell? ⟨gb279,0,none⟩ = some (.slice (some ⟨go28,0,none⟩) x280000_1.length co28) ∧ w'.cell? ⟨gb279,1,none⟩ = some (.int .i64 (wrap64 (2 * a0_1)))) (ds := [11]) #[false,false,false,false,false,false,false,false,false,false,false,false] (by kernel_rfl) rfl rfl ⟨(blk_cell BK279.out 0).trans rfl,(blk_cell BK279.out 1).trans rfl⟩ (fun hHeld => ?_);refine with_tabW impl_mix.tab8 impl_mix.bits8 (fun HT_ HW_ => ?_)
          generalize w32.drew = w33 at HO_280000 BK277 BK278 BK279 HB GG28 HQ34 HQ35 hf28_0 hf30_0 hx28_0 hx30_0 hHeld ⊢
          refine pure_ (i := 0) (N := some 41) (v := ?_) (a' := ?_) #[true,false,false,false,false,false,false,false,false,false,false,false] rfl rfl (any_of HT_.out (by kernel_rfl)) (fun _ _ _ h => h) (Or.inl ⟨by rfl,?_⟩) ?_ ?_
          rotate_left
          ·intro w'
           go_simp
           with_reducible rfl
          rotate_left
          ·simp only [Act.put,List.setIfInBounds_toArray,List.set_cons_zero,List.set_cons_succ,i64_w,i32_w]
           rfl
          refine pure_ (i := 2) (N := some 43) (v := ?_) (a' := ?_) #[true,false,true,false,false,false,false,false,false,false,false,false] rfl rfl (any_of HT_.out (by kernel_rfl)) (fun _ _ _ h => h) (Or.inl ⟨by rfl,?_⟩) ?_ ?_
          rotate_left
          ·intro w'
           go_simp
           with_reducible rfl
          rotate_left
          ·simp only [Act.put,List.setIfInBounds_toArray,List.set_cons_zero,List.set_cons_succ,i64_w,i32_w]
           rfl
          refine pure_ (i := 3) (N := some 44) (v := ?_) (a' := ?_) #[true,false,true,true,false,false,false,false,false,false,false,false] rfl rfl (any_of HT_.out (by kernel_rfl)) (fun _ _ _ h => h) (Or.inl ⟨by rfl,?_⟩) ?_ ?_
          rotate_left
          ·intro w'
           go_simp
           with_reducible rfl
          rotate_left
          ·simp only [Act.put,List.setIfInBounds_toArray,List.set_cons_zero,List.set_cons_succ,i64_w,i32_w]
           rfl
          refine pure_ (i := 5) (N := some 46) (v := ?_) (a' := ?_) #[true,false,true,true,false,true,false,false,false,false,false,false] rfl rfl (any_of HT_.out (by kernel_rfl)) (fun _ _ _ h => h) (Or.inl ⟨by rfl,?_⟩) ?_ ?_
          rotate_left
          ·intro w'
           go_simp
           with_reducible rfl
          rotate_left
          ·simp only [Act.put,List.setIfInBounds_toArray,List.set_cons_zero,List.set_cons_succ,i64_w,i32_w]
           rfl
          refine pure_ (i := 6) (N := some 47) (v := ?_) (a' := ?_) #[true,false,true,true,false,true,true,false,false,false,false,false] rfl rfl (any_of HT_.out (by kernel_rfl)) (fun _ _ _ h => h) (Or.inl ⟨by rfl,?_⟩) ?_ ?_
          rotate_left
          ·intro w'
           go_simp
           with_reducible rfl
          rotate_left
          ·simp only [Act.put,List.setIfInBounds_toArray,List.set_cons_zero,List.set_cons_succ,i64_w,i32_w]
           rfl
          refine pure_ (i := 7) (N := some 48) (v := ?_) (a' := ?_) #[true,false,true,true,false,true,true,true,false,false,false,false] rfl rfl (any_of HT_.out (by kernel_rfl)) (fun _ _ _ h => h) (Or.inl ⟨by rfl,?_⟩) ?_ ?_
          rotate_left
          ·intro w'
           go_simp
           with_reducible rfl
          rotate_left
          ·simp only [Act.put,List.setIfInBounds_toArray,List.set_cons_zero,List.set_cons_succ,i64_w,i32_w]
           rfl
          refine take_ (i := 1) (N := some 42) (v := ?_) (a' := ?_) #[true,true,true,true,false,true,true,true,false,false,false,false] rfl rfl (take_ofW HT_.out HW_.out (by kernel_rfl)) (fun _ _ _ h => h) (Or.inl ⟨by rfl,?_⟩) hHeld ?_ ?_
          rotate_left
          ·rintro w' ⟨s0,s1⟩
           go_simp
           with_reducible rfl
          rotate_left
          ·simp only [Act.put,List.setIfInBounds_toArray,List.set_cons_zero,List.set_cons_succ,i64_w,i32_w]
           rfl
          refine pure_ (i := 8) (N := some 49) (v := ?_) (a' := ?_) #[true,true,true,true,false,true,true,true,true,false,false,false] rfl rfl (any_of HT_.out (by kernel_rfl)) (fun _ _ _ h => h) (Or.inl ⟨by rfl,?_⟩) ?_ ?_
          rotate_left
          ·intro w'
           go_simp
           with_reducible rfl
          rotate_left
          ·simp only [Act.put,List.setIfInBounds_toArray,List.set_cons_zero,List.set_cons_succ,i64_w,i32_w]
           rfl
          refine take_ (i := 4) (N := some 45) (v := ?_) (a' := ?_) #[true,true,true,true,true,true,true,true,true,false,false,false] rfl rfl (take_ofW HT_.out HW_.out (by kernel_rfl)) (fun _ _ _ h => h) (Or.inl ⟨by rfl,?_⟩) hHeld ?_ ?_
          rotate_left
          ·rintro w' ⟨s0,s1⟩
           go_simp
           with_reducible rfl
          rotate_left
          ·simp only [Act.put,List.setIfInBounds_toArray,List.set_cons_zero,List.set_cons_succ,i64_w,i32_w]
           rfl
          refine one_ (i := 9) (N := none) #[true,true,true,true,true,true,true,true,true,true,false,false] rfl rfl (one_of HT_.out (by kernel_rfl)) (by decide) (fun K hK => ?_)
          refine skip_ (w1 := ?_) (by rfl) rfl ?_ ?_
          rotate_left
          ·go_simp
           rfl
          refine hK.out _ _ ⟨((cell_far (p := ⟨go28,_,none⟩) (blk_ne BK279.out GG28.out (by decide)) _).trans (hHeld.1)),((cell_far (p := ⟨go28,_,none⟩) (blk_ne BK279.out GG28.out (by decide)) _).trans (hHeld.2))⟩ (fun hHeld => ?_)
          clear hK K
          refine pure_ (i := 10) (N := some 50) (v := ?_) (a' := ?_) #[true,true,true,true,true,true,true,true,true,true,true,false] rfl rfl (any_of HT_.out (by kernel_rfl)) (fun _ _ _ h => h) (Or.inl ⟨by rfl,?_⟩) ?_ ?_
          rotate_left
          ·intro w'
           go_simp
           with_reducible rfl
          rotate_left
          ·simp only [Act.put,List.setIfInBounds_toArray,List.set_cons_zero,List.set_cons_succ,i64_w,i32_w]
           rfl
          refine last_ (i := 11) (N := none) #[true,true,true,true,true,true,true,true,true,true,true,true] rfl rfl (one_of HT_.out (by kernel_rfl)) (by decide) (fun K hK => ?_)
          refine skip_ (w1 := ?_) (by rfl) rfl ?_ ?_
          rotate_left
          ·go_simp
           rfl
          refine hK.out _ _ ?_
          clear hK K
          refine done_ (done_of HT_.out (by kernel_rfl)) ?_
          have n0_ : Aside0 (Kd.R (Kd.int .i64) 3 ((w33.setCell ⟨go28,(a1 : Int).toNat,none⟩ (.int .i64 (wrap64 ((rd l0_0 a1) + (rd l0_0 a2))))).setCell ⟨go28,(a2 : Int).toNat,none⟩ (.int .i64 (wrap64 ((rd l0_0 a1) + (rd l0_0 a2))))) w.heap.size (fun _ => True) (.slice (some ⟨go28,0,none⟩) x280000_1.length co28) y287) := ⟨by (with_reducible repeat (first | apply Kd.R_alloc | apply Kd.R_drewN | apply Kd.R_drew));exact HQ35.out⟩
          have n1_ : Aside0 (((w33.setCell ⟨go28,(a1 : Int).toNat,none⟩ (.int .i64 (wrap64 ((rd l0_0 a1) + (rd l0_0 a2))))).setCell ⟨go28,(a2 : Int).toNat,none⟩ (.int .i64 (wrap64 ((rd l0_0 a1) + (rd l0_0 a2))))).heap[gb277]? = some (.cells #[.slice (some ad284) l0_0.length c0_0, .int .i64 a0_1] 29 (0,0))) := ⟨by (with_reducible repeat (first | refine blk_drewN ?_ _ | refine blk_drew ?_ | refine blk_alloc ?_ _));refine blk_far ?_ (by have h_ := Kd.R_ne HO_280000.out BK277.out (by decide);intro e_;exact h_ (by rw [e_];rfl)) _;(with_reducible repeat (first | refine blk_drewN ?_ _ | refine blk_drew ?_ | refine blk_alloc ?_ _));refine blk_far ?_ (by have h_ := Kd.R_ne HO_280000.out BK277.out (by decide);intro e_;exact h_ (by rw [e_];rfl)) _;(with_reducible repeat (first | refine blk_drewN ?_ _ | refine blk_drew ?_ | refine blk_alloc ?_ _));exact BK277.out⟩
          have n2_ : Aside0 (((w33.setCell ⟨go28,(a1 : Int).toNat,none⟩ (.int .i64 (wrap64 ((rd l0_0 a1) + (rd l0_0 a2))))).setCell ⟨go28,(a2 : Int).toNat,none⟩ (.int .i64 (wrap64 ((rd l0_0 a1) + (rd l0_0 a2))))).heap[gb278]? = some (.cells #[.slice none 0 0, .int .i64 0] 29 (0,0))) := ⟨by (with_reducible repeat (first | refine blk_drewN ?_ _ | refine blk_drew ?_ | refine blk_alloc ?_ _));refine blk_far ?_ (by have h_ := Kd.R_ne HO_280000.out BK278.out (by decide);intro e_;exact h_ (by rw [e_];rfl)) _;(with_reducible repeat (first | refine blk_drewN ?_ _ | refine blk_drew ?_ | refine blk_alloc ?_ _));refine blk_far ?_ (by have h_ := Kd.R_ne HO_280000.out BK278.out (by decide);intro e_;exact h_ (by rw [e_];rfl)) _;(with_reducible repeat (first | refine blk_drewN ?_ _ | refine blk_drew ?_ | refine blk_alloc ?_ _));exact BK278.out⟩
          have n3_ : Aside0 (((w33.setCell ⟨go28,(a1 : Int).toNat,none⟩ (.int .i64 (wrap64 ((rd l0_0 a1) + (rd l0_0 a2))))).setCell ⟨go28,(a2 : Int).toNat,none⟩ (.int .i64 (wrap64 ((rd l0_0 a1) + (rd l0_0 a2))))).heap[gb279]? = some (.cells #[.slice (some ⟨go28,0,none⟩) x280000_1.length co28, .int .i64 (wrap64 (2 * a0_1))] 29 (0,0))) := ⟨by (with_reducible repeat (first | refine blk_drewN ?_ _ | refine blk_drew ?_ | refine blk_alloc ?_ _));refine blk_far ?_ (by have h_ := Kd.R_ne HO_280000.out BK279.out (by decide);intro e_;exact h_ (by rw [e_];rfl)) _;(with_reducible repeat (first | refine blk_drewN ?_ _ | refine blk_drew ?_ | refine blk_alloc ?_ _));refine blk_far ?_ (by have h_ := Kd.R_ne HO_280000.out BK279.out (by decide);intro e_;exact h_ (by rw [e_];rfl)) _;(with_reducible repeat (first | refine blk_drewN ?_ _ | refine blk_drew ?_ | refine blk_alloc ?_ _));exact BK279.out⟩
          have n4_ : Aside0 (Below w.heap.size w ((w33.setCell ⟨go28,(a1 : Int).toNat,none⟩ (.int .i64 (wrap64 ((rd l0_0 a1) + (rd l0_0 a2))))).setCell ⟨go28,(a2 : Int).toNat,none⟩ (.int .i64 (wrap64 ((rd l0_0 a1) + (rd l0_0 a2)))))) := ⟨by repeat (first | (with_reducible first | exact HB.out | apply below_alloc | apply pw_below_drewN | apply below_drew1 | refine below_set ?_ GB28.out | refine below_set ?_ GB28.out | refine below_set ?_ GE277.out | refine below_set ?_ GE278.out | refine below_set ?_ GE279.out) | exact HB.out)⟩
          (try clear HO_280000)
          (try clear BK277)
          (try clear BK278)
          (try clear BK279)
          (try clear HB)
          generalize ((w33.setCell ⟨go28,(a1 : Int).toNat,none⟩ (.int .i64 (wrap64 ((rd l0_0 a1) + (rd l0_0 a2))))).setCell ⟨go28,(a2 : Int).toNat,none⟩ (.int .i64 (wrap64 ((rd l0_0 a1) + (rd l0_0 a2))))) = w36 at n0_ n1_ n2_ n3_ n4_ ⊢
          have HO_280000 := n0_
          have BK277 := n1_
          have BK278 := n2_
          have BK279 := n3_
          have HB := n4_
          clear n0_ n1_ n2_ n3_ n4_
          have hnb37 := NB279_277.out
          have hnc37 := NB277_279.out
          have hnb38 := NB279_278.out
          have hnc38 := NB278_279.out
          have hcz39_0 : w36.cell? ⟨gb279,0,none⟩ = some (.slice (some ⟨go28,0,none⟩) x280000_1.length co28) := (blk_cell BK279.out 0).trans rfl
          have hcz39_1 : w36.cell? ⟨gb279,1,none⟩ = some (.int .i64 (wrap64 (2 * a0_1))) := (blk_cell BK279.out 1).trans rfl
          have hfz39_0 := blk_frozen BK279.out 0
          have hfz39_1 := blk_frozen BK279.out 1
          try go_wp2_with (first | ((with_reducible refine gate_callee (f := 59) rfl ?_);refine goesL_ (some 52) rfl rfl Try.func59 (by kernel_rfl) rfl #[.agg #[.slice (some ⟨go28,0,none⟩) x280000_1.length co28, .int .i64 (wrap64 (2 * a0_1))]] rfl (by (try simp only [List.map_toArray,List.map_cons,List.map_nil]);first | done | rfl | (simp only [List.length_drop,List.length_take];rfl)) ?_;(with_reducible refine (impl_reduced.calls k1 (fun k_ => some k_ = (.slice (some ⟨go28,0,none⟩) x280000_1.length co28 : Value).ownBlock) (.slice (some ⟨go28,0,none⟩) x280000_1.length co28) y287 (wrap64 (2 * a0_1)) t288 t291 w _ ?side1 ?side2 A31.out).mono ?_);(case side1 => repeat (first | (with_reducible first | exact HB.out | apply below_alloc | apply pw_below_drewN | apply below_drew1 | refine below_set ?_ GE277.out | refine below_set ?_ GE278.out | refine below_set ?_ GE279.out) | exact HB.out));(case side2 => exact Kd.R_tight rfl HO_280000.out);rintro e w40 ⟨v289,rfl,ho0,hb,hkp⟩;refine ⟨_,rfl,?_⟩;have n0_ := Aside0.mk (blk_kept (by (with_reducible repeat (first | refine blk_drewN ?_ _ | refine blk_drew ?_ | refine blk_alloc ?_ _));exact BK277.out) hkp (fun hs_ => (fun e_ => (Kd.R_ne HO_280000.out BK277.out (by decide)) e_) hs_));have n1_ := Aside0.mk (blk_kept (by (with_reducible repeat (first | refine blk_drewN ?_ _ | refine blk_drew ?_ | refine blk_alloc ?_ _));exact BK278.out) hkp (fun hs_ => (fun e_ => (Kd.R_ne HO_280000.out BK278.out (by decide)) e_) hs_));have n2_ := Aside0.mk (blk_kept (by (with_reducible repeat (first | refine blk_drewN ?_ _ | refine blk_drew ?_ | refine blk_alloc ?_ _));exact BK279.out) hkp (fun hs_ => (fun e_ => (Kd.R_ne HO_280000.out BK279.out (by decide)) e_) hs_));have n3_ := Aside0.mk (Kd.R_mono (ok' := fun k_ => True) ho0 (fun k_ hk_ => trivial));have n4_ := Aside0.mk (hb);clear BK277;clear BK278;clear BK279;clear HB;clear HO_280000;have BK277 := n0_;have BK278 := n1_;have BK279 := n2_;have HO290 := n3_;have HB := n4_;clear n0_ n1_ n2_ n3_ n4_;(try clear hb);(try clear hkp);(try clear ho0);obtain ⟨Ao41,co41,eo41⟩ := Kd.R_slice HO290.out;subst eo41;have hnb42 := NB278_277.out;have hnc42 := NB277_278.out;have hcz43_0 : w40.cell? ⟨gb278,0,none⟩ = some (.slice none 0 0) := (blk_cell BK278.out 0).trans rfl;have hcz43_1 : w40.cell? ⟨gb278,1,none⟩ = some (.int .i64 0) := (blk_cell BK278.out 1).trans rfl;have hfz43_0 := blk_frozen BK278.out 0;have hfz43_1 := blk_frozen BK278.out 1))
          refine bodyPost_ret (results_cell_row rfl _ _ gb278 29 #[.slice Ao41 t288.length co41, .int .i64 t291] (0,0) _ rfl (by (with_reducible repeat (first | refine blk_drewN ?_ _ | refine blk_drew ?_ | refine blk_alloc ?_ _));refine blk_put (cs := #[.slice Ao41 t288.length co41, .int .i64 0]) ?_ 1 _ rfl;(with_reducible repeat (first | refine blk_drewN ?_ _ | refine blk_drew ?_ | refine blk_alloc ?_ _));refine blk_put (cs := #[.slice none 0 0, .int .i64 0]) ?_ 0 _ rfl;(with_reducible repeat (first | refine blk_drewN ?_ _ | refine blk_drew ?_ | refine blk_alloc ?_ _));exact BK278.out) Try.underlying29 rfl (by kernel_rfl)) rfl ?_
          exact ⟨_,by first | rfl | (simp [errW_none,errW_some] <;> rfl) | (simp [*,errW_none,errW_some] <;> rfl),by (with_reducible repeat (first | apply Kd.R_alloc | apply Kd.R_drewN | apply Kd.R_drew));exact Kd.R_mono (Kd.R_far (p := ⟨gb278,1,none⟩) (Kd.R_far (p := ⟨gb278,0,none⟩) (Kd.R_types HO290.out BK278.out (by decide)) (fun _ hk => hk.2) (.slice Ao41 t288.length co41)) (fun _ hk => hk.2) (.int .i64 t291)) (fun _ hk => trivial),by repeat (first | (with_reducible first | exact HB.out | apply below_alloc | apply pw_below_drewN | apply below_drew1 | refine below_set ?_ GE277.out | refine below_set ?_ GE278.out | refine below_set ?_ GE279.out) | exact HB.out)⟩
         ·rw [if_neg c29] at H
          exact absurd H (by simp)
        ·rw [if_neg c27] at H
         exact absurd H (by simp)
       ·rw [if_neg c26] at H
        exact absurd H (by simp)
      ·rw [if_neg c25] at H
       exact absurd H (by simp)
     ·rw [if_neg c24] at H
      exact absurd H (by simp)
    ·rw [if_neg c23] at H
     exact absurd H (by simp)

end Go.Proofs.Ytmkpngmdikbbeaa.P
