/- Written by a program of this workplace (own_print.py, over the kit's print) for the functions that the statements reach, with contracts of its own. Lean checks it. -/
import Derived.Test.YtmkpngmdikbbeaaPx0
import Derived.Test.YtmkpngmdikbbeaaPx8
namespace Go.Proofs.Ytmkpngmdikbbeaa.P
open Go.RowKit Go.Proofs.YtmkpngmdikbbeaaW.PrintWords Go.Proofs.YtmkpngmdikbbeaaW.PrintLast Go.Proofs.YtmkpngmdikbbeaaW.PrintMore
attribute [local go_sem] max2_int min2_int max_two min_two max_three min_three max_four min_four   -- for this text's walks alone
set_option linter.unusedVariables false
set_option linter.unusedSimpArgs false

/-! ### impl_mix: function 42 -/
def impl_mix.l0 : Nat → Int → Int → List Int → Int → Int → List Int → Int → List Int → Int → Option (List Int × Int)
 | 0,_,_,_,_,_,_,_,_,_ => none
 | k + 1,x1,x2,x16,x17,x18,x268000,x268001,x270000,x270001 => if x18 < x17 then (if 0 ≤ x18 then (if x18 < (x16.length : Int) then (if x270000.length < 17592186044416 then (impl_mix.l0 k x1 x2 x16 x17 (wrap64 (x18 + 1)) x268000 x268001 (x270000 ++ [wrap64 (2 * (rd x16 x18))]) x270001) else (none)) else (none)) else (none)) else (if 0 ≤ x1 then (if x1 < (x268000.length : Int) then (if 0 ≤ x2 then (if x2 < (x268000.length : Int) then (if x1 < (x270000.length : Int) then (if x2 < (x270000.length : Int) then ((impl_reduced.f k ((x270000.set (x1 : Int).toNat (wrap64 ((rd x268000 x1) + (rd x268000 x2)))).set (x2 : Int).toNat (wrap64 ((rd x268000 x1) + (rd x268000 x2)))) x270001).bind fun bt278 => (some (bt278.1,bt278.2))) else (none)) else (none)) else (none)) else (none)) else (none)) else (none))
def impl_mix.f (k : Nat) (l0_0 : List Int) (a0_1 : Int) (a1 : Int) (a2 : Int) : Option (List Int × Int) := impl_mix.l0 k a1 a2 l0_0 (l0_0.length : Int) 0 l0_0 a0_1 ([] : List Int) (wrap64 (2 * a0_1))
theorem impl_mix.mono_l : ∀ k,(∀ y0 y1 y2 y3 y4 y5 y6 y7 y8,LeO (impl_mix.l0 k y0 y1 y2 y3 y4 y5 y6 y7 y8) (impl_mix.l0 (k + 1) y0 y1 y2 y3 y4 y5 y6 y7 y8))
 | 0 => fun _ _ _ _ _ _ _ _ _ r h => by simp [impl_mix.l0] at h
 | k + 1 => by
  have ih0 := impl_mix.mono_l k
  ·intro y0 y1 y2 y3 y4 y5 y6 y7 y8
   unfold impl_mix.l0
   repeat' first
   | (with_reducible exact ih0 _ _ _ _ _ _ _ _ _)
   | (with_reducible exact impl_reduced.mono _ _ _)
   | (with_reducible exact LeO.refl _)
   | (with_reducible exact LeO.none _)
   | (with_reducible refine LeO.ite ?_ ?_)
   | (with_reducible refine LeO.bind ?_ (fun _ => ?_))
   | exact ih0 _ _ _ _ _ _ _ _ _
   | exact impl_reduced.mono _ _ _
   | exact LeO.none _
   | refine LeO.ite ?_ ?_
   | refine LeO.bind ?_ (fun _ => ?_)
theorem impl_mix.mono : ∀ a0 a1 a2 a3 k,LeO (impl_mix.f k a0 a1 a2 a3) (impl_mix.f (k + 1) a0 a1 a2 a3) := by
 intro a0 a1 a2 a3 k
 have ih0 := impl_mix.mono_l k
 unfold impl_mix.f
 repeat' first
   | (with_reducible exact ih0 _ _ _ _ _ _ _ _ _)
   | (with_reducible exact impl_reduced.mono _ _ _)
   | (with_reducible exact LeO.refl _)
   | (with_reducible exact LeO.none _)
   | (with_reducible refine LeO.ite ?_ ?_)
   | (with_reducible refine LeO.bind ?_ (fun _ => ?_))
   | exact ih0 _ _ _ _ _ _ _ _ _
   | exact impl_reduced.mono _ _ _
   | exact LeO.none _
   | refine LeO.ite ?_ ?_
   | refine LeO.bind ?_ (fun _ => ?_)
def impl_mix.T7 : Bool × List (List Nat × List Nat) := (true,[([],[]),([0],[0]),([],[]),([1,2],[1,2]),([3],[3]),([],[]),([5],[5]),([],[]),([6,7],[6,7]),([8],[8]),([4,9],[4,9]),([10,0,1,2,3,4,5,6,7,8,9,10],[10])])
def impl_mix.B7 : List Nat := [0,1,0,7,15,0,32,0,224,480,1023,2047]
theorem impl_mix.tab7 : rtab .any (opsOf Try.f42 7) = impl_mix.T7 := by kernel_rfl
theorem impl_mix.bits7 : waitsOk impl_mix.T7.2 impl_mix.B7 = true := by kernel_rfl
def impl_mix.T8 : Bool × List (List Nat × List Nat) := (true,[([],[]),([0],[0]),([],[]),([],[]),([3],[3]),([],[]),([],[]),([],[]),([1,2,0,1,2,6],[1,2]),([8,6,0,1,2,6],[6,8]),([4,5,0,1,2,3,4,5,6,7,8,9],[4,5]),([10,7,9,0,1,2,3,4,5,6,7,8,9],[7,10])])
def impl_mix.B8 : List Nat := [0,1,0,0,8,0,0,0,71,327,1023,2047]
theorem impl_mix.tab8 : rtab .any (opsOf Try.f42 8) = impl_mix.T8 := by kernel_rfl
theorem impl_mix.bits8 : waitsOk impl_mix.T8.2 impl_mix.B8 = true := by kernel_rfl
set_option maxHeartbeats 8000000 in
set_option maxRecDepth 100000 in
theorem impl_mix.calls (k : Nat) (A0_0 : Option Addr) (c0_0 : Nat) (l0_0 : List Int) (a0_1 : Int) (a1 : Int) (a2 : Int) (r1 : List Int) (r2 : Int) (w : World) (hr0_0 : Kd.C (Kd.int .i64) w A0_0 l0_0.length l0_0) (hc0_0 : l0_0.length ≤ c0_0) (h : impl_mix.f k l0_0 a0_1 a1 a2 = some (r1,r2)) :
  Calls Try.prog 42 #[.agg #[.slice A0_0 l0_0.length c0_0, .int .i64 a0_1], .int .i64 a1, .int .i64 a2] w fun e w' => ∃ v0_ : Value,e = .returned (.agg #[v0_, .int .i64 r2]) ∧ Kd.R (Kd.int .i64) 3 w' w.heap.size (fun _ => True) v0_ r1 ∧ Below w.heap.size w w' := by
 have hu29 := Try.underlying29
 have HR0_0 := Aside0.mk hr0_0
 have HC0_0 := Aside0.mk hc0_0
 clear hr0_0 hc0_0
 have HB := Aside0.mk (Below.refl w.heap.size w)
 have H : (impl_mix.l0 k a1 a2 l0_0 (l0_0.length : Int) 0 l0_0 a0_1 ([] : List Int) (wrap64 (2 * a0_1))) = some (r1,r2) := h
 clear h
 have H' := Aside0.mk H
 clear H
 go_enter Try.func42,Try.ntmps42
 go_wp2_with (first | ((with_reducible refine gate_dst (N := 3) rfl ?_);refine box_event ?hg (N := 3) ?hd (cs := #[.slice A0_0 l0_0.length c0_0, .int .i64 a0_1]) (t := 29) ?hr ?_;(case hd => rfl);(case hg => rfl);(case hr => first | (go_simp;done) | (go_simp;rfl));intro gb267 hg w4 hbox hb;have n0_ := Aside0.mk (below_step (by repeat (first | (with_reducible first | exact HB.out | apply below_alloc | apply pw_below_drewN | apply below_drew1) | exact HB.out)) hb);have n1_ := Aside0.mk (hbox);have n2_ := Aside0.mk ((by rw [hg];exact (below_size (by repeat (first | (with_reducible first | exact HB.out | apply below_alloc | apply pw_below_drewN | apply below_drew1) | exact HB.out))) : w.heap.size ≤ gb267));have n3_ := Aside0.mk ((by rw [hg];exact (below_size (by repeat (first | (with_reducible first | exact HB.out | apply below_alloc | apply pw_below_drewN | apply below_drew1) | exact HB.out))) : w.heap.size ≤ gb267));clear HB;have HB := n0_;have BK267 := n1_;have GW267 := n2_;have GE267 := n3_;clear n0_ n1_ n2_ n3_;clear hb hbox hg) | ((with_reducible refine gate_dst (N := 6) rfl ?_);refine box_event ?hg (N := 6) ?hd (cs := #[.slice none 0 0, .int .i64 0]) (t := 29) ?hr ?_;(case hd => rfl);(case hg => rfl);(case hr => first | (go_simp;done) | (go_simp;rfl));intro gb268 hg w5 hbox hb;have n0_ := Aside0.mk (blk_below (g := gb267) (o := .cells #[.slice A0_0 l0_0.length c0_0, .int .i64 a0_1] 29 (0,0)) (by (with_reducible repeat (first | refine blk_drewN ?_ _ | refine blk_drew ?_ | refine blk_alloc ?_ _));exact BK267.out) hb);have n1_ := Aside0.mk (below_step (by repeat (first | (with_reducible first | exact HB.out | apply below_alloc | apply pw_below_drewN | apply below_drew1 | refine below_set ?_ GE267.out) | exact HB.out)) hb);have n2_ := Aside0.mk (hbox);have n3_ := Aside0.mk ((by rw [hg];exact (below_size (by repeat (first | (with_reducible first | exact HB.out | apply below_alloc | apply pw_below_drewN | apply below_drew1 | refine below_set ?_ GE267.out) | exact HB.out))) : w.heap.size ≤ gb268));have n4_ := Aside0.mk ((by rw [hg];exact (below_size (by repeat (first | (with_reducible first | exact HB.out | apply below_alloc | apply pw_below_drewN | apply below_drew1 | refine below_set ?_ GE267.out) | exact HB.out))) : w.heap.size ≤ gb268));have n5_ := Aside0.mk ((by rw [hg];exact Nat.ne_of_lt (blk_lt (g := gb267) (o := .cells #[.slice A0_0 l0_0.length c0_0, .int .i64 a0_1] 29 (0,0)) (by (with_reducible repeat (first | refine blk_drewN ?_ _ | refine blk_drew ?_ | refine blk_alloc ?_ _));exact BK267.out)) : gb267 ≠ gb268));have n6_ := Aside0.mk ((by rw [hg];exact Nat.ne_of_gt (blk_lt (g := gb267) (o := .cells #[.slice A0_0 l0_0.length c0_0, .int .i64 a0_1] 29 (0,0)) (by (with_reducible repeat (first | refine blk_drewN ?_ _ | refine blk_drew ?_ | refine blk_alloc ?_ _));exact BK267.out)) : gb268 ≠ gb267));clear BK267;clear HB;have BK267 := n0_;have HB := n1_;have BK268 := n2_;have GW268 := n3_;have GE268 := n4_;have NB267_268 := n5_;have NB268_267 := n6_;clear n0_ n1_ n2_ n3_ n4_ n5_ n6_;clear hb hbox hg;have hnb6 := NB267_268.out;have hnc6 := NB268_267.out;have hcz7_0 : w5.cell? ⟨gb267,0,none⟩ = some (.slice A0_0 l0_0.length c0_0) := (blk_cell BK267.out 0).trans rfl;have hcz7_1 : w5.cell? ⟨gb267,1,none⟩ = some (.int .i64 a0_1) := (blk_cell BK267.out 1).trans rfl;have hfz7_0 := blk_frozen BK267.out 0;have hfz7_1 := blk_frozen BK267.out 1) | ((with_reducible refine gate_dst (N := 7) rfl ?_);refine box_event ?hg (N := 7) ?hd (cs := #[.slice none 0 0, .int .i64 0]) (t := 29) ?hr ?_;(case hd => rfl);(case hg => rfl);(case hr => first | (go_simp;done) | (go_simp;rfl));intro gb269 hg w8 hbox hb;have n0_ := Aside0.mk (blk_below (g := gb267) (o := .cells #[.slice A0_0 l0_0.length c0_0, .int .i64 a0_1] 29 (0,0)) (by (with_reducible repeat (first | refine blk_drewN ?_ _ | refine blk_drew ?_ | refine blk_alloc ?_ _));exact BK267.out) hb);have n1_ := Aside0.mk (blk_below (g := gb268) (o := .cells #[.slice none 0 0, .int .i64 0] 29 (0,0)) (by (with_reducible repeat (first | refine blk_drewN ?_ _ | refine blk_drew ?_ | refine blk_alloc ?_ _));exact BK268.out) hb);have n2_ := Aside0.mk (below_step (by repeat (first | (with_reducible first | exact HB.out | apply below_alloc | apply pw_below_drewN | apply below_drew1 | refine below_set ?_ GE267.out | refine below_set ?_ GE268.out) | exact HB.out)) hb);have n3_ := Aside0.mk (hbox);have n4_ := Aside0.mk ((by rw [hg];exact (below_size (by repeat (first | (with_reducible first | exact HB.out | apply below_alloc | apply pw_below_drewN | apply below_drew1 | refine below_set ?_ GE267.out | refine below_set ?_ GE268.out) | exact HB.out))) : w.heap.size ≤ gb269));have n5_ := Aside0.mk ((by rw [hg];exact (below_size (by repeat (first | (with_reducible first | exact HB.out | apply below_alloc | apply pw_below_drewN | apply below_drew1 | refine below_set ?_ GE267.out | refine below_set ?_ GE268.out) | exact HB.out))) : w.heap.size ≤ gb269));have n6_ := Aside0.mk ((by rw [hg];exact Nat.ne_of_lt (blk_lt (g := gb267) (o := .cells #[.slice A0_0 l0_0.length c0_0, .int .i64 a0_1] 29 (0,0)) (by (with_reducible repeat (first | refine blk_drewN ?_ _ | refine blk_drew ?_ | refine blk_alloc ?_ _));exact BK267.out)) : gb267 ≠ gb269));have n7_ := Aside0.mk ((by rw [hg];exact Nat.ne_of_gt (blk_lt (g := gb267) (o := .cells #[.slice A0_0 l0_0.length c0_0, .int .i64 a0_1] 29 (0,0)) (by (with_reducible repeat (first | refine blk_drewN ?_ _ | refine blk_drew ?_ | refine blk_alloc ?_ _));exact BK267.out)) : gb269 ≠ gb267));have n8_ := Aside0.mk ((by rw [hg];exact Nat.ne_of_lt (blk_lt (g := gb268) (o := .cells #[.slice none 0 0, .int .i64 0] 29 (0,0)) (by (with_reducible repeat (first | refine blk_drewN ?_ _ | refine blk_drew ?_ | refine blk_alloc ?_ _));exact BK268.out)) : gb268 ≠ gb269));have n9_ := Aside0.mk ((by rw [hg];exact Nat.ne_of_gt (blk_lt (g := gb268) (o := .cells #[.slice none 0 0, .int .i64 0] 29 (0,0)) (by (with_reducible repeat (first | refine blk_drewN ?_ _ | refine blk_drew ?_ | refine blk_alloc ?_ _));exact BK268.out)) : gb269 ≠ gb268));clear BK267;clear BK268;clear HB;have BK267 := n0_;have BK268 := n1_;have HB := n2_;have BK269 := n3_;have GW269 := n4_;have GE269 := n5_;have NB267_269 := n6_;have NB269_267 := n7_;have NB268_269 := n8_;have NB269_268 := n9_;clear n0_ n1_ n2_ n3_ n4_ n5_ n6_ n7_ n8_ n9_;clear hb hbox hg;have hnb9 := NB269_267.out;have hnc9 := NB267_269.out;have hnb10 := NB269_268.out;have hnc10 := NB268_269.out;have hcz11_0 : w8.cell? ⟨gb269,0,none⟩ = some (.slice none 0 0) := (blk_cell BK269.out 0).trans rfl;have hcz11_1 : w8.cell? ⟨gb269,1,none⟩ = some (.int .i64 0) := (blk_cell BK269.out 1).trans rfl;have hfz11_0 := blk_frozen BK269.out 0;have hfz11_1 := blk_frozen BK269.out 1;have hcz12_0 : w8.cell? ⟨gb267,0,none⟩ = some (.slice A0_0 l0_0.length c0_0) := (blk_cell BK267.out 0).trans rfl;have hcz12_1 : w8.cell? ⟨gb267,1,none⟩ = some (.int .i64 a0_1) := (blk_cell BK267.out 1).trans rfl;have hfz12_0 := blk_frozen BK267.out 0;have hfz12_1 := blk_frozen BK267.out 1))
 go_loopg [18] k (fun kq v18 w' => ∃ (x18_1 : Int) (x270000_1 : List Int) (u270000 : Value),v18 = .int .i64 x18_1 ∧ Aside0 (impl_mix.l0 kq a1 a2 l0_0 (l0_0.length : Int) x18_1 l0_0 a0_1 x270000_1 (wrap64 (2 * a0_1)) = some (r1,r2)) ∧ Aside0 (kq ≤ k) ∧ Aside0 (Kd.R (Kd.int .i64) 3 w' w.heap.size (fun _ => True) u270000 x270000_1) ∧ Aside0 (w'.heap[gb267]? = some (.cells #[(.slice A0_0 l0_0.length c0_0), .int .i64 a0_1] 29 (0,0))) ∧ Aside0 (w'.heap[gb268]? = some (.cells #[(.slice none 0 0), .int .i64 0] 29 (0,0))) ∧ Aside0 (w'.heap[gb269]? = some (.cells #[u270000, .int .i64 (wrap64 (2 * a0_1))] 29 (0,0))) ∧ Aside0 (Below w.heap.size w w'))
 case atStart => exact ⟨(0),(([] : List Int)),(.slice none 0 0),(by first | rfl | (simp;done) | (simp [*];done)),H',⟨Nat.le_refl _⟩,⟨by first | exact Kd.R_nil _ _ _ _ _ | exact Kd.N_nil _ _ _ _ _ | exact Kd.V_nil _ _ _ _ _ | exact Kd.Q_nil _ _ _ _ _ | exact Kd.S_nil _ _ _ _ _⟩,⟨by (with_reducible repeat (first | refine blk_drewN ?_ _ | refine blk_drew ?_ | refine blk_alloc ?_ _));refine blk_far ?_ NB267_269.out _;(with_reducible repeat (first | refine blk_drewN ?_ _ | refine blk_drew ?_ | refine blk_alloc ?_ _));refine blk_far ?_ NB267_269.out _;(with_reducible repeat (first | refine blk_drewN ?_ _ | refine blk_drew ?_ | refine blk_alloc ?_ _));exact BK267.out⟩,⟨by (with_reducible repeat (first | refine blk_drewN ?_ _ | refine blk_drew ?_ | refine blk_alloc ?_ _));refine blk_far ?_ NB268_269.out _;(with_reducible repeat (first | refine blk_drewN ?_ _ | refine blk_drew ?_ | refine blk_alloc ?_ _));refine blk_far ?_ NB268_269.out _;(with_reducible repeat (first | refine blk_drewN ?_ _ | refine blk_drew ?_ | refine blk_alloc ?_ _));exact BK268.out⟩,⟨by (with_reducible repeat (first | refine blk_drewN ?_ _ | refine blk_drew ?_ | refine blk_alloc ?_ _));refine blk_put (cs := #[.slice none 0 0, .int .i64 0]) ?_ 1 _ rfl;(with_reducible repeat (first | refine blk_drewN ?_ _ | refine blk_drew ?_ | refine blk_alloc ?_ _));refine blk_put (cs := #[.slice none 0 0, .int .i64 0]) ?_ 0 _ rfl;(with_reducible repeat (first | refine blk_drewN ?_ _ | refine blk_drew ?_ | refine blk_alloc ?_ _));exact BK269.out⟩,⟨by repeat (first | (with_reducible first | exact HB.out | apply below_alloc | apply pw_below_drewN | apply below_drew1 | refine below_set ?_ GE267.out | refine below_set ?_ GE268.out | refine below_set ?_ GE269.out) | exact HB.out)⟩⟩
 case round =>
  clear H'
  try clear c1
  try clear p2
  try clear c4
  try clear c6
  try clear p6
  try clear c9
  try clear c10
  try clear hcz11_0
  try clear hcz11_1
  try clear hcz12_0
  try clear hcz12_1
  try clear hcz7_0
  try clear hcz7_1
  try clear hfz11_0
  try clear hfz11_1
  try clear hfz12_0
  try clear hfz12_1
  try clear hfz7_0
  try clear hfz7_1
  obtain ⟨x18_1,x270000_1,u270000,rfl,HA,HK1,HO_270000,BK267,BK268,BK269,HB⟩ := hrel
  cases gk with
  | zero => exact absurd HA.out (by simp [impl_mix.l0])
  | succ k1 =>
   have H := HA.out
   clear HA
   simp only [impl_mix.l0] at H
   by_cases c13 : x18_1 < (l0_0.length : Int)
   ·rw [if_pos c13] at H
    have c13b0 : decide (x18_1 < (l0_0.length : Int)) = true := decide_eq_true c13
    clear c13
    by_cases c14 : 0 ≤ x18_1
    ·rw [if_pos c14] at H
     have c14b0 : decide (0 ≤ x18_1) = true := decide_eq_true c14
     clear c14
     by_cases c15 : x18_1 < (l0_0.length : Int)
     ·rw [if_pos c15] at H
      have c15b0 : decide (x18_1 < (l0_0.length : Int)) = true := decide_eq_true c15
      clear c15
      by_cases c16 : x270000_1.length < 17592186044416
      ·rw [if_pos c16] at H
       have LMc16 := Aside0.mk c16
       clear c16
       obtain ⟨y271,hy271⟩ : ∃ y_ : List Int,y_ = (x270000_1 ++ [wrap64 (2 * (rd l0_0 x18_1))]) := ⟨_,rfl⟩
       replace H : (impl_mix.l0 k1 a1 a2 l0_0 (l0_0.length : Int) (wrap64 (x18_1 + 1)) l0_0 a0_1 y271 (wrap64 (2 * a0_1))) = some (r1,r2) := by first | (rw [hy271];with_reducible exact H) | (have H2_ := (Option.bind_some _ _).symm.trans H;rw [hy271];with_reducible exact H2_) | (have H2_ := (Option.bind_some _ _).symm.trans H;with_reducible exact H2_) | with_reducible exact H | (rw [hy271];exact H) | exact H
       have Ny271 := Aside0.mk hy271
       clear hy271
       have H' := Aside0.mk H
       clear H
       have p270 : 0 ≤ (x18_1 : Int) := of_decide_eq_true (by first | (with_reducible assumption) | assumption)
       have q270 : x18_1 < (l0_0.length : Int) := of_decide_eq_true (by first | (with_reducible assumption) | assumption)
       obtain ⟨ad270,e270,hx270_0⟩ := Kd.at_int HR0_0.out x18_1 p270 q270
       cases e270
       replace hx270_0 := (HB.out.cell (World.block_lt_of_cell? w _ hx270_0)).trans hx270_0
       replace p270 := eq_true p270
       replace q270 := eq_true q270
       have hnb17 := NB269_267.out
       have hnc17 := NB267_269.out
       have hnb18 := NB269_268.out
       have hnc18 := NB268_269.out
       have hcz19_0 : wr.cell? ⟨gb269,0,none⟩ = some (u270000) := (blk_cell BK269.out 0).trans rfl
       have hcz19_1 : wr.cell? ⟨gb269,1,none⟩ = some (.int .i64 (wrap64 (2 * a0_1))) := (blk_cell BK269.out 1).trans rfl
       have hfz19_0 := blk_frozen BK269.out 0
       have hfz19_1 := blk_frozen BK269.out 1
       go_wp2_with (first | ((with_reducible refine gate_builtin (b := .append) (xs := #[.tmp 23, .tmp 26]) rfl ?_);at_builtin;refine Kd.R_append (Kd.int .i64) (w0 := w) w.heap.size rfl (.tmp 23) (.tmp 26) 22 3 (.int .i64 0) 8 rfl Try.underlying22 info3 rfl (by decide) (by omega) u270000 x270000_1 (wrap64 (2 * (rd l0_0 x18_1))) [.int .i64 (wrap64 (2 * (rd l0_0 x18_1)))] (fun _ => True) (fun _ => False) rfl rfl ?aP (fun _ hk => hk.elim) ?aF ?aO ?aB ?aS ?aL ?_;(case aP => exact rfl);(case aB => exact (by repeat (first | (with_reducible first | exact HB.out | apply below_alloc | apply pw_below_drewN | apply below_drew1 | refine below_set ?_ GE267.out | refine below_set ?_ GE268.out | refine below_set ?_ GE269.out) | exact HB.out)));(case aF => exact (fun _ _ => trivial));(case aO => exact (by (with_reducible repeat (first | apply Kd.R_alloc | apply Kd.R_drewN | apply Kd.R_drew));exact HO_270000.out));(case aS => exact (below_size (by repeat (first | (with_reducible first | exact HB.out | apply below_alloc | apply pw_below_drewN | apply below_drew1 | refine below_set ?_ GE267.out | refine below_set ?_ GE268.out | refine below_set ?_ GE269.out) | exact HB.out))));(case aL => have := LMc16.out;omega);intro v272 w20 ho hb hg hat;rw [← Ny271.out] at ho;have n0_ := Aside0.mk (blk_grown (g := gb267) (o := .cells #[.slice (some ad270) l0_0.length c0_0, .int .i64 a0_1] 29 (0,0)) (by (with_reducible repeat (first | refine blk_drewN ?_ _ | refine blk_drew ?_ | refine blk_alloc ?_ _));exact BK267.out) hg (Kd.R_ne HO_270000.out BK267.out (by decide)));have n1_ := Aside0.mk (blk_grown (g := gb268) (o := .cells #[.slice none 0 0, .int .i64 0] 29 (0,0)) (by (with_reducible repeat (first | refine blk_drewN ?_ _ | refine blk_drew ?_ | refine blk_alloc ?_ _));exact BK268.out) hg (Kd.R_ne HO_270000.out BK268.out (by decide)));have n2_ := Aside0.mk (blk_grown (g := gb269) (o := .cells #[u270000, .int .i64 (wrap64 (2 * a0_1))] 29 (0,0)) (by (with_reducible repeat (first | refine blk_drewN ?_ _ | refine blk_drew ?_ | refine blk_alloc ?_ _));exact BK269.out) hg (Kd.R_ne HO_270000.out BK269.out (by decide)));have n3_ := Aside0.mk (hb);have n4_ := Aside0.mk (ho);clear BK267;clear BK268;clear BK269;clear HB;clear HO_270000;have BK267 := n0_;have BK268 := n1_;have BK269 := n2_;have HB := n3_;have HO273 := n4_;clear n0_ n1_ n2_ n3_ n4_;clear ho hb hg hat;obtain ⟨Ao21,co21,eo21⟩ := Kd.R_slice HO273.out;subst eo21;have hcz22_0 : w20.cell? ⟨gb269,0,none⟩ = some (u270000) := (blk_cell BK269.out 0).trans rfl;have hcz22_1 : w20.cell? ⟨gb269,1,none⟩ = some (.int .i64 (wrap64 (2 * a0_1))) := (blk_cell BK269.out 1).trans rfl;have hfz22_0 := blk_frozen BK269.out 0;have hfz22_1 := blk_frozen BK269.out 1))
       go_roundg k1
       case measure => have := HK1.out;omega
       case rel => exact ⟨(wrap64 (x18_1 + 1)),(y271),(.slice Ao21 y271.length co21),(by first | rfl | (simp;done) | (simp [*];done)),H',⟨by have := HK1.out;omega⟩,⟨by (with_reducible repeat (first | apply Kd.R_alloc | apply Kd.R_drewN | apply Kd.R_drew));exact Kd.R_mono (Kd.R_far (p := ⟨gb269,0,none⟩) (Kd.R_types HO273.out BK269.out (by decide)) (fun _ hk => hk.2) (.slice Ao21 y271.length co21)) (fun _ hk => trivial)⟩,⟨by (with_reducible repeat (first | refine blk_drewN ?_ _ | refine blk_drew ?_ | refine blk_alloc ?_ _));refine blk_far ?_ NB267_269.out _;(with_reducible repeat (first | refine blk_drewN ?_ _ | refine blk_drew ?_ | refine blk_alloc ?_ _));exact BK267.out⟩,⟨by (with_reducible repeat (first | refine blk_drewN ?_ _ | refine blk_drew ?_ | refine blk_alloc ?_ _));refine blk_far ?_ NB268_269.out _;(with_reducible repeat (first | refine blk_drewN ?_ _ | refine blk_drew ?_ | refine blk_alloc ?_ _));exact BK268.out⟩,⟨by (with_reducible repeat (first | refine blk_drewN ?_ _ | refine blk_drew ?_ | refine blk_alloc ?_ _));refine blk_put (cs := #[u270000, .int .i64 (wrap64 (2 * a0_1))]) ?_ 0 _ rfl;(with_reducible repeat (first | refine blk_drewN ?_ _ | refine blk_drew ?_ | refine blk_alloc ?_ _));exact BK269.out⟩,⟨by repeat (first | (with_reducible first | exact HB.out | apply below_alloc | apply pw_below_drewN | apply below_drew1 | refine below_set ?_ GE267.out | refine below_set ?_ GE268.out | refine below_set ?_ GE269.out) | exact HB.out)⟩⟩
      ·rw [if_neg c16] at H
       exact absurd H (by simp)
     ·rw [if_neg c15] at H
      exact absurd H (by simp)
    ·rw [if_neg c14] at H
     exact absurd H (by simp)
   ·rw [if_neg c13] at H
    have c13b0 : decide (x18_1 < (l0_0.length : Int)) = false := decide_eq_false c13
    clear c13
    by_cases c23 : 0 ≤ a1
    ·rw [if_pos c23] at H
     have c23b0 : decide (0 ≤ a1) = true := decide_eq_true c23
     clear c23
     by_cases c24 : a1 < (l0_0.length : Int)
     ·rw [if_pos c24] at H
      have c24b0 : decide (a1 < (l0_0.length : Int)) = true := decide_eq_true c24
      clear c24
      by_cases c25 : 0 ≤ a2
      ·rw [if_pos c25] at H
       have c25b0 : decide (0 ≤ a2) = true := decide_eq_true c25
       clear c25
       by_cases c26 : a2 < (l0_0.length : Int)
       ·rw [if_pos c26] at H
        have c26b0 : decide (a2 < (l0_0.length : Int)) = true := decide_eq_true c26
        clear c26
        by_cases c27 : a1 < (x270000_1.length : Int)
        ·rw [if_pos c27] at H
         have c27b0 : decide (a1 < (x270000_1.length : Int)) = true := decide_eq_true c27
         clear c27
         obtain ⟨y276,hy276⟩ : ∃ y_ : List Int,y_ = (x270000_1.set (a1 : Int).toNat (wrap64 ((rd l0_0 a1) + (rd l0_0 a2)))) := ⟨_,rfl⟩
         replace H : (if a2 < (x270000_1.length : Int) then ((impl_reduced.f k1 (y276.set (a2 : Int).toNat (wrap64 ((rd l0_0 a1) + (rd l0_0 a2)))) (wrap64 (2 * a0_1))).bind fun bt278 => (some (bt278.1,bt278.2))) else (none)) = some (r1,r2) := by first | (rw [hy276];with_reducible exact H) | (have H2_ := (Option.bind_some _ _).symm.trans H;rw [hy276];with_reducible exact H2_) | (have H2_ := (Option.bind_some _ _).symm.trans H;with_reducible exact H2_) | with_reducible exact H | (rw [hy276];exact H) | exact H
         have Ny276 := Aside0.mk hy276
         clear hy276
         by_cases c29 : a2 < (x270000_1.length : Int)
         ·rw [if_pos c29] at H
          have c29b0 : decide (a2 < (x270000_1.length : Int)) = true := decide_eq_true c29
          clear c29
          obtain ⟨y277,hy277⟩ : ∃ y_ : List Int,y_ = (y276.set (a2 : Int).toNat (wrap64 ((rd l0_0 a1) + (rd l0_0 a2)))) := ⟨_,rfl⟩
          replace H : ((impl_reduced.f k1 y277 (wrap64 (2 * a0_1))).bind fun bt278 => (some (bt278.1,bt278.2))) = some (r1,r2) := by first | (rw [hy277];with_reducible exact H) | (have H2_ := (Option.bind_some _ _).symm.trans H;rw [hy277];with_reducible exact H2_) | (have H2_ := (Option.bind_some _ _).symm.trans H;with_reducible exact H2_) | with_reducible exact H | (rw [hy277];exact H) | exact H
          have Ny277 := Aside0.mk hy277
          clear hy277
          replace H := Option.bind_eq_some_iff.mp H
          obtain ⟨⟨t278,t281⟩,A310,H⟩ := H
          replace H : (some (t278,t281)) = some (r1,r2) := H
          have A31 := Aside0.mk A310
          clear A310
          simp only [Option.some.injEq,Prod.mk.injEq] at H
          obtain ⟨rfl,rfl⟩ := H
          try go_wp2
          have n0_ := Aside0.mk (Kd.R_drew HO_270000.out)
          have n1_ := Aside0.mk (blk_drew BK267.out)
          have n2_ := Aside0.mk (blk_drew BK268.out)
          have n3_ := Aside0.mk (blk_drew BK269.out)
          have n4_ := Aside0.mk (below_drew1 HB.out)
          clear HO_270000
          clear BK267
          clear BK268
          clear BK269
          clear HB
          have HO_270000 := n0_
          have BK267 := n1_
          have BK268 := n2_
          have BK269 := n3_
          have HB := n4_
          clear n0_ n1_ n2_ n3_ n4_
          have p274 : 0 ≤ (a1 : Int) := of_decide_eq_true (by first | (with_reducible assumption) | assumption)
          have q274 : a1 < (l0_0.length : Int) := of_decide_eq_true (by first | (with_reducible assumption) | assumption)
          obtain ⟨ad274,e274,hx274_0⟩ := Kd.at_int HR0_0.out a1 p274 q274
          have hw274_0 := hx274_0
          cases e274
          replace hx274_0 := (HB.out.cell (World.block_lt_of_cell? w _ hx274_0)).trans hx274_0
          replace p274 := eq_true p274
          replace q274 := eq_true q274
          have p275 : 0 ≤ (a2 : Int) := of_decide_eq_true (by first | (with_reducible assumption) | assumption)
          have q275 : a2 < (l0_0.length : Int) := of_decide_eq_true (by first | (with_reducible assumption) | assumption)
          obtain ⟨ad275,e275,hx275_0⟩ := Kd.at_int HR0_0.out a2 p275 q275
          have hw275_0 := hx275_0
          obtain rfl : ad274 = ad275 := (by injection e275)
          replace hx275_0 := (HB.out.cell (World.block_lt_of_cell? w _ hx275_0)).trans hx275_0
          replace p275 := eq_true p275
          replace q275 := eq_true q275
          refine start_ (n := 12) (S := fun w' => w'.cell? ⟨gb267,0,none⟩ = some (.slice (some ad274) l0_0.length c0_0) ∧ w'.cell? ⟨gb267,1,none⟩ = some (.int .i64 a0_1) ∧ w'.cell? (ad274.add (a1).toNat) = some (.int .i64 (rd l0_0 a1)) ∧ w'.cell? (ad274.add (a2).toNat) = some (.int .i64 (rd l0_0 a2))) (ds := []) #[false,false,false,false,false,false,false,false,false,false,false,false] (by kernel_rfl) rfl rfl ⟨(blk_cell BK267.out 0).trans rfl,(blk_cell BK267.out 1).trans rfl,((HB.out.cell (World.block_lt_of_cell? w _ hw274_0)).trans hw274_0),((HB.out.cell (World.block_lt_of_cell? w _ hw275_0)).trans hw275_0)⟩ (fun hHeld => ?_);refine with_tabW impl_mix.tab7 impl_mix.bits7 (fun HT_ HW_ => ?_)
          generalize wr.drew = w32 at HO_270000 BK267 BK268 BK269 HB hx274_0 hx275_0 hHeld ⊢
          refine pure_ (i := 0) (N := some 30) (v := ?_) (a' := ?_) #[true,false,false,false,false,false,false,false,false,false,false,false] rfl rfl (any_of HT_.out (by kernel_rfl)) (fun _ _ _ h => h) (Or.inl ⟨by rfl,?_⟩) ?_ ?_
          rotate_left
          ·intro w'
           go_simp
           with_reducible rfl
          rotate_left
          ·simp only [Act.put,List.setIfInBounds_toArray,List.set_cons_zero,List.set_cons_succ,i64_w,i32_w]
           rfl
          refine pure_ (i := 2) (N := some 32) (v := ?_) (a' := ?_) #[true,false,true,false,false,false,false,false,false,false,false,false] rfl rfl (any_of HT_.out (by kernel_rfl)) (fun _ _ _ h => h) (Or.inl ⟨by rfl,?_⟩) ?_ ?_
          rotate_left
          ·intro w'
           go_simp
           with_reducible rfl
          rotate_left
          ·simp only [Act.put,List.setIfInBounds_toArray,List.set_cons_zero,List.set_cons_succ,i64_w,i32_w]
           rfl
          refine pure_ (i := 5) (N := some 35) (v := ?_) (a' := ?_) #[true,false,true,false,false,true,false,false,false,false,false,false] rfl rfl (any_of HT_.out (by kernel_rfl)) (fun _ _ _ h => h) (Or.inl ⟨by rfl,?_⟩) ?_ ?_
          rotate_left
          ·intro w'
           go_simp
           with_reducible rfl
          rotate_left
          ·simp only [Act.put,List.setIfInBounds_toArray,List.set_cons_zero,List.set_cons_succ,i64_w,i32_w]
           rfl
          refine pure_ (i := 7) (N := some 37) (v := ?_) (a' := ?_) #[true,false,true,false,false,true,false,true,false,false,false,false] rfl rfl (any_of HT_.out (by kernel_rfl)) (fun _ _ _ h => h) (Or.inl ⟨by rfl,?_⟩) ?_ ?_
          rotate_left
          ·intro w'
           go_simp
           with_reducible rfl
          rotate_left
          ·simp only [Act.put,List.setIfInBounds_toArray,List.set_cons_zero,List.set_cons_succ,i64_w,i32_w]
           rfl
          refine take_ (i := 1) (N := some 31) (v := ?_) (a' := ?_) #[true,true,true,false,false,true,false,true,false,false,false,false] rfl rfl (take_ofW HT_.out HW_.out (by kernel_rfl)) (fun _ _ _ h => h) (Or.inl ⟨by rfl,?_⟩) hHeld ?_ ?_
          rotate_left
          ·rintro w' ⟨s0,s1,s2,s3⟩
           go_simp
           with_reducible rfl
          rotate_left
          ·simp only [Act.put,List.setIfInBounds_toArray,List.set_cons_zero,List.set_cons_succ,i64_w,i32_w]
           rfl
          refine pure_ (i := 3) (N := some 33) (v := ?_) (a' := ?_) #[true,true,true,true,false,true,false,true,false,false,false,false] rfl rfl (any_of HT_.out (by kernel_rfl)) (fun _ _ _ h => h) (Or.inl ⟨by rfl,?_⟩) ?_ ?_
          rotate_left
          ·intro w'
           go_simp
           with_reducible rfl
          rotate_left
          ·simp only [Act.put,List.setIfInBounds_toArray,List.set_cons_zero,List.set_cons_succ,i64_w,i32_w]
           rfl
          refine take_ (i := 4) (N := some 34) (v := ?_) (a' := ?_) #[true,true,true,true,true,true,false,true,false,false,false,false] rfl rfl (take_ofW HT_.out HW_.out (by kernel_rfl)) (fun _ _ _ h => h) (Or.inl ⟨by rfl,?_⟩) hHeld ?_ ?_
          rotate_left
          ·rintro w' ⟨s0,s1,s2,s3⟩
           go_simp
           with_reducible rfl
          rotate_left
          ·simp only [Act.put,List.setIfInBounds_toArray,List.set_cons_zero,List.set_cons_succ,i64_w,i32_w]
           rfl
          refine take_ (i := 6) (N := some 36) (v := ?_) (a' := ?_) #[true,true,true,true,true,true,true,true,false,false,false,false] rfl rfl (take_ofW HT_.out HW_.out (by kernel_rfl)) (fun _ _ _ h => h) (Or.inl ⟨by rfl,?_⟩) hHeld ?_ ?_
          rotate_left
          ·rintro w' ⟨s0,s1,s2,s3⟩
           go_simp
           with_reducible rfl
          rotate_left
          ·simp only [Act.put,List.setIfInBounds_toArray,List.set_cons_zero,List.set_cons_succ,i64_w,i32_w]
           rfl
          refine pure_ (i := 8) (N := some 38) (v := ?_) (a' := ?_) #[true,true,true,true,true,true,true,true,true,false,false,false] rfl rfl (any_of HT_.out (by kernel_rfl)) (fun _ _ _ h => h) (Or.inl ⟨by rfl,?_⟩) ?_ ?_
          rotate_left
          ·intro w'
           go_simp
           with_reducible rfl
          rotate_left
          ·simp only [Act.put,List.setIfInBounds_toArray,List.set_cons_zero,List.set_cons_succ,i64_w,i32_w]
           rfl
          refine take_ (i := 9) (N := some 39) (v := ?_) (a' := ?_) #[true,true,true,true,true,true,true,true,true,true,false,false] rfl rfl (take_ofW HT_.out HW_.out (by kernel_rfl)) (fun _ _ _ h => h) (Or.inl ⟨by rfl,?_⟩) hHeld ?_ ?_
          rotate_left
          ·rintro w' ⟨s0,s1,s2,s3⟩
           go_simp
           with_reducible rfl
          rotate_left
          ·simp only [Act.put,List.setIfInBounds_toArray,List.set_cons_zero,List.set_cons_succ,i64_w,i32_w]
           rfl
          refine pure_ (i := 10) (N := some 40) (v := ?_) (a' := ?_) #[true,true,true,true,true,true,true,true,true,true,true,false] rfl rfl (any_of HT_.out (by kernel_rfl)) (fun _ _ _ h => h) (Or.inl ⟨by rfl,?_⟩) ?_ ?_
          rotate_left
          ·intro w'
           go_simp
           with_reducible rfl
          rotate_left
          ·simp only [Act.put,List.setIfInBounds_toArray,List.set_cons_zero,List.set_cons_succ,i64_w,i32_w]
           rfl
          refine pure_ (i := 11) (N := some 10) (v := ?_) (a' := ?_) #[true,true,true,true,true,true,true,true,true,true,true,true] rfl rfl (any_of HT_.out (by kernel_rfl)) (fun _ _ _ h => h) (Or.inl ⟨by rfl,?_⟩) ?_ ?_
          rotate_left
          ·intro w'
           go_simp
           with_reducible rfl
          rotate_left
          ·simp only [Act.put,List.setIfInBounds_toArray,List.set_cons_zero,List.set_cons_succ,i64_w,i32_w]
           rfl
          refine done_ (done_of HT_.out (by kernel_rfl)) ?_
          try go_wp2
          have n0_ := Aside0.mk (Kd.R_drew HO_270000.out)
          have n1_ := Aside0.mk (blk_drew BK267.out)
          have n2_ := Aside0.mk (blk_drew BK268.out)
          have n3_ := Aside0.mk (blk_drew BK269.out)
          have n4_ := Aside0.mk (below_drew1 HB.out)
          clear HO_270000
          clear BK267
          clear BK268
          clear BK269
          clear HB
          have HO_270000 := n0_
          have BK267 := n1_
          have BK268 := n2_
          have BK269 := n3_
          have HB := n4_
          clear n0_ n1_ n2_ n3_ n4_
          have p28 : 0 ≤ (a1 : Int) := of_decide_eq_true (by first | (with_reducible assumption) | assumption)
          have q28 : (a1 : Int) < ((x270000_1.length : Int) : Int) := of_decide_eq_true (by first | (with_reducible assumption) | assumption)
          obtain ⟨go28,co28,eo28,gb28,gl28,cl28,HG28⟩ := Kd.R_form HO_270000.out (by omega)
          (first | cases eo28 | (injection eo28 with ea_ en_ ec_;(first | subst ea_ | (injection ea_ with ea_;subst ea_));subst ec_;clear en_))
          have GB28 := Aside0.mk gb28
          have GG28 := Aside0.mk HG28
          clear gb28 gl28 HG28
          obtain ⟨hx28_0,hf28_0⟩ := Kd.R_celln 0 HO_270000.out (a1 : Int) p28 q28
          replace p28 := eq_true p28
          replace q28 := eq_true q28
          have HP34 := Kd.R_putn HO_270000.out (a1 : Int) (wrap64 ((rd l0_0 a1) + (rd l0_0 a2)))
          rw [← Ny276.out] at HP34
          have HQ34 := Aside0.mk HP34
          clear HP34
          have p30 : 0 ≤ (a2 : Int) := of_decide_eq_true (by first | (with_reducible assumption) | assumption)
          have q30 : (a2 : Int) < ((x270000_1.length : Int) : Int) := of_decide_eq_true (by first | (with_reducible assumption) | assumption)
          obtain ⟨hx30_0,hf30_0⟩ := Kd.R_celln 0 HQ34.out (a2 : Int) p30 q30
          replace p30 := eq_true p30
          replace q30 := eq_true q30
          have HP35 := Kd.R_putn HQ34.out (a2 : Int) (wrap64 ((rd l0_0 a1) + (rd l0_0 a2)))
          rw [← Ny277.out] at HP35
          have HQ35 := Aside0.mk HP35
          clear HP35
          refine start_ (n := 12) (S := fun w' => w'.cell? ⟨gb269,0,none⟩ = some (.slice (some ⟨go28,0,none⟩) x270000_1.length co28) ∧ w'.cell? ⟨gb269,1,none⟩ = some (.int .i64 (wrap64 (2 * a0_1)))) (ds := [11]) #[false,false,false,false,false,false,false,false,false,false,false,false] (by kernel_rfl) rfl rfl ⟨(blk_cell BK269.out 0).trans rfl,(blk_cell BK269.out 1).trans rfl⟩ (fun hHeld => ?_);refine with_tabW impl_mix.tab8 impl_mix.bits8 (fun HT_ HW_ => ?_)
          generalize w32.drew = w33 at HO_270000 BK267 BK268 BK269 HB GG28 HQ34 HQ35 hf28_0 hf30_0 hx28_0 hx30_0 hHeld ⊢
          refine pure_ (i := 0) (N := some 41) (v := ?_) (a' := ?_) #[true,false,false,false,false,false,false,false,false,false,false,false] rfl rfl (any_of HT_.out (by kernel_rfl)) (fun _ _ _ h => h) (Or.inl ⟨by rfl,?_⟩) ?_ ?_
          rotate_left
          ·intro w'
           go_simp
           with_reducible rfl
          rotate_left
          ·simp only [Act.put,List.setIfInBounds_toArray,List.set_cons_zero,List.set_cons_succ,i64_w,i32_w]
           rfl
          refine pure_ (i := 2) (N := some 43) (v := ?_) (a' := ?_) #[true,false,true,false,false,false,false,false,false,false,false,false] rfl rfl (any_of HT_.out (by kernel_rfl)) (fun _ _ _ h => h) (Or.inl ⟨by rfl,?_⟩) ?_ ?_
          rotate_left
          ·intro w'
           go_simp
           with_reducible rfl
          rotate_left
          ·simp only [Act.put,List.setIfInBounds_toArray,List.set_cons_zero,List.set_cons_succ,i64_w,i32_w]
           rfl
          refine pure_ (i := 3) (N := some 44) (v := ?_) (a' := ?_) #[true,false,true,true,false,false,false,false,false,false,false,false] rfl rfl (any_of HT_.out (by kernel_rfl)) (fun _ _ _ h => h) (Or.inl ⟨by rfl,?_⟩) ?_ ?_
          rotate_left
          ·intro w'
           go_simp
           with_reducible rfl
          rotate_left
          ·simp only [Act.put,List.setIfInBounds_toArray,List.set_cons_zero,List.set_cons_succ,i64_w,i32_w]
           rfl
          refine pure_ (i := 5) (N := some 46) (v := ?_) (a' := ?_) #[true,false,true,true,false,true,false,false,false,false,false,false] rfl rfl (any_of HT_.out (by kernel_rfl)) (fun _ _ _ h => h) (Or.inl ⟨by rfl,?_⟩) ?_ ?_
          rotate_left
          ·intro w'
           go_simp
           with_reducible rfl
          rotate_left
          ·simp only [Act.put,List.setIfInBounds_toArray,List.set_cons_zero,List.set_cons_succ,i64_w,i32_w]
           rfl
          refine pure_ (i := 6) (N := some 47) (v := ?_) (a' := ?_) #[true,false,true,true,false,true,true,false,false,false,false,false] rfl rfl (any_of HT_.out (by kernel_rfl)) (fun _ _ _ h => h) (Or.inl ⟨by rfl,?_⟩) ?_ ?_
          rotate_left
          ·intro w'
           go_simp
           with_reducible rfl
          rotate_left
          ·simp only [Act.put,List.setIfInBounds_toArray,List.set_cons_zero,List.set_cons_succ,i64_w,i32_w]
           rfl
          refine pure_ (i := 7) (N := some 48) (v := ?_) (a' := ?_) #[true,false,true,true,false,true,true,true,false,false,false,false] rfl rfl (any_of HT_.out (by kernel_rfl)) (fun _ _ _ h => h) (Or.inl ⟨by rfl,?_⟩) ?_ ?_
          rotate_left
          ·intro w'
           go_simp
           with_reducible rfl
          rotate_left
          ·simp only [Act.put,List.setIfInBounds_toArray,List.set_cons_zero,List.set_cons_succ,i64_w,i32_w]
           rfl
          refine take_ (i := 1) (N := some 42) (v := ?_) (a' := ?_) #[true,true,true,true,false,true,true,true,false,false,false,false] rfl rfl (take_ofW HT_.out HW_.out (by kernel_rfl)) (fun _ _ _ h => h) (Or.inl ⟨by rfl,?_⟩) hHeld ?_ ?_
          rotate_left
          ·rintro w' ⟨s0,s1⟩
           go_simp
           with_reducible rfl
          rotate_left
          ·simp only [Act.put,List.setIfInBounds_toArray,List.set_cons_zero,List.set_cons_succ,i64_w,i32_w]
           rfl
          refine pure_ (i := 8) (N := some 49) (v := ?_) (a' := ?_) #[true,true,true,true,false,true,true,true,true,false,false,false] rfl rfl (any_of HT_.out (by kernel_rfl)) (fun _ _ _ h => h) (Or.inl ⟨by rfl,?_⟩) ?_ ?_
          rotate_left
          ·intro w'
           go_simp
           with_reducible rfl
          rotate_left
          ·simp only [Act.put,List.setIfInBounds_toArray,List.set_cons_zero,List.set_cons_succ,i64_w,i32_w]
           rfl
          refine take_ (i := 4) (N := some 45) (v := ?_) (a' := ?_) #[true,true,true,true,true,true,true,true,true,false,false,false] rfl rfl (take_ofW HT_.out HW_.out (by kernel_rfl)) (fun _ _ _ h => h) (Or.inl ⟨by rfl,?_⟩) hHeld ?_ ?_
          rotate_left
          ·rintro w' ⟨s0,s1⟩
           go_simp
           with_reducible rfl
          rotate_left
          ·simp only [Act.put,List.setIfInBounds_toArray,List.set_cons_zero,List.set_cons_succ,i64_w,i32_w]
           rfl
          refine one_ (i := 9) (N := none) #[true,true,true,true,true,true,true,true,true,true,false,false] rfl rfl (one_of HT_.out (by kernel_rfl)) (by decide) (fun K hK => ?_)
          refine skip_ (w1 := ?_) (by rfl) rfl ?_ ?_
          rotate_left
          ·go_simp
           rfl
          refine hK.out _ _ ⟨((cell_far (p := ⟨go28,_,none⟩) (blk_ne BK269.out GG28.out (by decide)) _).trans (hHeld.1)),((cell_far (p := ⟨go28,_,none⟩) (blk_ne BK269.out GG28.out (by decide)) _).trans (hHeld.2))⟩ (fun hHeld => ?_)
          clear hK K
          refine pure_ (i := 10) (N := some 50) (v := ?_) (a' := ?_) #[true,true,true,true,true,true,true,true,true,true,true,false] rfl rfl (any_of HT_.out (by kernel_rfl)) (fun _ _ _ h => h) (Or.inl ⟨by rfl,?_⟩) ?_ ?_
          rotate_left
          ·intro w'
           go_simp
           with_reducible rfl
          rotate_left
          ·simp only [Act.put,List.setIfInBounds_toArray,List.set_cons_zero,List.set_cons_succ,i64_w,i32_w]
           rfl
          refine last_ (i := 11) (N := none) #[true,true,true,true,true,true,true,true,true,true,true,true] rfl rfl (one_of HT_.out (by kernel_rfl)) (by decide) (fun K hK => ?_)
          refine skip_ (w1 := ?_) (by rfl) rfl ?_ ?_
          rotate_left
          ·go_simp
           rfl
          refine hK.out _ _ ?_
          clear hK K
          refine done_ (done_of HT_.out (by kernel_rfl)) ?_
          have n0_ : Aside0 (Kd.R (Kd.int .i64) 3 ((w33.setCell ⟨go28,(a1 : Int).toNat,none⟩ (.int .i64 (wrap64 ((rd l0_0 a1) + (rd l0_0 a2))))).setCell ⟨go28,(a2 : Int).toNat,none⟩ (.int .i64 (wrap64 ((rd l0_0 a1) + (rd l0_0 a2))))) w.heap.size (fun _ => True) (.slice (some ⟨go28,0,none⟩) x270000_1.length co28) y277) := ⟨by (with_reducible repeat (first | apply Kd.R_alloc | apply Kd.R_drewN | apply Kd.R_drew));exact HQ35.out⟩
          have n1_ : Aside0 (((w33.setCell ⟨go28,(a1 : Int).toNat,none⟩ (.int .i64 (wrap64 ((rd l0_0 a1) + (rd l0_0 a2))))).setCell ⟨go28,(a2 : Int).toNat,none⟩ (.int .i64 (wrap64 ((rd l0_0 a1) + (rd l0_0 a2))))).heap[gb267]? = some (.cells #[.slice (some ad274) l0_0.length c0_0, .int .i64 a0_1] 29 (0,0))) := ⟨by (with_reducible repeat (first | refine blk_drewN ?_ _ | refine blk_drew ?_ | refine blk_alloc ?_ _));refine blk_far ?_ (by have h_ := Kd.R_ne HO_270000.out BK267.out (by decide);intro e_;exact h_ (by rw [e_];rfl)) _;(with_reducible repeat (first | refine blk_drewN ?_ _ | refine blk_drew ?_ | refine blk_alloc ?_ _));refine blk_far ?_ (by have h_ := Kd.R_ne HO_270000.out BK267.out (by decide);intro e_;exact h_ (by rw [e_];rfl)) _;(with_reducible repeat (first | refine blk_drewN ?_ _ | refine blk_drew ?_ | refine blk_alloc ?_ _));exact BK267.out⟩
          have n2_ : Aside0 (((w33.setCell ⟨go28,(a1 : Int).toNat,none⟩ (.int .i64 (wrap64 ((rd l0_0 a1) + (rd l0_0 a2))))).setCell ⟨go28,(a2 : Int).toNat,none⟩ (.int .i64 (wrap64 ((rd l0_0 a1) + (rd l0_0 a2))))).heap[gb268]? = some (.cells #[.slice none 0 0, .int .i64 0] 29 (0,0))) := ⟨by (with_reducible repeat (first | refine blk_drewN ?_ _ | refine blk_drew ?_ | refine blk_alloc ?_ _));refine blk_far ?_ (by have h_ := Kd.R_ne HO_270000.out BK268.out (by decide);intro e_;exact h_ (by rw [e_];rfl)) _;(with_reducible repeat (first | refine blk_drewN ?_ _ | refine blk_drew ?_ | refine blk_alloc ?_ _));refine blk_far ?_ (by have h_ := Kd.R_ne HO_270000.out BK268.out (by decide);intro e_;exact h_ (by rw [e_];rfl)) _;(with_reducible repeat (first | refine blk_drewN ?_ _ | refine blk_drew ?_ | refine blk_alloc ?_ _));exact BK268.out⟩
          have n3_ : Aside0 (((w33.setCell ⟨go28,(a1 : Int).toNat,none⟩ (.int .i64 (wrap64 ((rd l0_0 a1) + (rd l0_0 a2))))).setCell ⟨go28,(a2 : Int).toNat,none⟩ (.int .i64 (wrap64 ((rd l0_0 a1) + (rd l0_0 a2))))).heap[gb269]? = some (.cells #[.slice (some ⟨go28,0,none⟩) x270000_1.length co28, .int .i64 (wrap64 (2 * a0_1))] 29 (0,0))) := ⟨by (with_reducible repeat (first | refine blk_drewN ?_ _ | refine blk_drew ?_ | refine blk_alloc ?_ _));refine blk_far ?_ (by have h_ := Kd.R_ne HO_270000.out BK269.out (by decide);intro e_;exact h_ (by rw [e_];rfl)) _;(with_reducible repeat (first | refine blk_drewN ?_ _ | refine blk_drew ?_ | refine blk_alloc ?_ _));refine blk_far ?_ (by have h_ := Kd.R_ne HO_270000.out BK269.out (by decide);intro e_;exact h_ (by rw [e_];rfl)) _;(with_reducible repeat (first | refine blk_drewN ?_ _ | refine blk_drew ?_ | refine blk_alloc ?_ _));exact BK269.out⟩
          have n4_ : Aside0 (Below w.heap.size w ((w33.setCell ⟨go28,(a1 : Int).toNat,none⟩ (.int .i64 (wrap64 ((rd l0_0 a1) + (rd l0_0 a2))))).setCell ⟨go28,(a2 : Int).toNat,none⟩ (.int .i64 (wrap64 ((rd l0_0 a1) + (rd l0_0 a2)))))) := ⟨by repeat (first | (with_reducible first | exact HB.out | apply below_alloc | apply pw_below_drewN | apply below_drew1 | refine below_set ?_ GB28.out | refine below_set ?_ GB28.out | refine below_set ?_ GE267.out | refine below_set ?_ GE268.out | refine below_set ?_ GE269.out) | exact HB.out)⟩
          (try clear HO_270000)
          (try clear BK267)
          (try clear BK268)
          (try clear BK269)
          (try clear HB)
          generalize ((w33.setCell ⟨go28,(a1 : Int).toNat,none⟩ (.int .i64 (wrap64 ((rd l0_0 a1) + (rd l0_0 a2))))).setCell ⟨go28,(a2 : Int).toNat,none⟩ (.int .i64 (wrap64 ((rd l0_0 a1) + (rd l0_0 a2))))) = w36 at n0_ n1_ n2_ n3_ n4_ ⊢
          have HO_270000 := n0_
          have BK267 := n1_
          have BK268 := n2_
          have BK269 := n3_
          have HB := n4_
          clear n0_ n1_ n2_ n3_ n4_
          have hnb37 := NB269_267.out
          have hnc37 := NB267_269.out
          have hnb38 := NB269_268.out
          have hnc38 := NB268_269.out
          have hcz39_0 : w36.cell? ⟨gb269,0,none⟩ = some (.slice (some ⟨go28,0,none⟩) x270000_1.length co28) := (blk_cell BK269.out 0).trans rfl
          have hcz39_1 : w36.cell? ⟨gb269,1,none⟩ = some (.int .i64 (wrap64 (2 * a0_1))) := (blk_cell BK269.out 1).trans rfl
          have hfz39_0 := blk_frozen BK269.out 0
          have hfz39_1 := blk_frozen BK269.out 1
          try go_wp2_with (first | ((with_reducible refine gate_callee (f := 59) rfl ?_);refine goesL_ (some 52) rfl rfl Try.func59 (by kernel_rfl) rfl #[.agg #[.slice (some ⟨go28,0,none⟩) x270000_1.length co28, .int .i64 (wrap64 (2 * a0_1))]] rfl (by (try simp only [List.map_toArray,List.map_cons,List.map_nil]);first | done | rfl | (simp only [List.length_drop,List.length_take];rfl)) ?_;(with_reducible refine (impl_reduced.calls k1 (fun k_ => some k_ = (.slice (some ⟨go28,0,none⟩) x270000_1.length co28 : Value).ownBlock) (.slice (some ⟨go28,0,none⟩) x270000_1.length co28) y277 (wrap64 (2 * a0_1)) t278 t281 w _ ?side1 ?side2 A31.out).mono ?_);(case side1 => repeat (first | (with_reducible first | exact HB.out | apply below_alloc | apply pw_below_drewN | apply below_drew1 | refine below_set ?_ GE267.out | refine below_set ?_ GE268.out | refine below_set ?_ GE269.out) | exact HB.out));(case side2 => exact Kd.R_tight rfl HO_270000.out);rintro e w40 ⟨v279,rfl,ho0,hb,hkp⟩;refine ⟨_,rfl,?_⟩;have n0_ := Aside0.mk (blk_kept (by (with_reducible repeat (first | refine blk_drewN ?_ _ | refine blk_drew ?_ | refine blk_alloc ?_ _));exact BK267.out) hkp (fun hs_ => (fun e_ => (Kd.R_ne HO_270000.out BK267.out (by decide)) e_) hs_));have n1_ := Aside0.mk (blk_kept (by (with_reducible repeat (first | refine blk_drewN ?_ _ | refine blk_drew ?_ | refine blk_alloc ?_ _));exact BK268.out) hkp (fun hs_ => (fun e_ => (Kd.R_ne HO_270000.out BK268.out (by decide)) e_) hs_));have n2_ := Aside0.mk (blk_kept (by (with_reducible repeat (first | refine blk_drewN ?_ _ | refine blk_drew ?_ | refine blk_alloc ?_ _));exact BK269.out) hkp (fun hs_ => (fun e_ => (Kd.R_ne HO_270000.out BK269.out (by decide)) e_) hs_));have n3_ := Aside0.mk (Kd.R_mono (ok' := fun k_ => True) ho0 (fun k_ hk_ => trivial));have n4_ := Aside0.mk (hb);clear BK267;clear BK268;clear BK269;clear HB;clear HO_270000;have BK267 := n0_;have BK268 := n1_;have BK269 := n2_;have HO280 := n3_;have HB := n4_;clear n0_ n1_ n2_ n3_ n4_;(try clear hb);(try clear hkp);(try clear ho0);obtain ⟨Ao41,co41,eo41⟩ := Kd.R_slice HO280.out;subst eo41;have hnb42 := NB268_267.out;have hnc42 := NB267_268.out;have hcz43_0 : w40.cell? ⟨gb268,0,none⟩ = some (.slice none 0 0) := (blk_cell BK268.out 0).trans rfl;have hcz43_1 : w40.cell? ⟨gb268,1,none⟩ = some (.int .i64 0) := (blk_cell BK268.out 1).trans rfl;have hfz43_0 := blk_frozen BK268.out 0;have hfz43_1 := blk_frozen BK268.out 1))
          refine bodyPost_ret (results_cell_row rfl _ _ gb268 29 #[.slice Ao41 t278.length co41, .int .i64 t281] (0,0) _ rfl (by (with_reducible repeat (first | refine blk_drewN ?_ _ | refine blk_drew ?_ | refine blk_alloc ?_ _));refine blk_put (cs := #[.slice Ao41 t278.length co41, .int .i64 0]) ?_ 1 _ rfl;(with_reducible repeat (first | refine blk_drewN ?_ _ | refine blk_drew ?_ | refine blk_alloc ?_ _));refine blk_put (cs := #[.slice none 0 0, .int .i64 0]) ?_ 0 _ rfl;(with_reducible repeat (first | refine blk_drewN ?_ _ | refine blk_drew ?_ | refine blk_alloc ?_ _));exact BK268.out) Try.underlying29 rfl (by kernel_rfl)) rfl ?_
          exact ⟨_,by first | rfl | (simp [errW_none,errW_some] <;> rfl) | (simp [*,errW_none,errW_some] <;> rfl),by (with_reducible repeat (first | apply Kd.R_alloc | apply Kd.R_drewN | apply Kd.R_drew));exact Kd.R_mono (Kd.R_far (p := ⟨gb268,1,none⟩) (Kd.R_far (p := ⟨gb268,0,none⟩) (Kd.R_types HO280.out BK268.out (by decide)) (fun _ hk => hk.2) (.slice Ao41 t278.length co41)) (fun _ hk => hk.2) (.int .i64 t281)) (fun _ hk => trivial),by repeat (first | (with_reducible first | exact HB.out | apply below_alloc | apply pw_below_drewN | apply below_drew1 | refine below_set ?_ GE267.out | refine below_set ?_ GE268.out | refine below_set ?_ GE269.out) | exact HB.out)⟩
         ·rw [if_neg c29] at H
          exact absurd H (by simp)
        ·rw [if_neg c27] at H
         exact absurd H (by simp)
       ·rw [if_neg c26] at H
        exact absurd H (by simp)
      ·rw [if_neg c25] at H
       exact absurd H (by simp)
     ·rw [if_neg c24] at H
      exact absurd H (by simp)
    ·rw [if_neg c23] at H
     exact absurd H (by simp)

end Go.Proofs.Ytmkpngmdikbbeaa.P
