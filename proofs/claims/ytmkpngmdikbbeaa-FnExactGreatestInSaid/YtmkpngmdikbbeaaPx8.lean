/- Written by a program of this workplace (own_print.py, over the kit's print) for the functions that the statements reach, with contracts of its own. Lean checks it. -/
import Derived.Test.YtmkpngmdikbbeaaPx0
import Derived.Test.YtmkpngmdikbbeaaPx2
namespace Go.Proofs.Ytmkpngmdikbbeaa.P
open Go.RowKit Go.Proofs.YtmkpngmdikbbeaaW.PrintWords Go.Proofs.YtmkpngmdikbbeaaW.PrintLast Go.Proofs.YtmkpngmdikbbeaaW.PrintMore
attribute [local go_sem] max2_int min2_int max_two min_two max_three min_three max_four min_four   -- for this text's walks alone
set_option linter.unusedVariables false
set_option linter.unusedSimpArgs false

/-! ### impl_reduced: function 59 -/
mutual
def impl_reduced.l0 : Nat → List Int → Int → Option (List Int × Int)
 | 0,_,_ => none
 | k + 1,x263000,x263001 => if x263001 > 1 then ((slices_ContainsFunc_int_int.f x263000 75).bind fun t264 => (impl_reduced.j1 k (!t264) x263000 x263001)) else (impl_reduced.j1 k false x263000 x263001)
def impl_reduced.j1 : Nat → Bool → List Int → Int → Option (List Int × Int)
 | 0,_,_,_ => none
 | k + 1,x12,x263000,x263001 => if x12 = true then (impl_reduced.l1 k (x263000.length : Int) 0 x263000 (wrap64 (Int.tdiv x263001 2))) else (some (x263000,x263001))
def impl_reduced.l1 : Nat → Int → Int → List Int → Int → Option (List Int × Int)
 | 0,_,_,_,_ => none
 | k + 1,x19,x20,x263000,x263001 => if x20 < x19 then (if 0 ≤ x20 then (if x20 < (x263000.length : Int) then (impl_reduced.l1 k x19 (wrap64 (x20 + 1)) (x263000.set (x20 : Int).toNat (wrap64 (Int.tdiv (rd x263000 x20) 2))) x263001) else (none)) else (none)) else (impl_reduced.l0 k x263000 x263001)
end
def impl_reduced.f (k : Nat) (l0_0 : List Int) (a0_1 : Int) : Option (List Int × Int) := impl_reduced.l0 k l0_0 a0_1
theorem impl_reduced.mono_l : ∀ k,(∀ y0 y1,LeO (impl_reduced.l0 k y0 y1) (impl_reduced.l0 (k + 1) y0 y1)) ∧ (∀ y0 y1 y2,LeO (impl_reduced.j1 k y0 y1 y2) (impl_reduced.j1 (k + 1) y0 y1 y2)) ∧ (∀ y0 y1 y2 y3,LeO (impl_reduced.l1 k y0 y1 y2 y3) (impl_reduced.l1 (k + 1) y0 y1 y2 y3))
 | 0 => ⟨fun _ _ r h => by simp [impl_reduced.l0] at h,fun _ _ _ r h => by simp [impl_reduced.j1] at h,fun _ _ _ _ r h => by simp [impl_reduced.l1] at h⟩
 | k + 1 => by
  obtain ⟨ih0,ih1,ih2⟩ := impl_reduced.mono_l k
  refine ⟨?_,?_,?_⟩
  ·intro y0 y1
   unfold impl_reduced.l0
   repeat' first
   | (with_reducible exact ih0 _ _)
   | (with_reducible exact ih1 _ _ _)
   | (with_reducible exact ih2 _ _ _ _)
   | (with_reducible exact LeO.refl _)
   | (with_reducible exact LeO.none _)
   | (with_reducible refine LeO.ite ?_ ?_)
   | (with_reducible refine LeO.bind ?_ (fun _ => ?_))
   | exact ih0 _ _
   | exact ih1 _ _ _
   | exact ih2 _ _ _ _
   | exact LeO.none _
   | refine LeO.ite ?_ ?_
   | refine LeO.bind ?_ (fun _ => ?_)
  ·intro y0 y1 y2
   unfold impl_reduced.j1
   repeat' first
   | (with_reducible exact ih0 _ _)
   | (with_reducible exact ih1 _ _ _)
   | (with_reducible exact ih2 _ _ _ _)
   | (with_reducible exact LeO.refl _)
   | (with_reducible exact LeO.none _)
   | (with_reducible refine LeO.ite ?_ ?_)
   | (with_reducible refine LeO.bind ?_ (fun _ => ?_))
   | exact ih0 _ _
   | exact ih1 _ _ _
   | exact ih2 _ _ _ _
   | exact LeO.none _
   | refine LeO.ite ?_ ?_
   | refine LeO.bind ?_ (fun _ => ?_)
  ·intro y0 y1 y2 y3
   unfold impl_reduced.l1
   repeat' first
   | (with_reducible exact ih0 _ _)
   | (with_reducible exact ih1 _ _ _)
   | (with_reducible exact ih2 _ _ _ _)
   | (with_reducible exact LeO.refl _)
   | (with_reducible exact LeO.none _)
   | (with_reducible refine LeO.ite ?_ ?_)
   | (with_reducible refine LeO.bind ?_ (fun _ => ?_))
   | exact ih0 _ _
   | exact ih1 _ _ _
   | exact ih2 _ _ _ _
   | exact LeO.none _
   | refine LeO.ite ?_ ?_
   | refine LeO.bind ?_ (fun _ => ?_)
theorem impl_reduced.mono : ∀ a0 a1 k,LeO (impl_reduced.f k a0 a1) (impl_reduced.f (k + 1) a0 a1) := by
 intro a0 a1 k
 obtain ⟨ih0,ih1,ih2⟩ := impl_reduced.mono_l k
 unfold impl_reduced.f
 repeat' first
   | (with_reducible exact ih0 _ _)
   | (with_reducible exact ih1 _ _ _)
   | (with_reducible exact ih2 _ _ _ _)
   | (with_reducible exact LeO.refl _)
   | (with_reducible exact LeO.none _)
   | (with_reducible refine LeO.ite ?_ ?_)
   | (with_reducible refine LeO.bind ?_ (fun _ => ?_))
   | exact ih0 _ _
   | exact ih1 _ _ _
   | exact ih2 _ _ _ _
   | exact LeO.none _
   | refine LeO.ite ?_ ?_
   | refine LeO.bind ?_ (fun _ => ?_)
set_option maxHeartbeats 8000000 in
set_option maxRecDepth 100000 in
theorem impl_reduced.calls (k : Nat) (P0_0_ : Nat → Prop) (u9000_ : Value) (l0_0 : List Int) (a0_1 : Int) (r1 : List Int) (r2 : Int) (w0 w : World) (hB : Below w0.heap.size w0 w) (ho0_0 : Kd.R (Kd.int .i64) 3 w w0.heap.size P0_0_ u9000_ l0_0) (h : impl_reduced.f k l0_0 a0_1 = some (r1,r2)) :
  Calls Try.prog 59 #[.agg #[u9000_, .int .i64 a0_1]] w fun e w' => ∃ v0_ : Value,e = .returned (.agg #[v0_, .int .i64 r2]) ∧ Kd.R (Kd.int .i64) 3 w' w0.heap.size (fun k_ => (P0_0_ k_ ∨ w.heap.size ≤ k_)) v0_ r1 ∧ Below w0.heap.size w0 w' ∧ Kept w w' (fun k_ => P0_0_ k_) := by
 have hu29 := Try.underlying29
 have HO0_0 := Aside0.mk (show Kd.R (Kd.int .i64) 3 w w0.heap.size (fun k_ => (P0_0_ k_ ∨ w.heap.size ≤ k_)) u9000_ l0_0 from Kd.R_mono ho0_0 (fun k_ hk => (.inl hk)))
 have HK := Aside0.mk (Kept.refl w (fun k_ => P0_0_ k_))
 have HW0 := Aside0.mk hB.size
 have HB := Aside0.mk hB
 clear hB
 have H : (impl_reduced.l0 k l0_0 a0_1) = some (r1,r2) := h
 clear h
 have H' := Aside0.mk H
 clear H
 obtain ⟨Ao2,co2,eo2⟩ := Kd.R_slice HO0_0.out
 subst eo2
 go_enter Try.func59,Try.ntmps59
 go_wp2_with (first | ((with_reducible refine gate_dst (N := 1) rfl ?_);refine box_event ?hg (N := 1) ?hd (cs := #[.slice Ao2 l0_0.length co2, .int .i64 a0_1]) (t := 29) ?hr ?_;(case hd => rfl);(case hg => rfl);(case hr => first | (go_simp;done) | (go_simp;rfl));intro gb262 hg w3 hbox hb;have n0_ := Aside0.mk (Kd.R_below (by (with_reducible repeat (first | apply Kd.R_alloc | apply Kd.R_drewN | apply Kd.R_drew));exact HO0_0.out) hb);have n1_ := Aside0.mk (Kept.below (S := (fun k_ => P0_0_ k_)) (by repeat (first | (with_reducible first | exact HK.out | apply Kept.alloc | apply Kept.drewN | apply Kept.drew) | exact HK.out)) hb);have n2_ := Aside0.mk (below_step (by repeat (first | (with_reducible first | exact HB.out | apply below_alloc | apply pw_below_drewN | apply below_drew1) | exact HB.out)) hb);have n3_ := Aside0.mk (hbox);have n4_ := Aside0.mk ((by rw [hg];exact (by first | exact HK.out.1 | exact (show Kept w _ (fun k_ => P0_0_ k_) from by repeat (first | (with_reducible first | exact HK.out | apply Kept.alloc | apply Kept.drewN | apply Kept.drew) | exact HK.out)).1) : w.heap.size ≤ gb262));have n5_ := Aside0.mk ((by rw [hg];exact (below_size (by repeat (first | (with_reducible first | exact HB.out | apply below_alloc | apply pw_below_drewN | apply below_drew1) | exact HB.out))) : w0.heap.size ≤ gb262));clear HO0_0;clear HK;clear HB;have HO0_0 := n0_;have HK := n1_;have HB := n2_;have BK262 := n3_;have GW262 := n4_;have GE262 := n5_;clear n0_ n1_ n2_ n3_ n4_ n5_;clear hb hbox hg) | ((with_reducible refine gate_dst (N := 2) rfl ?_);refine box_event ?hg (N := 2) ?hd (cs := #[.slice none 0 0, .int .i64 0]) (t := 29) ?hr ?_;(case hd => rfl);(case hg => rfl);(case hr => first | (go_simp;done) | (go_simp;rfl));intro gb263 hg w4 hbox hb;have n0_ := Aside0.mk (Kd.R_below (by (with_reducible repeat (first | apply Kd.R_alloc | apply Kd.R_drewN | apply Kd.R_drew));exact HO0_0.out) hb);have n1_ := Aside0.mk (blk_below (g := gb262) (o := .cells #[.slice Ao2 l0_0.length co2, .int .i64 a0_1] 29 (0,0)) (by (with_reducible repeat (first | refine blk_drewN ?_ _ | refine blk_drew ?_ | refine blk_alloc ?_ _));exact BK262.out) hb);have n2_ := Aside0.mk (Kept.below (S := (fun k_ => P0_0_ k_)) (by repeat (first | (with_reducible first | exact HK.out | apply Kept.alloc | apply Kept.drewN | apply Kept.drew | refine Kept.setCell ?_ (.inr GW262.out) _) | exact HK.out)) hb);have n3_ := Aside0.mk (below_step (by repeat (first | (with_reducible first | exact HB.out | apply below_alloc | apply pw_below_drewN | apply below_drew1 | refine below_set ?_ GE262.out) | exact HB.out)) hb);have n4_ := Aside0.mk (hbox);have n5_ := Aside0.mk ((by rw [hg];exact (by first | exact HK.out.1 | exact (show Kept w _ (fun k_ => P0_0_ k_) from by repeat (first | (with_reducible first | exact HK.out | apply Kept.alloc | apply Kept.drewN | apply Kept.drew | refine Kept.setCell ?_ (.inr GW262.out) _) | exact HK.out)).1) : w.heap.size ≤ gb263));have n6_ := Aside0.mk ((by rw [hg];exact (below_size (by repeat (first | (with_reducible first | exact HB.out | apply below_alloc | apply pw_below_drewN | apply below_drew1 | refine below_set ?_ GE262.out) | exact HB.out))) : w0.heap.size ≤ gb263));have n7_ := Aside0.mk ((by rw [hg];exact Nat.ne_of_lt (blk_lt (g := gb262) (o := .cells #[.slice Ao2 l0_0.length co2, .int .i64 a0_1] 29 (0,0)) (by (with_reducible repeat (first | refine blk_drewN ?_ _ | refine blk_drew ?_ | refine blk_alloc ?_ _));exact BK262.out)) : gb262 ≠ gb263));have n8_ := Aside0.mk ((by rw [hg];exact Nat.ne_of_gt (blk_lt (g := gb262) (o := .cells #[.slice Ao2 l0_0.length co2, .int .i64 a0_1] 29 (0,0)) (by (with_reducible repeat (first | refine blk_drewN ?_ _ | refine blk_drew ?_ | refine blk_alloc ?_ _));exact BK262.out)) : gb263 ≠ gb262));clear HO0_0;clear BK262;clear HK;clear HB;have HO0_0 := n0_;have BK262 := n1_;have HK := n2_;have HB := n3_;have BK263 := n4_;have GW263 := n5_;have GE263 := n6_;have NB262_263 := n7_;have NB263_262 := n8_;clear n0_ n1_ n2_ n3_ n4_ n5_ n6_ n7_ n8_;clear hb hbox hg))
 go_simp
 go_loopg [] k (fun kq w' => ∃ (x263000_1 : List Int) (x263001_1 : Int) (u263000 : Value),Aside0 (impl_reduced.l0 kq x263000_1 x263001_1 = some (r1,r2)) ∧ Aside0 (kq ≤ k) ∧ Aside0 (Kd.R (Kd.int .i64) 3 w' w0.heap.size (fun k_ => (P0_0_ k_ ∨ w.heap.size ≤ k_)) u263000 x263000_1) ∧ Aside0 (w'.heap[gb262]? = some (.cells #[u263000, .int .i64 x263001_1] 29 (0,0))) ∧ Aside0 (w'.heap[gb263]? = some (.cells #[(.slice none 0 0), .int .i64 0] 29 (0,0))) ∧ Aside0 (Kept w w' (fun k_ => P0_0_ k_)) ∧ Aside0 (Below w0.heap.size w0 w'))
 case atStart => exact ⟨(l0_0),(a0_1),(.slice Ao2 l0_0.length co2),H',⟨Nat.le_refl _⟩,⟨by (with_reducible repeat (first | apply Kd.R_alloc | apply Kd.R_drewN | apply Kd.R_drew));exact HO0_0.out⟩,⟨by (with_reducible repeat (first | refine blk_drewN ?_ _ | refine blk_drew ?_ | refine blk_alloc ?_ _));exact BK262.out⟩,⟨by (with_reducible repeat (first | refine blk_drewN ?_ _ | refine blk_drew ?_ | refine blk_alloc ?_ _));exact BK263.out⟩,⟨by repeat (first | (with_reducible first | exact HK.out | apply Kept.alloc | apply Kept.drewN | apply Kept.drew | refine Kept.setCell ?_ (.inr GW262.out) _ | refine Kept.setCell ?_ (.inr GW263.out) _) | exact HK.out)⟩,⟨by repeat (first | (with_reducible first | exact HB.out | apply below_alloc | apply pw_below_drewN | apply below_drew1 | refine below_set ?_ GE262.out | refine below_set ?_ GE263.out) | exact HB.out)⟩⟩
 case round =>
  clear H'
  try clear p2
  obtain ⟨x263000_1,x263001_1,u263000,HA,HK1,HO_263000,BK262,BK263,HK,HB⟩ := hrel
  cases gk with
  | zero => exact absurd HA.out (by simp [impl_reduced.l0])
  | succ k1 =>
   have H := HA.out
   clear HA
   simp only [impl_reduced.l0] at H
   have HC5 := Aside0.mk H
   clear H
   go_upto_region 1 with (fail)
   go_cut [12] (fun v12 wc => ∃ (kq : Nat) (x12_4 : Bool),v12 = .bool x12_4 ∧ Aside0 (impl_reduced.j1 kq x12_4 x263000_1 x263001_1 = some (r1,r2)) ∧ Aside0 (kq ≤ k1) ∧ Aside0 (Kd.R (Kd.int .i64) 3 wc w0.heap.size (fun k_ => (P0_0_ k_ ∨ w.heap.size ≤ k_)) u263000 x263000_1) ∧ Aside0 (wc.heap[gb262]? = some (.cells #[u263000, .int .i64 x263001_1] 29 (0,0))) ∧ Aside0 (wc.heap[gb263]? = some (.cells #[(.slice none 0 0), .int .i64 0] 29 (0,0))) ∧ Aside0 (Kept w wc (fun k_ => P0_0_ k_)) ∧ Aside0 (Below w0.heap.size w0 wc))
   case first =>
    have H := HC5.out
    clear HC5
    by_cases c6 : x263001_1 > 1
    ·rw [if_pos c6] at H
     have c6b0 : decide (1 < x263001_1) = true := decide_eq_true c6
     clear c6
     (first | rw [c6b0] | (simp only [i64_w,i32_w];rw [c6b0]) | skip)
     replace H := Option.bind_eq_some_iff.mp H
     obtain ⟨t264,A70,H⟩ := H
     replace H : (impl_reduced.j1 k1 (!t264) x263000_1 x263001_1) = some (r1,r2) := H
     have A7 := Aside0.mk A70
     clear A70
     have H' := Aside0.mk H
     clear H
     have hnb8 := NB262_263.out
     have hnc8 := NB263_262.out
     have hcz9_0 : wr.cell? ⟨gb262,0,none⟩ = some (u263000) := (blk_cell BK262.out 0).trans rfl
     have hcz9_1 : wr.cell? ⟨gb262,1,none⟩ = some (.int .i64 x263001_1) := (blk_cell BK262.out 1).trans rfl
     have hfz9_0 := blk_frozen BK262.out 0
     have hfz9_1 := blk_frozen BK262.out 1
     obtain ⟨Ao10,co10,eo10⟩ := Kd.R_slice HO_263000.out
     subst eo10
     go_wp2_with (first | (go_at_call 52;(with_reducible refine (slices_ContainsFunc_int_int.calls _ _ x263000_1 75 t264 _ ?side1 ?side2 A7.out).mono ?_);(case side1 => repeat (first | exact (Kd.R_reads' HO_263000.out).2.2 | (with_reducible refine Kd.C_alloc ?_ _) | (with_reducible refine Kd.C_drewN ?_ _) | (with_reducible refine Kd.C_drew ?_)));(case side2 => exact (Kd.R_reads' HO_263000.out).2.1);rintro e w11 ⟨rfl,hb⟩;have n0_ := Aside0.mk (Kd.R_below (by (with_reducible repeat (first | apply Kd.R_alloc | apply Kd.R_drewN | apply Kd.R_drew));exact HO_263000.out) hb);have n1_ := Aside0.mk (blk_below (g := gb262) (o := .cells #[.slice Ao10 x263000_1.length co10, .int .i64 x263001_1] 29 (0,0)) (by (with_reducible repeat (first | refine blk_drewN ?_ _ | refine blk_drew ?_ | refine blk_alloc ?_ _));exact BK262.out) hb);have n2_ := Aside0.mk (blk_below (g := gb263) (o := .cells #[.slice none 0 0, .int .i64 0] 29 (0,0)) (by (with_reducible repeat (first | refine blk_drewN ?_ _ | refine blk_drew ?_ | refine blk_alloc ?_ _));exact BK263.out) hb);have n3_ := Aside0.mk (Kept.below (S := (fun k_ => P0_0_ k_)) (by repeat (first | (with_reducible first | exact HK.out | apply Kept.alloc | apply Kept.drewN | apply Kept.drew | refine Kept.setCell ?_ (.inr GW262.out) _ | refine Kept.setCell ?_ (.inr GW263.out) _) | exact HK.out)) hb);have n4_ := Aside0.mk (below_step (by repeat (first | (with_reducible first | exact HB.out | apply below_alloc | apply pw_below_drewN | apply below_drew1 | refine below_set ?_ GE262.out | refine below_set ?_ GE263.out) | exact HB.out)) hb);clear HO_263000;clear BK262;clear BK263;clear HK;clear HB;have HO_263000 := n0_;have BK262 := n1_;have BK263 := n2_;have HK := n3_;have HB := n4_;clear n0_ n1_ n2_ n3_ n4_;(try clear hb);(try clear hb2);(try clear hk);(try clear hi)))
     go_meet
     case rel => exact ⟨_,(!t264),(by first | rfl | (simp;done) | (simp [*];done)),H',⟨by have := HK1.out;first | omega | exact Nat.le_refl _⟩,⟨by (with_reducible repeat (first | apply Kd.R_alloc | apply Kd.R_drewN | apply Kd.R_drew));exact HO_263000.out⟩,⟨by (with_reducible repeat (first | refine blk_drewN ?_ _ | refine blk_drew ?_ | refine blk_alloc ?_ _));exact BK262.out⟩,⟨by (with_reducible repeat (first | refine blk_drewN ?_ _ | refine blk_drew ?_ | refine blk_alloc ?_ _));exact BK263.out⟩,⟨by repeat (first | (with_reducible first | exact HK.out | apply Kept.alloc | apply Kept.drewN | apply Kept.drew | refine Kept.setCell ?_ (.inr GW262.out) _ | refine Kept.setCell ?_ (.inr GW263.out) _) | exact HK.out)⟩,⟨by repeat (first | (with_reducible first | exact HB.out | apply below_alloc | apply pw_below_drewN | apply below_drew1 | refine below_set ?_ GE262.out | refine below_set ?_ GE263.out) | exact HB.out)⟩⟩
    ·rw [if_neg c6] at H
     have c6b0 : decide (1 < x263001_1) = false := decide_eq_false c6
     clear c6
     (first | rw [c6b0] | (simp only [i64_w,i32_w];rw [c6b0]) | skip)
     have H' := Aside0.mk H
     clear H
     have hnb12 := NB262_263.out
     have hnc12 := NB263_262.out
     have hcz13_0 : wr.cell? ⟨gb262,0,none⟩ = some (u263000) := (blk_cell BK262.out 0).trans rfl
     have hcz13_1 : wr.cell? ⟨gb262,1,none⟩ = some (.int .i64 x263001_1) := (blk_cell BK262.out 1).trans rfl
     have hfz13_0 := blk_frozen BK262.out 0
     have hfz13_1 := blk_frozen BK262.out 1
     go_wp2
     go_meet
     case rel => exact ⟨_,(false),(by first | rfl | (simp;done) | (simp [*];done)),H',⟨by have := HK1.out;first | omega | exact Nat.le_refl _⟩,⟨by (with_reducible repeat (first | apply Kd.R_alloc | apply Kd.R_drewN | apply Kd.R_drew));exact HO_263000.out⟩,⟨by (with_reducible repeat (first | refine blk_drewN ?_ _ | refine blk_drew ?_ | refine blk_alloc ?_ _));exact BK262.out⟩,⟨by (with_reducible repeat (first | refine blk_drewN ?_ _ | refine blk_drew ?_ | refine blk_alloc ?_ _));exact BK263.out⟩,⟨by repeat (first | (with_reducible first | exact HK.out | apply Kept.alloc | apply Kept.drewN | apply Kept.drew | refine Kept.setCell ?_ (.inr GW262.out) _ | refine Kept.setCell ?_ (.inr GW263.out) _) | exact HK.out)⟩,⟨by repeat (first | (with_reducible first | exact HB.out | apply below_alloc | apply pw_below_drewN | apply below_drew1 | refine below_set ?_ GE262.out | refine below_set ?_ GE263.out) | exact HB.out)⟩⟩
   case rest =>
    clear HC5
    try clear c1
    try clear p2
    try clear c5
    try clear c6
    try clear c6b0
    try clear c8
    try clear c12
    try clear hcz13_0
    try clear hcz13_1
    try clear hcz9_0
    try clear hcz9_1
    try clear hfz13_0
    try clear hfz13_1
    try clear hfz9_0
    try clear hfz9_1
    try clear p2
    obtain ⟨kq,x12_4,rfl,HA,HJ4,HO_263000,BK262,BK263,HK,HB⟩ := hcut
    cases kq with
    | zero => exact absurd HA.out (by simp [impl_reduced.j1])
    | succ kj4 =>
     have H := HA.out
     clear HA
     simp only [impl_reduced.j1] at H
     by_cases c14 : x12_4 = true
     ·subst c14
      have H1 : (impl_reduced.l1 kj4 (x263000_1.length : Int) 0 x263000_1 (wrap64 (Int.tdiv x263001_1 2))) = some (r1,r2) := by rw [if_pos rfl] at H;exact H
      clear H
      have H := H1
      clear H1
      have H' := Aside0.mk H
      clear H
      have hnb15 := NB262_263.out
      have hnc15 := NB263_262.out
      have hcz16_0 : wc.cell? ⟨gb262,0,none⟩ = some (u263000) := (blk_cell BK262.out 0).trans rfl
      have hcz16_1 : wc.cell? ⟨gb262,1,none⟩ = some (.int .i64 x263001_1) := (blk_cell BK262.out 1).trans rfl
      have hfz16_0 := blk_frozen BK262.out 0
      have hfz16_1 := blk_frozen BK262.out 1
      obtain ⟨Ao17,co17,eo17⟩ := Kd.R_slice HO_263000.out
      subst eo17
      go_wp2
      go_loopg [20] kj4 (fun kq v20 w' => ∃ (x20_3 : Int) (x263000_3 : List Int) (u263000 : Value),v20 = .int .i64 x20_3 ∧ Aside0 (impl_reduced.l1 kq (x263000_1.length : Int) x20_3 x263000_3 (wrap64 (Int.tdiv x263001_1 2)) = some (r1,r2)) ∧ Aside0 (kq ≤ kj4) ∧ Aside0 (Kd.R (Kd.int .i64) 3 w' w0.heap.size (fun k_ => (P0_0_ k_ ∨ w.heap.size ≤ k_)) u263000 x263000_3) ∧ Aside0 (w'.heap[gb262]? = some (.cells #[u263000, .int .i64 (wrap64 (Int.tdiv x263001_1 2))] 29 (0,0))) ∧ Aside0 (w'.heap[gb263]? = some (.cells #[(.slice none 0 0), .int .i64 0] 29 (0,0))) ∧ Aside0 (Kept w w' (fun k_ => P0_0_ k_)) ∧ Aside0 (Below w0.heap.size w0 w'))
      case atStart => exact ⟨(0),(x263000_1),(.slice Ao17 x263000_1.length co17),(by first | rfl | (simp;done) | (simp [*];done)),H',⟨Nat.le_refl _⟩,⟨by (with_reducible repeat (first | apply Kd.R_alloc | apply Kd.R_drewN | apply Kd.R_drew));exact Kd.R_mono (Kd.R_far (p := ⟨gb262,1,none⟩) (Kd.R_types HO_263000.out BK262.out (by decide)) (fun _ hk => hk.2) (.int .i64 (wrap64 (Int.tdiv x263001_1 2)))) (fun _ hk => hk.1)⟩,⟨by (with_reducible repeat (first | refine blk_drewN ?_ _ | refine blk_drew ?_ | refine blk_alloc ?_ _));refine blk_put (cs := #[.slice Ao17 x263000_1.length co17, .int .i64 x263001_1]) ?_ 1 _ rfl;(with_reducible repeat (first | refine blk_drewN ?_ _ | refine blk_drew ?_ | refine blk_alloc ?_ _));exact BK262.out⟩,⟨by (with_reducible repeat (first | refine blk_drewN ?_ _ | refine blk_drew ?_ | refine blk_alloc ?_ _));refine blk_far ?_ NB263_262.out _;(with_reducible repeat (first | refine blk_drewN ?_ _ | refine blk_drew ?_ | refine blk_alloc ?_ _));exact BK263.out⟩,⟨by repeat (first | (with_reducible first | exact HK.out | apply Kept.alloc | apply Kept.drewN | apply Kept.drew | refine Kept.setCell ?_ (.inr GW262.out) _ | refine Kept.setCell ?_ (.inr GW263.out) _) | exact HK.out)⟩,⟨by repeat (first | (with_reducible first | exact HB.out | apply below_alloc | apply pw_below_drewN | apply below_drew1 | refine below_set ?_ GE262.out | refine below_set ?_ GE263.out) | exact HB.out)⟩⟩
      case round =>
       clear H'
       try clear c1
       try clear p2
       try clear c5
       try clear c6
       try clear c6b0
       try clear p6
       try clear c8
       try clear c12
       try clear c14
       try clear c15
       try clear hcz13_0
       try clear hcz13_1
       try clear hcz16_0
       try clear hcz16_1
       try clear hcz9_0
       try clear hcz9_1
       try clear hfz13_0
       try clear hfz13_1
       try clear hfz16_0
       try clear hfz16_1
       try clear hfz9_0
       try clear hfz9_1
       try clear p2
       obtain ⟨x20_3,x263000_3,u263000,rfl,HA,HK3,HO_263000,BK262,BK263,HK,HB⟩ := hrel
       cases gk with
       | zero => exact absurd HA.out (by simp [impl_reduced.l1])
       | succ k3 =>
        have H := HA.out
        clear HA
        simp only [impl_reduced.l1] at H
        by_cases c18 : x20_3 < (x263000_1.length : Int)
        ·rw [if_pos c18] at H
         have c18b0 : decide (x20_3 < (x263000_1.length : Int)) = true := decide_eq_true c18
         clear c18
         by_cases c19 : 0 ≤ x20_3
         ·rw [if_pos c19] at H
          have c19b0 : decide (0 ≤ x20_3) = true := decide_eq_true c19
          clear c19
          by_cases c20 : x20_3 < (x263000_3.length : Int)
          ·rw [if_pos c20] at H
           have c20b0 : decide (x20_3 < (x263000_3.length : Int)) = true := decide_eq_true c20
           clear c20
           obtain ⟨y266,hy266⟩ : ∃ y_ : List Int,y_ = (x263000_3.set (x20_3 : Int).toNat (wrap64 (Int.tdiv (rd x263000_3 x20_3) 2))) := ⟨_,rfl⟩
           replace H : (impl_reduced.l1 k3 (x263000_1.length : Int) (wrap64 (x20_3 + 1)) y266 (wrap64 (Int.tdiv x263001_1 2))) = some (r1,r2) := by first | (rw [hy266];with_reducible exact H) | (have H2_ := (Option.bind_some _ _).symm.trans H;rw [hy266];with_reducible exact H2_) | (have H2_ := (Option.bind_some _ _).symm.trans H;with_reducible exact H2_) | with_reducible exact H | (rw [hy266];exact H) | exact H
           have Ny266 := Aside0.mk hy266
           clear hy266
           have H' := Aside0.mk H
           clear H
           have hnb22 := NB262_263.out
           have hnc22 := NB263_262.out
           have hcz23_0 : wr.cell? ⟨gb262,0,none⟩ = some (u263000) := (blk_cell BK262.out 0).trans rfl
           have hcz23_1 : wr.cell? ⟨gb262,1,none⟩ = some (.int .i64 (wrap64 (Int.tdiv x263001_1 2))) := (blk_cell BK262.out 1).trans rfl
           have hfz23_0 := blk_frozen BK262.out 0
           have hfz23_1 := blk_frozen BK262.out 1
           obtain ⟨Ao24,co24,eo24⟩ := Kd.R_slice HO_263000.out
           subst eo24
           have p265 : 0 ≤ (x20_3 : Int) := of_decide_eq_true (by first | (with_reducible assumption) | assumption)
           have q265 : x20_3 < (x263000_3.length : Int) := of_decide_eq_true (by first | (with_reducible assumption) | assumption)
           obtain ⟨ad265,e265,hx265_0⟩ := Kd.at_int (Kd.R_reads' HO_263000.out).2.2 x20_3 p265 q265
           cases e265
           replace p265 := eq_true p265
           replace q265 := eq_true q265
           have p21 : 0 ≤ (x20_3 : Int) := of_decide_eq_true (by first | (with_reducible assumption) | assumption)
           have q21 : (x20_3 : Int) < ((x263000_3.length : Int) : Int) := of_decide_eq_true (by first | (with_reducible assumption) | assumption)
           obtain ⟨go21,co21,eo21,gb21,gl21,cl21,HG21⟩ := Kd.R_form HO_263000.out (by omega)
           (first | cases eo21 | (injection eo21 with ea_ en_ ec_;(first | subst ea_ | (injection ea_ with ea_;subst ea_));subst ec_;clear en_))
           have GB21 := Aside0.mk gb21
           have GG21 := Aside0.mk HG21
           clear gb21 gl21 HG21
           have HMgo21 := Aside0.mk (show (P0_0_ go21 ∨ w.heap.size ≤ go21) from (HO_263000.out.1 _ rfl))
           (first | simp only [add_plain] at hx265_0 | skip)
           obtain ⟨hx21_0,hf21_0⟩ := Kd.R_celln 0 HO_263000.out (x20_3 : Int) p21 q21
           replace p21 := eq_true p21
           replace q21 := eq_true q21
           have HP25 := Kd.R_putg HO_263000.out (x20_3 : Int) (wrap64 (Int.tdiv (rd x263000_3 x20_3) 2))
           go_wp2_with (first | ((with_reducible refine gate_store (t := 3) (p := 29) rfl ?_);refine store_event (t := 3) (p := 29) (v := ?vo_w26) (w1 := (wr.setCell ⟨go21,(x20_3 : Int).toNat,none⟩ (.int .i64 (wrap64 (Int.tdiv (rd x263000_3 x20_3) 2))))) ?hg ?ho ?hn ?hr ?_;(case ho => rfl);(case hg => rfl);(case hn => rfl);(case hr => first | (go_simp;done) | (go_simp;rfl));intro w26 hw;have hg : wr.grownBy w26 (some go21) := (by rw [hw];exact HP25.2);have hp_ : Kd.R (Kd.int .i64) 3 w26 w0.heap.size (fun k_ => (P0_0_ k_ ∨ w.heap.size ≤ k_)) (.slice (some ⟨go21,0,none⟩) x263000_3.length co24) y266 := (by rw [hw,Ny266.out];exact HP25.1);clear HP25;have n0_ := Aside0.mk (hp_);have n1_ := Aside0.mk (blk_grown (g := gb262) (o := .cells #[.slice (some ⟨go21,0,none⟩) x263000_3.length co24, .int .i64 (wrap64 (Int.tdiv x263001_1 2))] 29 (0,0)) (by (with_reducible repeat (first | refine blk_drewN ?_ _ | refine blk_drew ?_ | refine blk_alloc ?_ _));exact BK262.out) hg (Kd.R_ne HO_263000.out BK262.out (by decide)));have n2_ := Aside0.mk (blk_grown (g := gb263) (o := .cells #[.slice none 0 0, .int .i64 0] 29 (0,0)) (by (with_reducible repeat (first | refine blk_drewN ?_ _ | refine blk_drew ?_ | refine blk_alloc ?_ _));exact BK263.out) hg (Kd.R_ne HO_263000.out BK263.out (by decide)));have n3_ := Aside0.mk ((by rw [hw];exact below_set (HB.out) GB21.out : Below w0.heap.size w0 w26));have n4_ := Aside0.mk (Kept.of_grown (S := (fun k_ => P0_0_ k_)) hg (by repeat (first | (with_reducible first | exact HK.out | apply Kept.alloc | apply Kept.drewN | apply Kept.drew | refine Kept.setCell ?_ (.inr GW262.out) _ | refine Kept.setCell ?_ (.inr GW263.out) _) | exact HK.out)) (fun k_ e_ => (HO_263000.out.1 k_ e_)));clear HO_263000;clear BK262;clear BK263;clear HB;clear HK;have HO_263000 := n0_;have BK262 := n1_;have BK263 := n2_;have HB := n3_;have HK := n4_;clear n0_ n1_ n2_ n3_ n4_;clear hg hw hp_))
           go_roundg k3
           case measure => have := HK1.out;have := HJ4.out;have := HK3.out;omega
           case rel => exact ⟨(wrap64 (x20_3 + 1)),(y266),(.slice (some ⟨go21,0,none⟩) x263000_3.length co24),(by first | rfl | (simp;done) | (simp [*];done)),H',⟨by have := HK1.out;have := HJ4.out;have := HK3.out;omega⟩,⟨by (with_reducible repeat (first | apply Kd.R_alloc | apply Kd.R_drewN | apply Kd.R_drew));exact HO_263000.out⟩,⟨by (with_reducible repeat (first | refine blk_drewN ?_ _ | refine blk_drew ?_ | refine blk_alloc ?_ _));exact BK262.out⟩,⟨by (with_reducible repeat (first | refine blk_drewN ?_ _ | refine blk_drew ?_ | refine blk_alloc ?_ _));exact BK263.out⟩,⟨by repeat (first | (with_reducible first | exact HK.out | apply Kept.alloc | apply Kept.drewN | apply Kept.drew | refine Kept.setCell ?_ (.inr GW262.out) _ | refine Kept.setCell ?_ (.inr GW263.out) _) | exact HK.out)⟩,⟨by repeat (first | (with_reducible first | exact HB.out | apply below_alloc | apply pw_below_drewN | apply below_drew1 | refine below_set ?_ GE262.out | refine below_set ?_ GE263.out) | exact HB.out)⟩⟩
          ·rw [if_neg c20] at H
           exact absurd H (by simp)
         ·rw [if_neg c19] at H
          exact absurd H (by simp)
        ·rw [if_neg c18] at H
         have c18b0 : decide (x20_3 < (x263000_1.length : Int)) = false := decide_eq_false c18
         clear c18
         have H' := Aside0.mk H
         clear H
         go_wp2
         go_roundg k3
         case measure => have := HK1.out;have := HJ4.out;have := HK3.out;omega
         case rel => exact ⟨(x263000_3),((wrap64 (Int.tdiv x263001_1 2))),(u263000),H',⟨by have := HK1.out;have := HJ4.out;have := HK3.out;omega⟩,⟨by (with_reducible repeat (first | apply Kd.R_alloc | apply Kd.R_drewN | apply Kd.R_drew));exact HO_263000.out⟩,⟨by (with_reducible repeat (first | refine blk_drewN ?_ _ | refine blk_drew ?_ | refine blk_alloc ?_ _));exact BK262.out⟩,⟨by (with_reducible repeat (first | refine blk_drewN ?_ _ | refine blk_drew ?_ | refine blk_alloc ?_ _));exact BK263.out⟩,⟨by repeat (first | (with_reducible first | exact HK.out | apply Kept.alloc | apply Kept.drewN | apply Kept.drew | refine Kept.setCell ?_ (.inr GW262.out) _ | refine Kept.setCell ?_ (.inr GW263.out) _) | exact HK.out)⟩,⟨by repeat (first | (with_reducible first | exact HB.out | apply below_alloc | apply pw_below_drewN | apply below_drew1 | refine below_set ?_ GE262.out | refine below_set ?_ GE263.out) | exact HB.out)⟩⟩
     ·replace c14 := Bool.eq_false_iff.mpr c14
      subst c14
      have H1 : (some (x263000_1,x263001_1)) = some (r1,r2) := by rw [if_neg (show ¬ (false = true) by decide)] at H;exact H
      clear H
      have H := H1
      clear H1
      simp only [Option.some.injEq,Prod.mk.injEq] at H
      obtain ⟨rfl,rfl⟩ := H
      have hnb27 := NB262_263.out
      have hnc27 := NB263_262.out
      have hcz28_0 : wc.cell? ⟨gb262,0,none⟩ = some (u263000) := (blk_cell BK262.out 0).trans rfl
      have hcz28_1 : wc.cell? ⟨gb262,1,none⟩ = some (.int .i64 x263001_1) := (blk_cell BK262.out 1).trans rfl
      have hfz28_0 := blk_frozen BK262.out 0
      have hfz28_1 := blk_frozen BK262.out 1
      obtain ⟨Ao29,co29,eo29⟩ := Kd.R_slice HO_263000.out
      subst eo29
      have hcz30_0 : wc.cell? ⟨gb263,0,none⟩ = some (.slice none 0 0) := (blk_cell BK263.out 0).trans rfl
      have hcz30_1 : wc.cell? ⟨gb263,1,none⟩ = some (.int .i64 0) := (blk_cell BK263.out 1).trans rfl
      have hfz30_0 := blk_frozen BK263.out 0
      have hfz30_1 := blk_frozen BK263.out 1
      go_wp2
      refine bodyPost_ret (results_cell_row rfl _ _ gb263 29 #[.slice Ao29 x263000_1.length co29, .int .i64 x263001_1] (0,0) _ rfl (by (with_reducible repeat (first | refine blk_drewN ?_ _ | refine blk_drew ?_ | refine blk_alloc ?_ _));refine blk_put (cs := #[.slice Ao29 x263000_1.length co29, .int .i64 0]) ?_ 1 _ rfl;(with_reducible repeat (first | refine blk_drewN ?_ _ | refine blk_drew ?_ | refine blk_alloc ?_ _));refine blk_put (cs := #[.slice none 0 0, .int .i64 0]) ?_ 0 _ rfl;(with_reducible repeat (first | refine blk_drewN ?_ _ | refine blk_drew ?_ | refine blk_alloc ?_ _));exact BK263.out) Try.underlying29 rfl (by kernel_rfl)) rfl ?_
      exact ⟨_,by first | rfl | (simp [errW_none,errW_some] <;> rfl) | (simp [*,errW_none,errW_some] <;> rfl),by (with_reducible repeat (first | apply Kd.R_alloc | apply Kd.R_drewN | apply Kd.R_drew));exact Kd.R_mono (Kd.R_far (p := ⟨gb263,1,none⟩) (Kd.R_far (p := ⟨gb263,0,none⟩) (Kd.R_types HO_263000.out BK263.out (by decide)) (fun _ hk => hk.2) (.slice Ao29 x263000_1.length co29)) (fun _ hk => hk.2) (.int .i64 x263001_1)) (fun _ hk => hk.1),by repeat (first | (with_reducible first | exact HB.out | apply below_alloc | apply pw_below_drewN | apply below_drew1 | refine below_set ?_ GE262.out | refine below_set ?_ GE263.out) | exact HB.out),by repeat (first | (with_reducible first | exact HK.out | apply Kept.alloc | apply Kept.drewN | apply Kept.drew | refine Kept.setCell ?_ (.inr GW262.out) _ | refine Kept.setCell ?_ (.inr GW263.out) _) | exact HK.out)⟩

end Go.Proofs.Ytmkpngmdikbbeaa.P
