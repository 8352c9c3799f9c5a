/- Written by a program of this workplace (own_print.py, over the kit's print) for the functions that the statements reach, with contracts of its own. Lean checks it. -/
import Derived.Test.YtmkpngmdikbbeaaPx0
import Derived.Test.YtmkpngmdikbbeaaPx2
import Derived.Test.YtmkpngmdikbbeaaPx7
import Derived.Test.YtmkpngmdikbbeaaPx10
import Derived.Test.YtmkpngmdikbbeaaPx11
import Derived.Test.YtmkpngmdikbbeaaPx12
import Derived.Test.YtmkpngmdikbbeaaPx14
namespace Go.Proofs.Ytmkpngmdikbbeaa.P
open Go.RowKit Go.Proofs.YtmkpngmdikbbeaaW.PrintWords Go.Proofs.YtmkpngmdikbbeaaW.PrintLast Go.Proofs.YtmkpngmdikbbeaaW.PrintMore
attribute [local go_sem] max2_int min2_int max_two min_two max_three min_three max_four min_four   -- for this text's walks alone
set_option linter.unusedVariables false
set_option linter.unusedSimpArgs false

/-! ### spec_cuExtreme: function 43 -/
def spec_cuExtreme.f (k : Nat) (l0_0 : List Int) (a0_1 : Int) (a1 : Int) (a2 : Int) (a3 : Bool) : Option (Int × Int × Bool) := (spec_cuFew.f k l0_0 a0_1 a1 a2).bind fun t437 => (if t437 = true then ((spec_cuSearch.f k l0_0 a0_1 a1 a2 a3).bind fun bt438 => (if bt438.2 = true then ((spec_cuPlay.f k l0_0 a0_1 bt438.1).bind fun bt442 => (if 0 ≤ a1 then (if a1 < (bt442.1.length : Int) then ((spec_cuPart.f k (rd bt442.1 a1) bt442.2.1).bind fun bt449 => (some (bt449.1,bt449.2,true))) else (none)) else (none))) else (some (0,0,false)))) else (some (0,0,false)))
theorem spec_cuExtreme.mono : ∀ a0 a1 a2 a3 a4 k,LeO (spec_cuExtreme.f k a0 a1 a2 a3 a4) (spec_cuExtreme.f (k + 1) a0 a1 a2 a3 a4) := by
 intro a0 a1 a2 a3 a4 k
 unfold spec_cuExtreme.f
 repeat' first
   | (with_reducible exact spec_cuFew.mono _ _ _ _ _)
   | (with_reducible exact spec_cuPart.mono _ _ _)
   | (with_reducible exact spec_cuPlay.mono _ _ _ _)
   | (with_reducible exact spec_cuSearch.mono _ _ _ _ _ _)
   | (with_reducible exact LeO.refl _)
   | (with_reducible exact LeO.none _)
   | (with_reducible refine LeO.ite ?_ ?_)
   | (with_reducible refine LeO.bind ?_ (fun _ => ?_))
   | exact spec_cuFew.mono _ _ _ _ _
   | exact spec_cuPart.mono _ _ _
   | exact spec_cuPlay.mono _ _ _ _
   | exact spec_cuSearch.mono _ _ _ _ _ _
   | exact LeO.none _
   | refine LeO.ite ?_ ?_
   | refine LeO.bind ?_ (fun _ => ?_)
set_option maxHeartbeats 8000000 in
set_option maxRecDepth 100000 in
theorem spec_cuExtreme.calls (k : Nat) (A0_0 : Option Addr) (c0_0 : Nat) (l0_0 : List Int) (a0_1 : Int) (a1 : Int) (a2 : Int) (a3 : Bool) (r1 : Int) (r2 : Int) (r3 : Bool) (w : World) (hr0_0 : Kd.C (Kd.int .i64) w A0_0 l0_0.length l0_0) (hc0_0 : l0_0.length ≤ c0_0) (h : spec_cuExtreme.f k l0_0 a0_1 a1 a2 a3 = some (r1,r2,r3)) :
  Calls Try.prog 43 #[.agg #[.slice A0_0 l0_0.length c0_0, .int .i64 a0_1], .int .i64 a1, .int .i64 a2, .bool a3] w fun e w' => e = .returned (.tuple #[.int .i64 r1, .int .i64 r2, .bool r3]) ∧ Below w.heap.size w w' := by
 have hu29 := Try.underlying29
 have HR0_0 := Aside0.mk hr0_0
 have HC0_0 := Aside0.mk hc0_0
 clear hr0_0 hc0_0
 have HB := Aside0.mk (Below.refl w.heap.size w)
 have H : ((spec_cuFew.f k l0_0 a0_1 a1 a2).bind fun t437 => (if t437 = true then ((spec_cuSearch.f k l0_0 a0_1 a1 a2 a3).bind fun bt438 => (if bt438.2 = true then ((spec_cuPlay.f k l0_0 a0_1 bt438.1).bind fun bt442 => (if 0 ≤ a1 then (if a1 < (bt442.1.length : Int) then ((spec_cuPart.f k (rd bt442.1 a1) bt442.2.1).bind fun bt449 => (some (bt449.1,bt449.2,true))) else (none)) else (none))) else (some (0,0,false)))) else (some (0,0,false)))) = some (r1,r2,r3) := h
 clear h
 replace H := Option.bind_eq_some_iff.mp H
 obtain ⟨t437,A50,H⟩ := H
 replace H : (if t437 = true then ((spec_cuSearch.f k l0_0 a0_1 a1 a2 a3).bind fun bt438 => (if bt438.2 = true then ((spec_cuPlay.f k l0_0 a0_1 bt438.1).bind fun bt442 => (if 0 ≤ a1 then (if a1 < (bt442.1.length : Int) then ((spec_cuPart.f k (rd bt442.1 a1) bt442.2.1).bind fun bt449 => (some (bt449.1,bt449.2,true))) else (none)) else (none))) else (some (0,0,false)))) else (some (0,0,false))) = some (r1,r2,r3) := H
 have A5 := Aside0.mk A50
 clear A50
 by_cases c6 : t437 = true
 ·subst c6
  have H1 : ((spec_cuSearch.f k l0_0 a0_1 a1 a2 a3).bind fun bt438 => (if bt438.2 = true then ((spec_cuPlay.f k l0_0 a0_1 bt438.1).bind fun bt442 => (if 0 ≤ a1 then (if a1 < (bt442.1.length : Int) then ((spec_cuPart.f k (rd bt442.1 a1) bt442.2.1).bind fun bt449 => (some (bt449.1,bt449.2,true))) else (none)) else (none))) else (some (0,0,false)))) = some (r1,r2,r3) := by rw [if_pos rfl] at H;exact H
  clear H
  have H := H1
  clear H1
  replace H := Option.bind_eq_some_iff.mp H
  obtain ⟨⟨t438,t441⟩,A70,H⟩ := H
  replace H : (if t441 = true then ((spec_cuPlay.f k l0_0 a0_1 t438).bind fun bt442 => (if 0 ≤ a1 then (if a1 < (bt442.1.length : Int) then ((spec_cuPart.f k (rd bt442.1 a1) bt442.2.1).bind fun bt449 => (some (bt449.1,bt449.2,true))) else (none)) else (none))) else (some (0,0,false))) = some (r1,r2,r3) := H
  have A7 := Aside0.mk A70
  clear A70
  by_cases c8 : t441 = true
  ·subst c8
   have H1 : ((spec_cuPlay.f k l0_0 a0_1 t438).bind fun bt442 => (if 0 ≤ a1 then (if a1 < (bt442.1.length : Int) then ((spec_cuPart.f k (rd bt442.1 a1) bt442.2.1).bind fun bt449 => (some (bt449.1,bt449.2,true))) else (none)) else (none))) = some (r1,r2,r3) := by rw [if_pos rfl] at H;exact H
   clear H
   have H := H1
   clear H1
   replace H := Option.bind_eq_some_iff.mp H
   obtain ⟨⟨t442,t445,t446⟩,A90,H⟩ := H
   replace H : (if 0 ≤ a1 then (if a1 < (t442.length : Int) then ((spec_cuPart.f k (rd t442 a1) t445).bind fun bt449 => (some (bt449.1,bt449.2,true))) else (none)) else (none)) = some (r1,r2,r3) := H
   have A9 := Aside0.mk A90
   clear A90
   by_cases c10 : 0 ≤ a1
   ·rw [if_pos c10] at H
    have c10b0 : decide (0 ≤ a1) = true := decide_eq_true c10
    clear c10
    by_cases c11 : a1 < (t442.length : Int)
    ·rw [if_pos c11] at H
     have c11b0 : decide (a1 < (t442.length : Int)) = true := decide_eq_true c11
     clear c11
     replace H := Option.bind_eq_some_iff.mp H
     obtain ⟨⟨t449,t450⟩,A120,H⟩ := H
     replace H : (some (t449,t450,true)) = some (r1,r2,r3) := H
     have A12 := Aside0.mk A120
     clear A120
     simp only [Option.some.injEq,Prod.mk.injEq] at H
     obtain ⟨rfl,rfl,rfl⟩ := H
     go_enter Try.func43,Try.ntmps43
     go_wp2_with (first | ((with_reducible refine gate_dst (N := 4) rfl ?_);refine box_event ?hg (N := 4) ?hd (cs := #[.slice A0_0 l0_0.length c0_0, .int .i64 a0_1]) (t := 29) ?hr ?_;(case hd => rfl);(case hg => rfl);(case hr => first | (go_simp;done) | (go_simp;rfl));intro gb436 hg w13 hbox hb;have n0_ := Aside0.mk (below_step (by repeat (first | (with_reducible first | exact HB.out | apply below_alloc | apply pw_below_drewN | apply below_drew1) | exact HB.out)) hb);have n1_ := Aside0.mk (hbox);have n2_ := Aside0.mk ((by rw [hg];exact (below_size (by repeat (first | (with_reducible first | exact HB.out | apply below_alloc | apply pw_below_drewN | apply below_drew1) | exact HB.out))) : w.heap.size ≤ gb436));have n3_ := Aside0.mk ((by rw [hg];exact (below_size (by repeat (first | (with_reducible first | exact HB.out | apply below_alloc | apply pw_below_drewN | apply below_drew1) | exact HB.out))) : w.heap.size ≤ gb436));clear HB;have HB := n0_;have BK436 := n1_;have GW436 := n2_;have GE436 := n3_;clear n0_ n1_ n2_ n3_;clear hb hbox hg;have hcz14_0 : w13.cell? ⟨gb436,0,none⟩ = some (.slice A0_0 l0_0.length c0_0) := (blk_cell BK436.out 0).trans rfl;have hcz14_1 : w13.cell? ⟨gb436,1,none⟩ = some (.int .i64 a0_1) := (blk_cell BK436.out 1).trans rfl;have hfz14_0 := blk_frozen BK436.out 0;have hfz14_1 := blk_frozen BK436.out 1) | (go_at_call 60;(with_reducible refine (spec_cuFew.calls k _ _ l0_0 a0_1 a1 a2 true _ ?side1 ?side2 A5.out).mono ?_);(case side1 => repeat (first | exact (Kd.C_below HR0_0.out HB.out) | (with_reducible refine Kd.C_alloc ?_ _) | (with_reducible refine Kd.C_drewN ?_ _) | (with_reducible refine Kd.C_drew ?_)));(case side2 => exact HC0_0.out);rintro e w15 ⟨rfl,hb⟩;have n0_ := Aside0.mk (blk_below (g := gb436) (o := .cells #[.slice A0_0 l0_0.length c0_0, .int .i64 a0_1] 29 (0,0)) (by (with_reducible repeat (first | refine blk_drewN ?_ _ | refine blk_drew ?_ | refine blk_alloc ?_ _));exact BK436.out) hb);have n1_ := Aside0.mk (below_step (by repeat (first | (with_reducible first | exact HB.out | apply below_alloc | apply pw_below_drewN | apply below_drew1 | refine below_set ?_ GE436.out) | exact HB.out)) hb);clear BK436;clear HB;have BK436 := n0_;have HB := n1_;clear n0_ n1_;(try clear hb);(try clear hb2);(try clear hk);(try clear hi);have hcz16_0 : w15.cell? ⟨gb436,0,none⟩ = some (.slice A0_0 l0_0.length c0_0) := (blk_cell BK436.out 0).trans rfl;have hcz16_1 : w15.cell? ⟨gb436,1,none⟩ = some (.int .i64 a0_1) := (blk_cell BK436.out 1).trans rfl;have hfz16_0 := blk_frozen BK436.out 0;have hfz16_1 := blk_frozen BK436.out 1) | (go_at_call 61;(with_reducible refine (spec_cuSearch.calls k _ _ l0_0 a0_1 a1 a2 a3 t438 true _ ?side1 ?side2 A7.out).mono ?_);(case side1 => repeat (first | exact (Kd.C_below HR0_0.out HB.out) | (with_reducible refine Kd.C_alloc ?_ _) | (with_reducible refine Kd.C_drewN ?_ _) | (with_reducible refine Kd.C_drew ?_)));(case side2 => exact HC0_0.out);rintro e w17 ⟨v439,rfl,ho0,hb⟩;have n0_ := Aside0.mk (Kd.R_lower ho0 (below_size (by repeat (first | (with_reducible first | exact HB.out | apply below_alloc | apply pw_below_drewN | apply below_drew1 | refine below_set ?_ GE436.out) | exact HB.out))));have n1_ := Aside0.mk (blk_below (g := gb436) (o := .cells #[.slice A0_0 l0_0.length c0_0, .int .i64 a0_1] 29 (0,0)) (by (with_reducible repeat (first | refine blk_drewN ?_ _ | refine blk_drew ?_ | refine blk_alloc ?_ _));exact BK436.out) hb);have n2_ := Aside0.mk (below_step (by repeat (first | (with_reducible first | exact HB.out | apply below_alloc | apply pw_below_drewN | apply below_drew1 | refine below_set ?_ GE436.out) | exact HB.out)) hb);clear BK436;clear HB;have HO440 := n0_;have BK436 := n1_;have HB := n2_;clear n0_ n1_ n2_;(try clear hb);(try clear hb2);(try clear hk);(try clear hi);(try clear ho0);have hcz18_0 : w17.cell? ⟨gb436,0,none⟩ = some (.slice A0_0 l0_0.length c0_0) := (blk_cell BK436.out 0).trans rfl;have hcz18_1 : w17.cell? ⟨gb436,1,none⟩ = some (.int .i64 a0_1) := (blk_cell BK436.out 1).trans rfl;have hfz18_0 := blk_frozen BK436.out 0;have hfz18_1 := blk_frozen BK436.out 1;obtain ⟨Ao19,co19,eo19⟩ := Kd.R_slice HO440.out;subst eo19) | (go_at_call 39;(with_reducible refine (spec_cuPlay.calls k _ _ l0_0 a0_1 _ _ t438 t442 t445 t446 _ ?side1 ?side2 ?side3 ?side4 A9.out).mono ?_);(case side1 => repeat (first | exact (Kd.C_below HR0_0.out HB.out) | (with_reducible refine Kd.C_alloc ?_ _) | (with_reducible refine Kd.C_drewN ?_ _) | (with_reducible refine Kd.C_drew ?_)));(case side2 => exact HC0_0.out);(case side3 => repeat (first | exact (Kd.R_reads' HO440.out).2.2 | (with_reducible refine Kd.C_alloc ?_ _) | (with_reducible refine Kd.C_drewN ?_ _) | (with_reducible refine Kd.C_drew ?_)));(case side4 => exact (Kd.R_reads' HO440.out).2.1);rintro e w20 ⟨v443,rfl,ho0,hb⟩;have n0_ := Aside0.mk (Kd.R_elder' (by (with_reducible repeat (first | apply Kd.R_alloc | apply Kd.R_drewN | apply Kd.R_drew));exact HO440.out) (Kd.R_base ho0) hb);have n1_ := Aside0.mk (Kd.R_lower ho0 (below_size (by repeat (first | (with_reducible first | exact HB.out | apply below_alloc | apply pw_below_drewN | apply below_drew1 | refine below_set ?_ GE436.out) | exact HB.out))));have n2_ := Aside0.mk (blk_below (g := gb436) (o := .cells #[.slice A0_0 l0_0.length c0_0, .int .i64 a0_1] 29 (0,0)) (by (with_reducible repeat (first | refine blk_drewN ?_ _ | refine blk_drew ?_ | refine blk_alloc ?_ _));exact BK436.out) hb);have n3_ := Aside0.mk (below_step (by repeat (first | (with_reducible first | exact HB.out | apply below_alloc | apply pw_below_drewN | apply below_drew1 | refine below_set ?_ GE436.out) | exact HB.out)) hb);clear HO440;clear BK436;clear HB;have HO440 := n0_;have HO444 := n1_;have BK436 := n2_;have HB := n3_;clear n0_ n1_ n2_ n3_;(try clear hb);(try clear hb2);(try clear hk);(try clear hi);(try clear ho0)) | ((with_reducible refine gate_dst (N := 13) rfl ?_);refine box_event ?hg (N := 13) ?hd (cs := #[.slice none 0 0, .int .i64 0]) (t := 29) ?hr ?_;(case hd => rfl);(case hg => rfl);(case hr => first | (go_simp;done) | (go_simp;rfl));intro gb447 hg w21 hbox hb;have n0_ := Aside0.mk (Kd.R_below (by (with_reducible repeat (first | apply Kd.R_alloc | apply Kd.R_drewN | apply Kd.R_drew));exact HO440.out) hb);have n1_ := Aside0.mk (Kd.R_below (by (with_reducible repeat (first | apply Kd.R_alloc | apply Kd.R_drewN | apply Kd.R_drew));exact HO444.out) hb);have n2_ := Aside0.mk (blk_below (g := gb436) (o := .cells #[.slice A0_0 l0_0.length c0_0, .int .i64 a0_1] 29 (0,0)) (by (with_reducible repeat (first | refine blk_drewN ?_ _ | refine blk_drew ?_ | refine blk_alloc ?_ _));exact BK436.out) hb);have n3_ := Aside0.mk (below_step (by repeat (first | (with_reducible first | exact HB.out | apply below_alloc | apply pw_below_drewN | apply below_drew1 | refine below_set ?_ GE436.out) | exact HB.out)) hb);have n4_ := Aside0.mk (hbox);have n5_ := Aside0.mk ((by rw [hg];exact (below_size (by repeat (first | (with_reducible first | exact HB.out | apply below_alloc | apply pw_below_drewN | apply below_drew1 | refine below_set ?_ GE436.out) | exact HB.out))) : w.heap.size ≤ gb447));have n6_ := Aside0.mk ((by rw [hg];exact (below_size (by repeat (first | (with_reducible first | exact HB.out | apply below_alloc | apply pw_below_drewN | apply below_drew1 | refine below_set ?_ GE436.out) | exact HB.out))) : w.heap.size ≤ gb447));have n7_ := Aside0.mk ((by rw [hg];exact Nat.ne_of_lt (blk_lt (g := gb436) (o := .cells #[.slice A0_0 l0_0.length c0_0, .int .i64 a0_1] 29 (0,0)) (by (with_reducible repeat (first | refine blk_drewN ?_ _ | refine blk_drew ?_ | refine blk_alloc ?_ _));exact BK436.out)) : gb436 ≠ gb447));have n8_ := Aside0.mk ((by rw [hg];exact Nat.ne_of_gt (blk_lt (g := gb436) (o := .cells #[.slice A0_0 l0_0.length c0_0, .int .i64 a0_1] 29 (0,0)) (by (with_reducible repeat (first | refine blk_drewN ?_ _ | refine blk_drew ?_ | refine blk_alloc ?_ _));exact BK436.out)) : gb447 ≠ gb436));clear HO440;clear HO444;clear BK436;clear HB;have HO440 := n0_;have HO444 := n1_;have BK436 := n2_;have HB := n3_;have BK447 := n4_;have GW447 := n5_;have GE447 := n6_;have NB436_447 := n7_;have NB447_436 := n8_;clear n0_ n1_ n2_ n3_ n4_ n5_ n6_ n7_ n8_;clear hb hbox hg;obtain ⟨Ao22,co22,eo22⟩ := Kd.R_slice HO444.out;subst eo22;have hnb23 := NB447_436.out;have hnc23 := NB436_447.out;have hcz24_0 : w21.cell? ⟨gb447,0,none⟩ = some (.slice none 0 0) := (blk_cell BK447.out 0).trans rfl;have hcz24_1 : w21.cell? ⟨gb447,1,none⟩ = some (.int .i64 0) := (blk_cell BK447.out 1).trans rfl;have hfz24_0 := blk_frozen BK447.out 0;have hfz24_1 := blk_frozen BK447.out 1;have p448 : 0 ≤ (a1 : Int) := of_decide_eq_true (by first | (with_reducible assumption) | assumption);have q448 : a1 < (t442.length : Int) := of_decide_eq_true (by first | (with_reducible assumption) | assumption);obtain ⟨ad448,e448,hx448_0⟩ := Kd.at_int (Kd.R_reads' HO444.out).2.2 a1 p448 q448;cases e448;have hn448_0 : ad448.block ≠ gb447 := Kd.own_blk (Kd.R_ne HO444.out BK447.out (by decide));have hn448_1 : ad448.block ≠ gb447 := Kd.own_blk (Kd.R_ne HO444.out BK447.out (by decide));replace hx448_0 := (cell_far (p := ⟨gb447,0,none⟩) (by first | (rw [add_block];exact hn448_0) | (show (Addr.add _ _).block ≠ _;rw [add_block];exact hn448_0) | exact hn448_0) (.slice (some ad448) t442.length co22)).trans hx448_0;replace hx448_0 := (cell_far (p := ⟨gb447,1,none⟩) (by first | (rw [add_block];exact hn448_1) | (show (Addr.add _ _).block ≠ _;rw [add_block];exact hn448_1) | exact hn448_1) (.int .i64 t445)).trans hx448_0;(try have hy448_0 := fun (n_ : Nat) => (show ((((w21.drewN n_).setCell ⟨gb447,0,none⟩ (.slice (some ad448) t442.length co22)).setCell ⟨gb447,1,none⟩ (.int .i64 t445))).cell? _ = some _ from hx448_0));clear hn448_0;clear hn448_1;replace p448 := eq_true p448;replace q448 := eq_true q448) | (go_at_call 62;(with_reducible refine (spec_cuPart.calls k (rd t442 a1) t445 t449 t450 _ A12.out).mono ?_);rintro e w' ⟨rfl,⟨nd,rfl⟩⟩;(try first | exact ⟨rfl,_,World.drewN_drewN _ _ _⟩ | exact ⟨rfl,_,Eq.trans (World.drewN_drewN _ _ _) (congrArg (World.drewN _) (Nat.add_assoc _ _ _))⟩)))
     repeat (go_quiet (first | ((with_reducible refine gate_dst (N := 4) rfl ?_);refine box_event ?hg (N := 4) ?hd (cs := #[.slice A0_0 l0_0.length c0_0, .int .i64 a0_1]) (t := 29) ?hr ?_;(case hd => rfl);(case hg => rfl);(case hr => first | (go_simp;done) | (go_simp;rfl));intro gb436 hg w13 hbox hb;have n0_ := Aside0.mk (below_step (by repeat (first | (with_reducible first | exact HB.out | apply below_alloc | apply pw_below_drewN | apply below_drew1) | exact HB.out)) hb);have n1_ := Aside0.mk (hbox);have n2_ := Aside0.mk ((by rw [hg];exact (below_size (by repeat (first | (with_reducible first | exact HB.out | apply below_alloc | apply pw_below_drewN | apply below_drew1) | exact HB.out))) : w.heap.size ≤ gb436));have n3_ := Aside0.mk ((by rw [hg];exact (below_size (by repeat (first | (with_reducible first | exact HB.out | apply below_alloc | apply pw_below_drewN | apply below_drew1) | exact HB.out))) : w.heap.size ≤ gb436));clear HB;have HB := n0_;have BK436 := n1_;have GW436 := n2_;have GE436 := n3_;clear n0_ n1_ n2_ n3_;clear hb hbox hg;have hcz14_0 : w13.cell? ⟨gb436,0,none⟩ = some (.slice A0_0 l0_0.length c0_0) := (blk_cell BK436.out 0).trans rfl;have hcz14_1 : w13.cell? ⟨gb436,1,none⟩ = some (.int .i64 a0_1) := (blk_cell BK436.out 1).trans rfl;have hfz14_0 := blk_frozen BK436.out 0;have hfz14_1 := blk_frozen BK436.out 1) | (go_at_call 60;(with_reducible refine (spec_cuFew.calls k _ _ l0_0 a0_1 a1 a2 true _ ?side1 ?side2 A5.out).mono ?_);(case side1 => repeat (first | exact (Kd.C_below HR0_0.out HB.out) | (with_reducible refine Kd.C_alloc ?_ _) | (with_reducible refine Kd.C_drewN ?_ _) | (with_reducible refine Kd.C_drew ?_)));(case side2 => exact HC0_0.out);rintro e w15 ⟨rfl,hb⟩;have n0_ := Aside0.mk (blk_below (g := gb436) (o := .cells #[.slice A0_0 l0_0.length c0_0, .int .i64 a0_1] 29 (0,0)) (by (with_reducible repeat (first | refine blk_drewN ?_ _ | refine blk_drew ?_ | refine blk_alloc ?_ _));exact BK436.out) hb);have n1_ := Aside0.mk (below_step (by repeat (first | (with_reducible first | exact HB.out | apply below_alloc | apply pw_below_drewN | apply below_drew1 | refine below_set ?_ GE436.out) | exact HB.out)) hb);clear BK436;clear HB;have BK436 := n0_;have HB := n1_;clear n0_ n1_;(try clear hb);(try clear hb2);(try clear hk);(try clear hi);have hcz16_0 : w15.cell? ⟨gb436,0,none⟩ = some (.slice A0_0 l0_0.length c0_0) := (blk_cell BK436.out 0).trans rfl;have hcz16_1 : w15.cell? ⟨gb436,1,none⟩ = some (.int .i64 a0_1) := (blk_cell BK436.out 1).trans rfl;have hfz16_0 := blk_frozen BK436.out 0;have hfz16_1 := blk_frozen BK436.out 1) | (go_at_call 61;(with_reducible refine (spec_cuSearch.calls k _ _ l0_0 a0_1 a1 a2 a3 t438 true _ ?side1 ?side2 A7.out).mono ?_);(case side1 => repeat (first | exact (Kd.C_below HR0_0.out HB.out) | (with_reducible refine Kd.C_alloc ?_ _) | (with_reducible refine Kd.C_drewN ?_ _) | (with_reducible refine Kd.C_drew ?_)));(case side2 => exact HC0_0.out);rintro e w17 ⟨v439,rfl,ho0,hb⟩;have n0_ := Aside0.mk (Kd.R_lower ho0 (below_size (by repeat (first | (with_reducible first | exact HB.out | apply below_alloc | apply pw_below_drewN | apply below_drew1 | refine below_set ?_ GE436.out) | exact HB.out))));have n1_ := Aside0.mk (blk_below (g := gb436) (o := .cells #[.slice A0_0 l0_0.length c0_0, .int .i64 a0_1] 29 (0,0)) (by (with_reducible repeat (first | refine blk_drewN ?_ _ | refine blk_drew ?_ | refine blk_alloc ?_ _));exact BK436.out) hb);have n2_ := Aside0.mk (below_step (by repeat (first | (with_reducible first | exact HB.out | apply below_alloc | apply pw_below_drewN | apply below_drew1 | refine below_set ?_ GE436.out) | exact HB.out)) hb);clear BK436;clear HB;have HO440 := n0_;have BK436 := n1_;have HB := n2_;clear n0_ n1_ n2_;(try clear hb);(try clear hb2);(try clear hk);(try clear hi);(try clear ho0);have hcz18_0 : w17.cell? ⟨gb436,0,none⟩ = some (.slice A0_0 l0_0.length c0_0) := (blk_cell BK436.out 0).trans rfl;have hcz18_1 : w17.cell? ⟨gb436,1,none⟩ = some (.int .i64 a0_1) := (blk_cell BK436.out 1).trans rfl;have hfz18_0 := blk_frozen BK436.out 0;have hfz18_1 := blk_frozen BK436.out 1;obtain ⟨Ao19,co19,eo19⟩ := Kd.R_slice HO440.out;subst eo19) | (go_at_call 39;(with_reducible refine (spec_cuPlay.calls k _ _ l0_0 a0_1 _ _ t438 t442 t445 t446 _ ?side1 ?side2 ?side3 ?side4 A9.out).mono ?_);(case side1 => repeat (first | exact (Kd.C_below HR0_0.out HB.out) | (with_reducible refine Kd.C_alloc ?_ _) | (with_reducible refine Kd.C_drewN ?_ _) | (with_reducible refine Kd.C_drew ?_)));(case side2 => exact HC0_0.out);(case side3 => repeat (first | exact (Kd.R_reads' HO440.out).2.2 | (with_reducible refine Kd.C_alloc ?_ _) | (with_reducible refine Kd.C_drewN ?_ _) | (with_reducible refine Kd.C_drew ?_)));(case side4 => exact (Kd.R_reads' HO440.out).2.1);rintro e w20 ⟨v443,rfl,ho0,hb⟩;have n0_ := Aside0.mk (Kd.R_elder' (by (with_reducible repeat (first | apply Kd.R_alloc | apply Kd.R_drewN | apply Kd.R_drew));exact HO440.out) (Kd.R_base ho0) hb);have n1_ := Aside0.mk (Kd.R_lower ho0 (below_size (by repeat (first | (with_reducible first | exact HB.out | apply below_alloc | apply pw_below_drewN | apply below_drew1 | refine below_set ?_ GE436.out) | exact HB.out))));have n2_ := Aside0.mk (blk_below (g := gb436) (o := .cells #[.slice A0_0 l0_0.length c0_0, .int .i64 a0_1] 29 (0,0)) (by (with_reducible repeat (first | refine blk_drewN ?_ _ | refine blk_drew ?_ | refine blk_alloc ?_ _));exact BK436.out) hb);have n3_ := Aside0.mk (below_step (by repeat (first | (with_reducible first | exact HB.out | apply below_alloc | apply pw_below_drewN | apply below_drew1 | refine below_set ?_ GE436.out) | exact HB.out)) hb);clear HO440;clear BK436;clear HB;have HO440 := n0_;have HO444 := n1_;have BK436 := n2_;have HB := n3_;clear n0_ n1_ n2_ n3_;(try clear hb);(try clear hb2);(try clear hk);(try clear hi);(try clear ho0)) | ((with_reducible refine gate_dst (N := 13) rfl ?_);refine box_event ?hg (N := 13) ?hd (cs := #[.slice none 0 0, .int .i64 0]) (t := 29) ?hr ?_;(case hd => rfl);(case hg => rfl);(case hr => first | (go_simp;done) | (go_simp;rfl));intro gb447 hg w21 hbox hb;have n0_ := Aside0.mk (Kd.R_below (by (with_reducible repeat (first | apply Kd.R_alloc | apply Kd.R_drewN | apply Kd.R_drew));exact HO440.out) hb);have n1_ := Aside0.mk (Kd.R_below (by (with_reducible repeat (first | apply Kd.R_alloc | apply Kd.R_drewN | apply Kd.R_drew));exact HO444.out) hb);have n2_ := Aside0.mk (blk_below (g := gb436) (o := .cells #[.slice A0_0 l0_0.length c0_0, .int .i64 a0_1] 29 (0,0)) (by (with_reducible repeat (first | refine blk_drewN ?_ _ | refine blk_drew ?_ | refine blk_alloc ?_ _));exact BK436.out) hb);have n3_ := Aside0.mk (below_step (by repeat (first | (with_reducible first | exact HB.out | apply below_alloc | apply pw_below_drewN | apply below_drew1 | refine below_set ?_ GE436.out) | exact HB.out)) hb);have n4_ := Aside0.mk (hbox);have n5_ := Aside0.mk ((by rw [hg];exact (below_size (by repeat (first | (with_reducible first | exact HB.out | apply below_alloc | apply pw_below_drewN | apply below_drew1 | refine below_set ?_ GE436.out) | exact HB.out))) : w.heap.size ≤ gb447));have n6_ := Aside0.mk ((by rw [hg];exact (below_size (by repeat (first | (with_reducible first | exact HB.out | apply below_alloc | apply pw_below_drewN | apply below_drew1 | refine below_set ?_ GE436.out) | exact HB.out))) : w.heap.size ≤ gb447));have n7_ := Aside0.mk ((by rw [hg];exact Nat.ne_of_lt (blk_lt (g := gb436) (o := .cells #[.slice A0_0 l0_0.length c0_0, .int .i64 a0_1] 29 (0,0)) (by (with_reducible repeat (first | refine blk_drewN ?_ _ | refine blk_drew ?_ | refine blk_alloc ?_ _));exact BK436.out)) : gb436 ≠ gb447));have n8_ := Aside0.mk ((by rw [hg];exact Nat.ne_of_gt (blk_lt (g := gb436) (o := .cells #[.slice A0_0 l0_0.length c0_0, .int .i64 a0_1] 29 (0,0)) (by (with_reducible repeat (first | refine blk_drewN ?_ _ | refine blk_drew ?_ | refine blk_alloc ?_ _));exact BK436.out)) : gb447 ≠ gb436));clear HO440;clear HO444;clear BK436;clear HB;have HO440 := n0_;have HO444 := n1_;have BK436 := n2_;have HB := n3_;have BK447 := n4_;have GW447 := n5_;have GE447 := n6_;have NB436_447 := n7_;have NB447_436 := n8_;clear n0_ n1_ n2_ n3_ n4_ n5_ n6_ n7_ n8_;clear hb hbox hg;obtain ⟨Ao22,co22,eo22⟩ := Kd.R_slice HO444.out;subst eo22;have hnb23 := NB447_436.out;have hnc23 := NB436_447.out;have hcz24_0 : w21.cell? ⟨gb447,0,none⟩ = some (.slice none 0 0) := (blk_cell BK447.out 0).trans rfl;have hcz24_1 : w21.cell? ⟨gb447,1,none⟩ = some (.int .i64 0) := (blk_cell BK447.out 1).trans rfl;have hfz24_0 := blk_frozen BK447.out 0;have hfz24_1 := blk_frozen BK447.out 1;have p448 : 0 ≤ (a1 : Int) := of_decide_eq_true (by first | (with_reducible assumption) | assumption);have q448 : a1 < (t442.length : Int) := of_decide_eq_true (by first | (with_reducible assumption) | assumption);obtain ⟨ad448,e448,hx448_0⟩ := Kd.at_int (Kd.R_reads' HO444.out).2.2 a1 p448 q448;cases e448;have hn448_0 : ad448.block ≠ gb447 := Kd.own_blk (Kd.R_ne HO444.out BK447.out (by decide));have hn448_1 : ad448.block ≠ gb447 := Kd.own_blk (Kd.R_ne HO444.out BK447.out (by decide));replace hx448_0 := (cell_far (p := ⟨gb447,0,none⟩) (by first | (rw [add_block];exact hn448_0) | (show (Addr.add _ _).block ≠ _;rw [add_block];exact hn448_0) | exact hn448_0) (.slice (some ad448) t442.length co22)).trans hx448_0;replace hx448_0 := (cell_far (p := ⟨gb447,1,none⟩) (by first | (rw [add_block];exact hn448_1) | (show (Addr.add _ _).block ≠ _;rw [add_block];exact hn448_1) | exact hn448_1) (.int .i64 t445)).trans hx448_0;(try have hy448_0 := fun (n_ : Nat) => (show ((((w21.drewN n_).setCell ⟨gb447,0,none⟩ (.slice (some ad448) t442.length co22)).setCell ⟨gb447,1,none⟩ (.int .i64 t445))).cell? _ = some _ from hx448_0));clear hn448_0;clear hn448_1;replace p448 := eq_true p448;replace q448 := eq_true q448) | (go_at_call 62;(with_reducible refine (spec_cuPart.calls k (rd t442 a1) t445 t449 t450 _ A12.out).mono ?_);rintro e w' ⟨rfl,⟨nd,rfl⟩⟩;(try first | exact ⟨rfl,_,World.drewN_drewN _ _ _⟩ | exact ⟨rfl,_,Eq.trans (World.drewN_drewN _ _ _) (congrArg (World.drewN _) (Nat.add_assoc _ _ _))⟩)));try go_wp2_with (first | ((with_reducible refine gate_dst (N := 4) rfl ?_);refine box_event ?hg (N := 4) ?hd (cs := #[.slice A0_0 l0_0.length c0_0, .int .i64 a0_1]) (t := 29) ?hr ?_;(case hd => rfl);(case hg => rfl);(case hr => first | (go_simp;done) | (go_simp;rfl));intro gb436 hg w13 hbox hb;have n0_ := Aside0.mk (below_step (by repeat (first | (with_reducible first | exact HB.out | apply below_alloc | apply pw_below_drewN | apply below_drew1) | exact HB.out)) hb);have n1_ := Aside0.mk (hbox);have n2_ := Aside0.mk ((by rw [hg];exact (below_size (by repeat (first | (with_reducible first | exact HB.out | apply below_alloc | apply pw_below_drewN | apply below_drew1) | exact HB.out))) : w.heap.size ≤ gb436));have n3_ := Aside0.mk ((by rw [hg];exact (below_size (by repeat (first | (with_reducible first | exact HB.out | apply below_alloc | apply pw_below_drewN | apply below_drew1) | exact HB.out))) : w.heap.size ≤ gb436));clear HB;have HB := n0_;have BK436 := n1_;have GW436 := n2_;have GE436 := n3_;clear n0_ n1_ n2_ n3_;clear hb hbox hg;have hcz14_0 : w13.cell? ⟨gb436,0,none⟩ = some (.slice A0_0 l0_0.length c0_0) := (blk_cell BK436.out 0).trans rfl;have hcz14_1 : w13.cell? ⟨gb436,1,none⟩ = some (.int .i64 a0_1) := (blk_cell BK436.out 1).trans rfl;have hfz14_0 := blk_frozen BK436.out 0;have hfz14_1 := blk_frozen BK436.out 1) | (go_at_call 60;(with_reducible refine (spec_cuFew.calls k _ _ l0_0 a0_1 a1 a2 true _ ?side1 ?side2 A5.out).mono ?_);(case side1 => repeat (first | exact (Kd.C_below HR0_0.out HB.out) | (with_reducible refine Kd.C_alloc ?_ _) | (with_reducible refine Kd.C_drewN ?_ _) | (with_reducible refine Kd.C_drew ?_)));(case side2 => exact HC0_0.out);rintro e w15 ⟨rfl,hb⟩;have n0_ := Aside0.mk (blk_below (g := gb436) (o := .cells #[.slice A0_0 l0_0.length c0_0, .int .i64 a0_1] 29 (0,0)) (by (with_reducible repeat (first | refine blk_drewN ?_ _ | refine blk_drew ?_ | refine blk_alloc ?_ _));exact BK436.out) hb);have n1_ := Aside0.mk (below_step (by repeat (first | (with_reducible first | exact HB.out | apply below_alloc | apply pw_below_drewN | apply below_drew1 | refine below_set ?_ GE436.out) | exact HB.out)) hb);clear BK436;clear HB;have BK436 := n0_;have HB := n1_;clear n0_ n1_;(try clear hb);(try clear hb2);(try clear hk);(try clear hi);have hcz16_0 : w15.cell? ⟨gb436,0,none⟩ = some (.slice A0_0 l0_0.length c0_0) := (blk_cell BK436.out 0).trans rfl;have hcz16_1 : w15.cell? ⟨gb436,1,none⟩ = some (.int .i64 a0_1) := (blk_cell BK436.out 1).trans rfl;have hfz16_0 := blk_frozen BK436.out 0;have hfz16_1 := blk_frozen BK436.out 1) | (go_at_call 61;(with_reducible refine (spec_cuSearch.calls k _ _ l0_0 a0_1 a1 a2 a3 t438 true _ ?side1 ?side2 A7.out).mono ?_);(case side1 => repeat (first | exact (Kd.C_below HR0_0.out HB.out) | (with_reducible refine Kd.C_alloc ?_ _) | (with_reducible refine Kd.C_drewN ?_ _) | (with_reducible refine Kd.C_drew ?_)));(case side2 => exact HC0_0.out);rintro e w17 ⟨v439,rfl,ho0,hb⟩;have n0_ := Aside0.mk (Kd.R_lower ho0 (below_size (by repeat (first | (with_reducible first | exact HB.out | apply below_alloc | apply pw_below_drewN | apply below_drew1 | refine below_set ?_ GE436.out) | exact HB.out))));have n1_ := Aside0.mk (blk_below (g := gb436) (o := .cells #[.slice A0_0 l0_0.length c0_0, .int .i64 a0_1] 29 (0,0)) (by (with_reducible repeat (first | refine blk_drewN ?_ _ | refine blk_drew ?_ | refine blk_alloc ?_ _));exact BK436.out) hb);have n2_ := Aside0.mk (below_step (by repeat (first | (with_reducible first | exact HB.out | apply below_alloc | apply pw_below_drewN | apply below_drew1 | refine below_set ?_ GE436.out) | exact HB.out)) hb);clear BK436;clear HB;have HO440 := n0_;have BK436 := n1_;have HB := n2_;clear n0_ n1_ n2_;(try clear hb);(try clear hb2);(try clear hk);(try clear hi);(try clear ho0);have hcz18_0 : w17.cell? ⟨gb436,0,none⟩ = some (.slice A0_0 l0_0.length c0_0) := (blk_cell BK436.out 0).trans rfl;have hcz18_1 : w17.cell? ⟨gb436,1,none⟩ = some (.int .i64 a0_1) := (blk_cell BK436.out 1).trans rfl;have hfz18_0 := blk_frozen BK436.out 0;have hfz18_1 := blk_frozen BK436.out 1;obtain ⟨Ao19,co19,eo19⟩ := Kd.R_slice HO440.out;subst eo19) | (go_at_call 39;(with_reducible refine (spec_cuPlay.calls k _ _ l0_0 a0_1 _ _ t438 t442 t445 t446 _ ?side1 ?side2 ?side3 ?side4 A9.out).mono ?_);(case side1 => repeat (first | exact (Kd.C_below HR0_0.out HB.out) | (with_reducible refine Kd.C_alloc ?_ _) | (with_reducible refine Kd.C_drewN ?_ _) | (with_reducible refine Kd.C_drew ?_)));(case side2 => exact HC0_0.out);(case side3 => repeat (first | exact (Kd.R_reads' HO440.out).2.2 | (with_reducible refine Kd.C_alloc ?_ _) | (with_reducible refine Kd.C_drewN ?_ _) | (with_reducible refine Kd.C_drew ?_)));(case side4 => exact (Kd.R_reads' HO440.out).2.1);rintro e w20 ⟨v443,rfl,ho0,hb⟩;have n0_ := Aside0.mk (Kd.R_elder' (by (with_reducible repeat (first | apply Kd.R_alloc | apply Kd.R_drewN | apply Kd.R_drew));exact HO440.out) (Kd.R_base ho0) hb);have n1_ := Aside0.mk (Kd.R_lower ho0 (below_size (by repeat (first | (with_reducible first | exact HB.out | apply below_alloc | apply pw_below_drewN | apply below_drew1 | refine below_set ?_ GE436.out) | exact HB.out))));have n2_ := Aside0.mk (blk_below (g := gb436) (o := .cells #[.slice A0_0 l0_0.length c0_0, .int .i64 a0_1] 29 (0,0)) (by (with_reducible repeat (first | refine blk_drewN ?_ _ | refine blk_drew ?_ | refine blk_alloc ?_ _));exact BK436.out) hb);have n3_ := Aside0.mk (below_step (by repeat (first | (with_reducible first | exact HB.out | apply below_alloc | apply pw_below_drewN | apply below_drew1 | refine below_set ?_ GE436.out) | exact HB.out)) hb);clear HO440;clear BK436;clear HB;have HO440 := n0_;have HO444 := n1_;have BK436 := n2_;have HB := n3_;clear n0_ n1_ n2_ n3_;(try clear hb);(try clear hb2);(try clear hk);(try clear hi);(try clear ho0)) | ((with_reducible refine gate_dst (N := 13) rfl ?_);refine box_event ?hg (N := 13) ?hd (cs := #[.slice none 0 0, .int .i64 0]) (t := 29) ?hr ?_;(case hd => rfl);(case hg => rfl);(case hr => first | (go_simp;done) | (go_simp;rfl));intro gb447 hg w21 hbox hb;have n0_ := Aside0.mk (Kd.R_below (by (with_reducible repeat (first | apply Kd.R_alloc | apply Kd.R_drewN | apply Kd.R_drew));exact HO440.out) hb);have n1_ := Aside0.mk (Kd.R_below (by (with_reducible repeat (first | apply Kd.R_alloc | apply Kd.R_drewN | apply Kd.R_drew));exact HO444.out) hb);have n2_ := Aside0.mk (blk_below (g := gb436) (o := .cells #[.slice A0_0 l0_0.length c0_0, .int .i64 a0_1] 29 (0,0)) (by (with_reducible repeat (first | refine blk_drewN ?_ _ | refine blk_drew ?_ | refine blk_alloc ?_ _));exact BK436.out) hb);have n3_ := Aside0.mk (below_step (by repeat (first | (with_reducible first | exact HB.out | apply below_alloc | apply pw_below_drewN | apply below_drew1 | refine below_set ?_ GE436.out) | exact HB.out)) hb);have n4_ := Aside0.mk (hbox);have n5_ := Aside0.mk ((by rw [hg];exact (below_size (by repeat (first | (with_reducible first | exact HB.out | apply below_alloc | apply pw_below_drewN | apply below_drew1 | refine below_set ?_ GE436.out) | exact HB.out))) : w.heap.size ≤ gb447));have n6_ := Aside0.mk ((by rw [hg];exact (below_size (by repeat (first | (with_reducible first | exact HB.out | apply below_alloc | apply pw_below_drewN | apply below_drew1 | refine below_set ?_ GE436.out) | exact HB.out))) : w.heap.size ≤ gb447));have n7_ := Aside0.mk ((by rw [hg];exact Nat.ne_of_lt (blk_lt (g := gb436) (o := .cells #[.slice A0_0 l0_0.length c0_0, .int .i64 a0_1] 29 (0,0)) (by (with_reducible repeat (first | refine blk_drewN ?_ _ | refine blk_drew ?_ | refine blk_alloc ?_ _));exact BK436.out)) : gb436 ≠ gb447));have n8_ := Aside0.mk ((by rw [hg];exact Nat.ne_of_gt (blk_lt (g := gb436) (o := .cells #[.slice A0_0 l0_0.length c0_0, .int .i64 a0_1] 29 (0,0)) (by (with_reducible repeat (first | refine blk_drewN ?_ _ | refine blk_drew ?_ | refine blk_alloc ?_ _));exact BK436.out)) : gb447 ≠ gb436));clear HO440;clear HO444;clear BK436;clear HB;have HO440 := n0_;have HO444 := n1_;have BK436 := n2_;have HB := n3_;have BK447 := n4_;have GW447 := n5_;have GE447 := n6_;have NB436_447 := n7_;have NB447_436 := n8_;clear n0_ n1_ n2_ n3_ n4_ n5_ n6_ n7_ n8_;clear hb hbox hg;obtain ⟨Ao22,co22,eo22⟩ := Kd.R_slice HO444.out;subst eo22;have hnb23 := NB447_436.out;have hnc23 := NB436_447.out;have hcz24_0 : w21.cell? ⟨gb447,0,none⟩ = some (.slice none 0 0) := (blk_cell BK447.out 0).trans rfl;have hcz24_1 : w21.cell? ⟨gb447,1,none⟩ = some (.int .i64 0) := (blk_cell BK447.out 1).trans rfl;have hfz24_0 := blk_frozen BK447.out 0;have hfz24_1 := blk_frozen BK447.out 1;have p448 : 0 ≤ (a1 : Int) := of_decide_eq_true (by first | (with_reducible assumption) | assumption);have q448 : a1 < (t442.length : Int) := of_decide_eq_true (by first | (with_reducible assumption) | assumption);obtain ⟨ad448,e448,hx448_0⟩ := Kd.at_int (Kd.R_reads' HO444.out).2.2 a1 p448 q448;cases e448;have hn448_0 : ad448.block ≠ gb447 := Kd.own_blk (Kd.R_ne HO444.out BK447.out (by decide));have hn448_1 : ad448.block ≠ gb447 := Kd.own_blk (Kd.R_ne HO444.out BK447.out (by decide));replace hx448_0 := (cell_far (p := ⟨gb447,0,none⟩) (by first | (rw [add_block];exact hn448_0) | (show (Addr.add _ _).block ≠ _;rw [add_block];exact hn448_0) | exact hn448_0) (.slice (some ad448) t442.length co22)).trans hx448_0;replace hx448_0 := (cell_far (p := ⟨gb447,1,none⟩) (by first | (rw [add_block];exact hn448_1) | (show (Addr.add _ _).block ≠ _;rw [add_block];exact hn448_1) | exact hn448_1) (.int .i64 t445)).trans hx448_0;(try have hy448_0 := fun (n_ : Nat) => (show ((((w21.drewN n_).setCell ⟨gb447,0,none⟩ (.slice (some ad448) t442.length co22)).setCell ⟨gb447,1,none⟩ (.int .i64 t445))).cell? _ = some _ from hx448_0));clear hn448_0;clear hn448_1;replace p448 := eq_true p448;replace q448 := eq_true q448) | (go_at_call 62;(with_reducible refine (spec_cuPart.calls k (rd t442 a1) t445 t449 t450 _ A12.out).mono ?_);rintro e w' ⟨rfl,⟨nd,rfl⟩⟩;(try first | exact ⟨rfl,_,World.drewN_drewN _ _ _⟩ | exact ⟨rfl,_,Eq.trans (World.drewN_drewN _ _ _) (congrArg (World.drewN _) (Nat.add_assoc _ _ _))⟩))))
     go_ret3
     exact ⟨by first | rfl | (simp [errW_none,errW_some] <;> rfl) | (simp [*,errW_none,errW_some] <;> rfl),by repeat (first | (with_reducible first | exact HB.out | apply below_alloc | apply pw_below_drewN | apply below_drew1 | refine below_set ?_ GE436.out | refine below_set ?_ GE447.out) | exact HB.out)⟩
    ·rw [if_neg c11] at H
     exact absurd H (by simp)
   ·rw [if_neg c10] at H
    exact absurd H (by simp)
  ·replace c8 := Bool.eq_false_iff.mpr c8
   subst c8
   have H1 : (some (0,0,false)) = some (r1,r2,r3) := by rw [if_neg (show ¬ (false = true) by decide)] at H;exact H
   clear H
   have H := H1
   clear H1
   simp only [Option.some.injEq,Prod.mk.injEq] at H
   obtain ⟨rfl,rfl,rfl⟩ := H
   go_enter Try.func43,Try.ntmps43
   go_wp2_with (first | ((with_reducible refine gate_dst (N := 4) rfl ?_);refine box_event ?hg (N := 4) ?hd (cs := #[.slice A0_0 l0_0.length c0_0, .int .i64 a0_1]) (t := 29) ?hr ?_;(case hd => rfl);(case hg => rfl);(case hr => first | (go_simp;done) | (go_simp;rfl));intro gb436 hg w25 hbox hb;have n0_ := Aside0.mk (below_step (by repeat (first | (with_reducible first | exact HB.out | apply below_alloc | apply pw_below_drewN | apply below_drew1) | exact HB.out)) hb);have n1_ := Aside0.mk (hbox);have n2_ := Aside0.mk ((by rw [hg];exact (below_size (by repeat (first | (with_reducible first | exact HB.out | apply below_alloc | apply pw_below_drewN | apply below_drew1) | exact HB.out))) : w.heap.size ≤ gb436));have n3_ := Aside0.mk ((by rw [hg];exact (below_size (by repeat (first | (with_reducible first | exact HB.out | apply below_alloc | apply pw_below_drewN | apply below_drew1) | exact HB.out))) : w.heap.size ≤ gb436));clear HB;have HB := n0_;have BK436 := n1_;have GW436 := n2_;have GE436 := n3_;clear n0_ n1_ n2_ n3_;clear hb hbox hg;have hcz26_0 : w25.cell? ⟨gb436,0,none⟩ = some (.slice A0_0 l0_0.length c0_0) := (blk_cell BK436.out 0).trans rfl;have hcz26_1 : w25.cell? ⟨gb436,1,none⟩ = some (.int .i64 a0_1) := (blk_cell BK436.out 1).trans rfl;have hfz26_0 := blk_frozen BK436.out 0;have hfz26_1 := blk_frozen BK436.out 1) | (go_at_call 60;(with_reducible refine (spec_cuFew.calls k _ _ l0_0 a0_1 a1 a2 true _ ?side1 ?side2 A5.out).mono ?_);(case side1 => repeat (first | exact (Kd.C_below HR0_0.out HB.out) | (with_reducible refine Kd.C_alloc ?_ _) | (with_reducible refine Kd.C_drewN ?_ _) | (with_reducible refine Kd.C_drew ?_)));(case side2 => exact HC0_0.out);rintro e w27 ⟨rfl,hb⟩;have n0_ := Aside0.mk (blk_below (g := gb436) (o := .cells #[.slice A0_0 l0_0.length c0_0, .int .i64 a0_1] 29 (0,0)) (by (with_reducible repeat (first | refine blk_drewN ?_ _ | refine blk_drew ?_ | refine blk_alloc ?_ _));exact BK436.out) hb);have n1_ := Aside0.mk (below_step (by repeat (first | (with_reducible first | exact HB.out | apply below_alloc | apply pw_below_drewN | apply below_drew1 | refine below_set ?_ GE436.out) | exact HB.out)) hb);clear BK436;clear HB;have BK436 := n0_;have HB := n1_;clear n0_ n1_;(try clear hb);(try clear hb2);(try clear hk);(try clear hi);have hcz28_0 : w27.cell? ⟨gb436,0,none⟩ = some (.slice A0_0 l0_0.length c0_0) := (blk_cell BK436.out 0).trans rfl;have hcz28_1 : w27.cell? ⟨gb436,1,none⟩ = some (.int .i64 a0_1) := (blk_cell BK436.out 1).trans rfl;have hfz28_0 := blk_frozen BK436.out 0;have hfz28_1 := blk_frozen BK436.out 1) | (go_at_call 61;(with_reducible refine (spec_cuSearch.calls k _ _ l0_0 a0_1 a1 a2 a3 t438 false _ ?side1 ?side2 A7.out).mono ?_);(case side1 => repeat (first | exact (Kd.C_below HR0_0.out HB.out) | (with_reducible refine Kd.C_alloc ?_ _) | (with_reducible refine Kd.C_drewN ?_ _) | (with_reducible refine Kd.C_drew ?_)));(case side2 => exact HC0_0.out);rintro e w29 ⟨v439,rfl,ho0,hb⟩;have n0_ := Aside0.mk (Kd.R_lower ho0 (below_size (by repeat (first | (with_reducible first | exact HB.out | apply below_alloc | apply pw_below_drewN | apply below_drew1 | refine below_set ?_ GE436.out) | exact HB.out))));have n1_ := Aside0.mk (blk_below (g := gb436) (o := .cells #[.slice A0_0 l0_0.length c0_0, .int .i64 a0_1] 29 (0,0)) (by (with_reducible repeat (first | refine blk_drewN ?_ _ | refine blk_drew ?_ | refine blk_alloc ?_ _));exact BK436.out) hb);have n2_ := Aside0.mk (below_step (by repeat (first | (with_reducible first | exact HB.out | apply below_alloc | apply pw_below_drewN | apply below_drew1 | refine below_set ?_ GE436.out) | exact HB.out)) hb);clear BK436;clear HB;have HO440 := n0_;have BK436 := n1_;have HB := n2_;clear n0_ n1_ n2_;(try clear hb);(try clear hb2);(try clear hk);(try clear hi);(try clear ho0)))
   repeat (go_quiet (first | ((with_reducible refine gate_dst (N := 4) rfl ?_);refine box_event ?hg (N := 4) ?hd (cs := #[.slice A0_0 l0_0.length c0_0, .int .i64 a0_1]) (t := 29) ?hr ?_;(case hd => rfl);(case hg => rfl);(case hr => first | (go_simp;done) | (go_simp;rfl));intro gb436 hg w25 hbox hb;have n0_ := Aside0.mk (below_step (by repeat (first | (with_reducible first | exact HB.out | apply below_alloc | apply pw_below_drewN | apply below_drew1) | exact HB.out)) hb);have n1_ := Aside0.mk (hbox);have n2_ := Aside0.mk ((by rw [hg];exact (below_size (by repeat (first | (with_reducible first | exact HB.out | apply below_alloc | apply pw_below_drewN | apply below_drew1) | exact HB.out))) : w.heap.size ≤ gb436));have n3_ := Aside0.mk ((by rw [hg];exact (below_size (by repeat (first | (with_reducible first | exact HB.out | apply below_alloc | apply pw_below_drewN | apply below_drew1) | exact HB.out))) : w.heap.size ≤ gb436));clear HB;have HB := n0_;have BK436 := n1_;have GW436 := n2_;have GE436 := n3_;clear n0_ n1_ n2_ n3_;clear hb hbox hg;have hcz26_0 : w25.cell? ⟨gb436,0,none⟩ = some (.slice A0_0 l0_0.length c0_0) := (blk_cell BK436.out 0).trans rfl;have hcz26_1 : w25.cell? ⟨gb436,1,none⟩ = some (.int .i64 a0_1) := (blk_cell BK436.out 1).trans rfl;have hfz26_0 := blk_frozen BK436.out 0;have hfz26_1 := blk_frozen BK436.out 1) | (go_at_call 60;(with_reducible refine (spec_cuFew.calls k _ _ l0_0 a0_1 a1 a2 true _ ?side1 ?side2 A5.out).mono ?_);(case side1 => repeat (first | exact (Kd.C_below HR0_0.out HB.out) | (with_reducible refine Kd.C_alloc ?_ _) | (with_reducible refine Kd.C_drewN ?_ _) | (with_reducible refine Kd.C_drew ?_)));(case side2 => exact HC0_0.out);rintro e w27 ⟨rfl,hb⟩;have n0_ := Aside0.mk (blk_below (g := gb436) (o := .cells #[.slice A0_0 l0_0.length c0_0, .int .i64 a0_1] 29 (0,0)) (by (with_reducible repeat (first | refine blk_drewN ?_ _ | refine blk_drew ?_ | refine blk_alloc ?_ _));exact BK436.out) hb);have n1_ := Aside0.mk (below_step (by repeat (first | (with_reducible first | exact HB.out | apply below_alloc | apply pw_below_drewN | apply below_drew1 | refine below_set ?_ GE436.out) | exact HB.out)) hb);clear BK436;clear HB;have BK436 := n0_;have HB := n1_;clear n0_ n1_;(try clear hb);(try clear hb2);(try clear hk);(try clear hi);have hcz28_0 : w27.cell? ⟨gb436,0,none⟩ = some (.slice A0_0 l0_0.length c0_0) := (blk_cell BK436.out 0).trans rfl;have hcz28_1 : w27.cell? ⟨gb436,1,none⟩ = some (.int .i64 a0_1) := (blk_cell BK436.out 1).trans rfl;have hfz28_0 := blk_frozen BK436.out 0;have hfz28_1 := blk_frozen BK436.out 1) | (go_at_call 61;(with_reducible refine (spec_cuSearch.calls k _ _ l0_0 a0_1 a1 a2 a3 t438 false _ ?side1 ?side2 A7.out).mono ?_);(case side1 => repeat (first | exact (Kd.C_below HR0_0.out HB.out) | (with_reducible refine Kd.C_alloc ?_ _) | (with_reducible refine Kd.C_drewN ?_ _) | (with_reducible refine Kd.C_drew ?_)));(case side2 => exact HC0_0.out);rintro e w29 ⟨v439,rfl,ho0,hb⟩;have n0_ := Aside0.mk (Kd.R_lower ho0 (below_size (by repeat (first | (with_reducible first | exact HB.out | apply below_alloc | apply pw_below_drewN | apply below_drew1 | refine below_set ?_ GE436.out) | exact HB.out))));have n1_ := Aside0.mk (blk_below (g := gb436) (o := .cells #[.slice A0_0 l0_0.length c0_0, .int .i64 a0_1] 29 (0,0)) (by (with_reducible repeat (first | refine blk_drewN ?_ _ | refine blk_drew ?_ | refine blk_alloc ?_ _));exact BK436.out) hb);have n2_ := Aside0.mk (below_step (by repeat (first | (with_reducible first | exact HB.out | apply below_alloc | apply pw_below_drewN | apply below_drew1 | refine below_set ?_ GE436.out) | exact HB.out)) hb);clear BK436;clear HB;have HO440 := n0_;have BK436 := n1_;have HB := n2_;clear n0_ n1_ n2_;(try clear hb);(try clear hb2);(try clear hk);(try clear hi);(try clear ho0)));try go_wp2_with (first | ((with_reducible refine gate_dst (N := 4) rfl ?_);refine box_event ?hg (N := 4) ?hd (cs := #[.slice A0_0 l0_0.length c0_0, .int .i64 a0_1]) (t := 29) ?hr ?_;(case hd => rfl);(case hg => rfl);(case hr => first | (go_simp;done) | (go_simp;rfl));intro gb436 hg w25 hbox hb;have n0_ := Aside0.mk (below_step (by repeat (first | (with_reducible first | exact HB.out | apply below_alloc | apply pw_below_drewN | apply below_drew1) | exact HB.out)) hb);have n1_ := Aside0.mk (hbox);have n2_ := Aside0.mk ((by rw [hg];exact (below_size (by repeat (first | (with_reducible first | exact HB.out | apply below_alloc | apply pw_below_drewN | apply below_drew1) | exact HB.out))) : w.heap.size ≤ gb436));have n3_ := Aside0.mk ((by rw [hg];exact (below_size (by repeat (first | (with_reducible first | exact HB.out | apply below_alloc | apply pw_below_drewN | apply below_drew1) | exact HB.out))) : w.heap.size ≤ gb436));clear HB;have HB := n0_;have BK436 := n1_;have GW436 := n2_;have GE436 := n3_;clear n0_ n1_ n2_ n3_;clear hb hbox hg;have hcz26_0 : w25.cell? ⟨gb436,0,none⟩ = some (.slice A0_0 l0_0.length c0_0) := (blk_cell BK436.out 0).trans rfl;have hcz26_1 : w25.cell? ⟨gb436,1,none⟩ = some (.int .i64 a0_1) := (blk_cell BK436.out 1).trans rfl;have hfz26_0 := blk_frozen BK436.out 0;have hfz26_1 := blk_frozen BK436.out 1) | (go_at_call 60;(with_reducible refine (spec_cuFew.calls k _ _ l0_0 a0_1 a1 a2 true _ ?side1 ?side2 A5.out).mono ?_);(case side1 => repeat (first | exact (Kd.C_below HR0_0.out HB.out) | (with_reducible refine Kd.C_alloc ?_ _) | (with_reducible refine Kd.C_drewN ?_ _) | (with_reducible refine Kd.C_drew ?_)));(case side2 => exact HC0_0.out);rintro e w27 ⟨rfl,hb⟩;have n0_ := Aside0.mk (blk_below (g := gb436) (o := .cells #[.slice A0_0 l0_0.length c0_0, .int .i64 a0_1] 29 (0,0)) (by (with_reducible repeat (first | refine blk_drewN ?_ _ | refine blk_drew ?_ | refine blk_alloc ?_ _));exact BK436.out) hb);have n1_ := Aside0.mk (below_step (by repeat (first | (with_reducible first | exact HB.out | apply below_alloc | apply pw_below_drewN | apply below_drew1 | refine below_set ?_ GE436.out) | exact HB.out)) hb);clear BK436;clear HB;have BK436 := n0_;have HB := n1_;clear n0_ n1_;(try clear hb);(try clear hb2);(try clear hk);(try clear hi);have hcz28_0 : w27.cell? ⟨gb436,0,none⟩ = some (.slice A0_0 l0_0.length c0_0) := (blk_cell BK436.out 0).trans rfl;have hcz28_1 : w27.cell? ⟨gb436,1,none⟩ = some (.int .i64 a0_1) := (blk_cell BK436.out 1).trans rfl;have hfz28_0 := blk_frozen BK436.out 0;have hfz28_1 := blk_frozen BK436.out 1) | (go_at_call 61;(with_reducible refine (spec_cuSearch.calls k _ _ l0_0 a0_1 a1 a2 a3 t438 false _ ?side1 ?side2 A7.out).mono ?_);(case side1 => repeat (first | exact (Kd.C_below HR0_0.out HB.out) | (with_reducible refine Kd.C_alloc ?_ _) | (with_reducible refine Kd.C_drewN ?_ _) | (with_reducible refine Kd.C_drew ?_)));(case side2 => exact HC0_0.out);rintro e w29 ⟨v439,rfl,ho0,hb⟩;have n0_ := Aside0.mk (Kd.R_lower ho0 (below_size (by repeat (first | (with_reducible first | exact HB.out | apply below_alloc | apply pw_below_drewN | apply below_drew1 | refine below_set ?_ GE436.out) | exact HB.out))));have n1_ := Aside0.mk (blk_below (g := gb436) (o := .cells #[.slice A0_0 l0_0.length c0_0, .int .i64 a0_1] 29 (0,0)) (by (with_reducible repeat (first | refine blk_drewN ?_ _ | refine blk_drew ?_ | refine blk_alloc ?_ _));exact BK436.out) hb);have n2_ := Aside0.mk (below_step (by repeat (first | (with_reducible first | exact HB.out | apply below_alloc | apply pw_below_drewN | apply below_drew1 | refine below_set ?_ GE436.out) | exact HB.out)) hb);clear BK436;clear HB;have HO440 := n0_;have BK436 := n1_;have HB := n2_;clear n0_ n1_ n2_;(try clear hb);(try clear hb2);(try clear hk);(try clear hi);(try clear ho0))))
   go_ret3
   exact ⟨by first | rfl | (simp [errW_none,errW_some] <;> rfl) | (simp [*,errW_none,errW_some] <;> rfl),by repeat (first | (with_reducible first | exact HB.out | apply below_alloc | apply pw_below_drewN | apply below_drew1 | refine below_set ?_ GE436.out) | exact HB.out)⟩
 ·replace c6 := Bool.eq_false_iff.mpr c6
  subst c6
  have H1 : (some (0,0,false)) = some (r1,r2,r3) := by rw [if_neg (show ¬ (false = true) by decide)] at H;exact H
  clear H
  have H := H1
  clear H1
  simp only [Option.some.injEq,Prod.mk.injEq] at H
  obtain ⟨rfl,rfl,rfl⟩ := H
  go_enter Try.func43,Try.ntmps43
  go_wp2_with (first | ((with_reducible refine gate_dst (N := 4) rfl ?_);refine box_event ?hg (N := 4) ?hd (cs := #[.slice A0_0 l0_0.length c0_0, .int .i64 a0_1]) (t := 29) ?hr ?_;(case hd => rfl);(case hg => rfl);(case hr => first | (go_simp;done) | (go_simp;rfl));intro gb436 hg w30 hbox hb;have n0_ := Aside0.mk (below_step (by repeat (first | (with_reducible first | exact HB.out | apply below_alloc | apply pw_below_drewN | apply below_drew1) | exact HB.out)) hb);have n1_ := Aside0.mk (hbox);have n2_ := Aside0.mk ((by rw [hg];exact (below_size (by repeat (first | (with_reducible first | exact HB.out | apply below_alloc | apply pw_below_drewN | apply below_drew1) | exact HB.out))) : w.heap.size ≤ gb436));have n3_ := Aside0.mk ((by rw [hg];exact (below_size (by repeat (first | (with_reducible first | exact HB.out | apply below_alloc | apply pw_below_drewN | apply below_drew1) | exact HB.out))) : w.heap.size ≤ gb436));clear HB;have HB := n0_;have BK436 := n1_;have GW436 := n2_;have GE436 := n3_;clear n0_ n1_ n2_ n3_;clear hb hbox hg;have hcz31_0 : w30.cell? ⟨gb436,0,none⟩ = some (.slice A0_0 l0_0.length c0_0) := (blk_cell BK436.out 0).trans rfl;have hcz31_1 : w30.cell? ⟨gb436,1,none⟩ = some (.int .i64 a0_1) := (blk_cell BK436.out 1).trans rfl;have hfz31_0 := blk_frozen BK436.out 0;have hfz31_1 := blk_frozen BK436.out 1) | (go_at_call 60;(with_reducible refine (spec_cuFew.calls k _ _ l0_0 a0_1 a1 a2 false _ ?side1 ?side2 A5.out).mono ?_);(case side1 => repeat (first | exact (Kd.C_below HR0_0.out HB.out) | (with_reducible refine Kd.C_alloc ?_ _) | (with_reducible refine Kd.C_drewN ?_ _) | (with_reducible refine Kd.C_drew ?_)));(case side2 => exact HC0_0.out);rintro e w32 ⟨rfl,hb⟩;have n0_ := Aside0.mk (blk_below (g := gb436) (o := .cells #[.slice A0_0 l0_0.length c0_0, .int .i64 a0_1] 29 (0,0)) (by (with_reducible repeat (first | refine blk_drewN ?_ _ | refine blk_drew ?_ | refine blk_alloc ?_ _));exact BK436.out) hb);have n1_ := Aside0.mk (below_step (by repeat (first | (with_reducible first | exact HB.out | apply below_alloc | apply pw_below_drewN | apply below_drew1 | refine below_set ?_ GE436.out) | exact HB.out)) hb);clear BK436;clear HB;have BK436 := n0_;have HB := n1_;clear n0_ n1_;(try clear hb);(try clear hb2);(try clear hk);(try clear hi)))
  repeat (go_quiet (first | ((with_reducible refine gate_dst (N := 4) rfl ?_);refine box_event ?hg (N := 4) ?hd (cs := #[.slice A0_0 l0_0.length c0_0, .int .i64 a0_1]) (t := 29) ?hr ?_;(case hd => rfl);(case hg => rfl);(case hr => first | (go_simp;done) | (go_simp;rfl));intro gb436 hg w30 hbox hb;have n0_ := Aside0.mk (below_step (by repeat (first | (with_reducible first | exact HB.out | apply below_alloc | apply pw_below_drewN | apply below_drew1) | exact HB.out)) hb);have n1_ := Aside0.mk (hbox);have n2_ := Aside0.mk ((by rw [hg];exact (below_size (by repeat (first | (with_reducible first | exact HB.out | apply below_alloc | apply pw_below_drewN | apply below_drew1) | exact HB.out))) : w.heap.size ≤ gb436));have n3_ := Aside0.mk ((by rw [hg];exact (below_size (by repeat (first | (with_reducible first | exact HB.out | apply below_alloc | apply pw_below_drewN | apply below_drew1) | exact HB.out))) : w.heap.size ≤ gb436));clear HB;have HB := n0_;have BK436 := n1_;have GW436 := n2_;have GE436 := n3_;clear n0_ n1_ n2_ n3_;clear hb hbox hg;have hcz31_0 : w30.cell? ⟨gb436,0,none⟩ = some (.slice A0_0 l0_0.length c0_0) := (blk_cell BK436.out 0).trans rfl;have hcz31_1 : w30.cell? ⟨gb436,1,none⟩ = some (.int .i64 a0_1) := (blk_cell BK436.out 1).trans rfl;have hfz31_0 := blk_frozen BK436.out 0;have hfz31_1 := blk_frozen BK436.out 1) | (go_at_call 60;(with_reducible refine (spec_cuFew.calls k _ _ l0_0 a0_1 a1 a2 false _ ?side1 ?side2 A5.out).mono ?_);(case side1 => repeat (first | exact (Kd.C_below HR0_0.out HB.out) | (with_reducible refine Kd.C_alloc ?_ _) | (with_reducible refine Kd.C_drewN ?_ _) | (with_reducible refine Kd.C_drew ?_)));(case side2 => exact HC0_0.out);rintro e w32 ⟨rfl,hb⟩;have n0_ := Aside0.mk (blk_below (g := gb436) (o := .cells #[.slice A0_0 l0_0.length c0_0, .int .i64 a0_1] 29 (0,0)) (by (with_reducible repeat (first | refine blk_drewN ?_ _ | refine blk_drew ?_ | refine blk_alloc ?_ _));exact BK436.out) hb);have n1_ := Aside0.mk (below_step (by repeat (first | (with_reducible first | exact HB.out | apply below_alloc | apply pw_below_drewN | apply below_drew1 | refine below_set ?_ GE436.out) | exact HB.out)) hb);clear BK436;clear HB;have BK436 := n0_;have HB := n1_;clear n0_ n1_;(try clear hb);(try clear hb2);(try clear hk);(try clear hi)));try go_wp2_with (first | ((with_reducible refine gate_dst (N := 4) rfl ?_);refine box_event ?hg (N := 4) ?hd (cs := #[.slice A0_0 l0_0.length c0_0, .int .i64 a0_1]) (t := 29) ?hr ?_;(case hd => rfl);(case hg => rfl);(case hr => first | (go_simp;done) | (go_simp;rfl));intro gb436 hg w30 hbox hb;have n0_ := Aside0.mk (below_step (by repeat (first | (with_reducible first | exact HB.out | apply below_alloc | apply pw_below_drewN | apply below_drew1) | exact HB.out)) hb);have n1_ := Aside0.mk (hbox);have n2_ := Aside0.mk ((by rw [hg];exact (below_size (by repeat (first | (with_reducible first | exact HB.out | apply below_alloc | apply pw_below_drewN | apply below_drew1) | exact HB.out))) : w.heap.size ≤ gb436));have n3_ := Aside0.mk ((by rw [hg];exact (below_size (by repeat (first | (with_reducible first | exact HB.out | apply below_alloc | apply pw_below_drewN | apply below_drew1) | exact HB.out))) : w.heap.size ≤ gb436));clear HB;have HB := n0_;have BK436 := n1_;have GW436 := n2_;have GE436 := n3_;clear n0_ n1_ n2_ n3_;clear hb hbox hg;have hcz31_0 : w30.cell? ⟨gb436,0,none⟩ = some (.slice A0_0 l0_0.length c0_0) := (blk_cell BK436.out 0).trans rfl;have hcz31_1 : w30.cell? ⟨gb436,1,none⟩ = some (.int .i64 a0_1) := (blk_cell BK436.out 1).trans rfl;have hfz31_0 := blk_frozen BK436.out 0;have hfz31_1 := blk_frozen BK436.out 1) | (go_at_call 60;(with_reducible refine (spec_cuFew.calls k _ _ l0_0 a0_1 a1 a2 false _ ?side1 ?side2 A5.out).mono ?_);(case side1 => repeat (first | exact (Kd.C_below HR0_0.out HB.out) | (with_reducible refine Kd.C_alloc ?_ _) | (with_reducible refine Kd.C_drewN ?_ _) | (with_reducible refine Kd.C_drew ?_)));(case side2 => exact HC0_0.out);rintro e w32 ⟨rfl,hb⟩;have n0_ := Aside0.mk (blk_below (g := gb436) (o := .cells #[.slice A0_0 l0_0.length c0_0, .int .i64 a0_1] 29 (0,0)) (by (with_reducible repeat (first | refine blk_drewN ?_ _ | refine blk_drew ?_ | refine blk_alloc ?_ _));exact BK436.out) hb);have n1_ := Aside0.mk (below_step (by repeat (first | (with_reducible first | exact HB.out | apply below_alloc | apply pw_below_drewN | apply below_drew1 | refine below_set ?_ GE436.out) | exact HB.out)) hb);clear BK436;clear HB;have BK436 := n0_;have HB := n1_;clear n0_ n1_;(try clear hb);(try clear hb2);(try clear hk);(try clear hi))))
  go_ret3
  exact ⟨by first | rfl | (simp [errW_none,errW_some] <;> rfl) | (simp [*,errW_none,errW_some] <;> rfl),by repeat (first | (with_reducible first | exact HB.out | apply below_alloc | apply pw_below_drewN | apply below_drew1 | refine below_set ?_ GE436.out) | exact HB.out)⟩

/-! ### impl_canAsk: function 63 -/
def impl_canAsk.f (k : Nat) (l0_0 : List Int) (a0_1 : Int) (a1 : Int) (a2 : Int) : Option (Bool) := (impl_areFew.f k l0_0 a0_1).bind fun t458 => (if t458 = true then ((impl_isCup.f k l0_0 a0_1 a1).bind fun t459 => (if t459 = true then ((impl_within.f a2 0 4).bind fun t460 => (some t460)) else (some false))) else (some false))
theorem impl_canAsk.mono : ∀ a0 a1 a2 a3 k,LeO (impl_canAsk.f k a0 a1 a2 a3) (impl_canAsk.f (k + 1) a0 a1 a2 a3) := by
 intro a0 a1 a2 a3 k
 unfold impl_canAsk.f
 repeat' first
   | (with_reducible exact impl_areFew.mono _ _ _)
   | (with_reducible exact impl_isCup.mono _ _ _ _)
   | (with_reducible exact LeO.refl _)
   | (with_reducible exact LeO.none _)
   | (with_reducible refine LeO.ite ?_ ?_)
   | (with_reducible refine LeO.bind ?_ (fun _ => ?_))
   | exact impl_areFew.mono _ _ _
   | exact impl_isCup.mono _ _ _ _
   | exact LeO.none _
   | refine LeO.ite ?_ ?_
   | refine LeO.bind ?_ (fun _ => ?_)
set_option maxHeartbeats 8000000 in
set_option maxRecDepth 100000 in
theorem impl_canAsk.calls (k : Nat) (A0_0 : Option Addr) (c0_0 : Nat) (l0_0 : List Int) (a0_1 : Int) (a1 : Int) (a2 : Int) (r : Bool) (w : World) (hr0_0 : Kd.C (Kd.int .i64) w A0_0 l0_0.length l0_0) (hc0_0 : l0_0.length ≤ c0_0) (h : impl_canAsk.f k l0_0 a0_1 a1 a2 = some r) :
  Calls Try.prog 63 #[.agg #[.slice A0_0 l0_0.length c0_0, .int .i64 a0_1], .int .i64 a1, .int .i64 a2] w fun e w' => e = .returned (.bool r) ∧ Below w.heap.size w w' := by
 have hu29 := Try.underlying29
 have HR0_0 := Aside0.mk hr0_0
 have HC0_0 := Aside0.mk hc0_0
 clear hr0_0 hc0_0
 have HB := Aside0.mk (Below.refl w.heap.size w)
 have H : ((impl_areFew.f k l0_0 a0_1).bind fun t458 => (if t458 = true then ((impl_isCup.f k l0_0 a0_1 a1).bind fun t459 => (if t459 = true then ((impl_within.f a2 0 4).bind fun t460 => (some t460)) else (some false))) else (some false))) = some r := h
 clear h
 replace H := Option.bind_eq_some_iff.mp H
 obtain ⟨t458,A40,H⟩ := H
 replace H : (if t458 = true then ((impl_isCup.f k l0_0 a0_1 a1).bind fun t459 => (if t459 = true then ((impl_within.f a2 0 4).bind fun t460 => (some t460)) else (some false))) else (some false)) = some r := H
 have A4 := Aside0.mk A40
 clear A40
 by_cases c5 : t458 = true
 ·subst c5
  have H1 : ((impl_isCup.f k l0_0 a0_1 a1).bind fun t459 => (if t459 = true then ((impl_within.f a2 0 4).bind fun t460 => (some t460)) else (some false))) = some r := by rw [if_pos rfl] at H;exact H
  clear H
  have H := H1
  clear H1
  replace H := Option.bind_eq_some_iff.mp H
  obtain ⟨t459,A60,H⟩ := H
  replace H : (if t459 = true then ((impl_within.f a2 0 4).bind fun t460 => (some t460)) else (some false)) = some r := H
  have A6 := Aside0.mk A60
  clear A60
  by_cases c7 : t459 = true
  ·subst c7
   have H1 : ((impl_within.f a2 0 4).bind fun t460 => (some t460)) = some r := by rw [if_pos rfl] at H;exact H
   clear H
   have H := H1
   clear H1
   replace H := Option.bind_eq_some_iff.mp H
   obtain ⟨t460,A80,H⟩ := H
   replace H : (some t460) = some r := H
   have A8 := Aside0.mk A80
   clear A80
   obtain rfl := Option.some.inj H
   go_enter Try.func63,Try.ntmps63
   go_wp2_with (first | ((with_reducible refine gate_dst (N := 3) rfl ?_);refine box_event ?hg (N := 3) ?hd (cs := #[.slice A0_0 l0_0.length c0_0, .int .i64 a0_1]) (t := 29) ?hr ?_;(case hd => rfl);(case hg => rfl);(case hr => first | (go_simp;done) | (go_simp;rfl));intro gb457 hg w9 hbox hb;have n0_ := Aside0.mk (below_step (by repeat (first | (with_reducible first | exact HB.out | apply below_alloc | apply pw_below_drewN | apply below_drew1) | exact HB.out)) hb);have n1_ := Aside0.mk (hbox);have n2_ := Aside0.mk ((by rw [hg];exact (below_size (by repeat (first | (with_reducible first | exact HB.out | apply below_alloc | apply pw_below_drewN | apply below_drew1) | exact HB.out))) : w.heap.size ≤ gb457));have n3_ := Aside0.mk ((by rw [hg];exact (below_size (by repeat (first | (with_reducible first | exact HB.out | apply below_alloc | apply pw_below_drewN | apply below_drew1) | exact HB.out))) : w.heap.size ≤ gb457));clear HB;have HB := n0_;have BK457 := n1_;have GW457 := n2_;have GE457 := n3_;clear n0_ n1_ n2_ n3_;clear hb hbox hg;have hcz10_0 : w9.cell? ⟨gb457,0,none⟩ = some (.slice A0_0 l0_0.length c0_0) := (blk_cell BK457.out 0).trans rfl;have hcz10_1 : w9.cell? ⟨gb457,1,none⟩ = some (.int .i64 a0_1) := (blk_cell BK457.out 1).trans rfl;have hfz10_0 := blk_frozen BK457.out 0;have hfz10_1 := blk_frozen BK457.out 1) | ((with_reducible refine gate_callee (f := 68) rfl ?_);refine goesL_ (some 8) rfl rfl Try.func68 (by kernel_rfl) rfl #[.agg #[.slice A0_0 l0_0.length c0_0, .int .i64 a0_1]] rfl (by (try simp only [List.map_toArray,List.map_cons,List.map_nil]);first | done | rfl | (simp only [List.length_drop,List.length_take];rfl)) ?_;(with_reducible refine (impl_areFew.calls k _ _ l0_0 a0_1 true _ ?side1 ?side2 A4.out).mono ?_);(case side1 => repeat (first | exact (Kd.C_below HR0_0.out HB.out) | (with_reducible refine Kd.C_alloc ?_ _) | (with_reducible refine Kd.C_drewN ?_ _) | (with_reducible refine Kd.C_drew ?_)));(case side2 => exact HC0_0.out);rintro e w11 ⟨rfl,hb⟩;refine ⟨_,rfl,?_⟩;have n0_ := Aside0.mk (blk_below (g := gb457) (o := .cells #[.slice A0_0 l0_0.length c0_0, .int .i64 a0_1] 29 (0,0)) (by (with_reducible repeat (first | refine blk_drewN ?_ _ | refine blk_drew ?_ | refine blk_alloc ?_ _));exact BK457.out) hb);have n1_ := Aside0.mk (below_step (by repeat (first | (with_reducible first | exact HB.out | apply below_alloc | apply pw_below_drewN | apply below_drew1 | refine below_set ?_ GE457.out) | exact HB.out)) hb);clear BK457;clear HB;have BK457 := n0_;have HB := n1_;clear n0_ n1_;(try clear hb);(try clear hb2);(try clear hk);(try clear hi);have hcz12_0 : w11.cell? ⟨gb457,0,none⟩ = some (.slice A0_0 l0_0.length c0_0) := (blk_cell BK457.out 0).trans rfl;have hcz12_1 : w11.cell? ⟨gb457,1,none⟩ = some (.int .i64 a0_1) := (blk_cell BK457.out 1).trans rfl;have hfz12_0 := blk_frozen BK457.out 0;have hfz12_1 := blk_frozen BK457.out 1) | (go_at_call 40;(with_reducible refine (impl_isCup.calls k _ _ l0_0 a0_1 a1 true _ ?side1 ?side2 A6.out).mono ?_);(case side1 => repeat (first | exact (Kd.C_below HR0_0.out HB.out) | (with_reducible refine Kd.C_alloc ?_ _) | (with_reducible refine Kd.C_drewN ?_ _) | (with_reducible refine Kd.C_drew ?_)));(case side2 => exact HC0_0.out);rintro e w13 ⟨rfl,hb⟩;have n0_ := Aside0.mk (blk_below (g := gb457) (o := .cells #[.slice A0_0 l0_0.length c0_0, .int .i64 a0_1] 29 (0,0)) (by (with_reducible repeat (first | refine blk_drewN ?_ _ | refine blk_drew ?_ | refine blk_alloc ?_ _));exact BK457.out) hb);have n1_ := Aside0.mk (below_step (by repeat (first | (with_reducible first | exact HB.out | apply below_alloc | apply pw_below_drewN | apply below_drew1 | refine below_set ?_ GE457.out) | exact HB.out)) hb);clear BK457;clear HB;have BK457 := n0_;have HB := n1_;clear n0_ n1_;(try clear hb);(try clear hb2);(try clear hk);(try clear hi)) | (go_at_call 51;(with_reducible refine (impl_within.calls a2 0 4 t460 _ A8.out).mono ?_);rintro e w' ⟨rfl,⟨nd,rfl⟩⟩))
   go_ret
   exact ⟨by first | rfl | (simp [errW_none,errW_some] <;> rfl) | (simp [*,errW_none,errW_some] <;> rfl),by repeat (first | (with_reducible first | exact HB.out | apply below_alloc | apply pw_below_drewN | apply below_drew1 | refine below_set ?_ GE457.out) | exact HB.out)⟩
  ·replace c7 := Bool.eq_false_iff.mpr c7
   subst c7
   have H1 : (some false) = some r := by rw [if_neg (show ¬ (false = true) by decide)] at H;exact H
   clear H
   have H := H1
   clear H1
   obtain rfl := Option.some.inj H
   go_enter Try.func63,Try.ntmps63
   go_wp2_with (first | ((with_reducible refine gate_dst (N := 3) rfl ?_);refine box_event ?hg (N := 3) ?hd (cs := #[.slice A0_0 l0_0.length c0_0, .int .i64 a0_1]) (t := 29) ?hr ?_;(case hd => rfl);(case hg => rfl);(case hr => first | (go_simp;done) | (go_simp;rfl));intro gb457 hg w14 hbox hb;have n0_ := Aside0.mk (below_step (by repeat (first | (with_reducible first | exact HB.out | apply below_alloc | apply pw_below_drewN | apply below_drew1) | exact HB.out)) hb);have n1_ := Aside0.mk (hbox);have n2_ := Aside0.mk ((by rw [hg];exact (below_size (by repeat (first | (with_reducible first | exact HB.out | apply below_alloc | apply pw_below_drewN | apply below_drew1) | exact HB.out))) : w.heap.size ≤ gb457));have n3_ := Aside0.mk ((by rw [hg];exact (below_size (by repeat (first | (with_reducible first | exact HB.out | apply below_alloc | apply pw_below_drewN | apply below_drew1) | exact HB.out))) : w.heap.size ≤ gb457));clear HB;have HB := n0_;have BK457 := n1_;have GW457 := n2_;have GE457 := n3_;clear n0_ n1_ n2_ n3_;clear hb hbox hg;have hcz15_0 : w14.cell? ⟨gb457,0,none⟩ = some (.slice A0_0 l0_0.length c0_0) := (blk_cell BK457.out 0).trans rfl;have hcz15_1 : w14.cell? ⟨gb457,1,none⟩ = some (.int .i64 a0_1) := (blk_cell BK457.out 1).trans rfl;have hfz15_0 := blk_frozen BK457.out 0;have hfz15_1 := blk_frozen BK457.out 1) | ((with_reducible refine gate_callee (f := 68) rfl ?_);refine goesL_ (some 8) rfl rfl Try.func68 (by kernel_rfl) rfl #[.agg #[.slice A0_0 l0_0.length c0_0, .int .i64 a0_1]] rfl (by (try simp only [List.map_toArray,List.map_cons,List.map_nil]);first | done | rfl | (simp only [List.length_drop,List.length_take];rfl)) ?_;(with_reducible refine (impl_areFew.calls k _ _ l0_0 a0_1 true _ ?side1 ?side2 A4.out).mono ?_);(case side1 => repeat (first | exact (Kd.C_below HR0_0.out HB.out) | (with_reducible refine Kd.C_alloc ?_ _) | (with_reducible refine Kd.C_drewN ?_ _) | (with_reducible refine Kd.C_drew ?_)));(case side2 => exact HC0_0.out);rintro e w16 ⟨rfl,hb⟩;refine ⟨_,rfl,?_⟩;have n0_ := Aside0.mk (blk_below (g := gb457) (o := .cells #[.slice A0_0 l0_0.length c0_0, .int .i64 a0_1] 29 (0,0)) (by (with_reducible repeat (first | refine blk_drewN ?_ _ | refine blk_drew ?_ | refine blk_alloc ?_ _));exact BK457.out) hb);have n1_ := Aside0.mk (below_step (by repeat (first | (with_reducible first | exact HB.out | apply below_alloc | apply pw_below_drewN | apply below_drew1 | refine below_set ?_ GE457.out) | exact HB.out)) hb);clear BK457;clear HB;have BK457 := n0_;have HB := n1_;clear n0_ n1_;(try clear hb);(try clear hb2);(try clear hk);(try clear hi);have hcz17_0 : w16.cell? ⟨gb457,0,none⟩ = some (.slice A0_0 l0_0.length c0_0) := (blk_cell BK457.out 0).trans rfl;have hcz17_1 : w16.cell? ⟨gb457,1,none⟩ = some (.int .i64 a0_1) := (blk_cell BK457.out 1).trans rfl;have hfz17_0 := blk_frozen BK457.out 0;have hfz17_1 := blk_frozen BK457.out 1) | (go_at_call 40;(with_reducible refine (impl_isCup.calls k _ _ l0_0 a0_1 a1 false _ ?side1 ?side2 A6.out).mono ?_);(case side1 => repeat (first | exact (Kd.C_below HR0_0.out HB.out) | (with_reducible refine Kd.C_alloc ?_ _) | (with_reducible refine Kd.C_drewN ?_ _) | (with_reducible refine Kd.C_drew ?_)));(case side2 => exact HC0_0.out);rintro e w18 ⟨rfl,hb⟩;have n0_ := Aside0.mk (blk_below (g := gb457) (o := .cells #[.slice A0_0 l0_0.length c0_0, .int .i64 a0_1] 29 (0,0)) (by (with_reducible repeat (first | refine blk_drewN ?_ _ | refine blk_drew ?_ | refine blk_alloc ?_ _));exact BK457.out) hb);have n1_ := Aside0.mk (below_step (by repeat (first | (with_reducible first | exact HB.out | apply below_alloc | apply pw_below_drewN | apply below_drew1 | refine below_set ?_ GE457.out) | exact HB.out)) hb);clear BK457;clear HB;have BK457 := n0_;have HB := n1_;clear n0_ n1_;(try clear hb);(try clear hb2);(try clear hk);(try clear hi)))
   go_ret
   exact ⟨by first | rfl | (simp [errW_none,errW_some] <;> rfl) | (simp [*,errW_none,errW_some] <;> rfl),by repeat (first | (with_reducible first | exact HB.out | apply below_alloc | apply pw_below_drewN | apply below_drew1 | refine below_set ?_ GE457.out) | exact HB.out)⟩
 ·replace c5 := Bool.eq_false_iff.mpr c5
  subst c5
  have H1 : (some false) = some r := by rw [if_neg (show ¬ (false = true) by decide)] at H;exact H
  clear H
  have H := H1
  clear H1
  obtain rfl := Option.some.inj H
  go_enter Try.func63,Try.ntmps63
  go_wp2_with (first | ((with_reducible refine gate_dst (N := 3) rfl ?_);refine box_event ?hg (N := 3) ?hd (cs := #[.slice A0_0 l0_0.length c0_0, .int .i64 a0_1]) (t := 29) ?hr ?_;(case hd => rfl);(case hg => rfl);(case hr => first | (go_simp;done) | (go_simp;rfl));intro gb457 hg w19 hbox hb;have n0_ := Aside0.mk (below_step (by repeat (first | (with_reducible first | exact HB.out | apply below_alloc | apply pw_below_drewN | apply below_drew1) | exact HB.out)) hb);have n1_ := Aside0.mk (hbox);have n2_ := Aside0.mk ((by rw [hg];exact (below_size (by repeat (first | (with_reducible first | exact HB.out | apply below_alloc | apply pw_below_drewN | apply below_drew1) | exact HB.out))) : w.heap.size ≤ gb457));have n3_ := Aside0.mk ((by rw [hg];exact (below_size (by repeat (first | (with_reducible first | exact HB.out | apply below_alloc | apply pw_below_drewN | apply below_drew1) | exact HB.out))) : w.heap.size ≤ gb457));clear HB;have HB := n0_;have BK457 := n1_;have GW457 := n2_;have GE457 := n3_;clear n0_ n1_ n2_ n3_;clear hb hbox hg;have hcz20_0 : w19.cell? ⟨gb457,0,none⟩ = some (.slice A0_0 l0_0.length c0_0) := (blk_cell BK457.out 0).trans rfl;have hcz20_1 : w19.cell? ⟨gb457,1,none⟩ = some (.int .i64 a0_1) := (blk_cell BK457.out 1).trans rfl;have hfz20_0 := blk_frozen BK457.out 0;have hfz20_1 := blk_frozen BK457.out 1) | ((with_reducible refine gate_callee (f := 68) rfl ?_);refine goesL_ (some 8) rfl rfl Try.func68 (by kernel_rfl) rfl #[.agg #[.slice A0_0 l0_0.length c0_0, .int .i64 a0_1]] rfl (by (try simp only [List.map_toArray,List.map_cons,List.map_nil]);first | done | rfl | (simp only [List.length_drop,List.length_take];rfl)) ?_;(with_reducible refine (impl_areFew.calls k _ _ l0_0 a0_1 false _ ?side1 ?side2 A4.out).mono ?_);(case side1 => repeat (first | exact (Kd.C_below HR0_0.out HB.out) | (with_reducible refine Kd.C_alloc ?_ _) | (with_reducible refine Kd.C_drewN ?_ _) | (with_reducible refine Kd.C_drew ?_)));(case side2 => exact HC0_0.out);rintro e w21 ⟨rfl,hb⟩;refine ⟨_,rfl,?_⟩;have n0_ := Aside0.mk (blk_below (g := gb457) (o := .cells #[.slice A0_0 l0_0.length c0_0, .int .i64 a0_1] 29 (0,0)) (by (with_reducible repeat (first | refine blk_drewN ?_ _ | refine blk_drew ?_ | refine blk_alloc ?_ _));exact BK457.out) hb);have n1_ := Aside0.mk (below_step (by repeat (first | (with_reducible first | exact HB.out | apply below_alloc | apply pw_below_drewN | apply below_drew1 | refine below_set ?_ GE457.out) | exact HB.out)) hb);clear BK457;clear HB;have BK457 := n0_;have HB := n1_;clear n0_ n1_;(try clear hb);(try clear hb2);(try clear hk);(try clear hi)))
  go_ret
  exact ⟨by first | rfl | (simp [errW_none,errW_some] <;> rfl) | (simp [*,errW_none,errW_some] <;> rfl),by repeat (first | (with_reducible first | exact HB.out | apply below_alloc | apply pw_below_drewN | apply below_drew1 | refine below_set ?_ GE457.out) | exact HB.out)⟩

/-! ### impl_bestFor: function 64 -/
/-- The better of two lists of mixes,by the cups behind them. -/
def pickOne (cup sign : Int) (b p : Pl) : Option Pl := if 0 ≤ cup ∧ cup < (p.1.1.length : Int) ∧ cup < (b.1.1.length : Int) then some (if wrap64 (wrap64 (sign * rd b.1.1 cup) * p.1.2) < wrap64 (wrap64 (sign * rd p.1.1 cup) * b.1.2) then p else b) else none
def pickRow (cup sign : Int) : List Pl → Option Pl → Option (Option Pl)
 | [],b => some b
 | p :: ps,none => pickRow cup sign ps (some p)
 | p :: ps,some b => (pickOne cup sign b p).bind fun b' => pickRow cup sign ps (some b')
def pickAll (cup sign : Int) : List (List Pl) → Option Pl → Option (Option Pl)
 | [],b => some b
 | lev :: rest,b => (pickRow cup sign lev b).bind fun b' => pickAll cup sign rest b'
/-- The best so far,where a pointer has it: a block with the cups' row. -/
def bestAt (w : World) (v : Value) : Option Pl → Prop
 | none => v = .pointer none
 | some p => ∃ (g : Nat) (A2 : Option Addr) (c2 : Nat) (A3 : Option Addr) (n3 c3 : Nat),v = .pointer (some ⟨g,0,none⟩) ∧ w.heap[g]? = some (.cells #[.slice A2 p.1.1.length c2, .int .i64 p.1.2, .slice A3 n3 c3] 70 (0,0)) ∧ Kd.R (Kd.int .i64) 3 w 0 (fun _ => True) (.slice A2 p.1.1.length c2) p.1.1
theorem bestAt_below {w w' : World} {v : Value} {b : Option Pl} (h : bestAt w v b) (hb : Below w.heap.size w w') : bestAt w' v b := by
 cases b with
 | none => exact h
 | some p => obtain ⟨g,A2,c2,A3,n3,c3,e,h1,h2⟩ := h;exact ⟨g,A2,c2,A3,n3,c3,e,blk_below h1 hb,Kd.R_below h2 hb⟩
def impl_bestFor.f (k : Nat) (l : List Int) (u cup mixes sign : Int) : Option Pl := (impl_rounds.f k l u mixes).bind fun ls => if ls.length ≤ 100 ∧ ls.all (fun v => decide (v.length ≤ 1000000)) = true then (pickAll cup sign ls none).bind fun o => o else none
set_option maxHeartbeats 4000000 in
set_option maxRecDepth 100000 in
theorem impl_bestFor.calls (k : Nat) (A : Option Addr) (c : Nat) (l : List Int) (u cup mixes sign : Int) (r : Pl) (w : World) (hR : Kd.R (Kd.int .i64) 3 w 0 (fun _ => True) (.slice A l.length c) l) (h : impl_bestFor.f k l u cup mixes sign = some r) :
  Calls Try.prog 64 #[.agg #[.slice A l.length c, .int .i64 u], .int .i64 cup, .int .i64 mixes, .int .i64 sign] w fun e w' => ∃ (A2 : Option Addr) (c2 : Nat) (A3 : Option Addr) (n3 c3 : Nat),e = .returned (.agg #[.slice A2 r.1.1.length c2, .int .i64 r.1.2, .slice A3 n3 c3]) ∧ Kd.R (Kd.int .i64) 3 w' 0 (fun _ => True) (.slice A2 r.1.1.length c2) r.1.1 ∧ Below w.heap.size w w' := by
 obtain ⟨ls,RD,h⟩ := Option.bind_eq_some_iff.mp h
 replace RD := Aside0.mk RD
 have HB := Aside0.mk (Below.refl w.heap.size w)
 have HP := Aside0.mk hR
 have hu29 := Try.underlying29
 have hu70 := Try.underlying70
 clear hR
 by_cases hsm : ls.length ≤ 100 ∧ ls.all (fun v => decide (v.length ≤ 1000000)) = true
 rotate_left
 ·rw [if_neg hsm] at h;cases h
 rw [if_pos hsm] at h
 have HSM := Aside0.mk hsm
 obtain ⟨o,HF,h2⟩ := Option.bind_eq_some_iff.mp h
 subst h2
 clear h
 have H := Aside0.mk HF
 clear HF hsm
 go_enter Try.func64,Try.ntmps64
 go_wp2_with (first | ((with_reducible refine gate_dst (N := 4) rfl ?_);(try (refine gate_guard (by rfl) ?_;dsimp only));refine box_event ?hg (N := 4) ?hd (cs := #[.slice A l.length c, .int .i64 u]) (t := 29) ?hr ?_;(case hd => rfl);(case hg => rfl);(case hr => first | (go_simp;done) | (go_simp;rfl));intro gb hg w5 hbox hb;have n0_ := Aside0.mk (below_step HB.out hb);have BK := Aside0.mk hbox;have n1_ := Aside0.mk (Kd.R_below HP.out hb);clear HB HP hb hbox hg;have HB := n0_;have HP := n1_;clear n0_ n1_;have hz0 : w5.cell? ⟨gb,0,none⟩ = some (.slice A l.length c) := (blk_cell BK.out 0).trans rfl;have hz1 : w5.cell? ⟨gb,1,none⟩ = some (.int .i64 u) := (blk_cell BK.out 1).trans rfl) | ((with_reducible refine gate_dst (N := 8) rfl ?_);(try (refine gate_guard (by rfl) ?_;dsimp only));refine box_event ?hg (N := 8) ?hd (cs := #[.slice none 0 0, .int .i64 0, .slice none 0 0]) (t := 70) ?hr ?_;(case hd => rfl);(case hg => rfl);(case hr => first | (go_simp;done) | (go_simp;rfl));intro gr hg w6 hbox hb;have n0_ := Aside0.mk (below_step HB.out hb);have BR := Aside0.mk hbox;have n1_ := Aside0.mk (Kd.R_below HP.out hb);have n2_ := Aside0.mk (blk_below BK.out hb);have GR := Aside0.mk (show w.heap.size ≤ gr by rw [hg];exact HB.out.size);clear HB HP BK hz0 hz1 hb hbox hg;have HB := n0_;have HP := n1_;have BK := n2_;clear n0_ n1_ n2_;have hz0 : w6.cell? ⟨gb,0,none⟩ = some (.slice A l.length c) := (blk_cell BK.out 0).trans rfl;have hz1 : w6.cell? ⟨gb,1,none⟩ = some (.int .i64 u) := (blk_cell BK.out 1).trans rfl))
 refine (impl_rounds.calls k A c l u mixes ls _ HP.out RD.out).mono ?_
 rintro e w8 ⟨v16,rfl,ho,hb⟩
 have HV := Aside0.mk ho
 have n0_ := Aside0.mk (below_step HB.out hb)
 have n1_ := Aside0.mk (blk_below BR.out hb)
 clear HB BK HP BR ho hb hz0 hz1
 have HB := n0_
 have BR := n1_
 clear n0_ n1_
 obtain ⟨A16,c16,e16⟩ := Kd.R_slice HV.out
 subst e16
 obtain ⟨L,hLL⟩ : ∃ L,ls.length = L := ⟨_,rfl⟩
 have HLN := Aside0.mk hLL
 rw [hLL] at HV ⊢
 clear hLL
 go_wp2
 go_loopg [9,18] L (fun kq v9 v18 w' => ∃ (i : Nat) (b : Option Pl),v18 = .int .i64 (i : Int) ∧ Aside0 (i ≤ L) ∧ Aside0 (L - i ≤ kq) ∧ Aside0 (pickAll cup sign (ls.drop i) b = some (some r)) ∧ Aside0 (bestAt w' v9 b) ∧ Aside0 (Kd.R dV 77 w' 0 (fun _ => True) (.slice A16 L c16) ls) ∧ Aside0 (w'.heap[gr]? = some (.cells #[.slice none 0 0, .int .i64 0, .slice none 0 0] 70 (0,0))) ∧ Aside0 (Below w.heap.size w w'))
 case atStart => exact ⟨0,none,rfl,⟨Nat.zero_le _⟩,⟨by omega⟩,H,⟨rfl⟩,HV,BR,HB⟩
 case round =>
  clear H HV HB BR
  obtain ⟨i,b,rfl,Hi,HK1,H,HBA,HV,BR,HB⟩ := hrel
  by_cases hi : i < L
  ·have hib : decide ((i : Int) < (L : Int)) = true := decide_eq_true (by omega)
   have hib1 : ((i : Int) < (L : Int)) = True := eq_true (by omega)
   have hiL : i < ls.length := by have := HLN.out;omega
   have HIL := Aside0.mk hi
   have hU := H.out
   rw [List.drop_eq_getElem_cons hiL] at hU
   obtain ⟨o,HO,hU2⟩ := Option.bind_eq_some_iff.mp hU
   obtain ⟨g5,rfl⟩ : ∃ g5,A16 = some ⟨g5,0,none⟩ := by
    obtain ⟨g,cap,he,_⟩ := Kd.R_form HV.out (by omega)
    injection he with h1 _ _
    exact ⟨_,h1⟩
   obtain ⟨cc,hcl,hM,hcc,_⟩ := Kd.R_elem HV.out ([] : List Pl) (i : Int) (by omega) (by omega)
   have hl : ls.getD ((i : Int)).toNat [] = ls[i] := by rw [Int.toNat_natCast,List.getD_eq_getElem?_getD,List.getElem?_eq_getElem hiL];rfl
   rw [hl] at hM
   obtain ⟨lev,hlev⟩ : ∃ x,ls[i] = x := ⟨_,rfl⟩
   rw [hlev] at hM HO
   replace H := Aside0.mk hU2
   replace HO := Aside0.mk HO
   obtain ⟨vx,rfl,hRx⟩ := hM
   have hx := hcc 0 vx rfl
   simp only [show dV.sz = 1 from rfl,Nat.mul_one,Nat.add_zero,Int.toNat_natCast] at hx
   obtain ⟨Ax,cx,ex⟩ := Kd.R_slice hRx
   subst ex
   have HX := Aside0.mk (Kd.R_mono hRx (ok' := fun _ => True) (fun _ _ => trivial))
   obtain ⟨LX,hLX⟩ : ∃ LX,lev.length = LX := ⟨_,rfl⟩
   have HLX := Aside0.mk hLX
   have HLM := Aside0.mk (show LX ≤ 1000000 by rw [← hLX, ← hlev];exact of_decide_eq_true (List.all_eq_true.1 HSM.out.2 _ (List.getElem_mem hiL)))
   rw [hLX] at HX hx
   clear hU2 hU hRx hcc hcl hl hlev hi hLX
   clear hiL
   go_wp2
   clear hx
   go_loopg [9,24] LX (fun kq v9 v24 w' => ∃ (j : Nat) (b : Option Pl),v24 = .int .i64 (j : Int) ∧ Aside0 (j ≤ LX) ∧ Aside0 (LX - j ≤ kq) ∧ Aside0 (pickRow cup sign (lev.drop j) b = some o) ∧ Aside0 (bestAt w' v9 b) ∧ Aside0 (Kd.R dV 77 w' 0 (fun _ => True) (.slice (some ⟨g5,0,none⟩) L c16) ls) ∧ Aside0 (Kd.R dP 70 w' 0 (fun _ => True) (.slice Ax LX cx) lev) ∧ Aside0 (w'.heap[gr]? = some (.cells #[.slice none 0 0, .int .i64 0, .slice none 0 0] 70 (0,0))) ∧ Aside0 (Below w.heap.size w w'))
   case atStart => exact ⟨0,b,rfl,⟨Nat.zero_le _⟩,⟨by omega⟩,HO,HBA,HV,HX,BR,HB⟩
   case round =>
    clear HO HV HX HB HBA BR
    obtain ⟨j,b,rfl,Hj,HK2,HO,HBA,HV,HX,BR,HB⟩ := hrel
    by_cases hj : j < LX
    ·have hjb : decide ((j : Int) < (LX : Int)) = true := decide_eq_true (by omega)
     have hjb1 : ((j : Int) < (LX : Int)) = True := eq_true (by omega)
     have hjL : j < lev.length := by have := HLX.out;omega
     have HJL := Aside0.mk hj
     have hU := HO.out
     rw [List.drop_eq_getElem_cons hjL] at hU
     obtain ⟨gx,rfl⟩ : ∃ gx,Ax = some ⟨gx,0,none⟩ := by
      obtain ⟨g,cap,he,_⟩ := Kd.R_form HX.out (by omega)
      injection he with h1 _ _
      exact ⟨_,h1⟩
     obtain ⟨cc,hcl,hM,hcc,_⟩ := Kd.R_elem HX.out (([],0),[]) (j : Int) (by omega) (by omega)
     have hl : lev.getD ((j : Int)).toNat (([],0),[]) = lev[j] := by rw [Int.toNat_natCast,List.getD_eq_getElem?_getD,List.getElem?_eq_getElem hjL];rfl
     rw [hl] at hM
     obtain ⟨p,hp⟩ : ∃ p,lev[j] = p := ⟨_,rfl⟩
     rw [hp] at hM hU
     obtain ⟨⟨pl,pu⟩,pm⟩ := p
     replace HO := Aside0.mk hU
     obtain ⟨_,_,rfl,⟨_,_,rfl,⟨vp,rfl,hRp⟩,rfl⟩,⟨vm,rfl,hRm⟩⟩ := hM
     have hx0 := hcc 0 vp rfl
     have hx1 := hcc 1 (.int .i64 pu) rfl
     have hx2 := hcc 2 vm rfl
     simp only [show dP.sz = 3 from rfl,Nat.add_zero,Int.toNat_natCast] at hx0 hx1 hx2
     obtain ⟨Ap,cp,ep⟩ := Kd.R_slice hRp
     obtain ⟨Am,cm,em⟩ := Kd.R_slice hRm
     subst ep em
     have HRp := Aside0.mk (Kd.R_mono hRp (ok' := fun _ => True) (fun _ _ => trivial))
     clear hU hRp hRm hcc hcl hl hp hj
     clear hjL
     go_wp2_with (first | ((with_reducible refine gate_dst (N := 13) rfl ?_);(try (refine gate_guard (by rfl) ?_;dsimp only));refine box_event ?hg (N := 13) ?hd (cs := #[.slice none 0 0, .int .i64 0, .slice none 0 0]) (t := 70) ?hr ?_;(case hd => rfl);(case hg => rfl);(case hr => first | (go_simp;done) | (go_simp;rfl));intro gp hg w5 hbox hb;have HXX := Aside0.mk hb;have HY := Aside0.mk hbox;have HZ := Aside0.mk hg;clear hb hbox hg hx0 hx1 hx2;have hq0 : w5.cell? ⟨gp,0,none⟩ = some (.slice none 0 0) := (blk_cell HY.out 0).trans rfl;have hq1 : w5.cell? ⟨gp,1,none⟩ = some (.int .i64 0) := (blk_cell HY.out 1).trans rfl;have hq2 : w5.cell? ⟨gp,2,none⟩ = some (.slice none 0 0) := (blk_cell HY.out 2).trans rfl;have hf0 := blk_frozen HY.out 0;have hf1 := blk_frozen HY.out 1;have hf2 := blk_frozen HY.out 2))
     try clear hq0
     try clear hq1
     try clear hq2
     try clear hf0
     try clear hf1
     try clear hf2
     have hb : Below wr.heap.size wr (((w5.setCell ⟨gp,0,none⟩ (.slice Ap pl.length cp)).setCell ⟨gp,1,none⟩ (.int .i64 pu)).setCell ⟨gp,2,none⟩ (.slice Am pm.length cm)) := below_set (below_set (below_set HXX.out (by rw [HZ.out];exact Nat.le_refl _)) (by rw [HZ.out];exact Nat.le_refl _)) (by rw [HZ.out];exact Nat.le_refl _)
     have KP := Aside0.mk (show (((w5.setCell ⟨gp,0,none⟩ (.slice Ap pl.length cp)).setCell ⟨gp,1,none⟩ (.int .i64 pu)).setCell ⟨gp,2,none⟩ (.slice Am pm.length cm)).heap[gp]? = some (.cells #[.slice Ap pl.length cp, .int .i64 pu, .slice Am pm.length cm] 70 (0,0)) from blk_put (blk_put (blk_put HY.out 0 _ rfl) 1 _ rfl) 2 _ rfl)
     generalize (((w5.setCell ⟨gp,0,none⟩ (.slice Ap pl.length cp)).setCell ⟨gp,1,none⟩ (.int .i64 pu)).setCell ⟨gp,2,none⟩ (.slice Am pm.length cm)) = w6 at hb KP ⊢
     have n0_ := Aside0.mk (below_step HB.out hb)
     have n1_ := Aside0.mk (blk_below BR.out hb)
     have n2_ := Aside0.mk (Kd.R_below HV.out hb)
     have n3_ := Aside0.mk (Kd.R_below HX.out hb)
     have n4_ := Aside0.mk (Kd.R_below HRp.out hb)
     have n5_ := Aside0.mk (bestAt_below HBA.out hb)
     clear HB BR HV HX HRp HBA HXX HY HZ hb
     have HB := n0_
     have BR := n1_
     have HV := n2_
     have HX := n3_
     have HRp := n4_
     have HBA := n5_
     clear n0_ n1_ n2_ n3_ n4_ n5_
     have hy0 : w6.cell? ⟨gp,0,none⟩ = some (.slice Ap pl.length cp) := (blk_cell KP.out 0).trans rfl
     have hy1 : w6.cell? ⟨gp,1,none⟩ = some (.int .i64 pu) := (blk_cell KP.out 1).trans rfl
     cases b with
     | none =>
      have HO := Aside0.mk (show pickRow cup sign (lev.drop (j + 1)) (some ((pl,pu),pm)) = some o from HO.out)
      have e9 := HBA.out
      simp only [bestAt] at e9
      subst e9
      go_quiet (fail)
      generalize hq_ : World.drewN w6 _ = w7
      have n0_ := Aside0.mk (show Below w.heap.size w w7 from by rw [← hq_];exact pw_below_drewN HB.out _)
      have n1_ := Aside0.mk (show w7.heap[gr]? = some (.cells #[.slice none 0 0, .int .i64 0, .slice none 0 0] 70 (0,0)) from by rw [← hq_];exact blk_drewN BR.out _)
      have n2_ := Aside0.mk (show Kd.R dV 77 w7 0 (fun _ => True) _ ls from by rw [← hq_];exact Kd.R_drewN HV.out _)
      have n3_ := Aside0.mk (show Kd.R dP 70 w7 0 (fun _ => True) _ lev from by rw [← hq_];exact Kd.R_drewN HX.out _)
      have n4_ := Aside0.mk (show Kd.R (Kd.int .i64) 3 w7 0 (fun _ => True) _ pl from by rw [← hq_];exact Kd.R_drewN HRp.out _)
      have n5_ := Aside0.mk (show w7.heap[gp]? = some (.cells #[.slice Ap pl.length cp, .int .i64 pu, .slice Am pm.length cm] 70 (0,0)) from by rw [← hq_];exact blk_drewN KP.out _)
      clear HB BR HV HX HRp KP hy0 hy1  hq_
      have HB := n0_
      have BR := n1_
      have HV := n2_
      have HX := n3_
      have HRp := n4_
      have KP := n5_
      clear n0_ n1_ n2_ n3_ n4_ n5_
      go_wp2
      go_roundg (LX - (j + 1))
      case measure => have := HK2.out;have := HJL.out;omega
      case rel =>
       have h1 := HJL.out;have h2 := HLM.out
       exact ⟨j + 1,some ((pl,pu),pm),up_one (by omega),⟨by omega⟩,⟨by omega⟩,HO,⟨⟨gp,Ap,cp,_,_,_,rfl,KP.out,HRp.out⟩⟩,HV,HX,BR,HB⟩
     | some q =>
      obtain ⟨⟨ql,qu⟩,qm⟩ := q
      obtain ⟨g2,A2,c2,A3,n3,c3,rfl,hg2,hr2⟩ := HBA.out
      have HG2 := Aside0.mk hg2
      have HR2 := Aside0.mk hr2
      clear hg2 hr2 HBA
      have hU := HO.out
      simp only [pickRow,pickOne] at hU
      by_cases hcp : 0 ≤ cup ∧ cup < (pl.length : Int) ∧ cup < (ql.length : Int)
      rotate_left
      ·exact absurd hU (by rw [if_neg hcp];simp)
      rw [if_pos hcp,Option.bind_some] at hU
      replace HO := Aside0.mk hU
      clear hU
      have q1 : (0 ≤ cup) = True := eq_true hcp.1
      have q2 : (cup < (pl.length : Int)) = True := eq_true hcp.2.1
      have q3 : (cup < (ql.length : Int)) = True := eq_true hcp.2.2
      obtain ⟨adp,eap,hxp⟩ := Kd.at_int (Kd.R_reads' HRp.out).2.2 cup hcp.1 hcp.2.1
      subst eap
      obtain ⟨ad2,ea2,hxq⟩ := Kd.at_int (Kd.R_reads' HR2.out).2.2 cup hcp.1 hcp.2.2
      subst ea2
      have hg0 : w6.cell? ⟨g2,0,none⟩ = some (.slice (some ad2) ql.length c2) := (blk_cell HG2.out 0).trans rfl
      have hg1 : w6.cell? ⟨g2,1,none⟩ = some (.int .i64 qu) := (blk_cell HG2.out 1).trans rfl
      clear hcp
      cases hbt : decide (wrap64 (wrap64 (sign * rd ql cup) * pu) < wrap64 (wrap64 (sign * rd pl cup) * qu)) with
      | true =>
       have HO := Aside0.mk (show pickRow cup sign (lev.drop (j + 1)) (some (((pl,pu),pm))) = some o from by have h_ := HO.out;rw [if_pos (of_decide_eq_true hbt)] at h_;exact h_)
       go_quiet (fail)
       generalize hq_ : World.drewN w6 _ = w7
       have n0_ := Aside0.mk (show Below w.heap.size w w7 from by rw [← hq_];exact pw_below_drewN HB.out _)
       have n1_ := Aside0.mk (show w7.heap[gr]? = some (.cells #[.slice none 0 0, .int .i64 0, .slice none 0 0] 70 (0,0)) from by rw [← hq_];exact blk_drewN BR.out _)
       have n2_ := Aside0.mk (show Kd.R dV 77 w7 0 (fun _ => True) _ ls from by rw [← hq_];exact Kd.R_drewN HV.out _)
       have n3_ := Aside0.mk (show Kd.R dP 70 w7 0 (fun _ => True) _ lev from by rw [← hq_];exact Kd.R_drewN HX.out _)
       have n4_ := Aside0.mk (show Kd.R (Kd.int .i64) 3 w7 0 (fun _ => True) _ pl from by rw [← hq_];exact Kd.R_drewN HRp.out _)
       have n5_ := Aside0.mk (show w7.heap[gp]? = some (.cells #[.slice (some adp) pl.length cp, .int .i64 pu, .slice Am pm.length cm] 70 (0,0)) from by rw [← hq_];exact blk_drewN KP.out _)
       have n6_ := Aside0.mk (show w7.heap[g2]? = some (.cells #[.slice (some ad2) ql.length c2, .int .i64 qu,(.slice A3 n3 c3)] 70 (0,0)) from by rw [← hq_];exact blk_drewN HG2.out _)
       have n7_ := Aside0.mk (show Kd.R (Kd.int .i64) 3 w7 0 (fun _ => True) (.slice (some ad2) ql.length c2) ql from by rw [← hq_];exact Kd.R_drewN HR2.out _)
       clear HB BR HV HX HRp KP hy0 hy1 HG2 HR2 hg0 hg1 hxq hxp hq_
       have HB := n0_
       have BR := n1_
       have HV := n2_
       have HX := n3_
       have HRp := n4_
       have KP := n5_
       clear n0_ n1_ n2_ n3_ n4_ n5_
       go_wp2
       go_roundg (LX - (j + 1))
       case measure => have := HK2.out;have := HJL.out;omega
       case rel =>
        have h1 := HJL.out;have h2 := HLM.out
        exact ⟨j + 1,some ((pl,pu),pm),up_one (by omega),⟨by omega⟩,⟨by omega⟩,HO,⟨⟨gp,some adp,cp,_,_,_,rfl,KP.out,HRp.out⟩⟩,HV,HX,BR,HB⟩
      | false =>
       have HO := Aside0.mk (show pickRow cup sign (lev.drop (j + 1)) (some (((ql,qu),qm))) = some o from by have h_ := HO.out;rw [if_neg (of_decide_eq_false hbt)] at h_;exact h_)
       go_quiet (fail)
       generalize hq_ : World.drewN w6 _ = w7
       have n0_ := Aside0.mk (show Below w.heap.size w w7 from by rw [← hq_];exact pw_below_drewN HB.out _)
       have n1_ := Aside0.mk (show w7.heap[gr]? = some (.cells #[.slice none 0 0, .int .i64 0, .slice none 0 0] 70 (0,0)) from by rw [← hq_];exact blk_drewN BR.out _)
       have n2_ := Aside0.mk (show Kd.R dV 77 w7 0 (fun _ => True) _ ls from by rw [← hq_];exact Kd.R_drewN HV.out _)
       have n3_ := Aside0.mk (show Kd.R dP 70 w7 0 (fun _ => True) _ lev from by rw [← hq_];exact Kd.R_drewN HX.out _)
       have n4_ := Aside0.mk (show Kd.R (Kd.int .i64) 3 w7 0 (fun _ => True) _ pl from by rw [← hq_];exact Kd.R_drewN HRp.out _)
       have n5_ := Aside0.mk (show w7.heap[gp]? = some (.cells #[.slice (some adp) pl.length cp, .int .i64 pu, .slice Am pm.length cm] 70 (0,0)) from by rw [← hq_];exact blk_drewN KP.out _)
       have n6_ := Aside0.mk (show w7.heap[g2]? = some (.cells #[.slice (some ad2) ql.length c2, .int .i64 qu,(.slice A3 n3 c3)] 70 (0,0)) from by rw [← hq_];exact blk_drewN HG2.out _)
       have n7_ := Aside0.mk (show Kd.R (Kd.int .i64) 3 w7 0 (fun _ => True) (.slice (some ad2) ql.length c2) ql from by rw [← hq_];exact Kd.R_drewN HR2.out _)
       clear HB BR HV HX HRp KP hy0 hy1 HG2 HR2 hg0 hg1 hxq hxp hq_
       have HB := n0_
       have BR := n1_
       have HV := n2_
       have HX := n3_
       have HRp := n4_
       have KP := n5_
       clear n0_ n1_ n2_ n3_ n4_ n5_
       go_wp2
       go_roundg (LX - (j + 1))
       case measure => have := HK2.out;have := HJL.out;omega
       case rel =>
        have h1 := HJL.out;have h2 := HLM.out
        exact ⟨j + 1,some ((ql,qu),qm),up_one (by omega),⟨by omega⟩,⟨by omega⟩,HO,⟨⟨g2,some ad2,c2,A3,n3,c3,rfl,n6_.out,n7_.out⟩⟩,HV,HX,BR,HB⟩
    ·have hjb : decide ((j : Int) < (LX : Int)) = false := decide_eq_false (by omega)
     have e2 : b = o := by
      have := HO.out
      rw [List.drop_of_length_le (by have := HLX.out;omega)] at this
      exact Option.some.inj this
     subst e2
     go_wp2
     go_roundg (L - (i + 1))
     case measure => have := HK1.out;have := HIL.out;omega
     case rel =>
      have h1 := HIL.out;have h2 := HSM.out.1;have h3 := HLN.out
      exact ⟨i + 1,b,up_one (by omega),⟨by omega⟩,⟨by omega⟩,H,HBA,HV,BR,HB⟩
  ·have hib : decide ((i : Int) < (L : Int)) = false := decide_eq_false (by omega)
   have e2 : b = some r := by
    have := H.out
    rw [List.drop_of_length_le (by have := HLN.out;omega)] at this
    exact Option.some.inj this
   subst e2
   obtain ⟨⟨rl,ru⟩,rm⟩ := r
   obtain ⟨g2,A2,c2,A3,n3,c3,rfl,hg2,hr2⟩ := HBA.out
   have HG2 := Aside0.mk hg2
   have HR2 := Aside0.mk hr2
   have hg0 : wr.cell? ⟨g2,0,none⟩ = some (.slice A2 rl.length c2) := (blk_cell HG2.out 0).trans rfl
   have hg1 : wr.cell? ⟨g2,1,none⟩ = some (.int .i64 ru) := (blk_cell HG2.out 1).trans rfl
   have hg3 : wr.cell? ⟨g2,2,none⟩ = some (.slice A3 n3 c3) := (blk_cell HG2.out 2).trans rfl
   have hr0 : wr.cell? ⟨gr,0,none⟩ = some (.slice none 0 0) := (blk_cell BR.out 0).trans rfl
   have hr1 : wr.cell? ⟨gr,1,none⟩ = some (.int .i64 0) := (blk_cell BR.out 1).trans rfl
   have hr3 : wr.cell? ⟨gr,2,none⟩ = some (.slice none 0 0) := (blk_cell BR.out 2).trans rfl
   have hf0 := blk_frozen BR.out 0
   have hf1 := blk_frozen BR.out 1
   have hf2 := blk_frozen BR.out 2
   clear hg2 hr2 HBA
   go_wp2
   (try simp only [Exit.inBlock,Exit.then])
   refine bodyPost_ret (results_cell_row rfl _ _ gr 70 #[.slice A2 rl.length c2, .int .i64 ru, .slice A3 n3 c3] (0,0) _ rfl (blk_put (blk_put (blk_put BR.out 0 _ rfl) 1 _ rfl) 2 _ rfl) Try.underlying70 rfl (by kernel_rfl)) rfl ?_
   exact ⟨A2,c2,⟨_,_,_,rfl⟩,Kd.R_mono (Kd.R_far (p := ⟨gr,2,none⟩) (Kd.R_far (p := ⟨gr,1,none⟩) (Kd.R_far (p := ⟨gr,0,none⟩) (Kd.R_types HR2.out BR.out (by decide)) (fun _ hk => hk.2) _) (fun _ hk => hk.2) _) (fun _ hk => hk.2) _) (fun _ _ => trivial),below_set (below_set (below_set HB.out GR.out) GR.out) GR.out⟩
theorem impl_bestFor.mono : ∀ l u cup mixes sign k,LeO (impl_bestFor.f k l u cup mixes sign) (impl_bestFor.f (k + 1) l u cup mixes sign) := fun l u cup mixes sign k => by
 unfold impl_bestFor.f
 exact LeO.bind (impl_rounds.mono _ _ _ _) (fun _ => LeO.refl _)

/-! ### impl_divisor: function 77 -/
def impl_divisor.l0 : Nat → Int → Int → Option (Int)
 | 0,_,_ => none
 | k + 1,x0,x1 => if x1 > 0 then (if x1 = 0 then (none) else (impl_divisor.l0 k x1 (Int.tmod x0 x1))) else (some x0)
def impl_divisor.f (k : Nat) (a0 : Int) (a1 : Int) : Option (Int) := impl_divisor.l0 k a0 a1
theorem impl_divisor.mono_l : ∀ k,(∀ y0 y1,LeO (impl_divisor.l0 k y0 y1) (impl_divisor.l0 (k + 1) y0 y1))
 | 0 => fun _ _ r h => by simp [impl_divisor.l0] at h
 | k + 1 => by
  have ih0 := impl_divisor.mono_l k
  ·intro y0 y1
   unfold impl_divisor.l0
   repeat' first
   | (with_reducible exact ih0 _ _)
   | (with_reducible exact LeO.refl _)
   | (with_reducible exact LeO.none _)
   | (with_reducible refine LeO.ite ?_ ?_)
   | (with_reducible refine LeO.bind ?_ (fun _ => ?_))
   | exact ih0 _ _
   | exact LeO.none _
   | refine LeO.ite ?_ ?_
   | refine LeO.bind ?_ (fun _ => ?_)
theorem impl_divisor.mono : ∀ a0 a1 k,LeO (impl_divisor.f k a0 a1) (impl_divisor.f (k + 1) a0 a1) := by
 intro a0 a1 k
 have ih0 := impl_divisor.mono_l k
 unfold impl_divisor.f
 repeat' first
   | (with_reducible exact ih0 _ _)
   | (with_reducible exact LeO.refl _)
   | (with_reducible exact LeO.none _)
   | (with_reducible refine LeO.ite ?_ ?_)
   | (with_reducible refine LeO.bind ?_ (fun _ => ?_))
   | exact ih0 _ _
   | exact LeO.none _
   | refine LeO.ite ?_ ?_
   | refine LeO.bind ?_ (fun _ => ?_)
set_option maxHeartbeats 8000000 in
set_option maxRecDepth 100000 in
theorem impl_divisor.calls (k : Nat) (a0 : Int) (a1 : Int) (r : Int) (w : World) (h : impl_divisor.f k a0 a1 = some r) :
  Calls Try.prog 77 #[.int .i64 a0, .int .i64 a1] w fun e w' => e = .returned (.int .i64 r) ∧ Drawn0 w w' := by
 have H : (impl_divisor.l0 k a0 a1) = some r := h
 clear h
 have H' := Aside0.mk H
 clear H
 go_enter Try.func77,Try.ntmps77
 go_wp2
 repeat (go_quiet (fail);try go_wp2)
 go_loopg [0,1] k (fun kq v0 v1 w' => ∃ (x0_1 : Int) (x1_1 : Int),v0 = .int .i64 x0_1 ∧ v1 = .int .i64 x1_1 ∧ Aside0 (impl_divisor.l0 kq x0_1 x1_1 = some r) ∧ Aside0 (kq ≤ k) ∧ Drawn0 w w')
 case atStart => exact ⟨(a0),(a1),(by first | rfl | (simp;done) | (simp [*];done)),(by first | rfl | (simp;done) | (simp [*];done)),H',⟨Nat.le_refl _⟩,by repeat (first | exact Drawn0.refl _ | apply Drawn0.step)⟩
 case round =>
  clear H'
  try clear p2
  obtain ⟨x0_1,x1_1,rfl,rfl,HA,HK1,⟨m1,rfl⟩⟩ := hrel
  cases gk with
  | zero => exact absurd HA.out (by simp [impl_divisor.l0])
  | succ k1 =>
   have H := HA.out
   clear HA
   simp only [impl_divisor.l0] at H
   by_cases c3 : x1_1 > 0
   ·rw [if_pos c3] at H
    have c3b0 : decide (0 < x1_1) = true := decide_eq_true c3
    clear c3
    by_cases c4 : x1_1 = 0
    ·rw [if_pos c4] at H
     exact absurd H (by simp)
    ·rw [if_neg c4] at H
     have c4b0 : (x1_1 == 0) = false := beq_eq_false_iff_ne.mpr c4
     have c4b1 : (x1_1 != 0) = true := bne_iff_ne.mpr c4
     have H' := Aside0.mk H
     clear H
     go_wp2
     repeat (go_quiet (fail);try go_wp2)
     go_roundg k1
     case measure => have := HK1.out;omega
     case rel => exact ⟨(x1_1),(Int.tmod x0_1 x1_1),(by first | rfl | (simp;done) | (simp [*];done)),(by first | rfl | (simp;done) | (simp [*];done)),H',⟨by have := HK1.out;omega⟩,by repeat (first | exact Drawn0.refl _ | apply Drawn0.step)⟩
   ·rw [if_neg c3] at H
    have c3b0 : decide (0 < x1_1) = false := decide_eq_false c3
    clear c3
    obtain rfl := Option.some.inj H
    go_wp2
    repeat (go_quiet (fail);try go_wp2)
    go_ret
    exact ⟨by first | rfl | (simp;done) | (simp [*];done),by repeat (first | exact Drawn0.refl _ | apply Drawn0.step)⟩

/-! ### impl_lowest: function 65 -/
def impl_lowest.f (k : Nat) (a0 : Int) (a1 : Int) : Option (Int × Int) := (impl_divisor.f k a0 a1).bind fun t461 => (if t461 = 0 then (none) else (some (wrap64 (Int.tdiv a0 t461),wrap64 (Int.tdiv a1 t461))))
theorem impl_lowest.mono : ∀ a0 a1 k,LeO (impl_lowest.f k a0 a1) (impl_lowest.f (k + 1) a0 a1) := by
 intro a0 a1 k
 unfold impl_lowest.f
 repeat' first
   | (with_reducible exact impl_divisor.mono _ _ _)
   | (with_reducible exact LeO.refl _)
   | (with_reducible exact LeO.none _)
   | (with_reducible refine LeO.ite ?_ ?_)
   | (with_reducible refine LeO.bind ?_ (fun _ => ?_))
   | exact impl_divisor.mono _ _ _
   | exact LeO.none _
   | refine LeO.ite ?_ ?_
   | refine LeO.bind ?_ (fun _ => ?_)
set_option maxHeartbeats 8000000 in
set_option maxRecDepth 100000 in
theorem impl_lowest.calls (k : Nat) (a0 : Int) (a1 : Int) (r1 : Int) (r2 : Int) (w : World) (h : impl_lowest.f k a0 a1 = some (r1,r2)) :
  Calls Try.prog 65 #[.int .i64 a0, .int .i64 a1] w fun e w' => e = .returned (.tuple #[.int .i64 r1, .int .i64 r2]) ∧ Drawn0 w w' := by
 have H : ((impl_divisor.f k a0 a1).bind fun t461 => (if t461 = 0 then (none) else (some (wrap64 (Int.tdiv a0 t461),wrap64 (Int.tdiv a1 t461))))) = some (r1,r2) := h
 clear h
 replace H := Option.bind_eq_some_iff.mp H
 obtain ⟨t461,A30,H⟩ := H
 replace H : (if t461 = 0 then (none) else (some (wrap64 (Int.tdiv a0 t461),wrap64 (Int.tdiv a1 t461)))) = some (r1,r2) := H
 have A3 := Aside0.mk A30
 clear A30
 by_cases c4 : t461 = 0
 ·rw [if_pos c4] at H
  exact absurd H (by simp)
 ·rw [if_neg c4] at H
  have c4b0 : (t461 == 0) = false := beq_eq_false_iff_ne.mpr c4
  have c4b1 : (t461 != 0) = true := bne_iff_ne.mpr c4
  simp only [Option.some.injEq,Prod.mk.injEq] at H
  obtain ⟨rfl,rfl⟩ := H
  go_enter Try.func65,Try.ntmps65
  go_wp2_with (first | (go_at_call 77;(with_reducible refine (impl_divisor.calls k a0 a1 t461 _ A3.out).mono ?_);rintro e w' ⟨rfl,⟨nd,rfl⟩⟩;(try first | exact ⟨rfl,_,World.drewN_drewN _ _ _⟩ | exact ⟨rfl,_,Eq.trans (World.drewN_drewN _ _ _) (congrArg (World.drewN _) (Nat.add_assoc _ _ _))⟩)))
  repeat (go_quiet (first | (go_at_call 77;(with_reducible refine (impl_divisor.calls k a0 a1 t461 _ A3.out).mono ?_);rintro e w' ⟨rfl,⟨nd,rfl⟩⟩;(try first | exact ⟨rfl,_,World.drewN_drewN _ _ _⟩ | exact ⟨rfl,_,Eq.trans (World.drewN_drewN _ _ _) (congrArg (World.drewN _) (Nat.add_assoc _ _ _))⟩)));try go_wp2_with (first | (go_at_call 77;(with_reducible refine (impl_divisor.calls k a0 a1 t461 _ A3.out).mono ?_);rintro e w' ⟨rfl,⟨nd,rfl⟩⟩;(try first | exact ⟨rfl,_,World.drewN_drewN _ _ _⟩ | exact ⟨rfl,_,Eq.trans (World.drewN_drewN _ _ _) (congrArg (World.drewN _) (Nat.add_assoc _ _ _))⟩))))
  go_ret2
  exact ⟨by first | rfl | (simp;done) | (simp [*];done),by repeat (first | exact Drawn0.refl _ | apply Drawn0.step)⟩

end Go.Proofs.Ytmkpngmdikbbeaa.P
