/- Written by a program of this workplace (own_print.py, over the kit's print) for the functions that the statements reach, with contracts of its own. Lean checks it. -/
import Derived.Test.YtpcalkaamfhejaaPx0
import Derived.Test.YtpcalkaamfhejaaPx2
import Derived.Test.YtpcalkaamfhejaaPx3
namespace Go.Proofs.Ytpcalkaamfhejaa.P
open Go.RowKit Go.Proofs.YtpcalkaamfhejaaW.PrintWords Go.Proofs.YtpcalkaamfhejaaW.PrintLast Go.Proofs.YtpcalkaamfhejaaW.PrintMore
attribute [local go_sem] max2_int min2_int max_two min_two max_three min_three max_four min_four   -- for this text's walks alone
set_option linter.unusedVariables false
set_option linter.unusedSimpArgs false

/-! ### impl_rest: function 67 -/
mutual
def impl_rest.l0 : Nat → List Int → List Int → Int → Option (Int × List Int × List Int)
 | 0,_,_,_ => none
 | k + 1,x5,x6,x7 => (impl_isResting.f k x6).bind fun t458 => (if t458 = true then (some (x7,x6,x5)) else (impl_rest.l1 k x5 x6 x7 x6 (x6.length : Int) 0))
def impl_rest.l1 : Nat → List Int → List Int → Int → List Int → Int → Int → Option (Int × List Int × List Int)
 | 0,_,_,_,_,_,_ => none
 | k + 1,x5,x6,x7,x21,x22,x23 => if x23 < x22 then (if 0 ≤ x23 then (if x23 < (x21.length : Int) then (if x23 < (x5.length : Int) then (impl_rest.l1 k (x5.set (x23 : Int).toNat (wrap64 ((rd x5 x23) + (Int.tmod (rd x21 x23) 2)))) x6 x7 x21 x22 (wrap64 (x23 + 1))) else (none)) else (none)) else (none)) else ((impl_candyStep.f k x6).bind fun t462 => (impl_rest.l0 k x5 t462 (wrap64 (x7 + 1))))
end
def impl_rest.f (k : Nat) (l0 : List Int) : Option (Int × List Int × List Int) := if 0 ≤ (l0.length : Int) then (if ((l0.length : Int) : Int).toNat ≤ 35184372088832 then (impl_rest.l0 k (List.replicate ((l0.length : Int) : Int).toNat 0) l0 0) else (none)) else (none)
theorem impl_rest.mono_l : ∀ k,(∀ y0 y1 y2,LeO (impl_rest.l0 k y0 y1 y2) (impl_rest.l0 (k + 1) y0 y1 y2)) ∧ (∀ y0 y1 y2 y3 y4 y5,LeO (impl_rest.l1 k y0 y1 y2 y3 y4 y5) (impl_rest.l1 (k + 1) y0 y1 y2 y3 y4 y5))
 | 0 => ⟨fun _ _ _ r h => by simp [impl_rest.l0] at h,fun _ _ _ _ _ _ r h => by simp [impl_rest.l1] at h⟩
 | k + 1 => by
  obtain ⟨ih0,ih1⟩ := impl_rest.mono_l k
  refine ⟨?_,?_⟩
  ·intro y0 y1 y2
   unfold impl_rest.l0
   repeat' first
   | (with_reducible exact ih0 _ _ _)
   | (with_reducible exact ih1 _ _ _ _ _ _)
   | (with_reducible exact impl_candyStep.mono _ _)
   | (with_reducible exact impl_isResting.mono _ _)
   | (with_reducible exact LeO.refl _)
   | (with_reducible exact LeO.none _)
   | (with_reducible refine LeO.ite ?_ ?_)
   | (with_reducible refine LeO.bind ?_ (fun _ => ?_))
   | exact ih0 _ _ _
   | exact ih1 _ _ _ _ _ _
   | exact impl_candyStep.mono _ _
   | exact impl_isResting.mono _ _
   | exact LeO.none _
   | refine LeO.ite ?_ ?_
   | refine LeO.bind ?_ (fun _ => ?_)
  ·intro y0 y1 y2 y3 y4 y5
   unfold impl_rest.l1
   repeat' first
   | (with_reducible exact ih0 _ _ _)
   | (with_reducible exact ih1 _ _ _ _ _ _)
   | (with_reducible exact impl_candyStep.mono _ _)
   | (with_reducible exact impl_isResting.mono _ _)
   | (with_reducible exact LeO.refl _)
   | (with_reducible exact LeO.none _)
   | (with_reducible refine LeO.ite ?_ ?_)
   | (with_reducible refine LeO.bind ?_ (fun _ => ?_))
   | exact ih0 _ _ _
   | exact ih1 _ _ _ _ _ _
   | exact impl_candyStep.mono _ _
   | exact impl_isResting.mono _ _
   | exact LeO.none _
   | refine LeO.ite ?_ ?_
   | refine LeO.bind ?_ (fun _ => ?_)
theorem impl_rest.mono : ∀ a0 k,LeO (impl_rest.f k a0) (impl_rest.f (k + 1) a0) := by
 intro a0 k
 obtain ⟨ih0,ih1⟩ := impl_rest.mono_l k
 unfold impl_rest.f
 repeat' first
   | (with_reducible exact ih0 _ _ _)
   | (with_reducible exact ih1 _ _ _ _ _ _)
   | (with_reducible exact impl_candyStep.mono _ _)
   | (with_reducible exact impl_isResting.mono _ _)
   | (with_reducible exact LeO.refl _)
   | (with_reducible exact LeO.none _)
   | (with_reducible refine LeO.ite ?_ ?_)
   | (with_reducible refine LeO.bind ?_ (fun _ => ?_))
   | exact ih0 _ _ _
   | exact ih1 _ _ _ _ _ _
   | exact impl_candyStep.mono _ _
   | exact impl_isResting.mono _ _
   | exact LeO.none _
   | refine LeO.ite ?_ ?_
   | refine LeO.bind ?_ (fun _ => ?_)
set_option maxHeartbeats 8000000 in
set_option maxRecDepth 100000 in
theorem impl_rest.calls (k : Nat) (P0_ : Nat → Prop) (A0 : Option Addr) (c0 : Nat) (l0 : List Int) (r1 : Int) (r2 : List Int) (r3 : List Int) (w : World) (hs0 : Kd.V (Kd.int .i64) 3 w w.heap.size (fun k_ => P0_ k_) (.slice A0 l0.length c0) l0) (h : impl_rest.f k l0 = some (r1,r2,r3)) :
  Calls Try.prog 67 #[.slice A0 l0.length c0] w fun e w' => ∃ v1_ v2_ : Value,e = .returned (.tuple #[.int .i64 r1,v1_,v2_]) ∧ Kd.V (Kd.int .i64) 3 w' w.heap.size (fun k_ => (P0_ k_ ∨ w.heap.size ≤ k_) ∧ some k_ ≠ (v2_ : Value).ownBlock) v1_ r2 ∧ Kd.R (Kd.int .i64) 3 w' w.heap.size (fun k_ => (w.heap.size ≤ k_)) v2_ r3 ∧ Below w.heap.size w w' := by
 have HO0 := Aside0.mk (show Kd.V (Kd.int .i64) 3 w w.heap.size (fun k_ => (P0_ k_ ∨ w.heap.size ≤ k_)) (.slice A0 l0.length c0) l0 from Kd.V_mono hs0 (fun k_ hk => .inl hk))
 have HB := Aside0.mk (Below.refl w.heap.size w)
 have H : (if 0 ≤ (l0.length : Int) then (if ((l0.length : Int) : Int).toNat ≤ 35184372088832 then (impl_rest.l0 k (List.replicate ((l0.length : Int) : Int).toNat 0) l0 0) else (none)) else (none)) = some (r1,r2,r3) := h
 clear h
 by_cases c2 : 0 ≤ (l0.length : Int)
 ·rw [if_pos c2] at H
  have c2b0 := eq_true c2
  have c2b1 : decide (0 ≤ (l0.length : Int)) = true := decide_eq_true c2
  clear c2
  by_cases c3 : ((l0.length : Int) : Int).toNat ≤ 35184372088832
  ·rw [if_pos c3] at H
   have c3b0 := eq_true c3
   have c3b1 : decide (((l0.length : Int) : Int).toNat ≤ 35184372088832) = true := decide_eq_true c3
   clear c3
   obtain ⟨y455,hy455⟩ : ∃ y_ : List Int,y_ = (List.replicate ((l0.length : Int) : Int).toNat 0) := ⟨_,rfl⟩
   replace H : (impl_rest.l0 k y455 l0 0) = some (r1,r2,r3) := by first | (rw [hy455];with_reducible exact H) | (have H2_ := (Option.bind_some _ _).symm.trans H;rw [hy455];with_reducible exact H2_) | (have H2_ := (Option.bind_some _ _).symm.trans H;with_reducible exact H2_) | with_reducible exact H | (rw [hy455];exact H) | exact H
   have Ny455 := Aside0.mk hy455
   clear hy455
   have H' := Aside0.mk H
   clear H
   go_enter Try.func67,Try.ntmps67
   go_wp2_with (first | ((with_reducible refine gate_dst (N := 12) rfl ?_);refine Kd.R_make (Kd.int .i64) _ 3 rfl (N := 12) rfl 25 _ _ rfl (l0.length : Int) rfl rfl Try.underlying25 (.int .i64 0) 8 info3 rfl (by decide) (by omega) 0 (ok := fun _ => True) (okp := fun _ => True) rfl (fun _ hk => hk) trivial (of_decide_eq_true (by first | (with_reducible assumption) | assumption)) (Nat.le_trans (Nat.mul_le_mul_right _ (of_decide_eq_true (by first | (with_reducible assumption) | assumption) : (l0.length : Int).toNat ≤ 35184372088832)) (by omega)) (Below.refl _ _) (Nat.le_refl _) ?_;intro v456 w4 ho5 hb hg_ hnew_;clear hg_ hnew_;(first | rw [← Ny455.out] at ho5 | (simp only [Int.reduceToNat] at ho5;rw [← Ny455.out] at ho5));have n0_ := Aside0.mk (Kd.V_elder' (by (with_reducible repeat (first | apply Kd.V_alloc | apply Kd.V_drewN | apply Kd.V_drew));exact HO0.out) (Kd.R_base ho5) hb);have n1_ := Aside0.mk (Kd.R_lower (Kd.R_newM (M := fun k_ => (w.heap.size ≤ k_)) ho5 (below_size (by repeat (first | (with_reducible first | exact HB.out | apply below_alloc | apply pw_below_drewN | apply below_drew1) | exact HB.out))) (fun k_ h_ => h_)) (below_size (by repeat (first | (with_reducible first | exact HB.out | apply below_alloc | apply pw_below_drewN | apply below_drew1) | exact HB.out))));have n2_ := Aside0.mk (below_step (by repeat (first | (with_reducible first | exact HB.out | apply below_alloc | apply pw_below_drewN | apply below_drew1) | exact HB.out)) hb);clear HO0;clear HB;have HO0 := n0_;have HO457 := n1_;have HB := n2_;clear n0_ n1_ n2_;clear hb ho5))
   go_loopg [6,7] k (fun kq v6 v7 w' => ∃ (x5_1 : List Int) (x6_1 : List Int) (x7_1 : Int),v7 = .int .i64 x7_1 ∧ Aside0 (impl_rest.l0 kq x5_1 x6_1 x7_1 = some (r1,r2,r3)) ∧ Aside0 (kq ≤ k) ∧ Aside0 (Kd.R (Kd.int .i64) 3 w' w.heap.size (fun k_ => (w.heap.size ≤ k_)) v456 x5_1) ∧ Aside0 (Kd.V (Kd.int .i64) 3 w' w.heap.size (fun k_ => (P0_ k_ ∨ w.heap.size ≤ k_) ∧ some k_ ≠ (v456 : Value).ownBlock) v6 x6_1) ∧ Aside0 (Below w.heap.size w w'))
   case atStart => exact ⟨(y455),(l0),(0),(by first | rfl | (simp;done) | (simp [*];done)),H',⟨Nat.le_refl _⟩,⟨by (with_reducible repeat (first | apply Kd.R_alloc | apply Kd.R_drewN | apply Kd.R_drew));exact Kd.R_mono HO457.out (fun _ hk => hk.1)⟩,⟨by (with_reducible repeat (first | apply Kd.V_alloc | apply Kd.V_drewN | apply Kd.V_drew));exact HO0.out⟩,⟨by repeat (first | (with_reducible first | exact HB.out | apply below_alloc | apply pw_below_drewN | apply below_drew1) | exact HB.out)⟩⟩
   case round =>
    clear H'
    try clear c2
    try clear c2b0
    try clear c2b1
    try clear p2
    try clear c3
    try clear c3b0
    try clear c3b1
    obtain ⟨x5_1,x6_1,x7_1,rfl,HA,HK1,HO_5,HO_6,HB⟩ := hrel
    cases gk with
    | zero => exact absurd HA.out (by simp [impl_rest.l0])
    | succ k1 =>
     have H := HA.out
     clear HA
     simp only [impl_rest.l0] at H
     replace H := Option.bind_eq_some_iff.mp H
     obtain ⟨t458,A60,H⟩ := H
     replace H : (if t458 = true then (some (x7_1,x6_1,x5_1)) else (impl_rest.l1 k1 x5_1 x6_1 x7_1 x6_1 (x6_1.length : Int) 0)) = some (r1,r2,r3) := H
     have A6 := Aside0.mk A60
     clear A60
     by_cases c7 : t458 = true
     ·subst c7
      have H1 : (some (x7_1,x6_1,x5_1)) = some (r1,r2,r3) := by rw [if_pos rfl] at H;exact H
      clear H
      have H := H1
      clear H1
      simp only [Option.some.injEq,Prod.mk.injEq] at H
      obtain ⟨rfl,rfl,rfl⟩ := H
      obtain ⟨Ao8,co8,eo8⟩ := Kd.V_slice HO_6.out
      subst eo8
      go_wp2_with (first | ((with_reducible refine gate_callee (f := 72) rfl ?_);refine goesL_ (some 17) rfl rfl Try.func72 (by kernel_rfl) rfl #[.slice Ao8 x6_1.length co8] rfl (by (try simp only [List.map_toArray,List.map_cons,List.map_nil]);first | done | rfl | (simp only [List.length_drop,List.length_take];rfl)) ?_;(with_reducible refine (impl_isResting.calls k1 _ _ x6_1 true _ ?side1 ?side2 A6.out).mono ?_);(case side1 => repeat (first | exact (Kd.V_reads' HO_6.out).2.2 | (with_reducible refine Kd.C_alloc ?_ _) | (with_reducible refine Kd.C_drewN ?_ _) | (with_reducible refine Kd.C_drew ?_)));(case side2 => exact (Kd.V_reads' HO_6.out).2.1);rintro e w9 ⟨rfl,hb⟩;refine ⟨_,rfl,?_⟩;have n0_ := Aside0.mk (Kd.R_below (by (with_reducible repeat (first | apply Kd.R_alloc | apply Kd.R_drewN | apply Kd.R_drew));exact HO_5.out) hb);have n1_ := Aside0.mk (Kd.V_below (by (with_reducible repeat (first | apply Kd.V_alloc | apply Kd.V_drewN | apply Kd.V_drew));exact HO_6.out) hb);have n2_ := Aside0.mk (below_step (by repeat (first | (with_reducible first | exact HB.out | apply below_alloc | apply pw_below_drewN | apply below_drew1) | exact HB.out)) hb);clear HO_5;clear HO_6;clear HB;have HO_5 := n0_;have HO_6 := n1_;have HB := n2_;clear n0_ n1_ n2_;(try clear hb);(try clear hb2);(try clear hk);(try clear hi)))
      go_ret3
      exact ⟨_,_,by first | rfl | (simp [errW_none,errW_some] <;> rfl) | (simp [*,errW_none,errW_some] <;> rfl),by (with_reducible repeat (first | apply Kd.V_alloc | apply Kd.V_drewN | apply Kd.V_drew));exact HO_6.out,by (with_reducible repeat (first | apply Kd.R_alloc | apply Kd.R_drewN | apply Kd.R_drew));exact HO_5.out,by repeat (first | (with_reducible first | exact HB.out | apply below_alloc | apply pw_below_drewN | apply below_drew1) | exact HB.out)⟩
     ·replace c7 := Bool.eq_false_iff.mpr c7
      subst c7
      have H1 : (impl_rest.l1 k1 x5_1 x6_1 x7_1 x6_1 (x6_1.length : Int) 0) = some (r1,r2,r3) := by rw [if_neg (show ¬ (false = true) by decide)] at H;exact H
      clear H
      have H := H1
      clear H1
      have H' := Aside0.mk H
      clear H
      obtain ⟨Ao10,co10,eo10⟩ := Kd.V_slice HO_6.out
      subst eo10
      go_wp2_with (first | ((with_reducible refine gate_callee (f := 72) rfl ?_);refine goesL_ (some 17) rfl rfl Try.func72 (by kernel_rfl) rfl #[.slice Ao10 x6_1.length co10] rfl (by (try simp only [List.map_toArray,List.map_cons,List.map_nil]);first | done | rfl | (simp only [List.length_drop,List.length_take];rfl)) ?_;(with_reducible refine (impl_isResting.calls k1 _ _ x6_1 false _ ?side1 ?side2 A6.out).mono ?_);(case side1 => repeat (first | exact (Kd.V_reads' HO_6.out).2.2 | (with_reducible refine Kd.C_alloc ?_ _) | (with_reducible refine Kd.C_drewN ?_ _) | (with_reducible refine Kd.C_drew ?_)));(case side2 => exact (Kd.V_reads' HO_6.out).2.1);rintro e w11 ⟨rfl,hb⟩;refine ⟨_,rfl,?_⟩;have n0_ := Aside0.mk (Kd.R_below (by (with_reducible repeat (first | apply Kd.R_alloc | apply Kd.R_drewN | apply Kd.R_drew));exact HO_5.out) hb);have n1_ := Aside0.mk (Kd.V_below (by (with_reducible repeat (first | apply Kd.V_alloc | apply Kd.V_drewN | apply Kd.V_drew));exact HO_6.out) hb);have n2_ := Aside0.mk (below_step (by repeat (first | (with_reducible first | exact HB.out | apply below_alloc | apply pw_below_drewN | apply below_drew1) | exact HB.out)) hb);clear HO_5;clear HO_6;clear HB;have HO_5 := n0_;have HO_6 := n1_;have HB := n2_;clear n0_ n1_ n2_;(try clear hb);(try clear hb2);(try clear hk);(try clear hi)))
      go_loopg [23] k1 (fun kq v23 w' => ∃ (x5_2 : List Int) (x23_2 : Int),v23 = .int .i64 x23_2 ∧ Aside0 (impl_rest.l1 kq x5_2 x6_1 x7_1 x6_1 (x6_1.length : Int) x23_2 = some (r1,r2,r3)) ∧ Aside0 (kq ≤ k1) ∧ Aside0 (Kd.R (Kd.int .i64) 3 w' w.heap.size (fun k_ => (w.heap.size ≤ k_)) v456 x5_2) ∧ Aside0 (Kd.V (Kd.int .i64) 3 w' w.heap.size (fun k_ => (P0_ k_ ∨ w.heap.size ≤ k_) ∧ some k_ ≠ (v456 : Value).ownBlock) (.slice Ao10 x6_1.length co10) x6_1) ∧ Aside0 (Kd.V (Kd.int .i64) 3 w' w.heap.size (fun k_ => (P0_ k_ ∨ w.heap.size ≤ k_) ∧ some k_ ≠ (v456 : Value).ownBlock) (.slice Ao10 x6_1.length co10) x6_1) ∧ Aside0 (Below w.heap.size w w'))
      case atStart => exact ⟨(x5_1),(0),(by first | rfl | (simp;done) | (simp [*];done)),H',⟨Nat.le_refl _⟩,⟨by (with_reducible repeat (first | apply Kd.R_alloc | apply Kd.R_drewN | apply Kd.R_drew));exact HO_5.out⟩,⟨by (with_reducible repeat (first | apply Kd.V_alloc | apply Kd.V_drewN | apply Kd.V_drew));exact HO_6.out⟩,⟨by (with_reducible repeat (first | apply Kd.V_alloc | apply Kd.V_drewN | apply Kd.V_drew));exact HO_6.out⟩,⟨by repeat (first | (with_reducible first | exact HB.out | apply below_alloc | apply pw_below_drewN | apply below_drew1) | exact HB.out)⟩⟩
      case round =>
       clear H'
       try clear c2
       try clear c2b0
       try clear c2b1
       try clear p2
       try clear c3
       try clear c3b0
       try clear c3b1
       try clear c6
       try clear c7
       try clear p2
       obtain ⟨x5_2,x23_2,rfl,HA,HK2,HO_5,HO_6,HO_21,HB⟩ := hrel
       cases gk with
       | zero => exact absurd HA.out (by simp [impl_rest.l1])
       | succ k2 =>
        have H := HA.out
        clear HA
        simp only [impl_rest.l1] at H
        by_cases c12 : x23_2 < (x6_1.length : Int)
        ·rw [if_pos c12] at H
         have c12b0 : decide (x23_2 < (x6_1.length : Int)) = true := decide_eq_true c12
         clear c12
         by_cases c13 : 0 ≤ x23_2
         ·rw [if_pos c13] at H
          have c13b0 : decide (0 ≤ x23_2) = true := decide_eq_true c13
          clear c13
          by_cases c14 : x23_2 < (x6_1.length : Int)
          ·rw [if_pos c14] at H
           have c14b0 : decide (x23_2 < (x6_1.length : Int)) = true := decide_eq_true c14
           clear c14
           by_cases c15 : x23_2 < (x5_2.length : Int)
           ·rw [if_pos c15] at H
            have c15b0 : decide (x23_2 < (x5_2.length : Int)) = true := decide_eq_true c15
            clear c15
            obtain ⟨y461,hy461⟩ : ∃ y_ : List Int,y_ = (x5_2.set (x23_2 : Int).toNat (wrap64 ((rd x5_2 x23_2) + (Int.tmod (rd x6_1 x23_2) 2)))) := ⟨_,rfl⟩
            replace H : (impl_rest.l1 k2 y461 x6_1 x7_1 x6_1 (x6_1.length : Int) (wrap64 (x23_2 + 1))) = some (r1,r2,r3) := by first | (rw [hy461];with_reducible exact H) | (have H2_ := (Option.bind_some _ _).symm.trans H;rw [hy461];with_reducible exact H2_) | (have H2_ := (Option.bind_some _ _).symm.trans H;with_reducible exact H2_) | with_reducible exact H | (rw [hy461];exact H) | exact H
            have Ny461 := Aside0.mk hy461
            clear hy461
            have H' := Aside0.mk H
            clear H
            have p459 : 0 ≤ (x23_2 : Int) := of_decide_eq_true (by first | (with_reducible assumption) | assumption)
            have q459 : x23_2 < (x6_1.length : Int) := of_decide_eq_true (by first | (with_reducible assumption) | assumption)
            obtain ⟨ad459,e459,hx459_0⟩ := Kd.at_int (Kd.V_reads' HO_21.out).2.2 x23_2 p459 q459
            cases e459
            replace p459 := eq_true p459
            replace q459 := eq_true q459
            obtain ⟨Ao17,co17,eo17⟩ := Kd.R_slice HO_5.out
            subst eo17
            have p460 : 0 ≤ (x23_2 : Int) := of_decide_eq_true (by first | (with_reducible assumption) | assumption)
            have q460 : x23_2 < (x5_2.length : Int) := of_decide_eq_true (by first | (with_reducible assumption) | assumption)
            obtain ⟨ad460,e460,hx460_0⟩ := Kd.at_int (Kd.R_reads' HO_5.out).2.2 x23_2 p460 q460
            cases e460
            replace p460 := eq_true p460
            replace q460 := eq_true q460
            have p16 : 0 ≤ (x23_2 : Int) := of_decide_eq_true (by first | (with_reducible assumption) | assumption)
            have q16 : (x23_2 : Int) < ((x5_2.length : Int) : Int) := of_decide_eq_true (by first | (with_reducible assumption) | assumption)
            obtain ⟨go16,co16,eo16,gb16,gl16,cl16,HG16⟩ := Kd.R_form HO_5.out (by omega)
            (first | cases eo16 | (injection eo16 with ea_ en_ ec_;(first | subst ea_ | (injection ea_ with ea_;subst ea_));subst ec_;clear en_))
            have GB16 := Aside0.mk gb16
            have GG16 := Aside0.mk HG16
            clear gb16 gl16 HG16
            (first | simp only [add_plain] at hx460_0 | skip)
            obtain ⟨hx16_0,hf16_0⟩ := Kd.R_celln 0 HO_5.out (x23_2 : Int) p16 q16
            replace p16 := eq_true p16
            replace q16 := eq_true q16
            have HP18 := Kd.R_putg HO_5.out (x23_2 : Int) (wrap64 ((rd x5_2 x23_2) + (Int.tmod (rd x6_1 x23_2) 2)))
            go_wp2_with (first | ((with_reducible refine gate_store (t := 3) (p := 35) rfl ?_);refine store_event (t := 3) (p := 35) (v := ?vo_w19) (w1 := (wr.setCell ⟨go16,(x23_2 : Int).toNat,none⟩ (.int .i64 (wrap64 ((rd x5_2 x23_2) + (Int.tmod (rd x6_1 x23_2) 2)))))) ?hg ?ho ?hn ?hr ?_;(case ho => rfl);(case hg => rfl);(case hn => rfl);(case hr => first | (go_simp;done) | (go_simp;rfl));intro w19 hw;have hg : wr.grownBy w19 (some go16) := (by rw [hw];exact HP18.2);have hp_ : Kd.R (Kd.int .i64) 3 w19 w.heap.size (fun k_ => (w.heap.size ≤ k_)) (.slice (some ⟨go16,0,none⟩) x5_2.length co17) y461 := (by rw [hw,Ny461.out];exact HP18.1);clear HP18;have n0_ := Aside0.mk (hp_);have n1_ := Aside0.mk (Kd.V_afterv (v := (.slice (some ⟨go16,0,none⟩) x5_2.length co17)) (v1 := (.slice (some ⟨go16,0,none⟩) x5_2.length co17)) (ok := (fun k_ => (P0_ k_ ∨ w.heap.size ≤ k_))) (by (with_reducible repeat (first | apply Kd.V_alloc | apply Kd.V_drewN | apply Kd.V_drew));exact HO_6.out) hg (.inl rfl));have n2_ := Aside0.mk (Kd.V_afterv (v := (.slice (some ⟨go16,0,none⟩) x5_2.length co17)) (v1 := (.slice (some ⟨go16,0,none⟩) x5_2.length co17)) (ok := (fun k_ => (P0_ k_ ∨ w.heap.size ≤ k_))) (by (with_reducible repeat (first | apply Kd.V_alloc | apply Kd.V_drewN | apply Kd.V_drew));exact HO_21.out) hg (.inl rfl));have n3_ := Aside0.mk ((by rw [hw];exact below_set (HB.out) GB16.out : Below w.heap.size w w19));clear HO_5;clear HO_6;clear HO_21;clear HB;have HO_5 := n0_;have HO_6 := n1_;have HO_21 := n2_;have HB := n3_;clear n0_ n1_ n2_ n3_;clear hg hw hp_))
            go_roundg k2
            case measure => have := HK1.out;have := HK2.out;omega
            case rel => exact ⟨(y461),(wrap64 (x23_2 + 1)),(by first | rfl | (simp;done) | (simp [*];done)),H',⟨by have := HK1.out;have := HK2.out;omega⟩,⟨by (with_reducible repeat (first | apply Kd.R_alloc | apply Kd.R_drewN | apply Kd.R_drew));exact HO_5.out⟩,⟨by (with_reducible repeat (first | apply Kd.V_alloc | apply Kd.V_drewN | apply Kd.V_drew));exact HO_6.out⟩,⟨by (with_reducible repeat (first | apply Kd.V_alloc | apply Kd.V_drewN | apply Kd.V_drew));exact HO_21.out⟩,⟨by repeat (first | (with_reducible first | exact HB.out | apply below_alloc | apply pw_below_drewN | apply below_drew1) | exact HB.out)⟩⟩
           ·rw [if_neg c15] at H
            exact absurd H (by simp)
          ·rw [if_neg c14] at H
           exact absurd H (by simp)
         ·rw [if_neg c13] at H
          exact absurd H (by simp)
        ·rw [if_neg c12] at H
         have c12b0 : decide (x23_2 < (x6_1.length : Int)) = false := decide_eq_false c12
         clear c12
         replace H := Option.bind_eq_some_iff.mp H
         obtain ⟨t462,A200,H⟩ := H
         replace H : (impl_rest.l0 k2 x5_2 t462 (wrap64 (x7_1 + 1))) = some (r1,r2,r3) := H
         have A20 := Aside0.mk A200
         clear A200
         have H' := Aside0.mk H
         clear H
         go_wp2_with (first | ((with_reducible refine gate_callee (f := 73) rfl ?_);refine goesL_ (some 38) rfl rfl Try.func73 (by kernel_rfl) rfl #[.slice Ao10 x6_1.length co10] rfl (by (try simp only [List.map_toArray,List.map_cons,List.map_nil]);first | done | rfl | (simp only [List.length_drop,List.length_take];rfl)) ?_;(with_reducible refine (impl_candyStep.calls k2 _ _ x6_1 t462 _ ?side1 ?side2 A20.out).mono ?_);(case side1 => repeat (first | exact (Kd.V_reads' HO_6.out).2.2 | (with_reducible refine Kd.C_alloc ?_ _) | (with_reducible refine Kd.C_drewN ?_ _) | (with_reducible refine Kd.C_drew ?_)));(case side2 => exact (Kd.V_reads' HO_6.out).2.1);rintro e w21 ⟨v463,rfl,ho0,hb⟩;refine ⟨_,rfl,?_⟩;have n0_ := Aside0.mk (Kd.R_elder' (by (with_reducible repeat (first | apply Kd.R_alloc | apply Kd.R_drewN | apply Kd.R_drew));exact HO_5.out) (Kd.R_base ho0) hb);have n1_ := Aside0.mk (Kd.V_elder' (by (with_reducible repeat (first | apply Kd.V_alloc | apply Kd.V_drewN | apply Kd.V_drew));exact HO_6.out) (Kd.R_base ho0) hb);have n2_ := Aside0.mk (Kd.V_elder' (by (with_reducible repeat (first | apply Kd.V_alloc | apply Kd.V_drewN | apply Kd.V_drew));exact HO_21.out) (Kd.R_base ho0) hb);have n3_ := Aside0.mk (Kd.R_lower (Kd.R_new' (Kd.R_newM (M := fun k_ => (w.heap.size ≤ k_)) ho0 (below_size (by repeat (first | (with_reducible first | exact HB.out | apply below_alloc | apply pw_below_drewN | apply below_drew1) | exact HB.out))) (fun k_ h_ => h_)) (Kd.R_lt (by (with_reducible repeat (first | apply Kd.R_alloc | apply Kd.R_drewN | apply Kd.R_drew));exact HO_5.out))) (below_size (by repeat (first | (with_reducible first | exact HB.out | apply below_alloc | apply pw_below_drewN | apply below_drew1) | exact HB.out))));have n4_ := Aside0.mk (below_step (by repeat (first | (with_reducible first | exact HB.out | apply below_alloc | apply pw_below_drewN | apply below_drew1) | exact HB.out)) hb);clear HO_5;clear HO_6;clear HO_21;clear HB;have HO_5 := n0_;have HO_6 := n1_;have HO_21 := n2_;have HO464 := n3_;have HB := n4_;clear n0_ n1_ n2_ n3_ n4_;(try clear hb);(try clear hb2);(try clear hk);(try clear hi);(try clear ho0)))
         go_roundg k2
         case measure => have := HK1.out;have := HK2.out;omega
         case rel => exact ⟨(x5_2),(t462),(wrap64 (x7_1 + 1)),(by first | rfl | (simp;done) | (simp [*];done)),H',⟨by have := HK1.out;have := HK2.out;omega⟩,⟨by (with_reducible repeat (first | apply Kd.R_alloc | apply Kd.R_drewN | apply Kd.R_drew));exact Kd.R_mono HO_5.out (fun _ hk => hk.1)⟩,⟨Kd.V_mono (Kd.R_V (by (with_reducible repeat (first | apply Kd.R_alloc | apply Kd.R_drewN | apply Kd.R_drew));exact HO464.out)) (fun k_ hk => by exact ⟨.inr hk.1.1,hk.2⟩)⟩,⟨by repeat (first | (with_reducible first | exact HB.out | apply below_alloc | apply pw_below_drewN | apply below_drew1) | exact HB.out)⟩⟩
  ·rw [if_neg c3] at H
   exact absurd H (by simp)
 ·rw [if_neg c2] at H
  exact absurd H (by simp)

/-! ### impl_StepsToRest: function 37 -/
def impl_StepsToRest.f (k : Nat) (l0 : List Int) : Option (Int × Bool) := (impl_AreCandies.f l0).bind fun t465 => (if t465 = true then ((impl_rest.f k l0).bind fun bt466 => (some (bt466.1,true))) else (some (0,false)))
theorem impl_StepsToRest.mono : ∀ a0 k,LeO (impl_StepsToRest.f k a0) (impl_StepsToRest.f (k + 1) a0) := by
 intro a0 k
 unfold impl_StepsToRest.f
 repeat' first
   | (with_reducible exact impl_rest.mono _ _)
   | (with_reducible exact LeO.refl _)
   | (with_reducible exact LeO.none _)
   | (with_reducible refine LeO.ite ?_ ?_)
   | (with_reducible refine LeO.bind ?_ (fun _ => ?_))
   | exact impl_rest.mono _ _
   | exact LeO.none _
   | refine LeO.ite ?_ ?_
   | refine LeO.bind ?_ (fun _ => ?_)
set_option maxHeartbeats 8000000 in
set_option maxRecDepth 100000 in
theorem impl_StepsToRest.calls (k : Nat) (A0 : Option Addr) (c0 : Nat) (l0 : List Int) (r1 : Int) (r2 : Bool) (w : World) (hr0 : Kd.C (Kd.int .i64) w A0 l0.length l0) (hc0 : l0.length ≤ c0) (h : impl_StepsToRest.f k l0 = some (r1,r2)) :
  Calls Try.prog 37 #[.slice A0 l0.length c0] w fun e w' => e = .returned (.tuple #[.int .i64 r1, .bool r2]) ∧ Below w.heap.size w w' := by
 have HR0 := Aside0.mk hr0
 have HC0 := Aside0.mk hc0
 clear hr0 hc0
 have HB := Aside0.mk (Below.refl w.heap.size w)
 have H : ((impl_AreCandies.f l0).bind fun t465 => (if t465 = true then ((impl_rest.f k l0).bind fun bt466 => (some (bt466.1,true))) else (some (0,false)))) = some (r1,r2) := h
 clear h
 replace H := Option.bind_eq_some_iff.mp H
 obtain ⟨t465,A20,H⟩ := H
 replace H : (if t465 = true then ((impl_rest.f k l0).bind fun bt466 => (some (bt466.1,true))) else (some (0,false))) = some (r1,r2) := H
 have A2 := Aside0.mk A20
 clear A20
 by_cases c3 : t465 = true
 ·subst c3
  have H1 : ((impl_rest.f k l0).bind fun bt466 => (some (bt466.1,true))) = some (r1,r2) := by rw [if_pos rfl] at H;exact H
  clear H
  have H := H1
  clear H1
  replace H := Option.bind_eq_some_iff.mp H
  obtain ⟨⟨t466,t467,t470⟩,A40,H⟩ := H
  replace H : (some (t466,true)) = some (r1,r2) := H
  have A4 := Aside0.mk A40
  clear A40
  simp only [Option.some.injEq,Prod.mk.injEq] at H
  obtain ⟨rfl,rfl⟩ := H
  go_enter Try.func37,Try.ntmps37
  go_wp2_with (first | ((with_reducible refine gate_callee (f := 54) rfl ?_);refine goesL_ (some 8) rfl rfl Try.func54 (by kernel_rfl) rfl #[.slice A0 l0.length c0] rfl (by (try simp only [List.map_toArray,List.map_cons,List.map_nil]);first | done | rfl | (simp only [List.length_drop,List.length_take];rfl)) ?_;(with_reducible refine (impl_AreCandies.calls _ _ l0 true _ ?side1 ?side2 A2.out).mono ?_);(case side1 => repeat (first | exact HR0.out | (with_reducible refine Kd.C_alloc ?_ _) | (with_reducible refine Kd.C_drewN ?_ _) | (with_reducible refine Kd.C_drew ?_)));(case side2 => exact HC0.out);rintro e w5 ⟨rfl,hb⟩;refine ⟨_,rfl,?_⟩;have n0_ := Aside0.mk (below_step (by repeat (first | (with_reducible first | exact HB.out | apply below_alloc | apply pw_below_drewN | apply below_drew1) | exact HB.out)) hb);clear HB;have HB := n0_;clear n0_;(try clear hb);(try clear hb2);(try clear hk);(try clear hi)) | ((with_reducible refine gate_callee (f := 67) rfl ?_);refine goesL_ (some 12) rfl rfl Try.func67 (by kernel_rfl) rfl #[.slice A0 l0.length c0] rfl (by (try simp only [List.map_toArray,List.map_cons,List.map_nil]);first | done | rfl | (simp only [List.length_drop,List.length_take];rfl)) ?_;(with_reducible refine (impl_rest.calls k (fun k_ => k_ < w.heap.size) _ _ l0 t466 t467 t470 _ ?side1 A4.out).mono ?_);(case side1 => exact Kd.V_mk HC0.out (Kd.F_below (Kd.C_F (Kd.heap_int .i64) HR0.out) (by repeat (first | (with_reducible first | exact HB.out | apply below_alloc | apply pw_below_drewN | apply below_drew1) | exact HB.out))));rintro e w6 ⟨v468,v471,rfl,ho0,ho1,hb⟩;refine ⟨_,rfl,?_⟩;have n0_ := Aside0.mk (Kd.V_lower (Kd.V_mono (ok' := fun k_ => some k_ ≠ (v471 : Value).ownBlock) ho0 (fun k_ hk_ => hk_.2)) (below_size (by repeat (first | (with_reducible first | exact HB.out | apply below_alloc | apply pw_below_drewN | apply below_drew1) | exact HB.out))));have n1_ := Aside0.mk (Kd.R_lower (Kd.R_mono (ok' := fun k_ => True) ho1 (fun _ hk_ => trivial)) (below_size (by repeat (first | (with_reducible first | exact HB.out | apply below_alloc | apply pw_below_drewN | apply below_drew1) | exact HB.out))));have n2_ := Aside0.mk (below_step (by repeat (first | (with_reducible first | exact HB.out | apply below_alloc | apply pw_below_drewN | apply below_drew1) | exact HB.out)) hb);clear HB;have HO469 := n0_;have HO472 := n1_;have HB := n2_;clear n0_ n1_ n2_;(try clear hb);(try clear hb2);(try clear hk);(try clear hi);(try clear ho0);(try clear ho1)))
  go_ret2
  exact ⟨by first | rfl | (simp [errW_none,errW_some] <;> rfl) | (simp [*,errW_none,errW_some] <;> rfl),by repeat (first | (with_reducible first | exact HB.out | apply below_alloc | apply pw_below_drewN | apply below_drew1) | exact HB.out)⟩
 ·replace c3 := Bool.eq_false_iff.mpr c3
  subst c3
  have H1 : (some (0,false)) = some (r1,r2) := by rw [if_neg (show ¬ (false = true) by decide)] at H;exact H
  clear H
  have H := H1
  clear H1
  simp only [Option.some.injEq,Prod.mk.injEq] at H
  obtain ⟨rfl,rfl⟩ := H
  go_enter Try.func37,Try.ntmps37
  go_wp2_with (first | ((with_reducible refine gate_callee (f := 54) rfl ?_);refine goesL_ (some 8) rfl rfl Try.func54 (by kernel_rfl) rfl #[.slice A0 l0.length c0] rfl (by (try simp only [List.map_toArray,List.map_cons,List.map_nil]);first | done | rfl | (simp only [List.length_drop,List.length_take];rfl)) ?_;(with_reducible refine (impl_AreCandies.calls _ _ l0 false _ ?side1 ?side2 A2.out).mono ?_);(case side1 => repeat (first | exact HR0.out | (with_reducible refine Kd.C_alloc ?_ _) | (with_reducible refine Kd.C_drewN ?_ _) | (with_reducible refine Kd.C_drew ?_)));(case side2 => exact HC0.out);rintro e w7 ⟨rfl,hb⟩;refine ⟨_,rfl,?_⟩;have n0_ := Aside0.mk (below_step (by repeat (first | (with_reducible first | exact HB.out | apply below_alloc | apply pw_below_drewN | apply below_drew1) | exact HB.out)) hb);clear HB;have HB := n0_;clear n0_;(try clear hb);(try clear hb2);(try clear hk);(try clear hi)))
  go_ret2
  exact ⟨by first | rfl | (simp [errW_none,errW_some] <;> rfl) | (simp [*,errW_none,errW_some] <;> rfl),by repeat (first | (with_reducible first | exact HB.out | apply below_alloc | apply pw_below_drewN | apply below_drew1) | exact HB.out)⟩

end Go.Proofs.Ytpcalkaamfhejaa.P
