/- Written by a program of this workplace (own_print.py, over the kit's print) for the functions that the statements reach, with contracts of its own. Lean checks it. -/
import Derived.Test.YtpcalkaamfhejaaPx0
import Derived.Test.YtpcalkaamfhejaaPx1
import Derived.Test.YtpcalkaamfhejaaPx4
import Derived.Test.YtpcalkaamfhejaaPx6
import Derived.Test.YtpcalkaamfhejaaPx9
namespace Go.Proofs.Ytpcalkaamfhejaa.P
open Go.RowKit Go.Proofs.YtpcalkaamfhejaaW.PrintWords Go.Proofs.YtpcalkaamfhejaaW.PrintLast Go.Proofs.YtpcalkaamfhejaaW.PrintMore
attribute [local go_sem] max2_int min2_int max_two min_two max_three min_three max_four min_four   -- for this text's walks alone
set_option linter.unusedVariables false
set_option linter.unusedSimpArgs false

/-! ### spec_CountByRest: function 9 -/
mutual
def spec_CountByRest.j0 : Nat → Int → Int → Int → Bool → Option (Int × Bool)
 | 0,_,_,_,_ => none
 | k + 1,x0,x1,x2,x21 => if x21 = true then (some (0,false)) else ((spec_cyAll.f k x0 x1).bind fun t149 => (spec_CountByRest.l0 k x2 0 t149 (t149.length : Int) 0))
def spec_CountByRest.l0 : Nat → Int → Int → List (List Int) → Int → Int → Option (Int × Bool)
 | 0,_,_,_,_,_ => none
 | k + 1,x2,x8,x24,x25,x26 => if x26 < x25 then (if 0 ≤ x26 then (if x26 < (x24.length : Int) then ((spec_cyRun.f k (rd_L1 x24 x26)).bind fun bt153 => (if 0 < (bt153.1.length : Int) then (if (rd bt153.1 0) = x2 then (spec_CountByRest.l0 k x2 (wrap64 (x8 + 1)) x24 x25 (wrap64 (x26 + 1))) else (spec_CountByRest.l0 k x2 x8 x24 x25 (wrap64 (x26 + 1)))) else (none))) else (none)) else (none)) else (some (x8,true))
end
def spec_CountByRest.f (k : Nat) (a0 : Int) (a1 : Int) (a2 : Int) : Option (Int × Bool) := (spec_cyFew.f a0 a1).bind fun t147 => (if t147 = true then ((spec_l1In.f a2 0 1000).bind fun t148 => (spec_CountByRest.j0 k a0 a1 a2 (!t148))) else (spec_CountByRest.j0 k a0 a1 a2 true))
theorem spec_CountByRest.mono_l : ∀ k,(∀ y0 y1 y2 y3,LeO (spec_CountByRest.j0 k y0 y1 y2 y3) (spec_CountByRest.j0 (k + 1) y0 y1 y2 y3)) ∧ (∀ y0 y1 y2 y3 y4,LeO (spec_CountByRest.l0 k y0 y1 y2 y3 y4) (spec_CountByRest.l0 (k + 1) y0 y1 y2 y3 y4))
 | 0 => ⟨fun _ _ _ _ r h => by simp [spec_CountByRest.j0] at h,fun _ _ _ _ _ r h => by simp [spec_CountByRest.l0] at h⟩
 | k + 1 => by
  obtain ⟨ih0,ih1⟩ := spec_CountByRest.mono_l k
  refine ⟨?_,?_⟩
  ·intro y0 y1 y2 y3
   unfold spec_CountByRest.j0
   repeat' first
   | (with_reducible exact ih0 _ _ _ _)
   | (with_reducible exact ih1 _ _ _ _ _)
   | (with_reducible exact spec_cyAll.mono _ _ _)
   | (with_reducible exact spec_cyRun.mono _ _)
   | (with_reducible exact LeO.refl _)
   | (with_reducible exact LeO.none _)
   | (with_reducible refine LeO.ite ?_ ?_)
   | (with_reducible refine LeO.bind ?_ (fun _ => ?_))
   | exact ih0 _ _ _ _
   | exact ih1 _ _ _ _ _
   | exact spec_cyAll.mono _ _ _
   | exact spec_cyRun.mono _ _
   | exact LeO.none _
   | refine LeO.ite ?_ ?_
   | refine LeO.bind ?_ (fun _ => ?_)
  ·intro y0 y1 y2 y3 y4
   unfold spec_CountByRest.l0
   repeat' first
   | (with_reducible exact ih0 _ _ _ _)
   | (with_reducible exact ih1 _ _ _ _ _)
   | (with_reducible exact spec_cyAll.mono _ _ _)
   | (with_reducible exact spec_cyRun.mono _ _)
   | (with_reducible exact LeO.refl _)
   | (with_reducible exact LeO.none _)
   | (with_reducible refine LeO.ite ?_ ?_)
   | (with_reducible refine LeO.bind ?_ (fun _ => ?_))
   | exact ih0 _ _ _ _
   | exact ih1 _ _ _ _ _
   | exact spec_cyAll.mono _ _ _
   | exact spec_cyRun.mono _ _
   | exact LeO.none _
   | refine LeO.ite ?_ ?_
   | refine LeO.bind ?_ (fun _ => ?_)
theorem spec_CountByRest.mono : ∀ a0 a1 a2 k,LeO (spec_CountByRest.f k a0 a1 a2) (spec_CountByRest.f (k + 1) a0 a1 a2) := by
 intro a0 a1 a2 k
 obtain ⟨ih0,ih1⟩ := spec_CountByRest.mono_l k
 unfold spec_CountByRest.f
 repeat' first
   | (with_reducible exact ih0 _ _ _ _)
   | (with_reducible exact ih1 _ _ _ _ _)
   | (with_reducible exact spec_cyAll.mono _ _ _)
   | (with_reducible exact spec_cyRun.mono _ _)
   | (with_reducible exact LeO.refl _)
   | (with_reducible exact LeO.none _)
   | (with_reducible refine LeO.ite ?_ ?_)
   | (with_reducible refine LeO.bind ?_ (fun _ => ?_))
   | exact ih0 _ _ _ _
   | exact ih1 _ _ _ _ _
   | exact spec_cyAll.mono _ _ _
   | exact spec_cyRun.mono _ _
   | exact LeO.none _
   | refine LeO.ite ?_ ?_
   | refine LeO.bind ?_ (fun _ => ?_)
set_option maxHeartbeats 8000000 in
set_option maxRecDepth 100000 in
theorem spec_CountByRest.calls (k : Nat) (a0 : Int) (a1 : Int) (a2 : Int) (r1 : Int) (r2 : Bool) (w : World) (h : spec_CountByRest.f k a0 a1 a2 = some (r1,r2)) :
  Calls Try.prog 9 #[.int .i64 a0, .int .i64 a1, .int .i64 a2] w fun e w' => e = .returned (.tuple #[.int .i64 r1, .bool r2]) ∧ Below w.heap.size w w' := by
 have HB := Aside0.mk (Below.refl w.heap.size w)
 have H : ((spec_cyFew.f a0 a1).bind fun t147 => (if t147 = true then ((spec_l1In.f a2 0 1000).bind fun t148 => (spec_CountByRest.j0 k a0 a1 a2 (!t148))) else (spec_CountByRest.j0 k a0 a1 a2 true))) = some (r1,r2) := h
 clear h
 have HC4 := Aside0.mk H
 clear H
 go_enter Try.func9,Try.ntmps9
 go_upto_region 1 with (fail)
 go_cut [21] (fun v21 wc => ∃ (kq : Nat) (x21_3 : Bool),v21 = .bool x21_3 ∧ Aside0 (spec_CountByRest.j0 kq a0 a1 a2 x21_3 = some (r1,r2)) ∧ Aside0 (kq ≤ k) ∧ Aside0 (Below w.heap.size w wc))
 case first =>
  have H := HC4.out
  clear HC4
  replace H := Option.bind_eq_some_iff.mp H
  obtain ⟨t147,A50,H⟩ := H
  replace H : (if t147 = true then ((spec_l1In.f a2 0 1000).bind fun t148 => (spec_CountByRest.j0 k a0 a1 a2 (!t148))) else (spec_CountByRest.j0 k a0 a1 a2 true)) = some (r1,r2) := H
  have A5 := Aside0.mk A50
  clear A50
  by_cases c6 : t147 = true
  ·subst c6
   have H1 : ((spec_l1In.f a2 0 1000).bind fun t148 => (spec_CountByRest.j0 k a0 a1 a2 (!t148))) = some (r1,r2) := by rw [if_pos rfl] at H;exact H
   clear H
   have H := H1
   clear H1
   replace H := Option.bind_eq_some_iff.mp H
   obtain ⟨t148,A70,H⟩ := H
   replace H : (spec_CountByRest.j0 k a0 a1 a2 (!t148)) = some (r1,r2) := H
   have A7 := Aside0.mk A70
   clear A70
   have H' := Aside0.mk H
   clear H
   go_wp2_with (first | ((with_reducible refine gate_callee (f := 60) rfl ?_);refine goesL_ (some 15) rfl rfl Try.func60 (by kernel_rfl) rfl #[.int .i64 a0, .int .i64 a1] rfl (by (try simp only [List.map_toArray,List.map_cons,List.map_nil]);first | done | rfl | (simp only [List.length_drop,List.length_take];rfl)) ?_;(with_reducible refine (spec_cyFew.calls a0 a1 true _ A5.out).mono ?_);rintro e w' ⟨rfl,⟨nd,rfl⟩⟩;refine ⟨_,rfl,?_⟩) | (go_at_call 61;(with_reducible refine (spec_l1In.calls a2 0 1000 t148 _ A7.out).mono ?_);rintro e w' ⟨rfl,⟨nd,rfl⟩⟩))
   go_meet
   case rel => exact ⟨_,(!t148),(by first | rfl | (simp;done) | (simp [*];done)),H',⟨by first | omega | exact Nat.le_refl _⟩,⟨by repeat (first | (with_reducible first | exact HB.out | apply below_alloc | apply pw_below_drewN | apply below_drew1) | exact HB.out)⟩⟩
  ·replace c6 := Bool.eq_false_iff.mpr c6
   subst c6
   have H1 : (spec_CountByRest.j0 k a0 a1 a2 true) = some (r1,r2) := by rw [if_neg (show ¬ (false = true) by decide)] at H;exact H
   clear H
   have H := H1
   clear H1
   have H' := Aside0.mk H
   clear H
   go_wp2_with (first | ((with_reducible refine gate_callee (f := 60) rfl ?_);refine goesL_ (some 15) rfl rfl Try.func60 (by kernel_rfl) rfl #[.int .i64 a0, .int .i64 a1] rfl (by (try simp only [List.map_toArray,List.map_cons,List.map_nil]);first | done | rfl | (simp only [List.length_drop,List.length_take];rfl)) ?_;(with_reducible refine (spec_cyFew.calls a0 a1 false _ A5.out).mono ?_);rintro e w' ⟨rfl,⟨nd,rfl⟩⟩;refine ⟨_,rfl,?_⟩))
   go_meet
   case rel => exact ⟨_,(true),(by first | rfl | (simp;done) | (simp [*];done)),H',⟨by first | omega | exact Nat.le_refl _⟩,⟨by repeat (first | (with_reducible first | exact HB.out | apply below_alloc | apply pw_below_drewN | apply below_drew1) | exact HB.out)⟩⟩
 case rest =>
  clear HC4
  try clear p2
  try clear c6
  obtain ⟨kq,x21_3,rfl,HA,HJ3,HB⟩ := hcut
  cases kq with
  | zero => exact absurd HA.out (by simp [spec_CountByRest.j0])
  | succ kj3 =>
   have H := HA.out
   clear HA
   simp only [spec_CountByRest.j0] at H
   by_cases c8 : x21_3 = true
   ·subst c8
    have H1 : (some (0,false)) = some (r1,r2) := by rw [if_pos rfl] at H;exact H
    clear H
    have H := H1
    clear H1
    simp only [Option.some.injEq,Prod.mk.injEq] at H
    obtain ⟨rfl,rfl⟩ := H
    go_wp2
    go_ret2
    exact ⟨by first | rfl | (simp [errW_none,errW_some] <;> rfl) | (simp [*,errW_none,errW_some] <;> rfl),by repeat (first | (with_reducible first | exact HB.out | apply below_alloc | apply pw_below_drewN | apply below_drew1) | exact HB.out)⟩
   ·replace c8 := Bool.eq_false_iff.mpr c8
    subst c8
    have H1 : ((spec_cyAll.f kj3 a0 a1).bind fun t149 => (spec_CountByRest.l0 kj3 a2 0 t149 (t149.length : Int) 0)) = some (r1,r2) := by rw [if_neg (show ¬ (false = true) by decide)] at H;exact H
    clear H
    have H := H1
    clear H1
    replace H := Option.bind_eq_some_iff.mp H
    obtain ⟨t149,A90,H⟩ := H
    replace H : (spec_CountByRest.l0 kj3 a2 0 t149 (t149.length : Int) 0) = some (r1,r2) := H
    have A9 := Aside0.mk A90
    clear A90
    have H' := Aside0.mk H
    clear H
    go_wp2_with (first | ((with_reducible refine gate_callee (f := 62) rfl ?_);refine goesL_ (some 24) rfl rfl Try.func62 (by kernel_rfl) rfl #[.int .i64 a0, .int .i64 a1] rfl (by (try simp only [List.map_toArray,List.map_cons,List.map_nil]);first | done | rfl | (simp only [List.length_drop,List.length_take];rfl)) ?_;(with_reducible refine (spec_cyAll.calls kj3 a0 a1 t149 _ A9.out).mono ?_);rintro e w10 ⟨v150,rfl,ho0,hb⟩;refine ⟨_,rfl,?_⟩;have n0_ := Aside0.mk (Kd.S_lower ho0 (below_size (by repeat (first | (with_reducible first | exact HB.out | apply below_alloc | apply pw_below_drewN | apply below_drew1) | exact HB.out))));have n1_ := Aside0.mk (below_step (by repeat (first | (with_reducible first | exact HB.out | apply below_alloc | apply pw_below_drewN | apply below_drew1) | exact HB.out)) hb);clear HB;have HO151 := n0_;have HB := n1_;clear n0_ n1_;(try clear hb);(try clear hb2);(try clear hk);(try clear hi);(try clear ho0);obtain ⟨Ao11,co11,eo11⟩ := Kd.S_slice HO151.out;subst eo11))
    go_loopg [8,26] kj3 (fun kq v8 v26 w' => ∃ (x8_2 : Int) (x26_2 : Int),v8 = .int .i64 x8_2 ∧ v26 = .int .i64 x26_2 ∧ Aside0 (spec_CountByRest.l0 kq a2 x8_2 t149 (t149.length : Int) x26_2 = some (r1,r2)) ∧ Aside0 (kq ≤ kj3) ∧ Aside0 (Kd.S (Kd.slice 3 (Kd.int .i64)) 25 w' w.heap.size (fun _ => True) (.slice Ao11 t149.length co11) t149) ∧ Aside0 (Below w.heap.size w w'))
    case atStart => exact ⟨(0),(0),(by first | rfl | (simp;done) | (simp [*];done)),(by first | rfl | (simp;done) | (simp [*];done)),H',⟨Nat.le_refl _⟩,⟨by (with_reducible repeat (first | apply Kd.S_alloc | apply Kd.S_drewN | apply Kd.S_drew));exact HO151.out⟩,⟨by repeat (first | (with_reducible first | exact HB.out | apply below_alloc | apply pw_below_drewN | apply below_drew1) | exact HB.out)⟩⟩
    case round =>
     clear H'
     try clear p2
     try clear c6
     try clear c8
     try clear c9
     try clear p2
     obtain ⟨x8_2,x26_2,rfl,rfl,HA,HK2,HO_24,HB⟩ := hrel
     cases gk with
     | zero => exact absurd HA.out (by simp [spec_CountByRest.l0])
     | succ k2 =>
      have H := HA.out
      clear HA
      simp only [spec_CountByRest.l0] at H
      by_cases c12 : x26_2 < (t149.length : Int)
      ·rw [if_pos c12] at H
       have c12b0 : decide (x26_2 < (t149.length : Int)) = true := decide_eq_true c12
       clear c12
       by_cases c13 : 0 ≤ x26_2
       ·rw [if_pos c13] at H
        have c13b0 : decide (0 ≤ x26_2) = true := decide_eq_true c13
        clear c13
        by_cases c14 : x26_2 < (t149.length : Int)
        ·rw [if_pos c14] at H
         have c14b0 : decide (x26_2 < (t149.length : Int)) = true := decide_eq_true c14
         clear c14
         replace H := Option.bind_eq_some_iff.mp H
         obtain ⟨⟨t153,t156⟩,A150,H⟩ := H
         replace H : (if 0 < (t153.length : Int) then (if (rd t153 0) = a2 then (spec_CountByRest.l0 k2 a2 (wrap64 (x8_2 + 1)) t149 (t149.length : Int) (wrap64 (x26_2 + 1))) else (spec_CountByRest.l0 k2 a2 x8_2 t149 (t149.length : Int) (wrap64 (x26_2 + 1)))) else (none)) = some (r1,r2) := H
         have A15 := Aside0.mk A150
         clear A150
         by_cases c16 : 0 < (t153.length : Int)
         ·rw [if_pos c16] at H
          have c16b0 : decide (0 < (t153.length : Int)) = true := decide_eq_true c16
          have c16b1 : decide (0 < t153.length) = true := decide_eq_true (by omega)
          clear c16
          by_cases c17 : (rd t153 0) = a2
          ·rw [if_pos c17] at H
           have c17b0 : ((rd t153 0) == a2) = true := beq_iff_eq.mpr c17
           have c17b1 : ((rd t153 0) != a2) = false := bne_eq_false_iff_eq.mpr c17
           clear c17
           have H' := Aside0.mk H
           clear H
           have p152 : 0 ≤ (x26_2 : Int) := of_decide_eq_true (by first | (with_reducible assumption) | assumption)
           have q152 : x26_2 < (t149.length : Int) := of_decide_eq_true (by first | (with_reducible assumption) | assumption)
           obtain ⟨ad152,A152_0,c152_0,e152,hx152_0,hl152_0,hi152_0⟩ := at_L1 (Kd.S_reads' HO_24.out).2.2 x26_2 p152 q152
           cases e152
           obtain ⟨ce152,hce152,hMe152,hcc152⟩ := Kd.S_get HO_24.out [] x26_2 p152 (by first | exact q152 | exact of_decide_eq_true (by first | (with_reducible assumption) | assumption) | (have e_ := (Kd.S_reads' HO_24.out).1;omega))
           obtain ⟨ve152_0,rfl,ge152_0⟩ := hMe152
           have hv152_0 := hcc152 0 _ rfl
           rw [Nat.add_zero,show ((Kd.slice 3 (Kd.int .i64))).sz = 1 from rfl,Nat.mul_one] at hv152_0
           replace hv152_0 := Option.some.inj (hv152_0.symm.trans hx152_0)
           rw [hv152_0] at ge152_0
           have HL152_0 := Aside0.mk (show Kd.R (Kd.int .i64) 3 _ _ _ _ (rd_L1 t149 x26_2) from ge152_0)
           clear hv152_0 ge152_0
           clear hcc152 hce152
           have HR152_0 := Aside0.mk hi152_0
           have HC152_0 := Aside0.mk hl152_0
           clear hi152_0 hl152_0
           replace p152 := eq_true p152
           replace q152 := eq_true q152
           go_wp2_with (first | ((with_reducible refine gate_callee (f := 63) rfl ?_);refine goesL_ (some 32) rfl rfl Try.func63 (by kernel_rfl) rfl #[.slice A152_0 (rd_L1 t149 x26_2).length c152_0] rfl (by (try simp only [List.map_toArray,List.map_cons,List.map_nil]);first | done | rfl | (simp only [List.length_drop,List.length_take];rfl)) ?_;(with_reducible refine (spec_cyRun.calls k2 (fun k_ => some k_ = (.slice A152_0 (rd_L1 t149 x26_2).length c152_0 : Value).ownBlock) _ _ (rd_L1 t149 x26_2) t153 t156 _ ?side1 A15.out).mono ?_);(case side1 => exact Kd.R_V (Kd.R_tight rfl (HL152_0.out)));rintro e w18 ⟨v154,rfl,ho0,hb⟩;refine ⟨_,rfl,?_⟩;have n0_ := Aside0.mk (Kd.S_below (by (with_reducible repeat (first | apply Kd.S_alloc | apply Kd.S_drewN | apply Kd.S_drew));exact HO_24.out) hb);have n1_ := Aside0.mk (Kd.R_below (by (with_reducible repeat (first | apply Kd.R_alloc | apply Kd.R_drewN | apply Kd.R_drew));exact HL152_0.out) hb);have n2_ := Aside0.mk (Kd.V_lower (Kd.V_mono (ok' := fun k_ => some k_ ≠ (.slice (some ad152) t149.length co11 : Value).ownBlock) ho0 (fun k_ hk_ => Or.elim hk_ (fun hs_ => ((HL152_0.out).1 k_ hs_.symm).2) (fun hn_ => (Kd.fresh' (Kd.S_lt (by (with_reducible repeat (first | apply Kd.S_alloc | apply Kd.S_drewN | apply Kd.S_drew));exact HO_24.out)) k_ hn_)))) (below_size (by repeat (first | (with_reducible first | exact HB.out | apply below_alloc | apply pw_below_drewN | apply below_drew1) | exact HB.out))));have n3_ := Aside0.mk (Kd.C_below (by repeat (first | (with_reducible exact HR152_0.out) | (with_reducible refine Kd.C_alloc ?_ _) | (with_reducible refine Kd.C_drewN ?_ _) | (with_reducible refine Kd.C_drew ?_) | exact HR152_0.out)) hb);have n4_ := Aside0.mk (below_step (by repeat (first | (with_reducible first | exact HB.out | apply below_alloc | apply pw_below_drewN | apply below_drew1) | exact HB.out)) hb);clear HO_24;clear HL152_0;clear HR152_0;clear HB;have HO_24 := n0_;have HL152_0 := n1_;have HO155 := n2_;have HR152_0 := n3_;have HB := n4_;clear n0_ n1_ n2_ n3_ n4_;(try clear hb);(try clear hb2);(try clear hk);(try clear hi);(try clear ho0);obtain ⟨Ao19,co19,eo19⟩ := Kd.V_slice HO155.out;subst eo19;have p157 : 0 ≤ (0 : Int) := (by omega);have q157 : 0 < (t153.length : Int) := of_decide_eq_true (by first | (with_reducible assumption) | assumption);obtain ⟨ad157,e157,hx157_0⟩ := Kd.at_int (Kd.V_reads' HO155.out).2.2 0 p157 q157;cases e157;have qi157 : (0 < t153.length) = True := eq_true (by omega);(try rw [show ((0 : Int)).toNat = 0 from rfl] at hx157_0);(try rw [Addr.add_zero'] at hx157_0);replace p157 := eq_true p157;replace q157 := eq_true q157))
           go_roundg k2
           case measure => have := HJ3.out;have := HK2.out;omega
           case rel => exact ⟨(wrap64 (x8_2 + 1)),(wrap64 (x26_2 + 1)),(by first | rfl | (simp;done) | (simp [*];done)),(by first | rfl | (simp;done) | (simp [*];done)),H',⟨by have := HJ3.out;have := HK2.out;omega⟩,⟨by (with_reducible repeat (first | apply Kd.S_alloc | apply Kd.S_drewN | apply Kd.S_drew));exact HO_24.out⟩,⟨by repeat (first | (with_reducible first | exact HB.out | apply below_alloc | apply pw_below_drewN | apply below_drew1) | exact HB.out)⟩⟩
          ·rw [if_neg c17] at H
           have c17b0 : ((rd t153 0) == a2) = false := beq_eq_false_iff_ne.mpr c17
           have c17b1 : ((rd t153 0) != a2) = true := bne_iff_ne.mpr c17
           have H' := Aside0.mk H
           clear H
           have p152 : 0 ≤ (x26_2 : Int) := of_decide_eq_true (by first | (with_reducible assumption) | assumption)
           have q152 : x26_2 < (t149.length : Int) := of_decide_eq_true (by first | (with_reducible assumption) | assumption)
           obtain ⟨ad152,A152_0,c152_0,e152,hx152_0,hl152_0,hi152_0⟩ := at_L1 (Kd.S_reads' HO_24.out).2.2 x26_2 p152 q152
           cases e152
           obtain ⟨ce152,hce152,hMe152,hcc152⟩ := Kd.S_get HO_24.out [] x26_2 p152 (by first | exact q152 | exact of_decide_eq_true (by first | (with_reducible assumption) | assumption) | (have e_ := (Kd.S_reads' HO_24.out).1;omega))
           obtain ⟨ve152_0,rfl,ge152_0⟩ := hMe152
           have hv152_0 := hcc152 0 _ rfl
           rw [Nat.add_zero,show ((Kd.slice 3 (Kd.int .i64))).sz = 1 from rfl,Nat.mul_one] at hv152_0
           replace hv152_0 := Option.some.inj (hv152_0.symm.trans hx152_0)
           rw [hv152_0] at ge152_0
           have HL152_0 := Aside0.mk (show Kd.R (Kd.int .i64) 3 _ _ _ _ (rd_L1 t149 x26_2) from ge152_0)
           clear hv152_0 ge152_0
           clear hcc152 hce152
           have HR152_0 := Aside0.mk hi152_0
           have HC152_0 := Aside0.mk hl152_0
           clear hi152_0 hl152_0
           replace p152 := eq_true p152
           replace q152 := eq_true q152
           go_wp2_with (first | ((with_reducible refine gate_callee (f := 63) rfl ?_);refine goesL_ (some 32) rfl rfl Try.func63 (by kernel_rfl) rfl #[.slice A152_0 (rd_L1 t149 x26_2).length c152_0] rfl (by (try simp only [List.map_toArray,List.map_cons,List.map_nil]);first | done | rfl | (simp only [List.length_drop,List.length_take];rfl)) ?_;(with_reducible refine (spec_cyRun.calls k2 (fun k_ => some k_ = (.slice A152_0 (rd_L1 t149 x26_2).length c152_0 : Value).ownBlock) _ _ (rd_L1 t149 x26_2) t153 t156 _ ?side1 A15.out).mono ?_);(case side1 => exact Kd.R_V (Kd.R_tight rfl (HL152_0.out)));rintro e w20 ⟨v154,rfl,ho0,hb⟩;refine ⟨_,rfl,?_⟩;have n0_ := Aside0.mk (Kd.S_below (by (with_reducible repeat (first | apply Kd.S_alloc | apply Kd.S_drewN | apply Kd.S_drew));exact HO_24.out) hb);have n1_ := Aside0.mk (Kd.R_below (by (with_reducible repeat (first | apply Kd.R_alloc | apply Kd.R_drewN | apply Kd.R_drew));exact HL152_0.out) hb);have n2_ := Aside0.mk (Kd.V_lower (Kd.V_mono (ok' := fun k_ => some k_ ≠ (.slice (some ad152) t149.length co11 : Value).ownBlock) ho0 (fun k_ hk_ => Or.elim hk_ (fun hs_ => ((HL152_0.out).1 k_ hs_.symm).2) (fun hn_ => (Kd.fresh' (Kd.S_lt (by (with_reducible repeat (first | apply Kd.S_alloc | apply Kd.S_drewN | apply Kd.S_drew));exact HO_24.out)) k_ hn_)))) (below_size (by repeat (first | (with_reducible first | exact HB.out | apply below_alloc | apply pw_below_drewN | apply below_drew1) | exact HB.out))));have n3_ := Aside0.mk (Kd.C_below (by repeat (first | (with_reducible exact HR152_0.out) | (with_reducible refine Kd.C_alloc ?_ _) | (with_reducible refine Kd.C_drewN ?_ _) | (with_reducible refine Kd.C_drew ?_) | exact HR152_0.out)) hb);have n4_ := Aside0.mk (below_step (by repeat (first | (with_reducible first | exact HB.out | apply below_alloc | apply pw_below_drewN | apply below_drew1) | exact HB.out)) hb);clear HO_24;clear HL152_0;clear HR152_0;clear HB;have HO_24 := n0_;have HL152_0 := n1_;have HO155 := n2_;have HR152_0 := n3_;have HB := n4_;clear n0_ n1_ n2_ n3_ n4_;(try clear hb);(try clear hb2);(try clear hk);(try clear hi);(try clear ho0);obtain ⟨Ao21,co21,eo21⟩ := Kd.V_slice HO155.out;subst eo21;have p157 : 0 ≤ (0 : Int) := (by omega);have q157 : 0 < (t153.length : Int) := of_decide_eq_true (by first | (with_reducible assumption) | assumption);obtain ⟨ad157,e157,hx157_0⟩ := Kd.at_int (Kd.V_reads' HO155.out).2.2 0 p157 q157;cases e157;have qi157 : (0 < t153.length) = True := eq_true (by omega);(try rw [show ((0 : Int)).toNat = 0 from rfl] at hx157_0);(try rw [Addr.add_zero'] at hx157_0);replace p157 := eq_true p157;replace q157 := eq_true q157))
           go_roundg k2
           case measure => have := HJ3.out;have := HK2.out;omega
           case rel => exact ⟨(x8_2),(wrap64 (x26_2 + 1)),(by first | rfl | (simp;done) | (simp [*];done)),(by first | rfl | (simp;done) | (simp [*];done)),H',⟨by have := HJ3.out;have := HK2.out;omega⟩,⟨by (with_reducible repeat (first | apply Kd.S_alloc | apply Kd.S_drewN | apply Kd.S_drew));exact HO_24.out⟩,⟨by repeat (first | (with_reducible first | exact HB.out | apply below_alloc | apply pw_below_drewN | apply below_drew1) | exact HB.out)⟩⟩
         ·rw [if_neg c16] at H
          exact absurd H (by simp)
        ·rw [if_neg c14] at H
         exact absurd H (by simp)
       ·rw [if_neg c13] at H
        exact absurd H (by simp)
      ·rw [if_neg c12] at H
       have c12b0 : decide (x26_2 < (t149.length : Int)) = false := decide_eq_false c12
       clear c12
       simp only [Option.some.injEq,Prod.mk.injEq] at H
       obtain ⟨rfl,rfl⟩ := H
       go_wp2
       go_ret2
       exact ⟨by first | rfl | (simp [errW_none,errW_some] <;> rfl) | (simp [*,errW_none,errW_some] <;> rfl),by repeat (first | (with_reducible first | exact HB.out | apply below_alloc | apply pw_below_drewN | apply below_drew1) | exact HB.out)⟩

/-! ### impl_CountByRest: function 10 -/
/-- One list more: is it at rest with this number? -/
def impl_CountByRest.step (z : Int) (k : Nat) (l : List Int) (s : Int) : Option Int := (impl_rest.f k l).bind fun r => (if 0 < (r.2.1.length : Int) then some (if rd r.2.1 0 = z then wrap64 (s + 1) else s) else none)
def impl_CountByRest.f (k : Nat) (a0 a1 a2 : Int) : Option (Int × Bool) := (impl_within.f a0 2 4).bind fun b0 => (if b0 = true then ((impl_within.f a1 0 8).bind fun b1 => (if b1 = true then ((impl_within.f a2 0 1000).bind fun b2 => (if b2 = true then ((lists (impl_CountByRest.step a2) k a0 a1 (List.replicate a0.toNat 0) 0).bind fun c => some (c,true)) else some (0,false))) else some (0,false))) else some (0,false))
theorem impl_CountByRest.step_mono (z : Int) (k : Nat) (l : List Int) (s : Int) : LeO (impl_CountByRest.step z k l s) (impl_CountByRest.step z (k + 1) l s) := LeO.bind (impl_rest.mono _ _) (fun _ => LeO.refl _)
theorem impl_CountByRest.mono : ∀ a0 a1 a2 k,LeO (impl_CountByRest.f k a0 a1 a2) (impl_CountByRest.f (k + 1) a0 a1 a2) := fun a0 a1 a2 k => by
 unfold impl_CountByRest.f
 refine LeO.bind (LeO.refl _) (fun _ => LeO.ite (LeO.bind (LeO.refl _) (fun _ => LeO.ite (LeO.bind (LeO.refl _) (fun _ => LeO.ite (LeO.bind ?_ (fun _ => LeO.refl _)) (LeO.refl _))) (LeO.refl _))) (LeO.refl _))
 exact lists_mono (impl_CountByRest.step_mono a2) _ _ _ _ _
/-- The two boxes that the closure holds. -/
def impl_CountByRest.Held (b5 b8 : Nat) (z s : Int) (W : World) : Prop := W.heap[b5]? = some (.cells #[.int .i64 z] 3 (0,0)) ∧ W.heap[b8]? = some (.cells #[.int .i64 s] 3 (0,0))
set_option maxHeartbeats 4000000 in
set_option maxRecDepth 100000 in
theorem impl_CountByRest.lit (b5 b8 : Nat) (hne : b5 ≠ b8) (z : Int) (k : Nat) (N : Nat) (W w0 : World) (A : Option Addr) (cc : Nat) (l : List Int) (s s' : Int) (hB : Below w0.heap.size w0 W) (h8 : w0.heap.size ≤ b8) (hI : impl_CountByRest.Held b5 b8 z s W) (hR : Kd.R (Kd.int .i64) 3 W w0.heap.size (fun k_ => N ≤ k_) (.slice A l.length cc) l) (h : impl_CountByRest.step z k l s = some s') :
  Calls Try.prog 66 #[.slice A l.length cc, .pointer (some ⟨b5,0,none⟩), .pointer (some ⟨b8,0,none⟩)] W fun e w' => e = .returned (.tuple #[]) ∧ impl_CountByRest.Held b5 b8 z s' w' ∧ Below w0.heap.size w0 w' ∧ Kept W w' (fun k_ => k_ = b8) := by
 obtain ⟨⟨r1,r2,r3⟩,h1,h2⟩ := Option.bind_eq_some_iff.mp h
 by_cases hp : 0 < (r2.length : Int)
 ·simp only at h2
  rw [if_pos hp] at h2
  have h2 := Option.some.inj h2
  have HI := Aside0.mk hI
  have HB := Aside0.mk hB
  have HO := Aside0.mk hR
  have H8 := Aside0.mk h8
  have HP := Aside0.mk hp
  have H1 := Aside0.mk h1
  have HNE := Aside0.mk hne
  clear hI hB hR h8 hp h1 h hne
  by_cases hq : rd r2 0 = z
  ·rw [if_pos hq] at h2
   have H2 := Aside0.mk h2
   have hqb : (rd r2 0 == z) = true := beq_iff_eq.mpr hq
   clear h2 hq
   go_enter Try.func66,Try.ntmps66
   go_wp2_with fail
   refine (impl_rest.calls k (fun k_ => N ≤ k_) A cc l r1 r2 r3 _ (Kd.R_V HO.out) H1.out).mono ?_
   rintro e w1 ⟨v1,v2,rfl,ho,_,hb⟩
   have HV := Aside0.mk ho
   have HB1 := Aside0.mk hb
   clear ho hb
   obtain ⟨A1,c1,e1⟩ := Kd.V_slice HV.out
   subst e1
   obtain ⟨ad,ea,hx⟩ := Kd.at_int (Kd.V_reads' HV.out).2.2 0 (by omega) HP.out
   subst ea
   have q0 : (0 < (r2.length : Int)) = True := eq_true HP.out
   have q1 : (0 < r2.length) = True := eq_true (by have := HP.out;omega)
   (try rw [show ((0 : Int)).toNat = 0 from rfl] at hx)
   (try rw [Addr.add_zero'] at hx)
   have hz : w1.cell? ⟨b5,0,none⟩ = some (.int .i64 z) := (blk_cell (blk_below HI.out.1 HB1.out) 0).trans rfl
   go_wp2
   go_quiet (fail)
   clear hz hx
   generalize hq_ : World.drewN w1 _ = w2
   have HB2 : Aside0 (Below W.heap.size W w2) := ⟨by rw [← hq_];exact pw_below_drewN HB1.out _⟩
   clear hq_
   have HQ := Aside0.mk (blk_below HI.out.2 HB2.out)
   have hz : w2.cell? ⟨b8,0,none⟩ = some (.int .i64 s) := (blk_cell HQ.out 0).trans rfl
   have hf := blk_frozen HQ.out 0
   go_wp2
   first | go_end0 | ((try simp only [Exit.inBlock,Exit.then]);refine bodyPost_ret (results_none rfl _ _ _) rfl ?_)
   refine ⟨rfl,⟨blk_far (blk_below HI.out.1 HB2.out) HNE.out _,?_⟩,below_set (below_then HB.out HB.out.size HB2.out) H8.out,?_⟩
   ·rw [← H2.out];exact blk_put HQ.out 0 _ rfl
   ·exact Kept.setCell (p := ⟨b8,0,none⟩) (Kept.of_below HB2.out (fun k_ => k_ = b8)) (.inl rfl) _
  ·rw [if_neg hq] at h2
   have H2 := Aside0.mk h2
   have hqb : (rd r2 0 == z) = false := beq_eq_false_iff_ne.mpr hq
   clear h2 hq
   go_enter Try.func66,Try.ntmps66
   go_wp2_with fail
   refine (impl_rest.calls k (fun k_ => N ≤ k_) A cc l r1 r2 r3 _ (Kd.R_V HO.out) H1.out).mono ?_
   rintro e w1 ⟨v1,v2,rfl,ho,_,hb⟩
   have HV := Aside0.mk ho
   have HB1 := Aside0.mk hb
   clear ho hb
   obtain ⟨A1,c1,e1⟩ := Kd.V_slice HV.out
   subst e1
   obtain ⟨ad,ea,hx⟩ := Kd.at_int (Kd.V_reads' HV.out).2.2 0 (by omega) HP.out
   subst ea
   have q0 : (0 < (r2.length : Int)) = True := eq_true HP.out
   have q1 : (0 < r2.length) = True := eq_true (by have := HP.out;omega)
   (try rw [show ((0 : Int)).toNat = 0 from rfl] at hx)
   (try rw [Addr.add_zero'] at hx)
   have hz : w1.cell? ⟨b5,0,none⟩ = some (.int .i64 z) := (blk_cell (blk_below HI.out.1 HB1.out) 0).trans rfl
   go_wp2
   go_quiet (fail)
   clear hz hx
   generalize hq_ : World.drewN w1 _ = w2
   have HB2 : Aside0 (Below W.heap.size W w2) := ⟨by rw [← hq_];exact pw_below_drewN HB1.out _⟩
   clear hq_
   go_wp2
   first | go_end0 | ((try simp only [Exit.inBlock,Exit.then]);refine bodyPost_ret (results_none rfl _ _ _) rfl ?_)
   refine ⟨rfl,⟨blk_below HI.out.1 HB2.out,?_⟩,below_then HB.out HB.out.size HB2.out,Kept.of_below HB2.out _⟩
   rw [← H2.out];exact blk_below HI.out.2 HB2.out
 ·simp only at h2
  rw [if_neg hp] at h2
  exact absurd h2 (by simp)
theorem impl_CountByRest.within_b {a lo hi : Int} (h : impl_within.f a lo hi = some true) : lo ≤ a ∧ a ≤ hi := by
 unfold impl_within.f at h
 by_cases c : a ≥ lo
 ·rw [if_pos c] at h
  exact ⟨c,by simpa using h⟩
 ·rw [if_neg c] at h
  simp at h
set_option maxHeartbeats 4000000 in
set_option maxRecDepth 100000 in
theorem impl_CountByRest.calls (k : Nat) (a0 a1 a2 : Int) (r1 : Int) (r2 : Bool) (w : World) (h : impl_CountByRest.f k a0 a1 a2 = some (r1,r2)) :
  Calls Try.prog 10 #[.int .i64 a0, .int .i64 a1, .int .i64 a2] w fun e w' => e = .returned (.tuple #[.int .i64 r1, .bool r2]) ∧ Below w.heap.size w w' := by
 have HB := Aside0.mk (Below.refl w.heap.size w)
 unfold impl_CountByRest.f at h
 obtain ⟨b0,B0,h⟩ := Option.bind_eq_some_iff.mp h
 replace B0 := Aside0.mk B0
 cases b0 with
 | false =>
  rw [if_neg (by decide)] at h
  simp only [Option.some.injEq,Prod.mk.injEq] at h
  obtain ⟨rfl,rfl⟩ := h
  go_enter Try.func10,Try.ntmps10
  go_wp2_with ((with_reducible refine gate_dst (N := 5) rfl ?_);refine box_event ?hg (N := 5) ?hd (cs := #[.int .i64 a2]) (t := 3) ?hr ?_;(case hd => rfl);(case hg => rfl);(case hr => first | (go_simp;done) | (go_simp;rfl));intro g5 hg w1 hbox hb;clear hg hbox;have n0_ := Aside0.mk hb;clear hb HB;have HB := n0_;clear n0_)
  refine (impl_within.calls a0 2 4 false _ B0.out).mono ?_
  rintro e w2 ⟨rfl,hd⟩
  have n0_ := Aside0.mk (below_step HB.out hd.below)
  clear hd HB
  go_wp2
  go_ret2
  exact ⟨rfl,n0_.out⟩
 | true =>
  rw [if_pos rfl] at h
  obtain ⟨b1,B1,h⟩ := Option.bind_eq_some_iff.mp h
  replace B1 := Aside0.mk B1
  cases b1 with
  | false =>
   rw [if_neg (by decide)] at h
   simp only [Option.some.injEq,Prod.mk.injEq] at h
   obtain ⟨rfl,rfl⟩ := h
   go_enter Try.func10,Try.ntmps10
   go_wp2_with ((with_reducible refine gate_dst (N := 5) rfl ?_);refine box_event ?hg (N := 5) ?hd (cs := #[.int .i64 a2]) (t := 3) ?hr ?_;(case hd => rfl);(case hg => rfl);(case hr => first | (go_simp;done) | (go_simp;rfl));intro g5 hg w1 hbox hb;clear hg hbox;have n0_ := Aside0.mk hb;clear hb HB;have HB := n0_;clear n0_)
   refine (impl_within.calls a0 2 4 true _ B0.out).mono ?_
   rintro e w2 ⟨rfl,hd⟩
   have n0_ := Aside0.mk (below_step HB.out hd.below)
   clear hd HB
   go_wp2_with fail
   refine (impl_within.calls a1 0 8 false _ B1.out).mono ?_
   rintro e w3 ⟨rfl,hd⟩
   have n1_ := Aside0.mk (below_step n0_.out hd.below)
   clear hd n0_
   go_wp2
   go_ret2
   exact ⟨rfl,n1_.out⟩
  | true =>
   rw [if_pos rfl] at h
   obtain ⟨b2,B2,h⟩ := Option.bind_eq_some_iff.mp h
   replace B2 := Aside0.mk B2
   cases b2 with
   | false =>
    rw [if_neg (by decide)] at h
    simp only [Option.some.injEq,Prod.mk.injEq] at h
    obtain ⟨rfl,rfl⟩ := h
    go_enter Try.func10,Try.ntmps10
    go_wp2_with ((with_reducible refine gate_dst (N := 5) rfl ?_);refine box_event ?hg (N := 5) ?hd (cs := #[.int .i64 a2]) (t := 3) ?hr ?_;(case hd => rfl);(case hg => rfl);(case hr => first | (go_simp;done) | (go_simp;rfl));intro g5 hg w1 hbox hb;clear hg;have n0_ := Aside0.mk hb;have HK := Aside0.mk hbox;clear hb HB hbox;have HB := n0_;clear n0_)
    refine (impl_within.calls a0 2 4 true _ B0.out).mono ?_
    rintro e w2 ⟨rfl,hd⟩
    have n0_ := Aside0.mk (below_step HB.out hd.below)
    have K0 := Aside0.mk (blk_below HK.out hd.below)
    clear hd HB HK
    go_wp2_with fail
    refine (impl_within.calls a1 0 8 true _ B1.out).mono ?_
    rintro e w3 ⟨rfl,hd⟩
    have n1_ := Aside0.mk (below_step n0_.out hd.below)
    have K1 := Aside0.mk (blk_below K0.out hd.below)
    clear hd n0_ K0
    have hz : w3.cell? ⟨g5,0,none⟩ = some (.int .i64 a2) := (blk_cell K1.out 0).trans rfl
    go_wp2_with fail
    refine (impl_within.calls a2 0 1000 false _ B2.out).mono ?_
    rintro e w4 ⟨rfl,hd⟩
    have n2_ := Aside0.mk (below_step n1_.out hd.below)
    clear hd n1_ hz
    go_wp2
    go_ret2
    exact ⟨rfl,n2_.out⟩
   | true =>
    rw [if_pos rfl] at h
    obtain ⟨c,H3,h⟩ := Option.bind_eq_some_iff.mp h
    simp only [Option.some.injEq,Prod.mk.injEq] at h
    obtain ⟨rfl,rfl⟩ := h
    replace H3 := Aside0.mk H3
    go_enter Try.func10,Try.ntmps10
    go_wp2_with ((with_reducible refine gate_dst (N := 5) rfl ?_);refine box_event ?hg (N := 5) ?hd (cs := #[.int .i64 a2]) (t := 3) ?hr ?_;(case hd => rfl);(case hg => rfl);(case hr => first | (go_simp;done) | (go_simp;rfl));intro g5 hg w1 hbox hb;clear hg;have n0_ := Aside0.mk hb;have HK := Aside0.mk hbox;clear hb HB hbox;have HB := n0_;clear n0_)
    refine (impl_within.calls a0 2 4 true _ B0.out).mono ?_
    rintro e w2 ⟨rfl,hd⟩
    have n0_ := Aside0.mk (below_step HB.out hd.below)
    have K0 := Aside0.mk (blk_below HK.out hd.below)
    clear hd HB HK
    go_wp2_with fail
    refine (impl_within.calls a1 0 8 true _ B1.out).mono ?_
    rintro e w3 ⟨rfl,hd⟩
    have n1_ := Aside0.mk (below_step n0_.out hd.below)
    have K1 := Aside0.mk (blk_below K0.out hd.below)
    clear hd n0_ K0
    have hz : w3.cell? ⟨g5,0,none⟩ = some (.int .i64 a2) := (blk_cell K1.out 0).trans rfl
    go_wp2_with fail
    refine (impl_within.calls a2 0 1000 true _ B2.out).mono ?_
    rintro e w4 ⟨rfl,hd⟩
    have HB := Aside0.mk (below_step n1_.out hd.below)
    have K2 := Aside0.mk (blk_below K1.out hd.below)
    clear hd n1_ hz K1
    have hmf : ∀ (fn : Fn) (first cap : Array Value) (w : World),(Instr.makeFunc fn first cap).run Try.prog w = .ok (.func fn first cap) w := fun _ _ _ _ => rfl
    go_wp2_with ((with_reducible refine gate_dst (N := 8) rfl ?_);refine box_event ?hg (N := 8) ?hd (cs := #[.int .i64 0]) (t := 3) ?hr ?_;(case hd => rfl);(case hg => rfl);(case hr => first | (go_simp;done) | (go_simp;rfl));intro g8 hg w5 hbox hb;have HX := Aside0.mk hb;have HY := Aside0.mk hbox;have HZ := Aside0.mk hg;clear hb hbox hg;have hq0 : w5.cell? ⟨g8,0,none⟩ = some (.int .i64 0) := (blk_cell HY.out 0).trans rfl;have hq1 := blk_frozen HY.out 0)
    clear hq0 hq1
    have hb : Below w4.heap.size w4 (w5.setCell ⟨g8,0,none⟩ (.int .i64 0)) := below_set HX.out (by rw [HZ.out];exact Nat.le_refl _)
    have K3 := Aside0.mk (show (w5.setCell ⟨g8,0,none⟩ (.int .i64 0)).heap[g8]? = some (.cells #[.int .i64 0] 3 (0,0)) from blk_put HY.out 0 _ rfl)
    have G8 := Aside0.mk (show w4.heap.size ≤ g8 by rw [HZ.out];exact Nat.le_refl _)
    clear HX HY HZ
    generalize (w5.setCell ⟨g8,0,none⟩ (.int .i64 0)) = w6 at hb K3 ⊢
    have HB6 := Aside0.mk (below_step HB.out hb)
    have K5 := Aside0.mk (blk_below K2.out hb)
    have L5 := Aside0.mk (blk_lt K2.out)
    have HB4 := Aside0.mk HB.out.size
    clear hb HB K2
    have hr := impl_CountByRest.within_b B0.out
    refine (impl_listsOf.genCountByRest (impl_CountByRest.step a2) (.pointer (some ⟨g5,0,none⟩)) (.pointer (some ⟨g8,0,none⟩)) (fun g s W => w6.heap.size ≤ g ∧ impl_CountByRest.Held g5 g8 a2 s W) (fun k_ => k_ = g8) w w6 k a0 a1 (by omega) (by omega) 0 c HB6.out (fun _ hg => ⟨hg,K5.out,K3.out⟩) ?hI ?hS ?hC H3.out).mono ?_
    case hI => exact fun g s W W' hi hle hk => ⟨hi.1,blk_kept hi.2.1 hk (fun e_ => by have := blk_lt K5.out;have := hi.1;omega),blk_kept hi.2.2 hk (fun e_ => by have := blk_lt K3.out;have := hi.1;omega)⟩
    case hS => exact fun k_ he => he ▸ blk_lt K3.out
    case hC => exact fun k' W g cc l s s' _ hB _ hI hR hs => (impl_CountByRest.lit g5 g8 (by have := L5.out;have := G8.out;omega) a2 k' w6.heap.size W w (some ⟨g,0,none⟩) cc l s s' hB (by have := HB4.out;have := G8.out;omega) hI.2 hR hs).mono fun e w' ⟨h1,h2,h3,h4⟩ => ⟨h1,⟨hI.1,h2⟩,h3,h4⟩
    clear hr
    rintro e w7 ⟨rfl,⟨_,_,hi⟩,hb⟩
    have HI := Aside0.mk hi
    have HB := Aside0.mk hb
    clear hi hb
    have hz : w7.cell? ⟨g8,0,none⟩ = some (.int .i64 c) := (blk_cell HI.out.2 0).trans rfl
    go_wp2
    go_ret2
    exact ⟨rfl,HB.out⟩

end Go.Proofs.Ytpcalkaamfhejaa.P
