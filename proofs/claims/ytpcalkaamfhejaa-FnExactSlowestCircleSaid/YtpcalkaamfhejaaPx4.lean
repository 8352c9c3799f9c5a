/- Written by a program of this workplace (own_print.py, over the kit's print) for the functions that the statements reach, with contracts of its own. Lean checks it. -/
import Derived.Test.YtpcalkaamfhejaaPx0
import Derived.Test.YtpcalkaamfhejaaPx1
namespace Go.Proofs.Ytpcalkaamfhejaa.P
open Go.RowKit Go.Proofs.YtpcalkaamfhejaaW.PrintWords Go.Proofs.YtpcalkaamfhejaaW.PrintLast Go.Proofs.YtpcalkaamfhejaaW.PrintMore
attribute [local go_sem] max2_int min2_int max_two min_two max_three min_three max_four min_four   -- for this text's walks alone
set_option linter.unusedVariables false
set_option linter.unusedSimpArgs false

/-! ### spec_cyRun: function 63 -/
def spec_cyRun.l0 : Nat → List Int → Int → Option (List Int × Int)
 | 0,_,_ => none
 | k + 1,x0,x4 => (spec_cyRest.f k x0).bind fun t143 => (if t143 = true then (some (x0,x4)) else ((spec_cyStep.f k x0).bind fun t144 => (spec_cyRun.l0 k t144 (wrap64 (x4 + 1)))))
def spec_cyRun.f (k : Nat) (l0 : List Int) : Option (List Int × Int) := spec_cyRun.l0 k l0 0
theorem spec_cyRun.mono_l : ∀ k,(∀ y0 y1,LeO (spec_cyRun.l0 k y0 y1) (spec_cyRun.l0 (k + 1) y0 y1))
 | 0 => fun _ _ r h => by simp [spec_cyRun.l0] at h
 | k + 1 => by
  have ih0 := spec_cyRun.mono_l k
  ·intro y0 y1
   unfold spec_cyRun.l0
   repeat' first
   | (with_reducible exact ih0 _ _)
   | (with_reducible exact spec_cyRest.mono _ _)
   | (with_reducible exact spec_cyStep.mono _ _)
   | (with_reducible exact LeO.refl _)
   | (with_reducible exact LeO.none _)
   | (with_reducible refine LeO.ite ?_ ?_)
   | (with_reducible refine LeO.bind ?_ (fun _ => ?_))
   | exact ih0 _ _
   | exact spec_cyRest.mono _ _
   | exact spec_cyStep.mono _ _
   | exact LeO.none _
   | refine LeO.ite ?_ ?_
   | refine LeO.bind ?_ (fun _ => ?_)
theorem spec_cyRun.mono : ∀ a0 k,LeO (spec_cyRun.f k a0) (spec_cyRun.f (k + 1) a0) := by
 intro a0 k
 have ih0 := spec_cyRun.mono_l k
 unfold spec_cyRun.f
 repeat' first
   | (with_reducible exact ih0 _ _)
   | (with_reducible exact spec_cyRest.mono _ _)
   | (with_reducible exact spec_cyStep.mono _ _)
   | (with_reducible exact LeO.refl _)
   | (with_reducible exact LeO.none _)
   | (with_reducible refine LeO.ite ?_ ?_)
   | (with_reducible refine LeO.bind ?_ (fun _ => ?_))
   | exact ih0 _ _
   | exact spec_cyRest.mono _ _
   | exact spec_cyStep.mono _ _
   | exact LeO.none _
   | refine LeO.ite ?_ ?_
   | refine LeO.bind ?_ (fun _ => ?_)
set_option maxHeartbeats 8000000 in
set_option maxRecDepth 100000 in
theorem spec_cyRun.calls (k : Nat) (P0_ : Nat → Prop) (A0 : Option Addr) (c0 : Nat) (l0 : List Int) (r1 : List Int) (r2 : Int) (w : World) (hs0 : Kd.V (Kd.int .i64) 3 w w.heap.size (fun k_ => P0_ k_) (.slice A0 l0.length c0) l0) (h : spec_cyRun.f k l0 = some (r1,r2)) :
  Calls Try.prog 63 #[.slice A0 l0.length c0] w fun e w' => ∃ v0_ : Value,e = .returned (.tuple #[v0_, .int .i64 r2]) ∧ Kd.V (Kd.int .i64) 3 w' w.heap.size (fun k_ => (P0_ k_ ∨ w.heap.size ≤ k_)) v0_ r1 ∧ Below w.heap.size w w' := by
 have HO0 := Aside0.mk (show Kd.V (Kd.int .i64) 3 w w.heap.size (fun k_ => (P0_ k_ ∨ w.heap.size ≤ k_)) (.slice A0 l0.length c0) l0 from Kd.V_mono hs0 (fun k_ hk => .inl hk))
 have HB := Aside0.mk (Below.refl w.heap.size w)
 have H : (spec_cyRun.l0 k l0 0) = some (r1,r2) := h
 clear h
 have H' := Aside0.mk H
 clear H
 go_enter Try.func63,Try.ntmps63
 go_wp2
 go_loopg [0,4] k (fun kq v0 v4 w' => ∃ (x0_1 : List Int) (x4_1 : Int),v4 = .int .i64 x4_1 ∧ Aside0 (spec_cyRun.l0 kq x0_1 x4_1 = some (r1,r2)) ∧ Aside0 (kq ≤ k) ∧ Aside0 (Kd.V (Kd.int .i64) 3 w' w.heap.size (fun k_ => (P0_ k_ ∨ w.heap.size ≤ k_)) v0 x0_1) ∧ Aside0 (Below w.heap.size w w'))
 case atStart => exact ⟨(l0),(0),(by first | rfl | (simp;done) | (simp [*];done)),H',⟨Nat.le_refl _⟩,⟨by (with_reducible repeat (first | apply Kd.V_alloc | apply Kd.V_drewN | apply Kd.V_drew));exact HO0.out⟩,⟨by repeat (first | (with_reducible first | exact HB.out | apply below_alloc | apply pw_below_drewN | apply below_drew1) | exact HB.out)⟩⟩
 case round =>
  clear H'
  obtain ⟨x0_1,x4_1,rfl,HA,HK1,HO_0,HB⟩ := hrel
  cases gk with
  | zero => exact absurd HA.out (by simp [spec_cyRun.l0])
  | succ k1 =>
   have H := HA.out
   clear HA
   simp only [spec_cyRun.l0] at H
   replace H := Option.bind_eq_some_iff.mp H
   obtain ⟨t143,A20,H⟩ := H
   replace H : (if t143 = true then (some (x0_1,x4_1)) else ((spec_cyStep.f k1 x0_1).bind fun t144 => (spec_cyRun.l0 k1 t144 (wrap64 (x4_1 + 1))))) = some (r1,r2) := H
   have A2 := Aside0.mk A20
   clear A20
   by_cases c3 : t143 = true
   ·subst c3
    have H1 : (some (x0_1,x4_1)) = some (r1,r2) := by rw [if_pos rfl] at H;exact H
    clear H
    have H := H1
    clear H1
    simp only [Option.some.injEq,Prod.mk.injEq] at H
    obtain ⟨rfl,rfl⟩ := H
    obtain ⟨Ao4,co4,eo4⟩ := Kd.V_slice HO_0.out
    subst eo4
    go_wp2_with (first | ((with_reducible refine gate_callee (f := 86) rfl ?_);refine goesL_ (some 6) rfl rfl Try.func86 (by kernel_rfl) rfl #[.slice Ao4 x0_1.length co4] rfl (by (try simp only [List.map_toArray,List.map_cons,List.map_nil]);first | done | rfl | (simp only [List.length_drop,List.length_take];rfl)) ?_;(with_reducible refine (spec_cyRest.calls k1 _ _ x0_1 true _ ?side1 ?side2 A2.out).mono ?_);(case side1 => repeat (first | exact (Kd.V_reads' HO_0.out).2.2 | (with_reducible refine Kd.C_alloc ?_ _) | (with_reducible refine Kd.C_drewN ?_ _) | (with_reducible refine Kd.C_drew ?_)));(case side2 => exact (Kd.V_reads' HO_0.out).2.1);rintro e w5 ⟨rfl,hb⟩;refine ⟨_,rfl,?_⟩;have n0_ := Aside0.mk (Kd.V_below (by (with_reducible repeat (first | apply Kd.V_alloc | apply Kd.V_drewN | apply Kd.V_drew));exact HO_0.out) hb);have n1_ := Aside0.mk (below_step (by repeat (first | (with_reducible first | exact HB.out | apply below_alloc | apply pw_below_drewN | apply below_drew1) | exact HB.out)) hb);clear HO_0;clear HB;have HO_0 := n0_;have HB := n1_;clear n0_ n1_;(try clear hb);(try clear hb2);(try clear hk);(try clear hi)))
    go_ret2
    exact ⟨_,by first | rfl | (simp [errW_none,errW_some] <;> rfl) | (simp [*,errW_none,errW_some] <;> rfl),by (with_reducible repeat (first | apply Kd.V_alloc | apply Kd.V_drewN | apply Kd.V_drew));exact HO_0.out,by repeat (first | (with_reducible first | exact HB.out | apply below_alloc | apply pw_below_drewN | apply below_drew1) | exact HB.out)⟩
   ·replace c3 := Bool.eq_false_iff.mpr c3
    subst c3
    have H1 : ((spec_cyStep.f k1 x0_1).bind fun t144 => (spec_cyRun.l0 k1 t144 (wrap64 (x4_1 + 1)))) = some (r1,r2) := by rw [if_neg (show ¬ (false = true) by decide)] at H;exact H
    clear H
    have H := H1
    clear H1
    replace H := Option.bind_eq_some_iff.mp H
    obtain ⟨t144,A60,H⟩ := H
    replace H : (spec_cyRun.l0 k1 t144 (wrap64 (x4_1 + 1))) = some (r1,r2) := H
    have A6 := Aside0.mk A60
    clear A60
    have H' := Aside0.mk H
    clear H
    obtain ⟨Ao7,co7,eo7⟩ := Kd.V_slice HO_0.out
    subst eo7
    go_wp2_with (first | ((with_reducible refine gate_callee (f := 86) rfl ?_);refine goesL_ (some 6) rfl rfl Try.func86 (by kernel_rfl) rfl #[.slice Ao7 x0_1.length co7] rfl (by (try simp only [List.map_toArray,List.map_cons,List.map_nil]);first | done | rfl | (simp only [List.length_drop,List.length_take];rfl)) ?_;(with_reducible refine (spec_cyRest.calls k1 _ _ x0_1 false _ ?side1 ?side2 A2.out).mono ?_);(case side1 => repeat (first | exact (Kd.V_reads' HO_0.out).2.2 | (with_reducible refine Kd.C_alloc ?_ _) | (with_reducible refine Kd.C_drewN ?_ _) | (with_reducible refine Kd.C_drew ?_)));(case side2 => exact (Kd.V_reads' HO_0.out).2.1);rintro e w8 ⟨rfl,hb⟩;refine ⟨_,rfl,?_⟩;have n0_ := Aside0.mk (Kd.V_below (by (with_reducible repeat (first | apply Kd.V_alloc | apply Kd.V_drewN | apply Kd.V_drew));exact HO_0.out) hb);have n1_ := Aside0.mk (below_step (by repeat (first | (with_reducible first | exact HB.out | apply below_alloc | apply pw_below_drewN | apply below_drew1) | exact HB.out)) hb);clear HO_0;clear HB;have HO_0 := n0_;have HB := n1_;clear n0_ n1_;(try clear hb);(try clear hb2);(try clear hk);(try clear hi)) | ((with_reducible refine gate_callee (f := 83) rfl ?_);refine goesL_ (some 9) rfl rfl Try.func83 (by kernel_rfl) rfl #[.slice Ao7 x0_1.length co7] rfl (by (try simp only [List.map_toArray,List.map_cons,List.map_nil]);first | done | rfl | (simp only [List.length_drop,List.length_take];rfl)) ?_;(with_reducible refine (spec_cyStep.calls k1 _ _ x0_1 t144 _ ?side1 ?side2 A6.out).mono ?_);(case side1 => repeat (first | exact (Kd.V_reads' HO_0.out).2.2 | (with_reducible refine Kd.C_alloc ?_ _) | (with_reducible refine Kd.C_drewN ?_ _) | (with_reducible refine Kd.C_drew ?_)));(case side2 => exact (Kd.V_reads' HO_0.out).2.1);rintro e w9 ⟨v145,rfl,ho0,hb⟩;refine ⟨_,rfl,?_⟩;have n0_ := Aside0.mk (Kd.V_elder' (by (with_reducible repeat (first | apply Kd.V_alloc | apply Kd.V_drewN | apply Kd.V_drew));exact HO_0.out) (Kd.R_base ho0) hb);have n1_ := Aside0.mk (Kd.R_lower (Kd.R_newM (M := fun k_ => (w.heap.size ≤ k_)) ho0 (below_size (by repeat (first | (with_reducible first | exact HB.out | apply below_alloc | apply pw_below_drewN | apply below_drew1) | exact HB.out))) (fun k_ h_ => h_)) (below_size (by repeat (first | (with_reducible first | exact HB.out | apply below_alloc | apply pw_below_drewN | apply below_drew1) | exact HB.out))));have n2_ := Aside0.mk (below_step (by repeat (first | (with_reducible first | exact HB.out | apply below_alloc | apply pw_below_drewN | apply below_drew1) | exact HB.out)) hb);clear HO_0;clear HB;have HO_0 := n0_;have HO146 := n1_;have HB := n2_;clear n0_ n1_ n2_;(try clear hb);(try clear hb2);(try clear hk);(try clear hi);(try clear ho0)))
    go_roundg k1
    case measure => have := HK1.out;omega
    case rel => exact ⟨(t144),(wrap64 (x4_1 + 1)),(by first | rfl | (simp;done) | (simp [*];done)),H',⟨by have := HK1.out;omega⟩,⟨Kd.V_mono (Kd.R_V (by (with_reducible repeat (first | apply Kd.R_alloc | apply Kd.R_drewN | apply Kd.R_drew));exact Kd.R_mono HO146.out (fun _ hk => hk.1))) (fun k_ hk => by first | exact ⟨(.inr (hk.1)),hk.2⟩ | exact (.inr (hk)))⟩,⟨by repeat (first | (with_reducible first | exact HB.out | apply below_alloc | apply pw_below_drewN | apply below_drew1) | exact HB.out)⟩⟩

end Go.Proofs.Ytpcalkaamfhejaa.P
