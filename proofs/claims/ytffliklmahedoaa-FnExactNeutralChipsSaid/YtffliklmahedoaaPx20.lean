/- Written by a program of this workplace (own_print.py, over the kit's print) for the functions that the statements reach, with contracts of its own. Lean checks it. -/
import Derived.Test.YtffliklmahedoaaPx0
import Derived.Test.YtffliklmahedoaaPx14
namespace Go.Proofs.Ytffliklmahedoaa.P
open Go.RowKit Go.Proofs.YtffliklmahedoaaW.PrintWords Go.Proofs.YtffliklmahedoaaW.PrintLast Go.Proofs.YtffliklmahedoaaW.PrintMore
attribute [local go_sem] max2_int min2_int max_two min_two max_three min_three max_four min_four   -- for this text's walks alone
set_option linter.unusedVariables false
set_option linter.unusedSimpArgs false

/-! ### spec_chComing: function 72 -/
mutual
def spec_chComing.l0 : Nat → Int → List Int → Int → Int → Option (List Int)
 | 0, _, _, _, _ => none
 | k + 1, x1, x5, x12, x13 => if x13 < x12 then (if 0 ≤ x13 then (if x13 < (x5.length : Int) then (spec_chComing.l0 k x1 (x5.set (x13 : Int).toNat 1) x12 (wrap64 (x13 + 1))) else (none)) else (none)) else (spec_chComing.l1 k x1 x5 0)
def spec_chComing.l1 : Nat → Int → List Int → Int → Option (List Int)
 | 0, _, _, _ => none
 | k + 1, x1, x5, x7 => (spec_chClass.f k x5).bind fun t278 => (if t278 = x1 then (some x5) else (spec_chComing.l2 k x1 x5 x7 (x5.length : Int) 0))
def spec_chComing.l2 : Nat → Int → List Int → Int → Int → Int → Option (List Int)
 | 0, _, _, _, _, _ => none
 | k + 1, x1, x5, x7, x27, x28 => if x28 < x27 then (if 0 ≤ x28 then (if x28 < (x5.length : Int) then (spec_chComing.l2 k x1 (x5.set (x28 : Int).toNat 1) x7 x27 (wrap64 (x28 + 1))) else (none)) else (none)) else (if 0 ≤ x7 then (if x7 < (x5.length : Int) then (spec_chComing.l1 k x1 (x5.set (x7 : Int).toNat 0) (wrap64 (x7 + 1))) else (none)) else (none))
end
def spec_chComing.f (k : Nat) (a0 : Int) (a1 : Int) : Option (List Int) := if 0 ≤ a0 then (if (a0 : Int).toNat ≤ 35184372088832 then ((some (List.replicate (a0 : Int).toNat 0 : List Int)).bind fun y274 => (spec_chComing.l0 k a1 y274 (y274.length : Int) 0)) else (none)) else (none)
theorem spec_chComing.mono_l : ∀ k, (∀ y0 y1 y2 y3, LeO (spec_chComing.l0 k y0 y1 y2 y3) (spec_chComing.l0 (k + 1) y0 y1 y2 y3)) ∧ (∀ y0 y1 y2, LeO (spec_chComing.l1 k y0 y1 y2) (spec_chComing.l1 (k + 1) y0 y1 y2)) ∧ (∀ y0 y1 y2 y3 y4, LeO (spec_chComing.l2 k y0 y1 y2 y3 y4) (spec_chComing.l2 (k + 1) y0 y1 y2 y3 y4))
 | 0 => ⟨fun _ _ _ _ r h => by simp [spec_chComing.l0] at h, fun _ _ _ r h => by simp [spec_chComing.l1] at h, fun _ _ _ _ _ r h => by simp [spec_chComing.l2] at h⟩
 | k + 1 => by
  obtain ⟨ih0, ih1, ih2⟩ := spec_chComing.mono_l k
  refine ⟨?_, ?_, ?_⟩
  ·intro y0 y1 y2 y3
   unfold spec_chComing.l0
   repeat' first
   | (with_reducible exact ih0 _ _ _ _)
   | (with_reducible exact ih1 _ _ _)
   | (with_reducible exact ih2 _ _ _ _ _)
   | (with_reducible exact spec_chClass.mono _ _)
   | (with_reducible exact LeO.refl _)
   | (with_reducible exact LeO.none _)
   | (with_reducible refine LeO.ite ?_ ?_)
   | (with_reducible refine LeO.bind ?_ (fun _ => ?_))
   | exact ih0 _ _ _ _
   | exact ih1 _ _ _
   | exact ih2 _ _ _ _ _
   | exact spec_chClass.mono _ _
   | exact LeO.none _
   | refine LeO.ite ?_ ?_
   | refine LeO.bind ?_ (fun _ => ?_)
  ·intro y0 y1 y2
   unfold spec_chComing.l1
   repeat' first
   | (with_reducible exact ih0 _ _ _ _)
   | (with_reducible exact ih1 _ _ _)
   | (with_reducible exact ih2 _ _ _ _ _)
   | (with_reducible exact spec_chClass.mono _ _)
   | (with_reducible exact LeO.refl _)
   | (with_reducible exact LeO.none _)
   | (with_reducible refine LeO.ite ?_ ?_)
   | (with_reducible refine LeO.bind ?_ (fun _ => ?_))
   | exact ih0 _ _ _ _
   | exact ih1 _ _ _
   | exact ih2 _ _ _ _ _
   | exact spec_chClass.mono _ _
   | exact LeO.none _
   | refine LeO.ite ?_ ?_
   | refine LeO.bind ?_ (fun _ => ?_)
  ·intro y0 y1 y2 y3 y4
   unfold spec_chComing.l2
   repeat' first
   | (with_reducible exact ih0 _ _ _ _)
   | (with_reducible exact ih1 _ _ _)
   | (with_reducible exact ih2 _ _ _ _ _)
   | (with_reducible exact spec_chClass.mono _ _)
   | (with_reducible exact LeO.refl _)
   | (with_reducible exact LeO.none _)
   | (with_reducible refine LeO.ite ?_ ?_)
   | (with_reducible refine LeO.bind ?_ (fun _ => ?_))
   | exact ih0 _ _ _ _
   | exact ih1 _ _ _
   | exact ih2 _ _ _ _ _
   | exact spec_chClass.mono _ _
   | exact LeO.none _
   | refine LeO.ite ?_ ?_
   | refine LeO.bind ?_ (fun _ => ?_)
theorem spec_chComing.mono : ∀ a0 a1 k, LeO (spec_chComing.f k a0 a1) (spec_chComing.f (k + 1) a0 a1) := by
 intro a0 a1 k
 obtain ⟨ih0, ih1, ih2⟩ := spec_chComing.mono_l k
 unfold spec_chComing.f
 repeat' first
   | (with_reducible exact ih0 _ _ _ _)
   | (with_reducible exact ih1 _ _ _)
   | (with_reducible exact ih2 _ _ _ _ _)
   | (with_reducible exact spec_chClass.mono _ _)
   | (with_reducible exact LeO.refl _)
   | (with_reducible exact LeO.none _)
   | (with_reducible refine LeO.ite ?_ ?_)
   | (with_reducible refine LeO.bind ?_ (fun _ => ?_))
   | exact ih0 _ _ _ _
   | exact ih1 _ _ _
   | exact ih2 _ _ _ _ _
   | exact spec_chClass.mono _ _
   | exact LeO.none _
   | refine LeO.ite ?_ ?_
   | refine LeO.bind ?_ (fun _ => ?_)
set_option maxHeartbeats 8000000 in
set_option maxRecDepth 100000 in
theorem spec_chComing.calls (k : Nat) (a0 : Int) (a1 : Int) (r : List Int) (w : World) (h : spec_chComing.f k a0 a1 = some r) :
  Calls Try.prog 72 #[.int .i64 a0, .int .i64 a1] w fun e w' => ∃ v0_ : Value, e = .returned (v0_) ∧ Kd.R (Kd.int .i64) 3 w' w.heap.size (fun _ => True) v0_ r ∧ Below w.heap.size w w' := by
 have HB := Aside0.mk (Below.refl w.heap.size w)
 have H : (if 0 ≤ a0 then (if (a0 : Int).toNat ≤ 35184372088832 then ((some (List.replicate (a0 : Int).toNat 0 : List Int)).bind fun y274 => (spec_chComing.l0 k a1 y274 (y274.length : Int) 0)) else (none)) else (none)) = some r := h
 clear h
 by_cases c3 : 0 ≤ a0
 ·rw [if_pos c3] at H
  have c3b0 := eq_true c3
  have c3b1 : decide (0 ≤ a0) = true := decide_eq_true c3
  clear c3
  by_cases c4 : (a0 : Int).toNat ≤ 35184372088832
  ·rw [if_pos c4] at H
   have c4b0 := eq_true c4
   have c4b1 : decide ((a0 : Int).toNat ≤ 35184372088832) = true := decide_eq_true c4
   clear c4
   obtain ⟨y274, hy274⟩ : ∃ y_ : List Int, y_ = (List.replicate (a0 : Int).toNat 0) := ⟨_, rfl⟩
   replace H : (spec_chComing.l0 k a1 y274 (y274.length : Int) 0) = some r := by first | (rw [hy274]; with_reducible exact H) | (have H2_ := (Option.bind_some _ _).symm.trans H; rw [hy274]; with_reducible exact H2_) | (have H2_ := (Option.bind_some _ _).symm.trans H; with_reducible exact H2_) | with_reducible exact H | (rw [hy274]; exact H) | exact H
   have Ny274 := Aside0.mk hy274
   clear hy274
   have H' := Aside0.mk H
   clear H
   go_enter Try.func72, Try.ntmps72
   go_wp2_with (first | ((with_reducible refine gate_dst (N := 10) rfl ?_); refine Kd.R_make (Kd.int .i64) _ 3 rfl (N := 10) rfl 22 _ _ rfl a0 rfl rfl Try.underlying22 (.int .i64 0) 8 info3 rfl (by decide) (by omega) 0 (ok := fun _ => True) (okp := fun _ => True) rfl (fun _ hk => hk) trivial (of_decide_eq_true (by first | (with_reducible assumption) | assumption)) (Nat.le_trans (Nat.mul_le_mul_right _ (of_decide_eq_true (by first | (with_reducible assumption) | assumption) : a0.toNat ≤ 35184372088832)) (by omega)) (Below.refl _ _) (Nat.le_refl _) ?_; intro v275 w5 ho6 hb hg_ hnew_; clear hg_ hnew_; (first | rw [← Ny274.out] at ho6 | (simp only [Int.reduceToNat] at ho6; rw [← Ny274.out] at ho6)); have n0_ := Aside0.mk (Kd.R_lower ho6 (below_size (by repeat (first | (with_reducible first | exact HB.out | apply below_alloc | apply pw_below_drewN | apply below_drew1) | exact HB.out)))); have n1_ := Aside0.mk (below_step (by repeat (first | (with_reducible first | exact HB.out | apply below_alloc | apply pw_below_drewN | apply below_drew1) | exact HB.out)) hb); clear HB; have HO276 := n0_; have HB := n1_; clear n0_ n1_; clear hb ho6; obtain ⟨Ao7, co7, eo7⟩ := Kd.R_slice HO276.out; subst eo7))
   go_loopg [13] k (fun kq v13 w' => ∃ (x5_1 : List Int) (x13_1 : Int), v13 = .int .i64 x13_1 ∧ Aside0 (spec_chComing.l0 kq a1 x5_1 (y274.length : Int) x13_1 = some r) ∧ Aside0 (kq ≤ k) ∧ Aside0 (Kd.R (Kd.int .i64) 3 w' w.heap.size (fun _ => True) (.slice Ao7 y274.length co7) x5_1) ∧ Aside0 (Below w.heap.size w w'))
   case atStart => exact ⟨(y274), (0), (by first | rfl | (simp; done) | (simp [*]; done)), H', ⟨Nat.le_refl _⟩, ⟨by (with_reducible repeat (first | apply Kd.R_alloc | apply Kd.R_drewN | apply Kd.R_drew)); exact HO276.out⟩, ⟨by repeat (first | (with_reducible first | exact HB.out | apply below_alloc | apply pw_below_drewN | apply below_drew1) | exact HB.out)⟩⟩
   case round =>
    clear H'
    try clear p2
    try clear c3
    try clear c3b0
    try clear c3b1
    try clear c4
    try clear c4b0
    try clear c4b1
    try clear c7
    obtain ⟨x5_1, x13_1, rfl, HA, HK1, HO_5, HB⟩ := hrel
    have hl5_1 := (Kd.R_reads' HO_5.out).1
    rw [hl5_1] at HO_5
    (try simp only [hl5_1])
    cases gk with
    | zero => exact absurd HA.out (by simp [spec_chComing.l0])
    | succ k1 =>
     have H := HA.out
     clear HA
     simp only [spec_chComing.l0] at H
     by_cases c8 : x13_1 < (y274.length : Int)
     ·rw [if_pos c8] at H
      have c8b0 : decide (x13_1 < (y274.length : Int)) = true := decide_eq_true c8
      (try simp only [hl5_1] at c8b0)
      clear c8
      by_cases c9 : 0 ≤ x13_1
      ·rw [if_pos c9] at H
       have c9b0 : decide (0 ≤ x13_1) = true := decide_eq_true c9
       clear c9
       by_cases c10 : x13_1 < (x5_1.length : Int)
       ·rw [if_pos c10] at H
        have c10b0 : decide (x13_1 < (x5_1.length : Int)) = true := decide_eq_true c10
        (try simp only [hl5_1] at c10b0)
        clear c10
        obtain ⟨y277, hy277⟩ : ∃ y_ : List Int, y_ = (x5_1.set (x13_1 : Int).toNat 1) := ⟨_, rfl⟩
        replace H : (spec_chComing.l0 k1 a1 y277 (y274.length : Int) (wrap64 (x13_1 + 1))) = some r := by first | (rw [hy277]; with_reducible exact H) | (have H2_ := (Option.bind_some _ _).symm.trans H; rw [hy277]; with_reducible exact H2_) | (have H2_ := (Option.bind_some _ _).symm.trans H; with_reducible exact H2_) | with_reducible exact H | (rw [hy277]; exact H) | exact H
        have Ny277 := Aside0.mk hy277
        clear hy277
        have H' := Aside0.mk H
        clear H
        have p11 : 0 ≤ (x13_1 : Int) := of_decide_eq_true (by first | (with_reducible assumption) | assumption)
        have q11 : (x13_1 : Int) < ((x5_1.length : Int) : Int) := of_decide_eq_true (by first | (with_reducible assumption) | assumption)
        obtain ⟨go11, co11, eo11, gb11, gl11, cl11, HG11⟩ := Kd.R_form HO_5.out (by omega)
        (first | cases eo11 | (injection eo11 with ea_ en_ ec_; (first | subst ea_ | (injection ea_ with ea_; subst ea_)); subst ec_; clear en_))
        have GB11 := Aside0.mk gb11
        have GG11 := Aside0.mk HG11
        clear gb11 gl11 HG11
        obtain ⟨hx11_0, hf11_0⟩ := Kd.R_celln 0 HO_5.out (x13_1 : Int) p11 q11
        replace p11 := eq_true p11
        replace q11 := eq_true q11
        have HP12 := Kd.R_putg HO_5.out (x13_1 : Int) 1
        go_wp2_with (first | ((with_reducible refine gate_store (t := 3) (p := 18) rfl ?_); refine store_event (t := 3) (p := 18) (v := ?vo_w13) (w1 := (wr.setCell ⟨go11, (x13_1 : Int).toNat, none⟩ (.int .i64 1))) ?hg ?ho ?hn ?hr ?_; (case ho => rfl); (case hg => rfl); (case hn => rfl); (case hr => first | (go_simp; done) | (go_simp; rfl)); intro w13 hw; have hg : wr.grownBy w13 (some go11) := (by rw [hw]; exact HP12.2); have hp_ : Kd.R (Kd.int .i64) 3 w13 w.heap.size (fun _ => True) (.slice (some ⟨go11, 0, none⟩) x5_1.length co7) y277 := (by rw [hw, Ny277.out]; exact HP12.1); clear HP12; have n0_ := Aside0.mk (hp_); have n1_ := Aside0.mk ((by rw [hw]; exact below_set (HB.out) GB11.out : Below w.heap.size w w13)); clear HO_5; clear HB; have HO_5 := n0_; have HB := n1_; clear n0_ n1_; clear hg hw hp_))
        (try simp only [← hl5_1])
        go_roundg k1
        case measure => have := HK1.out; omega
        case rel => exact ⟨(y277), (wrap64 (x13_1 + 1)), (by first | rfl | (simp; done) | (simp [*]; done)), H', ⟨by have := HK1.out; omega⟩, ⟨by (try simp only [hl5_1]); (with_reducible repeat (first | apply Kd.R_alloc | apply Kd.R_drewN | apply Kd.R_drew)); exact HO_5.out⟩, ⟨by repeat (first | (with_reducible first | exact HB.out | apply below_alloc | apply pw_below_drewN | apply below_drew1) | exact HB.out)⟩⟩
       ·rw [if_neg c10] at H
        exact absurd H (by simp)
      ·rw [if_neg c9] at H
       exact absurd H (by simp)
     ·rw [if_neg c8] at H
      have c8b0 : decide (x13_1 < (y274.length : Int)) = false := decide_eq_false c8
      (try simp only [hl5_1] at c8b0)
      clear c8
      have H' := Aside0.mk H
      clear H
      go_wp2
      go_loopg [7] k1 (fun kq v7 w' => ∃ (x5_2 : List Int) (x7_2 : Int), v7 = .int .i64 x7_2 ∧ Aside0 (spec_chComing.l1 kq a1 x5_2 x7_2 = some r) ∧ Aside0 (kq ≤ k1) ∧ Aside0 (Kd.R (Kd.int .i64) 3 w' w.heap.size (fun _ => True) (.slice Ao7 x5_1.length co7) x5_2) ∧ Aside0 (Below w.heap.size w w'))
      case atStart => exact ⟨(x5_1), (0), (by first | rfl | (simp; done) | (simp [*]; done)), H', ⟨Nat.le_refl _⟩, ⟨by (try simp only [hl5_1]); (with_reducible repeat (first | apply Kd.R_alloc | apply Kd.R_drewN | apply Kd.R_drew)); exact HO_5.out⟩, ⟨by repeat (first | (with_reducible first | exact HB.out | apply below_alloc | apply pw_below_drewN | apply below_drew1) | exact HB.out)⟩⟩
      case round =>
       clear H'
       try clear c1
       try clear p1
       try clear q1
       try clear hx1
       try clear p2
       try clear c3
       try clear c3b0
       try clear c3b1
       try clear c4
       try clear c4b0
       try clear c4b1
       try clear p6
       try clear c7
       try clear c8
       try clear c8b0
       try clear c9
       try clear c9b0
       try clear c10
       try clear c10b0
       try clear p11
       try clear q11
       try clear hx11
       try clear hf11
       try clear hx11_0
       try clear p11
       try clear p2
       try clear q11
       obtain ⟨x5_2, x7_2, rfl, HA, HK2, HO_5, HB⟩ := hrel
       have hl5_2 := (Kd.R_reads' HO_5.out).1
       rw [hl5_2] at HO_5
       (try simp only [hl5_2])
       cases gk with
       | zero => exact absurd HA.out (by simp [spec_chComing.l1])
       | succ k2 =>
        have H := HA.out
        clear HA
        simp only [spec_chComing.l1] at H
        replace H := Option.bind_eq_some_iff.mp H
        obtain ⟨t278, A140, H⟩ := H
        replace H : (if t278 = a1 then (some x5_2) else (spec_chComing.l2 k2 a1 x5_2 x7_2 (x5_2.length : Int) 0)) = some r := H
        have A14 := Aside0.mk A140
        clear A140
        by_cases c15 : t278 = a1
        ·rw [if_pos c15] at H
         have c15b0 : (t278 == a1) = true := beq_iff_eq.mpr c15
         have c15b1 : (t278 != a1) = false := bne_eq_false_iff_eq.mpr c15
         clear c15
         obtain rfl := Option.some.inj H
         go_wp2_with (first | ((with_reducible refine gate_callee (f := 64) rfl ?_); refine goesL_ (some 21) rfl rfl Try.func64 (by kernel_rfl) rfl #[.slice Ao7 x5_2.length co7] rfl (by (try simp only [List.map_toArray, List.map_cons, List.map_nil]); first | done | rfl | (simp only [List.length_drop, List.length_take]; rfl)) ?_; (with_reducible refine (spec_chClass.calls k2 _ _ x5_2 t278 _ ?side1 ?side2 A14.out).mono ?_); (case side1 => repeat (first | exact (Kd.R_reads' HO_5.out).2.2 | (with_reducible refine Kd.C_alloc ?_ _) | (with_reducible refine Kd.C_drewN ?_ _) | (with_reducible refine Kd.C_drew ?_))); (case side2 => exact (Kd.R_reads' HO_5.out).2.1); rintro e w' ⟨rfl, ⟨nd, rfl⟩⟩; refine ⟨_, rfl, ?_⟩))
         go_ret
         exact ⟨_, by first | rfl | (simp [errW_none, errW_some] <;> rfl) | (simp [*, errW_none, errW_some] <;> rfl), by (with_reducible repeat (first | apply Kd.R_alloc | apply Kd.R_drewN | apply Kd.R_drew)); exact HO_5.out, by repeat (first | (with_reducible first | exact HB.out | apply below_alloc | apply pw_below_drewN | apply below_drew1) | exact HB.out)⟩
        ·rw [if_neg c15] at H
         have c15b0 : (t278 == a1) = false := beq_eq_false_iff_ne.mpr c15
         have c15b1 : (t278 != a1) = true := bne_iff_ne.mpr c15
         have H' := Aside0.mk H
         clear H
         go_wp2_with (first | ((with_reducible refine gate_callee (f := 64) rfl ?_); refine goesL_ (some 21) rfl rfl Try.func64 (by kernel_rfl) rfl #[.slice Ao7 x5_2.length co7] rfl (by (try simp only [List.map_toArray, List.map_cons, List.map_nil]); first | done | rfl | (simp only [List.length_drop, List.length_take]; rfl)) ?_; (with_reducible refine (spec_chClass.calls k2 _ _ x5_2 t278 _ ?side1 ?side2 A14.out).mono ?_); (case side1 => repeat (first | exact (Kd.R_reads' HO_5.out).2.2 | (with_reducible refine Kd.C_alloc ?_ _) | (with_reducible refine Kd.C_drewN ?_ _) | (with_reducible refine Kd.C_drew ?_))); (case side2 => exact (Kd.R_reads' HO_5.out).2.1); rintro e w' ⟨rfl, ⟨nd, rfl⟩⟩; refine ⟨_, rfl, ?_⟩))
         go_loopg [28] k2 (fun kq v28 w' => ∃ (x5_3 : List Int) (x28_3 : Int), v28 = .int .i64 x28_3 ∧ Aside0 (spec_chComing.l2 kq a1 x5_3 x7_2 (x5_2.length : Int) x28_3 = some r) ∧ Aside0 (kq ≤ k2) ∧ Aside0 (Kd.R (Kd.int .i64) 3 w' w.heap.size (fun _ => True) (.slice Ao7 x5_2.length co7) x5_3) ∧ Aside0 (Below w.heap.size w w'))
         case atStart => exact ⟨(x5_2), (0), (by first | rfl | (simp; done) | (simp [*]; done)), H', ⟨Nat.le_refl _⟩, ⟨by (try simp only [hl5_1]); (try simp only [hl5_2]); (with_reducible repeat (first | apply Kd.R_alloc | apply Kd.R_drewN | apply Kd.R_drew)); exact HO_5.out⟩, ⟨by repeat (first | (with_reducible first | exact HB.out | apply below_alloc | apply pw_below_drewN | apply below_drew1) | exact HB.out)⟩⟩
         case round =>
          clear H'
          try clear c1
          try clear p1
          try clear q1
          try clear hx1
          try clear p2
          try clear c3
          try clear c3b0
          try clear c3b1
          try clear c4
          try clear c4b0
          try clear c4b1
          try clear c6
          try clear p6
          try clear c7
          try clear c8
          try clear c8b0
          try clear c9
          try clear c9b0
          try clear c10
          try clear c10b0
          try clear p11
          try clear q11
          try clear hx11
          try clear hf11
          try clear c15
          try clear c15b0
          try clear c15b1
          try clear hx11_0
          try clear p1
          try clear p11
          try clear p2
          try clear p6
          try clear q1
          try clear q11
          obtain ⟨x5_3, x28_3, rfl, HA, HK3, HO_5, HB⟩ := hrel
          have hl5_3 := (Kd.R_reads' HO_5.out).1
          rw [hl5_3] at HO_5
          (try simp only [hl5_3])
          cases gk with
          | zero => exact absurd HA.out (by simp [spec_chComing.l2])
          | succ k3 =>
           have H := HA.out
           clear HA
           simp only [spec_chComing.l2] at H
           by_cases c16 : x28_3 < (x5_2.length : Int)
           ·rw [if_pos c16] at H
            have c16b0 : decide (x28_3 < (x5_2.length : Int)) = true := decide_eq_true c16
            (try simp only [hl5_1, hl5_2, hl5_3] at c16b0)
            clear c16
            by_cases c17 : 0 ≤ x28_3
            ·rw [if_pos c17] at H
             have c17b0 : decide (0 ≤ x28_3) = true := decide_eq_true c17
             clear c17
             by_cases c18 : x28_3 < (x5_3.length : Int)
             ·rw [if_pos c18] at H
              have c18b0 : decide (x28_3 < (x5_3.length : Int)) = true := decide_eq_true c18
              (try simp only [hl5_1, hl5_2, hl5_3] at c18b0)
              clear c18
              obtain ⟨y279, hy279⟩ : ∃ y_ : List Int, y_ = (x5_3.set (x28_3 : Int).toNat 1) := ⟨_, rfl⟩
              replace H : (spec_chComing.l2 k3 a1 y279 x7_2 (x5_2.length : Int) (wrap64 (x28_3 + 1))) = some r := by first | (rw [hy279]; with_reducible exact H) | (have H2_ := (Option.bind_some _ _).symm.trans H; rw [hy279]; with_reducible exact H2_) | (have H2_ := (Option.bind_some _ _).symm.trans H; with_reducible exact H2_) | with_reducible exact H | (rw [hy279]; exact H) | exact H
              have Ny279 := Aside0.mk hy279
              clear hy279
              have H' := Aside0.mk H
              clear H
              have p19 : 0 ≤ (x28_3 : Int) := of_decide_eq_true (by first | (with_reducible assumption) | assumption)
              have q19 : (x28_3 : Int) < ((x5_3.length : Int) : Int) := of_decide_eq_true (by first | (with_reducible assumption) | assumption)
              obtain ⟨go19, co19, eo19, gb19, gl19, cl19, HG19⟩ := Kd.R_form HO_5.out (by omega)
              (first | cases eo19 | (injection eo19 with ea_ en_ ec_; (first | subst ea_ | (injection ea_ with ea_; subst ea_)); subst ec_; clear en_))
              have GB19 := Aside0.mk gb19
              have GG19 := Aside0.mk HG19
              clear gb19 gl19 HG19
              obtain ⟨hx19_0, hf19_0⟩ := Kd.R_celln 0 HO_5.out (x28_3 : Int) p19 q19
              replace p19 := eq_true p19
              replace q19 := eq_true q19
              have HP20 := Kd.R_putg HO_5.out (x28_3 : Int) 1
              go_wp2_with (first | ((with_reducible refine gate_store (t := 3) (p := 33) rfl ?_); refine store_event (t := 3) (p := 33) (v := ?vo_w21) (w1 := (wr.setCell ⟨go19, (x28_3 : Int).toNat, none⟩ (.int .i64 1))) ?hg ?ho ?hn ?hr ?_; (case ho => rfl); (case hg => rfl); (case hn => rfl); (case hr => first | (go_simp; done) | (go_simp; rfl)); intro w21 hw; have hg : wr.grownBy w21 (some go19) := (by rw [hw]; exact HP20.2); have hp_ : Kd.R (Kd.int .i64) 3 w21 w.heap.size (fun _ => True) (.slice (some ⟨go19, 0, none⟩) x5_3.length co7) y279 := (by rw [hw, Ny279.out]; exact HP20.1); clear HP20; have n0_ := Aside0.mk (hp_); have n1_ := Aside0.mk ((by rw [hw]; exact below_set (HB.out) GB19.out : Below w.heap.size w w21)); clear HO_5; clear HB; have HO_5 := n0_; have HB := n1_; clear n0_ n1_; clear hg hw hp_))
              (try simp only [← hl5_3])
              go_roundg k3
              case measure => have := HK1.out; have := HK2.out; have := HK3.out; omega
              case rel => exact ⟨(y279), (wrap64 (x28_3 + 1)), (by first | rfl | (simp; done) | (simp [*]; done)), H', ⟨by have := HK1.out; have := HK2.out; have := HK3.out; omega⟩, ⟨by (try simp only [hl5_1]); (try simp only [hl5_2]); (try simp only [hl5_3]); (with_reducible repeat (first | apply Kd.R_alloc | apply Kd.R_drewN | apply Kd.R_drew)); exact HO_5.out⟩, ⟨by repeat (first | (with_reducible first | exact HB.out | apply below_alloc | apply pw_below_drewN | apply below_drew1) | exact HB.out)⟩⟩
             ·rw [if_neg c18] at H
              exact absurd H (by simp)
            ·rw [if_neg c17] at H
             exact absurd H (by simp)
           ·rw [if_neg c16] at H
            have c16b0 : decide (x28_3 < (x5_2.length : Int)) = false := decide_eq_false c16
            (try simp only [hl5_1, hl5_2, hl5_3] at c16b0)
            clear c16
            by_cases c22 : 0 ≤ x7_2
            ·rw [if_pos c22] at H
             have c22b0 : decide (0 ≤ x7_2) = true := decide_eq_true c22
             clear c22
             by_cases c23 : x7_2 < (x5_3.length : Int)
             ·rw [if_pos c23] at H
              have c23b0 : decide (x7_2 < (x5_3.length : Int)) = true := decide_eq_true c23
              (try simp only [hl5_1, hl5_2, hl5_3] at c23b0)
              clear c23
              obtain ⟨y280, hy280⟩ : ∃ y_ : List Int, y_ = (x5_3.set (x7_2 : Int).toNat 0) := ⟨_, rfl⟩
              replace H : (spec_chComing.l1 k3 a1 y280 (wrap64 (x7_2 + 1))) = some r := by first | (rw [hy280]; with_reducible exact H) | (have H2_ := (Option.bind_some _ _).symm.trans H; rw [hy280]; with_reducible exact H2_) | (have H2_ := (Option.bind_some _ _).symm.trans H; with_reducible exact H2_) | with_reducible exact H | (rw [hy280]; exact H) | exact H
              have Ny280 := Aside0.mk hy280
              clear hy280
              have H' := Aside0.mk H
              clear H
              have p24 : 0 ≤ (x7_2 : Int) := of_decide_eq_true (by first | (with_reducible assumption) | assumption)
              have q24 : (x7_2 : Int) < ((x5_3.length : Int) : Int) := of_decide_eq_true (by first | (with_reducible assumption) | assumption)
              obtain ⟨go24, co24, eo24, gb24, gl24, cl24, HG24⟩ := Kd.R_form HO_5.out (by omega)
              (first | cases eo24 | (injection eo24 with ea_ en_ ec_; (first | subst ea_ | (injection ea_ with ea_; subst ea_)); subst ec_; clear en_))
              have GB24 := Aside0.mk gb24
              have GG24 := Aside0.mk HG24
              clear gb24 gl24 HG24
              obtain ⟨hx24_0, hf24_0⟩ := Kd.R_celln 0 HO_5.out (x7_2 : Int) p24 q24
              replace p24 := eq_true p24
              replace q24 := eq_true q24
              have HP25 := Kd.R_putg HO_5.out (x7_2 : Int) 0
              go_wp2_with (first | ((with_reducible refine gate_store (t := 3) (p := 37) rfl ?_); refine store_event (t := 3) (p := 37) (v := ?vo_w26) (w1 := (wr.setCell ⟨go24, (x7_2 : Int).toNat, none⟩ (.int .i64 0))) ?hg ?ho ?hn ?hr ?_; (case ho => rfl); (case hg => rfl); (case hn => rfl); (case hr => first | (go_simp; done) | (go_simp; rfl)); intro w26 hw; have hg : wr.grownBy w26 (some go24) := (by rw [hw]; exact HP25.2); have hp_ : Kd.R (Kd.int .i64) 3 w26 w.heap.size (fun _ => True) (.slice (some ⟨go24, 0, none⟩) x5_3.length co7) y280 := (by rw [hw, Ny280.out]; exact HP25.1); clear HP25; have n0_ := Aside0.mk (hp_); have n1_ := Aside0.mk ((by rw [hw]; exact below_set (HB.out) GB24.out : Below w.heap.size w w26)); clear HO_5; clear HB; have HO_5 := n0_; have HB := n1_; clear n0_ n1_; clear hg hw hp_))
              (try simp only [← hl5_2, ← hl5_3])
              go_roundg k3
              case measure => have := HK1.out; have := HK2.out; have := HK3.out; omega
              case rel => exact ⟨(y280), (wrap64 (x7_2 + 1)), (by first | rfl | (simp; done) | (simp [*]; done)), H', ⟨by have := HK1.out; have := HK2.out; have := HK3.out; omega⟩, ⟨by (try simp only [hl5_1]); (try simp only [hl5_2]); (try simp only [hl5_3]); (with_reducible repeat (first | apply Kd.R_alloc | apply Kd.R_drewN | apply Kd.R_drew)); exact HO_5.out⟩, ⟨by repeat (first | (with_reducible first | exact HB.out | apply below_alloc | apply pw_below_drewN | apply below_drew1) | exact HB.out)⟩⟩
             ·rw [if_neg c23] at H
              exact absurd H (by simp)
            ·rw [if_neg c22] at H
             exact absurd H (by simp)
  ·rw [if_neg c4] at H
   exact absurd H (by simp)
 ·rw [if_neg c3] at H
  exact absurd H (by simp)

/-! ### bits_Mul32: function 91 -/
def bits_Mul32.f (a0 : Int) (a1 : Int) : Option (Int × Int) := some (((IntKind.u64.wrap ((IntKind.u64.wrap (a0)) * (IntKind.u64.wrap (a1)))) / 4294967296) % 4294967296, (IntKind.u64.wrap ((IntKind.u64.wrap (a0)) * (IntKind.u64.wrap (a1)))) % 4294967296)
set_option maxHeartbeats 8000000 in
set_option maxRecDepth 100000 in
theorem bits_Mul32.calls (a0 : Int) (a1 : Int) (r1 : Int) (r2 : Int) (w : World) (h : bits_Mul32.f a0 a1 = some (r1, r2)) :
  Calls Try.prog 91 #[.int .u32 a0, .int .u32 a1] w fun e w' => e = .returned (.tuple #[.int .u32 r1, .int .u32 r2]) ∧ Drawn0 w w' := by
 have H : (some (((IntKind.u64.wrap ((IntKind.u64.wrap (a0)) * (IntKind.u64.wrap (a1)))) / 4294967296) % 4294967296, (IntKind.u64.wrap ((IntKind.u64.wrap (a0)) * (IntKind.u64.wrap (a1)))) % 4294967296)) = some (r1, r2) := h
 clear h
 simp only [Option.some.injEq, Prod.mk.injEq] at H
 obtain ⟨rfl, rfl⟩ := H
 go_enter Try.func91, Try.ntmps91
 go_wp2
 go_ret2
 exact ⟨by first | rfl | (simp; done) | (simp [*]; done), by repeat (first | exact Drawn0.refl _ | apply Drawn0.step)⟩

/-! ### bits_Mul64: function 92 -/
def bits_Mul64.f (a0 : Int) (a1 : Int) : Option (Int × Int) := some (IntKind.u64.wrap ((IntKind.u64.wrap ((IntKind.u64.wrap ((a0 / 4294967296) * (a1 / 4294967296))) + ((IntKind.u64.wrap ((IntKind.u64.wrap ((a0 / 4294967296) * (Go.bits .and .u64 a1 4294967295))) + ((IntKind.u64.wrap ((Go.bits .and .u64 a0 4294967295) * (Go.bits .and .u64 a1 4294967295))) / 4294967296))) / 4294967296))) + ((IntKind.u64.wrap ((Go.bits .and .u64 (IntKind.u64.wrap ((IntKind.u64.wrap ((a0 / 4294967296) * (Go.bits .and .u64 a1 4294967295))) + ((IntKind.u64.wrap ((Go.bits .and .u64 a0 4294967295) * (Go.bits .and .u64 a1 4294967295))) / 4294967296))) 4294967295) + (IntKind.u64.wrap ((Go.bits .and .u64 a0 4294967295) * (a1 / 4294967296))))) / 4294967296)), IntKind.u64.wrap (a0 * a1))
set_option maxHeartbeats 8000000 in
set_option maxRecDepth 100000 in
theorem bits_Mul64.calls (a0 : Int) (a1 : Int) (r1 : Int) (r2 : Int) (w : World) (h : bits_Mul64.f a0 a1 = some (r1, r2)) :
  Calls Try.prog 92 #[.int .u64 a0, .int .u64 a1] w fun e w' => e = .returned (.tuple #[.int .u64 r1, .int .u64 r2]) ∧ Drawn0 w w' := by
 have H : (some (IntKind.u64.wrap ((IntKind.u64.wrap ((IntKind.u64.wrap ((a0 / 4294967296) * (a1 / 4294967296))) + ((IntKind.u64.wrap ((IntKind.u64.wrap ((a0 / 4294967296) * (Go.bits .and .u64 a1 4294967295))) + ((IntKind.u64.wrap ((Go.bits .and .u64 a0 4294967295) * (Go.bits .and .u64 a1 4294967295))) / 4294967296))) / 4294967296))) + ((IntKind.u64.wrap ((Go.bits .and .u64 (IntKind.u64.wrap ((IntKind.u64.wrap ((a0 / 4294967296) * (Go.bits .and .u64 a1 4294967295))) + ((IntKind.u64.wrap ((Go.bits .and .u64 a0 4294967295) * (Go.bits .and .u64 a1 4294967295))) / 4294967296))) 4294967295) + (IntKind.u64.wrap ((Go.bits .and .u64 a0 4294967295) * (a1 / 4294967296))))) / 4294967296)), IntKind.u64.wrap (a0 * a1))) = some (r1, r2) := h
 clear h
 simp only [Option.some.injEq, Prod.mk.injEq] at H
 obtain ⟨rfl, rfl⟩ := H
 go_enter Try.func92, Try.ntmps92
 go_wp2
 go_ret2
 exact ⟨by first | rfl | (simp; done) | (simp [*]; done), by repeat (first | exact Drawn0.refl _ | apply Drawn0.step)⟩

/-! ### bits_Mul: function 88 -/
def bits_Mul.f (a0 : Int) (a1 : Int) : Option (Int × Int) := (bits_Mul64.f a0 a1).bind fun bt286 => (some (bt286.1, bt286.2))
set_option maxHeartbeats 8000000 in
set_option maxRecDepth 100000 in
theorem bits_Mul.calls (a0 : Int) (a1 : Int) (r1 : Int) (r2 : Int) (w : World) (h : bits_Mul.f a0 a1 = some (r1, r2)) :
  Calls Try.prog 88 #[.int .u64 a0, .int .u64 a1] w fun e w' => e = .returned (.tuple #[.int .u64 r1, .int .u64 r2]) ∧ Drawn0 w w' := by
 have H : ((bits_Mul64.f a0 a1).bind fun bt286 => (some (bt286.1, bt286.2))) = some (r1, r2) := h
 clear h
 replace H := Option.bind_eq_some_iff.mp H
 obtain ⟨⟨t286, t287⟩, A30, H⟩ := H
 replace H : (some (t286, t287)) = some (r1, r2) := H
 have A3 := Aside0.mk A30
 clear A30
 simp only [Option.some.injEq, Prod.mk.injEq] at H
 obtain ⟨rfl, rfl⟩ := H
 go_enter Try.func88, Try.ntmps88
 go_wp2_with (first | ((with_reducible refine gate_callee (f := 92) rfl ?_); refine goesL_ (some 25) rfl rfl Try.func92 (by kernel_rfl) rfl #[.int .u64 a0, .int .u64 a1] rfl (by (try simp only [List.map_toArray, List.map_cons, List.map_nil]); first | done | rfl | (simp only [List.length_drop, List.length_take]; rfl)) ?_; (with_reducible refine (bits_Mul64.calls a0 a1 t286 t287 _ A3.out).mono ?_); rintro e w' ⟨rfl, ⟨nd, rfl⟩⟩; refine ⟨_, rfl, ?_⟩))
 go_ret2
 exact ⟨by first | rfl | (simp; done) | (simp [*]; done), by repeat (first | exact Drawn0.refl _ | apply Drawn0.step)⟩

/-! ### slices_Repeat_int_int: function 73 -/
def slices_Repeat_int_int.f (l0 : List Int) (a1 : Int) : Option (List Int) := if l0.length = 1 ∧ 1 ≤ a1 ∧ a1 ≤ 1048576 then some (List.replicate a1.toNat (rd l0 0)) else none
def RepAt (w : World) (g cap n m : Nat) (v : Value) : Prop := ∃ cur : List Value, w.heap[g]? = some (.cells cur.toArray 3 (0, 0)) ∧ cur.length = cap ∧ n ≤ cap ∧ cap ≤ maxLen ∧ ∀ j, j < m → cur[j]? = some v
theorem rep_block {w1 : World} {base g cap n : Nat} {ok : Nat → Prop} (h : Kd.R (Kd.int .i64) 3 w1 base ok (.slice (some ⟨g, 0, none⟩) (List.replicate n (0 : Int)).length cap) (List.replicate n 0)) (hn : 1 ≤ n) :
  ∃ cur : List Value, w1.heap[g]? = some (.cells cur.toArray 3 (0, 0)) ∧ cur.length = cap ∧ n ≤ cap ∧ cap ≤ maxLen := by
 obtain ⟨inner, hi, h2⟩ := Kd.R_own h
 rcases h2 with ⟨h3, h4⟩ | ⟨g', cap', cur, h3, _, h4, h5, h6, h7, _⟩
 ·simp at h3
 ·injection h3 with e1 e2 e3
  injection e1 with e1
  injection e1 with e1 _ _
  subst e1 e3
  exact ⟨cur.toList, by simpa using h4, by have : cur.size = cap * 1 := h7; simpa using this, by simpa using h5, h6⟩
theorem rep_R {w1 : World} {base g cap n : Nat} {x : Int} (h : RepAt w1 g cap n n (.int .i64 x)) (hb : base ≤ g) : Kd.R (Kd.int .i64) 3 w1 base (fun _ => True) (.slice (some ⟨g, 0, none⟩) n cap) (List.replicate n x) := by
 obtain ⟨cur, h1, h2, h3, h4, h5⟩ := h
 refine Kd.R_of_own ⟨by simp [encs_length], .inr ⟨g, cap, cur.toArray, by simp, hb, h1, by simpa using h3, h4, by simpa using h2, ?_⟩⟩ (fun _ _ => trivial)
 apply List.ext_getElem?
 intro j
 simp only [List.length_replicate, Nat.mul_one, encs, List.map_replicate]
 rw [List.getElem?_take]
 by_cases hj : j < n
 ·rw [if_pos hj, h5 j hj]; simp [hj]
 ·rw [if_neg hj]; simp [hj]
theorem rep_step {w2 : World} {g cap n m c : Nat} {v : Value} {cur : List Value} (hl : cur.length = cap) (h3 : n ≤ cap) (h4 : cap ≤ maxLen) (h5 : ∀ j, j < m → cur[j]? = some v) (hmc : m + c ≤ cap) (h : w2.heap[g]? = some (.cells (splice cur m (List.replicate c v)).toArray 3 (0, 0))) : RepAt w2 g cap n (m + c) v := by
 refine ⟨_, h, ?_, h3, h4, fun j hj => ?_⟩
 ·simp [splice]; omega
 ·unfold splice
  by_cases a : j < m
  ·rw [List.getElem?_append_left (by simp; omega), List.getElem?_take, if_pos a, h5 j a]
  ·have e : (cur.take m).length = m := by rw [List.length_take, hl]; omega
   rw [List.getElem?_append_right (by omega), e, List.getElem?_append_left (by simp; omega), List.getElem?_replicate, if_pos (by omega)]
theorem rep_start {w2 : World} {g cap n : Nat} {v : Value} {cur : List Value} (hl : cur.length = cap) (h3 : n ≤ cap) (hn : 1 ≤ n) (h4 : cap ≤ maxLen) (h : w2.heap[g]? = some (.cells (splice cur 0 [v]).toArray 3 (0, 0))) : RepAt w2 g cap n 1 v := by
 have := rep_step (w2 := w2) (n := n) (m := 0) (c := 1) (v := v) hl h3 h4 (fun j hj => absurd hj (by omega)) (by omega) h
 simpa using this
theorem rep_src {w2 : World} {g m c : Nat} {x : Int} {cur : List Value} (h : w2.heap[g]? = some (.cells cur.toArray 3 (0, 0))) (h5 : ∀ j, j < m → cur[j]? = some (.int .i64 x)) {j : Nat} {v : Value} (hj : (List.replicate (min m c) (Value.int .i64 x))[j]? = some v) : w2.cell? (Addr.add ⟨g, 0, none⟩ j) = some v := by
 rw [List.getElem?_replicate] at hj
 split at hj
 ·injection hj with hj
  subst hj
  rw [add_plain]
  have := h5 j (by omega)
  simp [World.cell?, h, this]
 ·cases hj
theorem wrap_u64 (n : Int) : IntKind.u64.wrap n = n % 18446744073709551616 := by simp [IntKind.wrap, IntKind.bits, IntKind.signed]
theorem and_low (x : Int) (h0 : 0 ≤ x) (h1 : x ≤ 1048576) : Go.bits .and .u64 x 4294967295 = x := by
 have := bits_mask .u64 62 (by decide) (fun n h0 h1 => by rw [wrap_u64]; omega) 32 (by decide) x h0 (by omega)
 have e : (2 : Int) ^ 32 - 1 = 4294967295 := by decide
 have e2 : (2 : Int) ^ 32 = 4294967296 := by decide
 rw [e, e2] at this
 rw [this]; omega
theorem mul_one_small (n : Int) (h0 : 0 ≤ n) (h1 : n ≤ 1048576) : bits_Mul.f 1 n = some (0, n) := by
 unfold bits_Mul.f bits_Mul64.f
 rw [and_low n h0 h1, and_low 1 (by omega) (by omega)]
 simp only [Option.bind_some, wrap_u64]
 rw [show (1 : Int) / 4294967296 = 0 by omega, show n / 4294967296 = 0 by omega]
 simp only [Int.zero_mul, Int.mul_zero, Int.one_mul]
 rw [show (n % 18446744073709551616) / 4294967296 = 0 by omega]
 have a0 := and_low 0 (by omega) (by omega)
 simp only [show (0 : Int) % 18446744073709551616 = 0 by decide, show (0 : Int) + 0 = 0 by decide, a0, show (0 : Int) / 4294967296 = 0 by decide]
 congr 2
 omega
set_option maxHeartbeats 4000000 in
theorem slices_Repeat_int_int.calls (A0 : Option Addr) (c0 : Nat) (l0 : List Int) (a1 : Int) (r : List Int) (w : World) (hr0 : Kd.C (Kd.int .i64) w A0 l0.length l0) (hc0 : l0.length ≤ c0) (h : slices_Repeat_int_int.f l0 a1 = some r) :
  Calls Try.prog 73 #[.slice A0 l0.length c0, .int .i64 a1] w fun e w' => ∃ v0_ : Value, e = .returned (v0_) ∧ Kd.R (Kd.int .i64) 3 w' w.heap.size (fun _ => True) v0_ r ∧ Below w.heap.size w w' := by
 unfold slices_Repeat_int_int.f at h
 by_cases c : l0.length = 1 ∧ 1 ≤ a1 ∧ a1 ≤ 1048576
 ·rw [if_pos c] at h
  obtain ⟨c1, c2, c3⟩ := c
  obtain ⟨x, rfl⟩ : ∃ x, l0 = [x] := by
   match l0, c1 with
   | [x], _ => exact ⟨x, rfl⟩
  obtain ⟨ad, e1, hx⟩ := Kd.at_int hr0 0 (by omega) (by simp)
  have hm := mul_one_small a1 (by omega) c3
  have HM := Aside0.mk hm
  clear hm hr0 c1
  subst e1
  have HR := Aside0.mk (Option.some.inj h)
  clear h
  obtain ⟨n, rfl⟩ := Int.eq_ofNat_of_zero_le (show 0 ≤ a1 by omega)
  have d1 : decide ((n : Int) < 0) = false := decide_eq_false (by omega)
  have HB := Aside0.mk (Below.refl w.heap.size w)
  have HX := Aside0.mk hx
  clear hx
  have hsz3 : (Try.prog.info? 3).map (·.size) = some 1 := by kernel_rfl
  go_enter Try.func73, Try.ntmps73
  go_wp2_with (first | (go_at_call 88; refine (bits_Mul.calls _ _ _ _ _ HM.out).mono ?_; rintro e w' ⟨rfl, ⟨nd, rfl⟩⟩) | ((with_reducible refine gate_dst (N := 30) rfl ?_); refine Kd.R_make (Kd.int .i64) (w0 := w) w.heap.size 3 rfl (N := 30) rfl 22 _ _ rfl (n : Int) rfl rfl Try.underlying22 (.int .i64 0) 8 info3 rfl (by decide) (by omega) 0 (ok := fun _ => True) (okp := fun _ => True) rfl (fun _ hk => hk) trivial (by omega) (by omega) (pw_below_drewN HB.out _) (Nat.le_refl _) ?_; intro v1 w1 ho hb hg_ hnew_; clear hg_ hnew_; obtain ⟨g, cap, rfl, hg0, _, _⟩ := Kd.R_form ho (by simp; omega); obtain ⟨cur, q1, q2, q3, q4⟩ := rep_block ho (by omega); clear HB; have HB := Aside0.mk hb; clear hb ho; have Q1 := Aside0.mk q1; have Q4 := Aside0.mk q4; clear q1 q4) | ((with_reducible refine gate_dst (N := 33) rfl ?_); refine wpList_copy_splice rfl (.tmp 31) (.tmp 32) 22 22 rfl 3 Try.underlying22 hsz3 (some ⟨g, 0, none⟩) (some ad) n cap 1 c0 rfl rfl g 0 cur 3 Q1.out [.int .i64 x] ?a1 ?a2 ?a3 ?a4 w.heap.size w HB.out hg0 ?_; (case a1 => show 1 = min 1 n; omega); (case a2 => exact fun _ => ⟨rfl, ad, rfl, fun j v hj => by match j, hj with | 0, hj => (simp at hj; subst hj; exact (HB.out.cell (World.block_lt_of_cell? w _ HX.out)).trans HX.out)⟩); (case a3 => show 0 + 1 ≤ cur.length; omega); (case a4 => intro v hv; simp at hv; subst hv; rfl); intro w2 q5 q6; have Q5 : Aside0 (RepAt w2 g cap n 1 (.int .i64 x)) := ⟨rep_start q2 (by omega) (by omega) Q4.out q5.out⟩; clear HB; have HB := Aside0.mk q6; clear q5 q6 Q1))
  go_loopw [8] (fun c wr => ∃ m : Nat, 1 ≤ m ∧ m ≤ n ∧ c = .int .i64 m ∧ Aside0 (RepAt wr g cap n m (.int .i64 x)) ∧ Aside0 (Below w.heap.size w wr)) (fun c _ => n - (intOf c).toNat)
  case atStart => exact ⟨1, by omega, by omega, rfl, Q5, HB⟩
  case round =>
   obtain ⟨m, hm1, hm2, rfl, HQ, HB2⟩ := hrel
   obtain ⟨cur2, r1, r2, r3, r4, r5⟩ := HQ.out
   have R1 := Aside0.mk r1
   have R5 := Aside0.mk r5
   clear r1 r4 r5
   by_cases hlt : m < n
   ·have c0b : decide ((m : Int) < (n : Int)) = true := decide_eq_true (by omega)
    have hcap : cap ≤ 9223372036854775807 := by have := Q4.out; unfold maxLen at this; omega
    have RH := Aside0.mk r2
    obtain ⟨c, hc⟩ : ∃ c, c = min m (n - m) := ⟨_, rfl⟩
    have hc1 : 1 ≤ c := by omega
    have hc2 : m + c ≤ n := by omega
    have HC := Aside0.mk hc
    clear hc
    have hle : m ≤ cap := by omega
    have hne : ¬ cap = m := by omega
    clear r2 q2
    go_wp2
    go_region_law (refine step_copy_splice rfl (.tmp 41) (.tmp 44) 22 22 rfl 3 Try.underlying22 hsz3 (some ⟨g, m, none⟩) (some ⟨g, 0, none⟩) (n - m) (cap - m) m cap (by simp [Act.eval, Act.put]) (by simp [Act.eval, Act.put]) g m cur2 3 (by exact R1.out) (List.replicate c (.int .i64 x)) (by rw [List.length_replicate]; exact HC.out) (fun _ => ⟨rfl, _, rfl, fun j v hj => rep_src (c := n - m) R1.out R5.out (by rw [← HC.out]; exact hj)⟩) (by simp; have := RH.out; omega) (by intro v hv; rw [(List.mem_replicate.1 hv).2]; rfl) w.heap.size w (by exact (below_drew HB2.out)) hg0 ?_; intro w4 hg4 hb4)
    have Q7 : Aside0 (RepAt w4 g cap n (m + c) (.int .i64 x)) := ⟨rep_step RH.out r3 Q4.out R5.out (by omega) hg4.out⟩
    have HB3 := Aside0.mk hb4
    clear hb4 hg4
    go_wp2
    go_roundw
    case rel =>
     have hw : IntKind.i64.wrap ((m : Int) + (c : Int)) = ((m + c : Nat) : Int) := by
      have := Q4.out; unfold maxLen at this
      rw [IntKind.wrap_i64]; omega
     rw [hw]
     exact ⟨_, _, _, _, _, _, _, _, _, _, _, _, _, _, ⟨m + c, by omega, by omega, rfl, Q7, HB3⟩, rfl⟩
    case measure =>
     have hw : IntKind.i64.wrap ((m : Int) + (c : Int)) = ((m + c : Nat) : Int) := by
      have := Q4.out; unfold maxLen at this
      rw [IntKind.wrap_i64]; omega
     rw [hw]
     show n - (intOf (.int .i64 ((m + c : Nat) : Int))).toNat < n - (intOf (.int .i64 (m : Int))).toNat
     simp [intOf]; omega
   ·obtain rfl : m = n := by omega
    go_wp2
    go_ret
    exact ⟨_, rfl, by have h1 := rep_R HQ.out hg0; rw [← HR.out]; simpa [rd] using h1, HB2.out⟩
 ·rw [if_neg c] at h
  exact absurd h (by simp)

end Go.Proofs.Ytffliklmahedoaa.P
