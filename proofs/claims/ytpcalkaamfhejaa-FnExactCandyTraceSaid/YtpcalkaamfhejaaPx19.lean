/- Written by a program of this workplace (own_print.py, over the kit's print) for the functions that the statements reach, with contracts of its own. Lean checks it. -/
import Derived.Test.YtpcalkaamfhejaaPx0
import Derived.Test.YtpcalkaamfhejaaPx5
import Derived.Test.YtpcalkaamfhejaaPx7
import Derived.Test.YtpcalkaamfhejaaPx12
namespace Go.Proofs.Ytpcalkaamfhejaa.P
open Go.RowKit Go.Proofs.YtpcalkaamfhejaaW.PrintWords Go.Proofs.YtpcalkaamfhejaaW.PrintLast Go.Proofs.YtpcalkaamfhejaaW.PrintMore
attribute [local go_sem] max2_int min2_int max_two min_two max_three min_three max_four min_four   -- for this text's walks alone
set_option linter.unusedVariables false
set_option linter.unusedSimpArgs false

/-! ### laws_eqIntSS: function 19 -/
def laws_eqIntSS.l0 : Nat → List (List Int) → List (List Int) → Int → Option (Bool)
 | 0, _, _, _ => none
 | k + 1, x0, x1, x5 => if x5 < (x0.length : Int) then (if 0 ≤ x5 then (if x5 < (x1.length : Int) then ((laws_eqIntS.f k (rd_L1 x0 x5) (rd_L1 x1 x5)).bind fun t229 => (if t229 = true then (laws_eqIntSS.l0 k x0 x1 (wrap64 (x5 + 1))) else (some false))) else (none)) else (none)) else (some true)
def laws_eqIntSS.f (k : Nat) (l0 : List (List Int)) (l1 : List (List Int)) : Option (Bool) := if (l0.length : Int) = (l1.length : Int) then (laws_eqIntSS.l0 k l0 l1 0) else (some false)
theorem laws_eqIntSS.mono_l : ∀ k, (∀ y0 y1 y2, LeO (laws_eqIntSS.l0 k y0 y1 y2) (laws_eqIntSS.l0 (k + 1) y0 y1 y2))
 | 0 => fun _ _ _ r h => by simp [laws_eqIntSS.l0] at h
 | k + 1 => by
  have ih0 := laws_eqIntSS.mono_l k
  ·intro y0 y1 y2
   unfold laws_eqIntSS.l0
   repeat' first
   | (with_reducible exact ih0 _ _ _)
   | (with_reducible exact laws_eqIntS.mono _ _ _)
   | (with_reducible exact LeO.refl _)
   | (with_reducible exact LeO.none _)
   | (with_reducible refine LeO.ite ?_ ?_)
   | (with_reducible refine LeO.bind ?_ (fun _ => ?_))
   | exact ih0 _ _ _
   | exact laws_eqIntS.mono _ _ _
   | exact LeO.none _
   | refine LeO.ite ?_ ?_
   | refine LeO.bind ?_ (fun _ => ?_)
theorem laws_eqIntSS.mono : ∀ a0 a1 k, LeO (laws_eqIntSS.f k a0 a1) (laws_eqIntSS.f (k + 1) a0 a1) := by
 intro a0 a1 k
 have ih0 := laws_eqIntSS.mono_l k
 unfold laws_eqIntSS.f
 repeat' first
   | (with_reducible exact ih0 _ _ _)
   | (with_reducible exact laws_eqIntS.mono _ _ _)
   | (with_reducible exact LeO.refl _)
   | (with_reducible exact LeO.none _)
   | (with_reducible refine LeO.ite ?_ ?_)
   | (with_reducible refine LeO.bind ?_ (fun _ => ?_))
   | exact ih0 _ _ _
   | exact laws_eqIntS.mono _ _ _
   | exact LeO.none _
   | refine LeO.ite ?_ ?_
   | refine LeO.bind ?_ (fun _ => ?_)
set_option maxHeartbeats 8000000 in
set_option maxRecDepth 100000 in
theorem laws_eqIntSS.calls (k : Nat) (A0 : Option Addr) (c0 : Nat) (l0 : List (List Int)) (A1 : Option Addr) (c1 : Nat) (l1 : List (List Int)) (r : Bool) (w : World) (hr0 : Kd.C (Kd.slice 3 (Kd.int .i64)) w A0 l0.length l0) (hc0 : l0.length ≤ c0) (hr1 : Kd.C (Kd.slice 3 (Kd.int .i64)) w A1 l1.length l1) (hc1 : l1.length ≤ c1) (h : laws_eqIntSS.f k l0 l1 = some r) :
  Calls Try.prog 19 #[.slice A0 l0.length c0, .slice A1 l1.length c1] w fun e w' => e = .returned (.bool r) ∧ Drawn0 w w' := by
 have HR0 := Aside0.mk hr0
 have HC0 := Aside0.mk hc0
 clear hr0 hc0
 have HR1 := Aside0.mk hr1
 have HC1 := Aside0.mk hc1
 clear hr1 hc1
 have H : (if (l0.length : Int) = (l1.length : Int) then (laws_eqIntSS.l0 k l0 l1 0) else (some false)) = some r := h
 clear h
 by_cases c3 : (l0.length : Int) = (l1.length : Int)
 ·rw [if_pos c3] at H
  have c3b0 : ((l0.length : Int) == (l1.length : Int)) = true := beq_iff_eq.mpr c3
  have c3b1 : ((l0.length : Int) != (l1.length : Int)) = false := bne_eq_false_iff_eq.mpr c3
  have c3b2 : (l0.length == l1.length) = true := by first | simpa using c3 | (simp at c3 ⊢; omega)
  clear c3
  have H' := Aside0.mk H
  clear H
  go_enter Try.func19, Try.ntmps19
  go_wp2
  repeat (go_quiet (fail); try go_wp2)
  go_loopg [5] k (fun kq v5 w' => ∃ (x5_1 : Int), v5 = .int .i64 x5_1 ∧ Aside0 (laws_eqIntSS.l0 kq l0 l1 x5_1 = some r) ∧ Aside0 (kq ≤ k) ∧ Drawn0 w w')
  case atStart => exact ⟨(0), (by first | rfl | (simp; done) | (simp [*]; done)), H', ⟨Nat.le_refl _⟩, by repeat (first | exact Drawn0.refl _ | apply Drawn0.step)⟩
  case round =>
   clear H'
   try clear c1
   try clear p2
   try clear c3
   try clear c3b0
   try clear c3b1
   try clear c3b2
   obtain ⟨x5_1, rfl, HA, HK1, ⟨m1, rfl⟩⟩ := hrel
   cases gk with
   | zero => exact absurd HA.out (by simp [laws_eqIntSS.l0])
   | succ k1 =>
    have H := HA.out
    clear HA
    simp only [laws_eqIntSS.l0] at H
    by_cases c4 : x5_1 < (l0.length : Int)
    ·rw [if_pos c4] at H
     have c4b0 : decide (x5_1 < (l0.length : Int)) = true := decide_eq_true c4
     clear c4
     by_cases c5 : 0 ≤ x5_1
     ·rw [if_pos c5] at H
      have c5b0 : decide (0 ≤ x5_1) = true := decide_eq_true c5
      clear c5
      by_cases c6 : x5_1 < (l1.length : Int)
      ·rw [if_pos c6] at H
       have c6b0 : decide (x5_1 < (l1.length : Int)) = true := decide_eq_true c6
       clear c6
       replace H := Option.bind_eq_some_iff.mp H
       obtain ⟨t229, A70, H⟩ := H
       replace H : (if t229 = true then (laws_eqIntSS.l0 k1 l0 l1 (wrap64 (x5_1 + 1))) else (some false)) = some r := H
       have A7 := Aside0.mk A70
       clear A70
       by_cases c8 : t229 = true
       ·subst c8
        have H1 : (laws_eqIntSS.l0 k1 l0 l1 (wrap64 (x5_1 + 1))) = some r := by rw [if_pos rfl] at H; exact H
        clear H
        have H := H1
        clear H1
        have H' := Aside0.mk H
        clear H
        have p227 : 0 ≤ (x5_1 : Int) := of_decide_eq_true (by first | (with_reducible assumption) | assumption)
        have q227 : x5_1 < (l0.length : Int) := of_decide_eq_true (by first | (with_reducible assumption) | assumption)
        obtain ⟨ad227, A227_0, c227_0, e227, hx227_0, hl227_0, hi227_0⟩ := at_L1 HR0.out x5_1 p227 q227
        cases e227
        have HR227_0 := Aside0.mk hi227_0
        have HC227_0 := Aside0.mk hl227_0
        clear hi227_0 hl227_0
        replace p227 := eq_true p227
        replace q227 := eq_true q227
        have p228 : 0 ≤ (x5_1 : Int) := of_decide_eq_true (by first | (with_reducible assumption) | assumption)
        have q228 : x5_1 < (l1.length : Int) := of_decide_eq_true (by first | (with_reducible assumption) | assumption)
        obtain ⟨ad228, A228_0, c228_0, e228, hx228_0, hl228_0, hi228_0⟩ := at_L1 HR1.out x5_1 p228 q228
        cases e228
        have HR228_0 := Aside0.mk hi228_0
        have HC228_0 := Aside0.mk hl228_0
        clear hi228_0 hl228_0
        replace p228 := eq_true p228
        replace q228 := eq_true q228
        go_wp2_with (first | (go_at_call 13; (with_reducible refine (laws_eqIntS.calls k1 _ _ (rd_L1 l0 x5_1) _ _ (rd_L1 l1 x5_1) true _ ?side1 ?side2 ?side3 ?side4 A7.out).mono ?_); (case side1 => repeat (first | exact HR227_0.out | (with_reducible refine Kd.C_alloc ?_ _) | (with_reducible refine Kd.C_drewN ?_ _) | (with_reducible refine Kd.C_drew ?_))); (case side2 => exact HC227_0.out); (case side3 => repeat (first | exact HR228_0.out | (with_reducible refine Kd.C_alloc ?_ _) | (with_reducible refine Kd.C_drewN ?_ _) | (with_reducible refine Kd.C_drew ?_))); (case side4 => exact HC228_0.out); rintro e w' ⟨rfl, ⟨nd, rfl⟩⟩; (try first | exact ⟨rfl, _, World.drewN_drewN _ _ _⟩ | exact ⟨rfl, _, Eq.trans (World.drewN_drewN _ _ _) (congrArg (World.drewN _) (Nat.add_assoc _ _ _))⟩)))
        repeat (go_quiet (first | (go_at_call 13; (with_reducible refine (laws_eqIntS.calls k1 _ _ (rd_L1 l0 x5_1) _ _ (rd_L1 l1 x5_1) true _ ?side1 ?side2 ?side3 ?side4 A7.out).mono ?_); (case side1 => repeat (first | exact HR227_0.out | (with_reducible refine Kd.C_alloc ?_ _) | (with_reducible refine Kd.C_drewN ?_ _) | (with_reducible refine Kd.C_drew ?_))); (case side2 => exact HC227_0.out); (case side3 => repeat (first | exact HR228_0.out | (with_reducible refine Kd.C_alloc ?_ _) | (with_reducible refine Kd.C_drewN ?_ _) | (with_reducible refine Kd.C_drew ?_))); (case side4 => exact HC228_0.out); rintro e w' ⟨rfl, ⟨nd, rfl⟩⟩; (try first | exact ⟨rfl, _, World.drewN_drewN _ _ _⟩ | exact ⟨rfl, _, Eq.trans (World.drewN_drewN _ _ _) (congrArg (World.drewN _) (Nat.add_assoc _ _ _))⟩))); try go_wp2_with (first | (go_at_call 13; (with_reducible refine (laws_eqIntS.calls k1 _ _ (rd_L1 l0 x5_1) _ _ (rd_L1 l1 x5_1) true _ ?side1 ?side2 ?side3 ?side4 A7.out).mono ?_); (case side1 => repeat (first | exact HR227_0.out | (with_reducible refine Kd.C_alloc ?_ _) | (with_reducible refine Kd.C_drewN ?_ _) | (with_reducible refine Kd.C_drew ?_))); (case side2 => exact HC227_0.out); (case side3 => repeat (first | exact HR228_0.out | (with_reducible refine Kd.C_alloc ?_ _) | (with_reducible refine Kd.C_drewN ?_ _) | (with_reducible refine Kd.C_drew ?_))); (case side4 => exact HC228_0.out); rintro e w' ⟨rfl, ⟨nd, rfl⟩⟩; (try first | exact ⟨rfl, _, World.drewN_drewN _ _ _⟩ | exact ⟨rfl, _, Eq.trans (World.drewN_drewN _ _ _) (congrArg (World.drewN _) (Nat.add_assoc _ _ _))⟩))))
        go_roundg k1
        case measure => have := HK1.out; omega
        case rel => exact ⟨(wrap64 (x5_1 + 1)), (by first | rfl | (simp; done) | (simp [*]; done)), H', ⟨by have := HK1.out; omega⟩, by repeat (first | exact Drawn0.refl _ | apply Drawn0.step)⟩
       ·replace c8 := Bool.eq_false_iff.mpr c8
        subst c8
        have H1 : (some false) = some r := by rw [if_neg (show ¬ (false = true) by decide)] at H; exact H
        clear H
        have H := H1
        clear H1
        obtain rfl := Option.some.inj H
        have p227 : 0 ≤ (x5_1 : Int) := of_decide_eq_true (by first | (with_reducible assumption) | assumption)
        have q227 : x5_1 < (l0.length : Int) := of_decide_eq_true (by first | (with_reducible assumption) | assumption)
        obtain ⟨ad227, A227_0, c227_0, e227, hx227_0, hl227_0, hi227_0⟩ := at_L1 HR0.out x5_1 p227 q227
        cases e227
        have HR227_0 := Aside0.mk hi227_0
        have HC227_0 := Aside0.mk hl227_0
        clear hi227_0 hl227_0
        replace p227 := eq_true p227
        replace q227 := eq_true q227
        have p228 : 0 ≤ (x5_1 : Int) := of_decide_eq_true (by first | (with_reducible assumption) | assumption)
        have q228 : x5_1 < (l1.length : Int) := of_decide_eq_true (by first | (with_reducible assumption) | assumption)
        obtain ⟨ad228, A228_0, c228_0, e228, hx228_0, hl228_0, hi228_0⟩ := at_L1 HR1.out x5_1 p228 q228
        cases e228
        have HR228_0 := Aside0.mk hi228_0
        have HC228_0 := Aside0.mk hl228_0
        clear hi228_0 hl228_0
        replace p228 := eq_true p228
        replace q228 := eq_true q228
        go_wp2_with (first | (go_at_call 13; (with_reducible refine (laws_eqIntS.calls k1 _ _ (rd_L1 l0 x5_1) _ _ (rd_L1 l1 x5_1) false _ ?side1 ?side2 ?side3 ?side4 A7.out).mono ?_); (case side1 => repeat (first | exact HR227_0.out | (with_reducible refine Kd.C_alloc ?_ _) | (with_reducible refine Kd.C_drewN ?_ _) | (with_reducible refine Kd.C_drew ?_))); (case side2 => exact HC227_0.out); (case side3 => repeat (first | exact HR228_0.out | (with_reducible refine Kd.C_alloc ?_ _) | (with_reducible refine Kd.C_drewN ?_ _) | (with_reducible refine Kd.C_drew ?_))); (case side4 => exact HC228_0.out); rintro e w' ⟨rfl, ⟨nd, rfl⟩⟩; (try first | exact ⟨rfl, _, World.drewN_drewN _ _ _⟩ | exact ⟨rfl, _, Eq.trans (World.drewN_drewN _ _ _) (congrArg (World.drewN _) (Nat.add_assoc _ _ _))⟩)))
        repeat (go_quiet (first | (go_at_call 13; (with_reducible refine (laws_eqIntS.calls k1 _ _ (rd_L1 l0 x5_1) _ _ (rd_L1 l1 x5_1) false _ ?side1 ?side2 ?side3 ?side4 A7.out).mono ?_); (case side1 => repeat (first | exact HR227_0.out | (with_reducible refine Kd.C_alloc ?_ _) | (with_reducible refine Kd.C_drewN ?_ _) | (with_reducible refine Kd.C_drew ?_))); (case side2 => exact HC227_0.out); (case side3 => repeat (first | exact HR228_0.out | (with_reducible refine Kd.C_alloc ?_ _) | (with_reducible refine Kd.C_drewN ?_ _) | (with_reducible refine Kd.C_drew ?_))); (case side4 => exact HC228_0.out); rintro e w' ⟨rfl, ⟨nd, rfl⟩⟩; (try first | exact ⟨rfl, _, World.drewN_drewN _ _ _⟩ | exact ⟨rfl, _, Eq.trans (World.drewN_drewN _ _ _) (congrArg (World.drewN _) (Nat.add_assoc _ _ _))⟩))); try go_wp2_with (first | (go_at_call 13; (with_reducible refine (laws_eqIntS.calls k1 _ _ (rd_L1 l0 x5_1) _ _ (rd_L1 l1 x5_1) false _ ?side1 ?side2 ?side3 ?side4 A7.out).mono ?_); (case side1 => repeat (first | exact HR227_0.out | (with_reducible refine Kd.C_alloc ?_ _) | (with_reducible refine Kd.C_drewN ?_ _) | (with_reducible refine Kd.C_drew ?_))); (case side2 => exact HC227_0.out); (case side3 => repeat (first | exact HR228_0.out | (with_reducible refine Kd.C_alloc ?_ _) | (with_reducible refine Kd.C_drewN ?_ _) | (with_reducible refine Kd.C_drew ?_))); (case side4 => exact HC228_0.out); rintro e w' ⟨rfl, ⟨nd, rfl⟩⟩; (try first | exact ⟨rfl, _, World.drewN_drewN _ _ _⟩ | exact ⟨rfl, _, Eq.trans (World.drewN_drewN _ _ _) (congrArg (World.drewN _) (Nat.add_assoc _ _ _))⟩))))
        go_ret
        exact ⟨by first | rfl | (simp; done) | (simp [*]; done), by repeat (first | exact Drawn0.refl _ | apply Drawn0.step)⟩
      ·rw [if_neg c6] at H
       exact absurd H (by simp)
     ·rw [if_neg c5] at H
      exact absurd H (by simp)
    ·rw [if_neg c4] at H
     have c4b0 : decide (x5_1 < (l0.length : Int)) = false := decide_eq_false c4
     clear c4
     obtain rfl := Option.some.inj H
     go_wp2
     repeat (go_quiet (fail); try go_wp2)
     go_ret
     exact ⟨by first | rfl | (simp; done) | (simp [*]; done), by repeat (first | exact Drawn0.refl _ | apply Drawn0.step)⟩
 ·rw [if_neg c3] at H
  have c3b0 : ((l0.length : Int) == (l1.length : Int)) = false := beq_eq_false_iff_ne.mpr c3
  have c3b1 : ((l0.length : Int) != (l1.length : Int)) = true := bne_iff_ne.mpr c3
  have c3b2 : (l0.length == l1.length) = false := by first | simpa using c3 | (simp at c3 ⊢; omega)
  obtain rfl := Option.some.inj H
  go_enter Try.func19, Try.ntmps19
  go_wp2
  repeat (go_quiet (fail); try go_wp2)
  go_ret
  exact ⟨by first | rfl | (simp; done) | (simp [*]; done), by repeat (first | exact Drawn0.refl _ | apply Drawn0.step)⟩

/-! ### laws_markIntSS: function 20 -/
def laws_markIntSS.l0 : Nat → List (List Int) → Int → Int → Option (Int × List (List Int))
 | 0, _, _, _ => none
 | k + 1, x0, x1, x5 => if x5 < (x0.length : Int) then (if 0 ≤ x5 then ((laws_markIntS.f k (x0.getD x5.toNat []) x1).bind fun t => (laws_markIntSS.l0 k (x0.set x5.toNat t.2) t.1 (wrap64 (x5 + 1)))) else (none)) else (some (x1, x0))
def laws_markIntSS.f (k : Nat) (l0 : List (List Int)) (a1 : Int) : Option (Int × List (List Int)) := laws_markIntSS.l0 k l0 a1 0
theorem laws_markIntSS.mono_l : ∀ k, (∀ y0 y1 y2, LeO (laws_markIntSS.l0 k y0 y1 y2) (laws_markIntSS.l0 (k + 1) y0 y1 y2))
 | 0 => fun _ _ _ r h => by simp [laws_markIntSS.l0] at h
 | k + 1 => by
  have ih := laws_markIntSS.mono_l k
  intro y0 y1 y2
  unfold laws_markIntSS.l0
  refine LeO.ite ?_ (LeO.refl _)
  refine LeO.ite ?_ (LeO.refl _)
  exact LeO.bind (laws_markIntS.mono _ _ _) (fun _ => ih _ _ _)
theorem laws_markIntSS.mono : ∀ a0 a1 k, LeO (laws_markIntSS.f k a0 a1) (laws_markIntSS.f (k + 1) a0 a1) := fun a0 a1 k => laws_markIntSS.mono_l k a0 a1 0
set_option maxHeartbeats 8000000 in
set_option maxRecDepth 100000 in
/-- Each number of each row is written; the rows lie apart (S), and go on doing so. -/
theorem laws_markIntSS.calls (k : Nat) (P0_ : Nat → Prop) (u : Value) (l0 : List (List Int)) (a1 : Int) (r1 : Int) (r2 : List (List Int)) (w0 w : World) (hB : Below w0.heap.size w0 w) (ho0 : Kd.S (Kd.slice 3 (Kd.int .i64)) 25 w w0.heap.size P0_ u l0) (h : laws_markIntSS.f k l0 a1 = some (r1, r2)) :
  Calls Try.prog 20 #[u, .int .i64 a1] w fun e w' => e = .returned (.int .i64 r1) ∧ Kd.S (Kd.slice 3 (Kd.int .i64)) 25 w' w0.heap.size P0_ u r2 ∧ Below w0.heap.size w0 w' ∧ Kept w w' P0_ := by
 have HO0 := Aside0.mk ho0
 have HK := Aside0.mk (Kept.refl w P0_)
 have HB := Aside0.mk hB
 clear hB ho0
 have H' := Aside0.mk (show laws_markIntSS.l0 k l0 a1 0 = some (r1, r2) from h)
 clear h
 go_enter Try.func20, Try.ntmps20
 go_wp2
 go_loopg [1, 5] k (fun kq v1 v5 w' => ∃ (x0_1 : List (List Int)) (x1_1 : Int) (x5_1 : Int), v1 = .int .i64 x1_1 ∧ v5 = .int .i64 x5_1 ∧ Aside0 (laws_markIntSS.l0 kq x0_1 x1_1 x5_1 = some (r1, r2)) ∧ Aside0 (kq ≤ k) ∧ Aside0 (Kd.S (Kd.slice 3 (Kd.int .i64)) 25 w' w0.heap.size P0_ u x0_1) ∧ Aside0 (Kept w w' P0_) ∧ Aside0 (Below w0.heap.size w0 w'))
 case atStart => exact ⟨l0, a1, 0, rfl, rfl, H', ⟨Nat.le_refl _⟩, ⟨by (with_reducible repeat (first | apply Kd.S_alloc | apply Kd.S_drewN | apply Kd.S_drew)); exact HO0.out⟩, ⟨by repeat (first | (with_reducible first | exact HK.out | apply Kept.alloc | apply Kept.drewN | apply Kept.drew) | exact HK.out)⟩, ⟨by repeat (first | (with_reducible first | exact HB.out | apply below_alloc | apply pw_below_drewN | apply below_drew1) | exact HB.out)⟩⟩
 case round =>
  clear H'
  obtain ⟨x0_1, x1_1, x5_1, rfl, rfl, HA, HK1, HO, HK, HB⟩ := hrel
  cases gk with
  | zero => exact absurd HA.out (by simp [laws_markIntSS.l0])
  | succ k1 =>
   have H := HA.out
   clear HA
   simp only [laws_markIntSS.l0] at H
   by_cases c3 : x5_1 < (x0_1.length : Int)
   ·rw [if_pos c3] at H
    by_cases c4 : 0 ≤ x5_1
    ·rw [if_pos c4] at H
     replace H := Option.bind_eq_some_iff.mp H
     obtain ⟨⟨t1, t2⟩, A5, H⟩ := H
     have HC5 := Aside0.mk A5
     have H' := Aside0.mk H
     clear A5 H
     obtain ⟨g, cap, rfl, hbg, hlt, cells, hcells⟩ := Kd.S_form HO.out (by omega)
     obtain ⟨oki, c, hcl, hM, hcc, hoki, hH⟩ := Kd.S_lend HO.out ([] : List Int) x5_1 c4 (by omega)
     obtain ⟨v, rfl, hR⟩ := hM
     have hx := hcc 0 v rfl
     simp only [show (Kd.slice 3 (Kd.int .i64)).sz = 1 from rfl, Nat.mul_one, Nat.add_zero] at hx
     obtain ⟨Av, cv, ev⟩ := Kd.R_slice hR
     subst ev
     have c3b0 : decide (x5_1 < (x0_1.length : Int)) = true := decide_eq_true c3
     have c4b0 : (0 ≤ x5_1) = True := eq_true c4
     have c3b1 : (x5_1 < (x0_1.length : Int)) = True := eq_true c3
     have HR := Aside0.mk hR
     have HH := Aside0.mk hH
     have HOK := Aside0.mk hoki
     clear hR hH hoki hcc hcells c3 c4 hcl
     generalize x0_1.getD x5_1.toNat [] = row at HR HH hx HC5
     go_wp2_with fail
     refine (laws_markIntS.calls k1 oki _ row x1_1 t1 t2 w0 _ (by repeat (first | (with_reducible first | exact HB.out | apply below_alloc | apply pw_below_drewN | apply below_drew1) | exact HB.out)) (by (with_reducible repeat (first | apply Kd.R_alloc | apply Kd.R_drewN | apply Kd.R_drew)); exact HR.out) HC5.out).mono ?_
     rintro e w2 ⟨rfl, hr, hb, hk⟩
     have hk' : Kept wr w2 oki := ⟨hk.1, fun i hi hn => hk.2 i hi hn⟩
     have hS : Kd.S (Kd.slice 3 (Kd.int .i64)) 25 w2 w0.heap.size P0_ (.slice (some ⟨g, 0, none⟩) x0_1.length cap) (x0_1.set x5_1.toNat t2) :=
      Kd.H_back (Kd.H_step HH.out (fun i _ hn hlt => hk'.2 i hlt hn)) (x' := t2) ⟨_, rfl, Kd.R_tight rfl hr⟩ (fun i e => HR.out.1 i e.symm)
     have n0_ := Aside0.mk hS
     have n1_ := Aside0.mk (show Kept w w2 P0_ from ⟨Nat.le_trans HK.out.1 hk'.1, fun i hi hn => (hk'.2 i (Nat.lt_of_lt_of_le hi HK.out.1) (fun h => hn (HOK.out i h).1)).trans (HK.out.2 i hi hn)⟩)
     have n2_ := Aside0.mk hb
     clear hS hr hb hk hk' HO HK HB HR HH HOK hx
     have HO := n0_
     have HK := n1_
     have HB := n2_
     clear n0_ n1_ n2_
     go_wp2
     go_roundg k1
     case measure => have := HK1.out; omega
     case rel => exact ⟨_, t1, (wrap64 (x5_1 + 1)), rfl, (by first | rfl | (simp; done) | (simp [*]; done)), H', ⟨by have := HK1.out; omega⟩, ⟨by (with_reducible repeat (first | apply Kd.S_alloc | apply Kd.S_drewN | apply Kd.S_drew)); exact HO.out⟩, ⟨by repeat (first | (with_reducible first | exact HK.out | apply Kept.alloc | apply Kept.drewN | apply Kept.drew) | exact HK.out)⟩, ⟨by repeat (first | (with_reducible first | exact HB.out | apply below_alloc | apply pw_below_drewN | apply below_drew1) | exact HB.out)⟩⟩
    ·rw [if_neg c4] at H
     exact absurd H (by simp)
   ·rw [if_neg c3] at H
    have c3b0 : decide (x5_1 < (x0_1.length : Int)) = false := decide_eq_false c3
    clear c3
    simp only [Option.some.injEq, Prod.mk.injEq] at H
    obtain ⟨rfl, rfl⟩ := H
    obtain ⟨Ao9, co9, eo9⟩ := Kd.S_slice HO.out
    subst eo9
    go_wp2
    go_ret
    exact ⟨rfl, by (with_reducible repeat (first | apply Kd.S_alloc | apply Kd.S_drewN | apply Kd.S_drew)); exact HO.out, by repeat (first | (with_reducible first | exact HB.out | apply below_alloc | apply pw_below_drewN | apply below_drew1) | exact HB.out), by repeat (first | (with_reducible first | exact HK.out | apply Kept.alloc | apply Kept.drewN | apply Kept.drew) | exact HK.out)⟩

/-! ### laws_heldIntSS: function 21 -/
def laws_heldIntSS.l0 : Nat → List (List Int) → Int → Int → Option (Int)
 | 0, _, _, _ => none
 | k + 1, x0, x1, x5 => if x5 < (x0.length : Int) then (if 0 ≤ x5 then ((laws_heldIntS.f k (rd_L1 x0 x5) x1).bind fun t231 => (if t231 < 0 then (some (-1)) else (laws_heldIntSS.l0 k x0 t231 (wrap64 (x5 + 1))))) else (none)) else (some x1)
def laws_heldIntSS.f (k : Nat) (l0 : List (List Int)) (a1 : Int) : Option (Int) := laws_heldIntSS.l0 k l0 a1 0
theorem laws_heldIntSS.mono_l : ∀ k, (∀ y0 y1 y2, LeO (laws_heldIntSS.l0 k y0 y1 y2) (laws_heldIntSS.l0 (k + 1) y0 y1 y2))
 | 0 => fun _ _ _ r h => by simp [laws_heldIntSS.l0] at h
 | k + 1 => by
  have ih0 := laws_heldIntSS.mono_l k
  ·intro y0 y1 y2
   unfold laws_heldIntSS.l0
   repeat' first
   | (with_reducible exact ih0 _ _ _)
   | (with_reducible exact laws_heldIntS.mono _ _ _)
   | (with_reducible exact LeO.refl _)
   | (with_reducible exact LeO.none _)
   | (with_reducible refine LeO.ite ?_ ?_)
   | (with_reducible refine LeO.bind ?_ (fun _ => ?_))
   | exact ih0 _ _ _
   | exact laws_heldIntS.mono _ _ _
   | exact LeO.none _
   | refine LeO.ite ?_ ?_
   | refine LeO.bind ?_ (fun _ => ?_)
theorem laws_heldIntSS.mono : ∀ a0 a1 k, LeO (laws_heldIntSS.f k a0 a1) (laws_heldIntSS.f (k + 1) a0 a1) := by
 intro a0 a1 k
 have ih0 := laws_heldIntSS.mono_l k
 unfold laws_heldIntSS.f
 repeat' first
   | (with_reducible exact ih0 _ _ _)
   | (with_reducible exact laws_heldIntS.mono _ _ _)
   | (with_reducible exact LeO.refl _)
   | (with_reducible exact LeO.none _)
   | (with_reducible refine LeO.ite ?_ ?_)
   | (with_reducible refine LeO.bind ?_ (fun _ => ?_))
   | exact ih0 _ _ _
   | exact laws_heldIntS.mono _ _ _
   | exact LeO.none _
   | refine LeO.ite ?_ ?_
   | refine LeO.bind ?_ (fun _ => ?_)
set_option maxHeartbeats 8000000 in
set_option maxRecDepth 100000 in
theorem laws_heldIntSS.calls (k : Nat) (A0 : Option Addr) (c0 : Nat) (l0 : List (List Int)) (a1 : Int) (r : Int) (w : World) (hr0 : Kd.C (Kd.slice 3 (Kd.int .i64)) w A0 l0.length l0) (hc0 : l0.length ≤ c0) (h : laws_heldIntSS.f k l0 a1 = some r) :
  Calls Try.prog 21 #[.slice A0 l0.length c0, .int .i64 a1] w fun e w' => e = .returned (.int .i64 r) ∧ Drawn0 w w' := by
 have HR0 := Aside0.mk hr0
 have HC0 := Aside0.mk hc0
 clear hr0 hc0
 have H : (laws_heldIntSS.l0 k l0 a1 0) = some r := h
 clear h
 have H' := Aside0.mk H
 clear H
 go_enter Try.func21, Try.ntmps21
 go_wp2
 go_loopg [1, 5] k (fun kq v1 v5 w' => ∃ (x1_1 : Int) (x5_1 : Int), v1 = .int .i64 x1_1 ∧ v5 = .int .i64 x5_1 ∧ Aside0 (laws_heldIntSS.l0 kq l0 x1_1 x5_1 = some r) ∧ Aside0 (kq ≤ k) ∧ Drawn0 w w')
 case atStart => exact ⟨(a1), (0), (by first | rfl | (simp; done) | (simp [*]; done)), (by first | rfl | (simp; done) | (simp [*]; done)), H', ⟨Nat.le_refl _⟩, by repeat (first | exact Drawn0.refl _ | apply Drawn0.step)⟩
 case round =>
  clear H'
  try clear c2
  try clear p2
  obtain ⟨x1_1, x5_1, rfl, rfl, HA, HK1, ⟨m1, rfl⟩⟩ := hrel
  cases gk with
  | zero => exact absurd HA.out (by simp [laws_heldIntSS.l0])
  | succ k1 =>
   have H := HA.out
   clear HA
   simp only [laws_heldIntSS.l0] at H
   by_cases c3 : x5_1 < (l0.length : Int)
   ·rw [if_pos c3] at H
    have c3b0 : decide (x5_1 < (l0.length : Int)) = true := decide_eq_true c3
    clear c3
    by_cases c4 : 0 ≤ x5_1
    ·rw [if_pos c4] at H
     have c4b0 : decide (0 ≤ x5_1) = true := decide_eq_true c4
     clear c4
     replace H := Option.bind_eq_some_iff.mp H
     obtain ⟨t231, A50, H⟩ := H
     replace H : (if t231 < 0 then (some (-1)) else (laws_heldIntSS.l0 k1 l0 t231 (wrap64 (x5_1 + 1)))) = some r := H
     have A5 := Aside0.mk A50
     clear A50
     by_cases c6 : t231 < 0
     ·rw [if_pos c6] at H
      have c6b0 : decide (t231 < 0) = true := decide_eq_true c6
      clear c6
      obtain rfl := Option.some.inj H
      have p230 : 0 ≤ (x5_1 : Int) := of_decide_eq_true (by first | (with_reducible assumption) | assumption)
      have q230 : x5_1 < (l0.length : Int) := of_decide_eq_true (by first | (with_reducible assumption) | assumption)
      obtain ⟨ad230, A230_0, c230_0, e230, hx230_0, hl230_0, hi230_0⟩ := at_L1 HR0.out x5_1 p230 q230
      cases e230
      have HR230_0 := Aside0.mk hi230_0
      have HC230_0 := Aside0.mk hl230_0
      clear hi230_0 hl230_0
      replace p230 := eq_true p230
      replace q230 := eq_true q230
      go_wp2_with (first | ((with_reducible refine gate_callee (f := 15) rfl ?_); refine goesL_ (some 17) rfl rfl Try.func15 (by kernel_rfl) rfl #[.slice A230_0 (rd_L1 l0 x5_1).length c230_0, .int .i64 x1_1] rfl (by (try simp only [List.map_toArray, List.map_cons, List.map_nil]); first | done | rfl | (simp only [List.length_drop, List.length_take]; rfl)) ?_; (with_reducible refine (laws_heldIntS.calls k1 _ _ (rd_L1 l0 x5_1) x1_1 t231 _ ?side1 ?side2 A5.out).mono ?_); (case side1 => repeat (first | exact HR230_0.out | (with_reducible refine Kd.C_alloc ?_ _) | (with_reducible refine Kd.C_drewN ?_ _) | (with_reducible refine Kd.C_drew ?_))); (case side2 => exact HC230_0.out); rintro e w' ⟨rfl, ⟨nd, rfl⟩⟩; refine ⟨_, rfl, ?_⟩))
      go_ret
      exact ⟨by first | rfl | (simp; done) | (simp [*]; done), by repeat (first | exact Drawn0.refl _ | apply Drawn0.step)⟩
     ·rw [if_neg c6] at H
      have c6b0 : decide (t231 < 0) = false := decide_eq_false c6
      clear c6
      have H' := Aside0.mk H
      clear H
      have p230 : 0 ≤ (x5_1 : Int) := of_decide_eq_true (by first | (with_reducible assumption) | assumption)
      have q230 : x5_1 < (l0.length : Int) := of_decide_eq_true (by first | (with_reducible assumption) | assumption)
      obtain ⟨ad230, A230_0, c230_0, e230, hx230_0, hl230_0, hi230_0⟩ := at_L1 HR0.out x5_1 p230 q230
      cases e230
      have HR230_0 := Aside0.mk hi230_0
      have HC230_0 := Aside0.mk hl230_0
      clear hi230_0 hl230_0
      replace p230 := eq_true p230
      replace q230 := eq_true q230
      go_wp2_with (first | ((with_reducible refine gate_callee (f := 15) rfl ?_); refine goesL_ (some 17) rfl rfl Try.func15 (by kernel_rfl) rfl #[.slice A230_0 (rd_L1 l0 x5_1).length c230_0, .int .i64 x1_1] rfl (by (try simp only [List.map_toArray, List.map_cons, List.map_nil]); first | done | rfl | (simp only [List.length_drop, List.length_take]; rfl)) ?_; (with_reducible refine (laws_heldIntS.calls k1 _ _ (rd_L1 l0 x5_1) x1_1 t231 _ ?side1 ?side2 A5.out).mono ?_); (case side1 => repeat (first | exact HR230_0.out | (with_reducible refine Kd.C_alloc ?_ _) | (with_reducible refine Kd.C_drewN ?_ _) | (with_reducible refine Kd.C_drew ?_))); (case side2 => exact HC230_0.out); rintro e w' ⟨rfl, ⟨nd, rfl⟩⟩; refine ⟨_, rfl, ?_⟩))
      go_roundg k1
      case measure => have := HK1.out; omega
      case rel => exact ⟨(t231), (wrap64 (x5_1 + 1)), (by first | rfl | (simp; done) | (simp [*]; done)), (by first | rfl | (simp; done) | (simp [*]; done)), H', ⟨by have := HK1.out; omega⟩, by repeat (first | exact Drawn0.refl _ | apply Drawn0.step)⟩
    ·rw [if_neg c4] at H
     exact absurd H (by simp)
   ·rw [if_neg c3] at H
    have c3b0 : decide (x5_1 < (l0.length : Int)) = false := decide_eq_false c3
    clear c3
    obtain rfl := Option.some.inj H
    go_wp2
    go_ret
    exact ⟨by first | rfl | (simp; done) | (simp [*]; done), by repeat (first | exact Drawn0.refl _ | apply Drawn0.step)⟩

/-! ### laws_FnExactCandyTrace: function 5 -/
set_option maxHeartbeats 8000000 in
set_option maxRecDepth 100000 in
/-- Too many numbers: the law holds. -/
theorem laws_FnExactCandyTrace.big (A0 : Option Addr) (c0 : Nat) (l0 : List Int) (w : World) (hbig : (l0.length : Int) > 1048576) :
  Calls Try.prog 5 #[.slice A0 l0.length c0] w fun e w' => e = .returned (.bool true) ∧ Below w.heap.size w w' := by
 have c2b0 : decide (1048576 < (l0.length : Int)) = true := decide_eq_true hbig
 have c2b1 : decide (1048576 < l0.length) = true := decide_eq_true (by omega)
 clear hbig
 go_enter Try.func5, Try.ntmps5
 go_wp2
 go_ret
 exact ⟨rfl, Below.refl _ _⟩
/-- What both tell, and what the marks are: with these the law's every test comes out well. -/
structure laws_FnExactCandyTrace.Goes (k : Nat) (l0 : List Int) (s : List (List Int)) (b : Bool) (n1 n : Int) (m1 : List Int) (ms : List (List Int)) : Prop where
 tto : laws_toIntS.f k l0 = some l0
 sp : spec_CandyTrace.f k l0 = some (s, b)
 im : impl_CandyTrace.f k l0 = some (s, b)
 ess : laws_eqIntSS.f k s s = some true
 es : laws_eqIntS.f k l0 l0 = some true
 mk1 : laws_markIntS.f k l0 1 = some (n1, m1)
 n1p : ¬ n1 < 0
 mkk : laws_markIntSS.f k s 1 = some (n, ms)
 np : ¬ n < 0
 ln : ms.length = s.length
 hd : laws_heldIntSS.f k ms 1 = some n
set_option maxHeartbeats 8000000 in
set_option maxRecDepth 100000 in
/-- The blocks of what the reference told lie below N1, those of the argument between N1 and N2, those of the result from N2 on: so no mark reaches another. -/
theorem laws_FnExactCandyTrace.good (k : Nat) (A0 : Option Addr) (c0 : Nat) (l0 : List Int) (s : List (List Int)) (b : Bool) (n1 n : Int) (m1 : List Int) (ms : List (List Int)) (w : World) (hr0 : Kd.C (Kd.int .i64) w A0 l0.length l0) (hc0 : l0.length ≤ c0) (hbig : ¬ (l0.length : Int) > 1048576) (G : laws_FnExactCandyTrace.Goes k l0 s b n1 n m1 ms) :
  Calls Try.prog 5 #[.slice A0 l0.length c0] w fun e w' => e = .returned (.bool true) ∧ Below w.heap.size w w' := by
 have HR0 := Aside0.mk hr0
 have HC0 := Aside0.mk hc0
 have HG0 := Aside0.mk G
 have HLN := Aside0.mk G.ln
 have c2b0 : decide (1048576 < (l0.length : Int)) = false := decide_eq_false hbig
 have c2b1 : decide (1048576 < l0.length) = false := decide_eq_false (by omega)
 have c3b0 : decide (n1 < 0) = false := decide_eq_false G.n1p
 have c4b0 : decide (n < 0) = false := decide_eq_false G.np
 have c5b0 : (b != b) = false := bne_self_eq_false b
 clear hr0 hc0 hbig G
 have HB0 := Aside0.mk (Below.refl w.heap.size w)
 go_enter Try.func5, Try.ntmps5
 go_wp2_with fail
 refine (laws_toIntS.calls k A0 c0 l0 l0 _ HR0.out HC0.out HG0.out.tto).mono ?_
 rintro e w1 ⟨v1, rfl, ho, hb⟩
 have HO := Aside0.mk ho
 have HB := Aside0.mk hb
 clear ho hb HB0
 obtain ⟨B1, d1, e1⟩ := Kd.R_slice HO.out
 subst e1
 go_wp2_with fail
 refine (spec_CandyTrace.calls k B1 d1 l0 s b _ (Kd.R_reads' HO.out).2.2 (Kd.R_reads' HO.out).2.1 HG0.out.sp).mono ?_
 rintro e w2 ⟨v3, rfl, ho, hb⟩
 have HS := Aside0.mk (Kd.V_mono (Kd.V_bound (Kd.S_V (base' := 0) ho)) (ok' := fun k_ => k_ < w2.heap.size) (fun _ hk => hk.2))
 have n0_ := Aside0.mk (below_step HB.out hb)
 clear ho hb HO HB
 have HB := n0_
 clear n0_
 obtain ⟨B3, d3, e3⟩ := Kd.V_slice HS.out
 subst e3
 go_wp2_with fail
 refine (laws_toIntS.calls k A0 c0 l0 l0 _ (Kd.C_below HR0.out HB.out) HC0.out HG0.out.tto).mono ?_
 rintro e w3 ⟨v5, rfl, ho, hb⟩
 have HL1 := Aside0.mk (Kd.R_base ho)
 have HL2 := Aside0.mk (Kd.R_lt ho)
 have HX := Aside0.mk (Kd.R_tight rfl (Kd.R_lower ho (below_size HB.out)))
 have n0_ := Aside0.mk (below_step HB.out hb)
 have n1_ := Aside0.mk (Kd.V_below HS.out hb)
 have HN := Aside0.mk (show w2.heap.size ≤ w3.heap.size from hb.size)
 clear ho hb HB HS
 have HB := n0_
 have HS := n1_
 clear n0_ n1_
 obtain ⟨B5, d5, e5⟩ := Kd.R_slice HX.out
 subst e5
 go_wp2_with fail
 refine (impl_CandyTrace.calls k B5 d5 l0 s b _ (Kd.R_reads' HX.out).2.2 (Kd.R_reads' HX.out).2.1 HG0.out.im).mono ?_
 rintro e w4 ⟨v6, rfl, ho, hb⟩
 have HG := Aside0.mk (Kd.S_lower (Kd.S_mono (Kd.S_bound ho) (ok' := fun k_ => w3.heap.size ≤ k_) (fun _ hk => hk.2.1)) (below_size HB.out))
 have n0_ := Aside0.mk (below_step HB.out hb)
 have n1_ := Aside0.mk (Kd.V_below HS.out hb)
 have n2_ := Aside0.mk (Kd.R_below HX.out hb)
 clear ho hb HB HS HX
 have HB := n0_
 have HS := n1_
 have HX := n2_
 clear n0_ n1_ n2_
 obtain ⟨B6, d6, e6⟩ := Kd.S_slice HG.out
 subst e6
 go_wp2_with fail
 refine (laws_eqIntSS.calls k B6 d6 s B3 d3 s true _ (Kd.S_reads' HG.out).2.2 (Kd.S_reads' HG.out).2.1 (Kd.V_reads' HS.out).2.2 (Kd.V_reads' HS.out).2.1 HG0.out.ess).mono ?_
 rintro e w5 ⟨rfl, hd⟩
 have hb := hd.below
 have n0_ := Aside0.mk (below_step HB.out hb)
 have n1_ := Aside0.mk (Kd.V_below HS.out hb)
 have n2_ := Aside0.mk (Kd.R_below HX.out hb)
 have n3_ := Aside0.mk (Kd.S_below HG.out hb)
 clear hd hb HB HS HX HG
 have HB := n0_
 have HS := n1_
 have HX := n2_
 have HG := n3_
 clear n0_ n1_ n2_ n3_
 go_wp2_with fail
 refine (laws_toIntS.calls k A0 c0 l0 l0 _ (Kd.C_below HR0.out HB.out) HC0.out HG0.out.tto).mono ?_
 rintro e w6 ⟨v7, rfl, ho, hb⟩
 have HO := Aside0.mk ho
 have n0_ := Aside0.mk (below_step HB.out hb)
 have n1_ := Aside0.mk (Kd.V_below HS.out hb)
 have n2_ := Aside0.mk (Kd.R_below HX.out hb)
 have n3_ := Aside0.mk (Kd.S_below HG.out hb)
 clear ho hb HB HS HX HG
 have HB := n0_
 have HS := n1_
 have HX := n2_
 have HG := n3_
 clear n0_ n1_ n2_ n3_
 obtain ⟨B7, d7, e7⟩ := Kd.R_slice HO.out
 subst e7
 go_wp2_with fail
 refine (laws_eqIntS.calls k B5 d5 l0 B7 d7 l0 true _ (Kd.R_reads' HX.out).2.2 (Kd.R_reads' HX.out).2.1 (Kd.R_reads' HO.out).2.2 (Kd.R_reads' HO.out).2.1 HG0.out.es).mono ?_
 rintro e w7 ⟨rfl, hd⟩
 have hb := hd.below
 have n0_ := Aside0.mk (below_step HB.out hb)
 have n1_ := Aside0.mk (Kd.V_below HS.out hb)
 have n2_ := Aside0.mk (Kd.R_below HX.out hb)
 have n3_ := Aside0.mk (Kd.S_below HG.out hb)
 clear hd hb HB HS HX HG HO
 have HB := n0_
 have HS := n1_
 have HX := n2_
 have HG := n3_
 clear n0_ n1_ n2_ n3_
 go_wp2_with fail
 refine (laws_markIntS.calls k (fun k_ => some k_ = (.slice B5 l0.length d5 : Value).ownBlock) _ l0 1 n1 m1 w _ HB.out HX.out HG0.out.mk1).mono ?_
 rintro e w8 ⟨rfl, _, hb, hkp⟩
 have n0_ := Aside0.mk hb
 have n1_ := Aside0.mk (Kd.V_kept HS.out hkp (fun k_ hk he => by have h1_ := HL1.out k_ he.symm; exact absurd hk (Nat.not_lt.2 h1_)))
 have n3_ := Aside0.mk (Kd.S_kept HG.out hkp (fun k_ hk he => by have h1_ := HL2.out k_ he.symm; exact absurd h1_ (Nat.not_lt.2 hk)))
 clear hb hkp HB HS HX HG
 have HB := n0_
 have HS := n1_
 have HG := n3_
 clear n0_ n1_ n3_
 go_wp2_with fail
 refine (laws_eqIntSS.calls k B6 d6 s B3 d3 s true _ (Kd.S_reads' HG.out).2.2 (Kd.S_reads' HG.out).2.1 (Kd.V_reads' HS.out).2.2 (Kd.V_reads' HS.out).2.1 HG0.out.ess).mono ?_
 rintro e w9 ⟨rfl, hd⟩
 have hb := hd.below
 have n0_ := Aside0.mk (below_step HB.out hb)
 have n1_ := Aside0.mk (Kd.V_below HS.out hb)
 have n3_ := Aside0.mk (Kd.S_below HG.out hb)
 clear hd hb HB HS HG
 have HB := n0_
 have HS := n1_
 have HG := n3_
 clear n0_ n1_ n3_
 go_wp2_with fail
 refine (laws_markIntSS.calls k (fun k_ => w3.heap.size ≤ k_) _ s 1 n ms w _ HB.out HG.out HG0.out.mkk).mono ?_
 rintro e w10 ⟨rfl, hs, hb, hkp⟩
 have n0_ := Aside0.mk hb
 have n1_ := Aside0.mk (Kd.V_kept HS.out hkp (fun k_ hk he => by have h1_ := HN.out; omega))
 have n3_ := Aside0.mk hs
 clear hs hb hkp HB HS HG
 have HB := n0_
 have HS := n1_
 have HG := n3_
 clear n0_ n1_ n3_
 go_wp2_with fail
 have hc_ := laws_heldIntSS.calls k B6 d6 ms 1 n w10 (Kd.S_reads' HG.out).2.2 (by rw [HLN.out]; exact (Kd.S_reads' HG.out).2.1) HG0.out.hd
 rw [HLN.out] at hc_
 refine hc_.mono ?_
 clear hc_
 rintro e w11 ⟨rfl, hd⟩
 have hb := hd.below
 have n0_ := Aside0.mk (below_step HB.out hb)
 have n1_ := Aside0.mk (Kd.V_below HS.out hb)
 have n3_ := Aside0.mk (Kd.S_below HG.out hb)
 clear hd hb HB HS HG
 have HB := n0_
 have HS := n1_
 have HG := n3_
 clear n0_ n1_ n3_
 go_wp2_with fail
 refine (laws_toIntS.calls k A0 c0 l0 l0 _ (Kd.C_below HR0.out HB.out) HC0.out HG0.out.tto).mono ?_
 rintro e w12 ⟨v8, rfl, ho, hb⟩
 have HO := Aside0.mk ho
 have n0_ := Aside0.mk (below_step HB.out hb)
 have n1_ := Aside0.mk (Kd.V_below HS.out hb)
 have n3_ := Aside0.mk (Kd.S_below HG.out hb)
 clear ho hb HB HS HG
 have HB := n0_
 have HS := n1_
 have HG := n3_
 clear n0_ n1_ n3_
 obtain ⟨B8, d8, e8⟩ := Kd.R_slice HO.out
 subst e8
 go_wp2_with fail
 refine (impl_CandyTrace.calls k B8 d8 l0 s b _ (Kd.R_reads' HO.out).2.2 (Kd.R_reads' HO.out).2.1 HG0.out.im).mono ?_
 rintro e w13 ⟨v9, rfl, ho, hb⟩
 have n0_ := Aside0.mk (below_step HB.out hb)
 have n1_ := Aside0.mk (Kd.V_below HS.out hb)
 have n3_ := Aside0.mk (Kd.S_below HG.out hb)
 have n4_ := Aside0.mk ho
 clear ho hb HB HS HG HO
 have HB := n0_
 have HS := n1_
 have HG := n3_
 have HO := n4_
 clear n0_ n1_ n3_ n4_
 obtain ⟨B9, d9, e9⟩ := Kd.S_slice HO.out
 subst e9
 go_wp2_with fail
 refine (laws_eqIntSS.calls k B9 d9 s B3 d3 s true _ (Kd.S_reads' HO.out).2.2 (Kd.S_reads' HO.out).2.1 (Kd.V_reads' HS.out).2.2 (Kd.V_reads' HS.out).2.1 HG0.out.ess).mono ?_
 rintro e w14 ⟨rfl, hd⟩
 have hb := hd.below
 have n0_ := Aside0.mk (below_step HB.out hb)
 have n3_ := Aside0.mk (Kd.S_below HG.out hb)
 clear hd hb HB HS HG HO
 have HB := n0_
 have HG := n3_
 clear n0_ n3_
 go_wp2_with fail
 have hc_ := laws_heldIntSS.calls k B6 d6 ms 1 n w14 (Kd.S_reads' HG.out).2.2 (by rw [HLN.out]; exact (Kd.S_reads' HG.out).2.1) HG0.out.hd
 rw [HLN.out] at hc_
 refine hc_.mono ?_
 clear hc_
 rintro e w15 ⟨rfl, hd⟩
 have hb := hd.below
 have n0_ := Aside0.mk (below_step HB.out hb)
 clear hd hb HB HG
 have HB := n0_
 clear n0_
 go_wp2
 go_ret
 exact ⟨rfl, HB.out⟩
/-- THE ONE PURE STATEMENT of laws_FnExactCandyTrace. -/
def laws_FnExactCandyTrace.Pure : Prop := ∀ (l0 : List Int), l0.length ≤ maxLen → l0.length * 8 ≤ 140737488351232 → (∀ x ∈ l0, (Lit.int .i64 x).wf = true) → ¬ (l0.length : Int) > 1048576 → ∃ k s b n1 n m1 ms, laws_FnExactCandyTrace.Goes k l0 s b n1 n m1 ms
theorem laws_FnExactCandyTrace.walk (P : laws_FnExactCandyTrace.Pure) (a0 : Option Addr) (len0 cap0 : Nat) (z0 : List Int) (w : World) (w0 : (a0 = none ∧ len0 = 0 ∧ cap0 = 0 ∧ z0 = []) ∨ ∃ x, a0 = some x ∧ len0 ≤ cap0 ∧ cap0 ≤ maxLen ∧ z0.length = cap0 ∧ (∀ i, i < z0.length → w.cell? (x.add i) = some (.int .i64 (z0.getD i 0))) ∧ ∀ n ∈ z0, (Lit.int .i64 n).wf = true) (y0 : len0 * 8 ≤ 140737488351232) :
  Calls Try.prog 5 #[.slice a0 len0 cap0] w fun e w' => e = .returned (.bool true) ∧ Below w.heap.size w w' := by
 obtain ⟨l0, rfl, hr0, hm0, hw0, hc0⟩ := ReadsInt.ofRowC w0
 by_cases hbig : (l0.length : Int) > 1048576
 ·exact laws_FnExactCandyTrace.big a0 cap0 l0 w hbig
 ·obtain ⟨k, s, b, n1, n, m1, ms, G⟩ := P l0 hm0 y0 hw0 hbig
  exact laws_FnExactCandyTrace.good k a0 cap0 l0 s b n1 n m1 ms w (Kd.C_of_reads (d := (0 : Int)) (h1 := fun _ => rfl) hr0) hc0 hbig G

end Go.Proofs.Ytpcalkaamfhejaa.P
