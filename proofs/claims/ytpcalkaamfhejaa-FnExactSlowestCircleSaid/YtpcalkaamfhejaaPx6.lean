/- Written by a program of this workplace (own_print.py, over the kit's print) for the functions that the statements reach, with contracts of its own. Lean checks it. -/
import Derived.Test.YtpcalkaamfhejaaPx0
import Derived.Test.YtpcalkaamfhejaaPx1
namespace Go.Proofs.Ytpcalkaamfhejaa.P
open Go.RowKit Go.Proofs.YtpcalkaamfhejaaW.PrintWords Go.Proofs.YtpcalkaamfhejaaW.PrintLast Go.Proofs.YtpcalkaamfhejaaW.PrintMore
attribute [local go_sem] max2_int min2_int max_two min_two max_three min_three max_four min_four   -- for this text's walks alone
set_option linter.unusedVariables false
set_option linter.unusedSimpArgs false

/-! ### spec_cyFew: function 60 -/
def spec_cyFew.f (a0 : Int) (a1 : Int) : Option (Bool) := (spec_l1In.f a0 2 4).bind fun t101 => (if t101 = true then ((spec_l1In.f a1 0 8).bind fun t102 => (some t102)) else (some false))
set_option maxHeartbeats 8000000 in
set_option maxRecDepth 100000 in
theorem spec_cyFew.calls (a0 : Int) (a1 : Int) (r : Bool) (w : World) (h : spec_cyFew.f a0 a1 = some r) :
  Calls Try.prog 60 #[.int .i64 a0, .int .i64 a1] w fun e w' => e = .returned (.bool r) ∧ Drawn0 w w' := by
 have H : ((spec_l1In.f a0 2 4).bind fun t101 => (if t101 = true then ((spec_l1In.f a1 0 8).bind fun t102 => (some t102)) else (some false))) = some r := h
 clear h
 replace H := Option.bind_eq_some_iff.mp H
 obtain ⟨t101,A30,H⟩ := H
 replace H : (if t101 = true then ((spec_l1In.f a1 0 8).bind fun t102 => (some t102)) else (some false)) = some r := H
 have A3 := Aside0.mk A30
 clear A30
 by_cases c4 : t101 = true
 ·subst c4
  have H1 : ((spec_l1In.f a1 0 8).bind fun t102 => (some t102)) = some r := by rw [if_pos rfl] at H;exact H
  clear H
  have H := H1
  clear H1
  replace H := Option.bind_eq_some_iff.mp H
  obtain ⟨t102,A50,H⟩ := H
  replace H : (some t102) = some r := H
  have A5 := Aside0.mk A50
  clear A50
  obtain rfl := Option.some.inj H
  go_enter Try.func60,Try.ntmps60
  go_wp2_with (first | ((with_reducible refine gate_callee (f := 61) rfl ?_);refine goesL_ (some 6) rfl rfl Try.func61 (by kernel_rfl) rfl #[.int .i64 a0, .int .i64 2, .int .i64 4] rfl (by (try simp only [List.map_toArray,List.map_cons,List.map_nil]);first | done | rfl | (simp only [List.length_drop,List.length_take];rfl)) ?_;(with_reducible refine (spec_l1In.calls a0 2 4 true _ A3.out).mono ?_);rintro e w' ⟨rfl,⟨nd,rfl⟩⟩;refine ⟨_,rfl,?_⟩) | (go_at_call 61;(with_reducible refine (spec_l1In.calls a1 0 8 t102 _ A5.out).mono ?_);rintro e w' ⟨rfl,⟨nd,rfl⟩⟩))
  go_ret
  exact ⟨by first | rfl | (simp;done) | (simp [*];done),by repeat (first | exact Drawn0.refl _ | apply Drawn0.step)⟩
 ·replace c4 := Bool.eq_false_iff.mpr c4
  subst c4
  have H1 : (some false) = some r := by rw [if_neg (show ¬ (false = true) by decide)] at H;exact H
  clear H
  have H := H1
  clear H1
  obtain rfl := Option.some.inj H
  go_enter Try.func60,Try.ntmps60
  go_wp2_with (first | ((with_reducible refine gate_callee (f := 61) rfl ?_);refine goesL_ (some 6) rfl rfl Try.func61 (by kernel_rfl) rfl #[.int .i64 a0, .int .i64 2, .int .i64 4] rfl (by (try simp only [List.map_toArray,List.map_cons,List.map_nil]);first | done | rfl | (simp only [List.length_drop,List.length_take];rfl)) ?_;(with_reducible refine (spec_l1In.calls a0 2 4 false _ A3.out).mono ?_);rintro e w' ⟨rfl,⟨nd,rfl⟩⟩;refine ⟨_,rfl,?_⟩))
  go_ret
  exact ⟨by first | rfl | (simp;done) | (simp [*];done),by repeat (first | exact Drawn0.refl _ | apply Drawn0.step)⟩

/-! ### spec_cyAll: function 62 -/
mutual
def spec_cyAll.l0 : Nat → Int → Int → List (List Int) → Option ((List (List Int)))
 | 0,_,_,_ => none
 | k + 1,x0,x1,x5 => if x0 > 0 then (spec_cyAll.l1 k x0 x1 ([] : List (List Int)) x5 (x5.length : Int) 0) else (some x5)
def spec_cyAll.l1 : Nat → Int → Int → List (List Int) → List (List Int) → Int → Int → Option ((List (List Int)))
 | 0,_,_,_,_,_,_ => none
 | k + 1,x0,x1,x6,x15,x16,x17 => if x17 < x16 then (if 0 ≤ x17 then (if x17 < (x15.length : Int) then (spec_cyAll.l2 k x0 x1 x6 (rd_L1 x15 x17) 0 x15 x16 x17) else (none)) else (none)) else (spec_cyAll.l0 k (wrap64 (x0 - 1)) x1 x6)
def spec_cyAll.l2 : Nat → Int → Int → List (List Int) → List Int → Int → List (List Int) → Int → Int → Option ((List (List Int)))
 | 0,_,_,_,_,_,_,_,_ => none
 | k + 1,x0,x1,x6,x8,x9,x15,x16,x17 => if x9 ≤ x1 then ((spec_l1Own.f x8).bind fun t113 => (if t113.length < 17592186044416 then (if x6.length < 5864062014805 then (spec_cyAll.l2 k x0 x1 (x6 ++ [(t113 ++ [x9])]) x8 (wrap64 (x9 + 1)) x15 x16 x17) else (none)) else (none))) else (spec_cyAll.l1 k x0 x1 x6 x15 x16 (wrap64 (x17 + 1)))
end
def spec_cyAll.f (k : Nat) (a0 : Int) (a1 : Int) : Option ((List (List Int))) := spec_cyAll.l0 k a0 a1 (([[]] : List (List Int)))
theorem spec_cyAll.mono_l : ∀ k,(∀ y0 y1 y2,LeO (spec_cyAll.l0 k y0 y1 y2) (spec_cyAll.l0 (k + 1) y0 y1 y2)) ∧ (∀ y0 y1 y2 y3 y4 y5,LeO (spec_cyAll.l1 k y0 y1 y2 y3 y4 y5) (spec_cyAll.l1 (k + 1) y0 y1 y2 y3 y4 y5)) ∧ (∀ y0 y1 y2 y3 y4 y5 y6 y7,LeO (spec_cyAll.l2 k y0 y1 y2 y3 y4 y5 y6 y7) (spec_cyAll.l2 (k + 1) y0 y1 y2 y3 y4 y5 y6 y7))
 | 0 => ⟨fun _ _ _ r h => by simp [spec_cyAll.l0] at h,fun _ _ _ _ _ _ r h => by simp [spec_cyAll.l1] at h,fun _ _ _ _ _ _ _ _ r h => by simp [spec_cyAll.l2] at h⟩
 | k + 1 => by
  obtain ⟨ih0,ih1,ih2⟩ := spec_cyAll.mono_l k
  refine ⟨?_,?_,?_⟩
  ·intro y0 y1 y2
   unfold spec_cyAll.l0
   repeat' first
   | (with_reducible exact ih0 _ _ _)
   | (with_reducible exact ih1 _ _ _ _ _ _)
   | (with_reducible exact ih2 _ _ _ _ _ _ _ _)
   | (with_reducible exact LeO.refl _)
   | (with_reducible exact LeO.none _)
   | (with_reducible refine LeO.ite ?_ ?_)
   | (with_reducible refine LeO.bind ?_ (fun _ => ?_))
   | exact ih0 _ _ _
   | exact ih1 _ _ _ _ _ _
   | exact ih2 _ _ _ _ _ _ _ _
   | exact LeO.none _
   | refine LeO.ite ?_ ?_
   | refine LeO.bind ?_ (fun _ => ?_)
  ·intro y0 y1 y2 y3 y4 y5
   unfold spec_cyAll.l1
   repeat' first
   | (with_reducible exact ih0 _ _ _)
   | (with_reducible exact ih1 _ _ _ _ _ _)
   | (with_reducible exact ih2 _ _ _ _ _ _ _ _)
   | (with_reducible exact LeO.refl _)
   | (with_reducible exact LeO.none _)
   | (with_reducible refine LeO.ite ?_ ?_)
   | (with_reducible refine LeO.bind ?_ (fun _ => ?_))
   | exact ih0 _ _ _
   | exact ih1 _ _ _ _ _ _
   | exact ih2 _ _ _ _ _ _ _ _
   | exact LeO.none _
   | refine LeO.ite ?_ ?_
   | refine LeO.bind ?_ (fun _ => ?_)
  ·intro y0 y1 y2 y3 y4 y5 y6 y7
   unfold spec_cyAll.l2
   repeat' first
   | (with_reducible exact ih0 _ _ _)
   | (with_reducible exact ih1 _ _ _ _ _ _)
   | (with_reducible exact ih2 _ _ _ _ _ _ _ _)
   | (with_reducible exact LeO.refl _)
   | (with_reducible exact LeO.none _)
   | (with_reducible refine LeO.ite ?_ ?_)
   | (with_reducible refine LeO.bind ?_ (fun _ => ?_))
   | exact ih0 _ _ _
   | exact ih1 _ _ _ _ _ _
   | exact ih2 _ _ _ _ _ _ _ _
   | exact LeO.none _
   | refine LeO.ite ?_ ?_
   | refine LeO.bind ?_ (fun _ => ?_)
theorem spec_cyAll.mono : ∀ a0 a1 k,LeO (spec_cyAll.f k a0 a1) (spec_cyAll.f (k + 1) a0 a1) := by
 intro a0 a1 k
 obtain ⟨ih0,ih1,ih2⟩ := spec_cyAll.mono_l k
 unfold spec_cyAll.f
 repeat' first
   | (with_reducible exact ih0 _ _ _)
   | (with_reducible exact ih1 _ _ _ _ _ _)
   | (with_reducible exact ih2 _ _ _ _ _ _ _ _)
   | (with_reducible exact LeO.refl _)
   | (with_reducible exact LeO.none _)
   | (with_reducible refine LeO.ite ?_ ?_)
   | (with_reducible refine LeO.bind ?_ (fun _ => ?_))
   | exact ih0 _ _ _
   | exact ih1 _ _ _ _ _ _
   | exact ih2 _ _ _ _ _ _ _ _
   | exact LeO.none _
   | refine LeO.ite ?_ ?_
   | refine LeO.bind ?_ (fun _ => ?_)
set_option maxHeartbeats 8000000 in
set_option maxRecDepth 100000 in
theorem spec_cyAll.calls (k : Nat) (a0 : Int) (a1 : Int) (r : List (List Int)) (w : World) (h : spec_cyAll.f k a0 a1 = some r) :
  Calls Try.prog 62 #[.int .i64 a0, .int .i64 a1] w fun e w' => ∃ v0_ : Value,e = .returned (v0_) ∧ Kd.S (Kd.slice 3 (Kd.int .i64)) 25 w' w.heap.size (fun _ => True) v0_ r ∧ Below w.heap.size w w' := by
 have HB := Aside0.mk (Below.refl w.heap.size w)
 have H : (spec_cyAll.l0 k a0 a1 (([[]] : List (List Int)))) = some r := h
 clear h
 obtain ⟨y109,hy109⟩ : ∃ y_ : List (List Int),y_ = (([[]] : List (List Int))) := ⟨_,rfl⟩
 replace H : (spec_cyAll.l0 k a0 a1 y109) = some r := by first | (rw [hy109];with_reducible exact H) | (have H2_ := (Option.bind_some _ _).symm.trans H;rw [hy109];with_reducible exact H2_) | (have H2_ := (Option.bind_some _ _).symm.trans H;with_reducible exact H2_) | with_reducible exact H | (rw [hy109];exact H) | exact H
 have Ny109 := Aside0.mk hy109
 clear hy109
 have H' := Aside0.mk H
 clear H
 go_enter Try.func62,Try.ntmps62
 go_wp2_with (first | ((with_reducible refine gate_dst (N := 10) rfl ?_);refine Kd.S_lit (Kd.slice 3 (Kd.int .i64)) _ 25 ?hg (N := 10) ?hd (xs := ([[]] : List (List Int))) (inner := [.slice none 0 0]) (ok := fun _ => True) (okp := fun _ => True) ?hr ?hp (fun _ hk => hk) trivial (Below.refl _ _) (Nat.le_refl _) (by simp) ?_;(case hd => rfl);(case hg => rfl);(case hr => first | (go_simp;done) | (go_simp;rfl));(case hp => exact (Reps.one (show Kd.M (Kd.slice 3 (Kd.int .i64)) _ _ _ [] [.slice none 0 0] from ⟨_,rfl,Kd.R_nil _ _ _ _ _⟩) (Reps.none _ _)));intro v110 w3 ho4 hb hg_ hnew_;clear hg_ hnew_;(first | rw [← Ny109.out] at ho4 | (simp only [Int.reduceToNat] at ho4;rw [← Ny109.out] at ho4));have n0_ := Aside0.mk (Kd.S_lower ho4 (below_size (by repeat (first | (with_reducible first | exact HB.out | apply below_alloc | apply pw_below_drewN | apply below_drew1) | exact HB.out))));have n1_ := Aside0.mk (below_step (by repeat (first | (with_reducible first | exact HB.out | apply below_alloc | apply pw_below_drewN | apply below_drew1) | exact HB.out)) hb);clear HB;have HO111 := n0_;have HB := n1_;clear n0_ n1_;clear hb ho4))
 go_loopg [0,5] k (fun kq v0 v5 w' => ∃ (x0_1 : Int) (x5_1 : List (List Int)),v0 = .int .i64 x0_1 ∧ Aside0 (spec_cyAll.l0 kq x0_1 a1 x5_1 = some r) ∧ Aside0 (kq ≤ k) ∧ Aside0 (Kd.S (Kd.slice 3 (Kd.int .i64)) 25 w' w.heap.size (fun _ => True) v5 x5_1) ∧ Aside0 (Below w.heap.size w w'))
 case atStart => exact ⟨(a0),(y109),(by first | rfl | (simp;done) | (simp [*];done)),H',⟨Nat.le_refl _⟩,⟨by (with_reducible repeat (first | apply Kd.S_alloc | apply Kd.S_drewN | apply Kd.S_drew));exact HO111.out⟩,⟨by repeat (first | (with_reducible first | exact HB.out | apply below_alloc | apply pw_below_drewN | apply below_drew1) | exact HB.out)⟩⟩
 case round =>
  clear H'
  try clear p2
  obtain ⟨x0_1,x5_1,rfl,HA,HK1,HO_5,HB⟩ := hrel
  cases gk with
  | zero => exact absurd HA.out (by simp [spec_cyAll.l0])
  | succ k1 =>
   have H := HA.out
   clear HA
   simp only [spec_cyAll.l0] at H
   by_cases c5 : x0_1 > 0
   ·rw [if_pos c5] at H
    have c5b0 : decide (0 < x0_1) = true := decide_eq_true c5
    clear c5
    have H' := Aside0.mk H
    clear H
    obtain ⟨Ao6,co6,eo6⟩ := Kd.S_slice HO_5.out
    subst eo6
    go_wp2
    go_loopg [6,17] k1 (fun kq v6 v17 w' => ∃ (x6_2 : List (List Int)) (x17_2 : Int),v17 = .int .i64 x17_2 ∧ Aside0 (spec_cyAll.l1 kq x0_1 a1 x6_2 x5_1 (x5_1.length : Int) x17_2 = some r) ∧ Aside0 (kq ≤ k1) ∧ Aside0 (Kd.S (Kd.slice 3 (Kd.int .i64)) 25 w' w.heap.size (fun k_ => some k_ ≠ ((.slice Ao6 x5_1.length co6) : Value).ownBlock) v6 x6_2) ∧ Aside0 (Kd.S (Kd.slice 3 (Kd.int .i64)) 25 w' w.heap.size (fun k_ => some k_ ≠ (v6 : Value).ownBlock) (.slice Ao6 x5_1.length co6) x5_1) ∧ Aside0 (Below w.heap.size w w'))
    case atStart => exact ⟨(([] : List (List Int))),(0),(by first | rfl | (simp;done) | (simp [*];done)),H',⟨Nat.le_refl _⟩,⟨by first | exact Kd.S_nil _ _ _ _ _ | exact Kd.N_nil _ _ _ _ _ | exact Kd.V_nil _ _ _ _ _ | exact Kd.Q_nil _ _ _ _ _ | exact Kd.R_nil _ _ _ _ _⟩,⟨by (with_reducible repeat (first | apply Kd.S_alloc | apply Kd.S_drewN | apply Kd.S_drew));exact Kd.S_mono HO_5.out (fun _ hk => (by simp [Value.ownBlock]))⟩,⟨by repeat (first | (with_reducible first | exact HB.out | apply below_alloc | apply pw_below_drewN | apply below_drew1) | exact HB.out)⟩⟩
    case round =>
     clear H'
     try clear p2
     try clear c5
     try clear c5b0
     try clear c6
     try clear p2
     obtain ⟨x6_2,x17_2,rfl,HA,HK2,HO_6,HO_15,HB⟩ := hrel
     cases gk with
     | zero => exact absurd HA.out (by simp [spec_cyAll.l1])
     | succ k2 =>
      have H := HA.out
      clear HA
      simp only [spec_cyAll.l1] at H
      by_cases c7 : x17_2 < (x5_1.length : Int)
      ·rw [if_pos c7] at H
       have c7b0 : decide (x17_2 < (x5_1.length : Int)) = true := decide_eq_true c7
       clear c7
       by_cases c8 : 0 ≤ x17_2
       ·rw [if_pos c8] at H
        have c8b0 : decide (0 ≤ x17_2) = true := decide_eq_true c8
        clear c8
        by_cases c9 : x17_2 < (x5_1.length : Int)
        ·rw [if_pos c9] at H
         have c9b0 : decide (x17_2 < (x5_1.length : Int)) = true := decide_eq_true c9
         clear c9
         have H' := Aside0.mk H
         clear H
         have p112 : 0 ≤ (x17_2 : Int) := of_decide_eq_true (by first | (with_reducible assumption) | assumption)
         have q112 : x17_2 < (x5_1.length : Int) := of_decide_eq_true (by first | (with_reducible assumption) | assumption)
         obtain ⟨ad112,A112_0,c112_0,e112,hx112_0,hl112_0,hi112_0⟩ := at_L1 (Kd.S_reads' HO_15.out).2.2 x17_2 p112 q112
         cases e112
         obtain ⟨ce112,hce112,hMe112,hcc112⟩ := Kd.S_get HO_15.out [] x17_2 p112 (by first | exact q112 | exact of_decide_eq_true (by first | (with_reducible assumption) | assumption) | (have e_ := (Kd.S_reads' HO_15.out).1;omega))
         obtain ⟨ve112_0,rfl,ge112_0⟩ := hMe112
         have hv112_0 := hcc112 0 _ rfl
         rw [Nat.add_zero,show ((Kd.slice 3 (Kd.int .i64))).sz = 1 from rfl,Nat.mul_one] at hv112_0
         replace hv112_0 := Option.some.inj (hv112_0.symm.trans hx112_0)
         rw [hv112_0] at ge112_0
         have HL112_0 := Aside0.mk (show Kd.R (Kd.int .i64) 3 _ _ _ _ (rd_L1 x5_1 x17_2) from ge112_0)
         clear hv112_0 ge112_0
         clear hcc112 hce112
         have HR112_0 := Aside0.mk hi112_0
         have HC112_0 := Aside0.mk hl112_0
         clear hi112_0 hl112_0
         replace p112 := eq_true p112
         replace q112 := eq_true q112
         go_wp2
         go_loopg [6,9] k2 (fun kq v6 v9 w' => ∃ (x6_3 : List (List Int)) (x9_3 : Int),v9 = .int .i64 x9_3 ∧ Aside0 (spec_cyAll.l2 kq x0_1 a1 x6_3 (rd_L1 x5_1 x17_2) x9_3 x5_1 (x5_1.length : Int) x17_2 = some r) ∧ Aside0 (kq ≤ k2) ∧ Aside0 (Kd.S (Kd.slice 3 (Kd.int .i64)) 25 w' w.heap.size (fun k_ => some k_ ≠ ((.slice (some ad112) x5_1.length co6) : Value).ownBlock) v6 x6_3) ∧ Aside0 (Kd.S (Kd.slice 3 (Kd.int .i64)) 25 w' w.heap.size (fun k_ => some k_ ≠ (v6 : Value).ownBlock) (.slice (some ad112) x5_1.length co6) x5_1) ∧ Aside0 (Below w.heap.size w w') ∧ Aside0 (Kd.R (Kd.int .i64) 3 w' w.heap.size (fun _ => True) (.slice A112_0 (rd_L1 x5_1 x17_2).length c112_0) (rd_L1 x5_1 x17_2)))
         case atStart => exact ⟨(x6_2),(0),(by first | rfl | (simp;done) | (simp [*];done)),H',⟨Nat.le_refl _⟩,⟨by (with_reducible repeat (first | apply Kd.S_alloc | apply Kd.S_drewN | apply Kd.S_drew));exact HO_6.out⟩,⟨by (with_reducible repeat (first | apply Kd.S_alloc | apply Kd.S_drewN | apply Kd.S_drew));exact HO_15.out⟩,⟨by repeat (first | (with_reducible first | exact HB.out | apply below_alloc | apply pw_below_drewN | apply below_drew1) | exact HB.out)⟩,⟨by (with_reducible repeat (first | apply Kd.R_alloc | apply Kd.R_drewN | apply Kd.R_drew));exact Kd.R_mono HL112_0.out (fun _ _ => trivial)⟩⟩
         case round =>
          clear H'
          try clear c1
          try clear p1
          try clear q1
          try clear hx1
          try clear p2
          try clear c5
          try clear c5b0
          try clear c6
          try clear c7
          try clear c7b0
          try clear c8
          try clear c8b0
          try clear c9
          try clear c9b0
          try clear hx112_0
          try clear p112
          try clear p2
          try clear q112
          obtain ⟨x6_3,x9_3,rfl,HA,HK3,HO_6,HO_15,HB,HE⟩ := hrel
          cases gk with
          | zero => exact absurd HA.out (by simp [spec_cyAll.l2])
          | succ k3 =>
           have H := HA.out
           clear HA
           simp only [spec_cyAll.l2] at H
           by_cases c10 : x9_3 ≤ a1
           ·rw [if_pos c10] at H
            have c10b0 : decide (x9_3 ≤ a1) = true := decide_eq_true c10
            clear c10
            replace H := Option.bind_eq_some_iff.mp H
            obtain ⟨t113,A110,H⟩ := H
            replace H : (if t113.length < 17592186044416 then (if x6_3.length < 5864062014805 then (spec_cyAll.l2 k3 x0_1 a1 (x6_3 ++ [(t113 ++ [x9_3])]) (rd_L1 x5_1 x17_2) (wrap64 (x9_3 + 1)) x5_1 (x5_1.length : Int) x17_2) else (none)) else (none)) = some r := H
            have A11 := Aside0.mk A110
            clear A110
            by_cases c12 : t113.length < 17592186044416
            ·rw [if_pos c12] at H
             have LMc12 := Aside0.mk c12
             clear c12
             obtain ⟨y116,hy116⟩ : ∃ y_ : List Int,y_ = (t113 ++ [x9_3]) := ⟨_,rfl⟩
             replace H : (if x6_3.length < 5864062014805 then (spec_cyAll.l2 k3 x0_1 a1 (x6_3 ++ [y116]) (rd_L1 x5_1 x17_2) (wrap64 (x9_3 + 1)) x5_1 (x5_1.length : Int) x17_2) else (none)) = some r := by first | (rw [hy116];with_reducible exact H) | (have H2_ := (Option.bind_some _ _).symm.trans H;rw [hy116];with_reducible exact H2_) | (have H2_ := (Option.bind_some _ _).symm.trans H;with_reducible exact H2_) | with_reducible exact H | (rw [hy116];exact H) | exact H
             have Ny116 := Aside0.mk hy116
             clear hy116
             by_cases c13 : x6_3.length < 5864062014805
             ·rw [if_pos c13] at H
              have LMc13 := Aside0.mk c13
              clear c13
              obtain ⟨y119,hy119⟩ : ∃ y_ : List (List Int),y_ = (x6_3 ++ [y116]) := ⟨_,rfl⟩
              replace H : (spec_cyAll.l2 k3 x0_1 a1 y119 (rd_L1 x5_1 x17_2) (wrap64 (x9_3 + 1)) x5_1 (x5_1.length : Int) x17_2) = some r := by first | (rw [hy119];with_reducible exact H) | (have H2_ := (Option.bind_some _ _).symm.trans H;rw [hy119];with_reducible exact H2_) | (have H2_ := (Option.bind_some _ _).symm.trans H;with_reducible exact H2_) | with_reducible exact H | (rw [hy119];exact H) | exact H
              have Ny119 := Aside0.mk hy119
              clear hy119
              have H' := Aside0.mk H
              clear H
              go_wp2_with (first | ((with_reducible refine gate_callee (f := 78) rfl ?_);refine goesL_ (some 28) rfl rfl Try.func78 (by kernel_rfl) rfl #[.slice A112_0 (rd_L1 x5_1 x17_2).length c112_0] rfl (by (try simp only [List.map_toArray,List.map_cons,List.map_nil]);first | done | rfl | (simp only [List.length_drop,List.length_take];rfl)) ?_;(with_reducible refine (spec_l1Own.calls _ _ (rd_L1 x5_1 x17_2) t113 _ ?side1 ?side2 A11.out).mono ?_);(case side1 => repeat (first | exact (Kd.R_reads' HE.out).2.2 | (with_reducible refine Kd.C_alloc ?_ _) | (with_reducible refine Kd.C_drewN ?_ _) | (with_reducible refine Kd.C_drew ?_)));(case side2 => exact (Kd.R_reads' HE.out).2.1);rintro e w14 ⟨v114,rfl,ho0,hb⟩;refine ⟨_,rfl,?_⟩;have n0_ := Aside0.mk (Kd.S_elder' (by (with_reducible repeat (first | apply Kd.S_alloc | apply Kd.S_drewN | apply Kd.S_drew));exact HO_6.out) (Kd.R_base ho0) hb);have n1_ := Aside0.mk (Kd.S_elder' (by (with_reducible repeat (first | apply Kd.S_alloc | apply Kd.S_drewN | apply Kd.S_drew));exact HO_15.out) (Kd.R_base ho0) hb);have n2_ := Aside0.mk (Kd.R_lower ho0 (below_size (by repeat (first | (with_reducible first | exact HB.out | apply below_alloc | apply pw_below_drewN | apply below_drew1) | exact HB.out))));have n3_ := Aside0.mk (below_step (by repeat (first | (with_reducible first | exact HB.out | apply below_alloc | apply pw_below_drewN | apply below_drew1) | exact HB.out)) hb);have n4_ := Aside0.mk (Kd.R_elder' (by (with_reducible repeat (first | apply Kd.R_alloc | apply Kd.R_drewN | apply Kd.R_drew));exact HE.out) (Kd.R_base ho0) hb);clear HE;have HE := n4_;clear n4_;clear HO_6;clear HO_15;clear HB;have HO_6 := n0_;have HO_15 := n1_;have HO115 := n2_;have HB := n3_;clear n0_ n1_ n2_ n3_;(try clear hb);(try clear hb2);(try clear hk);(try clear hi);(try clear ho0)) | ((with_reducible refine gate_builtin (b := .append) (xs := #[.tmp 28, .tmp 30]) rfl ?_);at_builtin;refine Kd.R_append (Kd.int .i64) (w0 := w) w.heap.size rfl (.tmp 28) (.tmp 30) 25 3 (.int .i64 0) 8 rfl Try.underlying25 info3 rfl (by decide) (by omega) v114 t113 x9_3 [.int .i64 x9_3] (fun _ => True) (fun _ => False) rfl rfl ?aP (fun _ hk => hk.elim) ?aF ?aO ?aB ?aS ?aL ?_;(case aP => exact rfl);(case aB => exact (by repeat (first | (with_reducible first | exact HB.out | apply below_alloc | apply pw_below_drewN | apply below_drew1) | exact HB.out)));(case aF => exact (fun _ _ => trivial));(case aO => exact (by (with_reducible repeat (first | apply Kd.R_alloc | apply Kd.R_drewN | apply Kd.R_drew));exact HO115.out));(case aS => exact (below_size (by repeat (first | (with_reducible first | exact HB.out | apply below_alloc | apply pw_below_drewN | apply below_drew1) | exact HB.out))));(case aL => have := LMc12.out;omega);intro v117 w15 ho hb hg hat;rw [← Ny116.out] at ho;have n0_ := Aside0.mk (Kd.S_after (ok := (fun k_ => some k_ ≠ (.slice (some ad112) x5_1.length co6 : Value).ownBlock)) (by (with_reducible repeat (first | apply Kd.S_alloc | apply Kd.S_drewN | apply Kd.S_drew));exact HO_6.out) hg hat);have n1_ := Aside0.mk (Kd.S_after (ok := (fun k_ => some k_ ≠ (u6 : Value).ownBlock)) (by (with_reducible repeat (first | apply Kd.S_alloc | apply Kd.S_drewN | apply Kd.S_drew));exact HO_15.out) hg hat);have n2_ := Aside0.mk (hb);have n3_ := Aside0.mk (ho);have n4_ := Aside0.mk (Kd.R_after (ok := fun _ => True) (by (with_reducible repeat (first | apply Kd.R_alloc | apply Kd.R_drewN | apply Kd.R_drew));exact HE.out) hg hat);clear HE;have HE := n4_;clear n4_;clear HO_6;clear HO_15;clear HB;clear HO115;have HO_6 := n0_;have HO_15 := n1_;have HB := n2_;have HO118 := n3_;clear n0_ n1_ n2_ n3_;clear ho hb hg hat;obtain ⟨Ao17,co17,eo17⟩ := Kd.R_slice HO118.out;subst eo17) | ((with_reducible refine gate_builtin (b := .append) (xs := #[.tmp 26, .tmp 32]) rfl ?_);at_builtin;refine Kd.S_append (Kd.slice 3 (Kd.int .i64)) (w0 := w) w.heap.size rfl (.tmp 26) (.tmp 32) 31 25 (.slice none 0 0) 24 rfl Try.underlying31 info25 rfl (by decide) (by omega) u6 x6_3 y116 [.slice Ao17 y116.length co17] (fun k_ => some k_ ≠ (.slice (some ad112) x5_1.length co6 : Value).ownBlock) (fun k_ => some k_ = (.slice Ao17 y116.length co17 : Value).ownBlock) rfl rfl ?aP (fun k_ hk_ => ((Kd.R_mono (ok' := fun k_ => ((fun k_ => some k_ ≠ (.slice (some ad112) x5_1.length co6 : Value).ownBlock)) k_ ∧ some k_ ≠ (u6 : Value).ownBlock) (Kd.R_apart' (Kd.R_apart' (HO118.out) (Kd.S_typed HO_15.out) (by decide)) (Kd.S_typed HO_6.out) (by decide)) (fun k_ hk => ⟨hk.1.2,hk.2⟩))).1 k_ hk_.symm) ?aF ?aO ?aB ?aS ?aL ?_;(case aP => exact Kd.M_row (Kd.R_mono (Kd.R_tight rfl (Kd.R_mono (ok' := fun k_ => ((fun k_ => some k_ ≠ (.slice (some ad112) x5_1.length co6 : Value).ownBlock)) k_ ∧ some k_ ≠ (u6 : Value).ownBlock) (Kd.R_apart' (Kd.R_apart' (HO118.out) (Kd.S_typed HO_15.out) (by decide)) (Kd.S_typed HO_6.out) (by decide)) (fun k_ hk => ⟨hk.1.2,hk.2⟩))) (fun _ h_ => h_)));(case aB => exact (by repeat (first | (with_reducible first | exact HB.out | apply below_alloc | apply pw_below_drewN | apply below_drew1) | exact HB.out)));(case aF => exact (fun k_ hk => Kd.fresh' (Kd.S_lt (by (with_reducible repeat (first | apply Kd.S_alloc | apply Kd.S_drewN | apply Kd.S_drew));exact HO_15.out)) k_ hk));(case aO => exact (by (with_reducible repeat (first | apply Kd.S_alloc | apply Kd.S_drewN | apply Kd.S_drew));exact Kd.S_mono HO_6.out (fun k_ hk => ⟨hk.1,fun e_ => hk.2 e_⟩)));(case aS => exact (below_size (by repeat (first | (with_reducible first | exact HB.out | apply below_alloc | apply pw_below_drewN | apply below_drew1) | exact HB.out))));(case aL => have := LMc13.out;omega);intro v120 w16 ho hb hg hat;rw [← Ny119.out] at ho;have n0_ := Aside0.mk (Kd.S_after (ok := (fun k_ => some k_ ≠ (.slice Ao17 y116.length co17 : Value).ownBlock)) (by (with_reducible repeat (first | apply Kd.S_alloc | apply Kd.S_drewN | apply Kd.S_drew));exact Kd.S_mono HO_15.out (fun _ hk => ⟨hk.2,hk.1⟩)) hg hat);have n1_ := Aside0.mk (hb);have n2_ := Aside0.mk (ho);have n4_ := Aside0.mk (Kd.R_after (ok := fun _ => True) (by (with_reducible repeat (first | apply Kd.R_alloc | apply Kd.R_drewN | apply Kd.R_drew));exact Kd.R_mono (Kd.R_apart' HE.out (Kd.S_typed HO_6.out) (by decide)) (fun _ hk => ⟨trivial,hk.2⟩)) hg hat);clear HE;have HE := n4_;clear n4_;clear HO_15;clear HB;clear HO_6;clear HO118;have HO_15 := n0_;have HB := n1_;have HO121 := n2_;clear n0_ n1_ n2_;clear ho hb hg hat))
              go_roundg k3
              case measure => have := HK1.out;have := HK2.out;have := HK3.out;omega
              case rel => exact ⟨(y119),(wrap64 (x9_3 + 1)),(by first | rfl | (simp;done) | (simp [*];done)),H',⟨by have := HK1.out;have := HK2.out;have := HK3.out;omega⟩,⟨by (with_reducible repeat (first | apply Kd.S_alloc | apply Kd.S_drewN | apply Kd.S_drew));exact HO121.out⟩,⟨by (with_reducible repeat (first | apply Kd.S_alloc | apply Kd.S_drewN | apply Kd.S_drew));exact Kd.S_mono HO_15.out (fun _ hk => hk.2)⟩,⟨by repeat (first | (with_reducible first | exact HB.out | apply below_alloc | apply pw_below_drewN | apply below_drew1) | exact HB.out)⟩,⟨by (with_reducible repeat (first | apply Kd.R_alloc | apply Kd.R_drewN | apply Kd.R_drew));exact Kd.R_mono HE.out (fun _ _ => trivial)⟩⟩
             ·rw [if_neg c13] at H
              exact absurd H (by simp)
            ·rw [if_neg c12] at H
             exact absurd H (by simp)
           ·rw [if_neg c10] at H
            have c10b0 : decide (x9_3 ≤ a1) = false := decide_eq_false c10
            clear c10
            have H' := Aside0.mk H
            clear H
            go_wp2
            go_roundg k3
            case measure => have := HK1.out;have := HK2.out;have := HK3.out;omega
            case rel => exact ⟨(x6_3),(wrap64 (x17_2 + 1)),(by first | rfl | (simp;done) | (simp [*];done)),H',⟨by have := HK1.out;have := HK2.out;have := HK3.out;omega⟩,⟨by (with_reducible repeat (first | apply Kd.S_alloc | apply Kd.S_drewN | apply Kd.S_drew));exact HO_6.out⟩,⟨by (with_reducible repeat (first | apply Kd.S_alloc | apply Kd.S_drewN | apply Kd.S_drew));exact HO_15.out⟩,⟨by repeat (first | (with_reducible first | exact HB.out | apply below_alloc | apply pw_below_drewN | apply below_drew1) | exact HB.out)⟩⟩
        ·rw [if_neg c9] at H
         exact absurd H (by simp)
       ·rw [if_neg c8] at H
        exact absurd H (by simp)
      ·rw [if_neg c7] at H
       have c7b0 : decide (x17_2 < (x5_1.length : Int)) = false := decide_eq_false c7
       clear c7
       have H' := Aside0.mk H
       clear H
       go_wp2
       go_roundg k2
       case measure => have := HK1.out;have := HK2.out;omega
       case rel => exact ⟨(wrap64 (x0_1 - 1)),(x6_2),(by first | rfl | (simp;done) | (simp [*];done)),H',⟨by have := HK1.out;have := HK2.out;omega⟩,⟨by (with_reducible repeat (first | apply Kd.S_alloc | apply Kd.S_drewN | apply Kd.S_drew));exact Kd.S_mono HO_6.out (fun _ hk => trivial)⟩,⟨by repeat (first | (with_reducible first | exact HB.out | apply below_alloc | apply pw_below_drewN | apply below_drew1) | exact HB.out)⟩⟩
   ·rw [if_neg c5] at H
    have c5b0 : decide (0 < x0_1) = false := decide_eq_false c5
    clear c5
    obtain rfl := Option.some.inj H
    go_wp2
    go_ret
    exact ⟨_,by first | rfl | (simp [errW_none,errW_some] <;> rfl) | (simp [*,errW_none,errW_some] <;> rfl),by (with_reducible repeat (first | apply Kd.S_alloc | apply Kd.S_drewN | apply Kd.S_drew));exact HO_5.out,by repeat (first | (with_reducible first | exact HB.out | apply below_alloc | apply pw_below_drewN | apply below_drew1) | exact HB.out)⟩

/-! ### impl_listsOf: function 65 -/
/-- From place i down: zeros where the greatest number stands;the list then,and where it stops. -/
def lback : Nat → Int → List Int → Int → Option (List Int × Int)
 | 0,_,_,_ => none
 | k + 1,m,l,i => if 0 ≤ i then (if i < (l.length : Int) then (if rd l i = m then lback k m (l.set i.toNat 0) (wrap64 (i - 1)) else some (l,i)) else none) else some (l,i)
/-- All lists one by one,each handed on with what was made of the elder ones. -/
def lists {T : Type} (step : Nat → List Int → T → Option T) : Nat → Int → Int → List Int → T → Option T
 | 0,_,_,_,_ => none
 | k + 1,n,m,l,s => (step k l s).bind fun s' => ((lback k m l (wrap64 (n - 1))).bind fun q => (if q.2 < 0 then some s' else (if q.2 < (q.1.length : Int) then lists step k n m (q.1.set q.2.toNat (wrap64 (rd q.1 q.2 + 1))) s' else none)))
theorem lback_mono : ∀ (k : Nat) (m : Int) (l : List Int) (i : Int),LeO (lback k m l i) (lback (k + 1) m l i)
 | 0,_,_,_ => fun r h => by simp [lback] at h
 | k + 1,m,l,i => by
  unfold lback
  exact LeO.ite (LeO.ite (LeO.ite (lback_mono k _ _ _) (LeO.refl _)) (LeO.refl _)) (LeO.refl _)
theorem lists_mono {T : Type} {step : Nat → List Int → T → Option T} (hs : ∀ k l s,LeO (step k l s) (step (k + 1) l s)) : ∀ (k : Nat) (n m : Int) (l : List Int) (s : T),LeO (lists step k n m l s) (lists step (k + 1) n m l s)
 | 0,_,_,_,_ => fun r h => by simp [lists] at h
 | k + 1,n,m,l,s => by
  unfold lists
  refine LeO.bind (hs k l s) (fun _ => LeO.bind (lback_mono k _ _ _) (fun _ => LeO.ite (LeO.refl _) (LeO.ite (lists_mono hs k _ _ _ _) (LeO.refl _))))
def impl_listsOf.f (k : Nat) (a0 a1 : Int) (c : Nat) : Option Unit := none
set_option maxHeartbeats 8000000 in
set_option maxRecDepth 100000 in
/-- What is called for each list keeps all but S,which lies below the list's own block;I tells what it has made so far. -/
theorem impl_listsOf.genCountByRest {T : Type} (step : Nat → List Int → T → Option T) (p1 p2 : Value) (I : Nat → T → World → Prop) (S : Nat → Prop) (w0 w : World) (k0 : Nat) (n m : Int) (hn0 : 1 ≤ n) (hn1 : n ≤ 1000) (s0 r : T) (hB : Below w0.heap.size w0 w) (hI0 : ∀ g,w.heap.size ≤ g → I g s0 w)
  (hI : ∀ g s W W',I g s W → w.heap.size ≤ W.heap.size → Kept W W' (fun k_ => k_ = g) → I g s W') (hS : ∀ k_,S k_ → k_ < w.heap.size)
  (hcall : ∀ (k : Nat) (W : World) (g cc : Nat) (l : List Int) (s s' : T),k ≤ k0 → Below w0.heap.size w0 W → w.heap.size ≤ W.heap.size → I g s W → Kd.R (Kd.int .i64) 3 W w0.heap.size (fun k_ => w.heap.size ≤ k_) (.slice (some ⟨g,0,none⟩) l.length cc) l → step k l s = some s' → Calls Try.prog 66 #[.slice (some ⟨g,0,none⟩) l.length cc,p1,p2] W fun e w' => e = .returned (.tuple #[]) ∧ I g s' w' ∧ Below w0.heap.size w0 w' ∧ Kept W w' S)
  (h : lists step k0 n m (List.replicate n.toNat 0) s0 = some r) :
  Calls Try.prog 65 #[.int .i64 n, .int .i64 m, .func (.func 66) #[] #[p1,p2]] w fun e w' => e = .returned (.tuple #[]) ∧ (∃ g,I g r w') ∧ Below w0.heap.size w0 w' := by
 have HB := Aside0.mk hB
 have HI0 := Aside0.mk hI0
 have HIK := Aside0.mk hI
 have HS := Aside0.mk hS
 have HCL := Aside0.mk hcall
 have HN := Aside0.mk (And.intro hn0 hn1)
 have H' := Aside0.mk h
 have cn0 : decide (0 ≤ n) = true := decide_eq_true (by omega)
 have wn : wrap64 (n - 1) = wrap64 (n - 1) := rfl
 clear hB hI0 hI hS hcall hn0 hn1 h wn
 go_enter Try.func65,Try.ntmps65
 go_wp2_with ((with_reducible refine gate_dst (N := 9) rfl ?_);refine Kd.R_make (Kd.int .i64) _ 3 rfl (N := 9) rfl 25 _ _ rfl n rfl rfl Try.underlying25 (.int .i64 0) 8 info3 rfl (by decide) (by omega) 0 (ok := fun _ => True) (okp := fun _ => True) rfl (fun _ hk => hk) trivial (by have := HN.out;omega) (by have := HN.out;omega) (Below.refl _ _) (Nat.le_refl _) ?_;intro v6 w4 ho hb hg_ hnew_;clear hg_ hnew_;have n0_ := Aside0.mk (Kd.R_lower (Kd.R_mono (Kd.R_bound ho) (ok' := fun k_ => w.heap.size ≤ k_) (fun _ hk => hk.2.1)) HB.out.size);  have n2_ := Aside0.mk (show Below w0.heap.size w0 w4 from below_step HB.out hb);have n3_ := Aside0.mk (show w.heap.size ≤ w4.heap.size from hb.size);have hb_ := Aside0.mk hb;clear HB ho hb;have HO := n0_;have HB := n2_;have HZ := n3_;clear n0_ n2_ n3_)
 obtain ⟨g6,c6,e6,hg6,_,_⟩ := Kd.R_form HO.out (by have := HN.out;rw [List.length_replicate];omega)
 subst e6
 obtain ⟨L,hL⟩ : ∃ L,(List.replicate n.toNat (0 : Int)).length = L := ⟨_,rfl⟩
 rw [hL] at HO
 have HL0 := Aside0.mk hL
 have HG6 := Aside0.mk hg6
 have HG7 := Aside0.mk (show w.heap.size ≤ g6 from HO.out.1 _ rfl)
 have HI := Aside0.mk (HIK.out g6 s0 _ _ (HI0.out g6 HG7.out) (Nat.le_refl _) (Kept.of_below hb_.out _))
 clear hg6 hb_ HI0
 (try rw [hL])
 clear hL
 go_loopg [7] k0 (fun kq v7 w' => ∃ (x6 : List Int) (s : T),Aside0 (x6.length = L) ∧ Aside0 (lists step kq n m x6 s = some r) ∧ Aside0 (kq ≤ k0) ∧ Aside0 (Kd.R (Kd.int .i64) 3 w' w0.heap.size (fun k_ => w.heap.size ≤ k_) (.slice (some ⟨g6,0,none⟩) L c6) x6) ∧ Aside0 (I g6 s w') ∧ Aside0 (Below w0.heap.size w0 w') ∧ Aside0 (w.heap.size ≤ w'.heap.size))
 case atStart => exact ⟨List.replicate n.toNat 0,s0,HL0,H',⟨Nat.le_refl _⟩,HO,HI,HB,HZ⟩
 case round =>
  clear H' HO HI HB HZ HL0
  obtain ⟨x6,s,⟨hl⟩,HA,HK1,HO,HI,HB,HZ⟩ := hrel
  subst hl
  cases gk with
  | zero => exact absurd HA.out (by simp [lists])
  | succ k1 =>
   have H := HA.out
   clear HA
   simp only [lists] at H
   obtain ⟨s',A1,H⟩ := Option.bind_eq_some_iff.mp H
   obtain ⟨⟨q1,q2⟩,A2,H⟩ := Option.bind_eq_some_iff.mp H
   replace A1 := Aside0.mk A1
   replace A2 := Aside0.mk A2
   have H' := Aside0.mk H
   clear H
   go_wp2_with fail
   refine (HCL.out k1 _ g6 c6 x6 s s' (by have := HK1.out;omega) HB.out HZ.out HI.out HO.out A1.out).mono ?_
   rintro e w5 ⟨rfl,hi,hb,hk⟩
   have n0_ := Aside0.mk (Kd.R_kept HO.out hk (fun k_ h1 h2 => absurd (HS.out k_ h2) (Nat.not_lt.2 h1)))
   have n1_ := Aside0.mk (Nat.le_trans HZ.out hk.1)
   clear HO HI HB HZ
   have HO := n0_
   have HI := Aside0.mk hi
   have HB := Aside0.mk hb
   have HZ := n1_
   clear n0_ n1_ hi hb hk
   obtain ⟨L,hL⟩ : ∃ L,x6.length = L := ⟨_,rfl⟩
   rw [hL] at HO
   have HL := Aside0.mk hL
   go_wp2
   (try rw [hL])
   clear hL
   go_loopg [7] k1 (fun kq v7 w' => ∃ (y6 : List Int) (y7 : Int),Aside0 (y6.length = L) ∧ v7 = .int .i64 y7 ∧ Aside0 (lback kq m y6 y7 = some (q1,q2)) ∧ Aside0 (kq ≤ k1) ∧ Aside0 (Kd.R (Kd.int .i64) 3 w' w0.heap.size (fun k_ => w.heap.size ≤ k_) (.slice (some ⟨g6,0,none⟩) L c6) y6) ∧ Aside0 (I g6 s' w') ∧ Aside0 (Below w0.heap.size w0 w') ∧ Aside0 (w.heap.size ≤ w'.heap.size))
   case atStart => exact ⟨x6,wrap64 (n - 1),HL,(by first | rfl | (simp;done) | (simp [*];done)),A2,⟨Nat.le_refl _⟩,HO,HI,HB,HZ⟩
   case round =>
    clear A2 HO HI HB HZ
    obtain ⟨y6,y7,⟨hl⟩,rfl,HA,HK2,HO,HI,HB,HZ⟩ := hrel
    subst hl
    cases gk with
    | zero => exact absurd HA.out (by simp [lback])
    | succ k2 =>
     have H := HA.out
     clear HA
     simp only [lback] at H
     by_cases c0 : 0 ≤ y7
     ·rw [if_pos c0] at H
      by_cases c1 : y7 < (y6.length : Int)
      ·rw [if_pos c1] at H
       obtain ⟨hx,hf⟩ := Kd.R_celln 0 HO.out y7 c0 c1
       replace hx : wr.cell? ⟨g6,y7.toNat,none⟩ = some (.int .i64 (rd y6 y7)) := hx
       by_cases c2 : rd y6 y7 = m
       ·rw [if_pos c2] at H
        have H2 := Aside0.mk H
        have c2b : (rd y6 y7 == m) = true := beq_iff_eq.mpr c2
        have c0b : decide (0 ≤ y7) = true := decide_eq_true c0
        have HP := Aside0.mk (Kd.R_putg HO.out y7 0)
        replace c0 := eq_true c0
        replace c1 := eq_true c1
        clear H c2
        go_wp2
        have n0_ := Aside0.mk HP.out.1
        have n1_ := Aside0.mk (HIK.out _ _ _ _ HI.out HZ.out (Kept.setCell (p := ⟨g6,y7.toNat,none⟩) (Kept.refl wr (fun k_ => k_ = g6)) (.inl rfl) (.int .i64 0)))
        have n2_ := Aside0.mk (below_set (j := y7.toNat) (v := .int .i64 0) HB.out HG6.out)
        have n3_ := Aside0.mk (show w.heap.size ≤ (wr.setCell ⟨g6,y7.toNat,none⟩ (.int .i64 0)).heap.size by simpa [World.setCell] using HZ.out)
        clear HO HI HB HZ HP hx hf
        have HO := n0_
        have HI := n1_
        have HB := n2_
        have HZ := n3_
        clear n0_ n1_ n2_ n3_
        go_roundg k2
        case measure => have := HK1.out;have := HK2.out;omega
        case rel => exact ⟨y6.set y7.toNat 0,wrap64 (y7 - 1),⟨by rw [List.length_set]⟩,(by first | rfl | (simp;done) | (simp [*];done)),H2,⟨by have := HK2.out;omega⟩,HO,HI,HB,HZ⟩
       ·rw [if_neg c2] at H
        simp only [Option.some.injEq,Prod.mk.injEq] at H
        obtain ⟨rfl,rfl⟩ := H
        have c2b : (rd y6 y7 == m) = false := beq_eq_false_iff_ne.mpr c2
        have c0b : decide (0 ≤ y7) = true := decide_eq_true c0
        have c3b : decide (y7 < 0) = false := decide_eq_false (by omega)
        have H2 := H'.out
        clear H'
        rw [if_neg (by omega),if_pos c1] at H2
        replace H2 := Aside0.mk H2
        have HP := Aside0.mk (Kd.R_putg HO.out y7 (wrap64 (rd y6 y7 + 1)))
        replace c0 := eq_true c0
        replace c1 := eq_true c1
        clear c2
        go_wp2
        have n0_ := Aside0.mk HP.out.1
        have n1_ := Aside0.mk (HIK.out _ _ _ _ HI.out HZ.out (Kept.setCell (p := ⟨g6,y7.toNat,none⟩) (Kept.refl wr (fun k_ => k_ = g6)) (.inl rfl) (.int .i64 (wrap64 (rd y6 y7 + 1)))))
        have n2_ := Aside0.mk (below_set (j := y7.toNat) (v := .int .i64 (wrap64 (rd y6 y7 + 1))) HB.out HG6.out)
        have n3_ := Aside0.mk (show w.heap.size ≤ (wr.setCell ⟨g6,y7.toNat,none⟩ (.int .i64 (wrap64 (rd y6 y7 + 1)))).heap.size by simpa [World.setCell] using HZ.out)
        clear HO HI HB HZ HP hx hf
        have HO := n0_
        have HI := n1_
        have HB := n2_
        have HZ := n3_
        clear n0_ n1_ n2_ n3_
        (try rw [← HL.out])
        go_roundg k1
        case measure => have := HK1.out;have := HK2.out;omega
        case rel => exact ⟨y6.set y7.toNat (wrap64 (rd y6 y7 + 1)),s',⟨by rw [List.length_set];exact HL.out.symm⟩,H2,⟨by have := HK1.out;omega⟩,⟨by rw [HL.out];exact HO.out⟩,HI,HB,HZ⟩
      ·rw [if_neg c1] at H
       exact absurd H (by simp)
     ·rw [if_neg c0] at H
      simp only [Option.some.injEq,Prod.mk.injEq] at H
      obtain ⟨rfl,rfl⟩ := H
      have c0b : decide (0 ≤ y7) = false := decide_eq_false c0
      have c3b : decide (y7 < 0) = true := decide_eq_true (by omega)
      have H2 := H'.out
      clear H'
      rw [if_pos (by omega)] at H2
      obtain rfl := Option.some.inj H2
      clear H2 c0
      go_wp2
      first | go_end0 | ((try simp only [Exit.inBlock,Exit.then]);refine bodyPost_ret (results_none rfl _ _ _) rfl ?_)
      exact ⟨rfl,⟨g6,HI.out⟩,HB.out⟩
set_option maxHeartbeats 8000000 in
set_option maxRecDepth 100000 in
/-- What is called for each list keeps all but S,which lies below the list's own block;I tells what it has made so far. -/
theorem impl_listsOf.genSlowestCircle {T : Type} (step : Nat → List Int → T → Option T) (p1 p2 : Value) (I : Nat → T → World → Prop) (S : Nat → Prop) (w0 w : World) (k0 : Nat) (n m : Int) (hn0 : 1 ≤ n) (hn1 : n ≤ 1000) (s0 r : T) (hB : Below w0.heap.size w0 w) (hI0 : ∀ g,w.heap.size ≤ g → I g s0 w)
  (hI : ∀ g s W W',I g s W → w.heap.size ≤ W.heap.size → Kept W W' (fun k_ => k_ = g) → I g s W') (hS : ∀ k_,S k_ → k_ < w.heap.size)
  (hcall : ∀ (k : Nat) (W : World) (g cc : Nat) (l : List Int) (s s' : T),k ≤ k0 → Below w0.heap.size w0 W → w.heap.size ≤ W.heap.size → I g s W → Kd.R (Kd.int .i64) 3 W w0.heap.size (fun k_ => w.heap.size ≤ k_) (.slice (some ⟨g,0,none⟩) l.length cc) l → step k l s = some s' → Calls Try.prog 68 #[.slice (some ⟨g,0,none⟩) l.length cc,p1,p2] W fun e w' => e = .returned (.tuple #[]) ∧ I g s' w' ∧ Below w0.heap.size w0 w' ∧ Kept W w' S)
  (h : lists step k0 n m (List.replicate n.toNat 0) s0 = some r) :
  Calls Try.prog 65 #[.int .i64 n, .int .i64 m, .func (.func 68) #[] #[p1,p2]] w fun e w' => e = .returned (.tuple #[]) ∧ (∃ g,I g r w') ∧ Below w0.heap.size w0 w' := by
 have HB := Aside0.mk hB
 have HI0 := Aside0.mk hI0
 have HIK := Aside0.mk hI
 have HS := Aside0.mk hS
 have HCL := Aside0.mk hcall
 have HN := Aside0.mk (And.intro hn0 hn1)
 have H' := Aside0.mk h
 have cn0 : decide (0 ≤ n) = true := decide_eq_true (by omega)
 have wn : wrap64 (n - 1) = wrap64 (n - 1) := rfl
 clear hB hI0 hI hS hcall hn0 hn1 h wn
 go_enter Try.func65,Try.ntmps65
 go_wp2_with ((with_reducible refine gate_dst (N := 9) rfl ?_);refine Kd.R_make (Kd.int .i64) _ 3 rfl (N := 9) rfl 25 _ _ rfl n rfl rfl Try.underlying25 (.int .i64 0) 8 info3 rfl (by decide) (by omega) 0 (ok := fun _ => True) (okp := fun _ => True) rfl (fun _ hk => hk) trivial (by have := HN.out;omega) (by have := HN.out;omega) (Below.refl _ _) (Nat.le_refl _) ?_;intro v6 w4 ho hb hg_ hnew_;clear hg_ hnew_;have n0_ := Aside0.mk (Kd.R_lower (Kd.R_mono (Kd.R_bound ho) (ok' := fun k_ => w.heap.size ≤ k_) (fun _ hk => hk.2.1)) HB.out.size);  have n2_ := Aside0.mk (show Below w0.heap.size w0 w4 from below_step HB.out hb);have n3_ := Aside0.mk (show w.heap.size ≤ w4.heap.size from hb.size);have hb_ := Aside0.mk hb;clear HB ho hb;have HO := n0_;have HB := n2_;have HZ := n3_;clear n0_ n2_ n3_)
 obtain ⟨g6,c6,e6,hg6,_,_⟩ := Kd.R_form HO.out (by have := HN.out;rw [List.length_replicate];omega)
 subst e6
 obtain ⟨L,hL⟩ : ∃ L,(List.replicate n.toNat (0 : Int)).length = L := ⟨_,rfl⟩
 rw [hL] at HO
 have HL0 := Aside0.mk hL
 have HG6 := Aside0.mk hg6
 have HG7 := Aside0.mk (show w.heap.size ≤ g6 from HO.out.1 _ rfl)
 have HI := Aside0.mk (HIK.out g6 s0 _ _ (HI0.out g6 HG7.out) (Nat.le_refl _) (Kept.of_below hb_.out _))
 clear hg6 hb_ HI0
 (try rw [hL])
 clear hL
 go_loopg [7] k0 (fun kq v7 w' => ∃ (x6 : List Int) (s : T),Aside0 (x6.length = L) ∧ Aside0 (lists step kq n m x6 s = some r) ∧ Aside0 (kq ≤ k0) ∧ Aside0 (Kd.R (Kd.int .i64) 3 w' w0.heap.size (fun k_ => w.heap.size ≤ k_) (.slice (some ⟨g6,0,none⟩) L c6) x6) ∧ Aside0 (I g6 s w') ∧ Aside0 (Below w0.heap.size w0 w') ∧ Aside0 (w.heap.size ≤ w'.heap.size))
 case atStart => exact ⟨List.replicate n.toNat 0,s0,HL0,H',⟨Nat.le_refl _⟩,HO,HI,HB,HZ⟩
 case round =>
  clear H' HO HI HB HZ HL0
  obtain ⟨x6,s,⟨hl⟩,HA,HK1,HO,HI,HB,HZ⟩ := hrel
  subst hl
  cases gk with
  | zero => exact absurd HA.out (by simp [lists])
  | succ k1 =>
   have H := HA.out
   clear HA
   simp only [lists] at H
   obtain ⟨s',A1,H⟩ := Option.bind_eq_some_iff.mp H
   obtain ⟨⟨q1,q2⟩,A2,H⟩ := Option.bind_eq_some_iff.mp H
   replace A1 := Aside0.mk A1
   replace A2 := Aside0.mk A2
   have H' := Aside0.mk H
   clear H
   go_wp2_with fail
   refine (HCL.out k1 _ g6 c6 x6 s s' (by have := HK1.out;omega) HB.out HZ.out HI.out HO.out A1.out).mono ?_
   rintro e w5 ⟨rfl,hi,hb,hk⟩
   have n0_ := Aside0.mk (Kd.R_kept HO.out hk (fun k_ h1 h2 => absurd (HS.out k_ h2) (Nat.not_lt.2 h1)))
   have n1_ := Aside0.mk (Nat.le_trans HZ.out hk.1)
   clear HO HI HB HZ
   have HO := n0_
   have HI := Aside0.mk hi
   have HB := Aside0.mk hb
   have HZ := n1_
   clear n0_ n1_ hi hb hk
   obtain ⟨L,hL⟩ : ∃ L,x6.length = L := ⟨_,rfl⟩
   rw [hL] at HO
   have HL := Aside0.mk hL
   go_wp2
   (try rw [hL])
   clear hL
   go_loopg [7] k1 (fun kq v7 w' => ∃ (y6 : List Int) (y7 : Int),Aside0 (y6.length = L) ∧ v7 = .int .i64 y7 ∧ Aside0 (lback kq m y6 y7 = some (q1,q2)) ∧ Aside0 (kq ≤ k1) ∧ Aside0 (Kd.R (Kd.int .i64) 3 w' w0.heap.size (fun k_ => w.heap.size ≤ k_) (.slice (some ⟨g6,0,none⟩) L c6) y6) ∧ Aside0 (I g6 s' w') ∧ Aside0 (Below w0.heap.size w0 w') ∧ Aside0 (w.heap.size ≤ w'.heap.size))
   case atStart => exact ⟨x6,wrap64 (n - 1),HL,(by first | rfl | (simp;done) | (simp [*];done)),A2,⟨Nat.le_refl _⟩,HO,HI,HB,HZ⟩
   case round =>
    clear A2 HO HI HB HZ
    obtain ⟨y6,y7,⟨hl⟩,rfl,HA,HK2,HO,HI,HB,HZ⟩ := hrel
    subst hl
    cases gk with
    | zero => exact absurd HA.out (by simp [lback])
    | succ k2 =>
     have H := HA.out
     clear HA
     simp only [lback] at H
     by_cases c0 : 0 ≤ y7
     ·rw [if_pos c0] at H
      by_cases c1 : y7 < (y6.length : Int)
      ·rw [if_pos c1] at H
       obtain ⟨hx,hf⟩ := Kd.R_celln 0 HO.out y7 c0 c1
       replace hx : wr.cell? ⟨g6,y7.toNat,none⟩ = some (.int .i64 (rd y6 y7)) := hx
       by_cases c2 : rd y6 y7 = m
       ·rw [if_pos c2] at H
        have H2 := Aside0.mk H
        have c2b : (rd y6 y7 == m) = true := beq_iff_eq.mpr c2
        have c0b : decide (0 ≤ y7) = true := decide_eq_true c0
        have HP := Aside0.mk (Kd.R_putg HO.out y7 0)
        replace c0 := eq_true c0
        replace c1 := eq_true c1
        clear H c2
        go_wp2
        have n0_ := Aside0.mk HP.out.1
        have n1_ := Aside0.mk (HIK.out _ _ _ _ HI.out HZ.out (Kept.setCell (p := ⟨g6,y7.toNat,none⟩) (Kept.refl wr (fun k_ => k_ = g6)) (.inl rfl) (.int .i64 0)))
        have n2_ := Aside0.mk (below_set (j := y7.toNat) (v := .int .i64 0) HB.out HG6.out)
        have n3_ := Aside0.mk (show w.heap.size ≤ (wr.setCell ⟨g6,y7.toNat,none⟩ (.int .i64 0)).heap.size by simpa [World.setCell] using HZ.out)
        clear HO HI HB HZ HP hx hf
        have HO := n0_
        have HI := n1_
        have HB := n2_
        have HZ := n3_
        clear n0_ n1_ n2_ n3_
        go_roundg k2
        case measure => have := HK1.out;have := HK2.out;omega
        case rel => exact ⟨y6.set y7.toNat 0,wrap64 (y7 - 1),⟨by rw [List.length_set]⟩,(by first | rfl | (simp;done) | (simp [*];done)),H2,⟨by have := HK2.out;omega⟩,HO,HI,HB,HZ⟩
       ·rw [if_neg c2] at H
        simp only [Option.some.injEq,Prod.mk.injEq] at H
        obtain ⟨rfl,rfl⟩ := H
        have c2b : (rd y6 y7 == m) = false := beq_eq_false_iff_ne.mpr c2
        have c0b : decide (0 ≤ y7) = true := decide_eq_true c0
        have c3b : decide (y7 < 0) = false := decide_eq_false (by omega)
        have H2 := H'.out
        clear H'
        rw [if_neg (by omega),if_pos c1] at H2
        replace H2 := Aside0.mk H2
        have HP := Aside0.mk (Kd.R_putg HO.out y7 (wrap64 (rd y6 y7 + 1)))
        replace c0 := eq_true c0
        replace c1 := eq_true c1
        clear c2
        go_wp2
        have n0_ := Aside0.mk HP.out.1
        have n1_ := Aside0.mk (HIK.out _ _ _ _ HI.out HZ.out (Kept.setCell (p := ⟨g6,y7.toNat,none⟩) (Kept.refl wr (fun k_ => k_ = g6)) (.inl rfl) (.int .i64 (wrap64 (rd y6 y7 + 1)))))
        have n2_ := Aside0.mk (below_set (j := y7.toNat) (v := .int .i64 (wrap64 (rd y6 y7 + 1))) HB.out HG6.out)
        have n3_ := Aside0.mk (show w.heap.size ≤ (wr.setCell ⟨g6,y7.toNat,none⟩ (.int .i64 (wrap64 (rd y6 y7 + 1)))).heap.size by simpa [World.setCell] using HZ.out)
        clear HO HI HB HZ HP hx hf
        have HO := n0_
        have HI := n1_
        have HB := n2_
        have HZ := n3_
        clear n0_ n1_ n2_ n3_
        (try rw [← HL.out])
        go_roundg k1
        case measure => have := HK1.out;have := HK2.out;omega
        case rel => exact ⟨y6.set y7.toNat (wrap64 (rd y6 y7 + 1)),s',⟨by rw [List.length_set];exact HL.out.symm⟩,H2,⟨by have := HK1.out;omega⟩,⟨by rw [HL.out];exact HO.out⟩,HI,HB,HZ⟩
      ·rw [if_neg c1] at H
       exact absurd H (by simp)
     ·rw [if_neg c0] at H
      simp only [Option.some.injEq,Prod.mk.injEq] at H
      obtain ⟨rfl,rfl⟩ := H
      have c0b : decide (0 ≤ y7) = false := decide_eq_false c0
      have c3b : decide (y7 < 0) = true := decide_eq_true (by omega)
      have H2 := H'.out
      clear H'
      rw [if_pos (by omega)] at H2
      obtain rfl := Option.some.inj H2
      clear H2 c0
      go_wp2
      first | go_end0 | ((try simp only [Exit.inBlock,Exit.then]);refine bodyPost_ret (results_none rfl _ _ _) rfl ?_)
      exact ⟨rfl,⟨g6,HI.out⟩,HB.out⟩

end Go.Proofs.Ytpcalkaamfhejaa.P
