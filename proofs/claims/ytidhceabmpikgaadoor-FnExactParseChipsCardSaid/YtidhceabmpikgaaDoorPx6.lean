/- Written by a program of this workplace (own_print.py, over the kit's print) for the functions that the statements reach, with contracts of its own. Lean checks it. -/
import Derived.Test.YtidhceabmpikgaaDoorPx0
import Derived.Test.YtidhceabmpikgaaDoorPx2
import Derived.Test.YtidhceabmpikgaaDoorPx4
import Derived.Test.YtidhceabmpikgaaDoorPx5
namespace Go.Proofs.YtidhceabmpikgaaDoor.P
open Go.RowKit Go.Proofs.YtidhceabmpikgaaDoorW.PrintWords Go.Proofs.YtidhceabmpikgaaDoorW.PrintLast Go.Proofs.YtidhceabmpikgaaDoorW.PrintMore
attribute [local go_sem] max2_int min2_int max_two min_two max_three min_three max_four min_four   -- for this text's walks alone
set_option linter.unusedVariables false
set_option linter.unusedSimpArgs false

/-! ### laws_FnExactParseChips: function 3 -/
mutual
def laws_FnExactParseChips.j0 : Nat → ByteArray → List Int → Bool → List Int → Bool → Option (Bool)
 | 0,_,_,_,_,_ => none
 | k + 1,x0,x3,x4,x5,x32 => if x32 = true then (some false) else ((laws_markIntS.f k x5 1).bind fun bt163 => ((laws_heldIntS.f k bt163.2 1).bind fun t165 => (if t165 < 0 then (some false) else (if t165 = bt163.1 then ((impl_ParseChips.f k x0).bind fun bt166 => ((laws_eqIntS.f k bt166.1 x3).bind fun t170 => (if t170 = true then (laws_FnExactParseChips.j1 k bt163.2 bt163.1 (bt166.2 != x4)) else (laws_FnExactParseChips.j1 k bt163.2 bt163.1 true)))) else (some false)))))
def laws_FnExactParseChips.j1 : Nat → List Int → Int → Bool → Option (Bool)
 | 0,_,_,_ => none
 | k + 1,x5,x7,x57 => if x57 = true then (some false) else ((laws_heldIntS.f k x5 1).bind fun t171 => (if t171 < 0 then (some false) else (if t171 = x7 then (some true) else (some false))))
end
def laws_FnExactParseChips.f (k : Nat) (a0 : ByteArray) : Option (Bool) := if (a0.size : Int) > 1048576 then (some true) else ((spec_ParseChips.f k a0).bind fun bt154 => ((impl_ParseChips.f k a0).bind fun bt158 => ((laws_eqIntS.f k bt158.1 bt154.1).bind fun t162 => (if t162 = true then (laws_FnExactParseChips.j0 k a0 bt154.1 bt154.2 bt158.1 (bt158.2 != bt154.2)) else (laws_FnExactParseChips.j0 k a0 bt154.1 bt154.2 bt158.1 true)))))
theorem laws_FnExactParseChips.mono_l : ∀ k,(∀ y0 y1 y2 y3 y4,LeO (laws_FnExactParseChips.j0 k y0 y1 y2 y3 y4) (laws_FnExactParseChips.j0 (k + 1) y0 y1 y2 y3 y4)) ∧ (∀ y0 y1 y2,LeO (laws_FnExactParseChips.j1 k y0 y1 y2) (laws_FnExactParseChips.j1 (k + 1) y0 y1 y2))
 | 0 => ⟨fun _ _ _ _ _ r h => by simp [laws_FnExactParseChips.j0] at h,fun _ _ _ r h => by simp [laws_FnExactParseChips.j1] at h⟩
 | k + 1 => by
  obtain ⟨ih0,ih1⟩ := laws_FnExactParseChips.mono_l k
  refine ⟨?_,?_⟩
  ·intro y0 y1 y2 y3 y4
   unfold laws_FnExactParseChips.j0
   repeat' first
   | (with_reducible exact ih0 _ _ _ _ _)
   | (with_reducible exact ih1 _ _ _)
   | (with_reducible exact impl_ParseChips.mono _ _)
   | (with_reducible exact laws_eqIntS.mono _ _ _)
   | (with_reducible exact laws_heldIntS.mono _ _ _)
   | (with_reducible exact laws_markIntS.mono _ _ _)
   | (with_reducible exact spec_ParseChips.mono _ _)
   | (with_reducible exact LeO.refl _)
   | (with_reducible exact LeO.none _)
   | (with_reducible refine LeO.ite ?_ ?_)
   | (with_reducible refine LeO.bind ?_ (fun _ => ?_))
   | exact ih0 _ _ _ _ _
   | exact ih1 _ _ _
   | exact impl_ParseChips.mono _ _
   | exact laws_eqIntS.mono _ _ _
   | exact laws_heldIntS.mono _ _ _
   | exact laws_markIntS.mono _ _ _
   | exact spec_ParseChips.mono _ _
   | exact LeO.none _
   | refine LeO.ite ?_ ?_
   | refine LeO.bind ?_ (fun _ => ?_)
  ·intro y0 y1 y2
   unfold laws_FnExactParseChips.j1
   repeat' first
   | (with_reducible exact ih0 _ _ _ _ _)
   | (with_reducible exact ih1 _ _ _)
   | (with_reducible exact impl_ParseChips.mono _ _)
   | (with_reducible exact laws_eqIntS.mono _ _ _)
   | (with_reducible exact laws_heldIntS.mono _ _ _)
   | (with_reducible exact laws_markIntS.mono _ _ _)
   | (with_reducible exact spec_ParseChips.mono _ _)
   | (with_reducible exact LeO.refl _)
   | (with_reducible exact LeO.none _)
   | (with_reducible refine LeO.ite ?_ ?_)
   | (with_reducible refine LeO.bind ?_ (fun _ => ?_))
   | exact ih0 _ _ _ _ _
   | exact ih1 _ _ _
   | exact impl_ParseChips.mono _ _
   | exact laws_eqIntS.mono _ _ _
   | exact laws_heldIntS.mono _ _ _
   | exact laws_markIntS.mono _ _ _
   | exact spec_ParseChips.mono _ _
   | exact LeO.none _
   | refine LeO.ite ?_ ?_
   | refine LeO.bind ?_ (fun _ => ?_)
theorem laws_FnExactParseChips.mono : ∀ a0 k,LeO (laws_FnExactParseChips.f k a0) (laws_FnExactParseChips.f (k + 1) a0) := by
 intro a0 k
 obtain ⟨ih0,ih1⟩ := laws_FnExactParseChips.mono_l k
 unfold laws_FnExactParseChips.f
 repeat' first
   | (with_reducible exact ih0 _ _ _ _ _)
   | (with_reducible exact ih1 _ _ _)
   | (with_reducible exact impl_ParseChips.mono _ _)
   | (with_reducible exact laws_eqIntS.mono _ _ _)
   | (with_reducible exact laws_heldIntS.mono _ _ _)
   | (with_reducible exact laws_markIntS.mono _ _ _)
   | (with_reducible exact spec_ParseChips.mono _ _)
   | (with_reducible exact LeO.refl _)
   | (with_reducible exact LeO.none _)
   | (with_reducible refine LeO.ite ?_ ?_)
   | (with_reducible refine LeO.bind ?_ (fun _ => ?_))
   | exact ih0 _ _ _ _ _
   | exact ih1 _ _ _
   | exact impl_ParseChips.mono _ _
   | exact laws_eqIntS.mono _ _ _
   | exact laws_heldIntS.mono _ _ _
   | exact laws_markIntS.mono _ _ _
   | exact spec_ParseChips.mono _ _
   | exact LeO.none _
   | refine LeO.ite ?_ ?_
   | refine LeO.bind ?_ (fun _ => ?_)
set_option maxHeartbeats 8000000 in
set_option maxRecDepth 100000 in
theorem laws_FnExactParseChips.calls (k : Nat) (a0 : ByteArray) (r : Bool) (w : World) (h : laws_FnExactParseChips.f k a0 = some r) (hE : Env w) :
  Calls Tryd.prog 3 #[.string a0] w fun e w' => e = .returned (.bool r) ∧ Below w.heap.size w w' := by
 have HB := Aside0.mk (Below.refl w.heap.size w)
 have H : (if (a0.size : Int) > 1048576 then (some true) else ((spec_ParseChips.f k a0).bind fun bt154 => ((impl_ParseChips.f k a0).bind fun bt158 => ((laws_eqIntS.f k bt158.1 bt154.1).bind fun t162 => (if t162 = true then (laws_FnExactParseChips.j0 k a0 bt154.1 bt154.2 bt158.1 (bt158.2 != bt154.2)) else (laws_FnExactParseChips.j0 k a0 bt154.1 bt154.2 bt158.1 true)))))) = some r := h
 clear h
 by_cases c2 : (a0.size : Int) > 1048576
 ·rw [if_pos c2] at H
  have c2b0 : decide (1048576 < (a0.size : Int)) = true := decide_eq_true c2
  have c2b1 : decide (1048576 < a0.size) = true := decide_eq_true (by omega)
  clear c2
  obtain rfl := Option.some.inj H
  go_enter Tryd.func3,Tryd.ntmps3
  go_wp2
  go_ret
  exact ⟨by first | rfl | (simp [errW_none,errW_some] <;> rfl) | (simp [*,errW_none,errW_some] <;> rfl),by repeat (first | (with_reducible first | exact HB.out | apply below_alloc | apply pw_below_drewN | apply below_drew1) | exact HB.out)⟩
 ·rw [if_neg c2] at H
  have c2b0 : decide (1048576 < (a0.size : Int)) = false := decide_eq_false c2
  have c2b1 : decide (1048576 < a0.size) = false := decide_eq_false (by omega)
  clear c2
  replace H := Option.bind_eq_some_iff.mp H
  obtain ⟨⟨t154,t155⟩,A30,H⟩ := H
  replace H : ((impl_ParseChips.f k a0).bind fun bt158 => ((laws_eqIntS.f k bt158.1 t154).bind fun t162 => (if t162 = true then (laws_FnExactParseChips.j0 k a0 t154 t155 bt158.1 (bt158.2 != t155)) else (laws_FnExactParseChips.j0 k a0 t154 t155 bt158.1 true)))) = some r := H
  have A3 := Aside0.mk A30
  clear A30
  replace H := Option.bind_eq_some_iff.mp H
  obtain ⟨⟨t158,t159⟩,A40,H⟩ := H
  replace H : ((laws_eqIntS.f k t158 t154).bind fun t162 => (if t162 = true then (laws_FnExactParseChips.j0 k a0 t154 t155 t158 (t159 != t155)) else (laws_FnExactParseChips.j0 k a0 t154 t155 t158 true))) = some r := H
  have A4 := Aside0.mk A40
  clear A40
  have HC5 := Aside0.mk H
  clear H
  go_enter Tryd.func3,Tryd.ntmps3
  go_upto_region 5 with (first | ((with_reducible refine gate_callee (f := 5) rfl ?_);refine goesL_ (some 16) rfl rfl Tryd.func5 (by kernel_rfl) rfl #[.string a0] rfl (by (try simp only [List.map_toArray,List.map_cons,List.map_nil]);first | done | rfl | (simp only [List.length_drop,List.length_take];rfl)) ?_;(with_reducible refine (spec_ParseChips.calls k a0 t154 t155 _ A3.out).mono ?_);rintro e w6 ⟨v156,rfl,ho0,hb⟩;refine ⟨_,rfl,?_⟩;have n0_ := Aside0.mk (Kd.R_lower ho0 (below_size (by repeat (first | (with_reducible first | exact HB.out | apply below_alloc | apply pw_below_drewN | apply below_drew1) | exact HB.out))));have n1_ := Aside0.mk (below_step (by repeat (first | (with_reducible first | exact HB.out | apply below_alloc | apply pw_below_drewN | apply below_drew1) | exact HB.out)) hb);clear HB;have HO157 := n0_;have HB := n1_;clear n0_ n1_;(try clear hb);(try clear hb2);(try clear hk);(try clear hi);(try clear ho0)) | ((with_reducible refine gate_callee (f := 6) rfl ?_);refine goesL_ (some 21) rfl rfl Tryd.func6 (by kernel_rfl) rfl #[.string a0] rfl (by (try simp only [List.map_toArray,List.map_cons,List.map_nil]);first | done | rfl | (simp only [List.length_drop,List.length_take];rfl)) ?_;(with_reducible refine (impl_ParseChips.calls k a0 t158 t159 _ A4.out ?hEnv).mono ?_);(case hEnv => exact (Env.below hE (by repeat (first | (with_reducible first | exact HB.out | apply below_alloc | apply pw_below_drewN | apply below_drew1) | exact HB.out))));rintro e w7 ⟨v160,rfl,ho0,hb⟩;refine ⟨_,rfl,?_⟩;have n0_ := Aside0.mk (Kd.R_elder' (by (with_reducible repeat (first | apply Kd.R_alloc | apply Kd.R_drewN | apply Kd.R_drew));exact HO157.out) (Kd.R_base ho0) hb);have n1_ := Aside0.mk (Kd.R_lower (Kd.R_new' ho0 (Kd.R_lt (by (with_reducible repeat (first | apply Kd.R_alloc | apply Kd.R_drewN | apply Kd.R_drew));exact HO157.out))) (below_size (by repeat (first | (with_reducible first | exact HB.out | apply below_alloc | apply pw_below_drewN | apply below_drew1) | exact HB.out))));have n2_ := Aside0.mk (below_step (by repeat (first | (with_reducible first | exact HB.out | apply below_alloc | apply pw_below_drewN | apply below_drew1) | exact HB.out)) hb);clear HO157;clear HB;have HO157 := n0_;have HO161 := n1_;have HB := n2_;clear n0_ n1_ n2_;(try clear hb);(try clear hb2);(try clear hk);(try clear hi);(try clear ho0)))
  (try simp only [Act.put,List.setIfInBounds_toArray,List.set_cons_zero,List.set_cons_succ])
  go_cut [32] (fun v32 wc => ∃ (kq : Nat) (x32_4 : Bool),v32 = .bool x32_4 ∧ Aside0 (laws_FnExactParseChips.j0 kq a0 t154 t155 t158 x32_4 = some r) ∧ Aside0 (kq ≤ k) ∧ Aside0 (Kd.R (Kd.int .i64) 3 wc w.heap.size (fun k_ => some k_ ≠ (v160 : Value).ownBlock) v156 t154) ∧ Aside0 (Kd.R (Kd.int .i64) 3 wc w.heap.size (fun k_ => some k_ ≠ (v156 : Value).ownBlock) v160 t158) ∧ Aside0 (Below w.heap.size w wc))
  case first =>
   have H := HC5.out
   clear HC5
   replace H := Option.bind_eq_some_iff.mp H
   obtain ⟨t162,A80,H⟩ := H
   replace H : (if t162 = true then (laws_FnExactParseChips.j0 k a0 t154 t155 t158 (t159 != t155)) else (laws_FnExactParseChips.j0 k a0 t154 t155 t158 true)) = some r := H
   have A8 := Aside0.mk A80
   clear A80
   by_cases c9 : t162 = true
   ·subst c9
    have H1 : (laws_FnExactParseChips.j0 k a0 t154 t155 t158 (t159 != t155)) = some r := by rw [if_pos rfl] at H;exact H
    clear H
    have H := H1
    clear H1
    have H' := Aside0.mk H
    clear H
    obtain ⟨Ao10,co10,eo10⟩ := Kd.R_slice HO161.out
    subst eo10
    obtain ⟨Ao11,co11,eo11⟩ := Kd.R_slice HO157.out
    subst eo11
    go_wp2_with (first | ((with_reducible refine gate_callee (f := 7) rfl ?_);refine goesL_ (some 26) rfl rfl Tryd.func7 (by kernel_rfl) rfl #[.slice Ao10 t158.length co10, .slice Ao11 t154.length co11] rfl (by (try simp only [List.map_toArray,List.map_cons,List.map_nil]);first | done | rfl | (simp only [List.length_drop,List.length_take];rfl)) ?_;(with_reducible refine (laws_eqIntS.calls k _ _ t158 _ _ t154 true _ ?side1 ?side2 ?side3 ?side4 A8.out).mono ?_);(case side1 => repeat (first | exact (Kd.R_reads' HO161.out).2.2 | (with_reducible refine Kd.C_alloc ?_ _) | (with_reducible refine Kd.C_drewN ?_ _) | (with_reducible refine Kd.C_drew ?_)));(case side2 => exact (Kd.R_reads' HO161.out).2.1);(case side3 => repeat (first | exact (Kd.R_reads' HO157.out).2.2 | (with_reducible refine Kd.C_alloc ?_ _) | (with_reducible refine Kd.C_drewN ?_ _) | (with_reducible refine Kd.C_drew ?_)));(case side4 => exact (Kd.R_reads' HO157.out).2.1);rintro e w' ⟨rfl,⟨nd,rfl⟩⟩;refine ⟨_,rfl,?_⟩))
    go_meet
    case rel => exact ⟨_,((t159 != t155)),(by first | rfl | (simp;done) | (simp [*];done)),H',⟨by first | omega | exact Nat.le_refl _⟩,⟨by (with_reducible repeat (first | apply Kd.R_alloc | apply Kd.R_drewN | apply Kd.R_drew));exact Kd.R_mono HO157.out (fun _ hk => hk.2)⟩,⟨by (with_reducible repeat (first | apply Kd.R_alloc | apply Kd.R_drewN | apply Kd.R_drew));exact Kd.R_mono HO161.out (fun _ hk => hk.2)⟩,⟨by repeat (first | (with_reducible first | exact HB.out | apply below_alloc | apply pw_below_drewN | apply below_drew1) | exact HB.out)⟩⟩
   ·replace c9 := Bool.eq_false_iff.mpr c9
    subst c9
    have H1 : (laws_FnExactParseChips.j0 k a0 t154 t155 t158 true) = some r := by rw [if_neg (show ¬ (false = true) by decide)] at H;exact H
    clear H
    have H := H1
    clear H1
    have H' := Aside0.mk H
    clear H
    obtain ⟨Ao12,co12,eo12⟩ := Kd.R_slice HO161.out
    subst eo12
    obtain ⟨Ao13,co13,eo13⟩ := Kd.R_slice HO157.out
    subst eo13
    go_wp2_with (first | ((with_reducible refine gate_callee (f := 7) rfl ?_);refine goesL_ (some 26) rfl rfl Tryd.func7 (by kernel_rfl) rfl #[.slice Ao12 t158.length co12, .slice Ao13 t154.length co13] rfl (by (try simp only [List.map_toArray,List.map_cons,List.map_nil]);first | done | rfl | (simp only [List.length_drop,List.length_take];rfl)) ?_;(with_reducible refine (laws_eqIntS.calls k _ _ t158 _ _ t154 false _ ?side1 ?side2 ?side3 ?side4 A8.out).mono ?_);(case side1 => repeat (first | exact (Kd.R_reads' HO161.out).2.2 | (with_reducible refine Kd.C_alloc ?_ _) | (with_reducible refine Kd.C_drewN ?_ _) | (with_reducible refine Kd.C_drew ?_)));(case side2 => exact (Kd.R_reads' HO161.out).2.1);(case side3 => repeat (first | exact (Kd.R_reads' HO157.out).2.2 | (with_reducible refine Kd.C_alloc ?_ _) | (with_reducible refine Kd.C_drewN ?_ _) | (with_reducible refine Kd.C_drew ?_)));(case side4 => exact (Kd.R_reads' HO157.out).2.1);rintro e w' ⟨rfl,⟨nd,rfl⟩⟩;refine ⟨_,rfl,?_⟩))
    go_meet
    case rel => exact ⟨_,(true),(by first | rfl | (simp;done) | (simp [*];done)),H',⟨by first | omega | exact Nat.le_refl _⟩,⟨by (with_reducible repeat (first | apply Kd.R_alloc | apply Kd.R_drewN | apply Kd.R_drew));exact Kd.R_mono HO157.out (fun _ hk => hk.2)⟩,⟨by (with_reducible repeat (first | apply Kd.R_alloc | apply Kd.R_drewN | apply Kd.R_drew));exact Kd.R_mono HO161.out (fun _ hk => hk.2)⟩,⟨by repeat (first | (with_reducible first | exact HB.out | apply below_alloc | apply pw_below_drewN | apply below_drew1) | exact HB.out)⟩⟩
  case rest =>
   clear HC5
   try clear c2
   try clear c2b0
   try clear c2b1
   try clear p2
   try clear c3
   try clear c5
   try clear c6
   try clear c7
   try clear c9
   obtain ⟨kq,x32_4,rfl,HA,HJ4,HO_3,HO_5,HB⟩ := hcut
   cases kq with
   | zero => exact absurd HA.out (by simp [laws_FnExactParseChips.j0])
   | succ kj4 =>
    have H := HA.out
    clear HA
    simp only [laws_FnExactParseChips.j0] at H
    by_cases c14 : x32_4 = true
    ·subst c14
     have H1 : (some false) = some r := by rw [if_pos rfl] at H;exact H
     clear H
     have H := H1
     clear H1
     obtain rfl := Option.some.inj H
     go_wp2
     go_ret
     exact ⟨by first | rfl | (simp [errW_none,errW_some] <;> rfl) | (simp [*,errW_none,errW_some] <;> rfl),by repeat (first | (with_reducible first | exact HB.out | apply below_alloc | apply pw_below_drewN | apply below_drew1) | exact HB.out)⟩
    ·replace c14 := Bool.eq_false_iff.mpr c14
     subst c14
     have H1 : ((laws_markIntS.f kj4 t158 1).bind fun bt163 => ((laws_heldIntS.f kj4 bt163.2 1).bind fun t165 => (if t165 < 0 then (some false) else (if t165 = bt163.1 then ((impl_ParseChips.f kj4 a0).bind fun bt166 => ((laws_eqIntS.f kj4 bt166.1 t154).bind fun t170 => (if t170 = true then (laws_FnExactParseChips.j1 kj4 bt163.2 bt163.1 (bt166.2 != t155)) else (laws_FnExactParseChips.j1 kj4 bt163.2 bt163.1 true)))) else (some false))))) = some r := by rw [if_neg (show ¬ (false = true) by decide)] at H;exact H
     clear H
     have H := H1
     clear H1
     replace H := Option.bind_eq_some_iff.mp H
     obtain ⟨⟨t163,t164⟩,A150,H⟩ := H
     replace H : ((laws_heldIntS.f kj4 t164 1).bind fun t165 => (if t165 < 0 then (some false) else (if t165 = t163 then ((impl_ParseChips.f kj4 a0).bind fun bt166 => ((laws_eqIntS.f kj4 bt166.1 t154).bind fun t170 => (if t170 = true then (laws_FnExactParseChips.j1 kj4 t164 t163 (bt166.2 != t155)) else (laws_FnExactParseChips.j1 kj4 t164 t163 true)))) else (some false)))) = some r := H
     have A15 := Aside0.mk A150
     clear A150
     replace H := Option.bind_eq_some_iff.mp H
     obtain ⟨t165,A160,H⟩ := H
     replace H : (if t165 < 0 then (some false) else (if t165 = t163 then ((impl_ParseChips.f kj4 a0).bind fun bt166 => ((laws_eqIntS.f kj4 bt166.1 t154).bind fun t170 => (if t170 = true then (laws_FnExactParseChips.j1 kj4 t164 t163 (bt166.2 != t155)) else (laws_FnExactParseChips.j1 kj4 t164 t163 true)))) else (some false))) = some r := H
     have A16 := Aside0.mk A160
     clear A160
     by_cases c17 : t165 < 0
     ·rw [if_pos c17] at H
      have c17b0 : decide (t165 < 0) = true := decide_eq_true c17
      clear c17
      obtain rfl := Option.some.inj H
      obtain ⟨Ao18,co18,eo18⟩ := Kd.R_slice HO_5.out
      subst eo18
      go_wp2_with (first | ((with_reducible refine gate_callee (f := 8) rfl ?_);refine goesL_ (some 35) rfl rfl Tryd.func8 (by kernel_rfl) rfl #[.slice Ao18 t158.length co18, .int .i64 1] rfl (by (try simp only [List.map_toArray,List.map_cons,List.map_nil]);first | done | rfl | (simp only [List.length_drop,List.length_take];rfl)) ?_;(with_reducible refine (laws_markIntS.calls kj4 (fun k_ => some k_ = (.slice Ao18 t158.length co18 : Value).ownBlock) (.slice Ao18 t158.length co18) t158 1 t163 t164 w _ ?side1 ?side2 A15.out).mono ?_);(case side1 => repeat (first | (with_reducible first | exact HB.out | apply below_alloc | apply pw_below_drewN | apply below_drew1) | exact HB.out));(case side2 => exact Kd.R_tight rfl HO_5.out);rintro e w19 ⟨rfl,hy0,hb,hkp⟩;refine ⟨_,rfl,?_⟩;have n0_ := Aside0.mk (Kd.R_mono (ok' := fun k_ => some k_ ≠ (.slice Ao18 t158.length co18 : Value).ownBlock) (Kd.R_keptB (HO_3.out) hkp (fun k_ hk_ hs_ => (hk_) hs_)) (fun k_ hk_ => hk_.1));have n1_ := Aside0.mk (Kd.R_reok rfl hy0 (fun k_ e_ => HO_5.out.1 k_ e_));have n2_ := Aside0.mk (hb);clear HO_3;clear HO_5;clear HB;have HO_3 := n0_;have HO_5 := n1_;have HB := n2_;clear n0_ n1_ n2_;(try clear hb);(try clear hkp);(try clear hy0)) | ((with_reducible refine gate_callee (f := 9) rfl ?_);refine goesL_ (some 38) rfl rfl Tryd.func9 (by kernel_rfl) rfl #[.slice Ao18 t164.length co18, .int .i64 1] rfl (by (try simp only [List.map_toArray,List.map_cons,List.map_nil]);first | done | (rw [show t164.length = t158.length from (Kd.R_reads' HO_5.out).1.symm] <;> rfl) | rfl | (simp only [List.length_drop,List.length_take];rfl)) ?_;(with_reducible refine (laws_heldIntS.calls kj4 _ _ t164 1 t165 _ ?side1 ?side2 A16.out).mono ?_);(case side1 => repeat (first | exact (Kd.R_reads' HO_5.out).2.2 | (with_reducible refine Kd.C_alloc ?_ _) | (with_reducible refine Kd.C_drewN ?_ _) | (with_reducible refine Kd.C_drew ?_)));(case side2 => rw [show t164.length = t158.length from (Kd.R_reads' HO_5.out).1.symm];exact (Kd.R_reads' HO_5.out).2.1);rintro e w' ⟨rfl,⟨nd,rfl⟩⟩;refine ⟨_,rfl,?_⟩))
      go_ret
      exact ⟨by first | rfl | (simp [errW_none,errW_some] <;> rfl) | (simp [*,errW_none,errW_some] <;> rfl),by repeat (first | (with_reducible first | exact HB.out | apply below_alloc | apply pw_below_drewN | apply below_drew1) | exact HB.out)⟩
     ·rw [if_neg c17] at H
      have c17b0 : decide (t165 < 0) = false := decide_eq_false c17
      clear c17
      by_cases c20 : t165 = t163
      ·rw [if_pos c20] at H
       have c20b0 : (t165 == t163) = true := beq_iff_eq.mpr c20
       have c20b1 : (t165 != t163) = false := bne_eq_false_iff_eq.mpr c20
       clear c20
       replace H := Option.bind_eq_some_iff.mp H
       obtain ⟨⟨t166,t167⟩,A210,H⟩ := H
       replace H : ((laws_eqIntS.f kj4 t166 t154).bind fun t170 => (if t170 = true then (laws_FnExactParseChips.j1 kj4 t164 t163 (t167 != t155)) else (laws_FnExactParseChips.j1 kj4 t164 t163 true))) = some r := H
       have A21 := Aside0.mk A210
       clear A210
       have HC22 := Aside0.mk H
       clear H
       obtain ⟨Ao23,co23,eo23⟩ := Kd.R_slice HO_5.out
       subst eo23
       go_upto_region 16 with (first | ((with_reducible refine gate_callee (f := 8) rfl ?_);refine goesL_ (some 35) rfl rfl Tryd.func8 (by kernel_rfl) rfl #[.slice Ao23 t158.length co23, .int .i64 1] rfl (by (try simp only [List.map_toArray,List.map_cons,List.map_nil]);first | done | rfl | (simp only [List.length_drop,List.length_take];rfl)) ?_;(with_reducible refine (laws_markIntS.calls kj4 (fun k_ => some k_ = (.slice Ao23 t158.length co23 : Value).ownBlock) (.slice Ao23 t158.length co23) t158 1 t163 t164 w _ ?side1 ?side2 A15.out).mono ?_);(case side1 => repeat (first | (with_reducible first | exact HB.out | apply below_alloc | apply pw_below_drewN | apply below_drew1) | exact HB.out));(case side2 => exact Kd.R_tight rfl HO_5.out);rintro e w24 ⟨rfl,hy0,hb,hkp⟩;refine ⟨_,rfl,?_⟩;have n0_ := Aside0.mk (Kd.R_mono (ok' := fun k_ => some k_ ≠ (.slice Ao23 t158.length co23 : Value).ownBlock) (Kd.R_keptB (HO_3.out) hkp (fun k_ hk_ hs_ => (hk_) hs_)) (fun k_ hk_ => hk_.1));have n1_ := Aside0.mk (Kd.R_reok rfl hy0 (fun k_ e_ => HO_5.out.1 k_ e_));have n2_ := Aside0.mk (hb);clear HO_3;clear HO_5;clear HB;have HO_3 := n0_;have HO_5 := n1_;have HB := n2_;clear n0_ n1_ n2_;(try clear hb);(try clear hkp);(try clear hy0)) | ((with_reducible refine gate_callee (f := 9) rfl ?_);refine goesL_ (some 38) rfl rfl Tryd.func9 (by kernel_rfl) rfl #[.slice Ao23 t164.length co23, .int .i64 1] rfl (by (try simp only [List.map_toArray,List.map_cons,List.map_nil]);first | done | (rw [show t164.length = t158.length from (Kd.R_reads' HO_5.out).1.symm] <;> rfl) | rfl | (simp only [List.length_drop,List.length_take];rfl)) ?_;(with_reducible refine (laws_heldIntS.calls kj4 _ _ t164 1 t165 _ ?side1 ?side2 A16.out).mono ?_);(case side1 => repeat (first | exact (Kd.R_reads' HO_5.out).2.2 | (with_reducible refine Kd.C_alloc ?_ _) | (with_reducible refine Kd.C_drewN ?_ _) | (with_reducible refine Kd.C_drew ?_)));(case side2 => rw [show t164.length = t158.length from (Kd.R_reads' HO_5.out).1.symm];exact (Kd.R_reads' HO_5.out).2.1);rintro e w' ⟨rfl,⟨nd,rfl⟩⟩;refine ⟨_,rfl,?_⟩) | ((with_reducible refine gate_callee (f := 6) rfl ?_);refine goesL_ (some 46) rfl rfl Tryd.func6 (by kernel_rfl) rfl #[.string a0] rfl (by (try simp only [List.map_toArray,List.map_cons,List.map_nil]);first | done | rfl | (simp only [List.length_drop,List.length_take];rfl)) ?_;(with_reducible refine (impl_ParseChips.calls kj4 a0 t166 t167 _ A21.out ?hEnv).mono ?_);(case hEnv => exact (Env.below hE (by repeat (first | (with_reducible first | exact HB.out | apply below_alloc | apply pw_below_drewN | apply below_drew1) | exact HB.out))));rintro e w25 ⟨v168,rfl,ho0,hb⟩;refine ⟨_,rfl,?_⟩;have n0_ := Aside0.mk (Kd.R_elder' (by (with_reducible repeat (first | apply Kd.R_alloc | apply Kd.R_drewN | apply Kd.R_drew));exact HO_3.out) (Kd.R_base ho0) hb);have n1_ := Aside0.mk (Kd.R_elder' (by (with_reducible repeat (first | apply Kd.R_alloc | apply Kd.R_drewN | apply Kd.R_drew));exact HO_5.out) (Kd.R_base ho0) hb);have n2_ := Aside0.mk (Kd.R_lower (Kd.R_new' (Kd.R_new' ho0 (Kd.R_lt (by (with_reducible repeat (first | apply Kd.R_alloc | apply Kd.R_drewN | apply Kd.R_drew));exact HO_3.out))) (Kd.R_lt (by (with_reducible repeat (first | apply Kd.R_alloc | apply Kd.R_drewN | apply Kd.R_drew));exact HO_5.out))) (below_size (by repeat (first | (with_reducible first | exact HB.out | apply below_alloc | apply pw_below_drewN | apply below_drew1) | exact HB.out))));have n3_ := Aside0.mk (below_step (by repeat (first | (with_reducible first | exact HB.out | apply below_alloc | apply pw_below_drewN | apply below_drew1) | exact HB.out)) hb);clear HO_3;clear HO_5;clear HB;have HO_3 := n0_;have HO_5 := n1_;have HO169 := n2_;have HB := n3_;clear n0_ n1_ n2_ n3_;(try clear hb);(try clear hb2);(try clear hk);(try clear hi);(try clear ho0)))
       (try simp only [Act.put,List.setIfInBounds_toArray,List.set_cons_zero,List.set_cons_succ])
       go_cut [57] (fun v57 wc => ∃ (kq : Nat) (x57_21 : Bool),v57 = .bool x57_21 ∧ Aside0 (laws_FnExactParseChips.j1 kq t164 t163 x57_21 = some r) ∧ Aside0 (kq ≤ kj4) ∧ Aside0 (Kd.R (Kd.int .i64) 3 wc w.heap.size (fun _ => True) (.slice Ao23 t158.length co23) t164) ∧ Aside0 (Below w.heap.size w wc))
       case first =>
        have H := HC22.out
        clear HC22
        replace H := Option.bind_eq_some_iff.mp H
        obtain ⟨t170,A260,H⟩ := H
        replace H : (if t170 = true then (laws_FnExactParseChips.j1 kj4 t164 t163 (t167 != t155)) else (laws_FnExactParseChips.j1 kj4 t164 t163 true)) = some r := H
        have A26 := Aside0.mk A260
        clear A260
        by_cases c27 : t170 = true
        ·subst c27
         have H1 : (laws_FnExactParseChips.j1 kj4 t164 t163 (t167 != t155)) = some r := by rw [if_pos rfl] at H;exact H
         clear H
         have H := H1
         clear H1
         have H' := Aside0.mk H
         clear H
         obtain ⟨Ao28,co28,eo28⟩ := Kd.R_slice HO169.out
         subst eo28
         obtain ⟨Ao29,co29,eo29⟩ := Kd.R_slice HO_3.out
         subst eo29
         go_wp2_with (first | ((with_reducible refine gate_callee (f := 7) rfl ?_);refine goesL_ (some 51) rfl rfl Tryd.func7 (by kernel_rfl) rfl #[.slice Ao28 t166.length co28, .slice Ao29 t154.length co29] rfl (by (try simp only [List.map_toArray,List.map_cons,List.map_nil]);first | done | rfl | (simp only [List.length_drop,List.length_take];rfl)) ?_;(with_reducible refine (laws_eqIntS.calls kj4 _ _ t166 _ _ t154 true _ ?side1 ?side2 ?side3 ?side4 A26.out).mono ?_);(case side1 => repeat (first | exact (Kd.R_reads' HO169.out).2.2 | (with_reducible refine Kd.C_alloc ?_ _) | (with_reducible refine Kd.C_drewN ?_ _) | (with_reducible refine Kd.C_drew ?_)));(case side2 => exact (Kd.R_reads' HO169.out).2.1);(case side3 => repeat (first | exact (Kd.R_reads' HO_3.out).2.2 | (with_reducible refine Kd.C_alloc ?_ _) | (with_reducible refine Kd.C_drewN ?_ _) | (with_reducible refine Kd.C_drew ?_)));(case side4 => exact (Kd.R_reads' HO_3.out).2.1);rintro e w' ⟨rfl,⟨nd,rfl⟩⟩;refine ⟨_,rfl,?_⟩))
         go_meet
         case rel => exact ⟨_,((t167 != t155)),(by first | rfl | (simp;done) | (simp [*];done)),H',⟨by have := HJ4.out;first | omega | exact Nat.le_refl _⟩,⟨by (with_reducible repeat (first | apply Kd.R_alloc | apply Kd.R_drewN | apply Kd.R_drew));exact Kd.R_mono HO_5.out (fun _ hk => trivial)⟩,⟨by repeat (first | (with_reducible first | exact HB.out | apply below_alloc | apply pw_below_drewN | apply below_drew1) | exact HB.out)⟩⟩
        ·replace c27 := Bool.eq_false_iff.mpr c27
         subst c27
         have H1 : (laws_FnExactParseChips.j1 kj4 t164 t163 true) = some r := by rw [if_neg (show ¬ (false = true) by decide)] at H;exact H
         clear H
         have H := H1
         clear H1
         have H' := Aside0.mk H
         clear H
         obtain ⟨Ao30,co30,eo30⟩ := Kd.R_slice HO169.out
         subst eo30
         obtain ⟨Ao31,co31,eo31⟩ := Kd.R_slice HO_3.out
         subst eo31
         go_wp2_with (first | ((with_reducible refine gate_callee (f := 7) rfl ?_);refine goesL_ (some 51) rfl rfl Tryd.func7 (by kernel_rfl) rfl #[.slice Ao30 t166.length co30, .slice Ao31 t154.length co31] rfl (by (try simp only [List.map_toArray,List.map_cons,List.map_nil]);first | done | rfl | (simp only [List.length_drop,List.length_take];rfl)) ?_;(with_reducible refine (laws_eqIntS.calls kj4 _ _ t166 _ _ t154 false _ ?side1 ?side2 ?side3 ?side4 A26.out).mono ?_);(case side1 => repeat (first | exact (Kd.R_reads' HO169.out).2.2 | (with_reducible refine Kd.C_alloc ?_ _) | (with_reducible refine Kd.C_drewN ?_ _) | (with_reducible refine Kd.C_drew ?_)));(case side2 => exact (Kd.R_reads' HO169.out).2.1);(case side3 => repeat (first | exact (Kd.R_reads' HO_3.out).2.2 | (with_reducible refine Kd.C_alloc ?_ _) | (with_reducible refine Kd.C_drewN ?_ _) | (with_reducible refine Kd.C_drew ?_)));(case side4 => exact (Kd.R_reads' HO_3.out).2.1);rintro e w' ⟨rfl,⟨nd,rfl⟩⟩;refine ⟨_,rfl,?_⟩))
         go_meet
         case rel => exact ⟨_,(true),(by first | rfl | (simp;done) | (simp [*];done)),H',⟨by have := HJ4.out;first | omega | exact Nat.le_refl _⟩,⟨by (with_reducible repeat (first | apply Kd.R_alloc | apply Kd.R_drewN | apply Kd.R_drew));exact Kd.R_mono HO_5.out (fun _ hk => trivial)⟩,⟨by repeat (first | (with_reducible first | exact HB.out | apply below_alloc | apply pw_below_drewN | apply below_drew1) | exact HB.out)⟩⟩
       case rest =>
        clear HC22
        try clear c1
        try clear c2
        try clear c2b0
        try clear c2b1
        try clear p2
        try clear c3
        try clear c5
        try clear c6
        try clear c7
        try clear c8
        try clear c9
        try clear c14
        try clear c17
        try clear c17b0
        try clear c20
        try clear c20b0
        try clear c20b1
        try clear c27
        try clear p2
        obtain ⟨kq,x57_21,rfl,HA,HJ21,HO_5,HB⟩ := hcut
        have hl5_21 := (Kd.R_reads' HO_5.out).1
        rw [hl5_21] at HO_5
        (try simp only [hl5_21])
        cases kq with
        | zero => exact absurd HA.out (by simp [laws_FnExactParseChips.j1])
        | succ kj21 =>
         have H := HA.out
         clear HA
         simp only [laws_FnExactParseChips.j1] at H
         by_cases c32 : x57_21 = true
         ·subst c32
          have H1 : (some false) = some r := by rw [if_pos rfl] at H;exact H
          clear H
          have H := H1
          clear H1
          obtain rfl := Option.some.inj H
          go_wp2
          go_ret
          exact ⟨by first | rfl | (simp [errW_none,errW_some] <;> rfl) | (simp [*,errW_none,errW_some] <;> rfl),by repeat (first | (with_reducible first | exact HB.out | apply below_alloc | apply pw_below_drewN | apply below_drew1) | exact HB.out)⟩
         ·replace c32 := Bool.eq_false_iff.mpr c32
          subst c32
          have H1 : ((laws_heldIntS.f kj21 t164 1).bind fun t171 => (if t171 < 0 then (some false) else (if t171 = t163 then (some true) else (some false)))) = some r := by rw [if_neg (show ¬ (false = true) by decide)] at H;exact H
          clear H
          have H := H1
          clear H1
          replace H := Option.bind_eq_some_iff.mp H
          obtain ⟨t171,A330,H⟩ := H
          replace H : (if t171 < 0 then (some false) else (if t171 = t163 then (some true) else (some false))) = some r := H
          have A33 := Aside0.mk A330
          clear A330
          by_cases c34 : t171 < 0
          ·rw [if_pos c34] at H
           have c34b0 : decide (t171 < 0) = true := decide_eq_true c34
           clear c34
           obtain rfl := Option.some.inj H
           go_wp2_with (first | ((with_reducible refine gate_callee (f := 9) rfl ?_);refine goesL_ (some 60) rfl rfl Tryd.func9 (by kernel_rfl) rfl #[.slice Ao23 t164.length co23, .int .i64 1] rfl (by (try simp only [List.map_toArray,List.map_cons,List.map_nil]);first | done | rfl | (simp only [List.length_drop,List.length_take];rfl)) ?_;(with_reducible refine (laws_heldIntS.calls kj21 _ _ t164 1 t171 _ ?side1 ?side2 A33.out).mono ?_);(case side1 => repeat (first | exact (Kd.R_reads' HO_5.out).2.2 | (with_reducible refine Kd.C_alloc ?_ _) | (with_reducible refine Kd.C_drewN ?_ _) | (with_reducible refine Kd.C_drew ?_)));(case side2 => exact (Kd.R_reads' HO_5.out).2.1);rintro e w' ⟨rfl,⟨nd,rfl⟩⟩;refine ⟨_,rfl,?_⟩))
           go_ret
           exact ⟨by first | rfl | (simp [errW_none,errW_some] <;> rfl) | (simp [*,errW_none,errW_some] <;> rfl),by repeat (first | (with_reducible first | exact HB.out | apply below_alloc | apply pw_below_drewN | apply below_drew1) | exact HB.out)⟩
          ·rw [if_neg c34] at H
           have c34b0 : decide (t171 < 0) = false := decide_eq_false c34
           clear c34
           by_cases c35 : t171 = t163
           ·rw [if_pos c35] at H
            have c35b0 : (t171 == t163) = true := beq_iff_eq.mpr c35
            have c35b1 : (t171 != t163) = false := bne_eq_false_iff_eq.mpr c35
            clear c35
            obtain rfl := Option.some.inj H
            go_wp2_with (first | ((with_reducible refine gate_callee (f := 9) rfl ?_);refine goesL_ (some 60) rfl rfl Tryd.func9 (by kernel_rfl) rfl #[.slice Ao23 t164.length co23, .int .i64 1] rfl (by (try simp only [List.map_toArray,List.map_cons,List.map_nil]);first | done | rfl | (simp only [List.length_drop,List.length_take];rfl)) ?_;(with_reducible refine (laws_heldIntS.calls kj21 _ _ t164 1 t171 _ ?side1 ?side2 A33.out).mono ?_);(case side1 => repeat (first | exact (Kd.R_reads' HO_5.out).2.2 | (with_reducible refine Kd.C_alloc ?_ _) | (with_reducible refine Kd.C_drewN ?_ _) | (with_reducible refine Kd.C_drew ?_)));(case side2 => exact (Kd.R_reads' HO_5.out).2.1);rintro e w' ⟨rfl,⟨nd,rfl⟩⟩;refine ⟨_,rfl,?_⟩))
            go_ret
            exact ⟨by first | rfl | (simp [errW_none,errW_some] <;> rfl) | (simp [*,errW_none,errW_some] <;> rfl),by repeat (first | (with_reducible first | exact HB.out | apply below_alloc | apply pw_below_drewN | apply below_drew1) | exact HB.out)⟩
           ·rw [if_neg c35] at H
            have c35b0 : (t171 == t163) = false := beq_eq_false_iff_ne.mpr c35
            have c35b1 : (t171 != t163) = true := bne_iff_ne.mpr c35
            obtain rfl := Option.some.inj H
            go_wp2_with (first | ((with_reducible refine gate_callee (f := 9) rfl ?_);refine goesL_ (some 60) rfl rfl Tryd.func9 (by kernel_rfl) rfl #[.slice Ao23 t164.length co23, .int .i64 1] rfl (by (try simp only [List.map_toArray,List.map_cons,List.map_nil]);first | done | rfl | (simp only [List.length_drop,List.length_take];rfl)) ?_;(with_reducible refine (laws_heldIntS.calls kj21 _ _ t164 1 t171 _ ?side1 ?side2 A33.out).mono ?_);(case side1 => repeat (first | exact (Kd.R_reads' HO_5.out).2.2 | (with_reducible refine Kd.C_alloc ?_ _) | (with_reducible refine Kd.C_drewN ?_ _) | (with_reducible refine Kd.C_drew ?_)));(case side2 => exact (Kd.R_reads' HO_5.out).2.1);rintro e w' ⟨rfl,⟨nd,rfl⟩⟩;refine ⟨_,rfl,?_⟩))
            go_ret
            exact ⟨by first | rfl | (simp [errW_none,errW_some] <;> rfl) | (simp [*,errW_none,errW_some] <;> rfl),by repeat (first | (with_reducible first | exact HB.out | apply below_alloc | apply pw_below_drewN | apply below_drew1) | exact HB.out)⟩
      ·rw [if_neg c20] at H
       have c20b0 : (t165 == t163) = false := beq_eq_false_iff_ne.mpr c20
       have c20b1 : (t165 != t163) = true := bne_iff_ne.mpr c20
       obtain rfl := Option.some.inj H
       obtain ⟨Ao36,co36,eo36⟩ := Kd.R_slice HO_5.out
       subst eo36
       go_wp2_with (first | ((with_reducible refine gate_callee (f := 8) rfl ?_);refine goesL_ (some 35) rfl rfl Tryd.func8 (by kernel_rfl) rfl #[.slice Ao36 t158.length co36, .int .i64 1] rfl (by (try simp only [List.map_toArray,List.map_cons,List.map_nil]);first | done | rfl | (simp only [List.length_drop,List.length_take];rfl)) ?_;(with_reducible refine (laws_markIntS.calls kj4 (fun k_ => some k_ = (.slice Ao36 t158.length co36 : Value).ownBlock) (.slice Ao36 t158.length co36) t158 1 t163 t164 w _ ?side1 ?side2 A15.out).mono ?_);(case side1 => repeat (first | (with_reducible first | exact HB.out | apply below_alloc | apply pw_below_drewN | apply below_drew1) | exact HB.out));(case side2 => exact Kd.R_tight rfl HO_5.out);rintro e w37 ⟨rfl,hy0,hb,hkp⟩;refine ⟨_,rfl,?_⟩;have n0_ := Aside0.mk (Kd.R_mono (ok' := fun k_ => some k_ ≠ (.slice Ao36 t158.length co36 : Value).ownBlock) (Kd.R_keptB (HO_3.out) hkp (fun k_ hk_ hs_ => (hk_) hs_)) (fun k_ hk_ => hk_.1));have n1_ := Aside0.mk (Kd.R_reok rfl hy0 (fun k_ e_ => HO_5.out.1 k_ e_));have n2_ := Aside0.mk (hb);clear HO_3;clear HO_5;clear HB;have HO_3 := n0_;have HO_5 := n1_;have HB := n2_;clear n0_ n1_ n2_;(try clear hb);(try clear hkp);(try clear hy0)) | ((with_reducible refine gate_callee (f := 9) rfl ?_);refine goesL_ (some 38) rfl rfl Tryd.func9 (by kernel_rfl) rfl #[.slice Ao36 t164.length co36, .int .i64 1] rfl (by (try simp only [List.map_toArray,List.map_cons,List.map_nil]);first | done | (rw [show t164.length = t158.length from (Kd.R_reads' HO_5.out).1.symm] <;> rfl) | rfl | (simp only [List.length_drop,List.length_take];rfl)) ?_;(with_reducible refine (laws_heldIntS.calls kj4 _ _ t164 1 t165 _ ?side1 ?side2 A16.out).mono ?_);(case side1 => repeat (first | exact (Kd.R_reads' HO_5.out).2.2 | (with_reducible refine Kd.C_alloc ?_ _) | (with_reducible refine Kd.C_drewN ?_ _) | (with_reducible refine Kd.C_drew ?_)));(case side2 => rw [show t164.length = t158.length from (Kd.R_reads' HO_5.out).1.symm];exact (Kd.R_reads' HO_5.out).2.1);rintro e w' ⟨rfl,⟨nd,rfl⟩⟩;refine ⟨_,rfl,?_⟩))
       go_ret
       exact ⟨by first | rfl | (simp [errW_none,errW_some] <;> rfl) | (simp [*,errW_none,errW_some] <;> rfl),by repeat (first | (with_reducible first | exact HB.out | apply below_alloc | apply pw_below_drewN | apply below_drew1) | exact HB.out)⟩

/-- THE ONE PURE STATEMENT of laws_FnExactParseChips: yours. -/
def laws_FnExactParseChips.Pure : Prop := ∀ (a0 : ByteArray),a0.size ≤ 140737488351232 → ∃ k,laws_FnExactParseChips.f k a0 = some true
theorem laws_FnExactParseChips.walk (P : laws_FnExactParseChips.Pure) (a0 : ByteArray) (w : World) (w0 : a0.size ≤ 140737488351232) (hE : Env w) :
  Calls Tryd.prog 3 #[.string a0] w fun e w' => e = .returned (.bool true) ∧ Below w.heap.size w w' := by
 obtain ⟨k,h⟩ := P a0 w0
 refine (laws_FnExactParseChips.calls k a0 true w h hE).mono ?_
 rintro e w' ⟨rfl,hd⟩
 exact ⟨rfl,hd⟩

end Go.Proofs.YtidhceabmpikgaaDoor.P
