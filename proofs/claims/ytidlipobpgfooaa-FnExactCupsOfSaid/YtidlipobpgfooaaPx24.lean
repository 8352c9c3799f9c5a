/- Written by a program of this workplace (own_print.py, over the kit's print) for the functions that the statements reach, with contracts of its own. Lean checks it. -/
import Derived.Test.YtidlipobpgfooaaPx0
import Derived.Test.YtidlipobpgfooaaPx1
import Derived.Test.YtidlipobpgfooaaPx2
import Derived.Test.YtidlipobpgfooaaPx9
import Derived.Test.YtidlipobpgfooaaPx11
import Derived.Test.YtidlipobpgfooaaPx23
namespace Go.Proofs.Ytidlipobpgfooaa.P
open Go.RowKit Go.Proofs.YtidlipobpgfooaaW.PrintWords Go.Proofs.YtidlipobpgfooaaW.PrintLast Go.Proofs.YtidlipobpgfooaaW.PrintMore
attribute [local go_sem] max2_int min2_int max_two min_two max_three min_three max_four min_four   -- for this text's walks alone
set_option linter.unusedVariables false
set_option linter.unusedSimpArgs false

/-! ### laws_FnExactCupsOf: function 4 -/
mutual
def laws_FnExactCupsOf.j0 : Nat → List Int → Bool → List Int → Bool → Bool → List Int → Int → List Int → Int → Option (Bool)
 | 0, _, _, _, _, _, _, _, _, _ => none
 | k + 1, x0, x4, x5, x7, x37, x187000, x187001, x196000, x196001 => if x37 = true then (some false) else ((laws_toIntS.f k x0).bind fun t197 => ((laws_eqIntS.f k x5 t197).bind fun t200 => (if t200 = true then ((laws_markIntS.f k x5 1).bind fun bt201 => (if bt201.1 < 0 then (laws_FnExactCupsOf.j1 k x0 x4 true x187000 x187001 x196000 x196001) else ((laws_eqCups.f k x196000 x196001 x187000 x187001).bind fun t203 => (if t203 = true then (laws_FnExactCupsOf.j1 k x0 x4 (x7 != x4) x187000 x187001 x196000 x196001) else (laws_FnExactCupsOf.j1 k x0 x4 true x187000 x187001 x196000 x196001))))) else (some false))))
def laws_FnExactCupsOf.j1 : Nat → List Int → Bool → Bool → List Int → Int → List Int → Int → Option (Bool)
 | 0, _, _, _, _, _, _, _ => none
 | k + 1, x0, x4, x58, x187000, x187001, x196000, x196001 => if x58 = true then (some false) else ((laws_markCups.f k x196000 x196001 1).bind fun bt204 => ((laws_heldCups.f k bt204.2 x196001 1).bind fun t206 => (if t206 < 0 then (some false) else (if t206 = bt204.1 then ((laws_toIntS.f k x0).bind fun t207 => ((impl_CupsOf.f k t207).bind fun bt210 => ((laws_eqCups.f k bt210.1 bt210.2.1 x187000 x187001).bind fun t216 => (if t216 = true then (laws_FnExactCupsOf.j2 k bt204.1 (bt210.2.2 != x4) bt204.2 x196001) else (laws_FnExactCupsOf.j2 k bt204.1 true bt204.2 x196001))))) else (some false)))))
def laws_FnExactCupsOf.j2 : Nat → Int → Bool → List Int → Int → Option (Bool)
 | 0, _, _, _, _ => none
 | k + 1, x9, x84, x196000, x196001 => if x84 = true then (some false) else ((laws_heldCups.f k x196000 x196001 1).bind fun t217 => (if t217 < 0 then (some false) else (if t217 = x9 then (some true) else (some false))))
end
def laws_FnExactCupsOf.f (k : Nat) (l0 : List Int) : Option (Bool) := if (l0.length : Int) > 1048576 then (some true) else ((laws_toIntS.f k l0).bind fun t178 => ((spec_CupsOf.f k t178).bind fun bt181 => ((laws_toIntS.f k l0).bind fun t187 => ((impl_CupsOf.f k t187).bind fun bt190 => ((laws_eqCups.f k bt190.1 bt190.2.1 bt181.1 bt181.2.1).bind fun t196 => (if t196 = true then (laws_FnExactCupsOf.j0 k l0 bt181.2.2 t187 bt190.2.2 (bt190.2.2 != bt181.2.2) bt181.1 bt181.2.1 bt190.1 bt190.2.1) else (laws_FnExactCupsOf.j0 k l0 bt181.2.2 t187 bt190.2.2 true bt181.1 bt181.2.1 bt190.1 bt190.2.1)))))))
theorem laws_FnExactCupsOf.mono_l : ∀ k, (∀ y0 y1 y2 y3 y4 y5 y6 y7 y8, LeO (laws_FnExactCupsOf.j0 k y0 y1 y2 y3 y4 y5 y6 y7 y8) (laws_FnExactCupsOf.j0 (k + 1) y0 y1 y2 y3 y4 y5 y6 y7 y8)) ∧ (∀ y0 y1 y2 y3 y4 y5 y6, LeO (laws_FnExactCupsOf.j1 k y0 y1 y2 y3 y4 y5 y6) (laws_FnExactCupsOf.j1 (k + 1) y0 y1 y2 y3 y4 y5 y6)) ∧ (∀ y0 y1 y2 y3, LeO (laws_FnExactCupsOf.j2 k y0 y1 y2 y3) (laws_FnExactCupsOf.j2 (k + 1) y0 y1 y2 y3))
 | 0 => ⟨fun _ _ _ _ _ _ _ _ _ r h => by simp [laws_FnExactCupsOf.j0] at h, fun _ _ _ _ _ _ _ r h => by simp [laws_FnExactCupsOf.j1] at h, fun _ _ _ _ r h => by simp [laws_FnExactCupsOf.j2] at h⟩
 | k + 1 => by
  obtain ⟨ih0, ih1, ih2⟩ := laws_FnExactCupsOf.mono_l k
  refine ⟨?_, ?_, ?_⟩
  ·intro y0 y1 y2 y3 y4 y5 y6 y7 y8
   unfold laws_FnExactCupsOf.j0
   repeat' first
   | (with_reducible exact ih0 _ _ _ _ _ _ _ _ _)
   | (with_reducible exact ih1 _ _ _ _ _ _ _)
   | (with_reducible exact ih2 _ _ _ _)
   | (with_reducible exact impl_CupsOf.mono _ _)
   | (with_reducible exact laws_eqCups.mono _ _ _ _ _)
   | (with_reducible exact laws_eqIntS.mono _ _ _)
   | (with_reducible exact laws_heldCups.mono _ _ _ _)
   | (with_reducible exact laws_markCups.mono _ _ _ _)
   | (with_reducible exact laws_markIntS.mono _ _ _)
   | (with_reducible exact laws_toIntS.mono _ _)
   | (with_reducible exact spec_CupsOf.mono _ _)
   | (with_reducible exact LeO.refl _)
   | (with_reducible exact LeO.none _)
   | (with_reducible refine LeO.ite ?_ ?_)
   | (with_reducible refine LeO.bind ?_ (fun _ => ?_))
   | exact ih0 _ _ _ _ _ _ _ _ _
   | exact ih1 _ _ _ _ _ _ _
   | exact ih2 _ _ _ _
   | exact impl_CupsOf.mono _ _
   | exact laws_eqCups.mono _ _ _ _ _
   | exact laws_eqIntS.mono _ _ _
   | exact laws_heldCups.mono _ _ _ _
   | exact laws_markCups.mono _ _ _ _
   | exact laws_markIntS.mono _ _ _
   | exact laws_toIntS.mono _ _
   | exact spec_CupsOf.mono _ _
   | exact LeO.none _
   | refine LeO.ite ?_ ?_
   | refine LeO.bind ?_ (fun _ => ?_)
  ·intro y0 y1 y2 y3 y4 y5 y6
   unfold laws_FnExactCupsOf.j1
   repeat' first
   | (with_reducible exact ih0 _ _ _ _ _ _ _ _ _)
   | (with_reducible exact ih1 _ _ _ _ _ _ _)
   | (with_reducible exact ih2 _ _ _ _)
   | (with_reducible exact impl_CupsOf.mono _ _)
   | (with_reducible exact laws_eqCups.mono _ _ _ _ _)
   | (with_reducible exact laws_eqIntS.mono _ _ _)
   | (with_reducible exact laws_heldCups.mono _ _ _ _)
   | (with_reducible exact laws_markCups.mono _ _ _ _)
   | (with_reducible exact laws_markIntS.mono _ _ _)
   | (with_reducible exact laws_toIntS.mono _ _)
   | (with_reducible exact spec_CupsOf.mono _ _)
   | (with_reducible exact LeO.refl _)
   | (with_reducible exact LeO.none _)
   | (with_reducible refine LeO.ite ?_ ?_)
   | (with_reducible refine LeO.bind ?_ (fun _ => ?_))
   | exact ih0 _ _ _ _ _ _ _ _ _
   | exact ih1 _ _ _ _ _ _ _
   | exact ih2 _ _ _ _
   | exact impl_CupsOf.mono _ _
   | exact laws_eqCups.mono _ _ _ _ _
   | exact laws_eqIntS.mono _ _ _
   | exact laws_heldCups.mono _ _ _ _
   | exact laws_markCups.mono _ _ _ _
   | exact laws_markIntS.mono _ _ _
   | exact laws_toIntS.mono _ _
   | exact spec_CupsOf.mono _ _
   | exact LeO.none _
   | refine LeO.ite ?_ ?_
   | refine LeO.bind ?_ (fun _ => ?_)
  ·intro y0 y1 y2 y3
   unfold laws_FnExactCupsOf.j2
   repeat' first
   | (with_reducible exact ih0 _ _ _ _ _ _ _ _ _)
   | (with_reducible exact ih1 _ _ _ _ _ _ _)
   | (with_reducible exact ih2 _ _ _ _)
   | (with_reducible exact impl_CupsOf.mono _ _)
   | (with_reducible exact laws_eqCups.mono _ _ _ _ _)
   | (with_reducible exact laws_eqIntS.mono _ _ _)
   | (with_reducible exact laws_heldCups.mono _ _ _ _)
   | (with_reducible exact laws_markCups.mono _ _ _ _)
   | (with_reducible exact laws_markIntS.mono _ _ _)
   | (with_reducible exact laws_toIntS.mono _ _)
   | (with_reducible exact spec_CupsOf.mono _ _)
   | (with_reducible exact LeO.refl _)
   | (with_reducible exact LeO.none _)
   | (with_reducible refine LeO.ite ?_ ?_)
   | (with_reducible refine LeO.bind ?_ (fun _ => ?_))
   | exact ih0 _ _ _ _ _ _ _ _ _
   | exact ih1 _ _ _ _ _ _ _
   | exact ih2 _ _ _ _
   | exact impl_CupsOf.mono _ _
   | exact laws_eqCups.mono _ _ _ _ _
   | exact laws_eqIntS.mono _ _ _
   | exact laws_heldCups.mono _ _ _ _
   | exact laws_markCups.mono _ _ _ _
   | exact laws_markIntS.mono _ _ _
   | exact laws_toIntS.mono _ _
   | exact spec_CupsOf.mono _ _
   | exact LeO.none _
   | refine LeO.ite ?_ ?_
   | refine LeO.bind ?_ (fun _ => ?_)
theorem laws_FnExactCupsOf.mono : ∀ a0 k, LeO (laws_FnExactCupsOf.f k a0) (laws_FnExactCupsOf.f (k + 1) a0) := by
 intro a0 k
 obtain ⟨ih0, ih1, ih2⟩ := laws_FnExactCupsOf.mono_l k
 unfold laws_FnExactCupsOf.f
 repeat' first
   | (with_reducible exact ih0 _ _ _ _ _ _ _ _ _)
   | (with_reducible exact ih1 _ _ _ _ _ _ _)
   | (with_reducible exact ih2 _ _ _ _)
   | (with_reducible exact impl_CupsOf.mono _ _)
   | (with_reducible exact laws_eqCups.mono _ _ _ _ _)
   | (with_reducible exact laws_eqIntS.mono _ _ _)
   | (with_reducible exact laws_heldCups.mono _ _ _ _)
   | (with_reducible exact laws_markCups.mono _ _ _ _)
   | (with_reducible exact laws_markIntS.mono _ _ _)
   | (with_reducible exact laws_toIntS.mono _ _)
   | (with_reducible exact spec_CupsOf.mono _ _)
   | (with_reducible exact LeO.refl _)
   | (with_reducible exact LeO.none _)
   | (with_reducible refine LeO.ite ?_ ?_)
   | (with_reducible refine LeO.bind ?_ (fun _ => ?_))
   | exact ih0 _ _ _ _ _ _ _ _ _
   | exact ih1 _ _ _ _ _ _ _
   | exact ih2 _ _ _ _
   | exact impl_CupsOf.mono _ _
   | exact laws_eqCups.mono _ _ _ _ _
   | exact laws_eqIntS.mono _ _ _
   | exact laws_heldCups.mono _ _ _ _
   | exact laws_markCups.mono _ _ _ _
   | exact laws_markIntS.mono _ _ _
   | exact laws_toIntS.mono _ _
   | exact spec_CupsOf.mono _ _
   | exact LeO.none _
   | refine LeO.ite ?_ ?_
   | refine LeO.bind ?_ (fun _ => ?_)
set_option maxHeartbeats 8000000 in
set_option maxRecDepth 100000 in
theorem laws_FnExactCupsOf.calls (k : Nat) (A0 : Option Addr) (c0 : Nat) (l0 : List Int) (r : Bool) (w : World) (hr0 : Kd.C (Kd.int .i64) w A0 l0.length l0) (hc0 : l0.length ≤ c0) (h : laws_FnExactCupsOf.f k l0 = some r) :
  Calls Try.prog 4 #[.slice A0 l0.length c0] w fun e w' => e = .returned (.bool r) ∧ Below w.heap.size w w' := by
 have hu27 := Try.underlying27
 have HR0 := Aside0.mk hr0
 have HC0 := Aside0.mk hc0
 clear hr0 hc0
 have HB := Aside0.mk (Below.refl w.heap.size w)
 have H : (if (l0.length : Int) > 1048576 then (some true) else ((laws_toIntS.f k l0).bind fun t178 => ((spec_CupsOf.f k t178).bind fun bt181 => ((laws_toIntS.f k l0).bind fun t187 => ((impl_CupsOf.f k t187).bind fun bt190 => ((laws_eqCups.f k bt190.1 bt190.2.1 bt181.1 bt181.2.1).bind fun t196 => (if t196 = true then (laws_FnExactCupsOf.j0 k l0 bt181.2.2 t187 bt190.2.2 (bt190.2.2 != bt181.2.2) bt181.1 bt181.2.1 bt190.1 bt190.2.1) else (laws_FnExactCupsOf.j0 k l0 bt181.2.2 t187 bt190.2.2 true bt181.1 bt181.2.1 bt190.1 bt190.2.1)))))))) = some r := h
 clear h
 by_cases c2 : (l0.length : Int) > 1048576
 ·rw [if_pos c2] at H
  have c2b0 : decide (1048576 < (l0.length : Int)) = true := decide_eq_true c2
  have c2b1 : decide (1048576 < l0.length) = true := decide_eq_true (by omega)
  clear c2
  obtain rfl := Option.some.inj H
  go_enter Try.func4, Try.ntmps4
  go_wp2
  go_ret
  exact ⟨by first | rfl | (simp [errW_none, errW_some] <;> rfl) | (simp [*, errW_none, errW_some] <;> rfl), by repeat (first | (with_reducible first | exact HB.out | apply below_alloc | apply pw_below_drewN | apply below_drew1) | exact HB.out)⟩
 ·rw [if_neg c2] at H
  have c2b0 : decide (1048576 < (l0.length : Int)) = false := decide_eq_false c2
  have c2b1 : decide (1048576 < l0.length) = false := decide_eq_false (by omega)
  clear c2
  replace H := Option.bind_eq_some_iff.mp H
  obtain ⟨t178, A30, H⟩ := H
  replace H : ((spec_CupsOf.f k t178).bind fun bt181 => ((laws_toIntS.f k l0).bind fun t187 => ((impl_CupsOf.f k t187).bind fun bt190 => ((laws_eqCups.f k bt190.1 bt190.2.1 bt181.1 bt181.2.1).bind fun t196 => (if t196 = true then (laws_FnExactCupsOf.j0 k l0 bt181.2.2 t187 bt190.2.2 (bt190.2.2 != bt181.2.2) bt181.1 bt181.2.1 bt190.1 bt190.2.1) else (laws_FnExactCupsOf.j0 k l0 bt181.2.2 t187 bt190.2.2 true bt181.1 bt181.2.1 bt190.1 bt190.2.1)))))) = some r := H
  have A3 := Aside0.mk A30
  clear A30
  replace H := Option.bind_eq_some_iff.mp H
  obtain ⟨⟨t181, t184, t185⟩, A40, H⟩ := H
  replace H : ((laws_toIntS.f k l0).bind fun t187 => ((impl_CupsOf.f k t187).bind fun bt190 => ((laws_eqCups.f k bt190.1 bt190.2.1 t181 t184).bind fun t196 => (if t196 = true then (laws_FnExactCupsOf.j0 k l0 t185 t187 bt190.2.2 (bt190.2.2 != t185) t181 t184 bt190.1 bt190.2.1) else (laws_FnExactCupsOf.j0 k l0 t185 t187 bt190.2.2 true t181 t184 bt190.1 bt190.2.1))))) = some r := H
  have A4 := Aside0.mk A40
  clear A40
  replace H := Option.bind_eq_some_iff.mp H
  obtain ⟨t187, A50, H⟩ := H
  replace H : ((impl_CupsOf.f k t187).bind fun bt190 => ((laws_eqCups.f k bt190.1 bt190.2.1 t181 t184).bind fun t196 => (if t196 = true then (laws_FnExactCupsOf.j0 k l0 t185 t187 bt190.2.2 (bt190.2.2 != t185) t181 t184 bt190.1 bt190.2.1) else (laws_FnExactCupsOf.j0 k l0 t185 t187 bt190.2.2 true t181 t184 bt190.1 bt190.2.1)))) = some r := H
  have A5 := Aside0.mk A50
  clear A50
  replace H := Option.bind_eq_some_iff.mp H
  obtain ⟨⟨t190, t193, t194⟩, A60, H⟩ := H
  replace H : ((laws_eqCups.f k t190 t193 t181 t184).bind fun t196 => (if t196 = true then (laws_FnExactCupsOf.j0 k l0 t185 t187 t194 (t194 != t185) t181 t184 t190 t193) else (laws_FnExactCupsOf.j0 k l0 t185 t187 t194 true t181 t184 t190 t193))) = some r := H
  have A6 := Aside0.mk A60
  clear A60
  have HC7 := Aside0.mk H
  clear H
  go_enter Try.func4, Try.ntmps4
  go_upto_region 6 with (first | ((with_reducible refine gate_callee (f := 22) rfl ?_); refine goesL_ (some 18) rfl rfl Try.func22 (by kernel_rfl) rfl #[.slice A0 l0.length c0] rfl (by (try simp only [List.map_toArray, List.map_cons, List.map_nil]); first | done | rfl | (simp only [List.length_drop, List.length_take]; rfl)) ?_; (with_reducible refine (laws_toIntS.calls k _ _ l0 t178 _ ?side1 ?side2 A3.out).mono ?_); (case side1 => repeat (first | exact HR0.out | (with_reducible refine Kd.C_alloc ?_ _) | (with_reducible refine Kd.C_drewN ?_ _) | (with_reducible refine Kd.C_drew ?_))); (case side2 => exact HC0.out); rintro e w8 ⟨v179, rfl, ho0, hb⟩; refine ⟨_, rfl, ?_⟩; have n0_ := Aside0.mk (Kd.R_lower ho0 (below_size (by repeat (first | (with_reducible first | exact HB.out | apply below_alloc | apply pw_below_drewN | apply below_drew1) | exact HB.out)))); have n1_ := Aside0.mk (below_step (by repeat (first | (with_reducible first | exact HB.out | apply below_alloc | apply pw_below_drewN | apply below_drew1) | exact HB.out)) hb); clear HB; have HO180 := n0_; have HB := n1_; clear n0_ n1_; (try clear hb); (try clear hb2); (try clear hk); (try clear hi); (try clear ho0); obtain ⟨Ao9, co9, eo9⟩ := Kd.R_slice HO180.out; subst eo9) | ((with_reducible refine gate_callee (f := 21) rfl ?_); refine goesL_ (some 19) rfl rfl Try.func21 (by kernel_rfl) rfl #[.slice Ao9 t178.length co9] rfl (by (try simp only [List.map_toArray, List.map_cons, List.map_nil]); first | done | rfl | (simp only [List.length_drop, List.length_take]; rfl)) ?_; (with_reducible refine (spec_CupsOf.calls k _ _ t178 t181 t184 t185 _ ?side1 ?side2 A4.out).mono ?_); (case side1 => repeat (first | exact (Kd.R_reads' HO180.out).2.2 | (with_reducible refine Kd.C_alloc ?_ _) | (with_reducible refine Kd.C_drewN ?_ _) | (with_reducible refine Kd.C_drew ?_))); (case side2 => exact (Kd.R_reads' HO180.out).2.1); rintro e w10 ⟨v182, rfl, ho0, hb⟩; refine ⟨_, rfl, ?_⟩; have n0_ := Aside0.mk (Kd.R_elder' (by (with_reducible repeat (first | apply Kd.R_alloc | apply Kd.R_drewN | apply Kd.R_drew)); exact HO180.out) (Kd.R_base ho0) hb); have n1_ := Aside0.mk (Kd.R_lower (Kd.R_new' ho0 (Kd.R_lt (by (with_reducible repeat (first | apply Kd.R_alloc | apply Kd.R_drewN | apply Kd.R_drew)); exact HO180.out))) (below_size (by repeat (first | (with_reducible first | exact HB.out | apply below_alloc | apply pw_below_drewN | apply below_drew1) | exact HB.out)))); have n2_ := Aside0.mk (below_step (by repeat (first | (with_reducible first | exact HB.out | apply below_alloc | apply pw_below_drewN | apply below_drew1) | exact HB.out)) hb); clear HO180; clear HB; have HO180 := n0_; have HO183 := n1_; have HB := n2_; clear n0_ n1_ n2_; (try clear hb); (try clear hb2); (try clear hk); (try clear hi); (try clear ho0)) | ((with_reducible refine gate_dst (N := 3) rfl ?_); refine box_event ?hg (N := 3) ?hd (cs := #[.slice none 0 0, .int .i64 0]) (t := 27) ?hr ?_; (case hd => rfl); (case hg => rfl); (case hr => first | (go_simp; done) | (go_simp; rfl)); intro gb186 hg w11 hbox hb; have n0_ := Aside0.mk (Kd.R_below (by (with_reducible repeat (first | apply Kd.R_alloc | apply Kd.R_drewN | apply Kd.R_drew)); exact HO180.out) hb); have n1_ := Aside0.mk (Kd.R_below (by (with_reducible repeat (first | apply Kd.R_alloc | apply Kd.R_drewN | apply Kd.R_drew)); exact HO183.out) hb); have n2_ := Aside0.mk (below_step (by repeat (first | (with_reducible first | exact HB.out | apply below_alloc | apply pw_below_drewN | apply below_drew1) | exact HB.out)) hb); have n3_ := Aside0.mk (hbox); have n4_ := Aside0.mk ((by rw [hg]; exact (below_size (by repeat (first | (with_reducible first | exact HB.out | apply below_alloc | apply pw_below_drewN | apply below_drew1) | exact HB.out))) : w.heap.size ≤ gb186)); have n5_ := Aside0.mk ((by rw [hg]; exact (below_size (by repeat (first | (with_reducible first | exact HB.out | apply below_alloc | apply pw_below_drewN | apply below_drew1) | exact HB.out))) : w.heap.size ≤ gb186)); clear HO180; clear HO183; clear HB; have HO180 := n0_; have HO183 := n1_; have HB := n2_; have BK186 := n3_; have GW186 := n4_; have GE186 := n5_; clear n0_ n1_ n2_ n3_ n4_ n5_; clear hb hbox hg; obtain ⟨Ao12, co12, eo12⟩ := Kd.R_slice HO183.out; subst eo12; have hcz13_0 : w11.cell? ⟨gb186, 0, none⟩ = some (.slice none 0 0) := (blk_cell BK186.out 0).trans rfl; have hcz13_1 : w11.cell? ⟨gb186, 1, none⟩ = some (.int .i64 0) := (blk_cell BK186.out 1).trans rfl; have hfz13_0 := blk_frozen BK186.out 0; have hfz13_1 := blk_frozen BK186.out 1) | ((with_reducible refine gate_callee (f := 22) rfl ?_); refine goesL_ (some 23) rfl rfl Try.func22 (by kernel_rfl) rfl #[.slice A0 l0.length c0] rfl (by (try simp only [List.map_toArray, List.map_cons, List.map_nil]); first | done | rfl | (simp only [List.length_drop, List.length_take]; rfl)) ?_; (with_reducible refine (laws_toIntS.calls k _ _ l0 t187 _ ?side1 ?side2 A5.out).mono ?_); (case side1 => exact Kd.C_below HR0.out (by repeat (first | (with_reducible first | exact HB.out | apply below_alloc | apply pw_below_drewN | apply below_drew1 | refine below_set ?_ GE186.out) | exact HB.out))); (case side2 => exact HC0.out); rintro e w14 ⟨v188, rfl, ho0, hb⟩; refine ⟨_, rfl, ?_⟩; have n0_ := Aside0.mk (Kd.R_elder' (by (with_reducible repeat (first | apply Kd.R_alloc | apply Kd.R_drewN | apply Kd.R_drew)); exact (Kd.R_mono (Kd.R_far (p := ⟨gb186, 1, none⟩) (Kd.R_far (p := ⟨gb186, 0, none⟩) (Kd.R_types HO180.out BK186.out (by decide)) (fun _ hk => hk.2) (.slice Ao12 t181.length co12)) (fun _ hk => hk.2) (.int .i64 t184)) (fun _ h_ => h_.1))) (Kd.R_base ho0) hb); have n1_ := Aside0.mk (Kd.R_elder' (by (with_reducible repeat (first | apply Kd.R_alloc | apply Kd.R_drewN | apply Kd.R_drew)); exact (Kd.R_mono (Kd.R_far (p := ⟨gb186, 1, none⟩) (Kd.R_far (p := ⟨gb186, 0, none⟩) (Kd.R_types HO183.out BK186.out (by decide)) (fun _ hk => hk.2) (.slice Ao12 t181.length co12)) (fun _ hk => hk.2) (.int .i64 t184)) (fun _ h_ => h_.1))) (Kd.R_base ho0) hb); have n2_ := Aside0.mk (Kd.R_lower (Kd.R_new' (Kd.R_new' ho0 (Kd.R_lt (by (with_reducible repeat (first | apply Kd.R_alloc | apply Kd.R_drewN | apply Kd.R_drew)); exact (Kd.R_mono (Kd.R_far (p := ⟨gb186, 1, none⟩) (Kd.R_far (p := ⟨gb186, 0, none⟩) (Kd.R_types HO180.out BK186.out (by decide)) (fun _ hk => hk.2) (.slice Ao12 t181.length co12)) (fun _ hk => hk.2) (.int .i64 t184)) (fun _ h_ => h_.1))))) (Kd.R_lt (by (with_reducible repeat (first | apply Kd.R_alloc | apply Kd.R_drewN | apply Kd.R_drew)); exact (Kd.R_mono (Kd.R_far (p := ⟨gb186, 1, none⟩) (Kd.R_far (p := ⟨gb186, 0, none⟩) (Kd.R_types HO183.out BK186.out (by decide)) (fun _ hk => hk.2) (.slice Ao12 t181.length co12)) (fun _ hk => hk.2) (.int .i64 t184)) (fun _ h_ => h_.1))))) (below_size (by repeat (first | (with_reducible first | exact HB.out | apply below_alloc | apply pw_below_drewN | apply below_drew1 | refine below_set ?_ GE186.out) | exact HB.out)))); have n3_ := Aside0.mk (blk_below (g := gb186) (o := .cells #[.slice Ao12 t181.length co12, .int .i64 t184] 27 (0, 0)) (by (with_reducible repeat (first | refine blk_drewN ?_ _ | refine blk_drew ?_ | refine blk_alloc ?_ _)); refine blk_put (cs := #[.slice Ao12 t181.length co12, .int .i64 0]) ?_ 1 _ rfl; (with_reducible repeat (first | refine blk_drewN ?_ _ | refine blk_drew ?_ | refine blk_alloc ?_ _)); refine blk_put (cs := #[.slice none 0 0, .int .i64 0]) ?_ 0 _ rfl; (with_reducible repeat (first | refine blk_drewN ?_ _ | refine blk_drew ?_ | refine blk_alloc ?_ _)); exact BK186.out) hb); have n4_ := Aside0.mk (below_step (by repeat (first | (with_reducible first | exact HB.out | apply below_alloc | apply pw_below_drewN | apply below_drew1 | refine below_set ?_ GE186.out) | exact HB.out)) hb); clear HO180; clear HO183; clear BK186; clear HB; have HO180 := n0_; have HO183 := n1_; have HO189 := n2_; have BK186 := n3_; have HB := n4_; clear n0_ n1_ n2_ n3_ n4_; (try clear hb); (try clear hb2); (try clear hk); (try clear hi); (try clear ho0); obtain ⟨Ao15, co15, eo15⟩ := Kd.R_slice HO189.out; subst eo15) | ((with_reducible refine gate_callee (f := 23) rfl ?_); refine goesL_ (some 26) rfl rfl Try.func23 (by kernel_rfl) rfl #[.slice Ao15 t187.length co15] rfl (by (try simp only [List.map_toArray, List.map_cons, List.map_nil]); first | done | rfl | (simp only [List.length_drop, List.length_take]; rfl)) ?_; (with_reducible refine (impl_CupsOf.calls k _ _ t187 t190 t193 t194 _ ?side1 ?side2 A6.out).mono ?_); (case side1 => repeat (first | exact (Kd.R_reads' HO189.out).2.2 | (with_reducible refine Kd.C_alloc ?_ _) | (with_reducible refine Kd.C_drewN ?_ _) | (with_reducible refine Kd.C_drew ?_))); (case side2 => exact (Kd.R_reads' HO189.out).2.1); rintro e w16 ⟨v191, rfl, ho0, hb⟩; refine ⟨_, rfl, ?_⟩; have n0_ := Aside0.mk (Kd.R_elder' (by (with_reducible repeat (first | apply Kd.R_alloc | apply Kd.R_drewN | apply Kd.R_drew)); exact HO180.out) (Kd.R_base ho0) hb); have n1_ := Aside0.mk (Kd.R_elder' (by (with_reducible repeat (first | apply Kd.R_alloc | apply Kd.R_drewN | apply Kd.R_drew)); exact HO183.out) (Kd.R_base ho0) hb); have n2_ := Aside0.mk (Kd.R_elder' (by (with_reducible repeat (first | apply Kd.R_alloc | apply Kd.R_drewN | apply Kd.R_drew)); exact HO189.out) (Kd.R_base ho0) hb); have n3_ := Aside0.mk (Kd.R_lower (Kd.R_new' (Kd.R_new' (Kd.R_new' ho0 (Kd.R_lt (by (with_reducible repeat (first | apply Kd.R_alloc | apply Kd.R_drewN | apply Kd.R_drew)); exact HO180.out))) (Kd.R_lt (by (with_reducible repeat (first | apply Kd.R_alloc | apply Kd.R_drewN | apply Kd.R_drew)); exact HO183.out))) (Kd.R_lt (by (with_reducible repeat (first | apply Kd.R_alloc | apply Kd.R_drewN | apply Kd.R_drew)); exact HO189.out))) (below_size (by repeat (first | (with_reducible first | exact HB.out | apply below_alloc | apply pw_below_drewN | apply below_drew1 | refine below_set ?_ GE186.out) | exact HB.out)))); have n4_ := Aside0.mk (blk_below (g := gb186) (o := .cells #[.slice Ao12 t181.length co12, .int .i64 t184] 27 (0, 0)) (by (with_reducible repeat (first | refine blk_drewN ?_ _ | refine blk_drew ?_ | refine blk_alloc ?_ _)); exact BK186.out) hb); have n5_ := Aside0.mk (below_step (by repeat (first | (with_reducible first | exact HB.out | apply below_alloc | apply pw_below_drewN | apply below_drew1 | refine below_set ?_ GE186.out) | exact HB.out)) hb); clear HO180; clear HO183; clear HO189; clear BK186; clear HB; have HO180 := n0_; have HO183 := n1_; have HO189 := n2_; have HO192 := n3_; have BK186 := n4_; have HB := n5_; clear n0_ n1_ n2_ n3_ n4_ n5_; (try clear hb); (try clear hb2); (try clear hk); (try clear hi); (try clear ho0)) | ((with_reducible refine gate_dst (N := 6) rfl ?_); refine box_event ?hg (N := 6) ?hd (cs := #[.slice none 0 0, .int .i64 0]) (t := 27) ?hr ?_; (case hd => rfl); (case hg => rfl); (case hr => first | (go_simp; done) | (go_simp; rfl)); intro gb195 hg w17 hbox hb; have n0_ := Aside0.mk (Kd.R_below (by (with_reducible repeat (first | apply Kd.R_alloc | apply Kd.R_drewN | apply Kd.R_drew)); exact HO180.out) hb); have n1_ := Aside0.mk (Kd.R_below (by (with_reducible repeat (first | apply Kd.R_alloc | apply Kd.R_drewN | apply Kd.R_drew)); exact HO183.out) hb); have n2_ := Aside0.mk (Kd.R_below (by (with_reducible repeat (first | apply Kd.R_alloc | apply Kd.R_drewN | apply Kd.R_drew)); exact HO189.out) hb); have n3_ := Aside0.mk (Kd.R_below (by (with_reducible repeat (first | apply Kd.R_alloc | apply Kd.R_drewN | apply Kd.R_drew)); exact HO192.out) hb); have n4_ := Aside0.mk (blk_below (g := gb186) (o := .cells #[.slice Ao12 t181.length co12, .int .i64 t184] 27 (0, 0)) (by (with_reducible repeat (first | refine blk_drewN ?_ _ | refine blk_drew ?_ | refine blk_alloc ?_ _)); exact BK186.out) hb); have n5_ := Aside0.mk (below_step (by repeat (first | (with_reducible first | exact HB.out | apply below_alloc | apply pw_below_drewN | apply below_drew1 | refine below_set ?_ GE186.out) | exact HB.out)) hb); have n6_ := Aside0.mk (hbox); have n7_ := Aside0.mk ((by rw [hg]; exact (below_size (by repeat (first | (with_reducible first | exact HB.out | apply below_alloc | apply pw_below_drewN | apply below_drew1 | refine below_set ?_ GE186.out) | exact HB.out))) : w.heap.size ≤ gb195)); have n8_ := Aside0.mk ((by rw [hg]; exact (below_size (by repeat (first | (with_reducible first | exact HB.out | apply below_alloc | apply pw_below_drewN | apply below_drew1 | refine below_set ?_ GE186.out) | exact HB.out))) : w.heap.size ≤ gb195)); have n9_ := Aside0.mk ((by rw [hg]; exact Nat.ne_of_lt (blk_lt (g := gb186) (o := .cells #[.slice Ao12 t181.length co12, .int .i64 t184] 27 (0, 0)) (by (with_reducible repeat (first | refine blk_drewN ?_ _ | refine blk_drew ?_ | refine blk_alloc ?_ _)); exact BK186.out)) : gb186 ≠ gb195)); have n10_ := Aside0.mk ((by rw [hg]; exact Nat.ne_of_gt (blk_lt (g := gb186) (o := .cells #[.slice Ao12 t181.length co12, .int .i64 t184] 27 (0, 0)) (by (with_reducible repeat (first | refine blk_drewN ?_ _ | refine blk_drew ?_ | refine blk_alloc ?_ _)); exact BK186.out)) : gb195 ≠ gb186)); clear HO180; clear HO183; clear HO189; clear HO192; clear BK186; clear HB; have HO180 := n0_; have HO183 := n1_; have HO189 := n2_; have HO192 := n3_; have BK186 := n4_; have HB := n5_; have BK195 := n6_; have GW195 := n7_; have GE195 := n8_; have NB186_195 := n9_; have NB195_186 := n10_; clear n0_ n1_ n2_ n3_ n4_ n5_ n6_ n7_ n8_ n9_ n10_; clear hb hbox hg; obtain ⟨Ao18, co18, eo18⟩ := Kd.R_slice HO192.out; subst eo18; have hnb19 := NB195_186.out; have hnc19 := NB186_195.out; have hcz20_0 : w17.cell? ⟨gb195, 0, none⟩ = some (.slice none 0 0) := (blk_cell BK195.out 0).trans rfl; have hcz20_1 : w17.cell? ⟨gb195, 1, none⟩ = some (.int .i64 0) := (blk_cell BK195.out 1).trans rfl; have hfz20_0 := blk_frozen BK195.out 0; have hfz20_1 := blk_frozen BK195.out 1))
  (try simp only [Act.put, List.setIfInBounds_toArray, List.set_cons_zero, List.set_cons_succ])
  go_cut [37] (fun v37 wc => ∃ (kq : Nat) (x37_6 : Bool), v37 = .bool x37_6 ∧ Aside0 (laws_FnExactCupsOf.j0 kq l0 t185 t187 t194 x37_6 t181 t184 t190 t193 = some r) ∧ Aside0 (kq ≤ k) ∧ Aside0 (Kd.R (Kd.int .i64) 3 wc w.heap.size (fun k_ => some k_ ≠ ((.slice Ao12 t181.length co12) : Value).ownBlock ∧ some k_ ≠ ((.slice Ao18 t190.length co18) : Value).ownBlock) (.slice Ao15 t187.length co15) t187) ∧ Aside0 (Kd.R (Kd.int .i64) 3 wc w.heap.size (fun k_ => some k_ ≠ ((.slice Ao15 t187.length co15) : Value).ownBlock ∧ some k_ ≠ ((.slice Ao18 t190.length co18) : Value).ownBlock) (.slice Ao12 t181.length co12) t181) ∧ Aside0 (Kd.R (Kd.int .i64) 3 wc w.heap.size (fun k_ => some k_ ≠ ((.slice Ao15 t187.length co15) : Value).ownBlock ∧ some k_ ≠ ((.slice Ao12 t181.length co12) : Value).ownBlock) (.slice Ao18 t190.length co18) t190) ∧ Aside0 (wc.heap[gb186]? = some (.cells #[(.slice Ao12 t181.length co12), .int .i64 t184] 27 (0, 0))) ∧ Aside0 (wc.heap[gb195]? = some (.cells #[(.slice Ao18 t190.length co18), .int .i64 t193] 27 (0, 0))) ∧ Aside0 (Below w.heap.size w wc))
  case first =>
   have H := HC7.out
   clear HC7
   replace H := Option.bind_eq_some_iff.mp H
   obtain ⟨t196, A210, H⟩ := H
   replace H : (if t196 = true then (laws_FnExactCupsOf.j0 k l0 t185 t187 t194 (t194 != t185) t181 t184 t190 t193) else (laws_FnExactCupsOf.j0 k l0 t185 t187 t194 true t181 t184 t190 t193)) = some r := H
   have A21 := Aside0.mk A210
   clear A210
   by_cases c22 : t196 = true
   ·subst c22
    have H1 : (laws_FnExactCupsOf.j0 k l0 t185 t187 t194 (t194 != t185) t181 t184 t190 t193) = some r := by rw [if_pos rfl] at H; exact H
    clear H
    have H := H1
    clear H1
    have H' := Aside0.mk H
    clear H
    have hnb23 := NB195_186.out
    have hnc23 := NB186_195.out
    have hcz24_0 : w17.cell? ⟨gb195, 0, none⟩ = some (.slice none 0 0) := (blk_cell BK195.out 0).trans rfl
    have hcz24_1 : w17.cell? ⟨gb195, 1, none⟩ = some (.int .i64 0) := (blk_cell BK195.out 1).trans rfl
    have hfz24_0 := blk_frozen BK195.out 0
    have hfz24_1 := blk_frozen BK195.out 1
    have hcz25_0 : w17.cell? ⟨gb186, 0, none⟩ = some (.slice Ao12 t181.length co12) := (blk_cell BK186.out 0).trans rfl
    have hcz25_1 : w17.cell? ⟨gb186, 1, none⟩ = some (.int .i64 t184) := (blk_cell BK186.out 1).trans rfl
    have hfz25_0 := blk_frozen BK186.out 0
    have hfz25_1 := blk_frozen BK186.out 1
    go_wp2_with (first | ((with_reducible refine gate_callee (f := 20) rfl ?_); refine goesL_ (some 31) rfl rfl Try.func20 (by kernel_rfl) rfl #[.agg #[.slice Ao18 t190.length co18, .int .i64 t193], .agg #[.slice Ao12 t181.length co12, .int .i64 t184]] rfl (by (try simp only [List.map_toArray, List.map_cons, List.map_nil]); first | done | rfl | (simp only [List.length_drop, List.length_take]; rfl)) ?_; (with_reducible refine (laws_eqCups.calls k _ _ t190 t193 _ _ t181 t184 true _ ?side1 ?side2 ?side3 ?side4 A21.out).mono ?_); (case side1 => refine (Kd.R_reads' (e := 3) (base := w.heap.size) (ok := fun k_ => (((True ∧ some k_ ≠ (.slice Ao9 t178.length co9 : Value).ownBlock) ∧ some k_ ≠ (.slice Ao12 t181.length co12 : Value).ownBlock) ∧ some k_ ≠ (.slice Ao15 t187.length co15 : Value).ownBlock)) (n := t190.length) (c := co18) ?_).2.2; exact (by (with_reducible repeat (first | apply Kd.R_alloc | apply Kd.R_drewN | apply Kd.R_drew)); exact (Kd.R_mono (Kd.R_far (p := ⟨gb195, 1, none⟩) (Kd.R_far (p := ⟨gb195, 0, none⟩) (Kd.R_types HO192.out BK195.out (by decide)) (fun _ hk => hk.2) (.slice Ao18 t190.length co18)) (fun _ hk => hk.2) (.int .i64 t193)) (fun _ h_ => h_.1)))); (case side2 => exact (Kd.R_reads' HO192.out).2.1); (case side3 => refine (Kd.R_reads' (e := 3) (base := w.heap.size) (ok := fun k_ => (((True ∧ some k_ ≠ (.slice Ao9 t178.length co9 : Value).ownBlock) ∧ some k_ ≠ (.slice Ao15 t187.length co15 : Value).ownBlock) ∧ some k_ ≠ (.slice Ao18 t190.length co18 : Value).ownBlock)) (n := t181.length) (c := co12) ?_).2.2; exact (by (with_reducible repeat (first | apply Kd.R_alloc | apply Kd.R_drewN | apply Kd.R_drew)); exact (Kd.R_mono (Kd.R_far (p := ⟨gb195, 1, none⟩) (Kd.R_far (p := ⟨gb195, 0, none⟩) (Kd.R_types HO183.out BK195.out (by decide)) (fun _ hk => hk.2) (.slice Ao18 t190.length co18)) (fun _ hk => hk.2) (.int .i64 t193)) (fun _ h_ => h_.1)))); (case side4 => exact (Kd.R_reads' HO183.out).2.1); rintro e w26 ⟨rfl, hb⟩; refine ⟨_, rfl, ?_⟩; have n0_ := Aside0.mk (Kd.R_below (by (with_reducible repeat (first | apply Kd.R_alloc | apply Kd.R_drewN | apply Kd.R_drew)); exact (Kd.R_mono (Kd.R_far (p := ⟨gb195, 1, none⟩) (Kd.R_far (p := ⟨gb195, 0, none⟩) (Kd.R_types HO180.out BK195.out (by decide)) (fun _ hk => hk.2) (.slice Ao18 t190.length co18)) (fun _ hk => hk.2) (.int .i64 t193)) (fun _ h_ => h_.1))) hb); have n1_ := Aside0.mk (Kd.R_below (by (with_reducible repeat (first | apply Kd.R_alloc | apply Kd.R_drewN | apply Kd.R_drew)); exact (Kd.R_mono (Kd.R_far (p := ⟨gb195, 1, none⟩) (Kd.R_far (p := ⟨gb195, 0, none⟩) (Kd.R_types HO183.out BK195.out (by decide)) (fun _ hk => hk.2) (.slice Ao18 t190.length co18)) (fun _ hk => hk.2) (.int .i64 t193)) (fun _ h_ => h_.1))) hb); have n2_ := Aside0.mk (Kd.R_below (by (with_reducible repeat (first | apply Kd.R_alloc | apply Kd.R_drewN | apply Kd.R_drew)); exact (Kd.R_mono (Kd.R_far (p := ⟨gb195, 1, none⟩) (Kd.R_far (p := ⟨gb195, 0, none⟩) (Kd.R_types HO189.out BK195.out (by decide)) (fun _ hk => hk.2) (.slice Ao18 t190.length co18)) (fun _ hk => hk.2) (.int .i64 t193)) (fun _ h_ => h_.1))) hb); have n3_ := Aside0.mk (Kd.R_below (by (with_reducible repeat (first | apply Kd.R_alloc | apply Kd.R_drewN | apply Kd.R_drew)); exact (Kd.R_mono (Kd.R_far (p := ⟨gb195, 1, none⟩) (Kd.R_far (p := ⟨gb195, 0, none⟩) (Kd.R_types HO192.out BK195.out (by decide)) (fun _ hk => hk.2) (.slice Ao18 t190.length co18)) (fun _ hk => hk.2) (.int .i64 t193)) (fun _ h_ => h_.1))) hb); have n4_ := Aside0.mk (blk_below (g := gb186) (o := .cells #[.slice Ao12 t181.length co12, .int .i64 t184] 27 (0, 0)) (by (with_reducible repeat (first | refine blk_drewN ?_ _ | refine blk_drew ?_ | refine blk_alloc ?_ _)); refine blk_far ?_ NB186_195.out _; (with_reducible repeat (first | refine blk_drewN ?_ _ | refine blk_drew ?_ | refine blk_alloc ?_ _)); refine blk_far ?_ NB186_195.out _; (with_reducible repeat (first | refine blk_drewN ?_ _ | refine blk_drew ?_ | refine blk_alloc ?_ _)); exact BK186.out) hb); have n5_ := Aside0.mk (blk_below (g := gb195) (o := .cells #[.slice Ao18 t190.length co18, .int .i64 t193] 27 (0, 0)) (by (with_reducible repeat (first | refine blk_drewN ?_ _ | refine blk_drew ?_ | refine blk_alloc ?_ _)); refine blk_put (cs := #[.slice Ao18 t190.length co18, .int .i64 0]) ?_ 1 _ rfl; (with_reducible repeat (first | refine blk_drewN ?_ _ | refine blk_drew ?_ | refine blk_alloc ?_ _)); refine blk_put (cs := #[.slice none 0 0, .int .i64 0]) ?_ 0 _ rfl; (with_reducible repeat (first | refine blk_drewN ?_ _ | refine blk_drew ?_ | refine blk_alloc ?_ _)); exact BK195.out) hb); have n6_ := Aside0.mk (below_step (by repeat (first | (with_reducible first | exact HB.out | apply below_alloc | apply pw_below_drewN | apply below_drew1 | refine below_set ?_ GE186.out | refine below_set ?_ GE195.out) | exact HB.out)) hb); clear HO180; clear HO183; clear HO189; clear HO192; clear BK186; clear BK195; clear HB; have HO180 := n0_; have HO183 := n1_; have HO189 := n2_; have HO192 := n3_; have BK186 := n4_; have BK195 := n5_; have HB := n6_; clear n0_ n1_ n2_ n3_ n4_ n5_ n6_; (try clear hb); (try clear hb2); (try clear hk); (try clear hi)))
    go_meet
    case rel => exact ⟨_, ((t194 != t185)), (by first | rfl | (simp; done) | (simp [*]; done)), H', ⟨by first | omega | exact Nat.le_refl _⟩, ⟨by (with_reducible repeat (first | apply Kd.R_alloc | apply Kd.R_drewN | apply Kd.R_drew)); exact Kd.R_mono HO189.out (fun _ hk => ⟨hk.1.2, hk.2⟩)⟩, ⟨by (with_reducible repeat (first | apply Kd.R_alloc | apply Kd.R_drewN | apply Kd.R_drew)); exact Kd.R_mono HO183.out (fun _ hk => ⟨hk.1.2, hk.2⟩)⟩, ⟨by (with_reducible repeat (first | apply Kd.R_alloc | apply Kd.R_drewN | apply Kd.R_drew)); exact Kd.R_mono HO192.out (fun _ hk => ⟨hk.2, hk.1.2⟩)⟩, ⟨by (with_reducible repeat (first | refine blk_drewN ?_ _ | refine blk_drew ?_ | refine blk_alloc ?_ _)); exact BK186.out⟩, ⟨by (with_reducible repeat (first | refine blk_drewN ?_ _ | refine blk_drew ?_ | refine blk_alloc ?_ _)); exact BK195.out⟩, ⟨by repeat (first | (with_reducible first | exact HB.out | apply below_alloc | apply pw_below_drewN | apply below_drew1 | refine below_set ?_ GE186.out | refine below_set ?_ GE195.out) | exact HB.out)⟩⟩
   ·replace c22 := Bool.eq_false_iff.mpr c22
    subst c22
    have H1 : (laws_FnExactCupsOf.j0 k l0 t185 t187 t194 true t181 t184 t190 t193) = some r := by rw [if_neg (show ¬ (false = true) by decide)] at H; exact H
    clear H
    have H := H1
    clear H1
    have H' := Aside0.mk H
    clear H
    have hnb27 := NB195_186.out
    have hnc27 := NB186_195.out
    have hcz28_0 : w17.cell? ⟨gb195, 0, none⟩ = some (.slice none 0 0) := (blk_cell BK195.out 0).trans rfl
    have hcz28_1 : w17.cell? ⟨gb195, 1, none⟩ = some (.int .i64 0) := (blk_cell BK195.out 1).trans rfl
    have hfz28_0 := blk_frozen BK195.out 0
    have hfz28_1 := blk_frozen BK195.out 1
    have hcz29_0 : w17.cell? ⟨gb186, 0, none⟩ = some (.slice Ao12 t181.length co12) := (blk_cell BK186.out 0).trans rfl
    have hcz29_1 : w17.cell? ⟨gb186, 1, none⟩ = some (.int .i64 t184) := (blk_cell BK186.out 1).trans rfl
    have hfz29_0 := blk_frozen BK186.out 0
    have hfz29_1 := blk_frozen BK186.out 1
    go_wp2_with (first | ((with_reducible refine gate_callee (f := 20) rfl ?_); refine goesL_ (some 31) rfl rfl Try.func20 (by kernel_rfl) rfl #[.agg #[.slice Ao18 t190.length co18, .int .i64 t193], .agg #[.slice Ao12 t181.length co12, .int .i64 t184]] rfl (by (try simp only [List.map_toArray, List.map_cons, List.map_nil]); first | done | rfl | (simp only [List.length_drop, List.length_take]; rfl)) ?_; (with_reducible refine (laws_eqCups.calls k _ _ t190 t193 _ _ t181 t184 false _ ?side1 ?side2 ?side3 ?side4 A21.out).mono ?_); (case side1 => refine (Kd.R_reads' (e := 3) (base := w.heap.size) (ok := fun k_ => (((True ∧ some k_ ≠ (.slice Ao9 t178.length co9 : Value).ownBlock) ∧ some k_ ≠ (.slice Ao12 t181.length co12 : Value).ownBlock) ∧ some k_ ≠ (.slice Ao15 t187.length co15 : Value).ownBlock)) (n := t190.length) (c := co18) ?_).2.2; exact (by (with_reducible repeat (first | apply Kd.R_alloc | apply Kd.R_drewN | apply Kd.R_drew)); exact (Kd.R_mono (Kd.R_far (p := ⟨gb195, 1, none⟩) (Kd.R_far (p := ⟨gb195, 0, none⟩) (Kd.R_types HO192.out BK195.out (by decide)) (fun _ hk => hk.2) (.slice Ao18 t190.length co18)) (fun _ hk => hk.2) (.int .i64 t193)) (fun _ h_ => h_.1)))); (case side2 => exact (Kd.R_reads' HO192.out).2.1); (case side3 => refine (Kd.R_reads' (e := 3) (base := w.heap.size) (ok := fun k_ => (((True ∧ some k_ ≠ (.slice Ao9 t178.length co9 : Value).ownBlock) ∧ some k_ ≠ (.slice Ao15 t187.length co15 : Value).ownBlock) ∧ some k_ ≠ (.slice Ao18 t190.length co18 : Value).ownBlock)) (n := t181.length) (c := co12) ?_).2.2; exact (by (with_reducible repeat (first | apply Kd.R_alloc | apply Kd.R_drewN | apply Kd.R_drew)); exact (Kd.R_mono (Kd.R_far (p := ⟨gb195, 1, none⟩) (Kd.R_far (p := ⟨gb195, 0, none⟩) (Kd.R_types HO183.out BK195.out (by decide)) (fun _ hk => hk.2) (.slice Ao18 t190.length co18)) (fun _ hk => hk.2) (.int .i64 t193)) (fun _ h_ => h_.1)))); (case side4 => exact (Kd.R_reads' HO183.out).2.1); rintro e w30 ⟨rfl, hb⟩; refine ⟨_, rfl, ?_⟩; have n0_ := Aside0.mk (Kd.R_below (by (with_reducible repeat (first | apply Kd.R_alloc | apply Kd.R_drewN | apply Kd.R_drew)); exact (Kd.R_mono (Kd.R_far (p := ⟨gb195, 1, none⟩) (Kd.R_far (p := ⟨gb195, 0, none⟩) (Kd.R_types HO180.out BK195.out (by decide)) (fun _ hk => hk.2) (.slice Ao18 t190.length co18)) (fun _ hk => hk.2) (.int .i64 t193)) (fun _ h_ => h_.1))) hb); have n1_ := Aside0.mk (Kd.R_below (by (with_reducible repeat (first | apply Kd.R_alloc | apply Kd.R_drewN | apply Kd.R_drew)); exact (Kd.R_mono (Kd.R_far (p := ⟨gb195, 1, none⟩) (Kd.R_far (p := ⟨gb195, 0, none⟩) (Kd.R_types HO183.out BK195.out (by decide)) (fun _ hk => hk.2) (.slice Ao18 t190.length co18)) (fun _ hk => hk.2) (.int .i64 t193)) (fun _ h_ => h_.1))) hb); have n2_ := Aside0.mk (Kd.R_below (by (with_reducible repeat (first | apply Kd.R_alloc | apply Kd.R_drewN | apply Kd.R_drew)); exact (Kd.R_mono (Kd.R_far (p := ⟨gb195, 1, none⟩) (Kd.R_far (p := ⟨gb195, 0, none⟩) (Kd.R_types HO189.out BK195.out (by decide)) (fun _ hk => hk.2) (.slice Ao18 t190.length co18)) (fun _ hk => hk.2) (.int .i64 t193)) (fun _ h_ => h_.1))) hb); have n3_ := Aside0.mk (Kd.R_below (by (with_reducible repeat (first | apply Kd.R_alloc | apply Kd.R_drewN | apply Kd.R_drew)); exact (Kd.R_mono (Kd.R_far (p := ⟨gb195, 1, none⟩) (Kd.R_far (p := ⟨gb195, 0, none⟩) (Kd.R_types HO192.out BK195.out (by decide)) (fun _ hk => hk.2) (.slice Ao18 t190.length co18)) (fun _ hk => hk.2) (.int .i64 t193)) (fun _ h_ => h_.1))) hb); have n4_ := Aside0.mk (blk_below (g := gb186) (o := .cells #[.slice Ao12 t181.length co12, .int .i64 t184] 27 (0, 0)) (by (with_reducible repeat (first | refine blk_drewN ?_ _ | refine blk_drew ?_ | refine blk_alloc ?_ _)); refine blk_far ?_ NB186_195.out _; (with_reducible repeat (first | refine blk_drewN ?_ _ | refine blk_drew ?_ | refine blk_alloc ?_ _)); refine blk_far ?_ NB186_195.out _; (with_reducible repeat (first | refine blk_drewN ?_ _ | refine blk_drew ?_ | refine blk_alloc ?_ _)); exact BK186.out) hb); have n5_ := Aside0.mk (blk_below (g := gb195) (o := .cells #[.slice Ao18 t190.length co18, .int .i64 t193] 27 (0, 0)) (by (with_reducible repeat (first | refine blk_drewN ?_ _ | refine blk_drew ?_ | refine blk_alloc ?_ _)); refine blk_put (cs := #[.slice Ao18 t190.length co18, .int .i64 0]) ?_ 1 _ rfl; (with_reducible repeat (first | refine blk_drewN ?_ _ | refine blk_drew ?_ | refine blk_alloc ?_ _)); refine blk_put (cs := #[.slice none 0 0, .int .i64 0]) ?_ 0 _ rfl; (with_reducible repeat (first | refine blk_drewN ?_ _ | refine blk_drew ?_ | refine blk_alloc ?_ _)); exact BK195.out) hb); have n6_ := Aside0.mk (below_step (by repeat (first | (with_reducible first | exact HB.out | apply below_alloc | apply pw_below_drewN | apply below_drew1 | refine below_set ?_ GE186.out | refine below_set ?_ GE195.out) | exact HB.out)) hb); clear HO180; clear HO183; clear HO189; clear HO192; clear BK186; clear BK195; clear HB; have HO180 := n0_; have HO183 := n1_; have HO189 := n2_; have HO192 := n3_; have BK186 := n4_; have BK195 := n5_; have HB := n6_; clear n0_ n1_ n2_ n3_ n4_ n5_ n6_; (try clear hb); (try clear hb2); (try clear hk); (try clear hi)))
    go_meet
    case rel => exact ⟨_, (true), (by first | rfl | (simp; done) | (simp [*]; done)), H', ⟨by first | omega | exact Nat.le_refl _⟩, ⟨by (with_reducible repeat (first | apply Kd.R_alloc | apply Kd.R_drewN | apply Kd.R_drew)); exact Kd.R_mono HO189.out (fun _ hk => ⟨hk.1.2, hk.2⟩)⟩, ⟨by (with_reducible repeat (first | apply Kd.R_alloc | apply Kd.R_drewN | apply Kd.R_drew)); exact Kd.R_mono HO183.out (fun _ hk => ⟨hk.1.2, hk.2⟩)⟩, ⟨by (with_reducible repeat (first | apply Kd.R_alloc | apply Kd.R_drewN | apply Kd.R_drew)); exact Kd.R_mono HO192.out (fun _ hk => ⟨hk.2, hk.1.2⟩)⟩, ⟨by (with_reducible repeat (first | refine blk_drewN ?_ _ | refine blk_drew ?_ | refine blk_alloc ?_ _)); exact BK186.out⟩, ⟨by (with_reducible repeat (first | refine blk_drewN ?_ _ | refine blk_drew ?_ | refine blk_alloc ?_ _)); exact BK195.out⟩, ⟨by repeat (first | (with_reducible first | exact HB.out | apply below_alloc | apply pw_below_drewN | apply below_drew1 | refine below_set ?_ GE186.out | refine below_set ?_ GE195.out) | exact HB.out)⟩⟩
  case rest =>
   clear HC7
   try clear c1
   try clear c2
   try clear c2b0
   try clear c2b1
   try clear p2
   try clear c4
   try clear c19
   try clear c20
   try clear c21
   try clear c22
   try clear c23
   try clear c27
   try clear hcz13_0
   try clear hcz13_1
   try clear hcz20_0
   try clear hcz20_1
   try clear hcz24_0
   try clear hcz24_1
   try clear hcz25_0
   try clear hcz25_1
   try clear hcz28_0
   try clear hcz28_1
   try clear hcz29_0
   try clear hcz29_1
   try clear hfz13_0
   try clear hfz13_1
   try clear hfz20_0
   try clear hfz20_1
   try clear hfz24_0
   try clear hfz24_1
   try clear hfz25_0
   try clear hfz25_1
   try clear hfz28_0
   try clear hfz28_1
   try clear hfz29_0
   try clear hfz29_1
   obtain ⟨kq, x37_6, rfl, HA, HJ6, HO_5, HO_187000, HO_196000, BK186, BK195, HB⟩ := hcut
   cases kq with
   | zero => exact absurd HA.out (by simp [laws_FnExactCupsOf.j0])
   | succ kj6 =>
    have H := HA.out
    clear HA
    simp only [laws_FnExactCupsOf.j0] at H
    by_cases c31 : x37_6 = true
    ·subst c31
     have H1 : (some false) = some r := by rw [if_pos rfl] at H; exact H
     clear H
     have H := H1
     clear H1
     obtain rfl := Option.some.inj H
     go_wp2
     go_ret
     exact ⟨by first | rfl | (simp [errW_none, errW_some] <;> rfl) | (simp [*, errW_none, errW_some] <;> rfl), by repeat (first | (with_reducible first | exact HB.out | apply below_alloc | apply pw_below_drewN | apply below_drew1 | refine below_set ?_ GE186.out | refine below_set ?_ GE195.out) | exact HB.out)⟩
    ·replace c31 := Bool.eq_false_iff.mpr c31
     subst c31
     have H1 : ((laws_toIntS.f kj6 l0).bind fun t197 => ((laws_eqIntS.f kj6 t187 t197).bind fun t200 => (if t200 = true then ((laws_markIntS.f kj6 t187 1).bind fun bt201 => (if bt201.1 < 0 then (laws_FnExactCupsOf.j1 kj6 l0 t185 true t181 t184 t190 t193) else ((laws_eqCups.f kj6 t190 t193 t181 t184).bind fun t203 => (if t203 = true then (laws_FnExactCupsOf.j1 kj6 l0 t185 (t194 != t185) t181 t184 t190 t193) else (laws_FnExactCupsOf.j1 kj6 l0 t185 true t181 t184 t190 t193))))) else (some false)))) = some r := by rw [if_neg (show ¬ (false = true) by decide)] at H; exact H
     clear H
     have H := H1
     clear H1
     replace H := Option.bind_eq_some_iff.mp H
     obtain ⟨t197, A320, H⟩ := H
     replace H : ((laws_eqIntS.f kj6 t187 t197).bind fun t200 => (if t200 = true then ((laws_markIntS.f kj6 t187 1).bind fun bt201 => (if bt201.1 < 0 then (laws_FnExactCupsOf.j1 kj6 l0 t185 true t181 t184 t190 t193) else ((laws_eqCups.f kj6 t190 t193 t181 t184).bind fun t203 => (if t203 = true then (laws_FnExactCupsOf.j1 kj6 l0 t185 (t194 != t185) t181 t184 t190 t193) else (laws_FnExactCupsOf.j1 kj6 l0 t185 true t181 t184 t190 t193))))) else (some false))) = some r := H
     have A32 := Aside0.mk A320
     clear A320
     replace H := Option.bind_eq_some_iff.mp H
     obtain ⟨t200, A330, H⟩ := H
     replace H : (if t200 = true then ((laws_markIntS.f kj6 t187 1).bind fun bt201 => (if bt201.1 < 0 then (laws_FnExactCupsOf.j1 kj6 l0 t185 true t181 t184 t190 t193) else ((laws_eqCups.f kj6 t190 t193 t181 t184).bind fun t203 => (if t203 = true then (laws_FnExactCupsOf.j1 kj6 l0 t185 (t194 != t185) t181 t184 t190 t193) else (laws_FnExactCupsOf.j1 kj6 l0 t185 true t181 t184 t190 t193))))) else (some false)) = some r := H
     have A33 := Aside0.mk A330
     clear A330
     by_cases c34 : t200 = true
     ·subst c34
      have H1 : ((laws_markIntS.f kj6 t187 1).bind fun bt201 => (if bt201.1 < 0 then (laws_FnExactCupsOf.j1 kj6 l0 t185 true t181 t184 t190 t193) else ((laws_eqCups.f kj6 t190 t193 t181 t184).bind fun t203 => (if t203 = true then (laws_FnExactCupsOf.j1 kj6 l0 t185 (t194 != t185) t181 t184 t190 t193) else (laws_FnExactCupsOf.j1 kj6 l0 t185 true t181 t184 t190 t193))))) = some r := by rw [if_pos rfl] at H; exact H
      clear H
      have H := H1
      clear H1
      replace H := Option.bind_eq_some_iff.mp H
      obtain ⟨⟨t201, t202⟩, A350, H⟩ := H
      replace H : (if t201 < 0 then (laws_FnExactCupsOf.j1 kj6 l0 t185 true t181 t184 t190 t193) else ((laws_eqCups.f kj6 t190 t193 t181 t184).bind fun t203 => (if t203 = true then (laws_FnExactCupsOf.j1 kj6 l0 t185 (t194 != t185) t181 t184 t190 t193) else (laws_FnExactCupsOf.j1 kj6 l0 t185 true t181 t184 t190 t193)))) = some r := H
      have A35 := Aside0.mk A350
      clear A350
      have HC36 := Aside0.mk H
      clear H
      go_upto_region 12 with (first | ((with_reducible refine gate_callee (f := 22) rfl ?_); refine goesL_ (some 40) rfl rfl Try.func22 (by kernel_rfl) rfl #[.slice A0 l0.length c0] rfl (by (try simp only [List.map_toArray, List.map_cons, List.map_nil]); first | done | rfl | (simp only [List.length_drop, List.length_take]; rfl)) ?_; (with_reducible refine (laws_toIntS.calls kj6 _ _ l0 t197 _ ?side1 ?side2 A32.out).mono ?_); (case side1 => repeat (first | exact (Kd.C_below HR0.out HB.out) | (with_reducible refine Kd.C_alloc ?_ _) | (with_reducible refine Kd.C_drewN ?_ _) | (with_reducible refine Kd.C_drew ?_))); (case side2 => exact HC0.out); rintro e w37 ⟨v198, rfl, ho0, hb⟩; refine ⟨_, rfl, ?_⟩; have n0_ := Aside0.mk (Kd.R_elder' (by (with_reducible repeat (first | apply Kd.R_alloc | apply Kd.R_drewN | apply Kd.R_drew)); exact HO_5.out) (Kd.R_base ho0) hb); have n1_ := Aside0.mk (Kd.R_elder' (by (with_reducible repeat (first | apply Kd.R_alloc | apply Kd.R_drewN | apply Kd.R_drew)); exact HO_187000.out) (Kd.R_base ho0) hb); have n2_ := Aside0.mk (Kd.R_elder' (by (with_reducible repeat (first | apply Kd.R_alloc | apply Kd.R_drewN | apply Kd.R_drew)); exact HO_196000.out) (Kd.R_base ho0) hb); have n3_ := Aside0.mk (Kd.R_lower (Kd.R_new' (Kd.R_new' (Kd.R_new' ho0 (Kd.R_lt (by (with_reducible repeat (first | apply Kd.R_alloc | apply Kd.R_drewN | apply Kd.R_drew)); exact HO_5.out))) (Kd.R_lt (by (with_reducible repeat (first | apply Kd.R_alloc | apply Kd.R_drewN | apply Kd.R_drew)); exact HO_187000.out))) (Kd.R_lt (by (with_reducible repeat (first | apply Kd.R_alloc | apply Kd.R_drewN | apply Kd.R_drew)); exact HO_196000.out))) (below_size (by repeat (first | (with_reducible first | exact HB.out | apply below_alloc | apply pw_below_drewN | apply below_drew1 | refine below_set ?_ GE186.out | refine below_set ?_ GE195.out) | exact HB.out)))); have n4_ := Aside0.mk (blk_below (g := gb186) (o := .cells #[.slice Ao12 t181.length co12, .int .i64 t184] 27 (0, 0)) (by (with_reducible repeat (first | refine blk_drewN ?_ _ | refine blk_drew ?_ | refine blk_alloc ?_ _)); exact BK186.out) hb); have n5_ := Aside0.mk (blk_below (g := gb195) (o := .cells #[.slice Ao18 t190.length co18, .int .i64 t193] 27 (0, 0)) (by (with_reducible repeat (first | refine blk_drewN ?_ _ | refine blk_drew ?_ | refine blk_alloc ?_ _)); exact BK195.out) hb); have n6_ := Aside0.mk (below_step (by repeat (first | (with_reducible first | exact HB.out | apply below_alloc | apply pw_below_drewN | apply below_drew1 | refine below_set ?_ GE186.out | refine below_set ?_ GE195.out) | exact HB.out)) hb); clear HO_5; clear HO_187000; clear HO_196000; clear BK186; clear BK195; clear HB; have HO_5 := n0_; have HO_187000 := n1_; have HO_196000 := n2_; have HO199 := n3_; have BK186 := n4_; have BK195 := n5_; have HB := n6_; clear n0_ n1_ n2_ n3_ n4_ n5_ n6_; (try clear hb); (try clear hb2); (try clear hk); (try clear hi); (try clear ho0); obtain ⟨Ao38, co38, eo38⟩ := Kd.R_slice HO199.out; subst eo38) | ((with_reducible refine gate_callee (f := 24) rfl ?_); refine goesL_ (some 41) rfl rfl Try.func24 (by kernel_rfl) rfl #[.slice Ao15 t187.length co15, .slice Ao38 t197.length co38] rfl (by (try simp only [List.map_toArray, List.map_cons, List.map_nil]); first | done | rfl | (simp only [List.length_drop, List.length_take]; rfl)) ?_; (with_reducible refine (laws_eqIntS.calls kj6 _ _ t187 _ _ t197 true _ ?side1 ?side2 ?side3 ?side4 A33.out).mono ?_); (case side1 => repeat (first | exact (Kd.R_reads' HO_5.out).2.2 | (with_reducible refine Kd.C_alloc ?_ _) | (with_reducible refine Kd.C_drewN ?_ _) | (with_reducible refine Kd.C_drew ?_))); (case side2 => exact (Kd.R_reads' HO_5.out).2.1); (case side3 => repeat (first | exact (Kd.R_reads' HO199.out).2.2 | (with_reducible refine Kd.C_alloc ?_ _) | (with_reducible refine Kd.C_drewN ?_ _) | (with_reducible refine Kd.C_drew ?_))); (case side4 => exact (Kd.R_reads' HO199.out).2.1); rintro e w' ⟨rfl, ⟨nd, rfl⟩⟩; refine ⟨_, rfl, ?_⟩) | ((with_reducible refine gate_callee (f := 25) rfl ?_); refine goesL_ (some 45) rfl rfl Try.func25 (by kernel_rfl) rfl #[.slice Ao15 t187.length co15, .int .i64 1] rfl (by (try simp only [List.map_toArray, List.map_cons, List.map_nil]); first | done | rfl | (simp only [List.length_drop, List.length_take]; rfl)) ?_; (with_reducible refine (laws_markIntS.calls kj6 (fun k_ => some k_ = (.slice Ao15 t187.length co15 : Value).ownBlock) (.slice Ao15 t187.length co15) t187 1 t201 t202 w _ ?side1 ?side2 A35.out).mono ?_); (case side1 => repeat (first | (with_reducible first | exact HB.out | apply below_alloc | apply pw_below_drewN | apply below_drew1 | refine below_set ?_ GE186.out | refine below_set ?_ GE195.out) | exact HB.out)); (case side2 => exact Kd.R_tight rfl HO_5.out); rintro e w39 ⟨rfl, hy0, hb, hkp⟩; refine ⟨_, rfl, ?_⟩; have n0_ := Aside0.mk (Kd.R_reok rfl hy0 (fun k_ e_ => HO_5.out.1 k_ e_)); have n1_ := Aside0.mk (Kd.R_mono (ok' := fun k_ => some k_ ≠ (.slice Ao15 t187.length co15 : Value).ownBlock ∧ some k_ ≠ (.slice Ao18 t190.length co18 : Value).ownBlock ∧ some k_ ≠ (.slice Ao38 t197.length co38 : Value).ownBlock) (Kd.R_keptB (HO_187000.out) hkp (fun k_ hk_ hs_ => (hk_.1.1) hs_)) (fun k_ hk_ => ⟨hk_.1.1.1, hk_.1.1.2, hk_.1.2⟩)); have n2_ := Aside0.mk (Kd.R_mono (ok' := fun k_ => some k_ ≠ (.slice Ao15 t187.length co15 : Value).ownBlock ∧ some k_ ≠ (.slice Ao12 t181.length co12 : Value).ownBlock ∧ some k_ ≠ (.slice Ao38 t197.length co38 : Value).ownBlock) (Kd.R_keptB (HO_196000.out) hkp (fun k_ hk_ hs_ => (hk_.1.1) hs_)) (fun k_ hk_ => ⟨hk_.1.1.1, hk_.1.1.2, hk_.1.2⟩)); have n3_ := Aside0.mk (blk_kept (by (with_reducible repeat (first | refine blk_drewN ?_ _ | refine blk_drew ?_ | refine blk_alloc ?_ _)); exact BK186.out) hkp (fun hs_ => (fun e_ => (Kd.R_ne HO_5.out BK186.out (by decide)) e_) hs_)); have n4_ := Aside0.mk (blk_kept (by (with_reducible repeat (first | refine blk_drewN ?_ _ | refine blk_drew ?_ | refine blk_alloc ?_ _)); exact BK195.out) hkp (fun hs_ => (fun e_ => (Kd.R_ne HO_5.out BK195.out (by decide)) e_) hs_)); have n5_ := Aside0.mk (Kd.R_mono (ok' := fun k_ => some k_ ≠ (.slice Ao15 t187.length co15 : Value).ownBlock ∧ some k_ ≠ (.slice Ao12 t181.length co12 : Value).ownBlock ∧ some k_ ≠ (.slice Ao18 t190.length co18 : Value).ownBlock) (Kd.R_keptB (HO199.out) hkp (fun k_ hk_ hs_ => (hk_.1.1.2) hs_)) (fun k_ hk_ => ⟨hk_.1.1.1.2, hk_.1.1.2, hk_.1.2⟩)); have n6_ := Aside0.mk (hb); clear HO_5; clear HO_187000; clear HO_196000; clear BK186; clear BK195; clear HO199; clear HB; have HO_5 := n0_; have HO_187000 := n1_; have HO_196000 := n2_; have BK186 := n3_; have BK195 := n4_; have HO199 := n5_; have HB := n6_; clear n0_ n1_ n2_ n3_ n4_ n5_ n6_; (try clear hb); (try clear hkp); (try clear hy0)))
      (try simp only [Act.put, List.setIfInBounds_toArray, List.set_cons_zero, List.set_cons_succ])
      go_cut [58] (fun v58 wc => ∃ (kq : Nat) (x58_35 : Bool), v58 = .bool x58_35 ∧ Aside0 (laws_FnExactCupsOf.j1 kq l0 t185 x58_35 t181 t184 t190 t193 = some r) ∧ Aside0 (kq ≤ kj6) ∧ Aside0 (Kd.R (Kd.int .i64) 3 wc w.heap.size (fun k_ => some k_ ≠ ((.slice Ao18 t190.length co18) : Value).ownBlock) (.slice Ao12 t181.length co12) t181) ∧ Aside0 (Kd.R (Kd.int .i64) 3 wc w.heap.size (fun k_ => some k_ ≠ ((.slice Ao12 t181.length co12) : Value).ownBlock) (.slice Ao18 t190.length co18) t190) ∧ Aside0 (wc.heap[gb186]? = some (.cells #[(.slice Ao12 t181.length co12), .int .i64 t184] 27 (0, 0))) ∧ Aside0 (wc.heap[gb195]? = some (.cells #[(.slice Ao18 t190.length co18), .int .i64 t193] 27 (0, 0))) ∧ Aside0 (Below w.heap.size w wc))
      case first =>
       have H := HC36.out
       clear HC36
       by_cases c40 : t201 < 0
       ·rw [if_pos c40] at H
        have c40b0 : decide (t201 < 0) = true := decide_eq_true c40
        clear c40
        (first | rw [c40b0] | (simp only [i64_w, i32_w]; rw [c40b0]) | skip)
        have H' := Aside0.mk H
        clear H
        go_wp2
        go_meet
        case rel => exact ⟨_, (true), (by first | rfl | (simp; done) | (simp [*]; done)), H', ⟨by have := HJ6.out; first | omega | exact Nat.le_refl _⟩, ⟨by (with_reducible repeat (first | apply Kd.R_alloc | apply Kd.R_drewN | apply Kd.R_drew)); exact Kd.R_mono HO_187000.out (fun _ hk => hk.2.1)⟩, ⟨by (with_reducible repeat (first | apply Kd.R_alloc | apply Kd.R_drewN | apply Kd.R_drew)); exact Kd.R_mono HO_196000.out (fun _ hk => hk.2.1)⟩, ⟨by (with_reducible repeat (first | refine blk_drewN ?_ _ | refine blk_drew ?_ | refine blk_alloc ?_ _)); exact BK186.out⟩, ⟨by (with_reducible repeat (first | refine blk_drewN ?_ _ | refine blk_drew ?_ | refine blk_alloc ?_ _)); exact BK195.out⟩, ⟨by repeat (first | (with_reducible first | exact HB.out | apply below_alloc | apply pw_below_drewN | apply below_drew1 | refine below_set ?_ GE186.out | refine below_set ?_ GE195.out) | exact HB.out)⟩⟩
       ·rw [if_neg c40] at H
        have c40b0 : decide (t201 < 0) = false := decide_eq_false c40
        clear c40
        (first | rw [c40b0] | (simp only [i64_w, i32_w]; rw [c40b0]) | skip)
        replace H := Option.bind_eq_some_iff.mp H
        obtain ⟨t203, A410, H⟩ := H
        replace H : (if t203 = true then (laws_FnExactCupsOf.j1 kj6 l0 t185 (t194 != t185) t181 t184 t190 t193) else (laws_FnExactCupsOf.j1 kj6 l0 t185 true t181 t184 t190 t193)) = some r := H
        have A41 := Aside0.mk A410
        clear A410
        by_cases c42 : t203 = true
        ·subst c42
         have H1 : (laws_FnExactCupsOf.j1 kj6 l0 t185 (t194 != t185) t181 t184 t190 t193) = some r := by rw [if_pos rfl] at H; exact H
         clear H
         have H := H1
         clear H1
         have H' := Aside0.mk H
         clear H
         have hnb43 := NB195_186.out
         have hnc43 := NB186_195.out
         have hcz44_0 : w39.cell? ⟨gb195, 0, none⟩ = some (.slice Ao18 t190.length co18) := (blk_cell BK195.out 0).trans rfl
         have hcz44_1 : w39.cell? ⟨gb195, 1, none⟩ = some (.int .i64 t193) := (blk_cell BK195.out 1).trans rfl
         have hfz44_0 := blk_frozen BK195.out 0
         have hfz44_1 := blk_frozen BK195.out 1
         have hcz45_0 : w39.cell? ⟨gb186, 0, none⟩ = some (.slice Ao12 t181.length co12) := (blk_cell BK186.out 0).trans rfl
         have hcz45_1 : w39.cell? ⟨gb186, 1, none⟩ = some (.int .i64 t184) := (blk_cell BK186.out 1).trans rfl
         have hfz45_0 := blk_frozen BK186.out 0
         have hfz45_1 := blk_frozen BK186.out 1
         go_wp2_with (first | (go_at_call 20; (with_reducible refine (laws_eqCups.calls kj6 _ _ t190 t193 _ _ t181 t184 true _ ?side1 ?side2 ?side3 ?side4 A41.out).mono ?_); (case side1 => repeat (first | exact (Kd.R_reads' HO_196000.out).2.2 | (with_reducible refine Kd.C_alloc ?_ _) | (with_reducible refine Kd.C_drewN ?_ _) | (with_reducible refine Kd.C_drew ?_))); (case side2 => exact (Kd.R_reads' HO_196000.out).2.1); (case side3 => repeat (first | exact (Kd.R_reads' HO_187000.out).2.2 | (with_reducible refine Kd.C_alloc ?_ _) | (with_reducible refine Kd.C_drewN ?_ _) | (with_reducible refine Kd.C_drew ?_))); (case side4 => exact (Kd.R_reads' HO_187000.out).2.1); rintro e w46 ⟨rfl, hb⟩; have n0_ := Aside0.mk (Kd.R_below (by (with_reducible repeat (first | apply Kd.R_alloc | apply Kd.R_drewN | apply Kd.R_drew)); exact HO_5.out) hb); have n1_ := Aside0.mk (Kd.R_below (by (with_reducible repeat (first | apply Kd.R_alloc | apply Kd.R_drewN | apply Kd.R_drew)); exact HO_187000.out) hb); have n2_ := Aside0.mk (Kd.R_below (by (with_reducible repeat (first | apply Kd.R_alloc | apply Kd.R_drewN | apply Kd.R_drew)); exact HO_196000.out) hb); have n3_ := Aside0.mk (Kd.R_below (by (with_reducible repeat (first | apply Kd.R_alloc | apply Kd.R_drewN | apply Kd.R_drew)); exact HO199.out) hb); have n4_ := Aside0.mk (blk_below (g := gb186) (o := .cells #[.slice Ao12 t181.length co12, .int .i64 t184] 27 (0, 0)) (by (with_reducible repeat (first | refine blk_drewN ?_ _ | refine blk_drew ?_ | refine blk_alloc ?_ _)); exact BK186.out) hb); have n5_ := Aside0.mk (blk_below (g := gb195) (o := .cells #[.slice Ao18 t190.length co18, .int .i64 t193] 27 (0, 0)) (by (with_reducible repeat (first | refine blk_drewN ?_ _ | refine blk_drew ?_ | refine blk_alloc ?_ _)); exact BK195.out) hb); have n6_ := Aside0.mk (below_step (by repeat (first | (with_reducible first | exact HB.out | apply below_alloc | apply pw_below_drewN | apply below_drew1 | refine below_set ?_ GE186.out | refine below_set ?_ GE195.out) | exact HB.out)) hb); clear HO_5; clear HO_187000; clear HO_196000; clear HO199; clear BK186; clear BK195; clear HB; have HO_5 := n0_; have HO_187000 := n1_; have HO_196000 := n2_; have HO199 := n3_; have BK186 := n4_; have BK195 := n5_; have HB := n6_; clear n0_ n1_ n2_ n3_ n4_ n5_ n6_; (try clear hb); (try clear hb2); (try clear hk); (try clear hi)))
         go_meet
         case rel => exact ⟨_, ((t194 != t185)), (by first | rfl | (simp; done) | (simp [*]; done)), H', ⟨by have := HJ6.out; first | omega | exact Nat.le_refl _⟩, ⟨by (with_reducible repeat (first | apply Kd.R_alloc | apply Kd.R_drewN | apply Kd.R_drew)); exact Kd.R_mono HO_187000.out (fun _ hk => hk.2.1)⟩, ⟨by (with_reducible repeat (first | apply Kd.R_alloc | apply Kd.R_drewN | apply Kd.R_drew)); exact Kd.R_mono HO_196000.out (fun _ hk => hk.2.1)⟩, ⟨by (with_reducible repeat (first | refine blk_drewN ?_ _ | refine blk_drew ?_ | refine blk_alloc ?_ _)); exact BK186.out⟩, ⟨by (with_reducible repeat (first | refine blk_drewN ?_ _ | refine blk_drew ?_ | refine blk_alloc ?_ _)); exact BK195.out⟩, ⟨by repeat (first | (with_reducible first | exact HB.out | apply below_alloc | apply pw_below_drewN | apply below_drew1 | refine below_set ?_ GE186.out | refine below_set ?_ GE195.out) | exact HB.out)⟩⟩
        ·replace c42 := Bool.eq_false_iff.mpr c42
         subst c42
         have H1 : (laws_FnExactCupsOf.j1 kj6 l0 t185 true t181 t184 t190 t193) = some r := by rw [if_neg (show ¬ (false = true) by decide)] at H; exact H
         clear H
         have H := H1
         clear H1
         have H' := Aside0.mk H
         clear H
         have hnb47 := NB195_186.out
         have hnc47 := NB186_195.out
         have hcz48_0 : w39.cell? ⟨gb195, 0, none⟩ = some (.slice Ao18 t190.length co18) := (blk_cell BK195.out 0).trans rfl
         have hcz48_1 : w39.cell? ⟨gb195, 1, none⟩ = some (.int .i64 t193) := (blk_cell BK195.out 1).trans rfl
         have hfz48_0 := blk_frozen BK195.out 0
         have hfz48_1 := blk_frozen BK195.out 1
         have hcz49_0 : w39.cell? ⟨gb186, 0, none⟩ = some (.slice Ao12 t181.length co12) := (blk_cell BK186.out 0).trans rfl
         have hcz49_1 : w39.cell? ⟨gb186, 1, none⟩ = some (.int .i64 t184) := (blk_cell BK186.out 1).trans rfl
         have hfz49_0 := blk_frozen BK186.out 0
         have hfz49_1 := blk_frozen BK186.out 1
         go_wp2_with (first | (go_at_call 20; (with_reducible refine (laws_eqCups.calls kj6 _ _ t190 t193 _ _ t181 t184 false _ ?side1 ?side2 ?side3 ?side4 A41.out).mono ?_); (case side1 => repeat (first | exact (Kd.R_reads' HO_196000.out).2.2 | (with_reducible refine Kd.C_alloc ?_ _) | (with_reducible refine Kd.C_drewN ?_ _) | (with_reducible refine Kd.C_drew ?_))); (case side2 => exact (Kd.R_reads' HO_196000.out).2.1); (case side3 => repeat (first | exact (Kd.R_reads' HO_187000.out).2.2 | (with_reducible refine Kd.C_alloc ?_ _) | (with_reducible refine Kd.C_drewN ?_ _) | (with_reducible refine Kd.C_drew ?_))); (case side4 => exact (Kd.R_reads' HO_187000.out).2.1); rintro e w50 ⟨rfl, hb⟩; have n0_ := Aside0.mk (Kd.R_below (by (with_reducible repeat (first | apply Kd.R_alloc | apply Kd.R_drewN | apply Kd.R_drew)); exact HO_5.out) hb); have n1_ := Aside0.mk (Kd.R_below (by (with_reducible repeat (first | apply Kd.R_alloc | apply Kd.R_drewN | apply Kd.R_drew)); exact HO_187000.out) hb); have n2_ := Aside0.mk (Kd.R_below (by (with_reducible repeat (first | apply Kd.R_alloc | apply Kd.R_drewN | apply Kd.R_drew)); exact HO_196000.out) hb); have n3_ := Aside0.mk (Kd.R_below (by (with_reducible repeat (first | apply Kd.R_alloc | apply Kd.R_drewN | apply Kd.R_drew)); exact HO199.out) hb); have n4_ := Aside0.mk (blk_below (g := gb186) (o := .cells #[.slice Ao12 t181.length co12, .int .i64 t184] 27 (0, 0)) (by (with_reducible repeat (first | refine blk_drewN ?_ _ | refine blk_drew ?_ | refine blk_alloc ?_ _)); exact BK186.out) hb); have n5_ := Aside0.mk (blk_below (g := gb195) (o := .cells #[.slice Ao18 t190.length co18, .int .i64 t193] 27 (0, 0)) (by (with_reducible repeat (first | refine blk_drewN ?_ _ | refine blk_drew ?_ | refine blk_alloc ?_ _)); exact BK195.out) hb); have n6_ := Aside0.mk (below_step (by repeat (first | (with_reducible first | exact HB.out | apply below_alloc | apply pw_below_drewN | apply below_drew1 | refine below_set ?_ GE186.out | refine below_set ?_ GE195.out) | exact HB.out)) hb); clear HO_5; clear HO_187000; clear HO_196000; clear HO199; clear BK186; clear BK195; clear HB; have HO_5 := n0_; have HO_187000 := n1_; have HO_196000 := n2_; have HO199 := n3_; have BK186 := n4_; have BK195 := n5_; have HB := n6_; clear n0_ n1_ n2_ n3_ n4_ n5_ n6_; (try clear hb); (try clear hb2); (try clear hk); (try clear hi)))
         go_meet
         case rel => exact ⟨_, (true), (by first | rfl | (simp; done) | (simp [*]; done)), H', ⟨by have := HJ6.out; first | omega | exact Nat.le_refl _⟩, ⟨by (with_reducible repeat (first | apply Kd.R_alloc | apply Kd.R_drewN | apply Kd.R_drew)); exact Kd.R_mono HO_187000.out (fun _ hk => hk.2.1)⟩, ⟨by (with_reducible repeat (first | apply Kd.R_alloc | apply Kd.R_drewN | apply Kd.R_drew)); exact Kd.R_mono HO_196000.out (fun _ hk => hk.2.1)⟩, ⟨by (with_reducible repeat (first | refine blk_drewN ?_ _ | refine blk_drew ?_ | refine blk_alloc ?_ _)); exact BK186.out⟩, ⟨by (with_reducible repeat (first | refine blk_drewN ?_ _ | refine blk_drew ?_ | refine blk_alloc ?_ _)); exact BK195.out⟩, ⟨by repeat (first | (with_reducible first | exact HB.out | apply below_alloc | apply pw_below_drewN | apply below_drew1 | refine below_set ?_ GE186.out | refine below_set ?_ GE195.out) | exact HB.out)⟩⟩
      case rest =>
       clear HC36
       try clear c1
       try clear c2
       try clear c2b0
       try clear c2b1
       try clear p2
       try clear c3
       try clear c4
       try clear c19
       try clear c20
       try clear c21
       try clear c22
       try clear c23
       try clear c24
       try clear c25
       try clear c27
       try clear c31
       try clear c34
       try clear c40
       try clear c40b0
       try clear c42
       try clear c43
       try clear c47
       try clear hcz13_0
       try clear hcz13_1
       try clear hcz20_0
       try clear hcz20_1
       try clear hcz24_0
       try clear hcz24_1
       try clear hcz25_0
       try clear hcz25_1
       try clear hcz28_0
       try clear hcz28_1
       try clear hcz29_0
       try clear hcz29_1
       try clear hcz44_0
       try clear hcz44_1
       try clear hcz45_0
       try clear hcz45_1
       try clear hcz48_0
       try clear hcz48_1
       try clear hcz49_0
       try clear hcz49_1
       try clear hfz13_0
       try clear hfz13_1
       try clear hfz20_0
       try clear hfz20_1
       try clear hfz24_0
       try clear hfz24_1
       try clear hfz25_0
       try clear hfz25_1
       try clear hfz28_0
       try clear hfz28_1
       try clear hfz29_0
       try clear hfz29_1
       try clear hfz44_0
       try clear hfz44_1
       try clear hfz45_0
       try clear hfz45_1
       try clear hfz48_0
       try clear hfz48_1
       try clear hfz49_0
       try clear hfz49_1
       try clear p2
       obtain ⟨kq, x58_35, rfl, HA, HJ35, HO_187000, HO_196000, BK186, BK195, HB⟩ := hcut
       cases kq with
       | zero => exact absurd HA.out (by simp [laws_FnExactCupsOf.j1])
       | succ kj35 =>
        have H := HA.out
        clear HA
        simp only [laws_FnExactCupsOf.j1] at H
        by_cases c51 : x58_35 = true
        ·subst c51
         have H1 : (some false) = some r := by rw [if_pos rfl] at H; exact H
         clear H
         have H := H1
         clear H1
         obtain rfl := Option.some.inj H
         go_wp2
         go_ret
         exact ⟨by first | rfl | (simp [errW_none, errW_some] <;> rfl) | (simp [*, errW_none, errW_some] <;> rfl), by repeat (first | (with_reducible first | exact HB.out | apply below_alloc | apply pw_below_drewN | apply below_drew1 | refine below_set ?_ GE186.out | refine below_set ?_ GE195.out) | exact HB.out)⟩
        ·replace c51 := Bool.eq_false_iff.mpr c51
         subst c51
         have H1 : ((laws_markCups.f kj35 t190 t193 1).bind fun bt204 => ((laws_heldCups.f kj35 bt204.2 t193 1).bind fun t206 => (if t206 < 0 then (some false) else (if t206 = bt204.1 then ((laws_toIntS.f kj35 l0).bind fun t207 => ((impl_CupsOf.f kj35 t207).bind fun bt210 => ((laws_eqCups.f kj35 bt210.1 bt210.2.1 t181 t184).bind fun t216 => (if t216 = true then (laws_FnExactCupsOf.j2 kj35 bt204.1 (bt210.2.2 != t185) bt204.2 t193) else (laws_FnExactCupsOf.j2 kj35 bt204.1 true bt204.2 t193))))) else (some false))))) = some r := by rw [if_neg (show ¬ (false = true) by decide)] at H; exact H
         clear H
         have H := H1
         clear H1
         replace H := Option.bind_eq_some_iff.mp H
         obtain ⟨⟨t204, t205⟩, A520, H⟩ := H
         replace H : ((laws_heldCups.f kj35 t205 t193 1).bind fun t206 => (if t206 < 0 then (some false) else (if t206 = t204 then ((laws_toIntS.f kj35 l0).bind fun t207 => ((impl_CupsOf.f kj35 t207).bind fun bt210 => ((laws_eqCups.f kj35 bt210.1 bt210.2.1 t181 t184).bind fun t216 => (if t216 = true then (laws_FnExactCupsOf.j2 kj35 t204 (bt210.2.2 != t185) t205 t193) else (laws_FnExactCupsOf.j2 kj35 t204 true t205 t193))))) else (some false)))) = some r := H
         have A52 := Aside0.mk A520
         clear A520
         replace H := Option.bind_eq_some_iff.mp H
         obtain ⟨t206, A530, H⟩ := H
         replace H : (if t206 < 0 then (some false) else (if t206 = t204 then ((laws_toIntS.f kj35 l0).bind fun t207 => ((impl_CupsOf.f kj35 t207).bind fun bt210 => ((laws_eqCups.f kj35 bt210.1 bt210.2.1 t181 t184).bind fun t216 => (if t216 = true then (laws_FnExactCupsOf.j2 kj35 t204 (bt210.2.2 != t185) t205 t193) else (laws_FnExactCupsOf.j2 kj35 t204 true t205 t193))))) else (some false))) = some r := H
         have A53 := Aside0.mk A530
         clear A530
         by_cases c54 : t206 < 0
         ·rw [if_pos c54] at H
          have c54b0 : decide (t206 < 0) = true := decide_eq_true c54
          clear c54
          obtain rfl := Option.some.inj H
          have hnb55 := NB195_186.out
          have hnc55 := NB186_195.out
          have hcz56_0 : wc.cell? ⟨gb195, 0, none⟩ = some (.slice Ao18 t190.length co18) := (blk_cell BK195.out 0).trans rfl
          have hcz56_1 : wc.cell? ⟨gb195, 1, none⟩ = some (.int .i64 t193) := (blk_cell BK195.out 1).trans rfl
          have hfz56_0 := blk_frozen BK195.out 0
          have hfz56_1 := blk_frozen BK195.out 1
          go_wp2_with (first | ((with_reducible refine gate_callee (f := 26) rfl ?_); refine goesL_ (some 61) rfl rfl Try.func26 (by kernel_rfl) rfl #[.agg #[.slice Ao18 t190.length co18, .int .i64 t193], .int .i64 1] rfl (by (try simp only [List.map_toArray, List.map_cons, List.map_nil]); first | done | rfl | (simp only [List.length_drop, List.length_take]; rfl)) ?_; (with_reducible refine (laws_markCups.calls kj35 (fun k_ => some k_ = (.slice Ao18 t190.length co18 : Value).ownBlock) (.slice Ao18 t190.length co18) t190 t193 1 t204 t205 w _ ?side1 ?side2 A52.out).mono ?_); (case side1 => repeat (first | (with_reducible first | exact HB.out | apply below_alloc | apply pw_below_drewN | apply below_drew1 | refine below_set ?_ GE186.out | refine below_set ?_ GE195.out) | exact HB.out)); (case side2 => exact Kd.R_tight rfl HO_196000.out); rintro e w57 ⟨rfl, hy0, hb, hkp⟩; refine ⟨_, rfl, ?_⟩; have n0_ := Aside0.mk (Kd.R_mono (ok' := fun k_ => some k_ ≠ (.slice Ao18 t190.length co18 : Value).ownBlock) (Kd.R_keptB (HO_187000.out) hkp (fun k_ hk_ hs_ => (hk_) hs_)) (fun k_ hk_ => hk_.1)); have n1_ := Aside0.mk (Kd.R_reok rfl hy0 (fun k_ e_ => HO_196000.out.1 k_ e_)); have n2_ := Aside0.mk (blk_kept (by (with_reducible repeat (first | refine blk_drewN ?_ _ | refine blk_drew ?_ | refine blk_alloc ?_ _)); exact BK186.out) hkp (fun hs_ => (fun e_ => (Kd.R_ne HO_196000.out BK186.out (by decide)) e_) hs_)); have n3_ := Aside0.mk (blk_kept (by (with_reducible repeat (first | refine blk_drewN ?_ _ | refine blk_drew ?_ | refine blk_alloc ?_ _)); exact BK195.out) hkp (fun hs_ => (fun e_ => (Kd.R_ne HO_196000.out BK195.out (by decide)) e_) hs_)); have n4_ := Aside0.mk (hb); clear HO_187000; clear HO_196000; clear BK186; clear BK195; clear HB; have HO_187000 := n0_; have HO_196000 := n1_; have BK186 := n2_; have BK195 := n3_; have HB := n4_; clear n0_ n1_ n2_ n3_ n4_; (try clear hb); (try clear hkp); (try clear hy0); have hcz58_0 : w57.cell? ⟨gb195, 0, none⟩ = some (.slice Ao18 t190.length co18) := (blk_cell BK195.out 0).trans rfl; have hcz58_1 : w57.cell? ⟨gb195, 1, none⟩ = some (.int .i64 t193) := (blk_cell BK195.out 1).trans rfl; have hfz58_0 := blk_frozen BK195.out 0; have hfz58_1 := blk_frozen BK195.out 1) | ((with_reducible refine gate_callee (f := 27) rfl ?_); refine goesL_ (some 64) rfl rfl Try.func27 (by kernel_rfl) rfl #[.agg #[.slice Ao18 t205.length co18, .int .i64 t193], .int .i64 1] rfl (by (try simp only [List.map_toArray, List.map_cons, List.map_nil]); first | done | (rw [show t205.length = t190.length from (Kd.R_reads' HO_196000.out).1.symm] <;> rfl) | rfl | (simp only [List.length_drop, List.length_take]; rfl)) ?_; (with_reducible refine (laws_heldCups.calls kj35 _ _ t205 t193 1 t206 _ ?side1 ?side2 A53.out).mono ?_); (case side1 => repeat (first | exact (Kd.R_reads' HO_196000.out).2.2 | (with_reducible refine Kd.C_alloc ?_ _) | (with_reducible refine Kd.C_drewN ?_ _) | (with_reducible refine Kd.C_drew ?_))); (case side2 => rw [show t205.length = t190.length from (Kd.R_reads' HO_196000.out).1.symm]; exact (Kd.R_reads' HO_196000.out).2.1); rintro e w59 ⟨rfl, hb⟩; refine ⟨_, rfl, ?_⟩; have n0_ := Aside0.mk (Kd.R_below (by (with_reducible repeat (first | apply Kd.R_alloc | apply Kd.R_drewN | apply Kd.R_drew)); exact HO_187000.out) hb); have n1_ := Aside0.mk (Kd.R_below (by (with_reducible repeat (first | apply Kd.R_alloc | apply Kd.R_drewN | apply Kd.R_drew)); exact HO_196000.out) hb); have n2_ := Aside0.mk (blk_below (g := gb186) (o := .cells #[.slice Ao12 t181.length co12, .int .i64 t184] 27 (0, 0)) (by (with_reducible repeat (first | refine blk_drewN ?_ _ | refine blk_drew ?_ | refine blk_alloc ?_ _)); exact BK186.out) hb); have n3_ := Aside0.mk (blk_below (g := gb195) (o := .cells #[.slice Ao18 t190.length co18, .int .i64 t193] 27 (0, 0)) (by (with_reducible repeat (first | refine blk_drewN ?_ _ | refine blk_drew ?_ | refine blk_alloc ?_ _)); exact BK195.out) hb); have n4_ := Aside0.mk (below_step (by repeat (first | (with_reducible first | exact HB.out | apply below_alloc | apply pw_below_drewN | apply below_drew1 | refine below_set ?_ GE186.out | refine below_set ?_ GE195.out) | exact HB.out)) hb); clear HO_187000; clear HO_196000; clear BK186; clear BK195; clear HB; have HO_187000 := n0_; have HO_196000 := n1_; have BK186 := n2_; have BK195 := n3_; have HB := n4_; clear n0_ n1_ n2_ n3_ n4_; (try clear hb); (try clear hb2); (try clear hk); (try clear hi)))
          go_ret
          exact ⟨by first | rfl | (simp [errW_none, errW_some] <;> rfl) | (simp [*, errW_none, errW_some] <;> rfl), by repeat (first | (with_reducible first | exact HB.out | apply below_alloc | apply pw_below_drewN | apply below_drew1 | refine below_set ?_ GE186.out | refine below_set ?_ GE195.out) | exact HB.out)⟩
         ·rw [if_neg c54] at H
          have c54b0 : decide (t206 < 0) = false := decide_eq_false c54
          clear c54
          by_cases c60 : t206 = t204
          ·rw [if_pos c60] at H
           have c60b0 : (t206 == t204) = true := beq_iff_eq.mpr c60
           have c60b1 : (t206 != t204) = false := bne_eq_false_iff_eq.mpr c60
           clear c60
           replace H := Option.bind_eq_some_iff.mp H
           obtain ⟨t207, A610, H⟩ := H
           replace H : ((impl_CupsOf.f kj35 t207).bind fun bt210 => ((laws_eqCups.f kj35 bt210.1 bt210.2.1 t181 t184).bind fun t216 => (if t216 = true then (laws_FnExactCupsOf.j2 kj35 t204 (bt210.2.2 != t185) t205 t193) else (laws_FnExactCupsOf.j2 kj35 t204 true t205 t193)))) = some r := H
           have A61 := Aside0.mk A610
           clear A610
           replace H := Option.bind_eq_some_iff.mp H
           obtain ⟨⟨t210, t213, t214⟩, A620, H⟩ := H
           replace H : ((laws_eqCups.f kj35 t210 t213 t181 t184).bind fun t216 => (if t216 = true then (laws_FnExactCupsOf.j2 kj35 t204 (t214 != t185) t205 t193) else (laws_FnExactCupsOf.j2 kj35 t204 true t205 t193))) = some r := H
           have A62 := Aside0.mk A620
           clear A620
           have HC63 := Aside0.mk H
           clear H
           have hnb64 := NB195_186.out
           have hnc64 := NB186_195.out
           have hcz65_0 : wc.cell? ⟨gb195, 0, none⟩ = some (.slice Ao18 t190.length co18) := (blk_cell BK195.out 0).trans rfl
           have hcz65_1 : wc.cell? ⟨gb195, 1, none⟩ = some (.int .i64 t193) := (blk_cell BK195.out 1).trans rfl
           have hfz65_0 := blk_frozen BK195.out 0
           have hfz65_1 := blk_frozen BK195.out 1
           go_upto_region 23 with (first | ((with_reducible refine gate_callee (f := 26) rfl ?_); refine goesL_ (some 61) rfl rfl Try.func26 (by kernel_rfl) rfl #[.agg #[.slice Ao18 t190.length co18, .int .i64 t193], .int .i64 1] rfl (by (try simp only [List.map_toArray, List.map_cons, List.map_nil]); first | done | rfl | (simp only [List.length_drop, List.length_take]; rfl)) ?_; (with_reducible refine (laws_markCups.calls kj35 (fun k_ => some k_ = (.slice Ao18 t190.length co18 : Value).ownBlock) (.slice Ao18 t190.length co18) t190 t193 1 t204 t205 w _ ?side1 ?side2 A52.out).mono ?_); (case side1 => repeat (first | (with_reducible first | exact HB.out | apply below_alloc | apply pw_below_drewN | apply below_drew1 | refine below_set ?_ GE186.out | refine below_set ?_ GE195.out) | exact HB.out)); (case side2 => exact Kd.R_tight rfl HO_196000.out); rintro e w66 ⟨rfl, hy0, hb, hkp⟩; refine ⟨_, rfl, ?_⟩; have n0_ := Aside0.mk (Kd.R_mono (ok' := fun k_ => some k_ ≠ (.slice Ao18 t190.length co18 : Value).ownBlock) (Kd.R_keptB (HO_187000.out) hkp (fun k_ hk_ hs_ => (hk_) hs_)) (fun k_ hk_ => hk_.1)); have n1_ := Aside0.mk (Kd.R_reok rfl hy0 (fun k_ e_ => HO_196000.out.1 k_ e_)); have n2_ := Aside0.mk (blk_kept (by (with_reducible repeat (first | refine blk_drewN ?_ _ | refine blk_drew ?_ | refine blk_alloc ?_ _)); exact BK186.out) hkp (fun hs_ => (fun e_ => (Kd.R_ne HO_196000.out BK186.out (by decide)) e_) hs_)); have n3_ := Aside0.mk (blk_kept (by (with_reducible repeat (first | refine blk_drewN ?_ _ | refine blk_drew ?_ | refine blk_alloc ?_ _)); exact BK195.out) hkp (fun hs_ => (fun e_ => (Kd.R_ne HO_196000.out BK195.out (by decide)) e_) hs_)); have n4_ := Aside0.mk (hb); clear HO_187000; clear HO_196000; clear BK186; clear BK195; clear HB; have HO_187000 := n0_; have HO_196000 := n1_; have BK186 := n2_; have BK195 := n3_; have HB := n4_; clear n0_ n1_ n2_ n3_ n4_; (try clear hb); (try clear hkp); (try clear hy0); have hcz67_0 : w66.cell? ⟨gb195, 0, none⟩ = some (.slice Ao18 t190.length co18) := (blk_cell BK195.out 0).trans rfl; have hcz67_1 : w66.cell? ⟨gb195, 1, none⟩ = some (.int .i64 t193) := (blk_cell BK195.out 1).trans rfl; have hfz67_0 := blk_frozen BK195.out 0; have hfz67_1 := blk_frozen BK195.out 1) | ((with_reducible refine gate_callee (f := 27) rfl ?_); refine goesL_ (some 64) rfl rfl Try.func27 (by kernel_rfl) rfl #[.agg #[.slice Ao18 t205.length co18, .int .i64 t193], .int .i64 1] rfl (by (try simp only [List.map_toArray, List.map_cons, List.map_nil]); first | done | (rw [show t205.length = t190.length from (Kd.R_reads' HO_196000.out).1.symm] <;> rfl) | rfl | (simp only [List.length_drop, List.length_take]; rfl)) ?_; (with_reducible refine (laws_heldCups.calls kj35 _ _ t205 t193 1 t206 _ ?side1 ?side2 A53.out).mono ?_); (case side1 => repeat (first | exact (Kd.R_reads' HO_196000.out).2.2 | (with_reducible refine Kd.C_alloc ?_ _) | (with_reducible refine Kd.C_drewN ?_ _) | (with_reducible refine Kd.C_drew ?_))); (case side2 => rw [show t205.length = t190.length from (Kd.R_reads' HO_196000.out).1.symm]; exact (Kd.R_reads' HO_196000.out).2.1); rintro e w68 ⟨rfl, hb⟩; refine ⟨_, rfl, ?_⟩; have n0_ := Aside0.mk (Kd.R_below (by (with_reducible repeat (first | apply Kd.R_alloc | apply Kd.R_drewN | apply Kd.R_drew)); exact HO_187000.out) hb); have n1_ := Aside0.mk (Kd.R_below (by (with_reducible repeat (first | apply Kd.R_alloc | apply Kd.R_drewN | apply Kd.R_drew)); exact HO_196000.out) hb); have n2_ := Aside0.mk (blk_below (g := gb186) (o := .cells #[.slice Ao12 t181.length co12, .int .i64 t184] 27 (0, 0)) (by (with_reducible repeat (first | refine blk_drewN ?_ _ | refine blk_drew ?_ | refine blk_alloc ?_ _)); exact BK186.out) hb); have n3_ := Aside0.mk (blk_below (g := gb195) (o := .cells #[.slice Ao18 t190.length co18, .int .i64 t193] 27 (0, 0)) (by (with_reducible repeat (first | refine blk_drewN ?_ _ | refine blk_drew ?_ | refine blk_alloc ?_ _)); exact BK195.out) hb); have n4_ := Aside0.mk (below_step (by repeat (first | (with_reducible first | exact HB.out | apply below_alloc | apply pw_below_drewN | apply below_drew1 | refine below_set ?_ GE186.out | refine below_set ?_ GE195.out) | exact HB.out)) hb); clear HO_187000; clear HO_196000; clear BK186; clear BK195; clear HB; have HO_187000 := n0_; have HO_196000 := n1_; have BK186 := n2_; have BK195 := n3_; have HB := n4_; clear n0_ n1_ n2_ n3_ n4_; (try clear hb); (try clear hb2); (try clear hk); (try clear hi)) | ((with_reducible refine gate_callee (f := 22) rfl ?_); refine goesL_ (some 72) rfl rfl Try.func22 (by kernel_rfl) rfl #[.slice A0 l0.length c0] rfl (by (try simp only [List.map_toArray, List.map_cons, List.map_nil]); first | done | rfl | (simp only [List.length_drop, List.length_take]; rfl)) ?_; (with_reducible refine (laws_toIntS.calls kj35 _ _ l0 t207 _ ?side1 ?side2 A61.out).mono ?_); (case side1 => repeat (first | exact (Kd.C_below HR0.out HB.out) | (with_reducible refine Kd.C_alloc ?_ _) | (with_reducible refine Kd.C_drewN ?_ _) | (with_reducible refine Kd.C_drew ?_))); (case side2 => exact HC0.out); rintro e w69 ⟨v208, rfl, ho0, hb⟩; refine ⟨_, rfl, ?_⟩; have n0_ := Aside0.mk (Kd.R_elder' (by (with_reducible repeat (first | apply Kd.R_alloc | apply Kd.R_drewN | apply Kd.R_drew)); exact HO_187000.out) (Kd.R_base ho0) hb); have n1_ := Aside0.mk (Kd.R_elder' (by (with_reducible repeat (first | apply Kd.R_alloc | apply Kd.R_drewN | apply Kd.R_drew)); exact HO_196000.out) (Kd.R_base ho0) hb); have n2_ := Aside0.mk (Kd.R_lower (Kd.R_new' (Kd.R_new' ho0 (Kd.R_lt (by (with_reducible repeat (first | apply Kd.R_alloc | apply Kd.R_drewN | apply Kd.R_drew)); exact HO_187000.out))) (Kd.R_lt (by (with_reducible repeat (first | apply Kd.R_alloc | apply Kd.R_drewN | apply Kd.R_drew)); exact HO_196000.out))) (below_size (by repeat (first | (with_reducible first | exact HB.out | apply below_alloc | apply pw_below_drewN | apply below_drew1 | refine below_set ?_ GE186.out | refine below_set ?_ GE195.out) | exact HB.out)))); have n3_ := Aside0.mk (blk_below (g := gb186) (o := .cells #[.slice Ao12 t181.length co12, .int .i64 t184] 27 (0, 0)) (by (with_reducible repeat (first | refine blk_drewN ?_ _ | refine blk_drew ?_ | refine blk_alloc ?_ _)); exact BK186.out) hb); have n4_ := Aside0.mk (blk_below (g := gb195) (o := .cells #[.slice Ao18 t190.length co18, .int .i64 t193] 27 (0, 0)) (by (with_reducible repeat (first | refine blk_drewN ?_ _ | refine blk_drew ?_ | refine blk_alloc ?_ _)); exact BK195.out) hb); have n5_ := Aside0.mk (below_step (by repeat (first | (with_reducible first | exact HB.out | apply below_alloc | apply pw_below_drewN | apply below_drew1 | refine below_set ?_ GE186.out | refine below_set ?_ GE195.out) | exact HB.out)) hb); clear HO_187000; clear HO_196000; clear BK186; clear BK195; clear HB; have HO_187000 := n0_; have HO_196000 := n1_; have HO209 := n2_; have BK186 := n3_; have BK195 := n4_; have HB := n5_; clear n0_ n1_ n2_ n3_ n4_ n5_; (try clear hb); (try clear hb2); (try clear hk); (try clear hi); (try clear ho0); obtain ⟨Ao70, co70, eo70⟩ := Kd.R_slice HO209.out; subst eo70) | ((with_reducible refine gate_callee (f := 23) rfl ?_); refine goesL_ (some 73) rfl rfl Try.func23 (by kernel_rfl) rfl #[.slice Ao70 t207.length co70] rfl (by (try simp only [List.map_toArray, List.map_cons, List.map_nil]); first | done | rfl | (simp only [List.length_drop, List.length_take]; rfl)) ?_; (with_reducible refine (impl_CupsOf.calls kj35 _ _ t207 t210 t213 t214 _ ?side1 ?side2 A62.out).mono ?_); (case side1 => repeat (first | exact (Kd.R_reads' HO209.out).2.2 | (with_reducible refine Kd.C_alloc ?_ _) | (with_reducible refine Kd.C_drewN ?_ _) | (with_reducible refine Kd.C_drew ?_))); (case side2 => exact (Kd.R_reads' HO209.out).2.1); rintro e w71 ⟨v211, rfl, ho0, hb⟩; refine ⟨_, rfl, ?_⟩; have n0_ := Aside0.mk (Kd.R_elder' (by (with_reducible repeat (first | apply Kd.R_alloc | apply Kd.R_drewN | apply Kd.R_drew)); exact HO_187000.out) (Kd.R_base ho0) hb); have n1_ := Aside0.mk (Kd.R_elder' (by (with_reducible repeat (first | apply Kd.R_alloc | apply Kd.R_drewN | apply Kd.R_drew)); exact HO_196000.out) (Kd.R_base ho0) hb); have n2_ := Aside0.mk (Kd.R_elder' (by (with_reducible repeat (first | apply Kd.R_alloc | apply Kd.R_drewN | apply Kd.R_drew)); exact HO209.out) (Kd.R_base ho0) hb); have n3_ := Aside0.mk (Kd.R_lower (Kd.R_new' (Kd.R_new' (Kd.R_new' ho0 (Kd.R_lt (by (with_reducible repeat (first | apply Kd.R_alloc | apply Kd.R_drewN | apply Kd.R_drew)); exact HO_187000.out))) (Kd.R_lt (by (with_reducible repeat (first | apply Kd.R_alloc | apply Kd.R_drewN | apply Kd.R_drew)); exact HO_196000.out))) (Kd.R_lt (by (with_reducible repeat (first | apply Kd.R_alloc | apply Kd.R_drewN | apply Kd.R_drew)); exact HO209.out))) (below_size (by repeat (first | (with_reducible first | exact HB.out | apply below_alloc | apply pw_below_drewN | apply below_drew1 | refine below_set ?_ GE186.out | refine below_set ?_ GE195.out) | exact HB.out)))); have n4_ := Aside0.mk (blk_below (g := gb186) (o := .cells #[.slice Ao12 t181.length co12, .int .i64 t184] 27 (0, 0)) (by (with_reducible repeat (first | refine blk_drewN ?_ _ | refine blk_drew ?_ | refine blk_alloc ?_ _)); exact BK186.out) hb); have n5_ := Aside0.mk (blk_below (g := gb195) (o := .cells #[.slice Ao18 t190.length co18, .int .i64 t193] 27 (0, 0)) (by (with_reducible repeat (first | refine blk_drewN ?_ _ | refine blk_drew ?_ | refine blk_alloc ?_ _)); exact BK195.out) hb); have n6_ := Aside0.mk (below_step (by repeat (first | (with_reducible first | exact HB.out | apply below_alloc | apply pw_below_drewN | apply below_drew1 | refine below_set ?_ GE186.out | refine below_set ?_ GE195.out) | exact HB.out)) hb); clear HO_187000; clear HO_196000; clear HO209; clear BK186; clear BK195; clear HB; have HO_187000 := n0_; have HO_196000 := n1_; have HO209 := n2_; have HO212 := n3_; have BK186 := n4_; have BK195 := n5_; have HB := n6_; clear n0_ n1_ n2_ n3_ n4_ n5_ n6_; (try clear hb); (try clear hb2); (try clear hk); (try clear hi); (try clear ho0)) | ((with_reducible refine gate_dst (N := 11) rfl ?_); refine box_event ?hg (N := 11) ?hd (cs := #[.slice none 0 0, .int .i64 0]) (t := 27) ?hr ?_; (case hd => rfl); (case hg => rfl); (case hr => first | (go_simp; done) | (go_simp; rfl)); intro gb215 hg w72 hbox hb; have n0_ := Aside0.mk (Kd.R_below (by (with_reducible repeat (first | apply Kd.R_alloc | apply Kd.R_drewN | apply Kd.R_drew)); exact HO_187000.out) hb); have n1_ := Aside0.mk (Kd.R_below (by (with_reducible repeat (first | apply Kd.R_alloc | apply Kd.R_drewN | apply Kd.R_drew)); exact HO_196000.out) hb); have n2_ := Aside0.mk (Kd.R_below (by (with_reducible repeat (first | apply Kd.R_alloc | apply Kd.R_drewN | apply Kd.R_drew)); exact HO209.out) hb); have n3_ := Aside0.mk (Kd.R_below (by (with_reducible repeat (first | apply Kd.R_alloc | apply Kd.R_drewN | apply Kd.R_drew)); exact HO212.out) hb); have n4_ := Aside0.mk (blk_below (g := gb186) (o := .cells #[.slice Ao12 t181.length co12, .int .i64 t184] 27 (0, 0)) (by (with_reducible repeat (first | refine blk_drewN ?_ _ | refine blk_drew ?_ | refine blk_alloc ?_ _)); exact BK186.out) hb); have n5_ := Aside0.mk (blk_below (g := gb195) (o := .cells #[.slice Ao18 t190.length co18, .int .i64 t193] 27 (0, 0)) (by (with_reducible repeat (first | refine blk_drewN ?_ _ | refine blk_drew ?_ | refine blk_alloc ?_ _)); exact BK195.out) hb); have n6_ := Aside0.mk (below_step (by repeat (first | (with_reducible first | exact HB.out | apply below_alloc | apply pw_below_drewN | apply below_drew1 | refine below_set ?_ GE186.out | refine below_set ?_ GE195.out) | exact HB.out)) hb); have n7_ := Aside0.mk (hbox); have n8_ := Aside0.mk ((by rw [hg]; exact (below_size (by repeat (first | (with_reducible first | exact HB.out | apply below_alloc | apply pw_below_drewN | apply below_drew1 | refine below_set ?_ GE186.out | refine below_set ?_ GE195.out) | exact HB.out))) : w.heap.size ≤ gb215)); have n9_ := Aside0.mk ((by rw [hg]; exact (below_size (by repeat (first | (with_reducible first | exact HB.out | apply below_alloc | apply pw_below_drewN | apply below_drew1 | refine below_set ?_ GE186.out | refine below_set ?_ GE195.out) | exact HB.out))) : w.heap.size ≤ gb215)); have n10_ := Aside0.mk ((by rw [hg]; exact Nat.ne_of_lt (blk_lt (g := gb186) (o := .cells #[.slice Ao12 t181.length co12, .int .i64 t184] 27 (0, 0)) (by (with_reducible repeat (first | refine blk_drewN ?_ _ | refine blk_drew ?_ | refine blk_alloc ?_ _)); exact BK186.out)) : gb186 ≠ gb215)); have n11_ := Aside0.mk ((by rw [hg]; exact Nat.ne_of_gt (blk_lt (g := gb186) (o := .cells #[.slice Ao12 t181.length co12, .int .i64 t184] 27 (0, 0)) (by (with_reducible repeat (first | refine blk_drewN ?_ _ | refine blk_drew ?_ | refine blk_alloc ?_ _)); exact BK186.out)) : gb215 ≠ gb186)); have n12_ := Aside0.mk ((by rw [hg]; exact Nat.ne_of_lt (blk_lt (g := gb195) (o := .cells #[.slice Ao18 t190.length co18, .int .i64 t193] 27 (0, 0)) (by (with_reducible repeat (first | refine blk_drewN ?_ _ | refine blk_drew ?_ | refine blk_alloc ?_ _)); exact BK195.out)) : gb195 ≠ gb215)); have n13_ := Aside0.mk ((by rw [hg]; exact Nat.ne_of_gt (blk_lt (g := gb195) (o := .cells #[.slice Ao18 t190.length co18, .int .i64 t193] 27 (0, 0)) (by (with_reducible repeat (first | refine blk_drewN ?_ _ | refine blk_drew ?_ | refine blk_alloc ?_ _)); exact BK195.out)) : gb215 ≠ gb195)); clear HO_187000; clear HO_196000; clear HO209; clear HO212; clear BK186; clear BK195; clear HB; have HO_187000 := n0_; have HO_196000 := n1_; have HO209 := n2_; have HO212 := n3_; have BK186 := n4_; have BK195 := n5_; have HB := n6_; have BK215 := n7_; have GW215 := n8_; have GE215 := n9_; have NB186_215 := n10_; have NB215_186 := n11_; have NB195_215 := n12_; have NB215_195 := n13_; clear n0_ n1_ n2_ n3_ n4_ n5_ n6_ n7_ n8_ n9_ n10_ n11_ n12_ n13_; clear hb hbox hg; obtain ⟨Ao73, co73, eo73⟩ := Kd.R_slice HO212.out; subst eo73; have hnb74 := NB215_186.out; have hnc74 := NB186_215.out; have hnb75 := NB215_195.out; have hnc75 := NB195_215.out; have hcz76_0 : w72.cell? ⟨gb215, 0, none⟩ = some (.slice none 0 0) := (blk_cell BK215.out 0).trans rfl; have hcz76_1 : w72.cell? ⟨gb215, 1, none⟩ = some (.int .i64 0) := (blk_cell BK215.out 1).trans rfl; have hfz76_0 := blk_frozen BK215.out 0; have hfz76_1 := blk_frozen BK215.out 1))
           (try simp only [Act.put, List.setIfInBounds_toArray, List.set_cons_zero, List.set_cons_succ])
           go_cut [84] (fun v84 wc => ∃ (kq : Nat) (x84_62 : Bool), v84 = .bool x84_62 ∧ Aside0 (laws_FnExactCupsOf.j2 kq t204 x84_62 t205 t193 = some r) ∧ Aside0 (kq ≤ kj35) ∧ Aside0 (Kd.R (Kd.int .i64) 3 wc w.heap.size (fun k_ => some k_ ≠ ((.slice Ao18 t190.length co18) : Value).ownBlock ∧ some k_ ≠ ((.slice Ao73 t210.length co73) : Value).ownBlock) (.slice Ao12 t181.length co12) t181) ∧ Aside0 (Kd.R (Kd.int .i64) 3 wc w.heap.size (fun k_ => some k_ ≠ ((.slice Ao12 t181.length co12) : Value).ownBlock ∧ some k_ ≠ ((.slice Ao73 t210.length co73) : Value).ownBlock) (.slice Ao18 t190.length co18) t205) ∧ Aside0 (Kd.R (Kd.int .i64) 3 wc w.heap.size (fun k_ => some k_ ≠ ((.slice Ao12 t181.length co12) : Value).ownBlock ∧ some k_ ≠ ((.slice Ao18 t190.length co18) : Value).ownBlock) (.slice Ao73 t210.length co73) t210) ∧ Aside0 (wc.heap[gb186]? = some (.cells #[(.slice Ao12 t181.length co12), .int .i64 t184] 27 (0, 0))) ∧ Aside0 (wc.heap[gb195]? = some (.cells #[(.slice Ao18 t190.length co18), .int .i64 t193] 27 (0, 0))) ∧ Aside0 (wc.heap[gb215]? = some (.cells #[(.slice Ao73 t210.length co73), .int .i64 t213] 27 (0, 0))) ∧ Aside0 (Below w.heap.size w wc))
           case first =>
            have H := HC63.out
            clear HC63
            replace H := Option.bind_eq_some_iff.mp H
            obtain ⟨t216, A770, H⟩ := H
            replace H : (if t216 = true then (laws_FnExactCupsOf.j2 kj35 t204 (t214 != t185) t205 t193) else (laws_FnExactCupsOf.j2 kj35 t204 true t205 t193)) = some r := H
            have A77 := Aside0.mk A770
            clear A770
            by_cases c78 : t216 = true
            ·subst c78
             have H1 : (laws_FnExactCupsOf.j2 kj35 t204 (t214 != t185) t205 t193) = some r := by rw [if_pos rfl] at H; exact H
             clear H
             have H := H1
             clear H1
             have H' := Aside0.mk H
             clear H
             have hnb79 := NB215_186.out
             have hnc79 := NB186_215.out
             have hnb80 := NB215_195.out
             have hnc80 := NB195_215.out
             have hcz81_0 : w72.cell? ⟨gb215, 0, none⟩ = some (.slice none 0 0) := (blk_cell BK215.out 0).trans rfl
             have hcz81_1 : w72.cell? ⟨gb215, 1, none⟩ = some (.int .i64 0) := (blk_cell BK215.out 1).trans rfl
             have hfz81_0 := blk_frozen BK215.out 0
             have hfz81_1 := blk_frozen BK215.out 1
             have hnb82 := NB186_195.out
             have hnc82 := NB195_186.out
             have hcz83_0 : w72.cell? ⟨gb186, 0, none⟩ = some (.slice Ao12 t181.length co12) := (blk_cell BK186.out 0).trans rfl
             have hcz83_1 : w72.cell? ⟨gb186, 1, none⟩ = some (.int .i64 t184) := (blk_cell BK186.out 1).trans rfl
             have hfz83_0 := blk_frozen BK186.out 0
             have hfz83_1 := blk_frozen BK186.out 1
             go_wp2_with (first | ((with_reducible refine gate_callee (f := 20) rfl ?_); refine goesL_ (some 78) rfl rfl Try.func20 (by kernel_rfl) rfl #[.agg #[.slice Ao73 t210.length co73, .int .i64 t213], .agg #[.slice Ao12 t181.length co12, .int .i64 t184]] rfl (by (try simp only [List.map_toArray, List.map_cons, List.map_nil]); first | done | rfl | (simp only [List.length_drop, List.length_take]; rfl)) ?_; (with_reducible refine (laws_eqCups.calls kj35 _ _ t210 t213 _ _ t181 t184 true _ ?side1 ?side2 ?side3 ?side4 A77.out).mono ?_); (case side1 => refine (Kd.R_reads' (e := 3) (base := w.heap.size) (ok := fun k_ => (((True ∧ some k_ ≠ (.slice Ao12 t181.length co12 : Value).ownBlock) ∧ some k_ ≠ (.slice Ao18 t190.length co18 : Value).ownBlock) ∧ some k_ ≠ (.slice Ao70 t207.length co70 : Value).ownBlock)) (n := t210.length) (c := co73) ?_).2.2; exact (by (with_reducible repeat (first | apply Kd.R_alloc | apply Kd.R_drewN | apply Kd.R_drew)); exact (Kd.R_mono (Kd.R_far (p := ⟨gb215, 1, none⟩) (Kd.R_far (p := ⟨gb215, 0, none⟩) (Kd.R_types HO212.out BK215.out (by decide)) (fun _ hk => hk.2) (.slice Ao73 t210.length co73)) (fun _ hk => hk.2) (.int .i64 t213)) (fun _ h_ => h_.1)))); (case side2 => exact (Kd.R_reads' HO212.out).2.1); (case side3 => refine (Kd.R_reads' (e := 3) (base := w.heap.size) (ok := fun k_ => ((some k_ ≠ (.slice Ao18 t190.length co18 : Value).ownBlock ∧ some k_ ≠ (.slice Ao70 t207.length co70 : Value).ownBlock) ∧ some k_ ≠ (.slice Ao73 t210.length co73 : Value).ownBlock)) (n := t181.length) (c := co12) ?_).2.2; exact (by (with_reducible repeat (first | apply Kd.R_alloc | apply Kd.R_drewN | apply Kd.R_drew)); exact (Kd.R_mono (Kd.R_far (p := ⟨gb215, 1, none⟩) (Kd.R_far (p := ⟨gb215, 0, none⟩) (Kd.R_types HO_187000.out BK215.out (by decide)) (fun _ hk => hk.2) (.slice Ao73 t210.length co73)) (fun _ hk => hk.2) (.int .i64 t213)) (fun _ h_ => h_.1)))); (case side4 => exact (Kd.R_reads' HO_187000.out).2.1); rintro e w84 ⟨rfl, hb⟩; refine ⟨_, rfl, ?_⟩; have n0_ := Aside0.mk (Kd.R_below (by (with_reducible repeat (first | apply Kd.R_alloc | apply Kd.R_drewN | apply Kd.R_drew)); exact (Kd.R_mono (Kd.R_far (p := ⟨gb215, 1, none⟩) (Kd.R_far (p := ⟨gb215, 0, none⟩) (Kd.R_types HO_187000.out BK215.out (by decide)) (fun _ hk => hk.2) (.slice Ao73 t210.length co73)) (fun _ hk => hk.2) (.int .i64 t213)) (fun _ h_ => h_.1))) hb); have n1_ := Aside0.mk (Kd.R_below (by (with_reducible repeat (first | apply Kd.R_alloc | apply Kd.R_drewN | apply Kd.R_drew)); exact (Kd.R_mono (Kd.R_far (p := ⟨gb215, 1, none⟩) (Kd.R_far (p := ⟨gb215, 0, none⟩) (Kd.R_types HO_196000.out BK215.out (by decide)) (fun _ hk => hk.2) (.slice Ao73 t210.length co73)) (fun _ hk => hk.2) (.int .i64 t213)) (fun _ h_ => h_.1))) hb); have n2_ := Aside0.mk (Kd.R_below (by (with_reducible repeat (first | apply Kd.R_alloc | apply Kd.R_drewN | apply Kd.R_drew)); exact (Kd.R_mono (Kd.R_far (p := ⟨gb215, 1, none⟩) (Kd.R_far (p := ⟨gb215, 0, none⟩) (Kd.R_types HO209.out BK215.out (by decide)) (fun _ hk => hk.2) (.slice Ao73 t210.length co73)) (fun _ hk => hk.2) (.int .i64 t213)) (fun _ h_ => h_.1))) hb); have n3_ := Aside0.mk (Kd.R_below (by (with_reducible repeat (first | apply Kd.R_alloc | apply Kd.R_drewN | apply Kd.R_drew)); exact (Kd.R_mono (Kd.R_far (p := ⟨gb215, 1, none⟩) (Kd.R_far (p := ⟨gb215, 0, none⟩) (Kd.R_types HO212.out BK215.out (by decide)) (fun _ hk => hk.2) (.slice Ao73 t210.length co73)) (fun _ hk => hk.2) (.int .i64 t213)) (fun _ h_ => h_.1))) hb); have n4_ := Aside0.mk (blk_below (g := gb186) (o := .cells #[.slice Ao12 t181.length co12, .int .i64 t184] 27 (0, 0)) (by (with_reducible repeat (first | refine blk_drewN ?_ _ | refine blk_drew ?_ | refine blk_alloc ?_ _)); refine blk_far ?_ NB186_215.out _; (with_reducible repeat (first | refine blk_drewN ?_ _ | refine blk_drew ?_ | refine blk_alloc ?_ _)); refine blk_far ?_ NB186_215.out _; (with_reducible repeat (first | refine blk_drewN ?_ _ | refine blk_drew ?_ | refine blk_alloc ?_ _)); exact BK186.out) hb); have n5_ := Aside0.mk (blk_below (g := gb195) (o := .cells #[.slice Ao18 t190.length co18, .int .i64 t193] 27 (0, 0)) (by (with_reducible repeat (first | refine blk_drewN ?_ _ | refine blk_drew ?_ | refine blk_alloc ?_ _)); refine blk_far ?_ NB195_215.out _; (with_reducible repeat (first | refine blk_drewN ?_ _ | refine blk_drew ?_ | refine blk_alloc ?_ _)); refine blk_far ?_ NB195_215.out _; (with_reducible repeat (first | refine blk_drewN ?_ _ | refine blk_drew ?_ | refine blk_alloc ?_ _)); exact BK195.out) hb); have n6_ := Aside0.mk (blk_below (g := gb215) (o := .cells #[.slice Ao73 t210.length co73, .int .i64 t213] 27 (0, 0)) (by (with_reducible repeat (first | refine blk_drewN ?_ _ | refine blk_drew ?_ | refine blk_alloc ?_ _)); refine blk_put (cs := #[.slice Ao73 t210.length co73, .int .i64 0]) ?_ 1 _ rfl; (with_reducible repeat (first | refine blk_drewN ?_ _ | refine blk_drew ?_ | refine blk_alloc ?_ _)); refine blk_put (cs := #[.slice none 0 0, .int .i64 0]) ?_ 0 _ rfl; (with_reducible repeat (first | refine blk_drewN ?_ _ | refine blk_drew ?_ | refine blk_alloc ?_ _)); exact BK215.out) hb); have n7_ := Aside0.mk (below_step (by repeat (first | (with_reducible first | exact HB.out | apply below_alloc | apply pw_below_drewN | apply below_drew1 | refine below_set ?_ GE186.out | refine below_set ?_ GE195.out | refine below_set ?_ GE215.out) | exact HB.out)) hb); clear HO_187000; clear HO_196000; clear HO209; clear HO212; clear BK186; clear BK195; clear BK215; clear HB; have HO_187000 := n0_; have HO_196000 := n1_; have HO209 := n2_; have HO212 := n3_; have BK186 := n4_; have BK195 := n5_; have BK215 := n6_; have HB := n7_; clear n0_ n1_ n2_ n3_ n4_ n5_ n6_ n7_; (try clear hb); (try clear hb2); (try clear hk); (try clear hi)))
             go_meet
             case rel => exact ⟨_, ((t214 != t185)), (by first | rfl | (simp; done) | (simp [*]; done)), H', ⟨by have := HJ6.out; have := HJ35.out; first | omega | exact Nat.le_refl _⟩, ⟨by (with_reducible repeat (first | apply Kd.R_alloc | apply Kd.R_drewN | apply Kd.R_drew)); exact Kd.R_mono HO_187000.out (fun _ hk => ⟨hk.1.1, hk.2⟩)⟩, ⟨by (with_reducible repeat (first | apply Kd.R_alloc | apply Kd.R_drewN | apply Kd.R_drew)); exact Kd.R_mono HO_196000.out (fun _ hk => ⟨hk.1.1, hk.2⟩)⟩, ⟨by (with_reducible repeat (first | apply Kd.R_alloc | apply Kd.R_drewN | apply Kd.R_drew)); exact Kd.R_mono HO212.out (fun _ hk => ⟨hk.1.1.2, hk.1.2⟩)⟩, ⟨by (with_reducible repeat (first | refine blk_drewN ?_ _ | refine blk_drew ?_ | refine blk_alloc ?_ _)); exact BK186.out⟩, ⟨by (with_reducible repeat (first | refine blk_drewN ?_ _ | refine blk_drew ?_ | refine blk_alloc ?_ _)); exact BK195.out⟩, ⟨by (with_reducible repeat (first | refine blk_drewN ?_ _ | refine blk_drew ?_ | refine blk_alloc ?_ _)); exact BK215.out⟩, ⟨by repeat (first | (with_reducible first | exact HB.out | apply below_alloc | apply pw_below_drewN | apply below_drew1 | refine below_set ?_ GE186.out | refine below_set ?_ GE195.out | refine below_set ?_ GE215.out) | exact HB.out)⟩⟩
            ·replace c78 := Bool.eq_false_iff.mpr c78
             subst c78
             have H1 : (laws_FnExactCupsOf.j2 kj35 t204 true t205 t193) = some r := by rw [if_neg (show ¬ (false = true) by decide)] at H; exact H
             clear H
             have H := H1
             clear H1
             have H' := Aside0.mk H
             clear H
             have hnb85 := NB215_186.out
             have hnc85 := NB186_215.out
             have hnb86 := NB215_195.out
             have hnc86 := NB195_215.out
             have hcz87_0 : w72.cell? ⟨gb215, 0, none⟩ = some (.slice none 0 0) := (blk_cell BK215.out 0).trans rfl
             have hcz87_1 : w72.cell? ⟨gb215, 1, none⟩ = some (.int .i64 0) := (blk_cell BK215.out 1).trans rfl
             have hfz87_0 := blk_frozen BK215.out 0
             have hfz87_1 := blk_frozen BK215.out 1
             have hnb88 := NB186_195.out
             have hnc88 := NB195_186.out
             have hcz89_0 : w72.cell? ⟨gb186, 0, none⟩ = some (.slice Ao12 t181.length co12) := (blk_cell BK186.out 0).trans rfl
             have hcz89_1 : w72.cell? ⟨gb186, 1, none⟩ = some (.int .i64 t184) := (blk_cell BK186.out 1).trans rfl
             have hfz89_0 := blk_frozen BK186.out 0
             have hfz89_1 := blk_frozen BK186.out 1
             go_wp2_with (first | ((with_reducible refine gate_callee (f := 20) rfl ?_); refine goesL_ (some 78) rfl rfl Try.func20 (by kernel_rfl) rfl #[.agg #[.slice Ao73 t210.length co73, .int .i64 t213], .agg #[.slice Ao12 t181.length co12, .int .i64 t184]] rfl (by (try simp only [List.map_toArray, List.map_cons, List.map_nil]); first | done | rfl | (simp only [List.length_drop, List.length_take]; rfl)) ?_; (with_reducible refine (laws_eqCups.calls kj35 _ _ t210 t213 _ _ t181 t184 false _ ?side1 ?side2 ?side3 ?side4 A77.out).mono ?_); (case side1 => refine (Kd.R_reads' (e := 3) (base := w.heap.size) (ok := fun k_ => (((True ∧ some k_ ≠ (.slice Ao12 t181.length co12 : Value).ownBlock) ∧ some k_ ≠ (.slice Ao18 t190.length co18 : Value).ownBlock) ∧ some k_ ≠ (.slice Ao70 t207.length co70 : Value).ownBlock)) (n := t210.length) (c := co73) ?_).2.2; exact (by (with_reducible repeat (first | apply Kd.R_alloc | apply Kd.R_drewN | apply Kd.R_drew)); exact (Kd.R_mono (Kd.R_far (p := ⟨gb215, 1, none⟩) (Kd.R_far (p := ⟨gb215, 0, none⟩) (Kd.R_types HO212.out BK215.out (by decide)) (fun _ hk => hk.2) (.slice Ao73 t210.length co73)) (fun _ hk => hk.2) (.int .i64 t213)) (fun _ h_ => h_.1)))); (case side2 => exact (Kd.R_reads' HO212.out).2.1); (case side3 => refine (Kd.R_reads' (e := 3) (base := w.heap.size) (ok := fun k_ => ((some k_ ≠ (.slice Ao18 t190.length co18 : Value).ownBlock ∧ some k_ ≠ (.slice Ao70 t207.length co70 : Value).ownBlock) ∧ some k_ ≠ (.slice Ao73 t210.length co73 : Value).ownBlock)) (n := t181.length) (c := co12) ?_).2.2; exact (by (with_reducible repeat (first | apply Kd.R_alloc | apply Kd.R_drewN | apply Kd.R_drew)); exact (Kd.R_mono (Kd.R_far (p := ⟨gb215, 1, none⟩) (Kd.R_far (p := ⟨gb215, 0, none⟩) (Kd.R_types HO_187000.out BK215.out (by decide)) (fun _ hk => hk.2) (.slice Ao73 t210.length co73)) (fun _ hk => hk.2) (.int .i64 t213)) (fun _ h_ => h_.1)))); (case side4 => exact (Kd.R_reads' HO_187000.out).2.1); rintro e w90 ⟨rfl, hb⟩; refine ⟨_, rfl, ?_⟩; have n0_ := Aside0.mk (Kd.R_below (by (with_reducible repeat (first | apply Kd.R_alloc | apply Kd.R_drewN | apply Kd.R_drew)); exact (Kd.R_mono (Kd.R_far (p := ⟨gb215, 1, none⟩) (Kd.R_far (p := ⟨gb215, 0, none⟩) (Kd.R_types HO_187000.out BK215.out (by decide)) (fun _ hk => hk.2) (.slice Ao73 t210.length co73)) (fun _ hk => hk.2) (.int .i64 t213)) (fun _ h_ => h_.1))) hb); have n1_ := Aside0.mk (Kd.R_below (by (with_reducible repeat (first | apply Kd.R_alloc | apply Kd.R_drewN | apply Kd.R_drew)); exact (Kd.R_mono (Kd.R_far (p := ⟨gb215, 1, none⟩) (Kd.R_far (p := ⟨gb215, 0, none⟩) (Kd.R_types HO_196000.out BK215.out (by decide)) (fun _ hk => hk.2) (.slice Ao73 t210.length co73)) (fun _ hk => hk.2) (.int .i64 t213)) (fun _ h_ => h_.1))) hb); have n2_ := Aside0.mk (Kd.R_below (by (with_reducible repeat (first | apply Kd.R_alloc | apply Kd.R_drewN | apply Kd.R_drew)); exact (Kd.R_mono (Kd.R_far (p := ⟨gb215, 1, none⟩) (Kd.R_far (p := ⟨gb215, 0, none⟩) (Kd.R_types HO209.out BK215.out (by decide)) (fun _ hk => hk.2) (.slice Ao73 t210.length co73)) (fun _ hk => hk.2) (.int .i64 t213)) (fun _ h_ => h_.1))) hb); have n3_ := Aside0.mk (Kd.R_below (by (with_reducible repeat (first | apply Kd.R_alloc | apply Kd.R_drewN | apply Kd.R_drew)); exact (Kd.R_mono (Kd.R_far (p := ⟨gb215, 1, none⟩) (Kd.R_far (p := ⟨gb215, 0, none⟩) (Kd.R_types HO212.out BK215.out (by decide)) (fun _ hk => hk.2) (.slice Ao73 t210.length co73)) (fun _ hk => hk.2) (.int .i64 t213)) (fun _ h_ => h_.1))) hb); have n4_ := Aside0.mk (blk_below (g := gb186) (o := .cells #[.slice Ao12 t181.length co12, .int .i64 t184] 27 (0, 0)) (by (with_reducible repeat (first | refine blk_drewN ?_ _ | refine blk_drew ?_ | refine blk_alloc ?_ _)); refine blk_far ?_ NB186_215.out _; (with_reducible repeat (first | refine blk_drewN ?_ _ | refine blk_drew ?_ | refine blk_alloc ?_ _)); refine blk_far ?_ NB186_215.out _; (with_reducible repeat (first | refine blk_drewN ?_ _ | refine blk_drew ?_ | refine blk_alloc ?_ _)); exact BK186.out) hb); have n5_ := Aside0.mk (blk_below (g := gb195) (o := .cells #[.slice Ao18 t190.length co18, .int .i64 t193] 27 (0, 0)) (by (with_reducible repeat (first | refine blk_drewN ?_ _ | refine blk_drew ?_ | refine blk_alloc ?_ _)); refine blk_far ?_ NB195_215.out _; (with_reducible repeat (first | refine blk_drewN ?_ _ | refine blk_drew ?_ | refine blk_alloc ?_ _)); refine blk_far ?_ NB195_215.out _; (with_reducible repeat (first | refine blk_drewN ?_ _ | refine blk_drew ?_ | refine blk_alloc ?_ _)); exact BK195.out) hb); have n6_ := Aside0.mk (blk_below (g := gb215) (o := .cells #[.slice Ao73 t210.length co73, .int .i64 t213] 27 (0, 0)) (by (with_reducible repeat (first | refine blk_drewN ?_ _ | refine blk_drew ?_ | refine blk_alloc ?_ _)); refine blk_put (cs := #[.slice Ao73 t210.length co73, .int .i64 0]) ?_ 1 _ rfl; (with_reducible repeat (first | refine blk_drewN ?_ _ | refine blk_drew ?_ | refine blk_alloc ?_ _)); refine blk_put (cs := #[.slice none 0 0, .int .i64 0]) ?_ 0 _ rfl; (with_reducible repeat (first | refine blk_drewN ?_ _ | refine blk_drew ?_ | refine blk_alloc ?_ _)); exact BK215.out) hb); have n7_ := Aside0.mk (below_step (by repeat (first | (with_reducible first | exact HB.out | apply below_alloc | apply pw_below_drewN | apply below_drew1 | refine below_set ?_ GE186.out | refine below_set ?_ GE195.out | refine below_set ?_ GE215.out) | exact HB.out)) hb); clear HO_187000; clear HO_196000; clear HO209; clear HO212; clear BK186; clear BK195; clear BK215; clear HB; have HO_187000 := n0_; have HO_196000 := n1_; have HO209 := n2_; have HO212 := n3_; have BK186 := n4_; have BK195 := n5_; have BK215 := n6_; have HB := n7_; clear n0_ n1_ n2_ n3_ n4_ n5_ n6_ n7_; (try clear hb); (try clear hb2); (try clear hk); (try clear hi)))
             go_meet
             case rel => exact ⟨_, (true), (by first | rfl | (simp; done) | (simp [*]; done)), H', ⟨by have := HJ6.out; have := HJ35.out; first | omega | exact Nat.le_refl _⟩, ⟨by (with_reducible repeat (first | apply Kd.R_alloc | apply Kd.R_drewN | apply Kd.R_drew)); exact Kd.R_mono HO_187000.out (fun _ hk => ⟨hk.1.1, hk.2⟩)⟩, ⟨by (with_reducible repeat (first | apply Kd.R_alloc | apply Kd.R_drewN | apply Kd.R_drew)); exact Kd.R_mono HO_196000.out (fun _ hk => ⟨hk.1.1, hk.2⟩)⟩, ⟨by (with_reducible repeat (first | apply Kd.R_alloc | apply Kd.R_drewN | apply Kd.R_drew)); exact Kd.R_mono HO212.out (fun _ hk => ⟨hk.1.1.2, hk.1.2⟩)⟩, ⟨by (with_reducible repeat (first | refine blk_drewN ?_ _ | refine blk_drew ?_ | refine blk_alloc ?_ _)); exact BK186.out⟩, ⟨by (with_reducible repeat (first | refine blk_drewN ?_ _ | refine blk_drew ?_ | refine blk_alloc ?_ _)); exact BK195.out⟩, ⟨by (with_reducible repeat (first | refine blk_drewN ?_ _ | refine blk_drew ?_ | refine blk_alloc ?_ _)); exact BK215.out⟩, ⟨by repeat (first | (with_reducible first | exact HB.out | apply below_alloc | apply pw_below_drewN | apply below_drew1 | refine below_set ?_ GE186.out | refine below_set ?_ GE195.out | refine below_set ?_ GE215.out) | exact HB.out)⟩⟩
           case rest =>
            clear HC63
            try clear c1
            try clear c2
            try clear c2b0
            try clear c2b1
            try clear p2
            try clear c3
            try clear c4
            try clear c5
            try clear c6
            try clear c7
            try clear c8
            try clear c19
            try clear c20
            try clear c21
            try clear c22
            try clear c23
            try clear c24
            try clear c25
            try clear c26
            try clear c27
            try clear c31
            try clear c34
            try clear c40
            try clear c40b0
            try clear c42
            try clear c43
            try clear c47
            try clear c51
            try clear c54
            try clear c54b0
            try clear c55
            try clear c60
            try clear c60b0
            try clear c60b1
            try clear c64
            try clear c74
            try clear c75
            try clear c78
            try clear c79
            try clear c80
            try clear c82
            try clear c85
            try clear c86
            try clear c88
            try clear hcz13_0
            try clear hcz13_1
            try clear hcz20_0
            try clear hcz20_1
            try clear hcz24_0
            try clear hcz24_1
            try clear hcz25_0
            try clear hcz25_1
            try clear hcz28_0
            try clear hcz28_1
            try clear hcz29_0
            try clear hcz29_1
            try clear hcz44_0
            try clear hcz44_1
            try clear hcz45_0
            try clear hcz45_1
            try clear hcz48_0
            try clear hcz48_1
            try clear hcz49_0
            try clear hcz49_1
            try clear hcz56_0
            try clear hcz56_1
            try clear hcz58_0
            try clear hcz58_1
            try clear hcz65_0
            try clear hcz65_1
            try clear hcz67_0
            try clear hcz67_1
            try clear hcz76_0
            try clear hcz76_1
            try clear hcz81_0
            try clear hcz81_1
            try clear hcz83_0
            try clear hcz83_1
            try clear hcz87_0
            try clear hcz87_1
            try clear hcz89_0
            try clear hcz89_1
            try clear hfz13_0
            try clear hfz13_1
            try clear hfz20_0
            try clear hfz20_1
            try clear hfz24_0
            try clear hfz24_1
            try clear hfz25_0
            try clear hfz25_1
            try clear hfz28_0
            try clear hfz28_1
            try clear hfz29_0
            try clear hfz29_1
            try clear hfz44_0
            try clear hfz44_1
            try clear hfz45_0
            try clear hfz45_1
            try clear hfz48_0
            try clear hfz48_1
            try clear hfz49_0
            try clear hfz49_1
            try clear hfz56_0
            try clear hfz56_1
            try clear hfz58_0
            try clear hfz58_1
            try clear hfz65_0
            try clear hfz65_1
            try clear hfz67_0
            try clear hfz67_1
            try clear hfz76_0
            try clear hfz76_1
            try clear hfz81_0
            try clear hfz81_1
            try clear hfz83_0
            try clear hfz83_1
            try clear hfz87_0
            try clear hfz87_1
            try clear hfz89_0
            try clear hfz89_1
            try clear p2
            obtain ⟨kq, x84_62, rfl, HA, HJ62, HO_187000, HO_196000, HO_216000, BK186, BK195, BK215, HB⟩ := hcut
            have hl196000_62 := (Kd.R_reads' HO_196000.out).1
            rw [hl196000_62] at HO_196000
            (try simp only [hl196000_62])
            (try simp only [hl196000_62] at BK186)
            (try simp only [hl196000_62] at BK195)
            (try simp only [hl196000_62] at BK215)
            (try simp only [hl196000_62] at HO_187000)
            (try simp only [hl196000_62] at HO_216000)
            cases kq with
            | zero => exact absurd HA.out (by simp [laws_FnExactCupsOf.j2])
            | succ kj62 =>
             have H := HA.out
             clear HA
             simp only [laws_FnExactCupsOf.j2] at H
             by_cases c91 : x84_62 = true
             ·subst c91
              have H1 : (some false) = some r := by rw [if_pos rfl] at H; exact H
              clear H
              have H := H1
              clear H1
              obtain rfl := Option.some.inj H
              go_wp2
              go_ret
              exact ⟨by first | rfl | (simp [errW_none, errW_some] <;> rfl) | (simp [*, errW_none, errW_some] <;> rfl), by repeat (first | (with_reducible first | exact HB.out | apply below_alloc | apply pw_below_drewN | apply below_drew1 | refine below_set ?_ GE186.out | refine below_set ?_ GE195.out | refine below_set ?_ GE215.out) | exact HB.out)⟩
             ·replace c91 := Bool.eq_false_iff.mpr c91
              subst c91
              have H1 : ((laws_heldCups.f kj62 t205 t193 1).bind fun t217 => (if t217 < 0 then (some false) else (if t217 = t204 then (some true) else (some false)))) = some r := by rw [if_neg (show ¬ (false = true) by decide)] at H; exact H
              clear H
              have H := H1
              clear H1
              replace H := Option.bind_eq_some_iff.mp H
              obtain ⟨t217, A920, H⟩ := H
              replace H : (if t217 < 0 then (some false) else (if t217 = t204 then (some true) else (some false))) = some r := H
              have A92 := Aside0.mk A920
              clear A920
              by_cases c93 : t217 < 0
              ·rw [if_pos c93] at H
               have c93b0 : decide (t217 < 0) = true := decide_eq_true c93
               clear c93
               obtain rfl := Option.some.inj H
               have hnb94 := NB195_186.out
               have hnc94 := NB186_195.out
               have hnb95 := NB195_215.out
               have hnc95 := NB215_195.out
               have hcz96_0 : wc.cell? ⟨gb195, 0, none⟩ = some (.slice Ao18 t205.length co18) := (blk_cell BK195.out 0).trans rfl
               have hcz96_1 : wc.cell? ⟨gb195, 1, none⟩ = some (.int .i64 t193) := (blk_cell BK195.out 1).trans rfl
               have hfz96_0 := blk_frozen BK195.out 0
               have hfz96_1 := blk_frozen BK195.out 1
               go_wp2_with (first | ((with_reducible refine gate_callee (f := 27) rfl ?_); refine goesL_ (some 87) rfl rfl Try.func27 (by kernel_rfl) rfl #[.agg #[.slice Ao18 t205.length co18, .int .i64 t193], .int .i64 1] rfl (by (try simp only [List.map_toArray, List.map_cons, List.map_nil]); first | done | rfl | (simp only [List.length_drop, List.length_take]; rfl)) ?_; (with_reducible refine (laws_heldCups.calls kj62 _ _ t205 t193 1 t217 _ ?side1 ?side2 A92.out).mono ?_); (case side1 => repeat (first | exact (Kd.R_reads' HO_196000.out).2.2 | (with_reducible refine Kd.C_alloc ?_ _) | (with_reducible refine Kd.C_drewN ?_ _) | (with_reducible refine Kd.C_drew ?_))); (case side2 => exact (Kd.R_reads' HO_196000.out).2.1); rintro e w97 ⟨rfl, hb⟩; refine ⟨_, rfl, ?_⟩; have n0_ := Aside0.mk (Kd.R_below (by (with_reducible repeat (first | apply Kd.R_alloc | apply Kd.R_drewN | apply Kd.R_drew)); exact HO_187000.out) hb); have n1_ := Aside0.mk (Kd.R_below (by (with_reducible repeat (first | apply Kd.R_alloc | apply Kd.R_drewN | apply Kd.R_drew)); exact HO_196000.out) hb); have n2_ := Aside0.mk (Kd.R_below (by (with_reducible repeat (first | apply Kd.R_alloc | apply Kd.R_drewN | apply Kd.R_drew)); exact HO_216000.out) hb); have n3_ := Aside0.mk (blk_below (g := gb186) (o := .cells #[.slice Ao12 t181.length co12, .int .i64 t184] 27 (0, 0)) (by (with_reducible repeat (first | refine blk_drewN ?_ _ | refine blk_drew ?_ | refine blk_alloc ?_ _)); exact BK186.out) hb); have n4_ := Aside0.mk (blk_below (g := gb195) (o := .cells #[.slice Ao18 t205.length co18, .int .i64 t193] 27 (0, 0)) (by (with_reducible repeat (first | refine blk_drewN ?_ _ | refine blk_drew ?_ | refine blk_alloc ?_ _)); exact BK195.out) hb); have n5_ := Aside0.mk (blk_below (g := gb215) (o := .cells #[.slice Ao73 t210.length co73, .int .i64 t213] 27 (0, 0)) (by (with_reducible repeat (first | refine blk_drewN ?_ _ | refine blk_drew ?_ | refine blk_alloc ?_ _)); exact BK215.out) hb); have n6_ := Aside0.mk (below_step (by repeat (first | (with_reducible first | exact HB.out | apply below_alloc | apply pw_below_drewN | apply below_drew1 | refine below_set ?_ GE186.out | refine below_set ?_ GE195.out | refine below_set ?_ GE215.out) | exact HB.out)) hb); clear HO_187000; clear HO_196000; clear HO_216000; clear BK186; clear BK195; clear BK215; clear HB; have HO_187000 := n0_; have HO_196000 := n1_; have HO_216000 := n2_; have BK186 := n3_; have BK195 := n4_; have BK215 := n5_; have HB := n6_; clear n0_ n1_ n2_ n3_ n4_ n5_ n6_; (try clear hb); (try clear hb2); (try clear hk); (try clear hi)))
               go_ret
               exact ⟨by first | rfl | (simp [errW_none, errW_some] <;> rfl) | (simp [*, errW_none, errW_some] <;> rfl), by repeat (first | (with_reducible first | exact HB.out | apply below_alloc | apply pw_below_drewN | apply below_drew1 | refine below_set ?_ GE186.out | refine below_set ?_ GE195.out | refine below_set ?_ GE215.out) | exact HB.out)⟩
              ·rw [if_neg c93] at H
               have c93b0 : decide (t217 < 0) = false := decide_eq_false c93
               clear c93
               by_cases c98 : t217 = t204
               ·rw [if_pos c98] at H
                have c98b0 : (t217 == t204) = true := beq_iff_eq.mpr c98
                have c98b1 : (t217 != t204) = false := bne_eq_false_iff_eq.mpr c98
                clear c98
                obtain rfl := Option.some.inj H
                have hnb99 := NB195_186.out
                have hnc99 := NB186_195.out
                have hnb100 := NB195_215.out
                have hnc100 := NB215_195.out
                have hcz101_0 : wc.cell? ⟨gb195, 0, none⟩ = some (.slice Ao18 t205.length co18) := (blk_cell BK195.out 0).trans rfl
                have hcz101_1 : wc.cell? ⟨gb195, 1, none⟩ = some (.int .i64 t193) := (blk_cell BK195.out 1).trans rfl
                have hfz101_0 := blk_frozen BK195.out 0
                have hfz101_1 := blk_frozen BK195.out 1
                go_wp2_with (first | ((with_reducible refine gate_callee (f := 27) rfl ?_); refine goesL_ (some 87) rfl rfl Try.func27 (by kernel_rfl) rfl #[.agg #[.slice Ao18 t205.length co18, .int .i64 t193], .int .i64 1] rfl (by (try simp only [List.map_toArray, List.map_cons, List.map_nil]); first | done | rfl | (simp only [List.length_drop, List.length_take]; rfl)) ?_; (with_reducible refine (laws_heldCups.calls kj62 _ _ t205 t193 1 t217 _ ?side1 ?side2 A92.out).mono ?_); (case side1 => repeat (first | exact (Kd.R_reads' HO_196000.out).2.2 | (with_reducible refine Kd.C_alloc ?_ _) | (with_reducible refine Kd.C_drewN ?_ _) | (with_reducible refine Kd.C_drew ?_))); (case side2 => exact (Kd.R_reads' HO_196000.out).2.1); rintro e w102 ⟨rfl, hb⟩; refine ⟨_, rfl, ?_⟩; have n0_ := Aside0.mk (Kd.R_below (by (with_reducible repeat (first | apply Kd.R_alloc | apply Kd.R_drewN | apply Kd.R_drew)); exact HO_187000.out) hb); have n1_ := Aside0.mk (Kd.R_below (by (with_reducible repeat (first | apply Kd.R_alloc | apply Kd.R_drewN | apply Kd.R_drew)); exact HO_196000.out) hb); have n2_ := Aside0.mk (Kd.R_below (by (with_reducible repeat (first | apply Kd.R_alloc | apply Kd.R_drewN | apply Kd.R_drew)); exact HO_216000.out) hb); have n3_ := Aside0.mk (blk_below (g := gb186) (o := .cells #[.slice Ao12 t181.length co12, .int .i64 t184] 27 (0, 0)) (by (with_reducible repeat (first | refine blk_drewN ?_ _ | refine blk_drew ?_ | refine blk_alloc ?_ _)); exact BK186.out) hb); have n4_ := Aside0.mk (blk_below (g := gb195) (o := .cells #[.slice Ao18 t205.length co18, .int .i64 t193] 27 (0, 0)) (by (with_reducible repeat (first | refine blk_drewN ?_ _ | refine blk_drew ?_ | refine blk_alloc ?_ _)); exact BK195.out) hb); have n5_ := Aside0.mk (blk_below (g := gb215) (o := .cells #[.slice Ao73 t210.length co73, .int .i64 t213] 27 (0, 0)) (by (with_reducible repeat (first | refine blk_drewN ?_ _ | refine blk_drew ?_ | refine blk_alloc ?_ _)); exact BK215.out) hb); have n6_ := Aside0.mk (below_step (by repeat (first | (with_reducible first | exact HB.out | apply below_alloc | apply pw_below_drewN | apply below_drew1 | refine below_set ?_ GE186.out | refine below_set ?_ GE195.out | refine below_set ?_ GE215.out) | exact HB.out)) hb); clear HO_187000; clear HO_196000; clear HO_216000; clear BK186; clear BK195; clear BK215; clear HB; have HO_187000 := n0_; have HO_196000 := n1_; have HO_216000 := n2_; have BK186 := n3_; have BK195 := n4_; have BK215 := n5_; have HB := n6_; clear n0_ n1_ n2_ n3_ n4_ n5_ n6_; (try clear hb); (try clear hb2); (try clear hk); (try clear hi)))
                go_ret
                exact ⟨by first | rfl | (simp [errW_none, errW_some] <;> rfl) | (simp [*, errW_none, errW_some] <;> rfl), by repeat (first | (with_reducible first | exact HB.out | apply below_alloc | apply pw_below_drewN | apply below_drew1 | refine below_set ?_ GE186.out | refine below_set ?_ GE195.out | refine below_set ?_ GE215.out) | exact HB.out)⟩
               ·rw [if_neg c98] at H
                have c98b0 : (t217 == t204) = false := beq_eq_false_iff_ne.mpr c98
                have c98b1 : (t217 != t204) = true := bne_iff_ne.mpr c98
                obtain rfl := Option.some.inj H
                have hnb103 := NB195_186.out
                have hnc103 := NB186_195.out
                have hnb104 := NB195_215.out
                have hnc104 := NB215_195.out
                have hcz105_0 : wc.cell? ⟨gb195, 0, none⟩ = some (.slice Ao18 t205.length co18) := (blk_cell BK195.out 0).trans rfl
                have hcz105_1 : wc.cell? ⟨gb195, 1, none⟩ = some (.int .i64 t193) := (blk_cell BK195.out 1).trans rfl
                have hfz105_0 := blk_frozen BK195.out 0
                have hfz105_1 := blk_frozen BK195.out 1
                go_wp2_with (first | ((with_reducible refine gate_callee (f := 27) rfl ?_); refine goesL_ (some 87) rfl rfl Try.func27 (by kernel_rfl) rfl #[.agg #[.slice Ao18 t205.length co18, .int .i64 t193], .int .i64 1] rfl (by (try simp only [List.map_toArray, List.map_cons, List.map_nil]); first | done | rfl | (simp only [List.length_drop, List.length_take]; rfl)) ?_; (with_reducible refine (laws_heldCups.calls kj62 _ _ t205 t193 1 t217 _ ?side1 ?side2 A92.out).mono ?_); (case side1 => repeat (first | exact (Kd.R_reads' HO_196000.out).2.2 | (with_reducible refine Kd.C_alloc ?_ _) | (with_reducible refine Kd.C_drewN ?_ _) | (with_reducible refine Kd.C_drew ?_))); (case side2 => exact (Kd.R_reads' HO_196000.out).2.1); rintro e w106 ⟨rfl, hb⟩; refine ⟨_, rfl, ?_⟩; have n0_ := Aside0.mk (Kd.R_below (by (with_reducible repeat (first | apply Kd.R_alloc | apply Kd.R_drewN | apply Kd.R_drew)); exact HO_187000.out) hb); have n1_ := Aside0.mk (Kd.R_below (by (with_reducible repeat (first | apply Kd.R_alloc | apply Kd.R_drewN | apply Kd.R_drew)); exact HO_196000.out) hb); have n2_ := Aside0.mk (Kd.R_below (by (with_reducible repeat (first | apply Kd.R_alloc | apply Kd.R_drewN | apply Kd.R_drew)); exact HO_216000.out) hb); have n3_ := Aside0.mk (blk_below (g := gb186) (o := .cells #[.slice Ao12 t181.length co12, .int .i64 t184] 27 (0, 0)) (by (with_reducible repeat (first | refine blk_drewN ?_ _ | refine blk_drew ?_ | refine blk_alloc ?_ _)); exact BK186.out) hb); have n4_ := Aside0.mk (blk_below (g := gb195) (o := .cells #[.slice Ao18 t205.length co18, .int .i64 t193] 27 (0, 0)) (by (with_reducible repeat (first | refine blk_drewN ?_ _ | refine blk_drew ?_ | refine blk_alloc ?_ _)); exact BK195.out) hb); have n5_ := Aside0.mk (blk_below (g := gb215) (o := .cells #[.slice Ao73 t210.length co73, .int .i64 t213] 27 (0, 0)) (by (with_reducible repeat (first | refine blk_drewN ?_ _ | refine blk_drew ?_ | refine blk_alloc ?_ _)); exact BK215.out) hb); have n6_ := Aside0.mk (below_step (by repeat (first | (with_reducible first | exact HB.out | apply below_alloc | apply pw_below_drewN | apply below_drew1 | refine below_set ?_ GE186.out | refine below_set ?_ GE195.out | refine below_set ?_ GE215.out) | exact HB.out)) hb); clear HO_187000; clear HO_196000; clear HO_216000; clear BK186; clear BK195; clear BK215; clear HB; have HO_187000 := n0_; have HO_196000 := n1_; have HO_216000 := n2_; have BK186 := n3_; have BK195 := n4_; have BK215 := n5_; have HB := n6_; clear n0_ n1_ n2_ n3_ n4_ n5_ n6_; (try clear hb); (try clear hb2); (try clear hk); (try clear hi)))
                go_ret
                exact ⟨by first | rfl | (simp [errW_none, errW_some] <;> rfl) | (simp [*, errW_none, errW_some] <;> rfl), by repeat (first | (with_reducible first | exact HB.out | apply below_alloc | apply pw_below_drewN | apply below_drew1 | refine below_set ?_ GE186.out | refine below_set ?_ GE195.out | refine below_set ?_ GE215.out) | exact HB.out)⟩
          ·rw [if_neg c60] at H
           have c60b0 : (t206 == t204) = false := beq_eq_false_iff_ne.mpr c60
           have c60b1 : (t206 != t204) = true := bne_iff_ne.mpr c60
           obtain rfl := Option.some.inj H
           have hnb107 := NB195_186.out
           have hnc107 := NB186_195.out
           have hcz108_0 : wc.cell? ⟨gb195, 0, none⟩ = some (.slice Ao18 t190.length co18) := (blk_cell BK195.out 0).trans rfl
           have hcz108_1 : wc.cell? ⟨gb195, 1, none⟩ = some (.int .i64 t193) := (blk_cell BK195.out 1).trans rfl
           have hfz108_0 := blk_frozen BK195.out 0
           have hfz108_1 := blk_frozen BK195.out 1
           go_wp2_with (first | ((with_reducible refine gate_callee (f := 26) rfl ?_); refine goesL_ (some 61) rfl rfl Try.func26 (by kernel_rfl) rfl #[.agg #[.slice Ao18 t190.length co18, .int .i64 t193], .int .i64 1] rfl (by (try simp only [List.map_toArray, List.map_cons, List.map_nil]); first | done | rfl | (simp only [List.length_drop, List.length_take]; rfl)) ?_; (with_reducible refine (laws_markCups.calls kj35 (fun k_ => some k_ = (.slice Ao18 t190.length co18 : Value).ownBlock) (.slice Ao18 t190.length co18) t190 t193 1 t204 t205 w _ ?side1 ?side2 A52.out).mono ?_); (case side1 => repeat (first | (with_reducible first | exact HB.out | apply below_alloc | apply pw_below_drewN | apply below_drew1 | refine below_set ?_ GE186.out | refine below_set ?_ GE195.out) | exact HB.out)); (case side2 => exact Kd.R_tight rfl HO_196000.out); rintro e w109 ⟨rfl, hy0, hb, hkp⟩; refine ⟨_, rfl, ?_⟩; have n0_ := Aside0.mk (Kd.R_mono (ok' := fun k_ => some k_ ≠ (.slice Ao18 t190.length co18 : Value).ownBlock) (Kd.R_keptB (HO_187000.out) hkp (fun k_ hk_ hs_ => (hk_) hs_)) (fun k_ hk_ => hk_.1)); have n1_ := Aside0.mk (Kd.R_reok rfl hy0 (fun k_ e_ => HO_196000.out.1 k_ e_)); have n2_ := Aside0.mk (blk_kept (by (with_reducible repeat (first | refine blk_drewN ?_ _ | refine blk_drew ?_ | refine blk_alloc ?_ _)); exact BK186.out) hkp (fun hs_ => (fun e_ => (Kd.R_ne HO_196000.out BK186.out (by decide)) e_) hs_)); have n3_ := Aside0.mk (blk_kept (by (with_reducible repeat (first | refine blk_drewN ?_ _ | refine blk_drew ?_ | refine blk_alloc ?_ _)); exact BK195.out) hkp (fun hs_ => (fun e_ => (Kd.R_ne HO_196000.out BK195.out (by decide)) e_) hs_)); have n4_ := Aside0.mk (hb); clear HO_187000; clear HO_196000; clear BK186; clear BK195; clear HB; have HO_187000 := n0_; have HO_196000 := n1_; have BK186 := n2_; have BK195 := n3_; have HB := n4_; clear n0_ n1_ n2_ n3_ n4_; (try clear hb); (try clear hkp); (try clear hy0); have hcz110_0 : w109.cell? ⟨gb195, 0, none⟩ = some (.slice Ao18 t190.length co18) := (blk_cell BK195.out 0).trans rfl; have hcz110_1 : w109.cell? ⟨gb195, 1, none⟩ = some (.int .i64 t193) := (blk_cell BK195.out 1).trans rfl; have hfz110_0 := blk_frozen BK195.out 0; have hfz110_1 := blk_frozen BK195.out 1) | ((with_reducible refine gate_callee (f := 27) rfl ?_); refine goesL_ (some 64) rfl rfl Try.func27 (by kernel_rfl) rfl #[.agg #[.slice Ao18 t205.length co18, .int .i64 t193], .int .i64 1] rfl (by (try simp only [List.map_toArray, List.map_cons, List.map_nil]); first | done | (rw [show t205.length = t190.length from (Kd.R_reads' HO_196000.out).1.symm] <;> rfl) | rfl | (simp only [List.length_drop, List.length_take]; rfl)) ?_; (with_reducible refine (laws_heldCups.calls kj35 _ _ t205 t193 1 t206 _ ?side1 ?side2 A53.out).mono ?_); (case side1 => repeat (first | exact (Kd.R_reads' HO_196000.out).2.2 | (with_reducible refine Kd.C_alloc ?_ _) | (with_reducible refine Kd.C_drewN ?_ _) | (with_reducible refine Kd.C_drew ?_))); (case side2 => rw [show t205.length = t190.length from (Kd.R_reads' HO_196000.out).1.symm]; exact (Kd.R_reads' HO_196000.out).2.1); rintro e w111 ⟨rfl, hb⟩; refine ⟨_, rfl, ?_⟩; have n0_ := Aside0.mk (Kd.R_below (by (with_reducible repeat (first | apply Kd.R_alloc | apply Kd.R_drewN | apply Kd.R_drew)); exact HO_187000.out) hb); have n1_ := Aside0.mk (Kd.R_below (by (with_reducible repeat (first | apply Kd.R_alloc | apply Kd.R_drewN | apply Kd.R_drew)); exact HO_196000.out) hb); have n2_ := Aside0.mk (blk_below (g := gb186) (o := .cells #[.slice Ao12 t181.length co12, .int .i64 t184] 27 (0, 0)) (by (with_reducible repeat (first | refine blk_drewN ?_ _ | refine blk_drew ?_ | refine blk_alloc ?_ _)); exact BK186.out) hb); have n3_ := Aside0.mk (blk_below (g := gb195) (o := .cells #[.slice Ao18 t190.length co18, .int .i64 t193] 27 (0, 0)) (by (with_reducible repeat (first | refine blk_drewN ?_ _ | refine blk_drew ?_ | refine blk_alloc ?_ _)); exact BK195.out) hb); have n4_ := Aside0.mk (below_step (by repeat (first | (with_reducible first | exact HB.out | apply below_alloc | apply pw_below_drewN | apply below_drew1 | refine below_set ?_ GE186.out | refine below_set ?_ GE195.out) | exact HB.out)) hb); clear HO_187000; clear HO_196000; clear BK186; clear BK195; clear HB; have HO_187000 := n0_; have HO_196000 := n1_; have BK186 := n2_; have BK195 := n3_; have HB := n4_; clear n0_ n1_ n2_ n3_ n4_; (try clear hb); (try clear hb2); (try clear hk); (try clear hi)))
           go_ret
           exact ⟨by first | rfl | (simp [errW_none, errW_some] <;> rfl) | (simp [*, errW_none, errW_some] <;> rfl), by repeat (first | (with_reducible first | exact HB.out | apply below_alloc | apply pw_below_drewN | apply below_drew1 | refine below_set ?_ GE186.out | refine below_set ?_ GE195.out) | exact HB.out)⟩
     ·replace c34 := Bool.eq_false_iff.mpr c34
      subst c34
      have H1 : (some false) = some r := by rw [if_neg (show ¬ (false = true) by decide)] at H; exact H
      clear H
      have H := H1
      clear H1
      obtain rfl := Option.some.inj H
      go_wp2_with (first | ((with_reducible refine gate_callee (f := 22) rfl ?_); refine goesL_ (some 40) rfl rfl Try.func22 (by kernel_rfl) rfl #[.slice A0 l0.length c0] rfl (by (try simp only [List.map_toArray, List.map_cons, List.map_nil]); first | done | rfl | (simp only [List.length_drop, List.length_take]; rfl)) ?_; (with_reducible refine (laws_toIntS.calls kj6 _ _ l0 t197 _ ?side1 ?side2 A32.out).mono ?_); (case side1 => repeat (first | exact (Kd.C_below HR0.out HB.out) | (with_reducible refine Kd.C_alloc ?_ _) | (with_reducible refine Kd.C_drewN ?_ _) | (with_reducible refine Kd.C_drew ?_))); (case side2 => exact HC0.out); rintro e w112 ⟨v198, rfl, ho0, hb⟩; refine ⟨_, rfl, ?_⟩; have n0_ := Aside0.mk (Kd.R_elder' (by (with_reducible repeat (first | apply Kd.R_alloc | apply Kd.R_drewN | apply Kd.R_drew)); exact HO_5.out) (Kd.R_base ho0) hb); have n1_ := Aside0.mk (Kd.R_elder' (by (with_reducible repeat (first | apply Kd.R_alloc | apply Kd.R_drewN | apply Kd.R_drew)); exact HO_187000.out) (Kd.R_base ho0) hb); have n2_ := Aside0.mk (Kd.R_elder' (by (with_reducible repeat (first | apply Kd.R_alloc | apply Kd.R_drewN | apply Kd.R_drew)); exact HO_196000.out) (Kd.R_base ho0) hb); have n3_ := Aside0.mk (Kd.R_lower (Kd.R_new' (Kd.R_new' (Kd.R_new' ho0 (Kd.R_lt (by (with_reducible repeat (first | apply Kd.R_alloc | apply Kd.R_drewN | apply Kd.R_drew)); exact HO_5.out))) (Kd.R_lt (by (with_reducible repeat (first | apply Kd.R_alloc | apply Kd.R_drewN | apply Kd.R_drew)); exact HO_187000.out))) (Kd.R_lt (by (with_reducible repeat (first | apply Kd.R_alloc | apply Kd.R_drewN | apply Kd.R_drew)); exact HO_196000.out))) (below_size (by repeat (first | (with_reducible first | exact HB.out | apply below_alloc | apply pw_below_drewN | apply below_drew1 | refine below_set ?_ GE186.out | refine below_set ?_ GE195.out) | exact HB.out)))); have n4_ := Aside0.mk (blk_below (g := gb186) (o := .cells #[.slice Ao12 t181.length co12, .int .i64 t184] 27 (0, 0)) (by (with_reducible repeat (first | refine blk_drewN ?_ _ | refine blk_drew ?_ | refine blk_alloc ?_ _)); exact BK186.out) hb); have n5_ := Aside0.mk (blk_below (g := gb195) (o := .cells #[.slice Ao18 t190.length co18, .int .i64 t193] 27 (0, 0)) (by (with_reducible repeat (first | refine blk_drewN ?_ _ | refine blk_drew ?_ | refine blk_alloc ?_ _)); exact BK195.out) hb); have n6_ := Aside0.mk (below_step (by repeat (first | (with_reducible first | exact HB.out | apply below_alloc | apply pw_below_drewN | apply below_drew1 | refine below_set ?_ GE186.out | refine below_set ?_ GE195.out) | exact HB.out)) hb); clear HO_5; clear HO_187000; clear HO_196000; clear BK186; clear BK195; clear HB; have HO_5 := n0_; have HO_187000 := n1_; have HO_196000 := n2_; have HO199 := n3_; have BK186 := n4_; have BK195 := n5_; have HB := n6_; clear n0_ n1_ n2_ n3_ n4_ n5_ n6_; (try clear hb); (try clear hb2); (try clear hk); (try clear hi); (try clear ho0); obtain ⟨Ao113, co113, eo113⟩ := Kd.R_slice HO199.out; subst eo113) | ((with_reducible refine gate_callee (f := 24) rfl ?_); refine goesL_ (some 41) rfl rfl Try.func24 (by kernel_rfl) rfl #[.slice Ao15 t187.length co15, .slice Ao113 t197.length co113] rfl (by (try simp only [List.map_toArray, List.map_cons, List.map_nil]); first | done | rfl | (simp only [List.length_drop, List.length_take]; rfl)) ?_; (with_reducible refine (laws_eqIntS.calls kj6 _ _ t187 _ _ t197 false _ ?side1 ?side2 ?side3 ?side4 A33.out).mono ?_); (case side1 => repeat (first | exact (Kd.R_reads' HO_5.out).2.2 | (with_reducible refine Kd.C_alloc ?_ _) | (with_reducible refine Kd.C_drewN ?_ _) | (with_reducible refine Kd.C_drew ?_))); (case side2 => exact (Kd.R_reads' HO_5.out).2.1); (case side3 => repeat (first | exact (Kd.R_reads' HO199.out).2.2 | (with_reducible refine Kd.C_alloc ?_ _) | (with_reducible refine Kd.C_drewN ?_ _) | (with_reducible refine Kd.C_drew ?_))); (case side4 => exact (Kd.R_reads' HO199.out).2.1); rintro e w' ⟨rfl, ⟨nd, rfl⟩⟩; refine ⟨_, rfl, ?_⟩))
      go_ret
      exact ⟨by first | rfl | (simp [errW_none, errW_some] <;> rfl) | (simp [*, errW_none, errW_some] <;> rfl), by repeat (first | (with_reducible first | exact HB.out | apply below_alloc | apply pw_below_drewN | apply below_drew1 | refine below_set ?_ GE186.out | refine below_set ?_ GE195.out) | exact HB.out)⟩

/-- THE ONE PURE STATEMENT of laws_FnExactCupsOf: yours. -/
def laws_FnExactCupsOf.Pure : Prop := ∀ (l0 : List Int), l0.length ≤ maxLen → l0.length * 8 ≤ 140737488351232 → (∀ x ∈ l0, (Lit.int .i64 x).wf = true) → ∃ k, laws_FnExactCupsOf.f k l0 = some true
theorem laws_FnExactCupsOf.walk (P : laws_FnExactCupsOf.Pure) (a0 : Option Addr) (len0 cap0 : Nat) (z0 : List Int) (w : World) (w0 : (a0 = none ∧ len0 = 0 ∧ cap0 = 0 ∧ z0 = []) ∨ ∃ x, a0 = some x ∧ len0 ≤ cap0 ∧ cap0 ≤ maxLen ∧ z0.length = cap0 ∧ (∀ i, i < z0.length → w.cell? (x.add i) = some (.int .i64 (z0.getD i 0))) ∧ ∀ n ∈ z0, (Lit.int .i64 n).wf = true) (y0 : len0 * 8 ≤ 140737488351232) :
  Calls Try.prog 4 #[.slice a0 len0 cap0] w fun e w' => e = .returned (.bool true) ∧ Below w.heap.size w w' := by
 obtain ⟨l0, rfl, hr0, hm0, hw0, hc0⟩ := ReadsInt.ofRowC w0
 obtain ⟨k, h⟩ := P l0 hm0 y0 hw0
 refine (laws_FnExactCupsOf.calls k _ _ l0 true w (Kd.C_of_reads (d := (0 : Int)) (h1 := fun _ => rfl) hr0) hc0 h).mono ?_
 rintro e w' ⟨rfl, hd⟩
 exact ⟨rfl, hd⟩

end Go.Proofs.Ytidlipobpgfooaa.P
