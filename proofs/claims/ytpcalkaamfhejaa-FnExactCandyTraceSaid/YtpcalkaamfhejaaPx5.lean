/- Written by a program of this workplace (own_print.py, over the kit's print) for the functions that the statements reach, with contracts of its own. Lean checks it. -/
import Derived.Test.YtpcalkaamfhejaaPx0
import Derived.Test.YtpcalkaamfhejaaPx1
import Derived.Test.YtpcalkaamfhejaaPx2
import Derived.Test.YtpcalkaamfhejaaPx3
namespace Go.Proofs.Ytpcalkaamfhejaa.P
open Go.RowKit Go.Proofs.YtpcalkaamfhejaaW.PrintWords Go.Proofs.YtpcalkaamfhejaaW.PrintLast Go.Proofs.YtpcalkaamfhejaaW.PrintMore
attribute [local go_sem] max2_int min2_int max_two min_two max_three min_three max_four min_four   -- for this text's walks alone
set_option linter.unusedVariables false
set_option linter.unusedSimpArgs false

/-! ### spec_cyTrace: function 71 -/
def spec_cyTrace.l0 : Nat → List Int → List (List Int) → Option (List (List Int))
 | 0, _, _ => none
 | k + 1, x0, x3 => (spec_cyRest.f k x0).bind fun t => (if t = true then some x3 else ((spec_cyStep.f k x0).bind fun t1 => ((spec_l1Own.f t1).bind fun t2 => (if x3.length < 5864062014805 then spec_cyTrace.l0 k t1 (x3 ++ [t2]) else none))))
def spec_cyTrace.f (k : Nat) (l0 : List Int) : Option (List (List Int)) := (spec_l1Own.f l0).bind fun t1 => spec_cyTrace.l0 k l0 [t1]
theorem spec_cyTrace.mono_l : ∀ k, (∀ y0 y1, LeO (spec_cyTrace.l0 k y0 y1) (spec_cyTrace.l0 (k + 1) y0 y1))
 | 0 => fun _ _ r h => by simp [spec_cyTrace.l0] at h
 | k + 1 => by
  have ih := spec_cyTrace.mono_l k
  intro y0 y1
  unfold spec_cyTrace.l0
  refine LeO.bind (spec_cyRest.mono _ _) (fun _ => ?_)
  refine LeO.ite (LeO.refl _) ?_
  refine LeO.bind (spec_cyStep.mono _ _) (fun _ => ?_)
  refine LeO.bind (LeO.refl _) (fun _ => ?_)
  exact LeO.ite (ih _ _) (LeO.refl _)
theorem spec_cyTrace.mono : ∀ a0 k, LeO (spec_cyTrace.f k a0) (spec_cyTrace.f (k + 1) a0) := fun a0 k => by
 unfold spec_cyTrace.f
 exact LeO.bind (LeO.refl _) (fun _ => spec_cyTrace.mono_l k _ _)
/-- A row of numbers that came in, as one that is only read. -/
theorem spec_cyTrace.came {w W : World} {A : Option Addr} {c base e : Nat} {l : List Int} (h : Kd.C (Kd.int .i64) w A l.length l) (hc : l.length ≤ c) (hb : Below w.heap.size w W) : Kd.V (Kd.int .i64) e W base (fun k => k < w.heap.size) (.slice A l.length c) l :=
 Kd.V_mk hc (fun W' hW => (Kd.heap_int .i64).C (fun k hlt => (hW k hlt (Nat.lt_of_lt_of_le hlt hb.size)).trans (hb.block k hlt)) h)
set_option maxHeartbeats 8000000 in
set_option maxRecDepth 100000 in
/-- The rows lie apart (S): each is a copy. -/
theorem spec_cyTrace.calls (k : Nat) (A0 : Option Addr) (c0 : Nat) (l0 : List Int) (r : List (List Int)) (w : World) (hr0 : Kd.C (Kd.int .i64) w A0 l0.length l0) (hc0 : l0.length ≤ c0) (h : spec_cyTrace.f k l0 = some r) :
  Calls Try.prog 71 #[.slice A0 l0.length c0] w fun e w' => ∃ v0_ : Value, e = .returned v0_ ∧ Kd.S (Kd.slice 3 (Kd.int .i64)) 25 w' w.heap.size (fun _ => True) v0_ r ∧ Below w.heap.size w w' := by
 have HR0 := Aside0.mk hr0
 have HC0 := Aside0.mk hc0
 clear hr0 hc0
 unfold spec_cyTrace.f at h
 obtain ⟨t2, A2, h⟩ := Option.bind_eq_some_iff.mp h
 replace A2 := Aside0.mk A2
 have H' := Aside0.mk h
 clear h
 go_enter Try.func71, Try.ntmps71
 go_wp2_with fail
 refine (spec_l1Own.calls A0 c0 l0 t2 _ HR0.out HC0.out A2.out).mono ?_
 rintro e w2 ⟨v4, rfl, ho, hb⟩
 have HO4 := Aside0.mk ho
 have HB := Aside0.mk hb
 clear ho hb
 obtain ⟨Ao, co, eo⟩ := Kd.R_slice HO4.out
 subst eo
 go_wp2_with ((with_reducible refine gate_dst (N := 6) rfl ?_); refine Kd.S_lits (Kd.slice 3 (Kd.int .i64)) (w0 := w) w.heap.size 25 ?hg (N := 6) ?hd (xs := [t2]) (inner := [.slice Ao t2.length co]) (ok := fun _ => True) (fun j k_ => j = 0 ∧ some k_ = (.slice Ao t2.length co : Value).ownBlock) ?hr ?hl ?hrep ?hap (fun _ _ _ => trivial) trivial HB.out (below_size HB.out) (by simp) ?_; (case hd => rfl); (case hg => rfl); (case hr => first | (go_simp; done) | (go_simp; rfl)); (case hl => rfl); (case hap => (intro i j k_ h1 h2; exact h1.1.trans h2.1.symm)); (case hrep => (intro j x hj; cases j with | zero => (obtain rfl := Option.some.inj hj; exact Kd.M_row (Kd.R_mono (Kd.R_tight rfl HO4.out) (fun k_ hk => ⟨rfl, hk⟩))) | succ j => cases hj)); intro v5 w3 ho hb hg_ hnew_; have n0_ := Aside0.mk (Kd.V_mono (spec_cyTrace.came (e := 3) (base := w.heap.size) HR0.out HC0.out hb) (ok' := fun k_ => True ∧ some k_ ≠ v5.ownBlock) (fun k_ hk => ⟨trivial, fun e_ => by have := Kd.S_base ho k_ e_.symm; omega⟩)); have n1_ := Aside0.mk hb; have n2_ := Aside0.mk ho; clear HO4 HB ho hb hg_ hnew_; have HO0 := n0_; have HB := n1_; have HO3 := n2_; clear n0_ n1_ n2_)
 go_loopg [0, 3] k (fun kq v0 v3 w' => ∃ (x0_1 : List Int) (x3_1 : List (List Int)), Aside0 (spec_cyTrace.l0 kq x0_1 x3_1 = some r) ∧ Aside0 (kq ≤ k) ∧ Aside0 (Kd.V (Kd.int .i64) 3 w' w.heap.size (fun k_ => True ∧ some k_ ≠ (v3 : Value).ownBlock) v0 x0_1) ∧ Aside0 (Kd.S (Kd.slice 3 (Kd.int .i64)) 25 w' w.heap.size (fun _ => True) v3 x3_1) ∧ Aside0 (Below w.heap.size w w'))
 case atStart => exact ⟨l0, [t2], H', ⟨Nat.le_refl _⟩, HO0, HO3, HB⟩
 case round =>
  clear H' HO0 HO3 HB
  obtain ⟨x0_1, x3_1, HA, HK1, HO0, HO3, HB⟩ := hrel
  cases gk with
  | zero => exact absurd HA.out (by simp [spec_cyTrace.l0])
  | succ k1 =>
   have H := HA.out
   clear HA
   simp only [spec_cyTrace.l0] at H
   obtain ⟨t3, A3, H⟩ := Option.bind_eq_some_iff.mp H
   replace A3 := Aside0.mk A3
   obtain ⟨Ao0, co0, eo0⟩ := Kd.V_slice HO0.out
   subst eo0
   obtain ⟨Ao3, co3, eo3⟩ := Kd.S_slice HO3.out
   subst eo3
   cases t3 with
   | true =>
    rw [if_pos rfl] at H
    obtain rfl := Option.some.inj H
    clear H
    go_wp2_with fail
    refine (spec_cyRest.calls k1 Ao0 co0 x0_1 true _ (Kd.V_reads' HO0.out).2.2 (Kd.V_reads' HO0.out).2.1 A3.out).mono ?_
    rintro e w4 ⟨rfl, hb⟩
    have n0_ := Aside0.mk (Kd.S_below HO3.out hb)
    have n1_ := Aside0.mk (below_step HB.out hb)
    clear hb HB HO3 HO0
    go_wp2
    go_ret
    exact ⟨_, rfl, n0_.out, n1_.out⟩
   | false =>
    rw [if_neg (by decide)] at H
    obtain ⟨t4, A4, H⟩ := Option.bind_eq_some_iff.mp H
    replace A4 := Aside0.mk A4
    obtain ⟨t5, A5, H⟩ := Option.bind_eq_some_iff.mp H
    replace A5 := Aside0.mk A5
    by_cases c : x3_1.length < 5864062014805
    ·rw [if_pos c] at H
     have LM := Aside0.mk c
     have H' := Aside0.mk H
     clear c H
     go_wp2_with fail
     refine (spec_cyRest.calls k1 Ao0 co0 x0_1 false _ (Kd.V_reads' HO0.out).2.2 (Kd.V_reads' HO0.out).2.1 A3.out).mono ?_
     rintro e w4 ⟨rfl, hb⟩
     have n0_ := Aside0.mk (Kd.S_below HO3.out hb)
     have n1_ := Aside0.mk (below_step HB.out hb)
     have n2_ := Aside0.mk (Kd.V_below HO0.out hb)
     clear hb HB HO3 HO0
     have HO3 := n0_
     have HB := n1_
     have HO0 := n2_
     clear n0_ n1_ n2_
     go_wp2_with fail
     refine (spec_cyStep.calls k1 Ao0 co0 x0_1 t4 _ (Kd.V_reads' HO0.out).2.2 (Kd.V_reads' HO0.out).2.1 A4.out).mono ?_
     rintro e w5 ⟨v4, rfl, ho, hb⟩
     have n0_ := Aside0.mk (Kd.S_below HO3.out hb)
     have n1_ := Aside0.mk (below_step HB.out hb)
     have n2_ := Aside0.mk (Kd.R_lower ho (below_size HB.out))
     clear ho hb HB HO3 HO0
     have HO3 := n0_
     have HB := n1_
     have HO0 := n2_
     clear n0_ n1_ n2_
     obtain ⟨Ao6, co6, eo6⟩ := Kd.R_slice HO0.out
     subst eo6
     go_wp2_with fail
     refine (spec_l1Own.calls Ao6 co6 t4 t5 _ (Kd.R_reads' HO0.out).2.2 (Kd.R_reads' HO0.out).2.1 A5.out).mono ?_
     rintro e w6 ⟨v5, rfl, ho, hb⟩
     have n0_ := Aside0.mk (Kd.S_elder' HO3.out (Kd.R_base ho) hb)
     have n1_ := Aside0.mk (below_step HB.out hb)
     have n2_ := Aside0.mk (Kd.R_below HO0.out hb)
     have n3_ := Aside0.mk (Kd.R_lower ho (below_size HB.out))
     clear ho hb HB HO3 HO0
     have HO3 := n0_
     have HB := n1_
     have HO0 := n2_
     have HO5 := n3_
     clear n0_ n1_ n2_ n3_
     obtain ⟨Ao7, co7, eo7⟩ := Kd.R_slice HO5.out
     subst eo7
     go_wp2_with ((with_reducible refine gate_builtin (b := .append) (xs := #[.tmp 12, .tmp 15]) rfl ?_); at_builtin; refine Kd.S_append (Kd.slice 3 (Kd.int .i64)) (w0 := w) w.heap.size rfl (.tmp 12) (.tmp 15) 31 25 (.slice none 0 0) 24 rfl Try.underlying31 info25 rfl (by decide) (by omega) (.slice Ao3 x3_1.length co3) x3_1 t5 [.slice Ao7 t5.length co7] (fun _ => True) (fun k_ => some k_ = (.slice Ao7 t5.length co7 : Value).ownBlock) rfl rfl ?aP ?aK (fun _ _ => trivial) ?aO ?aB ?aS ?aL ?_; (case aP => exact Kd.M_row (Kd.R_tight rfl HO5.out)); (case aK => exact (fun k_ hk_ => ⟨trivial, ((Kd.R_apart' HO5.out (Kd.S_typed HO3.out) (by decide)).1 k_ hk_.symm).2⟩)); (case aB => exact HB.out); (case aO => exact Kd.S_mono HO3.out (fun k_ hk => ⟨trivial, fun e_ => hk.2 e_⟩)); (case aS => exact below_size HB.out); (case aL => have := LM.out; omega); intro v7 w7 ho hb hg hat; have n0_ := Aside0.mk (Kd.R_V (base' := w.heap.size) (Kd.R_after (ok := fun _ => True) (Kd.R_mono (Kd.R_apart' HO0.out (Kd.S_typed HO3.out) (by decide)) (fun _ hk => ⟨trivial, hk.2⟩)) hg hat)); have n1_ := Aside0.mk hb; have n2_ := Aside0.mk ho; clear HO3 HB HO0 HO5 ho hb hg hat; have HO0 := n0_; have HB := n1_; have HO3 := n2_; clear n0_ n1_ n2_)
     go_roundg k1
     case measure => have := HK1.out; omega
     case rel => exact ⟨t4, x3_1 ++ [t5], H', ⟨by have := HK1.out; omega⟩, HO0, HO3, HB⟩
    ·rw [if_neg c] at H
     exact absurd H (by simp)

/-! ### spec_CandyTrace: function 16 -/
def spec_CandyTrace.f (k : Nat) (l0 : List Int) : Option ((List (List Int)) × Bool) := (spec_cyGood.f k l0).bind fun t182 => (if t182 = true then ((spec_cyTrace.f k l0).bind fun t183 => (if (t183.length : Int) > 201 then (some (([] : List (List Int)), false)) else ((spec_cyTrace.f k l0).bind fun t186 => (some (t186, true))))) else (some (([] : List (List Int)), false)))
theorem spec_CandyTrace.mono : ∀ a0 k, LeO (spec_CandyTrace.f k a0) (spec_CandyTrace.f (k + 1) a0) := by
 intro a0 k
 unfold spec_CandyTrace.f
 repeat' first
   | (with_reducible exact spec_cyGood.mono _ _)
   | (with_reducible exact spec_cyTrace.mono _ _)
   | (with_reducible exact LeO.refl _)
   | (with_reducible exact LeO.none _)
   | (with_reducible refine LeO.ite ?_ ?_)
   | (with_reducible refine LeO.bind ?_ (fun _ => ?_))
   | exact spec_cyGood.mono _ _
   | exact spec_cyTrace.mono _ _
   | exact LeO.none _
   | refine LeO.ite ?_ ?_
   | refine LeO.bind ?_ (fun _ => ?_)
set_option maxHeartbeats 8000000 in
set_option maxRecDepth 100000 in
theorem spec_CandyTrace.calls (k : Nat) (A0 : Option Addr) (c0 : Nat) (l0 : List Int) (r1 : List (List Int)) (r2 : Bool) (w : World) (hr0 : Kd.C (Kd.int .i64) w A0 l0.length l0) (hc0 : l0.length ≤ c0) (h : spec_CandyTrace.f k l0 = some (r1, r2)) :
  Calls Try.prog 16 #[.slice A0 l0.length c0] w fun e w' => ∃ v0_ : Value, e = .returned (.tuple #[v0_, .bool r2]) ∧ Kd.S (Kd.slice 3 (Kd.int .i64)) 25 w' w.heap.size (fun _ => True) v0_ r1 ∧ Below w.heap.size w w' := by
 have HR0 := Aside0.mk hr0
 have HC0 := Aside0.mk hc0
 clear hr0 hc0
 have HB := Aside0.mk (Below.refl w.heap.size w)
 have H : ((spec_cyGood.f k l0).bind fun t182 => (if t182 = true then ((spec_cyTrace.f k l0).bind fun t183 => (if (t183.length : Int) > 201 then (some (([] : List (List Int)), false)) else ((spec_cyTrace.f k l0).bind fun t186 => (some (t186, true))))) else (some (([] : List (List Int)), false)))) = some (r1, r2) := h
 clear h
 replace H := Option.bind_eq_some_iff.mp H
 obtain ⟨t182, A20, H⟩ := H
 replace H : (if t182 = true then ((spec_cyTrace.f k l0).bind fun t183 => (if (t183.length : Int) > 201 then (some (([] : List (List Int)), false)) else ((spec_cyTrace.f k l0).bind fun t186 => (some (t186, true))))) else (some (([] : List (List Int)), false))) = some (r1, r2) := H
 have A2 := Aside0.mk A20
 clear A20
 by_cases c3 : t182 = true
 ·subst c3
  have H1 : ((spec_cyTrace.f k l0).bind fun t183 => (if (t183.length : Int) > 201 then (some (([] : List (List Int)), false)) else ((spec_cyTrace.f k l0).bind fun t186 => (some (t186, true))))) = some (r1, r2) := by rw [if_pos rfl] at H; exact H
  clear H
  have H := H1
  clear H1
  replace H := Option.bind_eq_some_iff.mp H
  obtain ⟨t183, A40, H⟩ := H
  replace H : (if (t183.length : Int) > 201 then (some (([] : List (List Int)), false)) else ((spec_cyTrace.f k l0).bind fun t186 => (some (t186, true)))) = some (r1, r2) := H
  have A4 := Aside0.mk A40
  clear A40
  by_cases c5 : (t183.length : Int) > 201
  ·rw [if_pos c5] at H
   have c5b0 : decide (201 < (t183.length : Int)) = true := decide_eq_true c5
   have c5b1 : decide (201 < t183.length) = true := decide_eq_true (by omega)
   clear c5
   simp only [Option.some.injEq, Prod.mk.injEq] at H
   obtain ⟨rfl, rfl⟩ := H
   go_enter Try.func16, Try.ntmps16
   go_wp2_with (first | ((with_reducible refine gate_callee (f := 70) rfl ?_); refine goesL_ (some 5) rfl rfl Try.func70 (by kernel_rfl) rfl #[.slice A0 l0.length c0] rfl (by (try simp only [List.map_toArray, List.map_cons, List.map_nil]); first | done | rfl | (simp only [List.length_drop, List.length_take]; rfl)) ?_; (with_reducible refine (spec_cyGood.calls k _ _ l0 true _ ?side1 ?side2 A2.out).mono ?_); (case side1 => repeat (first | exact HR0.out | (with_reducible refine Kd.C_alloc ?_ _) | (with_reducible refine Kd.C_drewN ?_ _) | (with_reducible refine Kd.C_drew ?_))); (case side2 => exact HC0.out); rintro e w' ⟨rfl, ⟨nd, rfl⟩⟩; refine ⟨_, rfl, ?_⟩) | (go_at_call 71; (with_reducible refine (spec_cyTrace.calls k _ _ l0 t183 _ ?side1 ?side2 A4.out).mono ?_); (case side1 => repeat (first | exact HR0.out | (with_reducible refine Kd.C_alloc ?_ _) | (with_reducible refine Kd.C_drewN ?_ _) | (with_reducible refine Kd.C_drew ?_))); (case side2 => exact HC0.out); rintro e w6 ⟨v184, rfl, ho0, hb⟩; have n0_ := Aside0.mk (Kd.S_lower ho0 (below_size (by repeat (first | (with_reducible first | exact HB.out | apply below_alloc | apply pw_below_drewN | apply below_drew1) | exact HB.out)))); have n1_ := Aside0.mk (below_step (by repeat (first | (with_reducible first | exact HB.out | apply below_alloc | apply pw_below_drewN | apply below_drew1) | exact HB.out)) hb); clear HB; have HO185 := n0_; have HB := n1_; clear n0_ n1_; (try clear hb); (try clear hb2); (try clear hk); (try clear hi); (try clear ho0); obtain ⟨Ao7, co7, eo7⟩ := Kd.S_slice HO185.out; subst eo7))
   go_ret2
   exact ⟨_, by first | rfl | (simp [errW_none, errW_some] <;> rfl) | (simp [*, errW_none, errW_some] <;> rfl), by first | exact Kd.S_nil _ _ _ _ _ | exact Kd.N_nil _ _ _ _ _ | exact Kd.V_nil _ _ _ _ _ | exact Kd.Q_nil _ _ _ _ _ | exact Kd.R_nil _ _ _ _ _, by repeat (first | (with_reducible first | exact HB.out | apply below_alloc | apply pw_below_drewN | apply below_drew1) | exact HB.out)⟩
  ·rw [if_neg c5] at H
   have c5b0 : decide (201 < (t183.length : Int)) = false := decide_eq_false c5
   have c5b1 : decide (201 < t183.length) = false := decide_eq_false (by omega)
   clear c5
   replace H := Option.bind_eq_some_iff.mp H
   obtain ⟨t186, A80, H⟩ := H
   replace H : (some (t186, true)) = some (r1, r2) := H
   have A8 := Aside0.mk A80
   clear A80
   simp only [Option.some.injEq, Prod.mk.injEq] at H
   obtain ⟨rfl, rfl⟩ := H
   go_enter Try.func16, Try.ntmps16
   go_wp2_with (first | ((with_reducible refine gate_callee (f := 70) rfl ?_); refine goesL_ (some 5) rfl rfl Try.func70 (by kernel_rfl) rfl #[.slice A0 l0.length c0] rfl (by (try simp only [List.map_toArray, List.map_cons, List.map_nil]); first | done | rfl | (simp only [List.length_drop, List.length_take]; rfl)) ?_; (with_reducible refine (spec_cyGood.calls k _ _ l0 true _ ?side1 ?side2 A2.out).mono ?_); (case side1 => repeat (first | exact HR0.out | (with_reducible refine Kd.C_alloc ?_ _) | (with_reducible refine Kd.C_drewN ?_ _) | (with_reducible refine Kd.C_drew ?_))); (case side2 => exact HC0.out); rintro e w' ⟨rfl, ⟨nd, rfl⟩⟩; refine ⟨_, rfl, ?_⟩) | (go_at_call 71; (with_reducible refine (spec_cyTrace.calls k _ _ l0 t183 _ ?side1 ?side2 A4.out).mono ?_); (case side1 => repeat (first | exact HR0.out | (with_reducible refine Kd.C_alloc ?_ _) | (with_reducible refine Kd.C_drewN ?_ _) | (with_reducible refine Kd.C_drew ?_))); (case side2 => exact HC0.out); rintro e w9 ⟨v184, rfl, ho0, hb⟩; have n0_ := Aside0.mk (Kd.S_lower ho0 (below_size (by repeat (first | (with_reducible first | exact HB.out | apply below_alloc | apply pw_below_drewN | apply below_drew1) | exact HB.out)))); have n1_ := Aside0.mk (below_step (by repeat (first | (with_reducible first | exact HB.out | apply below_alloc | apply pw_below_drewN | apply below_drew1) | exact HB.out)) hb); clear HB; have HO185 := n0_; have HB := n1_; clear n0_ n1_; (try clear hb); (try clear hb2); (try clear hk); (try clear hi); (try clear ho0); obtain ⟨Ao10, co10, eo10⟩ := Kd.S_slice HO185.out; subst eo10) | ((with_reducible refine gate_callee (f := 71) rfl ?_); refine goesL_ (some 14) rfl rfl Try.func71 (by kernel_rfl) rfl #[.slice A0 l0.length c0] rfl (by (try simp only [List.map_toArray, List.map_cons, List.map_nil]); first | done | rfl | (simp only [List.length_drop, List.length_take]; rfl)) ?_; (with_reducible refine (spec_cyTrace.calls k _ _ l0 t186 _ ?side1 ?side2 A8.out).mono ?_); (case side1 => repeat (first | exact (Kd.C_below HR0.out HB.out) | (with_reducible refine Kd.C_alloc ?_ _) | (with_reducible refine Kd.C_drewN ?_ _) | (with_reducible refine Kd.C_drew ?_))); (case side2 => exact HC0.out); rintro e w11 ⟨v187, rfl, ho0, hb⟩; refine ⟨_, rfl, ?_⟩; have n0_ := Aside0.mk (Kd.S_elder' (by (with_reducible repeat (first | apply Kd.S_alloc | apply Kd.S_drewN | apply Kd.S_drew)); exact HO185.out) (Kd.S_base ho0) hb); have n1_ := Aside0.mk (Kd.S_lower (Kd.S_new' ho0 (Kd.S_lt (by (with_reducible repeat (first | apply Kd.S_alloc | apply Kd.S_drewN | apply Kd.S_drew)); exact HO185.out))) (below_size (by repeat (first | (with_reducible first | exact HB.out | apply below_alloc | apply pw_below_drewN | apply below_drew1) | exact HB.out)))); have n2_ := Aside0.mk (below_step (by repeat (first | (with_reducible first | exact HB.out | apply below_alloc | apply pw_below_drewN | apply below_drew1) | exact HB.out)) hb); clear HO185; clear HB; have HO185 := n0_; have HO188 := n1_; have HB := n2_; clear n0_ n1_ n2_; (try clear hb); (try clear hb2); (try clear hk); (try clear hi); (try clear ho0)))
   go_ret2
   exact ⟨_, by first | rfl | (simp [errW_none, errW_some] <;> rfl) | (simp [*, errW_none, errW_some] <;> rfl), by (with_reducible repeat (first | apply Kd.S_alloc | apply Kd.S_drewN | apply Kd.S_drew)); exact Kd.S_mono HO188.out (fun _ hk => trivial), by repeat (first | (with_reducible first | exact HB.out | apply below_alloc | apply pw_below_drewN | apply below_drew1) | exact HB.out)⟩
 ·replace c3 := Bool.eq_false_iff.mpr c3
  subst c3
  have H1 : (some (([] : List (List Int)), false)) = some (r1, r2) := by rw [if_neg (show ¬ (false = true) by decide)] at H; exact H
  clear H
  have H := H1
  clear H1
  simp only [Option.some.injEq, Prod.mk.injEq] at H
  obtain ⟨rfl, rfl⟩ := H
  go_enter Try.func16, Try.ntmps16
  go_wp2_with (first | ((with_reducible refine gate_callee (f := 70) rfl ?_); refine goesL_ (some 5) rfl rfl Try.func70 (by kernel_rfl) rfl #[.slice A0 l0.length c0] rfl (by (try simp only [List.map_toArray, List.map_cons, List.map_nil]); first | done | rfl | (simp only [List.length_drop, List.length_take]; rfl)) ?_; (with_reducible refine (spec_cyGood.calls k _ _ l0 false _ ?side1 ?side2 A2.out).mono ?_); (case side1 => repeat (first | exact HR0.out | (with_reducible refine Kd.C_alloc ?_ _) | (with_reducible refine Kd.C_drewN ?_ _) | (with_reducible refine Kd.C_drew ?_))); (case side2 => exact HC0.out); rintro e w' ⟨rfl, ⟨nd, rfl⟩⟩; refine ⟨_, rfl, ?_⟩))
  go_ret2
  exact ⟨_, by first | rfl | (simp [errW_none, errW_some] <;> rfl) | (simp [*, errW_none, errW_some] <;> rfl), by first | exact Kd.S_nil _ _ _ _ _ | exact Kd.N_nil _ _ _ _ _ | exact Kd.V_nil _ _ _ _ _ | exact Kd.Q_nil _ _ _ _ _ | exact Kd.R_nil _ _ _ _ _, by repeat (first | (with_reducible first | exact HB.out | apply below_alloc | apply pw_below_drewN | apply below_drew1) | exact HB.out)⟩

/-! ### impl_CandyTrace: function 18 -/
def impl_CandyTrace.l0 : Nat → List Int → List (List Int) → Option (List (List Int) × Bool)
 | 0, _, _ => none
 | k + 1, x4, x5 => (impl_isResting.f k x4).bind fun t => (if t = true then some (x5, true) else (if x5.length > 200 then some ([], false) else ((impl_candyStep.f k x4).bind fun t2 => impl_CandyTrace.l0 k t2 (x5 ++ [t2]))))
def impl_CandyTrace.f (k : Nat) (l0 : List Int) : Option (List (List Int) × Bool) := (impl_AreCandies.f l0).bind fun t => (if t = true then ((slices_Clone_int_int.f l0).bind fun t1 => impl_CandyTrace.l0 k t1 [t1]) else some ([], false))
theorem impl_CandyTrace.mono_l : ∀ k, (∀ y0 y1, LeO (impl_CandyTrace.l0 k y0 y1) (impl_CandyTrace.l0 (k + 1) y0 y1))
 | 0 => fun _ _ r h => by simp [impl_CandyTrace.l0] at h
 | k + 1 => by
  have ih := impl_CandyTrace.mono_l k
  intro y0 y1
  unfold impl_CandyTrace.l0
  refine LeO.bind (impl_isResting.mono _ _) (fun _ => ?_)
  refine LeO.ite (LeO.refl _) ?_
  refine LeO.ite (LeO.refl _) ?_
  exact LeO.bind (impl_candyStep.mono _ _) (fun _ => ih _ _)
theorem impl_CandyTrace.mono : ∀ a0 k, LeO (impl_CandyTrace.f k a0) (impl_CandyTrace.f (k + 1) a0) := fun a0 k => by
 unfold impl_CandyTrace.f
 refine LeO.bind (LeO.refl _) (fun _ => ?_)
 refine LeO.ite ?_ (LeO.refl _)
 exact LeO.bind (LeO.refl _) (fun _ => impl_CandyTrace.mono_l k _ _)
set_option maxHeartbeats 8000000 in
set_option maxRecDepth 100000 in
/-- The rows lie apart (S): each is made by its own step. -/
theorem impl_CandyTrace.calls (k : Nat) (A0 : Option Addr) (c0 : Nat) (l0 : List Int) (r1 : List (List Int)) (r2 : Bool) (w : World) (hr0 : Kd.C (Kd.int .i64) w A0 l0.length l0) (hc0 : l0.length ≤ c0) (h : impl_CandyTrace.f k l0 = some (r1, r2)) :
  Calls Try.prog 18 #[.slice A0 l0.length c0] w fun e w' => ∃ v0_ : Value, e = .returned (.tuple #[v0_, .bool r2]) ∧ Kd.S (Kd.slice 3 (Kd.int .i64)) 25 w' w.heap.size (fun _ => True) v0_ r1 ∧ Below w.heap.size w w' := by
 have HR0 := Aside0.mk hr0
 have HC0 := Aside0.mk hc0
 clear hr0 hc0
 unfold impl_CandyTrace.f at h
 obtain ⟨t1, A1, h⟩ := Option.bind_eq_some_iff.mp h
 replace A1 := Aside0.mk A1
 cases t1 with
 | false =>
  rw [if_neg (by decide)] at h
  simp only [Option.some.injEq, Prod.mk.injEq] at h
  obtain ⟨rfl, rfl⟩ := h
  go_enter Try.func18, Try.ntmps18
  go_wp2_with fail
  refine (impl_AreCandies.calls A0 c0 l0 false _ HR0.out HC0.out A1.out).mono ?_
  rintro e w1 ⟨rfl, hb⟩
  have HB := Aside0.mk hb
  clear hb
  go_wp2
  go_ret2
  exact ⟨_, rfl, Kd.S_nil _ _ _ _ _, HB.out⟩
 | true =>
  rw [if_pos rfl] at h
  obtain ⟨t2, A2, h⟩ := Option.bind_eq_some_iff.mp h
  replace A2 := Aside0.mk A2
  have H' := Aside0.mk h
  clear h
  go_enter Try.func18, Try.ntmps18
  go_wp2_with fail
  refine (impl_AreCandies.calls A0 c0 l0 true _ HR0.out HC0.out A1.out).mono ?_
  rintro e w1 ⟨rfl, hb⟩
  have HB1 := Aside0.mk hb
  clear hb
  go_wp2_with fail
  refine (slices_Clone_int_int.calls A0 c0 l0 t2 _ (Kd.C_below HR0.out HB1.out) HC0.out A2.out).mono ?_
  rintro e w2 ⟨v4, rfl, ho, hb⟩
  have HO4 := Aside0.mk (Kd.R_lower ho (below_size HB1.out))
  have HB := Aside0.mk (below_step HB1.out hb)
  clear ho hb HB1
  obtain ⟨Ao, co, eo⟩ := Kd.R_slice HO4.out
  subst eo
  go_wp2_with ((with_reducible refine gate_dst (N := 12) rfl ?_); refine Kd.S_lits (Kd.slice 3 (Kd.int .i64)) (w0 := w) w.heap.size 25 ?hg (N := 12) ?hd (xs := [t2]) (inner := [.slice Ao t2.length co]) (ok := fun _ => True) (fun j k_ => j = 0 ∧ some k_ = (.slice Ao t2.length co : Value).ownBlock) ?hr ?hl ?hrep ?hap (fun _ _ _ => trivial) trivial HB.out (below_size HB.out) (by simp) ?_; (case hd => rfl); (case hg => rfl); (case hr => first | (go_simp; done) | (go_simp; rfl)); (case hl => rfl); (case hap => (intro i j k_ h1 h2; exact h1.1.trans h2.1.symm)); (case hrep => (intro j x hj; cases j with | zero => (obtain rfl := Option.some.inj hj; exact Kd.M_row (Kd.R_mono (Kd.R_tight rfl HO4.out) (fun k_ hk => ⟨rfl, hk⟩))) | succ j => cases hj)); intro v5 w3 ho hb hg_ hnew_; have n0_ := Aside0.mk (Kd.R_grown HO4.out hg_ (fun _ _ => by simp)); have n1_ := Aside0.mk hb; have n2_ := Aside0.mk ho; clear HO4 HB ho hb hg_ hnew_; have HO4 := n0_; have HB := n1_; have HO5 := n2_; clear n0_ n1_ n2_)
  go_loopg [4, 5] k (fun kq v4 v5 w' => ∃ (x4_1 : List Int) (x5_1 : List (List Int)), Aside0 (impl_CandyTrace.l0 kq x4_1 x5_1 = some (r1, r2)) ∧ Aside0 (kq ≤ k) ∧ Aside0 (Kd.R (Kd.int .i64) 3 w' w.heap.size (fun _ => True) v4 x4_1) ∧ Aside0 (Kd.S (Kd.slice 3 (Kd.int .i64)) 25 w' w.heap.size (fun _ => True) v5 x5_1) ∧ Aside0 (Below w.heap.size w w'))
  case atStart => exact ⟨t2, [t2], H', ⟨Nat.le_refl _⟩, HO4, HO5, HB⟩
  case round =>
   clear H' HO4 HO5 HB
   obtain ⟨x4_1, x5_1, HA, HK1, HO4, HO5, HB⟩ := hrel
   cases gk with
   | zero => exact absurd HA.out (by simp [impl_CandyTrace.l0])
   | succ k1 =>
    have H := HA.out
    clear HA
    simp only [impl_CandyTrace.l0] at H
    obtain ⟨t3, A3, H⟩ := Option.bind_eq_some_iff.mp H
    replace A3 := Aside0.mk A3
    obtain ⟨Ao4, co4, eo4⟩ := Kd.R_slice HO4.out
    subst eo4
    obtain ⟨Ao5, co5, eo5⟩ := Kd.S_slice HO5.out
    subst eo5
    cases t3 with
    | true =>
     rw [if_pos rfl] at H
     simp only [Option.some.injEq, Prod.mk.injEq] at H
     obtain ⟨rfl, rfl⟩ := H
     go_wp2_with fail
     refine (impl_isResting.calls k1 Ao4 co4 x4_1 true _ (Kd.R_reads' HO4.out).2.2 (Kd.R_reads' HO4.out).2.1 A3.out).mono ?_
     rintro e w4 ⟨rfl, hb⟩
     have n0_ := Aside0.mk (Kd.S_below HO5.out hb)
     have n1_ := Aside0.mk (below_step HB.out hb)
     clear hb HB HO5 HO4
     go_wp2
     go_ret2
     exact ⟨_, rfl, n0_.out, n1_.out⟩
    | false =>
     rw [if_neg (by decide)] at H
     by_cases c : x5_1.length > 200
     ·rw [if_pos c] at H
      simp only [Option.some.injEq, Prod.mk.injEq] at H
      obtain ⟨rfl, rfl⟩ := H
      have cb : decide ((x5_1.length : Int) > 200) = true := decide_eq_true (by omega)
      clear c
      go_wp2_with fail
      refine (impl_isResting.calls k1 Ao4 co4 x4_1 false _ (Kd.R_reads' HO4.out).2.2 (Kd.R_reads' HO4.out).2.1 A3.out).mono ?_
      rintro e w4 ⟨rfl, hb⟩
      have n1_ := Aside0.mk (below_step HB.out hb)
      clear hb HB HO5 HO4
      go_wp2
      go_ret2
      exact ⟨_, rfl, Kd.S_nil _ _ _ _ _, n1_.out⟩
     ·rw [if_neg c] at H
      have cb : decide ((x5_1.length : Int) > 200) = false := decide_eq_false (by omega)
      have LM := Aside0.mk c
      clear c
      obtain ⟨t4, A4, H⟩ := Option.bind_eq_some_iff.mp H
      replace A4 := Aside0.mk A4
      have H' := Aside0.mk H
      clear H
      go_wp2_with fail
      refine (impl_isResting.calls k1 Ao4 co4 x4_1 false _ (Kd.R_reads' HO4.out).2.2 (Kd.R_reads' HO4.out).2.1 A3.out).mono ?_
      rintro e w4 ⟨rfl, hb⟩
      have n0_ := Aside0.mk (Kd.S_below HO5.out hb)
      have n1_ := Aside0.mk (below_step HB.out hb)
      have n2_ := Aside0.mk (Kd.R_below HO4.out hb)
      clear hb HB HO5 HO4
      have HO5 := n0_
      have HB := n1_
      have HO4 := n2_
      clear n0_ n1_ n2_
      go_wp2_with fail
      refine (impl_candyStep.calls k1 Ao4 co4 x4_1 t4 _ (Kd.R_reads' HO4.out).2.2 (Kd.R_reads' HO4.out).2.1 A4.out).mono ?_
      rintro e w5 ⟨v4, rfl, ho, hb⟩
      have n0_ := Aside0.mk (Kd.S_elder' HO5.out (Kd.R_base ho) hb)
      have n1_ := Aside0.mk (below_step HB.out hb)
      have n2_ := Aside0.mk (Kd.R_lower ho (below_size HB.out))
      clear ho hb HB HO5 HO4
      have HO5 := n0_
      have HB := n1_
      have HO4 := n2_
      clear n0_ n1_ n2_
      obtain ⟨Ao6, co6, eo6⟩ := Kd.R_slice HO4.out
      subst eo6
      go_wp2_with ((with_reducible refine gate_builtin (b := .append) (xs := #[.tmp 21, .tmp 23]) rfl ?_); at_builtin; refine Kd.S_append (Kd.slice 3 (Kd.int .i64)) (w0 := w) w.heap.size rfl (.tmp 21) (.tmp 23) 31 25 (.slice none 0 0) 24 rfl Try.underlying31 info25 rfl (by decide) (by omega) (.slice Ao5 x5_1.length co5) x5_1 t4 [.slice Ao6 t4.length co6] (fun _ => True) (fun k_ => some k_ = (.slice Ao6 t4.length co6 : Value).ownBlock) rfl rfl ?aP ?aK (fun _ _ => trivial) ?aO ?aB ?aS ?aL ?_; (case aP => exact Kd.M_row (Kd.R_tight rfl HO4.out)); (case aK => exact (fun k_ hk_ => ⟨trivial, ((Kd.R_apart' HO4.out (Kd.S_typed HO5.out) (by decide)).1 k_ hk_.symm).2⟩)); (case aB => exact HB.out); (case aO => exact Kd.S_mono HO5.out (fun k_ hk => ⟨trivial, fun e_ => hk.2 e_⟩)); (case aS => exact below_size HB.out); (case aL => have := LM.out; omega); intro v7 w6 ho hb hg hat; have n0_ := Aside0.mk (Kd.R_mono (Kd.R_after (ok := fun _ => True) (Kd.R_mono (Kd.R_apart' HO4.out (Kd.S_typed HO5.out) (by decide)) (fun _ hk => ⟨trivial, hk.2⟩)) hg hat) (ok' := fun _ => True) (fun _ _ => trivial)); have n1_ := Aside0.mk hb; have n2_ := Aside0.mk ho; clear HO5 HB HO4 ho hb hg hat; have HO4 := n0_; have HB := n1_; have HO5 := n2_; clear n0_ n1_ n2_)
      go_roundg k1
      case measure => have := HK1.out; omega
      case rel => exact ⟨t4, x5_1 ++ [t4], H', ⟨by have := HK1.out; omega⟩, HO4, HO5, HB⟩

end Go.Proofs.Ytpcalkaamfhejaa.P
