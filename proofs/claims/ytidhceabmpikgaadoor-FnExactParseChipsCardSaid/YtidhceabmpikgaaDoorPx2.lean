/- Written by a program of this workplace (own_print.py, over the kit's print) for the functions that the statements reach, with contracts of its own. Lean checks it. -/
import Derived.Test.YtidhceabmpikgaaDoorPx0
namespace Go.Proofs.YtidhceabmpikgaaDoor.P
open Go.RowKit Go.Proofs.YtidhceabmpikgaaDoorW.PrintWords Go.Proofs.YtidhceabmpikgaaDoorW.PrintLast Go.Proofs.YtidhceabmpikgaaDoorW.PrintMore
attribute [local go_sem] max2_int min2_int max_two min_two max_three min_three max_four min_four   -- for this text's walks alone
set_option linter.unusedVariables false
set_option linter.unusedSimpArgs false

/-! ### impl_within: function 25 -/
def impl_within.f (a0 : Int) (a1 : Int) (a2 : Int) : Option (Bool) := if a0 ≥ a1 then (some (decide (a0 ≤ a2))) else (some false)
set_option maxHeartbeats 8000000 in
set_option maxRecDepth 100000 in
theorem impl_within.calls (a0 : Int) (a1 : Int) (a2 : Int) (r : Bool) (w : World) (h : impl_within.f a0 a1 a2 = some r) :
  Calls Tryd.prog 25 #[.int .i64 a0, .int .i64 a1, .int .i64 a2] w fun e w' => e = .returned (.bool r) ∧ Drawn0 w w' := by
 have H : (if a0 ≥ a1 then (some (decide (a0 ≤ a2))) else (some false)) = some r := h
 clear h
 by_cases c4 : a0 ≥ a1
 ·rw [if_pos c4] at H
  have c4b0 : decide (a1 ≤ a0) = true := decide_eq_true c4
  clear c4
  obtain rfl := Option.some.inj H
  go_enter Tryd.func25,Tryd.ntmps25
  go_wp2
  go_ret
  exact ⟨by first | rfl | (simp;done) | (simp [*];done),by repeat (first | exact Drawn0.refl _ | apply Drawn0.step)⟩
 ·rw [if_neg c4] at H
  have c4b0 : decide (a1 ≤ a0) = false := decide_eq_false c4
  clear c4
  obtain rfl := Option.some.inj H
  go_enter Tryd.func25,Tryd.ntmps25
  go_wp2
  go_ret
  exact ⟨by first | rfl | (simp;done) | (simp [*];done),by repeat (first | exact Drawn0.refl _ | apply Drawn0.step)⟩

/-! ### impl_areIn: function 26 -/
/-- All numbers are in a range. -/
def inB (lo hi x : Int) : Bool := decide (lo ≤ x) && decide (x ≤ hi)
def impl_areIn.f (l0 : List Int) (a1 : Int) (a2 : Int) : Option (Bool) := some (l0.all (inB a1 a2))
theorem inB_out_lo {lo hi x : Int} (h : x < lo) : inB lo hi x = false := by simp [inB];omega
theorem inB_out_hi {lo hi x : Int} (h : hi < x) : inB lo hi x = false := by simp [inB];omega
theorem inB_in {lo hi x : Int} (h : lo ≤ x) (h' : x ≤ hi) : inB lo hi x = true := by simp [inB];omega
set_option maxHeartbeats 1000000 in
theorem impl_areIn.lit (x lo hi : Int) (b1 b2 : Nat) (w : World) (h1 : w.cell? ⟨b1,0,none⟩ = some (.int .i64 lo)) (h2 : w.cell? ⟨b2,0,none⟩ = some (.int .i64 hi)) :
  Calls Tryd.prog 32 #[.int .i64 x, .pointer (some ⟨b1,0,none⟩), .pointer (some ⟨b2,0,none⟩)] w fun e w' => e = .returned (.bool (!(inB lo hi x))) ∧ Drawn0 w w' := by
 by_cases c1 : lo ≤ x
 ·by_cases c2 : x ≤ hi
  ·have e1 := inB_in c1 c2
   have HE := Aside0.mk e1
   clear e1
   go_enter Tryd.func32,Tryd.ntmps32
   go_wp2
   go_ret
   exact ⟨by rw [HE.out];rfl,Drawn0.refl _⟩
  ·have e1 := inB_out_hi (lo := lo) (show hi < x by omega)
   have HE := Aside0.mk e1
   clear e1
   go_enter Tryd.func32,Tryd.ntmps32
   go_wp2
   go_ret
   exact ⟨by rw [HE.out];rfl,Drawn0.refl _⟩
 ·have e1 := inB_out_lo (hi := hi) (show x < lo by omega)
  have HE := Aside0.mk e1
  clear e1
  go_enter Tryd.func32,Tryd.ntmps32
  go_wp2
  go_ret
  exact ⟨by rw [HE.out];rfl,Drawn0.refl _⟩
def impl_areIn.Idx (l : List Int) (lo hi : Int) (w : World) (e : Ending) (w' : World) : Prop := ∃ r : Int,e = .returned (.int .i64 r) ∧ decide (0 ≤ r) = !(l.all (inB lo hi)) ∧ Drawn0 w w'
set_option maxHeartbeats 2000000 in
theorem impl_areIn.index (A0 : Option Addr) (c0 : Nat) (l0 : List Int) (lo hi : Int) (b1 b2 : Nat) (w : World) (hr0 : Kd.C (Kd.int .i64) w A0 l0.length l0) (h1 : w.cell? ⟨b1,0,none⟩ = some (.int .i64 lo)) (h2 : w.cell? ⟨b2,0,none⟩ = some (.int .i64 hi)) :
  Calls Tryd.prog 42 #[.slice A0 l0.length c0, .func (.func 32) #[] #[.pointer (some ⟨b1,0,none⟩), .pointer (some ⟨b2,0,none⟩)]] w (impl_areIn.Idx l0 lo hi w) := by
 have HR0 := Aside0.mk hr0
 have hm := Kd.C_max hr0
 clear hr0
 go_enter Tryd.func42,Tryd.ntmps42
 go_wp2
 go_loopw [8] (fun i wr => ∃ k : Nat,k ≤ l0.length ∧ i = .int .i64 k ∧ Aside0 ((l0.take k).all (inB lo hi) = true) ∧ Drawn0 w wr) (fun i _ => l0.length - (intOf i).toNat)
 case atStart => exact ⟨0,Nat.zero_le _,rfl,⟨rfl⟩,Drawn0.refl _⟩
 case round =>
  obtain ⟨k,hk,rfl,HT,⟨m,rfl⟩⟩ := hrel
  by_cases hlt : k < l0.length
  ·obtain ⟨ad,e1,hx⟩ := Kd.at_int HR0.out (k : Int) (by omega) (by omega)
   cases e1
   rw [Int.toNat_natCast] at hx
   have HS : Aside0 ((l0.take (k + 1)).all (inB lo hi) = inB lo hi (rd l0 k)) := ⟨by
    rw [List.take_succ_eq_append_getElem hlt,List.all_append,HT.out]
    simp [rd,List.getD_eq_getElem?_getD,List.getElem?_eq_getElem hlt]⟩
   by_cases hb : inB lo hi (rd l0 k) = true
   ·have HB := Aside0.mk hb
    clear hb
    go_wp2_with (go_at_call 32;refine (impl_areIn.lit _ lo hi b1 b2 _ (by simpa using h1) (by simpa using h2)).mono ?_;rintro e w' ⟨rfl,⟨n,rfl⟩⟩;rw [HB.out])
    go_roundw
    case rel => exact ⟨k + 1,by omega,by go_num,⟨by rw [HS.out,HB.out]⟩,by repeat (first | exact Drawn0.refl _ | apply Drawn0.step)⟩
    case measure => simp [intOf];omega
   ·have HB : Aside0 (inB lo hi (rd l0 k) = false) := ⟨by simpa using hb⟩
    have HF : Aside0 (l0.all (inB lo hi) = false) := ⟨by
     rw [← List.take_append_drop (k + 1) l0,List.all_append,HS.out,HB.out];rfl⟩
    clear hb
    go_wp2_with (go_at_call 32;refine (impl_areIn.lit _ lo hi b1 b2 _ (by simpa using h1) (by simpa using h2)).mono ?_;rintro e w' ⟨rfl,⟨n,rfl⟩⟩;rw [HB.out])
    go_ret
    exact ⟨k,rfl,by rw [HF.out];simp,by repeat (first | exact Drawn0.refl _ | apply Drawn0.step)⟩
  ·have HF : Aside0 (l0.all (inB lo hi) = true) := ⟨by have := HT.out;rwa [List.take_of_length_le (by omega)] at this⟩
   go_wp2
   go_ret
   exact ⟨-1,rfl,by rw [HF.out];simp,by repeat (first | exact Drawn0.refl _ | apply Drawn0.step)⟩
set_option maxHeartbeats 1000000 in
theorem impl_areIn.contains (A0 : Option Addr) (c0 : Nat) (l0 : List Int) (lo hi : Int) (b1 b2 : Nat) (w : World) (hr0 : Kd.C (Kd.int .i64) w A0 l0.length l0) (h1 : w.cell? ⟨b1,0,none⟩ = some (.int .i64 lo)) (h2 : w.cell? ⟨b2,0,none⟩ = some (.int .i64 hi)) :
  Calls Tryd.prog 31 #[.slice A0 l0.length c0, .func (.func 32) #[] #[.pointer (some ⟨b1,0,none⟩), .pointer (some ⟨b2,0,none⟩)]] w fun e w' => e = .returned (.bool (!(l0.all (inB lo hi)))) ∧ Drawn0 w w' := by
 go_enter Tryd.func31,Tryd.ntmps31
 go_wp2_with fail
 refine (impl_areIn.index A0 c0 l0 lo hi b1 b2 _ hr0 h1 h2).mono ?_
 rintro e w1 ⟨r,rfl,hr,⟨n,rfl⟩⟩
 have HQ := Aside0.mk hr
 clear hr
 go_wp2
 go_ret
 exact ⟨by rw [← HQ.out];rfl,by repeat (first | exact Drawn0.refl _ | apply Drawn0.step)⟩
set_option maxHeartbeats 2000000 in
theorem impl_areIn.calls (A0 : Option Addr) (c0 : Nat) (l0 : List Int) (a1 : Int) (a2 : Int) (r : Bool) (w : World) (hr0 : Kd.C (Kd.int .i64) w A0 l0.length l0) (hc0 : l0.length ≤ c0) (h : impl_areIn.f l0 a1 a2 = some r) :
  Calls Tryd.prog 26 #[.slice A0 l0.length c0, .int .i64 a1, .int .i64 a2] w fun e w' => e = .returned (.bool r) ∧ Below w.heap.size w w' := by
 have HE := Aside0.mk (Option.some.inj h)
 clear h
 have hmf : ∀ (fn : Fn) (first cap : Array Value) (w : World),(Instr.makeFunc fn first cap).run Tryd.prog w = .ok (.func fn first cap) w := fun _ _ _ _ => rfl
 have hr2 : Aside0 (Kd.C (Kd.int .i64) ((w.alloc (.cells #[.int .i64 a1] 3)).alloc (.cells #[.int .i64 a2] 3)) A0 l0.length l0) := ⟨Kd.C_alloc (Kd.C_alloc hr0 _) _⟩
 clear hr0
 have hM2 : ((w.alloc (.cells #[.int .i64 a1] 3)).alloc (.cells #[.int .i64 a2] 3)).cell? ⟨w.heap.size,0,none⟩ = some (.int .i64 a1) := by
  rw [World.cell?_alloc_past _ _ _ (by simp),World.cell?_alloc_at _ _ _ _ rfl];rfl
 have hD2 : ((w.alloc (.cells #[.int .i64 a1] 3)).alloc (.cells #[.int .i64 a2] 3)).cell? ⟨w.heap.size + 1,0,none⟩ = some (.int .i64 a2) := by
  rw [World.cell?_alloc_at _ _ _ _ (by simp)];rfl
 have HM := Aside0.mk hM2
 have HD := Aside0.mk hD2
 clear hM2 hD2
 go_enter Tryd.func26,Tryd.ntmps26
 go_wp2_with fail
 refine (impl_areIn.contains A0 c0 l0 a1 a2 w.heap.size (w.heap.size + 1) _ hr2.out HM.out HD.out).mono ?_
 rintro e w1 ⟨rfl,⟨n,rfl⟩⟩
 go_wp2
 go_ret
 exact ⟨by rw [← HE.out];simp,pw_below_drewN (below_alloc (below_alloc (Below.refl _ _) _) _) _⟩

/-! ### impl_AreChips: function 18 -/
def impl_AreChips.f (l0 : List Int) : Option (Bool) := (impl_within.f (l0.length : Int) 1 20).bind fun t144 => (if t144 = true then ((impl_areIn.f l0 0 60).bind fun t145 => (some t145)) else (some false))
set_option maxHeartbeats 8000000 in
set_option maxRecDepth 100000 in
theorem impl_AreChips.calls (A0 : Option Addr) (c0 : Nat) (l0 : List Int) (r : Bool) (w : World) (hr0 : Kd.C (Kd.int .i64) w A0 l0.length l0) (hc0 : l0.length ≤ c0) (h : impl_AreChips.f l0 = some r) :
  Calls Tryd.prog 18 #[.slice A0 l0.length c0] w fun e w' => e = .returned (.bool r) ∧ Below w.heap.size w w' := by
 have HR0 := Aside0.mk hr0
 have HC0 := Aside0.mk hc0
 clear hr0 hc0
 have HB := Aside0.mk (Below.refl w.heap.size w)
 have H : ((impl_within.f (l0.length : Int) 1 20).bind fun t144 => (if t144 = true then ((impl_areIn.f l0 0 60).bind fun t145 => (some t145)) else (some false))) = some r := h
 clear h
 replace H := Option.bind_eq_some_iff.mp H
 obtain ⟨t144,A20,H⟩ := H
 replace H : (if t144 = true then ((impl_areIn.f l0 0 60).bind fun t145 => (some t145)) else (some false)) = some r := H
 have A2 := Aside0.mk A20
 clear A20
 by_cases c3 : t144 = true
 ·subst c3
  have H1 : ((impl_areIn.f l0 0 60).bind fun t145 => (some t145)) = some r := by rw [if_pos rfl] at H;exact H
  clear H
  have H := H1
  clear H1
  replace H := Option.bind_eq_some_iff.mp H
  obtain ⟨t145,A40,H⟩ := H
  replace H : (some t145) = some r := H
  have A4 := Aside0.mk A40
  clear A40
  obtain rfl := Option.some.inj H
  go_enter Tryd.func18,Tryd.ntmps18
  go_wp2_with (first | ((with_reducible refine gate_callee (f := 25) rfl ?_);refine goesL_ (some 5) rfl rfl Tryd.func25 (by kernel_rfl) rfl #[.int .i64 (l0.length : Int), .int .i64 1, .int .i64 20] rfl (by (try simp only [List.map_toArray,List.map_cons,List.map_nil]);first | done | rfl | (simp only [List.length_drop,List.length_take];rfl)) ?_;(with_reducible refine (impl_within.calls (l0.length : Int) 1 20 true _ A2.out).mono ?_);rintro e w' ⟨rfl,⟨nd,rfl⟩⟩;refine ⟨_,rfl,?_⟩) | (go_at_call 26;(with_reducible refine (impl_areIn.calls _ _ l0 0 60 t145 _ ?side1 ?side2 A4.out).mono ?_);(case side1 => repeat (first | exact HR0.out | (with_reducible refine Kd.C_alloc ?_ _) | (with_reducible refine Kd.C_drewN ?_ _) | (with_reducible refine Kd.C_drew ?_)));(case side2 => exact HC0.out);rintro e w5 ⟨rfl,hb⟩;have n0_ := Aside0.mk (below_step (by repeat (first | (with_reducible first | exact HB.out | apply below_alloc | apply pw_below_drewN | apply below_drew1) | exact HB.out)) hb);clear HB;have HB := n0_;clear n0_;(try clear hb);(try clear hb2);(try clear hk);(try clear hi)))
  go_ret
  exact ⟨by first | rfl | (simp [errW_none,errW_some] <;> rfl) | (simp [*,errW_none,errW_some] <;> rfl),by repeat (first | (with_reducible first | exact HB.out | apply below_alloc | apply pw_below_drewN | apply below_drew1) | exact HB.out)⟩
 ·replace c3 := Bool.eq_false_iff.mpr c3
  subst c3
  have H1 : (some false) = some r := by rw [if_neg (show ¬ (false = true) by decide)] at H;exact H
  clear H
  have H := H1
  clear H1
  obtain rfl := Option.some.inj H
  go_enter Tryd.func18,Tryd.ntmps18
  go_wp2_with (first | ((with_reducible refine gate_callee (f := 25) rfl ?_);refine goesL_ (some 5) rfl rfl Tryd.func25 (by kernel_rfl) rfl #[.int .i64 (l0.length : Int), .int .i64 1, .int .i64 20] rfl (by (try simp only [List.map_toArray,List.map_cons,List.map_nil]);first | done | rfl | (simp only [List.length_drop,List.length_take];rfl)) ?_;(with_reducible refine (impl_within.calls (l0.length : Int) 1 20 false _ A2.out).mono ?_);rintro e w' ⟨rfl,⟨nd,rfl⟩⟩;refine ⟨_,rfl,?_⟩))
  go_ret
  exact ⟨by first | rfl | (simp [errW_none,errW_some] <;> rfl) | (simp [*,errW_none,errW_some] <;> rfl),by repeat (first | (with_reducible first | exact HB.out | apply below_alloc | apply pw_below_drewN | apply below_drew1) | exact HB.out)⟩

/-! ### laws_eqIntS: function 7 -/
def laws_eqIntS.l0 : Nat → List Int → List Int → Int → Option (Bool)
 | 0,_,_,_ => none
 | k + 1,x0,x1,x5 => if x5 < (x0.length : Int) then (if 0 ≤ x5 then (if x5 < (x1.length : Int) then (if (rd x0 x5) = (rd x1 x5) then (laws_eqIntS.l0 k x0 x1 (wrap64 (x5 + 1))) else (some false)) else (none)) else (none)) else (some true)
def laws_eqIntS.f (k : Nat) (l0 : List Int) (l1 : List Int) : Option (Bool) := if (l0.length : Int) = (l1.length : Int) then (laws_eqIntS.l0 k l0 l1 0) else (some false)
theorem laws_eqIntS.mono_l : ∀ k,(∀ y0 y1 y2,LeO (laws_eqIntS.l0 k y0 y1 y2) (laws_eqIntS.l0 (k + 1) y0 y1 y2))
 | 0 => fun _ _ _ r h => by simp [laws_eqIntS.l0] at h
 | k + 1 => by
  have ih0 := laws_eqIntS.mono_l k
  ·intro y0 y1 y2
   unfold laws_eqIntS.l0
   repeat' first
   | (with_reducible exact ih0 _ _ _)
   | (with_reducible exact LeO.refl _)
   | (with_reducible exact LeO.none _)
   | (with_reducible refine LeO.ite ?_ ?_)
   | (with_reducible refine LeO.bind ?_ (fun _ => ?_))
   | exact ih0 _ _ _
   | exact LeO.none _
   | refine LeO.ite ?_ ?_
   | refine LeO.bind ?_ (fun _ => ?_)
theorem laws_eqIntS.mono : ∀ a0 a1 k,LeO (laws_eqIntS.f k a0 a1) (laws_eqIntS.f (k + 1) a0 a1) := by
 intro a0 a1 k
 have ih0 := laws_eqIntS.mono_l k
 unfold laws_eqIntS.f
 repeat' first
   | (with_reducible exact ih0 _ _ _)
   | (with_reducible exact LeO.refl _)
   | (with_reducible exact LeO.none _)
   | (with_reducible refine LeO.ite ?_ ?_)
   | (with_reducible refine LeO.bind ?_ (fun _ => ?_))
   | exact ih0 _ _ _
   | exact LeO.none _
   | refine LeO.ite ?_ ?_
   | refine LeO.bind ?_ (fun _ => ?_)
set_option maxHeartbeats 8000000 in
set_option maxRecDepth 100000 in
theorem laws_eqIntS.calls (k : Nat) (A0 : Option Addr) (c0 : Nat) (l0 : List Int) (A1 : Option Addr) (c1 : Nat) (l1 : List Int) (r : Bool) (w : World) (hr0 : Kd.C (Kd.int .i64) w A0 l0.length l0) (hc0 : l0.length ≤ c0) (hr1 : Kd.C (Kd.int .i64) w A1 l1.length l1) (hc1 : l1.length ≤ c1) (h : laws_eqIntS.f k l0 l1 = some r) :
  Calls Tryd.prog 7 #[.slice A0 l0.length c0, .slice A1 l1.length c1] w fun e w' => e = .returned (.bool r) ∧ Drawn0 w w' := by
 have HR0 := Aside0.mk hr0
 have HC0 := Aside0.mk hc0
 clear hr0 hc0
 have HR1 := Aside0.mk hr1
 have HC1 := Aside0.mk hc1
 clear hr1 hc1
 have H : (if (l0.length : Int) = (l1.length : Int) then (laws_eqIntS.l0 k l0 l1 0) else (some false)) = some r := h
 clear h
 by_cases c3 : (l0.length : Int) = (l1.length : Int)
 ·rw [if_pos c3] at H
  have c3b0 : ((l0.length : Int) == (l1.length : Int)) = true := beq_iff_eq.mpr c3
  have c3b1 : ((l0.length : Int) != (l1.length : Int)) = false := bne_eq_false_iff_eq.mpr c3
  have c3b2 : (l0.length == l1.length) = true := by first | simpa using c3 | (simp at c3 ⊢;omega)
  clear c3
  have H' := Aside0.mk H
  clear H
  go_enter Tryd.func7,Tryd.ntmps7
  go_wp2
  repeat (go_quiet (fail);try go_wp2)
  go_loopg [5] k (fun kq v5 w' => ∃ (x5_1 : Int),v5 = .int .i64 x5_1 ∧ Aside0 (laws_eqIntS.l0 kq l0 l1 x5_1 = some r) ∧ Aside0 (kq ≤ k) ∧ Drawn0 w w')
  case atStart => exact ⟨(0),(by first | rfl | (simp;done) | (simp [*];done)),H',⟨Nat.le_refl _⟩,by repeat (first | exact Drawn0.refl _ | apply Drawn0.step)⟩
  case round =>
   clear H'
   try clear c1
   try clear p2
   try clear c3
   try clear c3b0
   try clear c3b1
   try clear c3b2
   obtain ⟨x5_1,rfl,HA,HK1,⟨m1,rfl⟩⟩ := hrel
   cases gk with
   | zero => exact absurd HA.out (by simp [laws_eqIntS.l0])
   | succ k1 =>
    have H := HA.out
    clear HA
    simp only [laws_eqIntS.l0] at H
    by_cases c4 : x5_1 < (l0.length : Int)
    ·rw [if_pos c4] at H
     have c4b0 : decide (x5_1 < (l0.length : Int)) = true := decide_eq_true c4
     clear c4
     by_cases c5 : 0 ≤ x5_1
     ·rw [if_pos c5] at H
      have c5b0 : decide (0 ≤ x5_1) = true := decide_eq_true c5
      clear c5
      by_cases c6 : x5_1 < (l1.length : Int)
      ·rw [if_pos c6] at H
       have c6b0 : decide (x5_1 < (l1.length : Int)) = true := decide_eq_true c6
       clear c6
       by_cases c7 : (rd l0 x5_1) = (rd l1 x5_1)
       ·rw [if_pos c7] at H
        have c7b0 : ((rd l0 x5_1) == (rd l1 x5_1)) = true := beq_iff_eq.mpr c7
        have c7b1 : ((rd l0 x5_1) != (rd l1 x5_1)) = false := bne_eq_false_iff_eq.mpr c7
        clear c7
        have H' := Aside0.mk H
        clear H
        have p150 : 0 ≤ (x5_1 : Int) := of_decide_eq_true (by first | (with_reducible assumption) | assumption)
        have q150 : x5_1 < (l0.length : Int) := of_decide_eq_true (by first | (with_reducible assumption) | assumption)
        obtain ⟨ad150,e150,hx150_0⟩ := Kd.at_int HR0.out x5_1 p150 q150
        cases e150
        replace p150 := eq_true p150
        replace q150 := eq_true q150
        have p151 : 0 ≤ (x5_1 : Int) := of_decide_eq_true (by first | (with_reducible assumption) | assumption)
        have q151 : x5_1 < (l1.length : Int) := of_decide_eq_true (by first | (with_reducible assumption) | assumption)
        obtain ⟨ad151,e151,hx151_0⟩ := Kd.at_int HR1.out x5_1 p151 q151
        cases e151
        replace p151 := eq_true p151
        replace q151 := eq_true q151
        go_wp2
        repeat (go_quiet (fail);try go_wp2)
        go_roundg k1
        case measure => have := HK1.out;omega
        case rel => exact ⟨(wrap64 (x5_1 + 1)),(by first | rfl | (simp;done) | (simp [*];done)),H',⟨by have := HK1.out;omega⟩,by repeat (first | exact Drawn0.refl _ | apply Drawn0.step)⟩
       ·rw [if_neg c7] at H
        have c7b0 : ((rd l0 x5_1) == (rd l1 x5_1)) = false := beq_eq_false_iff_ne.mpr c7
        have c7b1 : ((rd l0 x5_1) != (rd l1 x5_1)) = true := bne_iff_ne.mpr c7
        obtain rfl := Option.some.inj H
        have p150 : 0 ≤ (x5_1 : Int) := of_decide_eq_true (by first | (with_reducible assumption) | assumption)
        have q150 : x5_1 < (l0.length : Int) := of_decide_eq_true (by first | (with_reducible assumption) | assumption)
        obtain ⟨ad150,e150,hx150_0⟩ := Kd.at_int HR0.out x5_1 p150 q150
        cases e150
        replace p150 := eq_true p150
        replace q150 := eq_true q150
        have p151 : 0 ≤ (x5_1 : Int) := of_decide_eq_true (by first | (with_reducible assumption) | assumption)
        have q151 : x5_1 < (l1.length : Int) := of_decide_eq_true (by first | (with_reducible assumption) | assumption)
        obtain ⟨ad151,e151,hx151_0⟩ := Kd.at_int HR1.out x5_1 p151 q151
        cases e151
        replace p151 := eq_true p151
        replace q151 := eq_true q151
        go_wp2
        repeat (go_quiet (fail);try go_wp2)
        go_ret
        exact ⟨by first | rfl | (simp;done) | (simp [*];done),by repeat (first | exact Drawn0.refl _ | apply Drawn0.step)⟩
      ·rw [if_neg c6] at H
       exact absurd H (by simp)
     ·rw [if_neg c5] at H
      exact absurd H (by simp)
    ·rw [if_neg c4] at H
     have c4b0 : decide (x5_1 < (l0.length : Int)) = false := decide_eq_false c4
     clear c4
     obtain rfl := Option.some.inj H
     go_wp2
     repeat (go_quiet (fail);try go_wp2)
     go_ret
     exact ⟨by first | rfl | (simp;done) | (simp [*];done),by repeat (first | exact Drawn0.refl _ | apply Drawn0.step)⟩
 ·rw [if_neg c3] at H
  have c3b0 : ((l0.length : Int) == (l1.length : Int)) = false := beq_eq_false_iff_ne.mpr c3
  have c3b1 : ((l0.length : Int) != (l1.length : Int)) = true := bne_iff_ne.mpr c3
  have c3b2 : (l0.length == l1.length) = false := by first | simpa using c3 | (simp at c3 ⊢;omega)
  obtain rfl := Option.some.inj H
  go_enter Tryd.func7,Tryd.ntmps7
  go_wp2
  repeat (go_quiet (fail);try go_wp2)
  go_ret
  exact ⟨by first | rfl | (simp;done) | (simp [*];done),by repeat (first | exact Drawn0.refl _ | apply Drawn0.step)⟩

end Go.Proofs.YtidhceabmpikgaaDoor.P
