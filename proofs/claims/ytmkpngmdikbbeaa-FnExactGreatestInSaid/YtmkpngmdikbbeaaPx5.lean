/- Written by a program of this workplace (own_print.py, over the kit's print) for the functions that the statements reach, with contracts of its own. Lean checks it. -/
import Derived.Test.YtmkpngmdikbbeaaPx0
namespace Go.Proofs.Ytmkpngmdikbbeaa.P
open Go.RowKit Go.Proofs.YtmkpngmdikbbeaaW.PrintWords Go.Proofs.YtmkpngmdikbbeaaW.PrintLast Go.Proofs.YtmkpngmdikbbeaaW.PrintMore
attribute [local go_sem] max2_int min2_int max_two min_two max_three min_three max_four min_four   -- for this text's walks alone
set_option linter.unusedVariables false
set_option linter.unusedSimpArgs false

/-! ### spec_l1Own: function 74 -/
def spec_l1Own.f (l0 : List Int) : Option (List Int) := (some (([] : List Int) : List Int)).bind fun y184 => (if y184.length + l0.length < 17592186044416 then (some (y184 ++ l0)) else (none))
set_option maxHeartbeats 8000000 in
set_option maxRecDepth 100000 in
theorem spec_l1Own.calls (A0 : Option Addr) (c0 : Nat) (l0 : List Int) (r : List Int) (w : World) (hr0 : Kd.C (Kd.int .i64) w A0 l0.length l0) (hc0 : l0.length ≤ c0) (h : spec_l1Own.f l0 = some r) :
  Calls Try.prog 74 #[.slice A0 l0.length c0] w fun e w' => ∃ v0_ : Value,e = .returned (v0_) ∧ Kd.R (Kd.int .i64) 3 w' w.heap.size (fun _ => True) v0_ r ∧ Below w.heap.size w w' := by
 have HR0 := Aside0.mk hr0
 have HC0 := Aside0.mk hc0
 clear hr0 hc0
 have HB := Aside0.mk (Below.refl w.heap.size w)
 have H : ((some (([] : List Int) : List Int)).bind fun y184 => (if y184.length + l0.length < 17592186044416 then (some (y184 ++ l0)) else (none))) = some r := h
 clear h
 obtain ⟨y184,hy184⟩ : ∃ y_ : List Int,y_ = (([] : List Int)) := ⟨_,rfl⟩
 replace H : (if y184.length + l0.length < 17592186044416 then (some (y184 ++ l0)) else (none)) = some r := by first | (rw [hy184];with_reducible exact H) | (have H2_ := (Option.bind_some _ _).symm.trans H;rw [hy184];with_reducible exact H2_) | (have H2_ := (Option.bind_some _ _).symm.trans H;with_reducible exact H2_) | with_reducible exact H | (rw [hy184];exact H) | exact H
 have Ny184 := Aside0.mk hy184
 clear hy184
 by_cases c2 : y184.length + l0.length < 17592186044416
 ·rw [if_pos c2] at H
  have LMc2 := Aside0.mk c2
  clear c2
  obtain ⟨y187,hy187⟩ : ∃ y_ : List Int,y_ = (y184 ++ l0) := ⟨_,rfl⟩
  replace H : (some y187) = some r := by first | (rw [hy187];with_reducible exact H) | (have H2_ := (Option.bind_some _ _).symm.trans H;rw [hy187];with_reducible exact H2_) | (have H2_ := (Option.bind_some _ _).symm.trans H;with_reducible exact H2_) | with_reducible exact H | (rw [hy187];exact H) | exact H
  have Ny187 := Aside0.mk hy187
  clear hy187
  obtain rfl := Option.some.inj H
  go_enter Try.func74,Try.ntmps74
  go_wp2_with (first | ((with_reducible refine gate_dst (N := 3) rfl ?_);refine Kd.R_lit (Kd.int .i64) _ 3 ?hg (N := 3) ?hd (xs := ([] : List Int)) (inner := []) (ok := fun _ => True) (okp := fun _ => True) ?hr ?hp (fun _ hk => hk) trivial (Below.refl _ _) (Nat.le_refl _) (by simp) ?_;(case hd => rfl);(case hg => rfl);(case hr => first | (go_simp;done) | (go_simp;rfl));(case hp => exact (Reps.none _ _));intro v185 w3 ho4 hb hg_ hnew_;clear hg_ hnew_;(first | rw [← Ny184.out] at ho4 | (simp only [Int.reduceToNat] at ho4;rw [← Ny184.out] at ho4));have n0_ := Aside0.mk (Kd.R_lower ho4 (below_size (by repeat (first | (with_reducible first | exact HB.out | apply below_alloc | apply pw_below_drewN | apply below_drew1) | exact HB.out))));have n1_ := Aside0.mk (below_step (by repeat (first | (with_reducible first | exact HB.out | apply below_alloc | apply pw_below_drewN | apply below_drew1) | exact HB.out)) hb);clear HB;have HO186 := n0_;have HB := n1_;clear n0_ n1_;clear hb ho4) | ((with_reducible refine gate_builtin (b := .append) (xs := #[.tmp 3, .tmp 4]) rfl ?_);at_builtin;refine Kd.R_append_rows (Kd.int .i64) (w0 := w) w.heap.size rfl (.tmp 3) (.tmp 4) 22 3 (.int .i64 0) 8 rfl Try.underlying22 info3 rfl (by decide) (by omega) v185 y184 l0 _ _ _ (fun _ => True) (fun _ => False) rfl rfl ?aO ?aR (fun _ _ h => h) (fun _ h => h.elim) ?aF ?aB ?aS ?aL ?_;(case aR => repeat (first | exact (Kd.C_below HR0.out HB.out) | (with_reducible refine Kd.C_alloc ?_ _) | (with_reducible refine Kd.C_drewN ?_ _) | (with_reducible refine Kd.C_drew ?_)));(case aB => exact (by repeat (first | (with_reducible first | exact HB.out | apply below_alloc | apply pw_below_drewN | apply below_drew1) | exact HB.out)));(case aF => exact (fun _ _ => trivial));(case aO => exact (by (with_reducible repeat (first | apply Kd.R_alloc | apply Kd.R_drewN | apply Kd.R_drew));exact HO186.out));(case aS => exact (below_size (by repeat (first | (with_reducible first | exact HB.out | apply below_alloc | apply pw_below_drewN | apply below_drew1) | exact HB.out))));(case aL => have := LMc2.out;omega);intro v188 w5 ho hb hg hat;rw [← Ny187.out] at ho;have n0_ := Aside0.mk (hb);have n1_ := Aside0.mk (ho);clear HB;clear HO186;have HB := n0_;have HO189 := n1_;clear n0_ n1_;clear ho hb hg hat))
  go_ret
  exact ⟨_,by first | rfl | (simp [errW_none,errW_some] <;> rfl) | (simp [*,errW_none,errW_some] <;> rfl),by (with_reducible repeat (first | apply Kd.R_alloc | apply Kd.R_drewN | apply Kd.R_drew));exact HO189.out,by repeat (first | (with_reducible first | exact HB.out | apply below_alloc | apply pw_below_drewN | apply below_drew1) | exact HB.out)⟩
 ·rw [if_neg c2] at H
  exact absurd H (by simp)

/-! ### spec_cuLow: function 56 -/
mutual
def spec_cuLow.l0 : Nat → List Int → Int → Option (List Int × Int)
 | 0,_,_ => none
 | k + 1,x196000,x196001 => if x196001 > 1 then (spec_cuLow.l1 k x196000 (x196000.length : Int) 0 x196000 x196001) else (some (x196000,x196001))
def spec_cuLow.l1 : Nat → List Int → Int → Int → List Int → Int → Option (List Int × Int)
 | 0,_,_,_,_,_ => none
 | k + 1,x17,x18,x19,x196000,x196001 => if x19 < x18 then (if 0 ≤ x19 then (if x19 < (x17.length : Int) then (if (Int.tmod (rd x17 x19) 2) = 1 then (some (x196000,x196001)) else (spec_cuLow.l1 k x17 x18 (wrap64 (x19 + 1)) x196000 x196001)) else (none)) else (none)) else (spec_cuLow.l2 k (x196000.length : Int) 0 x196000 x196001)
def spec_cuLow.l2 : Nat → Int → Int → List Int → Int → Option (List Int × Int)
 | 0,_,_,_,_ => none
 | k + 1,x30,x31,x196000,x196001 => if x31 < x30 then (if 0 ≤ x31 then (if x31 < (x196000.length : Int) then (spec_cuLow.l2 k x30 (wrap64 (x31 + 1)) (x196000.set (x31 : Int).toNat (wrap64 (Int.tdiv (rd x196000 x31) 2))) x196001) else (none)) else (none)) else (spec_cuLow.l0 k x196000 (wrap64 (Int.tdiv x196001 2)))
end
def spec_cuLow.f (k : Nat) (l0_0 : List Int) (a0_1 : Int) : Option (List Int × Int) := (spec_l1Own.f l0_0).bind fun t192 => (spec_cuLow.l0 k t192 a0_1)
theorem spec_cuLow.mono_l : ∀ k,(∀ y0 y1,LeO (spec_cuLow.l0 k y0 y1) (spec_cuLow.l0 (k + 1) y0 y1)) ∧ (∀ y0 y1 y2 y3 y4,LeO (spec_cuLow.l1 k y0 y1 y2 y3 y4) (spec_cuLow.l1 (k + 1) y0 y1 y2 y3 y4)) ∧ (∀ y0 y1 y2 y3,LeO (spec_cuLow.l2 k y0 y1 y2 y3) (spec_cuLow.l2 (k + 1) y0 y1 y2 y3))
 | 0 => ⟨fun _ _ r h => by simp [spec_cuLow.l0] at h,fun _ _ _ _ _ r h => by simp [spec_cuLow.l1] at h,fun _ _ _ _ r h => by simp [spec_cuLow.l2] at h⟩
 | k + 1 => by
  obtain ⟨ih0,ih1,ih2⟩ := spec_cuLow.mono_l k
  refine ⟨?_,?_,?_⟩
  ·intro y0 y1
   unfold spec_cuLow.l0
   repeat' first
   | (with_reducible exact ih0 _ _)
   | (with_reducible exact ih1 _ _ _ _ _)
   | (with_reducible exact ih2 _ _ _ _)
   | (with_reducible exact LeO.refl _)
   | (with_reducible exact LeO.none _)
   | (with_reducible refine LeO.ite ?_ ?_)
   | (with_reducible refine LeO.bind ?_ (fun _ => ?_))
   | exact ih0 _ _
   | exact ih1 _ _ _ _ _
   | exact ih2 _ _ _ _
   | exact LeO.none _
   | refine LeO.ite ?_ ?_
   | refine LeO.bind ?_ (fun _ => ?_)
  ·intro y0 y1 y2 y3 y4
   unfold spec_cuLow.l1
   repeat' first
   | (with_reducible exact ih0 _ _)
   | (with_reducible exact ih1 _ _ _ _ _)
   | (with_reducible exact ih2 _ _ _ _)
   | (with_reducible exact LeO.refl _)
   | (with_reducible exact LeO.none _)
   | (with_reducible refine LeO.ite ?_ ?_)
   | (with_reducible refine LeO.bind ?_ (fun _ => ?_))
   | exact ih0 _ _
   | exact ih1 _ _ _ _ _
   | exact ih2 _ _ _ _
   | exact LeO.none _
   | refine LeO.ite ?_ ?_
   | refine LeO.bind ?_ (fun _ => ?_)
  ·intro y0 y1 y2 y3
   unfold spec_cuLow.l2
   repeat' first
   | (with_reducible exact ih0 _ _)
   | (with_reducible exact ih1 _ _ _ _ _)
   | (with_reducible exact ih2 _ _ _ _)
   | (with_reducible exact LeO.refl _)
   | (with_reducible exact LeO.none _)
   | (with_reducible refine LeO.ite ?_ ?_)
   | (with_reducible refine LeO.bind ?_ (fun _ => ?_))
   | exact ih0 _ _
   | exact ih1 _ _ _ _ _
   | exact ih2 _ _ _ _
   | exact LeO.none _
   | refine LeO.ite ?_ ?_
   | refine LeO.bind ?_ (fun _ => ?_)
theorem spec_cuLow.mono : ∀ a0 a1 k,LeO (spec_cuLow.f k a0 a1) (spec_cuLow.f (k + 1) a0 a1) := by
 intro a0 a1 k
 obtain ⟨ih0,ih1,ih2⟩ := spec_cuLow.mono_l k
 unfold spec_cuLow.f
 repeat' first
   | (with_reducible exact ih0 _ _)
   | (with_reducible exact ih1 _ _ _ _ _)
   | (with_reducible exact ih2 _ _ _ _)
   | (with_reducible exact LeO.refl _)
   | (with_reducible exact LeO.none _)
   | (with_reducible refine LeO.ite ?_ ?_)
   | (with_reducible refine LeO.bind ?_ (fun _ => ?_))
   | exact ih0 _ _
   | exact ih1 _ _ _ _ _
   | exact ih2 _ _ _ _
   | exact LeO.none _
   | refine LeO.ite ?_ ?_
   | refine LeO.bind ?_ (fun _ => ?_)
def spec_cuLow.T1 : Bool × List (List Nat × List Nat) := (true,[([],[]),([0],[0]),([1],[1]),([],[]),([3],[3]),([2,4],[2,4]),([],[]),([6,5,2,0,1,2,3,4,5,6],[5,6])])
def spec_cuLow.B1 : List Nat := [0,1,3,0,8,31,0,127]
theorem spec_cuLow.tab1 : rtab .any (opsOf Try.f56 1) = spec_cuLow.T1 := by kernel_rfl
theorem spec_cuLow.bits1 : waitsOk spec_cuLow.T1.2 spec_cuLow.B1 = true := by kernel_rfl
set_option maxHeartbeats 8000000 in
set_option maxRecDepth 100000 in
theorem spec_cuLow.calls (k : Nat) (A0_0 : Option Addr) (c0_0 : Nat) (l0_0 : List Int) (a0_1 : Int) (r1 : List Int) (r2 : Int) (w : World) (hr0_0 : Kd.C (Kd.int .i64) w A0_0 l0_0.length l0_0) (hc0_0 : l0_0.length ≤ c0_0) (h : spec_cuLow.f k l0_0 a0_1 = some (r1,r2)) :
  Calls Try.prog 56 #[.agg #[.slice A0_0 l0_0.length c0_0, .int .i64 a0_1]] w fun e w' => ∃ v0_ : Value,e = .returned (.agg #[v0_, .int .i64 r2]) ∧ Kd.R (Kd.int .i64) 3 w' w.heap.size (fun _ => True) v0_ r1 ∧ Below w.heap.size w w' := by
 have hu29 := Try.underlying29
 have HR0_0 := Aside0.mk hr0_0
 have HC0_0 := Aside0.mk hc0_0
 clear hr0_0 hc0_0
 have HB := Aside0.mk (Below.refl w.heap.size w)
 have H : ((spec_l1Own.f l0_0).bind fun t192 => (spec_cuLow.l0 k t192 a0_1)) = some (r1,r2) := h
 clear h
 replace H := Option.bind_eq_some_iff.mp H
 obtain ⟨t192,A20,H⟩ := H
 replace H : (spec_cuLow.l0 k t192 a0_1) = some (r1,r2) := H
 have A2 := Aside0.mk A20
 clear A20
 have H' := Aside0.mk H
 clear H
 go_enter Try.func56,Try.ntmps56
 try go_wp2_with (first | ((with_reducible refine gate_dst (N := 1) rfl ?_);refine box_event ?hg (N := 1) ?hd (cs := #[.slice A0_0 l0_0.length c0_0, .int .i64 a0_1]) (t := 29) ?hr ?_;(case hd => rfl);(case hg => rfl);(case hr => first | (go_simp;done) | (go_simp;rfl));intro gb190 hg w3 hbox hb;have n0_ := Aside0.mk (below_step (by repeat (first | (with_reducible first | exact HB.out | apply below_alloc | apply pw_below_drewN | apply below_drew1) | exact HB.out)) hb);have n1_ := Aside0.mk (hbox);have n2_ := Aside0.mk ((by rw [hg];exact (below_size (by repeat (first | (with_reducible first | exact HB.out | apply below_alloc | apply pw_below_drewN | apply below_drew1) | exact HB.out))) : w.heap.size ≤ gb190));have n3_ := Aside0.mk ((by rw [hg];exact (below_size (by repeat (first | (with_reducible first | exact HB.out | apply below_alloc | apply pw_below_drewN | apply below_drew1) | exact HB.out))) : w.heap.size ≤ gb190));clear HB;have HB := n0_;have BK190 := n1_;have GW190 := n2_;have GE190 := n3_;clear n0_ n1_ n2_ n3_;clear hb hbox hg) | ((with_reducible refine gate_dst (N := 2) rfl ?_);refine box_event ?hg (N := 2) ?hd (cs := #[.slice none 0 0, .int .i64 0]) (t := 29) ?hr ?_;(case hd => rfl);(case hg => rfl);(case hr => first | (go_simp;done) | (go_simp;rfl));intro gb191 hg w4 hbox hb;have n0_ := Aside0.mk (blk_below (g := gb190) (o := .cells #[.slice A0_0 l0_0.length c0_0, .int .i64 a0_1] 29 (0,0)) (by (with_reducible repeat (first | refine blk_drewN ?_ _ | refine blk_drew ?_ | refine blk_alloc ?_ _));exact BK190.out) hb);have n1_ := Aside0.mk (below_step (by repeat (first | (with_reducible first | exact HB.out | apply below_alloc | apply pw_below_drewN | apply below_drew1 | refine below_set ?_ GE190.out) | exact HB.out)) hb);have n2_ := Aside0.mk (hbox);have n3_ := Aside0.mk ((by rw [hg];exact (below_size (by repeat (first | (with_reducible first | exact HB.out | apply below_alloc | apply pw_below_drewN | apply below_drew1 | refine below_set ?_ GE190.out) | exact HB.out))) : w.heap.size ≤ gb191));have n4_ := Aside0.mk ((by rw [hg];exact (below_size (by repeat (first | (with_reducible first | exact HB.out | apply below_alloc | apply pw_below_drewN | apply below_drew1 | refine below_set ?_ GE190.out) | exact HB.out))) : w.heap.size ≤ gb191));have n5_ := Aside0.mk ((by rw [hg];exact Nat.ne_of_lt (blk_lt (g := gb190) (o := .cells #[.slice A0_0 l0_0.length c0_0, .int .i64 a0_1] 29 (0,0)) (by (with_reducible repeat (first | refine blk_drewN ?_ _ | refine blk_drew ?_ | refine blk_alloc ?_ _));exact BK190.out)) : gb190 ≠ gb191));have n6_ := Aside0.mk ((by rw [hg];exact Nat.ne_of_gt (blk_lt (g := gb190) (o := .cells #[.slice A0_0 l0_0.length c0_0, .int .i64 a0_1] 29 (0,0)) (by (with_reducible repeat (first | refine blk_drewN ?_ _ | refine blk_drew ?_ | refine blk_alloc ?_ _));exact BK190.out)) : gb191 ≠ gb190));clear BK190;clear HB;have BK190 := n0_;have HB := n1_;have BK191 := n2_;have GW191 := n3_;have GE191 := n4_;have NB190_191 := n5_;have NB191_190 := n6_;clear n0_ n1_ n2_ n3_ n4_ n5_ n6_;clear hb hbox hg))
 have n0_ := Aside0.mk (blk_drew BK190.out)
 have n1_ := Aside0.mk (blk_drew BK191.out)
 have n2_ := Aside0.mk (below_drew1 HB.out)
 clear BK190
 clear BK191
 clear HB
 have BK190 := n0_
 have BK191 := n1_
 have HB := n2_
 clear n0_ n1_ n2_
 refine start_ (n := 8) (S := fun w' => w'.cell? ⟨gb190,0,none⟩ = some (.slice A0_0 l0_0.length c0_0) ∧ w'.cell? ⟨gb190,1,none⟩ = some (.int .i64 a0_1)) (ds := []) #[false,false,false,false,false,false,false,false] (by kernel_rfl) rfl rfl ⟨(blk_cell BK190.out 0).trans rfl,(blk_cell BK190.out 1).trans rfl⟩ (fun hHeld => ?_);refine with_tabW spec_cuLow.tab1 spec_cuLow.bits1 (fun HT_ HW_ => ?_)
 generalize w4.drew = w5 at BK190 BK191 HB hHeld ⊢
 refine pure_ (i := 0) (N := some 7) (v := ?_) (a' := ?_) #[true,false,false,false,false,false,false,false] rfl rfl (any_of HT_.out (by kernel_rfl)) (fun _ _ _ h => h) (Or.inl ⟨by rfl,?_⟩) ?_ ?_
 rotate_left
 ·intro w'
  go_simp
  with_reducible rfl
 rotate_left
 ·simp only [Act.put,List.setIfInBounds_toArray,List.set_cons_zero,List.set_cons_succ,i64_w,i32_w]
  rfl
 refine pure_ (i := 3) (N := some 10) (v := ?_) (a' := ?_) #[true,false,false,true,false,false,false,false] rfl rfl (any_of HT_.out (by kernel_rfl)) (fun _ _ _ h => h) (Or.inl ⟨by rfl,?_⟩) ?_ ?_
 rotate_left
 ·intro w'
  go_simp
  with_reducible rfl
 rotate_left
 ·simp only [Act.put,List.setIfInBounds_toArray,List.set_cons_zero,List.set_cons_succ,i64_w,i32_w]
  rfl
 refine take_ (i := 1) (N := some 8) (v := ?_) (a' := ?_) #[true,true,false,true,false,false,false,false] rfl rfl (take_ofW HT_.out HW_.out (by kernel_rfl)) (fun _ _ _ h => h) (Or.inl ⟨by rfl,?_⟩) hHeld ?_ ?_
 rotate_left
 ·rintro w' ⟨s0,s1⟩
  go_simp
  with_reducible rfl
 rotate_left
 ·simp only [Act.put,List.setIfInBounds_toArray,List.set_cons_zero,List.set_cons_succ,i64_w,i32_w]
  rfl
 refine take_ (i := 4) (N := some 11) (v := ?_) (a' := ?_) #[true,true,false,true,true,false,false,false] rfl rfl (take_ofW HT_.out HW_.out (by kernel_rfl)) (fun _ _ _ h => h) (Or.inl ⟨by rfl,?_⟩) hHeld ?_ ?_
 rotate_left
 ·rintro w' ⟨s0,s1⟩
  go_simp
  with_reducible rfl
 rotate_left
 ·simp only [Act.put,List.setIfInBounds_toArray,List.set_cons_zero,List.set_cons_succ,i64_w,i32_w]
  rfl
 refine join_ (σ := Value × Nat) 1 #[true,true,true,true,true,true,true,false] (fun s_ => [(9,s_.1),(3, .pointer (some ⟨s_.2,0,none⟩)),(12, .agg #[s_.1, .int .i64 a0_1])]) (fun s_ w' => (w'.cell? ⟨gb190,0,none⟩ = some (.slice A0_0 l0_0.length c0_0) ∧ w'.cell? ⟨gb190,1,none⟩ = some (.int .i64 a0_1)) ∧ (Kd.R (Kd.int .i64) 3 w' w.heap.size (fun _ => True) s_.1 t192) ∧ (w'.heap[gb190]? = some (.cells #[.slice A0_0 l0_0.length c0_0, .int .i64 a0_1] 29 (0,0))) ∧ (w'.heap[gb191]? = some (.cells #[.slice none 0 0, .int .i64 0] 29 (0,0))) ∧ (w'.heap[s_.2]? = some (.cells #[.slice none 0 0, .int .i64 0] 29 (0,0))) ∧ (w.heap.size ≤ s_.2) ∧ (w.heap.size ≤ s_.2) ∧ (gb190 ≠ s_.2) ∧ (s_.2 ≠ gb190) ∧ (gb191 ≠ s_.2) ∧ (s_.2 ≠ gb191) ∧ (Below w.heap.size w w')) ?_ ?_
 rotate_left
 ·intro hCont
  refine two_ (i := 2) (j := 6) (Ni := some 9) (Nj := some 3) #[true,true,true,true,true,false,false,false] #[true,true,false,true,true,false,true,false] rfl rfl rfl rfl (two_of HT_.out (by kernel_rfl)) (by decide) (by decide) (fun K hK => ?_) (fun K hK => ?_)
  ·skip
   refine goes_ Try.func74 (by kernel_rfl) rfl #[.slice A0_0 l0_0.length c0_0] (by rfl) rfl rfl (by (try simp only [List.map_toArray,List.map_cons,List.map_nil]);first | done | rfl | (simp only [List.length_drop,List.length_take];rfl)) ?_
   with_reducible refine (spec_l1Own.calls _ _ l0_0 t192 _ ?side1 ?side2 A2.out).mono ?_
   (case side1 => repeat (first | exact (Kd.C_below HR0_0.out HB.out) | (with_reducible refine Kd.C_alloc ?_ _) | (with_reducible refine Kd.C_drewN ?_ _) | (with_reducible refine Kd.C_drew ?_)))
   (case side2 => exact HC0_0.out)
   rintro e w6 ⟨v193,rfl,ho0,hb⟩
   refine ⟨_,rfl,?_⟩
   have n0_ := Aside0.mk (Kd.R_lower ho0 (below_size (by repeat (first | (with_reducible first | exact HB.out | apply below_alloc | apply pw_below_drewN | apply below_drew1 | refine below_set ?_ GE190.out | refine below_set ?_ GE191.out) | exact HB.out))))
   have n1_ := Aside0.mk (blk_below (g := gb190) (o := .cells #[.slice A0_0 l0_0.length c0_0, .int .i64 a0_1] 29 (0,0)) (by (with_reducible repeat (first | refine blk_drewN ?_ _ | refine blk_drew ?_ | refine blk_alloc ?_ _));exact BK190.out) hb)
   have n2_ := Aside0.mk (blk_below (g := gb191) (o := .cells #[.slice none 0 0, .int .i64 0] 29 (0,0)) (by (with_reducible repeat (first | refine blk_drewN ?_ _ | refine blk_drew ?_ | refine blk_alloc ?_ _));exact BK191.out) hb)
   have n3_ := Aside0.mk (below_step (by repeat (first | (with_reducible first | exact HB.out | apply below_alloc | apply pw_below_drewN | apply below_drew1 | refine below_set ?_ GE190.out | refine below_set ?_ GE191.out) | exact HB.out)) hb)
   clear BK190
   clear BK191
   clear HB
   have HO194 := n0_
   have BK190 := n1_
   have BK191 := n2_
   have HB := n3_
   clear n0_ n1_ n2_ n3_
   (try clear hb)
   (try clear hb2)
   (try clear hk)
   (try clear hi)
   (try clear ho0)
   obtain ⟨Ao7,co7,eo7⟩ := Kd.R_slice HO194.out
   (first | subst eo7 | (injection eo7 with f1_ f2_ f3_;have f4_ := f1_.symm;have f5_ := f3_.symm;clear f1_ f2_ f3_;subst f4_;subst f5_))
   refine hK.out _ _ ⟨(blk_cell BK190.out 0).trans rfl,(blk_cell BK190.out 1).trans rfl⟩ (fun hHeld => ?_)
   clear hK K
   refine norm_ (a' := ?_) ?_ ?_
   rotate_left
   ·show Act.put _ (some 9) _ = _
    simp only [Act.put,List.setIfInBounds_toArray,List.set_cons_zero,List.set_cons_succ,i64_w,i32_w]
    rfl
   refine pure_ (i := 5) (N := some 12) (v := ?_) (a' := ?_) #[true,true,true,true,true,true,false,false] rfl rfl (any_of HT_.out (by kernel_rfl)) (fun _ _ _ h => h) (Or.inl ⟨by rfl,?_⟩) ?_ ?_
   rotate_left
   ·intro w'
    go_simp
    with_reducible rfl
   rotate_left
   ·simp only [Act.put,List.setIfInBounds_toArray,List.set_cons_zero,List.set_cons_succ,i64_w,i32_w]
    rfl
   refine one_ (i := 6) (N := some 3) #[true,true,true,true,true,true,true,false] rfl rfl (one_of HT_.out (by kernel_rfl)) (by decide) (fun K hK => ?_)
   refine box_step ?hg (N := 3) ?hd (cs := #[.slice none 0 0, .int .i64 0]) (t := 29) ?hr ?_;(case hd => rfl);(case hg => rfl);(case hr => first | (go_simp;done) | (go_simp;rfl))
   intro gb195 hg w8 hbox hb
   have n0_ := Aside0.mk (Kd.R_below (by (with_reducible repeat (first | apply Kd.R_alloc | apply Kd.R_drewN | apply Kd.R_drew));exact HO194.out) hb)
   have n1_ := Aside0.mk (blk_below (g := gb190) (o := .cells #[.slice A0_0 l0_0.length c0_0, .int .i64 a0_1] 29 (0,0)) (by (with_reducible repeat (first | refine blk_drewN ?_ _ | refine blk_drew ?_ | refine blk_alloc ?_ _));exact BK190.out) hb)
   have n2_ := Aside0.mk (blk_below (g := gb191) (o := .cells #[.slice none 0 0, .int .i64 0] 29 (0,0)) (by (with_reducible repeat (first | refine blk_drewN ?_ _ | refine blk_drew ?_ | refine blk_alloc ?_ _));exact BK191.out) hb)
   have n3_ := Aside0.mk (below_step (by repeat (first | (with_reducible first | exact HB.out | apply below_alloc | apply pw_below_drewN | apply below_drew1 | refine below_set ?_ GE190.out | refine below_set ?_ GE191.out) | exact HB.out)) hb)
   have n4_ := Aside0.mk (hbox)
   have n5_ := Aside0.mk ((by rw [hg];exact (below_size (by repeat (first | (with_reducible first | exact HB.out | apply below_alloc | apply pw_below_drewN | apply below_drew1 | refine below_set ?_ GE190.out | refine below_set ?_ GE191.out) | exact HB.out))) : w.heap.size ≤ gb195))
   have n6_ := Aside0.mk ((by rw [hg];exact (below_size (by repeat (first | (with_reducible first | exact HB.out | apply below_alloc | apply pw_below_drewN | apply below_drew1 | refine below_set ?_ GE190.out | refine below_set ?_ GE191.out) | exact HB.out))) : w.heap.size ≤ gb195))
   have n7_ := Aside0.mk ((by rw [hg];exact Nat.ne_of_lt (blk_lt (g := gb190) (o := .cells #[.slice A0_0 l0_0.length c0_0, .int .i64 a0_1] 29 (0,0)) (by (with_reducible repeat (first | refine blk_drewN ?_ _ | refine blk_drew ?_ | refine blk_alloc ?_ _));exact BK190.out)) : gb190 ≠ gb195))
   have n8_ := Aside0.mk ((by rw [hg];exact Nat.ne_of_gt (blk_lt (g := gb190) (o := .cells #[.slice A0_0 l0_0.length c0_0, .int .i64 a0_1] 29 (0,0)) (by (with_reducible repeat (first | refine blk_drewN ?_ _ | refine blk_drew ?_ | refine blk_alloc ?_ _));exact BK190.out)) : gb195 ≠ gb190))
   have n9_ := Aside0.mk ((by rw [hg];exact Nat.ne_of_lt (blk_lt (g := gb191) (o := .cells #[.slice none 0 0, .int .i64 0] 29 (0,0)) (by (with_reducible repeat (first | refine blk_drewN ?_ _ | refine blk_drew ?_ | refine blk_alloc ?_ _));exact BK191.out)) : gb191 ≠ gb195))
   have n10_ := Aside0.mk ((by rw [hg];exact Nat.ne_of_gt (blk_lt (g := gb191) (o := .cells #[.slice none 0 0, .int .i64 0] 29 (0,0)) (by (with_reducible repeat (first | refine blk_drewN ?_ _ | refine blk_drew ?_ | refine blk_alloc ?_ _));exact BK191.out)) : gb195 ≠ gb191))
   clear HO194
   clear BK190
   clear BK191
   clear HB
   have HO194 := n0_
   have BK190 := n1_
   have BK191 := n2_
   have HB := n3_
   have BK195 := n4_
   have GW195 := n5_
   have GE195 := n6_
   have NB190_195 := n7_
   have NB195_190 := n8_
   have NB191_195 := n9_
   have NB195_191 := n10_
   clear n0_ n1_ n2_ n3_ n4_ n5_ n6_ n7_ n8_ n9_ n10_
   clear hb hbox hg
   refine hK.out _ _ ⟨(blk_cell BK190.out 0).trans rfl,(blk_cell BK190.out 1).trans rfl⟩ (fun hHeld => ?_)
   clear hK K
   refine norm_ (a' := ?_) ?_ ?_
   rotate_left
   ·show Act.put _ (some 3) _ = _
    simp only [Act.put,List.setIfInBounds_toArray,List.set_cons_zero,List.set_cons_succ,i64_w,i32_w]
    rfl
   exact norm_ (by simp only [putAll,Act.put,List.setIfInBounds_toArray,List.set_cons_zero,List.set_cons_succ]) (hCont (.slice Ao7 t192.length co7,gb195) _ ⟨hHeld,(by (with_reducible repeat (first | apply Kd.R_alloc | apply Kd.R_drewN | apply Kd.R_drew));exact HO194.out),(by (with_reducible repeat (first | refine blk_drewN ?_ _ | refine blk_drew ?_ | refine blk_alloc ?_ _));exact BK190.out),(by (with_reducible repeat (first | refine blk_drewN ?_ _ | refine blk_drew ?_ | refine blk_alloc ?_ _));exact BK191.out),(by (with_reducible repeat (first | refine blk_drewN ?_ _ | refine blk_drew ?_ | refine blk_alloc ?_ _));exact BK195.out),GW195.out,GE195.out,NB190_195.out,NB195_190.out,NB191_195.out,NB195_191.out,(by repeat (first | (with_reducible first | exact HB.out | apply below_alloc | apply pw_below_drewN | apply below_drew1 | refine below_set ?_ GE190.out | refine below_set ?_ GE191.out | refine below_set ?_ GE195.out) | exact HB.out))⟩)
  ·skip
   refine box_step ?hg (N := 3) ?hd (cs := #[.slice none 0 0, .int .i64 0]) (t := 29) ?hr ?_;(case hd => rfl);(case hg => rfl);(case hr => first | (go_simp;done) | (go_simp;rfl))
   intro gb195 hg w6 hbox hb
   have n0_ := Aside0.mk (blk_below (g := gb190) (o := .cells #[.slice A0_0 l0_0.length c0_0, .int .i64 a0_1] 29 (0,0)) (by (with_reducible repeat (first | refine blk_drewN ?_ _ | refine blk_drew ?_ | refine blk_alloc ?_ _));exact BK190.out) hb)
   have n1_ := Aside0.mk (blk_below (g := gb191) (o := .cells #[.slice none 0 0, .int .i64 0] 29 (0,0)) (by (with_reducible repeat (first | refine blk_drewN ?_ _ | refine blk_drew ?_ | refine blk_alloc ?_ _));exact BK191.out) hb)
   have n2_ := Aside0.mk (below_step (by repeat (first | (with_reducible first | exact HB.out | apply below_alloc | apply pw_below_drewN | apply below_drew1 | refine below_set ?_ GE190.out | refine below_set ?_ GE191.out) | exact HB.out)) hb)
   have n3_ := Aside0.mk (hbox)
   have n4_ := Aside0.mk ((by rw [hg];exact (below_size (by repeat (first | (with_reducible first | exact HB.out | apply below_alloc | apply pw_below_drewN | apply below_drew1 | refine below_set ?_ GE190.out | refine below_set ?_ GE191.out) | exact HB.out))) : w.heap.size ≤ gb195))
   have n5_ := Aside0.mk ((by rw [hg];exact (below_size (by repeat (first | (with_reducible first | exact HB.out | apply below_alloc | apply pw_below_drewN | apply below_drew1 | refine below_set ?_ GE190.out | refine below_set ?_ GE191.out) | exact HB.out))) : w.heap.size ≤ gb195))
   have n6_ := Aside0.mk ((by rw [hg];exact Nat.ne_of_lt (blk_lt (g := gb190) (o := .cells #[.slice A0_0 l0_0.length c0_0, .int .i64 a0_1] 29 (0,0)) (by (with_reducible repeat (first | refine blk_drewN ?_ _ | refine blk_drew ?_ | refine blk_alloc ?_ _));exact BK190.out)) : gb190 ≠ gb195))
   have n7_ := Aside0.mk ((by rw [hg];exact Nat.ne_of_gt (blk_lt (g := gb190) (o := .cells #[.slice A0_0 l0_0.length c0_0, .int .i64 a0_1] 29 (0,0)) (by (with_reducible repeat (first | refine blk_drewN ?_ _ | refine blk_drew ?_ | refine blk_alloc ?_ _));exact BK190.out)) : gb195 ≠ gb190))
   have n8_ := Aside0.mk ((by rw [hg];exact Nat.ne_of_lt (blk_lt (g := gb191) (o := .cells #[.slice none 0 0, .int .i64 0] 29 (0,0)) (by (with_reducible repeat (first | refine blk_drewN ?_ _ | refine blk_drew ?_ | refine blk_alloc ?_ _));exact BK191.out)) : gb191 ≠ gb195))
   have n9_ := Aside0.mk ((by rw [hg];exact Nat.ne_of_gt (blk_lt (g := gb191) (o := .cells #[.slice none 0 0, .int .i64 0] 29 (0,0)) (by (with_reducible repeat (first | refine blk_drewN ?_ _ | refine blk_drew ?_ | refine blk_alloc ?_ _));exact BK191.out)) : gb195 ≠ gb191))
   clear BK190
   clear BK191
   clear HB
   have BK190 := n0_
   have BK191 := n1_
   have HB := n2_
   have BK195 := n3_
   have GW195 := n4_
   have GE195 := n5_
   have NB190_195 := n6_
   have NB195_190 := n7_
   have NB191_195 := n8_
   have NB195_191 := n9_
   clear n0_ n1_ n2_ n3_ n4_ n5_ n6_ n7_ n8_ n9_
   clear hb hbox hg
   refine hK.out _ _ ⟨(blk_cell BK190.out 0).trans rfl,(blk_cell BK190.out 1).trans rfl⟩ (fun hHeld => ?_)
   clear hK K
   refine norm_ (a' := ?_) ?_ ?_
   rotate_left
   ·show Act.put _ (some 3) _ = _
    simp only [Act.put,List.setIfInBounds_toArray,List.set_cons_zero,List.set_cons_succ,i64_w,i32_w]
    rfl
   refine one_ (i := 2) (N := some 9) #[true,true,true,true,true,false,true,false] rfl rfl (one_of HT_.out (by kernel_rfl)) (by decide) (fun K hK => ?_)
   refine goes_ Try.func74 (by kernel_rfl) rfl #[.slice A0_0 l0_0.length c0_0] (by rfl) rfl rfl (by (try simp only [List.map_toArray,List.map_cons,List.map_nil]);first | done | rfl | (simp only [List.length_drop,List.length_take];rfl)) ?_
   with_reducible refine (spec_l1Own.calls _ _ l0_0 t192 _ ?side1 ?side2 A2.out).mono ?_
   (case side1 => repeat (first | exact (Kd.C_below HR0_0.out HB.out) | (with_reducible refine Kd.C_alloc ?_ _) | (with_reducible refine Kd.C_drewN ?_ _) | (with_reducible refine Kd.C_drew ?_)))
   (case side2 => exact HC0_0.out)
   rintro e w7 ⟨v193,rfl,ho0,hb⟩
   refine ⟨_,rfl,?_⟩
   have n0_ := Aside0.mk (Kd.R_lower ho0 (below_size (by repeat (first | (with_reducible first | exact HB.out | apply below_alloc | apply pw_below_drewN | apply below_drew1 | refine below_set ?_ GE190.out | refine below_set ?_ GE191.out | refine below_set ?_ GE195.out) | exact HB.out))))
   have n1_ := Aside0.mk (blk_below (g := gb190) (o := .cells #[.slice A0_0 l0_0.length c0_0, .int .i64 a0_1] 29 (0,0)) (by (with_reducible repeat (first | refine blk_drewN ?_ _ | refine blk_drew ?_ | refine blk_alloc ?_ _));exact BK190.out) hb)
   have n2_ := Aside0.mk (blk_below (g := gb191) (o := .cells #[.slice none 0 0, .int .i64 0] 29 (0,0)) (by (with_reducible repeat (first | refine blk_drewN ?_ _ | refine blk_drew ?_ | refine blk_alloc ?_ _));exact BK191.out) hb)
   have n3_ := Aside0.mk (blk_below (g := gb195) (o := .cells #[.slice none 0 0, .int .i64 0] 29 (0,0)) (by (with_reducible repeat (first | refine blk_drewN ?_ _ | refine blk_drew ?_ | refine blk_alloc ?_ _));exact BK195.out) hb)
   have n4_ := Aside0.mk (below_step (by repeat (first | (with_reducible first | exact HB.out | apply below_alloc | apply pw_below_drewN | apply below_drew1 | refine below_set ?_ GE190.out | refine below_set ?_ GE191.out | refine below_set ?_ GE195.out) | exact HB.out)) hb)
   clear BK190
   clear BK191
   clear BK195
   clear HB
   have HO194 := n0_
   have BK190 := n1_
   have BK191 := n2_
   have BK195 := n3_
   have HB := n4_
   clear n0_ n1_ n2_ n3_ n4_
   (try clear hb)
   (try clear hb2)
   (try clear hk)
   (try clear hi)
   (try clear ho0)
   obtain ⟨Ao8,co8,eo8⟩ := Kd.R_slice HO194.out
   (first | subst eo8 | (injection eo8 with f1_ f2_ f3_;have f4_ := f1_.symm;have f5_ := f3_.symm;clear f1_ f2_ f3_;subst f4_;subst f5_))
   refine hK.out _ _ ⟨(blk_cell BK190.out 0).trans rfl,(blk_cell BK190.out 1).trans rfl⟩ (fun hHeld => ?_)
   clear hK K
   refine norm_ (a' := ?_) ?_ ?_
   rotate_left
   ·show Act.put _ (some 9) _ = _
    simp only [Act.put,List.setIfInBounds_toArray,List.set_cons_zero,List.set_cons_succ,i64_w,i32_w]
    rfl
   refine pure_ (i := 5) (N := some 12) (v := ?_) (a' := ?_) #[true,true,true,true,true,true,true,false] rfl rfl (any_of HT_.out (by kernel_rfl)) (fun _ _ _ h => h) (Or.inl ⟨by rfl,?_⟩) ?_ ?_
   rotate_left
   ·intro w'
    go_simp
    with_reducible rfl
   rotate_left
   ·simp only [Act.put,List.setIfInBounds_toArray,List.set_cons_zero,List.set_cons_succ,i64_w,i32_w]
    rfl
   exact norm_ (by simp only [putAll,Act.put,List.setIfInBounds_toArray,List.set_cons_zero,List.set_cons_succ]) (hCont (.slice Ao8 t192.length co8,gb195) _ ⟨hHeld,(by (with_reducible repeat (first | apply Kd.R_alloc | apply Kd.R_drewN | apply Kd.R_drew));exact HO194.out),(by (with_reducible repeat (first | refine blk_drewN ?_ _ | refine blk_drew ?_ | refine blk_alloc ?_ _));exact BK190.out),(by (with_reducible repeat (first | refine blk_drewN ?_ _ | refine blk_drew ?_ | refine blk_alloc ?_ _));exact BK191.out),(by (with_reducible repeat (first | refine blk_drewN ?_ _ | refine blk_drew ?_ | refine blk_alloc ?_ _));exact BK195.out),GW195.out,GE195.out,NB190_195.out,NB195_190.out,NB191_195.out,NB195_191.out,(by repeat (first | (with_reducible first | exact HB.out | apply below_alloc | apply pw_below_drewN | apply below_drew1 | refine below_set ?_ GE190.out | refine below_set ?_ GE191.out | refine below_set ?_ GE195.out) | exact HB.out))⟩)
 rintro ⟨v193,gb195⟩ w9 ⟨hS_,h0_,h1_,h2_,h3_,h4_,h5_,h6_,h7_,h8_,h9_,h10_⟩
 have n0_ : Aside0 (Kd.R (Kd.int .i64) 3 w9 w.heap.size (fun _ => True) v193 t192) := ⟨h0_⟩
 have n1_ : Aside0 (w9.heap[gb190]? = some (.cells #[.slice A0_0 l0_0.length c0_0, .int .i64 a0_1] 29 (0,0))) := ⟨h1_⟩
 have n2_ : Aside0 (w9.heap[gb191]? = some (.cells #[.slice none 0 0, .int .i64 0] 29 (0,0))) := ⟨h2_⟩
 have n3_ : Aside0 (w9.heap[gb195]? = some (.cells #[.slice none 0 0, .int .i64 0] 29 (0,0))) := ⟨h3_⟩
 have n4_ : Aside0 (w.heap.size ≤ gb195) := ⟨h4_⟩
 have n5_ : Aside0 (w.heap.size ≤ gb195) := ⟨h5_⟩
 have n6_ : Aside0 (gb190 ≠ gb195) := ⟨h6_⟩
 have n7_ : Aside0 (gb195 ≠ gb190) := ⟨h7_⟩
 have n8_ : Aside0 (gb191 ≠ gb195) := ⟨h8_⟩
 have n9_ : Aside0 (gb195 ≠ gb191) := ⟨h9_⟩
 have n10_ : Aside0 (Below w.heap.size w w9) := ⟨h10_⟩
 clear BK190
 clear BK191
 clear HB
 clear h0_ h1_ h2_ h3_ h4_ h5_ h6_ h7_ h8_ h9_ h10_
 have HO194 := n0_
 have BK190 := n1_
 have BK191 := n2_
 have BK195 := n3_
 have GW195 := n4_
 have GE195 := n5_
 have NB190_195 := n6_
 have NB195_190 := n7_
 have NB191_195 := n8_
 have NB195_191 := n9_
 have HB := n10_
 clear n0_ n1_ n2_ n3_ n4_ n5_ n6_ n7_ n8_ n9_ n10_
 have hHeld : w9.cell? ⟨gb190,0,none⟩ = some (.slice A0_0 l0_0.length c0_0) ∧ w9.cell? ⟨gb190,1,none⟩ = some (.int .i64 a0_1) := hS_
 obtain ⟨Ao10,co10,eo10⟩ := Kd.R_slice HO194.out
 (first | subst eo10 | (injection eo10 with f1_ f2_ f3_;have f4_ := f1_.symm;have f5_ := f3_.symm;clear f1_ f2_ f3_;subst f4_;subst f5_))
 refine norm_ (a' := ?_) ?_ ?_
 rotate_left
 ·simp only [putAll,Act.put,List.setIfInBounds_toArray,List.set_cons_zero,List.set_cons_succ]
  rfl
 refine one_ (i := 7) (N := none) #[true,true,true,true,true,true,true,true] rfl rfl (one_of HT_.out (by kernel_rfl)) (by decide) (fun K hK => ?_)
 have hs11 : w9.cell? ⟨gb195,0,none⟩ = some (.slice none 0 0) := (blk_cell BK195.out 0).trans rfl
 have hfs11 := blk_frozen BK195.out 0
 have hns11_0 := NB190_195.out
 have hns11_1 := NB191_195.out
 have hms11_0 := NB195_190.out
 have hms11_1 := NB195_191.out
 have hs12 : w9.cell? ⟨gb195,1,none⟩ = some (.int .i64 0) := (blk_cell BK195.out 1).trans rfl
 have hfs12 := blk_frozen BK195.out 1
 have hns12_0 := NB190_195.out
 have hns12_1 := NB191_195.out
 have hms12_0 := NB195_190.out
 have hms12_1 := NB195_191.out
 refine skip_ (w1 := ?_) (by rfl) rfl ?_ ?_
 rotate_left
 ·go_simp
  rfl
 refine hK.out _ _ ⟨((cell_far (p := ⟨gb195,_,none⟩) NB190_195.out _).trans (((cell_far (p := ⟨gb195,_,none⟩) NB190_195.out _).trans (hHeld.1)))),((cell_far (p := ⟨gb195,_,none⟩) NB190_195.out _).trans (((cell_far (p := ⟨gb195,_,none⟩) NB190_195.out _).trans (hHeld.2))))⟩ (fun hHeld => ?_)
 clear hK K
 refine done_ (done_of HT_.out (by kernel_rfl)) ?_
 try go_wp2
 go_loopg [] k (fun kq w' => ∃ (x192001_1 : Int) (x196000_1 : List Int) (x196001_1 : Int) (u196000 : Value),Aside0 (spec_cuLow.l0 kq x196000_1 x196001_1 = some (r1,r2)) ∧ Aside0 (kq ≤ k) ∧ Aside0 (Kd.R (Kd.int .i64) 3 w' w.heap.size (fun _ => True) u196000 x196000_1) ∧ Aside0 (w'.heap[gb190]? = some (.cells #[(.slice A0_0 l0_0.length c0_0), .int .i64 a0_1] 29 (0,0))) ∧ Aside0 (w'.heap[gb191]? = some (.cells #[(.slice none 0 0), .int .i64 x192001_1] 29 (0,0))) ∧ Aside0 (w'.heap[gb195]? = some (.cells #[u196000, .int .i64 x196001_1] 29 (0,0))) ∧ Aside0 (Below w.heap.size w w'))
 case atStart => exact ⟨(0),(t192),(a0_1),(.slice Ao10 t192.length co10),H',⟨Nat.le_refl _⟩,⟨by (with_reducible repeat (first | apply Kd.R_alloc | apply Kd.R_drewN | apply Kd.R_drew));exact Kd.R_mono (Kd.R_far (p := ⟨gb195,1,none⟩) (Kd.R_far (p := ⟨gb195,0,none⟩) (Kd.R_types HO194.out BK195.out (by decide)) (fun _ hk => hk.2) (.slice Ao10 t192.length co10)) (fun _ hk => hk.2) (.int .i64 a0_1)) (fun _ hk => trivial)⟩,⟨by (with_reducible repeat (first | refine blk_drewN ?_ _ | refine blk_drew ?_ | refine blk_alloc ?_ _));refine blk_far ?_ NB190_195.out _;(with_reducible repeat (first | refine blk_drewN ?_ _ | refine blk_drew ?_ | refine blk_alloc ?_ _));refine blk_far ?_ NB190_195.out _;(with_reducible repeat (first | refine blk_drewN ?_ _ | refine blk_drew ?_ | refine blk_alloc ?_ _));exact BK190.out⟩,⟨by (with_reducible repeat (first | refine blk_drewN ?_ _ | refine blk_drew ?_ | refine blk_alloc ?_ _));refine blk_far ?_ NB191_195.out _;(with_reducible repeat (first | refine blk_drewN ?_ _ | refine blk_drew ?_ | refine blk_alloc ?_ _));refine blk_far ?_ NB191_195.out _;(with_reducible repeat (first | refine blk_drewN ?_ _ | refine blk_drew ?_ | refine blk_alloc ?_ _));exact BK191.out⟩,⟨by (with_reducible repeat (first | refine blk_drewN ?_ _ | refine blk_drew ?_ | refine blk_alloc ?_ _));refine blk_put (cs := #[.slice Ao10 t192.length co10, .int .i64 0]) ?_ 1 _ rfl;(with_reducible repeat (first | refine blk_drewN ?_ _ | refine blk_drew ?_ | refine blk_alloc ?_ _));refine blk_put (cs := #[.slice none 0 0, .int .i64 0]) ?_ 0 _ rfl;(with_reducible repeat (first | refine blk_drewN ?_ _ | refine blk_drew ?_ | refine blk_alloc ?_ _));exact BK195.out⟩,⟨by repeat (first | (with_reducible first | exact HB.out | apply below_alloc | apply pw_below_drewN | apply below_drew1 | refine below_set ?_ GE190.out | refine below_set ?_ GE191.out | refine below_set ?_ GE195.out) | exact HB.out)⟩⟩
 case round =>
  clear H'
  try clear p2
  try clear c5
  try clear c7
  obtain ⟨x192001_1,x196000_1,x196001_1,u196000,HA,HK1,HO_196000,BK190,BK191,BK195,HB⟩ := hrel
  cases gk with
  | zero => exact absurd HA.out (by simp [spec_cuLow.l0])
  | succ k1 =>
   have H := HA.out
   clear HA
   simp only [spec_cuLow.l0] at H
   by_cases c13 : x196001_1 > 1
   ·rw [if_pos c13] at H
    have c13b0 : decide (1 < x196001_1) = true := decide_eq_true c13
    clear c13
    have H' := Aside0.mk H
    clear H
    have hnb14 := NB195_190.out
    have hnc14 := NB190_195.out
    have hnb15 := NB195_191.out
    have hnc15 := NB191_195.out
    have hcz16_0 : wr.cell? ⟨gb195,0,none⟩ = some (u196000) := (blk_cell BK195.out 0).trans rfl
    have hcz16_1 : wr.cell? ⟨gb195,1,none⟩ = some (.int .i64 x196001_1) := (blk_cell BK195.out 1).trans rfl
    have hfz16_0 := blk_frozen BK195.out 0
    have hfz16_1 := blk_frozen BK195.out 1
    obtain ⟨Ao17,co17,eo17⟩ := Kd.R_slice HO_196000.out
    subst eo17
    go_wp2
    go_loopg [19] k1 (fun kq v19 w' => ∃ (x19_2 : Int) (x192001_2 : Int),v19 = .int .i64 x19_2 ∧ Aside0 (spec_cuLow.l1 kq x196000_1 (x196000_1.length : Int) x19_2 x196000_1 x196001_1 = some (r1,r2)) ∧ Aside0 (kq ≤ k1) ∧ Aside0 (Kd.R (Kd.int .i64) 3 w' w.heap.size (fun _ => True) (.slice Ao17 x196000_1.length co17) x196000_1) ∧ Aside0 (Kd.R (Kd.int .i64) 3 w' w.heap.size (fun _ => True) (.slice Ao17 x196000_1.length co17) x196000_1) ∧ Aside0 (w'.heap[gb190]? = some (.cells #[(.slice A0_0 l0_0.length c0_0), .int .i64 a0_1] 29 (0,0))) ∧ Aside0 (w'.heap[gb191]? = some (.cells #[(.slice none 0 0), .int .i64 x192001_2] 29 (0,0))) ∧ Aside0 (w'.heap[gb195]? = some (.cells #[(.slice Ao17 x196000_1.length co17), .int .i64 x196001_1] 29 (0,0))) ∧ Aside0 (Below w.heap.size w w'))
    case atStart => exact ⟨(0),(x192001_1),(by first | rfl | (simp;done) | (simp [*];done)),H',⟨Nat.le_refl _⟩,⟨by (with_reducible repeat (first | apply Kd.R_alloc | apply Kd.R_drewN | apply Kd.R_drew));exact HO_196000.out⟩,⟨by (with_reducible repeat (first | apply Kd.R_alloc | apply Kd.R_drewN | apply Kd.R_drew));exact HO_196000.out⟩,⟨by (with_reducible repeat (first | refine blk_drewN ?_ _ | refine blk_drew ?_ | refine blk_alloc ?_ _));exact BK190.out⟩,⟨by (with_reducible repeat (first | refine blk_drewN ?_ _ | refine blk_drew ?_ | refine blk_alloc ?_ _));exact BK191.out⟩,⟨by (with_reducible repeat (first | refine blk_drewN ?_ _ | refine blk_drew ?_ | refine blk_alloc ?_ _));exact BK195.out⟩,⟨by repeat (first | (with_reducible first | exact HB.out | apply below_alloc | apply pw_below_drewN | apply below_drew1 | refine below_set ?_ GE190.out | refine below_set ?_ GE191.out | refine below_set ?_ GE195.out) | exact HB.out)⟩⟩
    case round =>
     clear H'
     try clear c1
     try clear p2
     try clear c5
     try clear c7
     try clear c13
     try clear c13b0
     try clear c14
     try clear c15
     try clear hcz16_0
     try clear hcz16_1
     try clear hfz16_0
     try clear hfz16_1
     try clear p2
     obtain ⟨x19_2,x192001_2,rfl,HA,HK2,HO_17,HO_196000,BK190,BK191,BK195,HB⟩ := hrel
     cases gk with
     | zero => exact absurd HA.out (by simp [spec_cuLow.l1])
     | succ k2 =>
      have H := HA.out
      clear HA
      simp only [spec_cuLow.l1] at H
      by_cases c18 : x19_2 < (x196000_1.length : Int)
      ·rw [if_pos c18] at H
       have c18b0 : decide (x19_2 < (x196000_1.length : Int)) = true := decide_eq_true c18
       clear c18
       by_cases c19 : 0 ≤ x19_2
       ·rw [if_pos c19] at H
        have c19b0 : decide (0 ≤ x19_2) = true := decide_eq_true c19
        clear c19
        by_cases c20 : x19_2 < (x196000_1.length : Int)
        ·rw [if_pos c20] at H
         have c20b0 : decide (x19_2 < (x196000_1.length : Int)) = true := decide_eq_true c20
         clear c20
         by_cases c21 : (Int.tmod (rd x196000_1 x19_2) 2) = 1
         ·rw [if_pos c21] at H
          have c21b0 : ((Int.tmod (rd x196000_1 x19_2) 2) == 1) = true := beq_iff_eq.mpr c21
          have c21b1 : ((Int.tmod (rd x196000_1 x19_2) 2) != 1) = false := bne_eq_false_iff_eq.mpr c21
          clear c21
          simp only [Option.some.injEq,Prod.mk.injEq] at H
          obtain ⟨rfl,rfl⟩ := H
          have p196 : 0 ≤ (x19_2 : Int) := of_decide_eq_true (by first | (with_reducible assumption) | assumption)
          have q196 : x19_2 < (x196000_1.length : Int) := of_decide_eq_true (by first | (with_reducible assumption) | assumption)
          obtain ⟨ad196,e196,hx196_0⟩ := Kd.at_int (Kd.R_reads' HO_17.out).2.2 x19_2 p196 q196
          cases e196
          replace p196 := eq_true p196
          replace q196 := eq_true q196
          have hnb22 := NB195_190.out
          have hnc22 := NB190_195.out
          have hnb23 := NB195_191.out
          have hnc23 := NB191_195.out
          have hcz24_0 : wr.cell? ⟨gb195,0,none⟩ = some (.slice (some ad196) x196000_1.length co17) := (blk_cell BK195.out 0).trans rfl
          have hcz24_1 : wr.cell? ⟨gb195,1,none⟩ = some (.int .i64 x196001_1) := (blk_cell BK195.out 1).trans rfl
          have hfz24_0 := blk_frozen BK195.out 0
          have hfz24_1 := blk_frozen BK195.out 1
          have hnb25 := NB191_190.out
          have hnc25 := NB190_191.out
          have hcz26_0 : wr.cell? ⟨gb191,0,none⟩ = some (.slice none 0 0) := (blk_cell BK191.out 0).trans rfl
          have hcz26_1 : wr.cell? ⟨gb191,1,none⟩ = some (.int .i64 x192001_2) := (blk_cell BK191.out 1).trans rfl
          have hfz26_0 := blk_frozen BK191.out 0
          have hfz26_1 := blk_frozen BK191.out 1
          go_wp2
          refine bodyPost_ret (results_cell_row rfl _ _ gb191 29 #[.slice (some ad196) x196000_1.length co17, .int .i64 x196001_1] (0,0) _ rfl (by (with_reducible repeat (first | refine blk_drewN ?_ _ | refine blk_drew ?_ | refine blk_alloc ?_ _));refine blk_put (cs := #[.slice (some ad196) x196000_1.length co17, .int .i64 x192001_2]) ?_ 1 _ rfl;(with_reducible repeat (first | refine blk_drewN ?_ _ | refine blk_drew ?_ | refine blk_alloc ?_ _));refine blk_put (cs := #[.slice none 0 0, .int .i64 x192001_2]) ?_ 0 _ rfl;(with_reducible repeat (first | refine blk_drewN ?_ _ | refine blk_drew ?_ | refine blk_alloc ?_ _));exact BK191.out) Try.underlying29 rfl (by kernel_rfl)) rfl ?_
          exact ⟨_,by first | rfl | (simp [errW_none,errW_some] <;> rfl) | (simp [*,errW_none,errW_some] <;> rfl),by (with_reducible repeat (first | apply Kd.R_alloc | apply Kd.R_drewN | apply Kd.R_drew));exact Kd.R_mono (Kd.R_far (p := ⟨gb191,1,none⟩) (Kd.R_far (p := ⟨gb191,0,none⟩) (Kd.R_types HO_196000.out BK191.out (by decide)) (fun _ hk => hk.2) (.slice (some ad196) x196000_1.length co17)) (fun _ hk => hk.2) (.int .i64 x196001_1)) (fun _ hk => trivial),by repeat (first | (with_reducible first | exact HB.out | apply below_alloc | apply pw_below_drewN | apply below_drew1 | refine below_set ?_ GE190.out | refine below_set ?_ GE191.out | refine below_set ?_ GE195.out) | exact HB.out)⟩
         ·rw [if_neg c21] at H
          have c21b0 : ((Int.tmod (rd x196000_1 x19_2) 2) == 1) = false := beq_eq_false_iff_ne.mpr c21
          have c21b1 : ((Int.tmod (rd x196000_1 x19_2) 2) != 1) = true := bne_iff_ne.mpr c21
          have H' := Aside0.mk H
          clear H
          have p196 : 0 ≤ (x19_2 : Int) := of_decide_eq_true (by first | (with_reducible assumption) | assumption)
          have q196 : x19_2 < (x196000_1.length : Int) := of_decide_eq_true (by first | (with_reducible assumption) | assumption)
          obtain ⟨ad196,e196,hx196_0⟩ := Kd.at_int (Kd.R_reads' HO_17.out).2.2 x19_2 p196 q196
          cases e196
          replace p196 := eq_true p196
          replace q196 := eq_true q196
          go_wp2
          go_roundg k2
          case measure => have := HK1.out;have := HK2.out;omega
          case rel => exact ⟨(wrap64 (x19_2 + 1)),(x192001_2),(by first | rfl | (simp;done) | (simp [*];done)),H',⟨by have := HK1.out;have := HK2.out;omega⟩,⟨by (with_reducible repeat (first | apply Kd.R_alloc | apply Kd.R_drewN | apply Kd.R_drew));exact HO_17.out⟩,⟨by (with_reducible repeat (first | apply Kd.R_alloc | apply Kd.R_drewN | apply Kd.R_drew));exact HO_196000.out⟩,⟨by (with_reducible repeat (first | refine blk_drewN ?_ _ | refine blk_drew ?_ | refine blk_alloc ?_ _));exact BK190.out⟩,⟨by (with_reducible repeat (first | refine blk_drewN ?_ _ | refine blk_drew ?_ | refine blk_alloc ?_ _));exact BK191.out⟩,⟨by (with_reducible repeat (first | refine blk_drewN ?_ _ | refine blk_drew ?_ | refine blk_alloc ?_ _));exact BK195.out⟩,⟨by repeat (first | (with_reducible first | exact HB.out | apply below_alloc | apply pw_below_drewN | apply below_drew1 | refine below_set ?_ GE190.out | refine below_set ?_ GE191.out | refine below_set ?_ GE195.out) | exact HB.out)⟩⟩
        ·rw [if_neg c20] at H
         exact absurd H (by simp)
       ·rw [if_neg c19] at H
        exact absurd H (by simp)
      ·rw [if_neg c18] at H
       have c18b0 : decide (x19_2 < (x196000_1.length : Int)) = false := decide_eq_false c18
       clear c18
       have H' := Aside0.mk H
       clear H
       have hnb27 := NB195_190.out
       have hnc27 := NB190_195.out
       have hnb28 := NB195_191.out
       have hnc28 := NB191_195.out
       have hcz29_0 : wr.cell? ⟨gb195,0,none⟩ = some (.slice Ao17 x196000_1.length co17) := (blk_cell BK195.out 0).trans rfl
       have hcz29_1 : wr.cell? ⟨gb195,1,none⟩ = some (.int .i64 x196001_1) := (blk_cell BK195.out 1).trans rfl
       have hfz29_0 := blk_frozen BK195.out 0
       have hfz29_1 := blk_frozen BK195.out 1
       go_wp2
       go_loopg [31] k2 (fun kq v31 w' => ∃ (x31_3 : Int) (x196000_3 : List Int) (u196000 : Value),v31 = .int .i64 x31_3 ∧ Aside0 (spec_cuLow.l2 kq (x196000_1.length : Int) x31_3 x196000_3 x196001_1 = some (r1,r2)) ∧ Aside0 (kq ≤ k2) ∧ Aside0 (Kd.R (Kd.int .i64) 3 w' w.heap.size (fun _ => True) u196000 x196000_3) ∧ Aside0 (w'.heap[gb190]? = some (.cells #[(.slice A0_0 l0_0.length c0_0), .int .i64 a0_1] 29 (0,0))) ∧ Aside0 (w'.heap[gb191]? = some (.cells #[(.slice none 0 0), .int .i64 x192001_2] 29 (0,0))) ∧ Aside0 (w'.heap[gb195]? = some (.cells #[u196000, .int .i64 x196001_1] 29 (0,0))) ∧ Aside0 (Below w.heap.size w w'))
       case atStart => exact ⟨(0),(x196000_1),(.slice Ao17 x196000_1.length co17),(by first | rfl | (simp;done) | (simp [*];done)),H',⟨Nat.le_refl _⟩,⟨by (with_reducible repeat (first | apply Kd.R_alloc | apply Kd.R_drewN | apply Kd.R_drew));exact HO_196000.out⟩,⟨by (with_reducible repeat (first | refine blk_drewN ?_ _ | refine blk_drew ?_ | refine blk_alloc ?_ _));exact BK190.out⟩,⟨by (with_reducible repeat (first | refine blk_drewN ?_ _ | refine blk_drew ?_ | refine blk_alloc ?_ _));exact BK191.out⟩,⟨by (with_reducible repeat (first | refine blk_drewN ?_ _ | refine blk_drew ?_ | refine blk_alloc ?_ _));exact BK195.out⟩,⟨by repeat (first | (with_reducible first | exact HB.out | apply below_alloc | apply pw_below_drewN | apply below_drew1 | refine below_set ?_ GE190.out | refine below_set ?_ GE191.out | refine below_set ?_ GE195.out) | exact HB.out)⟩⟩
       case round =>
        clear H'
        try clear c1
        try clear p1
        try clear q1
        try clear hx1
        try clear c2
        try clear p2
        try clear c5
        try clear p6
        try clear c7
        try clear c13
        try clear c13b0
        try clear c14
        try clear c15
        try clear c18
        try clear c18b0
        try clear c19
        try clear c19b0
        try clear p19
        try clear q19
        try clear hx19
        try clear c20
        try clear c20b0
        try clear c21
        try clear c21b0
        try clear c21b1
        try clear c22
        try clear c23
        try clear c25
        try clear c27
        try clear c28
        try clear hcz16_0
        try clear hcz16_1
        try clear hcz24_0
        try clear hcz24_1
        try clear hcz26_0
        try clear hcz26_1
        try clear hcz29_0
        try clear hcz29_1
        try clear hfz16_0
        try clear hfz16_1
        try clear hfz24_0
        try clear hfz24_1
        try clear hfz26_0
        try clear hfz26_1
        try clear hfz29_0
        try clear hfz29_1
        try clear hx196_0
        try clear p196
        try clear p2
        try clear q196
        obtain ⟨x31_3,x196000_3,u196000,rfl,HA,HK3,HO_196000,BK190,BK191,BK195,HB⟩ := hrel
        cases gk with
        | zero => exact absurd HA.out (by simp [spec_cuLow.l2])
        | succ k3 =>
         have H := HA.out
         clear HA
         simp only [spec_cuLow.l2] at H
         by_cases c30 : x31_3 < (x196000_1.length : Int)
         ·rw [if_pos c30] at H
          have c30b0 : decide (x31_3 < (x196000_1.length : Int)) = true := decide_eq_true c30
          clear c30
          by_cases c31 : 0 ≤ x31_3
          ·rw [if_pos c31] at H
           have c31b0 : decide (0 ≤ x31_3) = true := decide_eq_true c31
           clear c31
           by_cases c32 : x31_3 < (x196000_3.length : Int)
           ·rw [if_pos c32] at H
            have c32b0 : decide (x31_3 < (x196000_3.length : Int)) = true := decide_eq_true c32
            clear c32
            obtain ⟨y198,hy198⟩ : ∃ y_ : List Int,y_ = (x196000_3.set (x31_3 : Int).toNat (wrap64 (Int.tdiv (rd x196000_3 x31_3) 2))) := ⟨_,rfl⟩
            replace H : (spec_cuLow.l2 k3 (x196000_1.length : Int) (wrap64 (x31_3 + 1)) y198 x196001_1) = some (r1,r2) := by first | (rw [hy198];with_reducible exact H) | (have H2_ := (Option.bind_some _ _).symm.trans H;rw [hy198];with_reducible exact H2_) | (have H2_ := (Option.bind_some _ _).symm.trans H;with_reducible exact H2_) | with_reducible exact H | (rw [hy198];exact H) | exact H
            have Ny198 := Aside0.mk hy198
            clear hy198
            have H' := Aside0.mk H
            clear H
            have hnb34 := NB195_190.out
            have hnc34 := NB190_195.out
            have hnb35 := NB195_191.out
            have hnc35 := NB191_195.out
            have hcz36_0 : wr.cell? ⟨gb195,0,none⟩ = some (u196000) := (blk_cell BK195.out 0).trans rfl
            have hcz36_1 : wr.cell? ⟨gb195,1,none⟩ = some (.int .i64 x196001_1) := (blk_cell BK195.out 1).trans rfl
            have hfz36_0 := blk_frozen BK195.out 0
            have hfz36_1 := blk_frozen BK195.out 1
            obtain ⟨Ao37,co37,eo37⟩ := Kd.R_slice HO_196000.out
            subst eo37
            have p197 : 0 ≤ (x31_3 : Int) := of_decide_eq_true (by first | (with_reducible assumption) | assumption)
            have q197 : x31_3 < (x196000_3.length : Int) := of_decide_eq_true (by first | (with_reducible assumption) | assumption)
            obtain ⟨ad197,e197,hx197_0⟩ := Kd.at_int (Kd.R_reads' HO_196000.out).2.2 x31_3 p197 q197
            cases e197
            replace p197 := eq_true p197
            replace q197 := eq_true q197
            have p33 : 0 ≤ (x31_3 : Int) := of_decide_eq_true (by first | (with_reducible assumption) | assumption)
            have q33 : (x31_3 : Int) < ((x196000_3.length : Int) : Int) := of_decide_eq_true (by first | (with_reducible assumption) | assumption)
            obtain ⟨go33,co33,eo33,gb33,gl33,cl33,HG33⟩ := Kd.R_form HO_196000.out (by omega)
            (first | cases eo33 | (injection eo33 with ea_ en_ ec_;(first | subst ea_ | (injection ea_ with ea_;subst ea_));subst ec_;clear en_))
            have GB33 := Aside0.mk gb33
            have GG33 := Aside0.mk HG33
            clear gb33 gl33 HG33
            (first | simp only [add_plain] at hx197_0 | skip)
            obtain ⟨hx33_0,hf33_0⟩ := Kd.R_celln 0 HO_196000.out (x31_3 : Int) p33 q33
            replace p33 := eq_true p33
            replace q33 := eq_true q33
            have HP38 := Kd.R_putg HO_196000.out (x31_3 : Int) (wrap64 (Int.tdiv (rd x196000_3 x31_3) 2))
            go_wp2_with (first | ((with_reducible refine gate_store (t := 3) (p := 40) rfl ?_);refine store_event (t := 3) (p := 40) (v := ?vo_w39) (w1 := (wr.setCell ⟨go33,(x31_3 : Int).toNat,none⟩ (.int .i64 (wrap64 (Int.tdiv (rd x196000_3 x31_3) 2))))) ?hg ?ho ?hn ?hr ?_;(case ho => rfl);(case hg => rfl);(case hn => rfl);(case hr => first | (go_simp;done) | (go_simp;rfl));intro w39 hw;have hg : wr.grownBy w39 (some go33) := (by rw [hw];exact HP38.2);have hp_ : Kd.R (Kd.int .i64) 3 w39 w.heap.size (fun _ => True) (.slice (some ⟨go33,0,none⟩) x196000_3.length co37) y198 := (by rw [hw,Ny198.out];exact HP38.1);clear HP38;have n0_ := Aside0.mk (hp_);have n1_ := Aside0.mk (blk_grown (g := gb190) (o := .cells #[.slice A0_0 l0_0.length c0_0, .int .i64 a0_1] 29 (0,0)) (by (with_reducible repeat (first | refine blk_drewN ?_ _ | refine blk_drew ?_ | refine blk_alloc ?_ _));exact BK190.out) hg (Kd.R_ne HO_196000.out BK190.out (by decide)));have n2_ := Aside0.mk (blk_grown (g := gb191) (o := .cells #[.slice none 0 0, .int .i64 x192001_2] 29 (0,0)) (by (with_reducible repeat (first | refine blk_drewN ?_ _ | refine blk_drew ?_ | refine blk_alloc ?_ _));exact BK191.out) hg (Kd.R_ne HO_196000.out BK191.out (by decide)));have n3_ := Aside0.mk (blk_grown (g := gb195) (o := .cells #[.slice (some ⟨go33,0,none⟩) x196000_3.length co37, .int .i64 x196001_1] 29 (0,0)) (by (with_reducible repeat (first | refine blk_drewN ?_ _ | refine blk_drew ?_ | refine blk_alloc ?_ _));exact BK195.out) hg (Kd.R_ne HO_196000.out BK195.out (by decide)));have n4_ := Aside0.mk ((by rw [hw];exact below_set (HB.out) GB33.out : Below w.heap.size w w39));clear HO_196000;clear BK190;clear BK191;clear BK195;clear HB;have HO_196000 := n0_;have BK190 := n1_;have BK191 := n2_;have BK195 := n3_;have HB := n4_;clear n0_ n1_ n2_ n3_ n4_;clear hg hw hp_))
            go_roundg k3
            case measure => have := HK1.out;have := HK2.out;have := HK3.out;omega
            case rel => exact ⟨(wrap64 (x31_3 + 1)),(y198),(.slice (some ⟨go33,0,none⟩) x196000_3.length co37),(by first | rfl | (simp;done) | (simp [*];done)),H',⟨by have := HK1.out;have := HK2.out;have := HK3.out;omega⟩,⟨by (with_reducible repeat (first | apply Kd.R_alloc | apply Kd.R_drewN | apply Kd.R_drew));exact HO_196000.out⟩,⟨by (with_reducible repeat (first | refine blk_drewN ?_ _ | refine blk_drew ?_ | refine blk_alloc ?_ _));exact BK190.out⟩,⟨by (with_reducible repeat (first | refine blk_drewN ?_ _ | refine blk_drew ?_ | refine blk_alloc ?_ _));exact BK191.out⟩,⟨by (with_reducible repeat (first | refine blk_drewN ?_ _ | refine blk_drew ?_ | refine blk_alloc ?_ _));exact BK195.out⟩,⟨by repeat (first | (with_reducible first | exact HB.out | apply below_alloc | apply pw_below_drewN | apply below_drew1 | refine below_set ?_ GE190.out | refine below_set ?_ GE191.out | refine below_set ?_ GE195.out) | exact HB.out)⟩⟩
           ·rw [if_neg c32] at H
            exact absurd H (by simp)
          ·rw [if_neg c31] at H
           exact absurd H (by simp)
         ·rw [if_neg c30] at H
          have c30b0 : decide (x31_3 < (x196000_1.length : Int)) = false := decide_eq_false c30
          clear c30
          have H' := Aside0.mk H
          clear H
          have hnb40 := NB195_190.out
          have hnc40 := NB190_195.out
          have hnb41 := NB195_191.out
          have hnc41 := NB191_195.out
          have hcz42_0 : wr.cell? ⟨gb195,0,none⟩ = some (u196000) := (blk_cell BK195.out 0).trans rfl
          have hcz42_1 : wr.cell? ⟨gb195,1,none⟩ = some (.int .i64 x196001_1) := (blk_cell BK195.out 1).trans rfl
          have hfz42_0 := blk_frozen BK195.out 0
          have hfz42_1 := blk_frozen BK195.out 1
          go_wp2
          go_roundg k3
          case measure => have := HK1.out;have := HK2.out;have := HK3.out;omega
          case rel => exact ⟨(x192001_2),(x196000_3),(wrap64 (Int.tdiv x196001_1 2)),(u196000),H',⟨by have := HK1.out;have := HK2.out;have := HK3.out;omega⟩,⟨by (with_reducible repeat (first | apply Kd.R_alloc | apply Kd.R_drewN | apply Kd.R_drew));exact Kd.R_mono (Kd.R_far (p := ⟨gb195,1,none⟩) (Kd.R_types HO_196000.out BK195.out (by decide)) (fun _ hk => hk.2) (.int .i64 (wrap64 (Int.tdiv x196001_1 2)))) (fun _ hk => trivial)⟩,⟨by (with_reducible repeat (first | refine blk_drewN ?_ _ | refine blk_drew ?_ | refine blk_alloc ?_ _));refine blk_far ?_ NB190_195.out _;(with_reducible repeat (first | refine blk_drewN ?_ _ | refine blk_drew ?_ | refine blk_alloc ?_ _));exact BK190.out⟩,⟨by (with_reducible repeat (first | refine blk_drewN ?_ _ | refine blk_drew ?_ | refine blk_alloc ?_ _));refine blk_far ?_ NB191_195.out _;(with_reducible repeat (first | refine blk_drewN ?_ _ | refine blk_drew ?_ | refine blk_alloc ?_ _));exact BK191.out⟩,⟨by (with_reducible repeat (first | refine blk_drewN ?_ _ | refine blk_drew ?_ | refine blk_alloc ?_ _));refine blk_put (cs := #[u196000, .int .i64 x196001_1]) ?_ 1 _ rfl;(with_reducible repeat (first | refine blk_drewN ?_ _ | refine blk_drew ?_ | refine blk_alloc ?_ _));exact BK195.out⟩,⟨by repeat (first | (with_reducible first | exact HB.out | apply below_alloc | apply pw_below_drewN | apply below_drew1 | refine below_set ?_ GE190.out | refine below_set ?_ GE191.out | refine below_set ?_ GE195.out) | exact HB.out)⟩⟩
   ·rw [if_neg c13] at H
    have c13b0 : decide (1 < x196001_1) = false := decide_eq_false c13
    clear c13
    simp only [Option.some.injEq,Prod.mk.injEq] at H
    obtain ⟨rfl,rfl⟩ := H
    have hnb43 := NB195_190.out
    have hnc43 := NB190_195.out
    have hnb44 := NB195_191.out
    have hnc44 := NB191_195.out
    have hcz45_0 : wr.cell? ⟨gb195,0,none⟩ = some (u196000) := (blk_cell BK195.out 0).trans rfl
    have hcz45_1 : wr.cell? ⟨gb195,1,none⟩ = some (.int .i64 x196001_1) := (blk_cell BK195.out 1).trans rfl
    have hfz45_0 := blk_frozen BK195.out 0
    have hfz45_1 := blk_frozen BK195.out 1
    obtain ⟨Ao46,co46,eo46⟩ := Kd.R_slice HO_196000.out
    subst eo46
    have hnb47 := NB191_190.out
    have hnc47 := NB190_191.out
    have hcz48_0 : wr.cell? ⟨gb191,0,none⟩ = some (.slice none 0 0) := (blk_cell BK191.out 0).trans rfl
    have hcz48_1 : wr.cell? ⟨gb191,1,none⟩ = some (.int .i64 x192001_1) := (blk_cell BK191.out 1).trans rfl
    have hfz48_0 := blk_frozen BK191.out 0
    have hfz48_1 := blk_frozen BK191.out 1
    go_wp2
    refine bodyPost_ret (results_cell_row rfl _ _ gb191 29 #[.slice Ao46 x196000_1.length co46, .int .i64 x196001_1] (0,0) _ rfl (by (with_reducible repeat (first | refine blk_drewN ?_ _ | refine blk_drew ?_ | refine blk_alloc ?_ _));refine blk_put (cs := #[.slice Ao46 x196000_1.length co46, .int .i64 x192001_1]) ?_ 1 _ rfl;(with_reducible repeat (first | refine blk_drewN ?_ _ | refine blk_drew ?_ | refine blk_alloc ?_ _));refine blk_put (cs := #[.slice none 0 0, .int .i64 x192001_1]) ?_ 0 _ rfl;(with_reducible repeat (first | refine blk_drewN ?_ _ | refine blk_drew ?_ | refine blk_alloc ?_ _));exact BK191.out) Try.underlying29 rfl (by kernel_rfl)) rfl ?_
    exact ⟨_,by first | rfl | (simp [errW_none,errW_some] <;> rfl) | (simp [*,errW_none,errW_some] <;> rfl),by (with_reducible repeat (first | apply Kd.R_alloc | apply Kd.R_drewN | apply Kd.R_drew));exact Kd.R_mono (Kd.R_far (p := ⟨gb191,1,none⟩) (Kd.R_far (p := ⟨gb191,0,none⟩) (Kd.R_types HO_196000.out BK191.out (by decide)) (fun _ hk => hk.2) (.slice Ao46 x196000_1.length co46)) (fun _ hk => hk.2) (.int .i64 x196001_1)) (fun _ hk => trivial),by repeat (first | (with_reducible first | exact HB.out | apply below_alloc | apply pw_below_drewN | apply below_drew1 | refine below_set ?_ GE190.out | refine below_set ?_ GE191.out | refine below_set ?_ GE195.out) | exact HB.out)⟩

end Go.Proofs.Ytmkpngmdikbbeaa.P
