/- Written by a program of this workplace (own_print.py, over the kit's print) for the functions that the statements reach, with contracts of its own. Lean checks it. -/
import Derived.Test.YtpcalkaamfhejaaPx0
import Derived.Test.YtpcalkaamfhejaaPx1
import Derived.Test.YtpcalkaamfhejaaPx2
import Derived.Test.YtpcalkaamfhejaaPx4
import Derived.Test.YtpcalkaamfhejaaPx6
import Derived.Test.YtpcalkaamfhejaaPx9
namespace Go.Proofs.Ytpcalkaamfhejaa.P
open Go.RowKit Go.Proofs.YtpcalkaamfhejaaW.PrintWords Go.Proofs.YtpcalkaamfhejaaW.PrintLast Go.Proofs.YtpcalkaamfhejaaW.PrintMore
attribute [local go_sem] max2_int min2_int max_two min_two max_three min_three max_four min_four   -- for this text's walks alone
set_option linter.unusedVariables false
set_option linter.unusedSimpArgs false

/-! ### spec_SlowestCircle: function 11 -/
def spec_SlowestCircle.l0 : Nat → List (List Int) → Int → List Int → Int → Option (List Int × Int × Bool)
 | 0,_,_,_,_ => none
 | k + 1,xs,i,b,g => if i < (xs.length : Int) then (if 0 ≤ i then ((spec_cyRun.f k (rd_L1 xs i)).bind fun r => (if r.2 > g then spec_SlowestCircle.l0 k xs (wrap64 (i + 1)) (rd_L1 xs i) r.2 else spec_SlowestCircle.l0 k xs (wrap64 (i + 1)) b g)) else none) else some (b,g,true)
def spec_SlowestCircle.f (k : Nat) (a0 a1 : Int) : Option (List Int × Int × Bool) := (spec_cyFew.f a0 a1).bind fun t => (if t = true then ((spec_cyAll.f k a0 a1).bind fun xs => spec_SlowestCircle.l0 k xs 0 [] (-1)) else some ([],0,false))
theorem spec_SlowestCircle.mono_l : ∀ k,(∀ y0 y1 y2 y3,LeO (spec_SlowestCircle.l0 k y0 y1 y2 y3) (spec_SlowestCircle.l0 (k + 1) y0 y1 y2 y3))
 | 0 => fun _ _ _ _ r h => by simp [spec_SlowestCircle.l0] at h
 | k + 1 => by
  have ih := spec_SlowestCircle.mono_l k
  intro y0 y1 y2 y3
  unfold spec_SlowestCircle.l0
  refine LeO.ite (LeO.ite (LeO.bind (spec_cyRun.mono _ _) (fun _ => LeO.ite (ih _ _ _ _) (ih _ _ _ _))) (LeO.refl _)) (LeO.refl _)
theorem spec_SlowestCircle.mono : ∀ a0 a1 k,LeO (spec_SlowestCircle.f k a0 a1) (spec_SlowestCircle.f (k + 1) a0 a1) := fun a0 a1 k => by
 unfold spec_SlowestCircle.f
 exact LeO.bind (LeO.refl _) (fun _ => LeO.ite (LeO.bind (spec_cyAll.mono _ _ _) (fun _ => spec_SlowestCircle.mono_l k _ _ _ _)) (LeO.refl _))
set_option maxHeartbeats 8000000 in
set_option maxRecDepth 100000 in
theorem spec_SlowestCircle.calls (k : Nat) (a0 a1 : Int) (r1 : List Int) (r2 : Int) (r3 : Bool) (w : World) (h : spec_SlowestCircle.f k a0 a1 = some (r1,r2,r3)) :
  Calls Try.prog 11 #[.int .i64 a0, .int .i64 a1] w fun e w' => ∃ v0_ : Value,e = .returned (.tuple #[v0_, .int .i64 r2, .bool r3]) ∧ Kd.R (Kd.int .i64) 3 w' w.heap.size (fun _ => True) v0_ r1 ∧ Below w.heap.size w w' := by
 unfold spec_SlowestCircle.f at h
 obtain ⟨b0,B0,h⟩ := Option.bind_eq_some_iff.mp h
 replace B0 := Aside0.mk B0
 cases b0 with
 | false =>
  rw [if_neg (by decide)] at h
  simp only [Option.some.injEq,Prod.mk.injEq] at h
  obtain ⟨rfl,rfl,rfl⟩ := h
  go_enter Try.func11,Try.ntmps11
  go_wp2_with fail
  refine (spec_cyFew.calls a0 a1 false _ B0.out).mono ?_
  rintro e w2 ⟨rfl,hd⟩
  have HB := Aside0.mk hd.below
  clear hd
  go_wp2
  go_ret3
  exact ⟨_,rfl,Kd.R_nil _ _ _ _ _,HB.out⟩
 | true =>
  rw [if_pos rfl] at h
  obtain ⟨xs,X0,h⟩ := Option.bind_eq_some_iff.mp h
  replace X0 := Aside0.mk X0
  have H' := Aside0.mk h
  clear h
  go_enter Try.func11,Try.ntmps11
  go_wp2_with fail
  refine (spec_cyFew.calls a0 a1 true _ B0.out).mono ?_
  rintro e w2 ⟨rfl,hd⟩
  have HB1 := Aside0.mk hd.below
  clear hd
  go_wp2_with fail
  refine (spec_cyAll.calls k a0 a1 xs _ X0.out).mono ?_
  rintro e w3 ⟨v19,rfl,ho,hb⟩
  have HS := Aside0.mk (Kd.S_lower ho HB1.out.size)
  have HB := Aside0.mk (below_step HB1.out hb)
  clear ho hb HB1
  obtain ⟨A19,c19,e19⟩ := Kd.S_slice HS.out
  subst e19
  have HO7 := Aside0.mk (Kd.R_nil (Kd.int .i64) 3 w3 w.heap.size (fun _ => True))
  go_wp2
  go_loopg [7,8,21] k (fun kq v7 v8 v21 w' => ∃ (x7 : List Int) (x8 x21 : Int),v8 = .int .i64 x8 ∧ v21 = .int .i64 x21 ∧ Aside0 (spec_SlowestCircle.l0 kq xs x21 x7 x8 = some (r1,r2,r3)) ∧ Aside0 (kq ≤ k) ∧ Aside0 (Kd.R (Kd.int .i64) 3 w' w.heap.size (fun _ => True) v7 x7) ∧ Aside0 (Kd.S (Kd.slice 3 (Kd.int .i64)) 25 w' w.heap.size (fun _ => True) (.slice A19 xs.length c19) xs) ∧ Aside0 (Below w.heap.size w w'))
  case atStart => exact ⟨[], -1,0,(by first | rfl | (simp;done) | (simp [*];done)),(by first | rfl | (simp;done) | (simp [*];done)),H',⟨Nat.le_refl _⟩,HO7,HS,HB⟩
  case round =>
   clear H' HO7 HS HB
   obtain ⟨x7,x8,x21,rfl,rfl,HA,HK1,HO7,HS,HB⟩ := hrel
   cases gk with
   | zero => exact absurd HA.out (by simp [spec_SlowestCircle.l0])
   | succ k1 =>
    have H := HA.out
    clear HA
    simp only [spec_SlowestCircle.l0] at H
    by_cases c0 : x21 < (xs.length : Int)
    ·rw [if_pos c0] at H
     by_cases c1 : 0 ≤ x21
     ·rw [if_pos c1] at H
      obtain ⟨⟨t1,t2⟩,T1,H⟩ := Option.bind_eq_some_iff.mp H
      replace T1 := Aside0.mk T1
      obtain ⟨ad,A0,cc,e0,hx,hl,hi⟩ := at_L1 (Kd.S_reads' HS.out).2.2 x21 c1 c0
      subst e0
      obtain ⟨ce,_,hMe,hcc⟩ := Kd.S_get HS.out [] x21 c1 c0
      obtain ⟨ve,rfl,ge⟩ := hMe
      have hv := hcc 0 _ rfl
      rw [Nat.add_zero,show ((Kd.slice 3 (Kd.int .i64))).sz = 1 from rfl,Nat.mul_one] at hv
      replace hv := Option.some.inj (hv.symm.trans hx)
      rw [hv] at ge
      have HE := Aside0.mk (show Kd.R (Kd.int .i64) 3 wr w.heap.size (fun _ => True) (.slice A0 (rd_L1 xs x21).length cc) (rd_L1 xs x21) from Kd.R_mono ge (fun _ _ => trivial))
      have c0b : decide (x21 < (xs.length : Int)) = true := decide_eq_true c0
      replace c0 := eq_true c0
      replace c1 := eq_true c1
      clear hv ge hcc hl hi
      by_cases c2 : t2 > x8
      ·simp only at H
       rw [if_pos c2] at H
       have H2 := Aside0.mk H
       have c2b : decide (x8 < t2) = true := decide_eq_true c2
       clear H c2
       go_wp2_with fail
       refine (spec_cyRun.calls k1 (fun _ => True) A0 cc (rd_L1 xs x21) t1 t2 _ (Kd.R_V HE.out) T1.out).mono ?_
       rintro e w4 ⟨v0,rfl,_,hb⟩
       have n0_ := Aside0.mk (Kd.R_below HE.out hb)
       have n1_ := Aside0.mk (Kd.S_below HS.out hb)
       have n2_ := Aside0.mk (below_step HB.out hb)
       clear hb HO7 HE HS HB hx
       go_wp2
       go_roundg k1
       case measure => have := HK1.out;omega
       case rel => exact ⟨rd_L1 xs x21,t2,wrap64 (x21 + 1),(by first | rfl | (simp;done) | (simp [*];done)),(by first | rfl | (simp;done) | (simp [*];done)),H2,⟨by have := HK1.out;omega⟩,n0_,n1_,n2_⟩
      ·simp only at H
       rw [if_neg c2] at H
       have H2 := Aside0.mk H
       have c2b : decide (x8 < t2) = false := decide_eq_false c2
       clear H c2
       go_wp2_with fail
       refine (spec_cyRun.calls k1 (fun _ => True) A0 cc (rd_L1 xs x21) t1 t2 _ (Kd.R_V HE.out) T1.out).mono ?_
       rintro e w4 ⟨v0,rfl,_,hb⟩
       have n0_ := Aside0.mk (Kd.R_below HO7.out hb)
       have n1_ := Aside0.mk (Kd.S_below HS.out hb)
       have n2_ := Aside0.mk (below_step HB.out hb)
       clear hb HO7 HE HS HB hx
       go_wp2
       go_roundg k1
       case measure => have := HK1.out;omega
       case rel => exact ⟨x7,x8,wrap64 (x21 + 1),(by first | rfl | (simp;done) | (simp [*];done)),(by first | rfl | (simp;done) | (simp [*];done)),H2,⟨by have := HK1.out;omega⟩,n0_,n1_,n2_⟩
     ·rw [if_neg c1] at H
      exact absurd H (by simp)
    ·rw [if_neg c0] at H
     simp only [Option.some.injEq,Prod.mk.injEq] at H
     obtain ⟨rfl,rfl,rfl⟩ := H
     have c0b : decide (x21 < (xs.length : Int)) = false := decide_eq_false c0
     clear c0
     obtain ⟨A9,c9,e9⟩ := Kd.R_slice HO7.out
     subst e9
     go_wp2
     go_ret3
     exact ⟨_,rfl,HO7.out,HB.out⟩

/-! ### impl_SlowestCircle: function 12 -/
/-- One list more: does it take longer? -/
def impl_SlowestCircle.step (k : Nat) (l : List Int) (s : List Int × Int) : Option (List Int × Int) := (impl_rest.f k l).bind fun r => (if r.1 > s.2 then ((slices_Clone_int_int.f l).bind fun c => some (c,r.1)) else some s)
def impl_SlowestCircle.f (k : Nat) (a0 a1 : Int) : Option (List Int × Int × Bool) := (impl_within.f a0 2 4).bind fun b0 => (if b0 = true then ((impl_within.f a1 0 8).bind fun b1 => (if b1 = true then ((lists impl_SlowestCircle.step k a0 a1 (List.replicate a0.toNat 0) ([], -1)).bind fun c => some (c.1,c.2,true)) else some ([],0,false))) else some ([],0,false))
theorem impl_SlowestCircle.step_mono (k : Nat) (l : List Int) (s : List Int × Int) : LeO (impl_SlowestCircle.step k l s) (impl_SlowestCircle.step (k + 1) l s) := LeO.bind (impl_rest.mono _ _) (fun _ => LeO.refl _)
theorem impl_SlowestCircle.mono : ∀ a0 a1 k,LeO (impl_SlowestCircle.f k a0 a1) (impl_SlowestCircle.f (k + 1) a0 a1) := fun a0 a1 k => by
 unfold impl_SlowestCircle.f
 refine LeO.bind (LeO.refl _) (fun _ => LeO.ite (LeO.bind (LeO.refl _) (fun _ => LeO.ite (LeO.bind ?_ (fun _ => LeO.refl _)) (LeO.refl _))) (LeO.refl _))
 exact lists_mono impl_SlowestCircle.step_mono _ _ _ _ _
/-- The two boxes that the closure holds,and the best list's own row: none of them is block g. -/
def impl_SlowestCircle.Held (b8 b7 base g : Nat) (s : List Int × Int) (W : World) : Prop := W.heap[b8]? = some (.cells #[.int .i64 s.2] 3 (0,0)) ∧ ∃ v,W.heap[b7]? = some (.cells #[v] 25 (0,0)) ∧ Kd.R (Kd.int .i64) 3 W base (fun k_ => k_ ≠ g ∧ k_ ≠ b8 ∧ k_ ≠ b7) v s.1
set_option maxHeartbeats 4000000 in
set_option maxRecDepth 100000 in
theorem impl_SlowestCircle.lit (b8 b7 g : Nat) (k : Nat) (N : Nat) (W w0 : World) (cc : Nat) (l : List Int) (s s' : List Int × Int) (hB : Below w0.heap.size w0 W) (h8 : w0.heap.size ≤ b8) (h7 : w0.heap.size ≤ b7) (hN : N ≤ g) (hI : impl_SlowestCircle.Held b8 b7 w0.heap.size g s W) (hR : Kd.R (Kd.int .i64) 3 W w0.heap.size (fun k_ => N ≤ k_) (.slice (some ⟨g,0,none⟩) l.length cc) l) (h : impl_SlowestCircle.step k l s = some s') :
  Calls Try.prog 68 #[.slice (some ⟨g,0,none⟩) l.length cc, .pointer (some ⟨b8,0,none⟩), .pointer (some ⟨b7,0,none⟩)] W fun e w' => e = .returned (.tuple #[]) ∧ impl_SlowestCircle.Held b8 b7 w0.heap.size g s' w' ∧ Below w0.heap.size w0 w' ∧ Kept W w' (fun k_ => k_ = b8 ∨ k_ = b7) := by
 obtain ⟨s1,s2⟩ := s
 obtain ⟨⟨r1,r2,r3⟩,h1,h2⟩ := Option.bind_eq_some_iff.mp h
 obtain ⟨hI8,v7,hI7,hIR⟩ := hI
 simp only at h2 hI8 hI7 hIR
 have hne : b7 ≠ b8 := blk_ne hI7 hI8 (by decide)
 have HI8 := Aside0.mk hI8
 have HI7 := Aside0.mk hI7
 have HIR := Aside0.mk hIR
 have HB := Aside0.mk hB
 have HO := Aside0.mk hR
 have H8 := Aside0.mk h8
 have H7 := Aside0.mk h7
 have H1 := Aside0.mk h1
 have HNE := Aside0.mk hne
 have HG := Aside0.mk (show g < W.heap.size from Kd.R_lt hR g rfl)
 clear hI8 hI7 hIR hB hR h8 h7 h1 h hne hN
 by_cases hq : r1 > s2
 ·rw [if_pos hq] at h2
  obtain ⟨t,T1,h2⟩ := Option.bind_eq_some_iff.mp h2
  have H2 := Aside0.mk (Option.some.inj h2)
  have HT := Aside0.mk T1
  have hqb : decide (s2 < r1) = true := decide_eq_true hq
  clear h2 hq T1
  go_enter Try.func68,Try.ntmps68
  go_wp2_with fail
  refine (impl_rest.calls k (fun k_ => N ≤ k_) (some ⟨g,0,none⟩) cc l r1 r2 r3 _ (Kd.R_V HO.out) H1.out).mono ?_
  rintro e w1 ⟨v1,v2,rfl,_,_,hb⟩
  have HB1 := Aside0.mk hb
  clear hb
  have hz : w1.cell? ⟨b8,0,none⟩ = some (.int .i64 s2) := (blk_cell (blk_below HI8.out HB1.out) 0).trans rfl
  have HO1 := Aside0.mk (Kd.R_below HO.out HB1.out)
  go_wp2_with fail
  refine (slices_Clone_int_int.calls (some ⟨g,0,none⟩) cc l t _ (Kd.R_reads' HO1.out).2.2 (Kd.R_reads' HO1.out).2.1 HT.out).mono ?_
  rintro e w2 ⟨v3,rfl,ho,hb⟩
  clear hz
  have HC := Aside0.mk (show ∀ k_,v3.ownBlock = some k_ → w1.heap.size ≤ k_ from Kd.R_base ho)
  have HR := Aside0.mk (Kd.R_tight rfl (Kd.R_lower ho (Nat.le_trans HB.out.size HB1.out.size)))
  have HB2 := Aside0.mk (below_step HB1.out hb)
  have HW1 := Aside0.mk HB1.out.size
  clear ho hb HO1
  obtain ⟨A3,c3,e3⟩ := Kd.R_slice HR.out
  subst e3
  have K8 := Aside0.mk (blk_below HI8.out HB2.out)
  have K7 := Aside0.mk (blk_below HI7.out HB2.out)
  have hz7 : w2.cell? ⟨b7,0,none⟩ = some v7 := (blk_cell K7.out 0).trans rfl
  have hf7 := blk_frozen K7.out 0
  have hz8 : w2.cell? ⟨b8,0,none⟩ = some (.int .i64 s2) := (blk_cell K8.out 0).trans rfl
  have hf8 := blk_frozen K8.out 0
  have hn1 := HNE.out
  have hn2 := HNE.out.symm
  go_wp2
  clear hz7 hf7 hz8 hf8 hn1 hn2
  first | go_end0 | ((try simp only [Exit.inBlock,Exit.then]);refine bodyPost_ret (results_none rfl _ _ _) rfl ?_)
  have hok : ∀ k_,some k_ = (.slice A3 t.length c3 : Value).ownBlock → k_ ≠ g ∧ k_ ≠ b8 ∧ k_ ≠ b7 := fun k_ hk => by
   have a1 := HC.out k_ hk.symm;have a2 := HG.out;have a3 := blk_lt HI8.out;have a4 := blk_lt HI7.out;have a5 := HW1.out
   refine ⟨?_,?_,?_⟩ <;> omega
  refine ⟨rfl,?_,below_set (below_set (below_then HB.out HB.out.size HB2.out) H7.out) H8.out,?_⟩
  ·rw [← H2.out]
   refine ⟨blk_put (blk_far K8.out HNE.out.symm _) 0 _ rfl,_,blk_far (blk_put K7.out 0 _ rfl) HNE.out _,?_⟩
   exact Kd.R_far (p := ⟨b8,0,none⟩) (Kd.R_far (p := ⟨b7,0,none⟩) (Kd.R_mono HR.out hok) (fun _ h_ => h_.2.2) _) (fun _ h_ => h_.2.1) _
  ·exact Kept.setCell (p := ⟨b8,0,none⟩) (Kept.setCell (p := ⟨b7,0,none⟩) (Kept.of_below HB2.out (fun k_ => k_ = b8 ∨ k_ = b7)) (.inl (.inr rfl)) _) (.inl (.inl rfl)) _
 ·rw [if_neg hq] at h2
  have H2 := Aside0.mk (Option.some.inj h2)
  have hqb : decide (s2 < r1) = false := decide_eq_false hq
  clear h2 hq
  go_enter Try.func68,Try.ntmps68
  go_wp2_with fail
  refine (impl_rest.calls k (fun k_ => N ≤ k_) (some ⟨g,0,none⟩) cc l r1 r2 r3 _ (Kd.R_V HO.out) H1.out).mono ?_
  rintro e w1 ⟨v1,v2,rfl,_,_,hb⟩
  have HB1 := Aside0.mk hb
  clear hb
  have hz : w1.cell? ⟨b8,0,none⟩ = some (.int .i64 s2) := (blk_cell (blk_below HI8.out HB1.out) 0).trans rfl
  go_wp2
  clear hz
  first | go_end0 | ((try simp only [Exit.inBlock,Exit.then]);refine bodyPost_ret (results_none rfl _ _ _) rfl ?_)
  refine ⟨rfl,?_,below_then HB.out HB.out.size HB1.out,Kept.of_below HB1.out _⟩
  rw [← H2.out]
  exact ⟨blk_below HI8.out HB1.out,v7,blk_below HI7.out HB1.out,Kd.R_below HIR.out HB1.out⟩
theorem impl_SlowestCircle.within_b {a lo hi : Int} (h : impl_within.f a lo hi = some true) : lo ≤ a ∧ a ≤ hi := by
 unfold impl_within.f at h
 by_cases c : a ≥ lo
 ·rw [if_pos c] at h
  exact ⟨c,by simpa using h⟩
 ·rw [if_neg c] at h
  simp at h
set_option maxHeartbeats 4000000 in
set_option maxRecDepth 100000 in
theorem impl_SlowestCircle.calls (k : Nat) (a0 a1 : Int) (r1 : List Int) (r2 : Int) (r3 : Bool) (w : World) (h : impl_SlowestCircle.f k a0 a1 = some (r1,r2,r3)) :
  Calls Try.prog 12 #[.int .i64 a0, .int .i64 a1] w fun e w' => ∃ v0_ : Value,e = .returned (.tuple #[v0_, .int .i64 r2, .bool r3]) ∧ Kd.R (Kd.int .i64) 3 w' w.heap.size (fun _ => True) v0_ r1 ∧ Below w.heap.size w w' := by
 unfold impl_SlowestCircle.f at h
 obtain ⟨b0,B0,h⟩ := Option.bind_eq_some_iff.mp h
 replace B0 := Aside0.mk B0
 cases b0 with
 | false =>
  rw [if_neg (by decide)] at h
  simp only [Option.some.injEq,Prod.mk.injEq] at h
  obtain ⟨rfl,rfl,rfl⟩ := h
  go_enter Try.func12,Try.ntmps12
  go_wp2_with fail
  refine (impl_within.calls a0 2 4 false _ B0.out).mono ?_
  rintro e w2 ⟨rfl,hd⟩
  have HB := Aside0.mk hd.below
  clear hd
  go_wp2
  go_ret3
  exact ⟨_,rfl,Kd.R_nil _ _ _ _ _,HB.out⟩
 | true =>
  rw [if_pos rfl] at h
  obtain ⟨b1,B1,h⟩ := Option.bind_eq_some_iff.mp h
  replace B1 := Aside0.mk B1
  cases b1 with
  | false =>
   rw [if_neg (by decide)] at h
   simp only [Option.some.injEq,Prod.mk.injEq] at h
   obtain ⟨rfl,rfl,rfl⟩ := h
   go_enter Try.func12,Try.ntmps12
   go_wp2_with fail
   refine (impl_within.calls a0 2 4 true _ B0.out).mono ?_
   rintro e w2 ⟨rfl,hd⟩
   have n0_ := Aside0.mk hd.below
   clear hd
   go_wp2_with fail
   refine (impl_within.calls a1 0 8 false _ B1.out).mono ?_
   rintro e w3 ⟨rfl,hd⟩
   have n1_ := Aside0.mk (below_step n0_.out hd.below)
   clear hd n0_
   go_wp2
   go_ret3
   exact ⟨_,rfl,Kd.R_nil _ _ _ _ _,n1_.out⟩
  | true =>
   rw [if_pos rfl] at h
   obtain ⟨⟨c1,c2⟩,H3,h⟩ := Option.bind_eq_some_iff.mp h
   simp only [Option.some.injEq,Prod.mk.injEq] at h
   obtain ⟨rfl,rfl,rfl⟩ := h
   replace H3 := Aside0.mk H3
   go_enter Try.func12,Try.ntmps12
   go_wp2_with fail
   refine (impl_within.calls a0 2 4 true _ B0.out).mono ?_
   rintro e w2 ⟨rfl,hd⟩
   have n0_ := Aside0.mk hd.below
   clear hd
   go_wp2_with fail
   refine (impl_within.calls a1 0 8 true _ B1.out).mono ?_
   rintro e w3 ⟨rfl,hd⟩
   have HB := Aside0.mk (below_step n0_.out hd.below)
   have HW0 := Aside0.mk (show w.heap.size ≤ w3.heap.size from HB.out.size)
   clear hd n0_
   have hmf : ∀ (fn : Fn) (first cap : Array Value) (w : World),(Instr.makeFunc fn first cap).run Try.prog w = .ok (.func fn first cap) w := fun _ _ _ _ => rfl
   go_wp2_with (first | ((with_reducible refine gate_dst (N := 7) rfl ?_);refine box_event ?hg (N := 7) ?hd (cs := #[.slice none 0 0]) (t := 25) ?hr ?_;(case hd => rfl);(case hg => rfl);(case hr => first | (go_simp;done) | (go_simp;rfl));intro g7 hg w4 hbox hb;have K7 := Aside0.mk hbox;have G7 := Aside0.mk (show w3.heap.size ≤ g7 by rw [hg];exact Nat.le_refl _);have n0_ := Aside0.mk (below_step HB.out hb);clear hb hbox hg HB;have HB := n0_;clear n0_) | ((with_reducible refine gate_dst (N := 8) rfl ?_);refine box_event ?hg (N := 8) ?hd (cs := #[.int .i64 0]) (t := 3) ?hr ?_;(case hd => rfl);(case hg => rfl);(case hr => first | (go_simp;done) | (go_simp;rfl));intro g8 hg w5 hbox hb;have HX := Aside0.mk hb;have HY := Aside0.mk hbox;have HZ := Aside0.mk hg;clear hb hbox hg;have hq0 : w5.cell? ⟨g8,0,none⟩ = some (.int .i64 0) := (blk_cell HY.out 0).trans rfl;have hq1 := blk_frozen HY.out 0))
   clear hq0 hq1
   have hb : Below w4.heap.size w4 (w5.setCell ⟨g8,0,none⟩ (.int .i64 (-1))) := below_set HX.out (by rw [HZ.out];exact Nat.le_refl _)
   have K3 := Aside0.mk (show (w5.setCell ⟨g8,0,none⟩ (.int .i64 (-1))).heap[g8]? = some (.cells #[.int .i64 (-1)] 3 (0,0)) from blk_put HY.out 0 _ rfl)
   have G8 := Aside0.mk (show w4.heap.size ≤ g8 by rw [HZ.out];exact Nat.le_refl _)
   clear HX HY HZ
   generalize (w5.setCell ⟨g8,0,none⟩ (.int .i64 (-1))) = w6 at hb K3 ⊢
   have HB6 := Aside0.mk (below_step HB.out hb)
   have K5 := Aside0.mk (blk_below K7.out hb)
   have HB4 := Aside0.mk HB.out.size
   clear hb K7 HB
   have hr := impl_SlowestCircle.within_b B0.out
   have HW3 := Aside0.mk (show w.heap.size ≤ g8 from Nat.le_trans HB4.out G8.out)
   have HW7 := Aside0.mk (show w.heap.size ≤ g7 from Nat.le_trans HW0.out G7.out)
   refine (impl_listsOf.genSlowestCircle impl_SlowestCircle.step (.pointer (some ⟨g8,0,none⟩)) (.pointer (some ⟨g7,0,none⟩)) (fun g s W => w6.heap.size ≤ g ∧ impl_SlowestCircle.Held g8 g7 w.heap.size g s W) (fun k_ => k_ = g8 ∨ k_ = g7) w w6 k a0 a1 (by omega) (by omega) ([], -1) (c1,c2) HB6.out (fun g hg => ⟨hg,K3.out,_,K5.out,Kd.R_nil _ _ _ _ _⟩) ?hI ?hS ?hC H3.out).mono ?_
   case hI => exact fun g s W W' ⟨h1,h2,v,h3,h4⟩ hle hk => ⟨h1,blk_kept h2 hk (fun e_ => by have := blk_lt K3.out;omega),v,blk_kept h3 hk (fun e_ => by have := blk_lt K5.out;omega),Kd.R_kept h4 hk (fun _ h_ => h_.1)⟩
   case hS => exact fun k_ he => he.elim (fun e_ => e_ ▸ blk_lt K3.out) (fun e_ => e_ ▸ blk_lt K5.out)
   case hC => exact fun k' W g cc l s s' _ hB _ hI hR hs => (impl_SlowestCircle.lit g8 g7 g k' w6.heap.size W w cc l s s' hB HW3.out HW7.out hI.1 hI.2 hR hs).mono fun e w' ⟨h1,h2,h3,h4⟩ => ⟨h1,⟨hI.1,h2⟩,h3,h4⟩
   clear hr
   rintro e w7 ⟨rfl,⟨g,_,hi8,v,hi7,hir⟩,hb⟩
   have HI8 := Aside0.mk hi8
   have HI7 := Aside0.mk hi7
   have HR := Aside0.mk (Kd.R_mono hir (ok' := fun _ => True) (fun _ _ => trivial))
   have HB := Aside0.mk hb
   clear hi8 hi7 hir hb
   obtain ⟨A9,c9,e9⟩ := Kd.R_slice HR.out
   subst e9
   have hz : w7.cell? ⟨g8,0,none⟩ = some (.int .i64 c2) := (blk_cell HI8.out 0).trans rfl
   have hz7 : w7.cell? ⟨g7,0,none⟩ = some (.slice A9 c1.length c9) := (blk_cell HI7.out 0).trans rfl
   go_wp2
   go_quiet (fail)
   go_wp2
   go_ret3
   exact ⟨_,rfl,Kd.R_drewN HR.out _,pw_below_drewN HB.out _⟩

end Go.Proofs.Ytpcalkaamfhejaa.P
