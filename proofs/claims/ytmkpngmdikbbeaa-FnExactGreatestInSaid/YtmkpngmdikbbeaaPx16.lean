/- Written by a program of this workplace (own_print.py, over the kit's print) for the functions that the statements reach, with contracts of its own. Lean checks it. -/
import Derived.Test.YtmkpngmdikbbeaaPx0
import Derived.Test.YtmkpngmdikbbeaaPx15
namespace Go.Proofs.Ytmkpngmdikbbeaa.P
open Go.RowKit Go.Proofs.YtmkpngmdikbbeaaW.PrintWords Go.Proofs.YtmkpngmdikbbeaaW.PrintLast Go.Proofs.YtmkpngmdikbbeaaW.PrintMore
attribute [local go_sem] max2_int min2_int max_two min_two max_three min_three max_four min_four   -- for this text's walks alone
set_option linter.unusedVariables false
set_option linter.unusedSimpArgs false

/-! ### impl_bestIn: function 44 -/
def impl_bestIn.f (k : Nat) (l : List Int) (u cup mixes sign : Int) : Option (Int × Int × Bool) := (impl_canAsk.f k l u cup mixes).bind fun b => if b = true then (impl_bestFor.f k l u cup mixes sign).bind fun p => if 0 ≤ cup ∧ cup < (p.1.1.length : Int) then (impl_lowest.f k (rd p.1.1 cup) p.1.2).bind fun q => some (q.1,q.2,true) else none else some (0,0,false)
theorem impl_bestIn.mono : ∀ l u cup mixes sign k,LeO (impl_bestIn.f k l u cup mixes sign) (impl_bestIn.f (k + 1) l u cup mixes sign) := fun l u cup mixes sign k => by
 unfold impl_bestIn.f
 exact LeO.bind (impl_canAsk.mono _ _ _ _ _) (fun _ => LeO.ite (LeO.bind (impl_bestFor.mono _ _ _ _ _ _) (fun _ => LeO.ite (LeO.bind (impl_lowest.mono _ _ _) (fun _ => LeO.refl _)) (LeO.refl _))) (LeO.refl _))
set_option maxHeartbeats 4000000 in
set_option maxRecDepth 100000 in
theorem impl_bestIn.calls (k : Nat) (A : Option Addr) (c : Nat) (l : List Int) (u cup mixes sign : Int) (r1 r2 : Int) (r3 : Bool) (w : World) (hR : Kd.R (Kd.int .i64) 3 w 0 (fun _ => True) (.slice A l.length c) l) (h : impl_bestIn.f k l u cup mixes sign = some (r1,r2,r3)) :
  Calls Try.prog 44 #[.agg #[.slice A l.length c, .int .i64 u], .int .i64 cup, .int .i64 mixes, .int .i64 sign] w fun e w' => e = .returned (.tuple #[.int .i64 r1, .int .i64 r2, .bool r3]) ∧ Below w.heap.size w w' := by
 obtain ⟨b0,B0,h⟩ := Option.bind_eq_some_iff.mp h
 replace B0 := Aside0.mk B0
 have HB := Aside0.mk (Below.refl w.heap.size w)
 have HP := Aside0.mk hR
 have hu29 := Try.underlying29
 have hu70 := Try.underlying70
 clear hR
 cases b0 with
 | false =>
  rw [if_neg (by decide)] at h
  simp only [Option.some.injEq,Prod.mk.injEq] at h
  obtain ⟨rfl,rfl,rfl⟩ := h
  go_enter Try.func44,Try.ntmps44
  go_wp2_with (first | ((with_reducible refine gate_dst (N := 4) rfl ?_);(try (refine gate_guard (by rfl) ?_;dsimp only));refine box_event ?hg (N := 4) ?hd (cs := #[.slice A l.length c, .int .i64 u]) (t := 29) ?hr ?_;(case hd => rfl);(case hg => rfl);(case hr => first | (go_simp;done) | (go_simp;rfl));intro gb hg w5 hbox hb;have n0_ := Aside0.mk (below_step HB.out hb);have BK := Aside0.mk hbox;have n1_ := Aside0.mk (Kd.R_below HP.out hb);clear HB HP hb hbox hg;have HB := n0_;have HP := n1_;clear n0_ n1_;have hz0 : w5.cell? ⟨gb,0,none⟩ = some (.slice A l.length c) := (blk_cell BK.out 0).trans rfl;have hz1 : w5.cell? ⟨gb,1,none⟩ = some (.int .i64 u) := (blk_cell BK.out 1).trans rfl))
  refine (impl_canAsk.calls k A c l u cup mixes false _ (Kd.R_reads' HP.out).2.2 (Kd.R_reads' HP.out).2.1 B0.out).mono ?_
  rintro e w6 ⟨rfl,hb⟩
  have n0_ := Aside0.mk (below_step HB.out hb)
  clear HB BK HP hb hz0 hz1
  have HB := n0_
  clear n0_
  go_wp2
  go_ret3
  exact ⟨rfl,HB.out⟩
 | true =>
  rw [if_pos rfl] at h
  obtain ⟨p,P0,h⟩ := Option.bind_eq_some_iff.mp h
  by_cases hcp : 0 ≤ cup ∧ cup < (p.1.1.length : Int)
  rotate_left
  ·rw [if_neg hcp] at h;cases h
  rw [if_pos hcp] at h
  obtain ⟨⟨q1,q2⟩,Q0,h⟩ := Option.bind_eq_some_iff.mp h
  simp only [Option.some.injEq,Prod.mk.injEq] at h
  obtain ⟨rfl,rfl,rfl⟩ := h
  obtain ⟨⟨pl,pu⟩,pm⟩ := p
  replace P0 := Aside0.mk P0
  replace Q0 := Aside0.mk Q0
  dsimp only at hcp
  have g1 : (0 ≤ cup) = True := eq_true hcp.1
  have g2 : (cup < (pl.length : Int)) = True := eq_true hcp.2
  have HCP := Aside0.mk hcp
  clear hcp
  go_enter Try.func44,Try.ntmps44
  go_wp2_with (first | ((with_reducible refine gate_dst (N := 4) rfl ?_);(try (refine gate_guard (by rfl) ?_;dsimp only));refine box_event ?hg (N := 4) ?hd (cs := #[.slice A l.length c, .int .i64 u]) (t := 29) ?hr ?_;(case hd => rfl);(case hg => rfl);(case hr => first | (go_simp;done) | (go_simp;rfl));intro gb hg w5 hbox hb;have n0_ := Aside0.mk (below_step HB.out hb);have BK := Aside0.mk hbox;have n1_ := Aside0.mk (Kd.R_below HP.out hb);clear HB HP hb hbox hg;have HB := n0_;have HP := n1_;clear n0_ n1_;have hz0 : w5.cell? ⟨gb,0,none⟩ = some (.slice A l.length c) := (blk_cell BK.out 0).trans rfl;have hz1 : w5.cell? ⟨gb,1,none⟩ = some (.int .i64 u) := (blk_cell BK.out 1).trans rfl))
  refine (impl_canAsk.calls k A c l u cup mixes true _ (Kd.R_reads' HP.out).2.2 (Kd.R_reads' HP.out).2.1 B0.out).mono ?_
  rintro e w6 ⟨rfl,hb⟩
  have n0_ := Aside0.mk (below_step HB.out hb)
  have n1_ := Aside0.mk (blk_below BK.out hb)
  have n2_ := Aside0.mk (Kd.R_below HP.out hb)
  clear HB BK HP hb hz0 hz1
  have HB := n0_
  have BK := n1_
  have HP := n2_
  clear n0_ n1_ n2_
  have hz0 : w6.cell? ⟨gb,0,none⟩ = some (.slice A l.length c) := (blk_cell BK.out 0).trans rfl
  have hz1 : w6.cell? ⟨gb,1,none⟩ = some (.int .i64 u) := (blk_cell BK.out 1).trans rfl
  go_wp2_with fail
  refine (impl_bestFor.calls k A c l u cup mixes sign ((pl,pu),pm) _ HP.out P0.out).mono ?_
  rintro e w7 ⟨A2,c2,A3,n3,c3,rfl,ho,hb⟩
  have HV := Aside0.mk ho
  have n0_ := Aside0.mk (below_step HB.out hb)
  clear HB BK HP ho hb hz0 hz1
  have HB := n0_
  clear n0_
  go_wp2_with (first | ((with_reducible refine gate_dst (N := 11) rfl ?_);(try (refine gate_guard (by rfl) ?_;dsimp only));refine box_event ?hg (N := 11) ?hd (cs := #[.slice none 0 0, .int .i64 0, .slice none 0 0]) (t := 70) ?hr ?_;(case hd => rfl);(case hg => rfl);(case hr => first | (go_simp;done) | (go_simp;rfl));intro gp hg w8 hbox hb;have HXX := Aside0.mk hb;have HY := Aside0.mk hbox;have HZ := Aside0.mk hg;clear hb hbox hg;have hq0 : w8.cell? ⟨gp,0,none⟩ = some (.slice none 0 0) := (blk_cell HY.out 0).trans rfl;have hq1 : w8.cell? ⟨gp,1,none⟩ = some (.int .i64 0) := (blk_cell HY.out 1).trans rfl;have hq2 : w8.cell? ⟨gp,2,none⟩ = some (.slice none 0 0) := (blk_cell HY.out 2).trans rfl;have hf0 := blk_frozen HY.out 0;have hf1 := blk_frozen HY.out 1;have hf2 := blk_frozen HY.out 2))
  try clear hq0
  try clear hq1
  try clear hq2
  try clear hf0
  try clear hf1
  try clear hf2
  have hb : Below w7.heap.size w7 (((w8.setCell ⟨gp,0,none⟩ (.slice A2 pl.length c2)).setCell ⟨gp,1,none⟩ (.int .i64 pu)).setCell ⟨gp,2,none⟩ (.slice A3 n3 c3)) := below_set (below_set (below_set HXX.out (by rw [HZ.out];exact Nat.le_refl _)) (by rw [HZ.out];exact Nat.le_refl _)) (by rw [HZ.out];exact Nat.le_refl _)
  have KP := Aside0.mk (show (((w8.setCell ⟨gp,0,none⟩ (.slice A2 pl.length c2)).setCell ⟨gp,1,none⟩ (.int .i64 pu)).setCell ⟨gp,2,none⟩ (.slice A3 n3 c3)).heap[gp]? = some (.cells #[.slice A2 pl.length c2, .int .i64 pu, .slice A3 n3 c3] 70 (0,0)) from blk_put (blk_put (blk_put HY.out 0 _ rfl) 1 _ rfl) 2 _ rfl)
  generalize (((w8.setCell ⟨gp,0,none⟩ (.slice A2 pl.length c2)).setCell ⟨gp,1,none⟩ (.int .i64 pu)).setCell ⟨gp,2,none⟩ (.slice A3 n3 c3)) = w9 at hb KP ⊢
  have n0_ := Aside0.mk (below_step HB.out hb)
  have n1_ := Aside0.mk (Kd.R_below HV.out hb)
  clear HB HV HXX HY HZ hb
  have HB := n0_
  have HV := n1_
  clear n0_ n1_
  obtain ⟨adp,eap,hxp⟩ := Kd.at_int (Kd.R_reads' HV.out).2.2 cup HCP.out.1 HCP.out.2
  subst eap
  have hy0 : w9.cell? ⟨gp,0,none⟩ = some (.slice (some adp) pl.length c2) := (blk_cell KP.out 0).trans rfl
  have hy1 : w9.cell? ⟨gp,1,none⟩ = some (.int .i64 pu) := (blk_cell KP.out 1).trans rfl
  go_quiet (first | (go_at_call 65;(with_reducible refine (impl_lowest.calls k _ _ q1 q2 _ Q0.out).mono ?_);rintro e w' ⟨rfl,⟨nd,rfl⟩⟩;(try first | exact ⟨rfl,_,World.drewN_drewN _ _ _⟩ | exact ⟨rfl,_,Eq.trans (World.drewN_drewN _ _ _) (congrArg (World.drewN _) (Nat.add_assoc _ _ _))⟩)))
  generalize hq_ : World.drewN w9 _ = w10
  have HB2 := Aside0.mk (show Below w.heap.size w w10 from by rw [← hq_];exact pw_below_drewN HB.out _)
  clear hq_ hy0 hy1 hxp
  go_wp2
  go_ret3
  exact ⟨rfl,HB2.out⟩

end Go.Proofs.Ytmkpngmdikbbeaa.P
