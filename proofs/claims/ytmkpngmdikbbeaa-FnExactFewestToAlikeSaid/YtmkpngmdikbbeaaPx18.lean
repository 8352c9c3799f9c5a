/- Written by a program of this workplace (own_print.py, over the kit's print) for the functions that the statements reach, with contracts of its own. Lean checks it. -/
import Derived.Test.YtmkpngmdikbbeaaPx0
import Derived.Test.YtmkpngmdikbbeaaPx2
import Derived.Test.YtmkpngmdikbbeaaPx4
import Derived.Test.YtmkpngmdikbbeaaPx9
import Derived.Test.YtmkpngmdikbbeaaPx10
import Derived.Test.YtmkpngmdikbbeaaPx11
import Derived.Test.YtmkpngmdikbbeaaPx17
namespace Go.Proofs.Ytmkpngmdikbbeaa.P
open Go.RowKit Go.Proofs.YtmkpngmdikbbeaaW.PrintWords Go.Proofs.YtmkpngmdikbbeaaW.PrintLast Go.Proofs.YtmkpngmdikbbeaaW.PrintMore
attribute [local go_sem] max2_int min2_int max_two min_two max_three min_three max_four min_four   -- for this text's walks alone
set_option linter.unusedVariables false
set_option linter.unusedSimpArgs false

/-! ### impl_FewestToAlike: function 27 -/
def seekAlike (k : Nat) : List Pl → Option (Option (List (List Int)))
 | [] => some none
 | p :: ps => (impl_areAlike.f k p.1.1 p.1.2).bind fun b => if b = true then (impl_ownMixes.f k p.2).bind fun m => some (some m) else seekAlike k ps
def seekLevels (k : Nat) : List (List Pl) → Option (List (List Int) × Bool)
 | [] => some ([],false)
 | lev :: rest => (seekAlike k lev).bind fun o => match o with
  | some m => some (m,true)
  | none => seekLevels k rest
def impl_FirstToAlike.f (k : Nat) (l : List Int) (u : Int) (most : Int) : Option (List (List Int) × Bool) := (impl_areFew.f k l u).bind fun b => if b = true then ((impl_within.f most 0 5).bind fun b2 => if b2 = true then (impl_rounds.f k l u most).bind fun ls => (if ls.length ≤ 100 ∧ ls.all (fun v => decide (v.length ≤ 1000000)) = true then seekLevels k ls else none) else some ([],false)) else some ([],false)
set_option maxHeartbeats 4000000 in
set_option maxRecDepth 100000 in
theorem impl_FirstToAlike.calls (k : Nat) (A : Option Addr) (c : Nat) (l : List Int) (u : Int) (most : Int) (r : List (List Int)) (b : Bool) (w : World) (hR : Kd.R (Kd.int .i64) 3 w 0 (fun _ => True) (.slice A l.length c) l) (h : impl_FirstToAlike.f k l u most = some (r,b)) :
  Calls Try.prog 47 #[.agg #[.slice A l.length c, .int .i64 u], .int .i64 most] w fun e w' => ∃ v0_ : Value,e = .returned (.tuple #[v0_, .bool b]) ∧ Kd.S (Kd.slice 3 (Kd.int .i64)) 22 w' w.heap.size (fun _ => True) v0_ r ∧ Below w.heap.size w w' := by
 obtain ⟨b0,B0,h⟩ := Option.bind_eq_some_iff.mp h
 replace B0 := Aside0.mk B0
 have HB := Aside0.mk (Below.refl w.heap.size w)
 have HP := Aside0.mk hR
 have hu29 := Try.underlying29
 have hu70 := Try.underlying70
 clear hR
 cases b0 with
 | false =>
  rw [if_neg (by decide)] at h
  simp only [Option.some.injEq,Prod.mk.injEq] at h
  obtain ⟨rfl,rfl⟩ := h
  go_enter Try.func47,Try.ntmps47
  go_wp2_with (first | ((with_reducible refine gate_dst (N := 2) rfl ?_);(try (refine gate_guard (by rfl) ?_;dsimp only));refine box_event ?hg (N := 2) ?hd (cs := #[.slice A l.length c, .int .i64 u]) (t := 29) ?hr ?_;(case hd => rfl);(case hg => rfl);(case hr => first | (go_simp;done) | (go_simp;rfl));intro gb hg w5 hbox hb;have n0_ := Aside0.mk (below_step HB.out hb);have BK := Aside0.mk hbox;have n1_ := Aside0.mk (Kd.R_below HP.out hb);clear HB HP hb hbox hg;have HB := n0_;have HP := n1_;clear n0_ n1_;have hz0 : w5.cell? ⟨gb,0,none⟩ = some (.slice A l.length c) := (blk_cell BK.out 0).trans rfl;have hz1 : w5.cell? ⟨gb,1,none⟩ = some (.int .i64 u) := (blk_cell BK.out 1).trans rfl))
  refine (impl_areFew.calls k A c l u false _ (Kd.R_reads' HP.out).2.2 (Kd.R_reads' HP.out).2.1 B0.out).mono ?_
  rintro e w6 ⟨rfl,hb⟩
  have n0_ := Aside0.mk (below_step HB.out hb)
  have n1_ := Aside0.mk (blk_below BK.out hb)
  have n2_ := Aside0.mk (Kd.R_below HP.out hb)
  clear HB BK HP hb hz0 hz1
  have HB := n0_
  have BK := n1_
  have HP := n2_
  clear n0_ n1_ n2_
  go_wp2
  go_ret2
  exact ⟨_,rfl,Kd.S_nil _ _ _ _ _,HB.out⟩
 | true =>
  rw [if_pos rfl] at h
  obtain ⟨b1,B1,h⟩ := Option.bind_eq_some_iff.mp h
  replace B1 := Aside0.mk B1
  cases b1 with
  | false =>
   rw [if_neg (by decide)] at h
   simp only [Option.some.injEq,Prod.mk.injEq] at h
   obtain ⟨rfl,rfl⟩ := h
   go_enter Try.func47,Try.ntmps47
   go_wp2_with (first | ((with_reducible refine gate_dst (N := 2) rfl ?_);(try (refine gate_guard (by rfl) ?_;dsimp only));refine box_event ?hg (N := 2) ?hd (cs := #[.slice A l.length c, .int .i64 u]) (t := 29) ?hr ?_;(case hd => rfl);(case hg => rfl);(case hr => first | (go_simp;done) | (go_simp;rfl));intro gb hg w5 hbox hb;have n0_ := Aside0.mk (below_step HB.out hb);have BK := Aside0.mk hbox;have n1_ := Aside0.mk (Kd.R_below HP.out hb);clear HB HP hb hbox hg;have HB := n0_;have HP := n1_;clear n0_ n1_;have hz0 : w5.cell? ⟨gb,0,none⟩ = some (.slice A l.length c) := (blk_cell BK.out 0).trans rfl;have hz1 : w5.cell? ⟨gb,1,none⟩ = some (.int .i64 u) := (blk_cell BK.out 1).trans rfl))
   refine (impl_areFew.calls k A c l u true _ (Kd.R_reads' HP.out).2.2 (Kd.R_reads' HP.out).2.1 B0.out).mono ?_
   rintro e w6 ⟨rfl,hb⟩
   have n0_ := Aside0.mk (below_step HB.out hb)
   have n1_ := Aside0.mk (blk_below BK.out hb)
   have n2_ := Aside0.mk (Kd.R_below HP.out hb)
   clear HB BK HP hb hz0 hz1
   have HB := n0_
   have BK := n1_
   have HP := n2_
   clear n0_ n1_ n2_
   go_wp2_with fail
   refine (impl_within.calls most 0 5 false _ B1.out).mono ?_
   rintro e w7 ⟨rfl,hd⟩
   have n0_ := Aside0.mk (below_step HB.out hd.below)
   have n1_ := Aside0.mk (blk_below BK.out hd.below)
   have n2_ := Aside0.mk (Kd.R_below HP.out hd.below)
   clear HB BK HP hd
   have HB := n0_
   have BK := n1_
   have HP := n2_
   clear n0_ n1_ n2_
   go_wp2
   go_ret2
   exact ⟨_,rfl,Kd.S_nil _ _ _ _ _,HB.out⟩
  | true =>
   rw [if_pos rfl] at h
   obtain ⟨ls,RD,h⟩ := Option.bind_eq_some_iff.mp h
   replace RD := Aside0.mk RD
   by_cases hsm : ls.length ≤ 100 ∧ ls.all (fun v => decide (v.length ≤ 1000000)) = true
   rotate_left
   ·rw [if_neg hsm] at h;cases h
   rw [if_pos hsm] at h
   have HSM := Aside0.mk hsm
   have H := Aside0.mk h
   clear h hsm
   go_enter Try.func47,Try.ntmps47
   go_wp2_with (first | ((with_reducible refine gate_dst (N := 2) rfl ?_);(try (refine gate_guard (by rfl) ?_;dsimp only));refine box_event ?hg (N := 2) ?hd (cs := #[.slice A l.length c, .int .i64 u]) (t := 29) ?hr ?_;(case hd => rfl);(case hg => rfl);(case hr => first | (go_simp;done) | (go_simp;rfl));intro gb hg w5 hbox hb;have n0_ := Aside0.mk (below_step HB.out hb);have BK := Aside0.mk hbox;have n1_ := Aside0.mk (Kd.R_below HP.out hb);clear HB HP hb hbox hg;have HB := n0_;have HP := n1_;clear n0_ n1_;have hz0 : w5.cell? ⟨gb,0,none⟩ = some (.slice A l.length c) := (blk_cell BK.out 0).trans rfl;have hz1 : w5.cell? ⟨gb,1,none⟩ = some (.int .i64 u) := (blk_cell BK.out 1).trans rfl))
   refine (impl_areFew.calls k A c l u true _ (Kd.R_reads' HP.out).2.2 (Kd.R_reads' HP.out).2.1 B0.out).mono ?_
   rintro e w6 ⟨rfl,hb⟩
   have n0_ := Aside0.mk (below_step HB.out hb)
   have n1_ := Aside0.mk (blk_below BK.out hb)
   have n2_ := Aside0.mk (Kd.R_below HP.out hb)
   clear HB BK HP hb hz0 hz1
   have HB := n0_
   have BK := n1_
   have HP := n2_
   clear n0_ n1_ n2_
   go_wp2_with fail
   refine (impl_within.calls most 0 5 true _ B1.out).mono ?_
   rintro e w7 ⟨rfl,hd⟩
   have n0_ := Aside0.mk (below_step HB.out hd.below)
   have n1_ := Aside0.mk (blk_below BK.out hd.below)
   have n2_ := Aside0.mk (Kd.R_below HP.out hd.below)
   clear HB BK HP hd
   have HB := n0_
   have BK := n1_
   have HP := n2_
   clear n0_ n1_ n2_
   have hz0 : w7.cell? ⟨gb,0,none⟩ = some (.slice A l.length c) := (blk_cell BK.out 0).trans rfl
   have hz1 : w7.cell? ⟨gb,1,none⟩ = some (.int .i64 u) := (blk_cell BK.out 1).trans rfl
   go_wp2_with fail
   refine (impl_rounds.calls k A c l u most ls _ HP.out RD.out).mono ?_
   rintro e w8 ⟨v20,rfl,ho,hb⟩
   have HV := Aside0.mk ho
   have n0_ := Aside0.mk (below_step HB.out hb)
   clear HB BK HP ho hb hz0 hz1
   have HB := n0_
   clear n0_
   obtain ⟨A20,c20,e20⟩ := Kd.R_slice HV.out
   subst e20
   obtain ⟨L,hLL⟩ : ∃ L,ls.length = L := ⟨_,rfl⟩
   have HLN := Aside0.mk hLL
   rw [hLL] at HV ⊢
   clear hLL
   go_wp2
   go_loopg [22] L (fun kq v22 w' => ∃ (i : Nat),v22 = .int .i64 (i : Int) ∧ Aside0 (i ≤ L) ∧ Aside0 (L - i ≤ kq) ∧ Aside0 (seekLevels k (ls.drop i) = some (r,b)) ∧ Aside0 (Kd.R dV 77 w' 0 (fun _ => True) (.slice A20 L c20) ls) ∧ Aside0 (Below w.heap.size w w'))
   case atStart => exact ⟨0,rfl,⟨Nat.zero_le _⟩,⟨by omega⟩,H,HV,HB⟩
   case round =>
    clear H HV HB
    obtain ⟨i,rfl,Hi,HK1,H,HV,HB⟩ := hrel
    by_cases hi : i < L
    ·have hib : decide ((i : Int) < (L : Int)) = true := decide_eq_true (by omega)
     have hib1 : ((i : Int) < (L : Int)) = True := eq_true (by omega)
     have hiL : i < ls.length := by have := HLN.out;omega
     have HIL := Aside0.mk hi
     have hU := H.out
     rw [List.drop_eq_getElem_cons hiL] at hU
     obtain ⟨o,HO,hU2⟩ := Option.bind_eq_some_iff.mp hU
     obtain ⟨g5,rfl⟩ : ∃ g5,A20 = some ⟨g5,0,none⟩ := by
      obtain ⟨g,cap,he,_⟩ := Kd.R_form HV.out (by omega)
      injection he with h1 _ _
      exact ⟨_,h1⟩
     obtain ⟨cc,hcl,hM,hcc,_⟩ := Kd.R_elem HV.out ([] : List Pl) (i : Int) (by omega) (by omega)
     have hl : ls.getD ((i : Int)).toNat [] = ls[i] := by rw [Int.toNat_natCast,List.getD_eq_getElem?_getD,List.getElem?_eq_getElem hiL];rfl
     rw [hl] at hM
     obtain ⟨lev,hlev⟩ : ∃ x,ls[i] = x := ⟨_,rfl⟩
     rw [hlev] at hM HO
     replace H := Aside0.mk hU2
     replace HO := Aside0.mk HO
     obtain ⟨vx,rfl,hRx⟩ := hM
     have hx := hcc 0 vx rfl
     simp only [show dV.sz = 1 from rfl,Nat.mul_one,Nat.add_zero,Int.toNat_natCast] at hx
     obtain ⟨Ax,cx,ex⟩ := Kd.R_slice hRx
     subst ex
     have HX := Aside0.mk (Kd.R_mono hRx (ok' := fun _ => True) (fun _ _ => trivial))
     obtain ⟨LX,hLX⟩ : ∃ LX,lev.length = LX := ⟨_,rfl⟩
     have HLX := Aside0.mk hLX
     have HLM := Aside0.mk (show LX ≤ 1000000 by rw [← hLX, ← hlev];exact of_decide_eq_true (List.all_eq_true.1 HSM.out.2 _ (List.getElem_mem hiL)))
     rw [hLX] at HX hx
     clear hU2 hU hRx hcc hcl hl hlev hi hLX
     clear hiL
     go_wp2
     clear hx
     go_loopg [28] LX (fun kq v28 w' => ∃ (j : Nat),v28 = .int .i64 (j : Int) ∧ Aside0 (j ≤ LX) ∧ Aside0 (LX - j ≤ kq) ∧ Aside0 (seekAlike k (lev.drop j) = some o) ∧ Aside0 (Kd.R dV 77 w' 0 (fun _ => True) (.slice (some ⟨g5,0,none⟩) L c20) ls) ∧ Aside0 (Kd.R dP 70 w' 0 (fun _ => True) (.slice Ax LX cx) lev) ∧ Aside0 (Below w.heap.size w w'))
     case atStart => exact ⟨0,rfl,⟨Nat.zero_le _⟩,⟨by omega⟩,HO,HV,HX,HB⟩
     case round =>
      clear HO HV HX HB
      obtain ⟨j,rfl,Hj,HK2,HO,HV,HX,HB⟩ := hrel
      by_cases hj : j < LX
      ·have hjb : decide ((j : Int) < (LX : Int)) = true := decide_eq_true (by omega)
       have hjb1 : ((j : Int) < (LX : Int)) = True := eq_true (by omega)
       have hjL : j < lev.length := by have := HLX.out;omega
       have HJL := Aside0.mk hj
       have hU := HO.out
       rw [List.drop_eq_getElem_cons hjL] at hU
       obtain ⟨ba,BA,hU2⟩ := Option.bind_eq_some_iff.mp hU
       obtain ⟨gx,rfl⟩ : ∃ gx,Ax = some ⟨gx,0,none⟩ := by
        obtain ⟨g,cap,he,_⟩ := Kd.R_form HX.out (by omega)
        injection he with h1 _ _
        exact ⟨_,h1⟩
       obtain ⟨cc,hcl,hM,hcc,_⟩ := Kd.R_elem HX.out (([],0),[]) (j : Int) (by omega) (by omega)
       have hl : lev.getD ((j : Int)).toNat (([],0),[]) = lev[j] := by rw [Int.toNat_natCast,List.getD_eq_getElem?_getD,List.getElem?_eq_getElem hjL];rfl
       rw [hl] at hM
       obtain ⟨p,hp⟩ : ∃ p,lev[j] = p := ⟨_,rfl⟩
       rw [hp] at hM BA hU2
       obtain ⟨⟨pl,pu⟩,pm⟩ := p
       replace BA := Aside0.mk BA
       replace HO := Aside0.mk hU2
       obtain ⟨_,_,rfl,⟨_,_,rfl,⟨vp,rfl,hRp⟩,rfl⟩,⟨vm,rfl,hRm⟩⟩ := hM
       have hx0 := hcc 0 vp rfl
       have hx1 := hcc 1 (.int .i64 pu) rfl
       have hx2 := hcc 2 vm rfl
       simp only [show dP.sz = 3 from rfl,Nat.add_zero,Int.toNat_natCast] at hx0 hx1 hx2
       obtain ⟨Ap,cp,ep⟩ := Kd.R_slice hRp
       obtain ⟨Am,cm,em⟩ := Kd.R_slice hRm
       subst ep em
       have HRp := Aside0.mk hRp
       have HRm := Aside0.mk hRm
       clear hU2 hU hRp hRm hcc hcl hl hp hj
       clear hjL
       go_wp2_with (first | ((with_reducible refine gate_dst (N := 9) rfl ?_);(try (refine gate_guard (by rfl) ?_;dsimp only));refine box_event ?hg (N := 9) ?hd (cs := #[.slice none 0 0, .int .i64 0, .slice none 0 0]) (t := 70) ?hr ?_;(case hd => rfl);(case hg => rfl);(case hr => first | (go_simp;done) | (go_simp;rfl));intro gp hg w5 hbox hb;have HXX := Aside0.mk hb;have HY := Aside0.mk hbox;have HZ := Aside0.mk hg;clear hb hbox hg hx0 hx1 hx2;have hq0 : w5.cell? ⟨gp,0,none⟩ = some (.slice none 0 0) := (blk_cell HY.out 0).trans rfl;have hq1 : w5.cell? ⟨gp,1,none⟩ = some (.int .i64 0) := (blk_cell HY.out 1).trans rfl;have hq2 : w5.cell? ⟨gp,2,none⟩ = some (.slice none 0 0) := (blk_cell HY.out 2).trans rfl;have hf0 := blk_frozen HY.out 0;have hf1 := blk_frozen HY.out 1;have hf2 := blk_frozen HY.out 2))
       try clear hq0
       try clear hq1
       try clear hq2
       try clear hf0
       try clear hf1
       try clear hf2
       have hb : Below wr.heap.size wr (((w5.setCell ⟨gp,0,none⟩ (.slice Ap pl.length cp)).setCell ⟨gp,1,none⟩ (.int .i64 pu)).setCell ⟨gp,2,none⟩ (.slice Am pm.length cm)) := below_set (below_set (below_set HXX.out (by rw [HZ.out];exact Nat.le_refl _)) (by rw [HZ.out];exact Nat.le_refl _)) (by rw [HZ.out];exact Nat.le_refl _)
       have KP := Aside0.mk (show (((w5.setCell ⟨gp,0,none⟩ (.slice Ap pl.length cp)).setCell ⟨gp,1,none⟩ (.int .i64 pu)).setCell ⟨gp,2,none⟩ (.slice Am pm.length cm)).heap[gp]? = some (.cells #[.slice Ap pl.length cp, .int .i64 pu, .slice Am pm.length cm] 70 (0,0)) from blk_put (blk_put (blk_put HY.out 0 _ rfl) 1 _ rfl) 2 _ rfl)
       generalize (((w5.setCell ⟨gp,0,none⟩ (.slice Ap pl.length cp)).setCell ⟨gp,1,none⟩ (.int .i64 pu)).setCell ⟨gp,2,none⟩ (.slice Am pm.length cm)) = w6 at hb KP ⊢
       have RP := Aside0.mk (Kd.R_reads' (Kd.R_below HRp.out hb))
       cases ba with
       | true =>
        obtain ⟨om,HOM,e3⟩ := Option.bind_eq_some_iff.mp HO.out
        cases e3
        replace HOM := Aside0.mk HOM
        have e4 : (om,true) = (r,b) := Option.some.inj H.out
        cases e4
        refine (impl_areAlike.calls k Ap cp pl pu true _ RP.out.2.2 RP.out.2.1 BA.out).mono ?_
        rintro e w7 ⟨rfl,hb2⟩
        have hb3 := below_step hb hb2
        have n0_ := Aside0.mk (below_step HB.out hb3)
        have RM := Aside0.mk (Kd.R_reads' (Kd.R_below HRm.out hb3))
        have hz2 : w7.cell? ⟨gp,2,none⟩ = some (.slice Am pm.length cm) := (blk_cell (blk_below KP.out hb2) 2).trans rfl
        clear hb hb2 hb3 HV HX HXX HY HZ KP HB HRp HRm
        go_wp2_with fail
        refine (impl_ownMixes.calls k Am cm pm _ _ RM.out.2.2 RM.out.2.1 HOM.out).mono ?_
        rintro e w8 ⟨v37,rfl,hs,hb⟩
        have HS := Aside0.mk (Kd.S_lower hs n0_.out.size)
        have HB := Aside0.mk (below_step n0_.out hb)
        clear hs hb hz2
        go_wp2
        go_ret2
        exact ⟨_,rfl,HS.out,HB.out⟩
       | false =>
        refine (impl_areAlike.calls k Ap cp pl pu false _ RP.out.2.2 RP.out.2.1 BA.out).mono ?_
        rintro e w7 ⟨rfl,hb2⟩
        have hb3 := below_step hb hb2
        have n0_ := Aside0.mk (below_step HB.out hb3)
        have n1_ := Aside0.mk (Kd.R_below HV.out hb3)
        have n2_ := Aside0.mk (Kd.R_below HX.out hb3)
        clear hb hb2 hb3 HV HX HXX HY HZ KP HB HRp HRm
        go_wp2
        go_roundg (LX - (j + 1))
        case measure => have := HK2.out;have := HJL.out;omega
        case rel =>
         have h1 := HJL.out;have h2 := HLM.out
         exact ⟨j + 1,up_one (by omega),⟨by omega⟩,⟨by omega⟩,HO,n1_,n2_,n0_⟩
      ·have hjb : decide ((j : Int) < (LX : Int)) = false := decide_eq_false (by omega)
       have e2 : o = none := by
        have := HO.out
        rw [List.drop_of_length_le (by have := HLX.out;omega)] at this
        exact (Option.some.inj this).symm
       subst e2
       go_wp2
       go_roundg (L - (i + 1))
       case measure => have := HK1.out;have := HIL.out;omega
       case rel =>
        have h1 := HIL.out;have h2 := HSM.out.1;have h3 := HLN.out
        exact ⟨i + 1,up_one (by omega),⟨by omega⟩,⟨by omega⟩,H,HV,HB⟩
    ·have hib : decide ((i : Int) < (L : Int)) = false := decide_eq_false (by omega)
     have e2 : ([],false) = (r,b) := by
      have := H.out
      rw [List.drop_of_length_le (by have := HLN.out;omega)] at this
      exact Option.some.inj this
     cases e2
     go_wp2
     go_ret2
     exact ⟨_,rfl,Kd.S_nil _ _ _ _ _,HB.out⟩
def impl_FewestToAlike.f (k : Nat) (l : List Int) (u : Int) (most : Int) : Option (Int × Bool) := (impl_FirstToAlike.f k l u most).bind fun q => some ((q.1.length : Int),q.2)
theorem seekAlike_mono (k : Nat) : ∀ ps,LeO (seekAlike k ps) (seekAlike (k + 1) ps)
 | [] => LeO.refl _
 | p :: ps => by
  unfold seekAlike
  exact LeO.bind (impl_areAlike.mono _ _ _) (fun _ => LeO.ite (LeO.bind (impl_ownMixes.mono _ _) (fun _ => LeO.refl _)) (seekAlike_mono k ps))
theorem seekLevels_mono (k : Nat) : ∀ ls,LeO (seekLevels k ls) (seekLevels (k + 1) ls)
 | [] => LeO.refl _
 | lev :: ls => by
  unfold seekLevels
  refine LeO.bind (seekAlike_mono k lev) (fun o => ?_)
  cases o with
  | some m => exact LeO.refl _
  | none => exact seekLevels_mono k ls
theorem mixAll_mono (k : Nat) (p : Pl) : ∀ ms acc,LeO (mixAll k p ms acc) (mixAll (k + 1) p ms acc)
 | [],_ => LeO.refl _
 | m :: ms,acc => by
  unfold mixAll
  exact LeO.ite (LeO.bind (impl_mix.mono _ _ _ _ _) (fun _ => mixAll_mono k p ms _)) (LeO.refl _)
theorem levelUp_mono (k : Nat) (ms : List (List Int)) : ∀ ps acc,LeO (levelUp k ms ps acc) (levelUp (k + 1) ms ps acc)
 | [],_ => LeO.refl _
 | p :: ps,acc => by
  unfold levelUp
  exact LeO.bind (mixAll_mono k p ms acc) (fun _ => levelUp_mono k ms ps _)
theorem levels_mono (k : Nat) (ms : List (List Int)) : ∀ d lev out,LeO (levels k ms d lev out) (levels (k + 1) ms d lev out)
 | 0,_,_ => LeO.refl _
 | d + 1,lev,out => by
  unfold levels
  exact LeO.bind (levelUp_mono k ms lev []) (fun _ => levels_mono k ms d _ _)
theorem impl_rounds.mono : ∀ l u most k,LeO (impl_rounds.f k l u most) (impl_rounds.f (k + 1) l u most) := fun l u most k => by
 unfold impl_rounds.f
 exact LeO.bind (impl_mixesOf.mono _ _) (fun _ => LeO.ite (levels_mono _ _ _ _ _) (LeO.refl _))
theorem impl_FewestToAlike.mono : ∀ l u most k,LeO (impl_FewestToAlike.f k l u most) (impl_FewestToAlike.f (k + 1) l u most) := fun l u most k => by
 unfold impl_FewestToAlike.f impl_FirstToAlike.f
 refine LeO.bind (LeO.bind (impl_areFew.mono _ _ _) (fun _ => LeO.ite (LeO.bind (LeO.refl _) (fun _ => LeO.ite (LeO.bind (impl_rounds.mono _ _ _ _) (fun _ => LeO.ite (seekLevels_mono _ _) (LeO.refl _))) (LeO.refl _))) (LeO.refl _))) (fun _ => LeO.refl _)
set_option maxHeartbeats 1000000 in
theorem impl_FewestToAlike.calls (k : Nat) (A0_0 : Option Addr) (c0_0 : Nat) (l0_0 : List Int) (a0_1 : Int) (a1 : Int) (r1 : Int) (r2 : Bool) (w : World) (hr0_0 : Kd.R (Kd.int .i64) 3 w 0 (fun _ => True) (.slice A0_0 l0_0.length c0_0) l0_0) (hc0_0 : l0_0.length ≤ c0_0) (h : impl_FewestToAlike.f k l0_0 a0_1 a1 = some (r1,r2)) :
  Calls Try.prog 27 #[.agg #[.slice A0_0 l0_0.length c0_0, .int .i64 a0_1], .int .i64 a1] w fun e w' => e = .returned (.tuple #[.int .i64 r1, .bool r2]) ∧ Below w.heap.size w w' := by
 obtain ⟨⟨q1,q2⟩,Q,h⟩ := Option.bind_eq_some_iff.mp h
 replace Q := Aside0.mk Q
 simp only [Option.some.injEq,Prod.mk.injEq] at h
 obtain ⟨rfl,rfl⟩ := h
 have hu29 := Try.underlying29
 have HB := Aside0.mk (Below.refl w.heap.size w)
 have HP := Aside0.mk hr0_0
 clear hr0_0 hc0_0
 go_enter Try.func27,Try.ntmps27
 go_wp2_with (first | ((with_reducible refine gate_dst (N := 2) rfl ?_);(try (refine gate_guard (by rfl) ?_;dsimp only));refine box_event ?hg (N := 2) ?hd (cs := #[.slice A0_0 l0_0.length c0_0, .int .i64 a0_1]) (t := 29) ?hr ?_;(case hd => rfl);(case hg => rfl);(case hr => first | (go_simp;done) | (go_simp;rfl));intro gb hg w5 hbox hb;have n0_ := Aside0.mk (below_step HB.out hb);have BK := Aside0.mk hbox;have n1_ := Aside0.mk (Kd.R_below HP.out hb);clear HB HP hb hbox hg;have HB := n0_;have HP := n1_;clear n0_ n1_;have hz0 : w5.cell? ⟨gb,0,none⟩ = some (.slice A0_0 l0_0.length c0_0) := (blk_cell BK.out 0).trans rfl;have hz1 : w5.cell? ⟨gb,1,none⟩ = some (.int .i64 a0_1) := (blk_cell BK.out 1).trans rfl))
 refine (impl_FirstToAlike.calls k A0_0 c0_0 l0_0 a0_1 a1 q1 q2 _ HP.out Q.out).mono ?_
 rintro e w6 ⟨v,rfl,hs,hb⟩
 have n0_ := Aside0.mk (below_step HB.out hb)
 obtain ⟨A7,c7,e7⟩ := Kd.S_slice hs
 subst e7
 clear hs hb
 go_wp2
 go_ret2
 exact ⟨rfl,n0_.out⟩

end Go.Proofs.Ytmkpngmdikbbeaa.P
