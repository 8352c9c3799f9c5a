/- Written by a program of this workplace (own_print.py, over the kit's print) for the functions that the statements reach, with contracts of its own. Lean checks it. -/
import Derived.Test.YtmkpngmdikbbeaaPx0
import Derived.Test.YtmkpngmdikbbeaaPx4
import Derived.Test.YtmkpngmdikbbeaaPx9
import Derived.Test.YtmkpngmdikbbeaaPx10
namespace Go.Proofs.Ytmkpngmdikbbeaa.P
open Go.RowKit Go.Proofs.YtmkpngmdikbbeaaW.PrintWords Go.Proofs.YtmkpngmdikbbeaaW.PrintLast Go.Proofs.YtmkpngmdikbbeaaW.PrintMore
attribute [local go_sem] max2_int min2_int max_two min_two max_three min_three max_four min_four   -- for this text's walks alone
set_option linter.unusedVariables false
set_option linter.unusedSimpArgs false

/-! ### impl_rounds: function 69 -/
theorem below_zero {n : Nat} {w w1 : World} (h : Below n w w1) : Below 0 w w1 where
 os := h.os
 tape := h.tape
 output := h.output
 size := h.size
 block := fun k hk => absurd hk (Nat.not_lt_zero _)
set_option maxHeartbeats 4000000 in
set_option maxRecDepth 100000 in
/-- A copy of a row of rows: what its elements lead to is shared. -/
theorem clone2_calls (A : Option Addr) (c : Nat) (l : List (List Int)) (w : World) (hR : Kd.R dM 22 w 0 (fun _ => True) (.slice A l.length c) l) (hl : l.length ≤ 100) :
  Calls Try.prog 80 #[.slice A l.length c] w fun e w' => ∃ v0_ : Value,e = .returned v0_ ∧ Kd.R dM 22 w' 0 (fun _ => True) v0_ l ∧ (∀ k_,v0_.ownBlock = some k_ → w.heap.size ≤ k_) ∧ Below w.heap.size w w' := by
 have qT : ∀ (w : World) (a : Option Addr) (n c n' c' : Nat),(binOp .eql 26 (.slice a n c) (.slice none n' c')).run Try.prog w = .ok (.bool a.isNone) w := fun w a n c n' c' => Lib.run_eql_slice_nil w _ _ a n c n' c' Try.underlying26
 have HR := Aside0.mk (Kd.R_mono (Kd.R_bound hR) (ok' := fun k_ => k_ < w.heap.size) (fun _ hk => hk.2.2.1))
 have HL := Aside0.mk hl
 cases A with
 | none =>
  have e0 : l = [] := by
   rcases l with _ | ⟨x,l⟩
   ·rfl
   ·obtain ⟨g,cap,he,_⟩ := Kd.R_form hR (by simp)
    cases he
  subst e0
  clear hR hl
  go_enter Try.func80,Try.ntmps80
  go_wp2
  go_ret
  exact ⟨_,rfl,Kd.R_nil _ _ _ _ _,fun k_ hk => by simp [Value.ownBlock] at hk,Below.refl _ _⟩
 | some ad =>
  clear hR hl
  go_enter Try.func80,Try.ntmps80
  go_wp2_with (first | ((with_reducible refine gate_dst (N := 5) rfl ?_);refine Kd.R_lit dM _ 22 ?hg (N := 5) ?hd (xs := ([] : List (List Int))) (inner := []) (ok := fun _ => True) (okp := fun _ => True) ?hr ?hp (fun _ hk => hk) trivial (Below.refl _ _) (Nat.le_refl _) (by simp) ?_;(case hd => rfl);(case hg => rfl);(case hr => first | (go_simp;done) | (go_simp;rfl));(case hp => exact (Reps.none _ _));intro v30 w4 ho hb hg_ hnew_;clear hg_ hnew_;have O30 := Aside0.mk (Kd.R_lower ho (Nat.zero_le _));have W30 := Aside0.mk (show ∀ k,v30.ownBlock = some k → w.heap.size ≤ k from Kd.R_base ho);have B30 := Aside0.mk hb;clear ho hb) | ((with_reducible refine gate_builtin (b := .append) (xs := #[.tmp 5, .tmp 6]) rfl ?_);at_builtin;refine Kd.R_append_rows dM (Rr := fun x cs => dM.M w4 0 (fun k_ => k_ < w.heap.size ∧ some k_ ≠ (Value.slice (some ad) l.length c).ownBlock) x cs) (w0 := w) 0 rfl (.tmp 5) (.tmp 6) 26 22 (.slice none 0 0) 24 rfl Try.underlying26 info22 rfl (by decide) (by omega) v30 [] l _ _ _ (fun _ => True) (fun k_ => k_ < w.heap.size) rfl rfl ?aO ?aR ?aK ?aP ?aF ?aB ?aS ?aL ?_;(case aO => exact O30.out);(case aR => exact R_rows (Kd.R_below HR.out B30.out));(case aK => exact fun x cs h_ => dM.M_mono (fun k_ q_ => q_.1) h_);(case aP => exact fun k_ h_ => ⟨trivial,fun e_ => by have := W30.out k_ e_.symm;omega⟩);(case aF => exact fun _ _ => trivial);(case aB => exact below_zero B30.out);(case aS => exact Nat.zero_le _);(case aL => have := HL.out;simp only [List.length_nil];omega);intro v32 w5 ho hb hg hat;have O32 := Aside0.mk (show Kd.R dM 22 w5 0 (fun _ => True) v32 l from ho);have W32 := Aside0.mk (at_own W30.out B30.out.size hat);have B32 := Aside0.mk (below_grew B30.out hg W30.out);clear ho hb hg hat O30))
  go_ret
  exact ⟨_,rfl,O32.out,W32.out,B32.out⟩
theorem infoLP : (Try.prog.info? 77).map (fun i => (i.zero,i.size,i.bytes)) = some (some (.slice none 0 0),1,24) := by kernel_rfl
/-- A played's zero value. -/
abbrev zero70 : Value := .agg #[.slice none 0 0, .int .i64 0, .slice none 0 0]
theorem infoP : (Try.prog.info? 70).map (fun i => (i.zero,i.size,i.bytes)) = some (some zero70,3,56) := by kernel_rfl
theorem M_apart' {α : Type} {d : Kd α} {e' : Nat} {W : World} {base : Nat} {ok : Nat → Prop} {v : Value} {x : α} {cs : List Value} (h : d.M W base ok x cs) (hty : ∀ k,v.ownBlock = some k → ∃ cells,W.heap[k]? = some (.cells cells e' (0,0))) (ht : ∀ q,q ∈ d.E → q ≠ e') : d.M W base (fun k => True ∧ some k ≠ v.ownBlock) x cs := by
 refine d.M_mono (fun k hk => ⟨trivial,fun he => ?_⟩) (d.M_bound h)
 obtain ⟨_,_,_,q,hq,cells,hc⟩ := hk
 obtain ⟨cells',hc'⟩ := hty k he.symm
 rw [hc] at hc'
 injection hc' with hc'
 injection hc' with _ h2 _
 exact ht q hq h2
theorem R_rows_apart {α : Type} {d : Kd α} {e e' : Nat} {W : World} {base : Nat} {ok : Nat → Prop} {A : Option Addr} {n c : Nat} {v : Value} {xs : List α} (h : Kd.R d e W base ok (.slice A n c) xs) (hty : ∀ k,v.ownBlock = some k → ∃ cells,W.heap[k]? = some (.cells cells e' (0,0))) (ht : ∀ q,q ∈ d.E → q ≠ e') : ReadsRow (fun x cs => d.M W base (fun k => True ∧ some k ≠ v.ownBlock) x cs) d.sz W A n xs :=
 ReadsRow.imp_ (R_rows h) (Below.refl _ _) (fun _ _ hp => M_apart' hp hty ht)
theorem own_away {v v1 : Value} {g m : Nat} (hv : ∀ k,v.ownBlock = some k → k ≠ g) (hg : g < m) (hat : v1.ownBlock = v.ownBlock ∨ ∃ b,v1.ownBlock = some b ∧ m ≤ b) : ∀ k,v1.ownBlock = some k → k ≠ g := fun k hk => by
 rcases hat with h | ⟨b,h,hb⟩
 ·exact hv k (h ▸ hk)
 ·rw [h] at hk;cases hk;omega
/-- Cups behind mixes. -/
abbrev Pl := (List Int × Int) × List (List Int)
abbrev dP : Kd Pl := Kd.pair (Kd.pair (Kd.slice 3 (Kd.int .i64)) (Kd.int .i64)) (Kd.slice 22 dM)
abbrev dV : Kd (List Pl) := Kd.slice 70 dP
def mixAll (k : Nat) (p : Pl) : List (List Int) → List Pl → Option (List Pl)
 | [],acc => some acc
 | m :: ms,acc => if 1 < (m.length : Int) then (impl_mix.f k p.1.1 p.1.2 (rd m 0) (rd m 1)).bind fun q => mixAll k p ms (acc ++ [(q,p.2 ++ [m])]) else none
def levelUp (k : Nat) (ms : List (List Int)) : List Pl → List Pl → Option (List Pl)
 | [],acc => some acc
 | p :: ps,acc => (mixAll k p ms acc).bind fun acc' => levelUp k ms ps acc'
def levels (k : Nat) (ms : List (List Int)) : Nat → List Pl → List (List Pl) → Option (List (List Pl))
 | 0,_,out => some out
 | d + 1,lev,out => (levelUp k ms lev []).bind fun nx => levels k ms d nx (out ++ [nx])
def impl_rounds.f (k : Nat) (l : List Int) (u : Int) (most : Int) : Option (List (List Pl)) := (impl_mixesOf.f k (l.length : Int)).bind fun ms => if 0 ≤ most ∧ most ≤ 5 ∧ ms.length ≤ 6 then levels k ms most.toNat [((l,u),[])] [[((l,u),[])]] else none
set_option maxHeartbeats 4000000 in
set_option maxRecDepth 100000 in
theorem impl_rounds.calls (k : Nat) (A : Option Addr) (c : Nat) (l : List Int) (u : Int) (most : Int) (r : List (List Pl)) (w : World) (hR : Kd.R (Kd.int .i64) 3 w 0 (fun _ => True) (.slice A l.length c) l) (h : impl_rounds.f k l u most = some r) :
  Calls Try.prog 69 #[.agg #[.slice A l.length c, .int .i64 u], .int .i64 most] w fun e w' => ∃ v0_ : Value,e = .returned v0_ ∧ Kd.R dV 77 w' 0 (fun _ => True) v0_ r ∧ Below w.heap.size w w' := by
 obtain ⟨ms,P0,h⟩ := Option.bind_eq_some_iff.mp h
 by_cases hc : 0 ≤ most ∧ most ≤ 5 ∧ ms.length ≤ 6
 ·rw [if_pos hc] at h
  have H := Aside0.mk h
  have PS := Aside0.mk P0
  have HC := Aside0.mk hc
  have HB := Aside0.mk (Below.refl w.heap.size w)
  have HP := Aside0.mk hR
  have hu29 := Try.underlying29
  have hu70 := Try.underlying70
  clear h P0 hc hR
  go_enter Try.func69,Try.ntmps69
  go_wp2_with (first | ((with_reducible refine gate_dst (N := 2) rfl ?_);(try (refine gate_guard (by rfl) ?_;dsimp only));refine box_event ?hg (N := 2) ?hd (cs := #[.slice A l.length c, .int .i64 u]) (t := 29) ?hr ?_;(case hd => rfl);(case hg => rfl);(case hr => first | (go_simp;done) | (go_simp;rfl));intro gb hg w5 hbox hb;have n0_ := Aside0.mk (below_step HB.out hb);have BK := Aside0.mk hbox;have n1_ := Aside0.mk (Kd.R_below HP.out hb);clear HB HP hb hbox hg;have HB := n0_;have HP := n1_;clear n0_ n1_;have hz0 : w5.cell? ⟨gb,0,none⟩ = some (.slice A l.length c) := (blk_cell BK.out 0).trans rfl;have hz1 : w5.cell? ⟨gb,1,none⟩ = some (.int .i64 u) := (blk_cell BK.out 1).trans rfl) | ((with_reducible refine gate_dst (N := 14) rfl ?_);refine Kd.R_lit dP 0 70 ?hg (N := 14) ?hd (xs := ([((l,u),[])] : List Pl)) (inner := [.slice A l.length c, .int .i64 u, .slice none 0 0]) (ok := fun _ => True) (okp := fun _ => True) ?hr ?hp (fun _ hk => hk) trivial (Below.refl 0 _) (Nat.zero_le _) (by simp) ?_;(case hd => rfl);(case hg => rfl);(case hr => first | (go_simp;done) | (go_simp;rfl));(case hp => exact (Reps.c3 (show Kd.M dP _ _ _ ((l,u),[]) _ from ⟨[_,_],[_],rfl,⟨[_],[_],rfl,⟨_,rfl,HP.out⟩,rfl⟩,⟨_,rfl,Kd.R_nil _ _ _ _ _⟩⟩) (Reps.none _ _)));intro v14 w6 ho hb hg_ hnew_;have O14 := Aside0.mk ho;have hb1 := below_grew (Below.refl w5.heap.size w5) hg_ (fun _ e_ => by cases e_);have n0_ := Aside0.mk (below_step HB.out hb1);have n1_ := Aside0.mk (blk_below BK.out hb1);clear hg_ hnew_ ho hb hb1 HB BK hz0 hz1;have HB := n0_;have BK := n1_;clear n0_ n1_;obtain ⟨A14,c14,e14⟩ := Kd.R_slice O14.out;subst e14) | ((with_reducible refine gate_dst (N := 16) rfl ?_);refine Kd.R_lit dV 0 77 ?hg (N := 16) ?hd (xs := ([[((l,u),[])]] : List (List Pl))) (inner := [.slice A14 ([((l,u),[])] : List Pl).length c14]) (ok := fun _ => True) (okp := fun _ => True) ?hr ?hp (fun _ hk => hk) trivial (Below.refl 0 _) (Nat.zero_le _) (by simp) ?_;(case hd => rfl);(case hg => rfl);(case hr => first | (go_simp;done) | (go_simp;rfl));(case hp => exact (Reps.one (show Kd.M dV _ _ _ [((l,u),[])] _ from ⟨_,rfl,O14.out⟩) (Reps.none _ _)));intro v16 w7 ho hb hg_ hnew_;have O16 := Aside0.mk ho;have hb1 := below_grew (Below.refl w6.heap.size w6) hg_ (fun _ e_ => by cases e_);have N16 := Aside0.mk (show ∀ k_,v16.ownBlock = some k_ → w.heap.size ≤ k_ from fun k_ hk => by obtain ⟨b_,e1,e2⟩ := hnew_;rw [e1] at hk;cases hk;exact Nat.le_trans HB.out.size e2);have n0_ := Aside0.mk (below_step HB.out hb1);have n1_ := Aside0.mk (blk_below BK.out hb1);have n2_ := Aside0.mk (Kd.R_below O14.out hb1);clear hg_ hnew_ ho hb hb1 HB BK O14;have HB := n0_;have BK := n1_;have O14 := n2_;clear n0_ n1_ n2_))
  clear HP
  go_loopg [5,6,18] 5 (fun kq v5 v6 v18 w' => ∃ (i m : Nat) (lev : List Pl) (outs : List (List Pl)),v18 = .int .i64 (i : Int) ∧ Aside0 (i + m = most.toNat) ∧ Aside0 (m ≤ kq) ∧ Aside0 (levels k ms m lev outs = some r) ∧ Aside0 (lev.length * 6 ^ m ≤ 7776) ∧ Aside0 (∀ p ∈ lev,p.2.length + m ≤ 5) ∧ Aside0 (outs.length + m ≤ 6) ∧ Aside0 (Kd.R dP 70 w' 0 (fun _ => True) v5 lev) ∧ Aside0 (Kd.R dV 77 w' 0 (fun _ => True) v6 outs) ∧ Aside0 (∀ k_,v6.ownBlock = some k_ → w.heap.size ≤ k_) ∧ Aside0 (w'.heap[gb]? = some (.cells #[.slice A l.length c, .int .i64 u] 29 (0,0))) ∧ Aside0 (Below w.heap.size w w'))
  case atStart =>
   have hm5 : most.toNat ≤ 5 := by have := HC.out;omega
   exact ⟨0,most.toNat,[((l,u),[])],[[((l,u),[])]],rfl,⟨by omega⟩,⟨hm5⟩,H,⟨Nat.le_trans (Nat.mul_le_mul_left _ (Nat.pow_le_pow_right (by omega) hm5)) (by simp)⟩,⟨fun q hq => by simp only [List.mem_singleton] at hq;subst hq;simpa using hm5⟩,⟨by simp only [List.length_singleton];omega⟩,O14,O16,N16,BK,HB⟩
  case round =>
   clear H O14 O16 N16 BK HB
   obtain ⟨i,m,lev,outs,rfl,HIM,HM,H,HL,H5,HO6,HV,HO,HON,BK,HB⟩ := hrel
   cases m with
   | zero =>
    have c0 : decide ((i : Int) < most) = false := decide_eq_false (by have := HIM.out;have := HC.out;omega)
    have E := Option.some.inj H.out
    obtain ⟨A5,c5,e5⟩ := Kd.R_slice HO.out
    subst e5
    clear H
    go_wp2
    go_ret
    exact ⟨_,rfl,by rw [← E];exact HO.out,HB.out⟩
   | succ m =>
    have c0 : decide ((i : Int) < most) = true := decide_eq_true (by have := HIM.out;have := HC.out;omega)
    obtain ⟨nxE,HU,H⟩ := Option.bind_eq_some_iff.mp H.out
    replace HU := Aside0.mk HU
    replace H := Aside0.mk H
    obtain ⟨A5,c5,e5⟩ := Kd.R_slice HV.out
    subst e5
    obtain ⟨L,hLL⟩ : ∃ L,lev.length = L := ⟨_,rfl⟩
    have HLN := Aside0.mk hLL
    have hLM : lev.length ≤ 7776 := by have := HL.out;have h6 : 1 ≤ 6 ^ (m + 1) := Nat.pow_pos (by decide);exact Nat.le_trans (Nat.le_mul_of_pos_right _ h6) this
    have HLM := Aside0.mk hLM
    clear hLM
    rw [hLL] at HV ⊢
    clear hLL
    obtain ⟨M0,hM0⟩ : ∃ M0,wr.heap.size = M0 := ⟨_,rfl⟩
    have HV2 := Aside0.mk (Kd.R_mono (Kd.R_bound HV.out) (ok' := fun k_ => k_ < M0) (fun _ hk => by have := hk.2.2.1;omega))
    have HO2 := Aside0.mk (Kd.R_mono (Kd.R_bound HO.out) (ok' := fun k_ => k_ < M0) (fun _ hk => by have := hk.2.2.1;omega))
    have HGB := Aside0.mk (show gb < M0 by rw [← hM0];exact blk_lt BK.out)
    have HW := Aside0.mk (show w.heap.size ≤ M0 by rw [← hM0];exact HB.out.size)
    have HW2 := Aside0.mk (show M0 ≤ wr.heap.size from Nat.le_of_eq hM0.symm)
    clear HO HV hM0
    go_wp2_with (first | ((with_reducible refine gate_dst (N := 20) rfl ?_);refine Kd.R_lit dP 0 70 ?hg (N := 20) ?hd (xs := ([] : List Pl)) (inner := []) (ok := fun _ => True) (okp := fun _ => True) ?hr ?hp (fun _ hk => hk) trivial (Below.refl 0 _) (Nat.zero_le _) (by simp) ?_;(case hd => rfl);(case hg => rfl);(case hr => first | (go_simp;done) | (go_simp;rfl));(case hp => exact (Reps.none _ _));intro v20 w5 ho hb hg_ hnew_;have HN := Aside0.mk ho;have hb1 := below_grew (Below.refl wr.heap.size wr) hg_ (fun _ e_ => by cases e_);have HNO := Aside0.mk (show ∀ k_,v20.ownBlock = some k_ → M0 ≤ k_ from fun k_ hk => by obtain ⟨b_,e1,e2⟩ := hnew_;rw [e1] at hk;cases hk;exact Nat.le_trans HW2.out e2);have n0_ := Aside0.mk (below_step HB.out hb1);have n1_ := Aside0.mk (blk_below BK.out hb1);have n2_ := Aside0.mk (Kd.R_below HV2.out hb1);have n3_ := Aside0.mk (Kd.R_below HO2.out hb1);have n4_ := Aside0.mk (Nat.le_trans HW2.out hb1.size);clear hg_ hnew_ ho hb hb1 HB BK HV2 HO2 HW2;have HB := n0_;have BK := n1_;have HV2 := n2_;have HO2 := n3_;have HW2 := n4_;clear n0_ n1_ n2_ n3_ n4_))
    go_loopg [7,23] L (fun kq v7 v23 w' => ∃ (i2 : Nat) (nx : List Pl),v23 = .int .i64 (i2 : Int) ∧ Aside0 (i2 ≤ L) ∧ Aside0 (L - i2 ≤ kq) ∧ Aside0 (levelUp k ms (lev.drop i2) nx = some nxE) ∧ Aside0 (nx.length ≤ i2 * ms.length) ∧ Aside0 (∀ p ∈ nx,p.2.length + m ≤ 5) ∧ Aside0 (Kd.R dP 70 w' 0 (fun _ => True) v7 nx) ∧ Aside0 (∀ k_,v7.ownBlock = some k_ → M0 ≤ k_) ∧ Aside0 (M0 ≤ w'.heap.size) ∧ Aside0 (Kd.R dP 70 w' 0 (fun k_ => k_ < M0) (.slice A5 L c5) lev) ∧ Aside0 (Kd.R dV 77 w' 0 (fun k_ => k_ < M0) u6 outs) ∧ Aside0 (w'.heap[gb]? = some (.cells #[.slice A l.length c, .int .i64 u] 29 (0,0))) ∧ Aside0 (Below w.heap.size w w'))
    case atStart => exact ⟨0,[],rfl,⟨Nat.zero_le _⟩,⟨by omega⟩,HU,⟨Nat.zero_le _⟩,⟨fun q hq => absurd hq List.not_mem_nil⟩,HN,HNO,HW2,HV2,HO2,BK,HB⟩
    case round =>
     clear HN HNO HW2 HV2 HO2 BK HB HU
     obtain ⟨i2,nx,rfl,Hi,HK1,HU,HNL,HN5,HN,HNO,HW2,HV2,HO2,BK,HB⟩ := hrel
     by_cases hi : i2 < L
     ·have hib : decide ((i2 : Int) < (L : Int)) = true := decide_eq_true (by omega)
      have hib1 : ((i2 : Int) < (L : Int)) = True := eq_true (by omega)
      have hiL : i2 < lev.length := by have := HLN.out;omega
      have HIL := Aside0.mk hi
      have hU := HU.out
      rw [List.drop_eq_getElem_cons hiL] at hU
      obtain ⟨nxp,HMA,hU2⟩ := Option.bind_eq_some_iff.mp hU
      obtain ⟨g5,rfl⟩ : ∃ g5,A5 = some ⟨g5,0,none⟩ := by
       obtain ⟨g,cap,he,_⟩ := Kd.R_form HV2.out (by omega)
       injection he with h1 _ _
       exact ⟨_,h1⟩
      obtain ⟨cc,hcl,hM,hcc,_⟩ := Kd.R_elem HV2.out (([],0),[]) (i2 : Int) (by omega) (by omega)
      have hl : lev.getD ((i2 : Int)).toNat (([],0),[]) = lev[i2] := by rw [Int.toNat_natCast,List.getD_eq_getElem?_getD,List.getElem?_eq_getElem hiL];rfl
      rw [hl] at hM
      have h5 := H5.out _ (List.getElem_mem hiL)
      obtain ⟨p,hp⟩ : ∃ p,lev[i2] = p := ⟨_,rfl⟩
      rw [hp] at hM HMA h5
      have HP5 := Aside0.mk h5
      replace HU := Aside0.mk hU2
      replace HMA := Aside0.mk HMA
      obtain ⟨⟨pl,pu⟩,pm⟩ := p
      obtain ⟨_,_,rfl,⟨_,_,rfl,⟨vp,rfl,hRp⟩,rfl⟩,⟨vm,rfl,hRm⟩⟩ := hM
      have hx0 := hcc 0 vp rfl
      have hx1 := hcc 1 (.int .i64 pu) rfl
      have hx2 := hcc 2 vm rfl
      simp only [show dP.sz = 3 from rfl,Nat.add_zero,Int.toNat_natCast] at hx0 hx1 hx2
      obtain ⟨Ap,cp,ep⟩ := Kd.R_slice hRp
      obtain ⟨Am,cm,em⟩ := Kd.R_slice hRm
      subst ep em
      have HRp := Aside0.mk (Kd.R_mono hRp (ok' := fun k_ => k_ < M0) (fun _ hk => hk.1))
      have HRm := Aside0.mk (Kd.R_mono hRm (ok' := fun k_ => k_ < M0) (fun _ hk => hk.1))
      clear hU2 hU
      clear hRp hRm hcc hcl hl hp hi h5
      clear hiL
      go_wp2_with (first | ((with_reducible refine gate_dst (N := 9) rfl ?_);(try (refine gate_guard (by rfl) ?_;dsimp only));refine box_event ?hg (N := 9) ?hd (cs := #[.slice none 0 0, .int .i64 0, .slice none 0 0]) (t := 70) ?hr ?_;(case hd => rfl);(case hg => rfl);(case hr => first | (go_simp;done) | (go_simp;rfl));intro gp hg w5 hbox hb;have HX := Aside0.mk hb;have HY := Aside0.mk hbox;have HZ := Aside0.mk hg;clear hb hbox hg hx0 hx1 hx2;have hq0 : w5.cell? ⟨gp,0,none⟩ = some (.slice none 0 0) := (blk_cell HY.out 0).trans rfl;have hq1 : w5.cell? ⟨gp,1,none⟩ = some (.int .i64 0) := (blk_cell HY.out 1).trans rfl;have hq2 : w5.cell? ⟨gp,2,none⟩ = some (.slice none 0 0) := (blk_cell HY.out 2).trans rfl;have hf0 := blk_frozen HY.out 0;have hf1 := blk_frozen HY.out 1;have hf2 := blk_frozen HY.out 2;have hne1 : gp ≠ gb := (by have h1 := blk_lt BK.out;have h2 := HZ.out;omega);have hne2 : gb ≠ gp := hne1.symm;have hzc : w5.cell? ⟨gb,0,none⟩ = some (.slice A l.length c) := (blk_cell (blk_below BK.out HX.out) 0).trans rfl))
      try clear hq0
      try clear hq1
      try clear hq2
      try clear hf0
      try clear hf1
      try clear hf2
      try clear hne1
      try clear hne2
      try clear hzc
      have hb : Below wr.heap.size wr (((w5.setCell ⟨gp,0,none⟩ (.slice Ap pl.length cp)).setCell ⟨gp,1,none⟩ (.int .i64 pu)).setCell ⟨gp,2,none⟩ (.slice Am pm.length cm)) := below_set (below_set (below_set HX.out (by rw [HZ.out];exact Nat.le_refl _)) (by rw [HZ.out];exact Nat.le_refl _)) (by rw [HZ.out];exact Nat.le_refl _)
      have KP := Aside0.mk (show (((w5.setCell ⟨gp,0,none⟩ (.slice Ap pl.length cp)).setCell ⟨gp,1,none⟩ (.int .i64 pu)).setCell ⟨gp,2,none⟩ (.slice Am pm.length cm)).heap[gp]? = some (.cells #[.slice Ap pl.length cp, .int .i64 pu, .slice Am pm.length cm] 70 (0,0)) from blk_put (blk_put (blk_put HY.out 0 _ rfl) 1 _ rfl) 2 _ rfl)
      generalize (((w5.setCell ⟨gp,0,none⟩ (.slice Ap pl.length cp)).setCell ⟨gp,1,none⟩ (.int .i64 pu)).setCell ⟨gp,2,none⟩ (.slice Am pm.length cm)) = w6 at hb KP ⊢
      have HGP := Aside0.mk (show M0 ≤ gp by rw [HZ.out];exact HW2.out)
      have HPN := Aside0.mk (show ∀ k_,u7.ownBlock = some k_ → k_ ≠ gp from fun k_ hk => by have h1 := Kd.R_lt HN.out k_ hk;have h2 := HZ.out;omega)
      refine (impl_mixesOf.calls k (l.length : Int) ms _ PS.out).mono ?_
      rintro e w7 ⟨v30,rfl,hs,hb2⟩
      have hb3 := below_step hb hb2
      have HPS := Aside0.mk (Kd.R_lower (Kd.S_R hs) (Nat.zero_le _))
      have n0_ := Aside0.mk (Kd.R_below HN.out hb3)
      have n1_ := Aside0.mk (Kd.R_below HV2.out hb3)
      have n2_ := Aside0.mk (Kd.R_below HO2.out hb3)
      have n3_ := Aside0.mk (blk_below BK.out hb3)
      have n4_ := Aside0.mk (blk_below KP.out hb2)
      have n5_ := Aside0.mk (Kd.R_below HRp.out hb3)
      have n6_ := Aside0.mk (Kd.R_below HRm.out hb3)
      have n7_ := Aside0.mk (below_step HB.out hb3)
      have n8_ := Aside0.mk (Nat.le_trans HW2.out hb3.size)
      clear HN HV2 HO2 BK KP HRp HRm HB HW2 HX HY HZ hb hb2 hb3 hs
      have HN := n0_
      have HV2 := n1_
      have HO2 := n2_
      have BK := n3_
      have KP := n4_
      have HRp := n5_
      have HRm := n6_
      have HB := n7_
      have HW2 := n8_
      clear n0_ n1_ n2_ n3_ n4_ n5_ n6_ n7_ n8_
      obtain ⟨A30,c30,e30⟩ := Kd.R_slice HPS.out
      subst e30
      obtain ⟨LP,hLP⟩ : ∃ LP,ms.length = LP := ⟨_,rfl⟩
      have HLP := Aside0.mk hLP
      rw [hLP] at HPS ⊢
      clear hLP
      go_wp2
      go_loopg [7,32] LP (fun kq v7 v32 w' => ∃ (j : Nat) (nx2 : List Pl),v32 = .int .i64 (j : Int) ∧ Aside0 (j ≤ LP) ∧ Aside0 (LP - j ≤ kq) ∧ Aside0 (mixAll k ((pl,pu),pm) (ms.drop j) nx2 = some nxp) ∧ Aside0 (nx2.length ≤ i2 * ms.length + j) ∧ Aside0 (∀ p ∈ nx2,p.2.length + m ≤ 5) ∧ Aside0 (Kd.R dP 70 w' 0 (fun _ => True) v7 nx2) ∧ Aside0 (∀ k_,v7.ownBlock = some k_ → M0 ≤ k_) ∧ Aside0 (∀ k_,v7.ownBlock = some k_ → k_ ≠ gp) ∧ Aside0 (M0 ≤ w'.heap.size) ∧ Aside0 (Kd.R dP 70 w' 0 (fun k_ => k_ < M0) (.slice (some ⟨g5,0,none⟩) L c5) lev) ∧ Aside0 (Kd.R dV 77 w' 0 (fun k_ => k_ < M0) u6 outs) ∧ Aside0 (w'.heap[gb]? = some (.cells #[.slice A l.length c, .int .i64 u] 29 (0,0))) ∧ Aside0 (w'.heap[gp]? = some (.cells #[.slice Ap pl.length cp, .int .i64 pu, .slice Am pm.length cm] 70 (0,0))) ∧ Aside0 (Kd.R (Kd.int .i64) 3 w' 0 (fun k_ => k_ < M0) (.slice Ap pl.length cp) pl) ∧ Aside0 (Kd.R dM 22 w' 0 (fun k_ => k_ < M0) (.slice Am pm.length cm) pm) ∧ Aside0 (Kd.R dM 22 w' 0 (fun _ => True) (.slice A30 LP c30) ms) ∧ Aside0 (Below w.heap.size w w'))
      case atStart => exact ⟨0,nx,rfl,⟨Nat.zero_le _⟩,⟨by omega⟩,HMA,⟨by have := HNL.out;omega⟩,HN5,HN,HNO,HPN,HW2,HV2,HO2,BK,KP,HRp,HRm,HPS,HB⟩
      case round =>
       clear HN HNO HPN HW2 HV2 HO2 BK KP HRp HRm HPS HB HMA HN5 HNL
       obtain ⟨j,nx2,rfl,Hj,HK2,HMA,HNL2,HN5,HN,HNO,HPN,HW2,HV2,HO2,BK,KP,HRp,HRm,HPS,HB⟩ := hrel
       by_cases hj : j < LP
       ·have hjb : decide ((j : Int) < (LP : Int)) = true := decide_eq_true (by omega)
        have hjb1 : ((j : Int) < (LP : Int)) = True := eq_true (by omega)
        have hjL : j < ms.length := by have := HLP.out;omega
        have HJL := Aside0.mk hj
        have HNX := Aside0.mk (show nx2.length ≤ 46700 by
         have h1 := HNL2.out;have h2 := HC.out.2.2;have h3 := HLM.out;have h4 := HIL.out;have h5 := HLN.out
         have h6 : i2 * ms.length ≤ 7776 * 6 := Nat.mul_le_mul (by omega) h2
         omega)
        have hma := HMA.out
        rw [List.drop_eq_getElem_cons hjL] at hma
        simp only [mixAll] at hma
        obtain ⟨gs,rfl⟩ : ∃ gs,A30 = some ⟨gs,0,none⟩ := by
         obtain ⟨g,cap,he,_⟩ := Kd.R_form HPS.out (by omega)
         injection he with h1 _ _
         exact ⟨_,h1⟩
        obtain ⟨cc,hcl,hM,hcc,_⟩ := Kd.R_elem HPS.out ([] : List Int) (j : Int) (by omega) (by omega)
        have hl : ms.getD ((j : Int)).toNat [] = ms[j] := by rw [Int.toNat_natCast,List.getD_eq_getElem?_getD,List.getElem?_eq_getElem hjL];rfl
        rw [hl] at hM
        obtain ⟨mix,hmix⟩ : ∃ x,ms[j] = x := ⟨_,rfl⟩
        rw [hmix] at hM hma
        obtain ⟨vx,rfl,hRx⟩ := hM
        have hx := hcc 0 vx rfl
        simp only [show dM.sz = 1 from rfl,Nat.mul_one,Nat.add_zero,Int.toNat_natCast] at hx
        by_cases hm1 : 1 < (mix.length : Int)
        ·rw [if_pos hm1] at hma
         obtain ⟨⟨q1,q2⟩,HQ,hma2⟩ := Option.bind_eq_some_iff.mp hma
         replace HQ := Aside0.mk HQ
         replace HMA := Aside0.mk hma2
         obtain ⟨gx,cx,ex,_,_,_⟩ := Kd.R_form hRx (by omega)
         subst ex
         obtain ⟨Ax,hAx⟩ : ∃ Ax : Option Addr,Ax = some ⟨gx,0,none⟩ := ⟨_,rfl⟩
         have hc0 := (Kd.R_celln 0 hRx 0 (by omega) (by omega)).1
         have hc1 := (Kd.R_celln 0 hRx 1 (by omega) (by omega)).1
         replace hc0 : wr.cell? ⟨gx,0,none⟩ = some (.int .i64 (rd mix 0)) := hc0
         replace hc1 : wr.cell? ⟨gx,1,none⟩ = some (.int .i64 (rd mix 1)) := hc1
         have ht0 : (0 < (mix.length : Int)) = True := eq_true (by omega)
         have ht1 : (1 < (mix.length : Int)) = True := eq_true (by omega)
         have ht2 : (0 < mix.length) = True := eq_true (by omega)
         have ht3 : (1 < mix.length) = True := eq_true (by omega)
         have HMX := Aside0.mk (Kd.R_mono hRx (ok' := fun _ => True) (fun _ _ => trivial))
         have hz0 : wr.cell? ⟨gp,0,none⟩ = some (.slice Ap pl.length cp) := (blk_cell KP.out 0).trans rfl
         have hz1 : wr.cell? ⟨gp,1,none⟩ = some (.int .i64 pu) := (blk_cell KP.out 1).trans rfl
         clear hma2 hma hRx hcc hcl hl hmix hj hjL hm1 hAx Ax
         have hz2 : wr.cell? ⟨gp,2,none⟩ = some (.slice Am pm.length cm) := (blk_cell KP.out 2).trans rfl
         have HS := Aside0.mk (And.intro hz0 (And.intro hz1 (And.intro hz2 (And.intro hc0 hc1))))
         go_wp2_with fail
         refine start_ (n := 20) (S := fun w' => w'.cell? ⟨gp,0,none⟩ = some (.slice Ap pl.length cp) ∧ w'.cell? ⟨gp,1,none⟩ = some (.int .i64 pu) ∧ w'.cell? ⟨gp,2,none⟩ = some (.slice Am pm.length cm) ∧ w'.cell? ⟨gx,0,none⟩ = some (.int .i64 (rd mix 0)) ∧ w'.cell? ⟨gx,1,none⟩ = some (.int .i64 (rd mix 1))) (ds := [18]) #[false,false,false,false,false,false,false,false,false,false,false,false,false,false,false,false,false,false,false,false] (by kernel_rfl) rfl rfl ⟨hz0,hz1,hz2,hc0,hc1⟩ (fun hHeld => ?_)
         have HBB : Aside0 (Below wr.heap.size wr wr.drew) := ⟨below_drew1 (Below.refl _ _)⟩
         generalize wr.drew = w23 at HBB hHeld ⊢
         refine pure_ (i := 0) (N := some 36) (v := ?_) (a' := ?_) #[true,false,false,false,false,false,false,false,false,false,false,false,false,false,false,false,false,false,false,false] rfl rfl (by kernel_rfl) (fun _ _ _ h => h) (Or.inl ⟨by rfl,?_⟩) ?_ ?_
         rotate_left
         ·intro w'
          go_simp
          with_reducible rfl
         rotate_left
         ·simp only [Act.put,List.setIfInBounds_toArray,List.set_cons_zero,List.set_cons_succ,i64_w,i32_w]
          rfl
         refine pure_ (i := 1) (N := some 37) (v := ?_) (a' := ?_) #[true,true,false,false,false,false,false,false,false,false,false,false,false,false,false,false,false,false,false,false] rfl rfl (by kernel_rfl) (fun _ _ _ h => h) (Or.inl ⟨by rfl,?_⟩) ?_ ?_
         rotate_left
         ·intro w'
          go_simp
          with_reducible rfl
         rotate_left
         ·simp only [Act.put,List.setIfInBounds_toArray,List.set_cons_zero,List.set_cons_succ,i64_w,i32_w]
          rfl
         refine pure_ (i := 3) (N := some 39) (v := ?_) (a' := ?_) #[true,true,false,true,false,false,false,false,false,false,false,false,false,false,false,false,false,false,false,false] rfl rfl (by kernel_rfl) (fun _ _ _ h => h) (Or.inl ⟨by rfl,?_⟩) ?_ ?_
         rotate_left
         ·intro w'
          go_simp
          with_reducible rfl
         rotate_left
         ·simp only [Act.put,List.setIfInBounds_toArray,List.set_cons_zero,List.set_cons_succ,i64_w,i32_w]
          rfl
         refine pure_ (i := 4) (N := some 40) (v := ?_) (a' := ?_) #[true,true,false,true,true,false,false,false,false,false,false,false,false,false,false,false,false,false,false,false] rfl rfl (by kernel_rfl) (fun _ _ _ h => h) (Or.inl ⟨by rfl,?_⟩) ?_ ?_
         rotate_left
         ·intro w'
          go_simp
          with_reducible rfl
         rotate_left
         ·simp only [Act.put,List.setIfInBounds_toArray,List.set_cons_zero,List.set_cons_succ,i64_w,i32_w]
          rfl
         refine pure_ (i := 6) (N := some 42) (v := ?_) (a' := ?_) #[true,true,false,true,true,false,true,false,false,false,false,false,false,false,false,false,false,false,false,false] rfl rfl (by kernel_rfl) (fun _ _ _ h => h) (Or.inl ⟨by rfl,?_⟩) ?_ ?_
         rotate_left
         ·intro w'
          go_simp
          with_reducible rfl
         rotate_left
         ·simp only [Act.put,List.setIfInBounds_toArray,List.set_cons_zero,List.set_cons_succ,i64_w,i32_w]
          rfl
         refine pure_ (i := 7) (N := some 43) (v := ?_) (a' := ?_) #[true,true,false,true,true,false,true,true,false,false,false,false,false,false,false,false,false,false,false,false] rfl rfl (by kernel_rfl) (fun _ _ _ h => h) (Or.inl ⟨by rfl,?_⟩) ?_ ?_
         rotate_left
         ·intro w'
          go_simp
          with_reducible rfl
         rotate_left
         ·simp only [Act.put,List.setIfInBounds_toArray,List.set_cons_zero,List.set_cons_succ,i64_w,i32_w]
          rfl
         refine pure_ (i := 10) (N := some 46) (v := ?_) (a' := ?_) #[true,true,false,true,true,false,true,true,false,false,true,false,false,false,false,false,false,false,false,false] rfl rfl (by kernel_rfl) (fun _ _ _ h => h) (Or.inl ⟨by rfl,?_⟩) ?_ ?_
         rotate_left
         ·intro w'
          go_simp
          with_reducible rfl
         rotate_left
         ·simp only [Act.put,List.setIfInBounds_toArray,List.set_cons_zero,List.set_cons_succ,i64_w,i32_w]
          rfl
         refine pure_ (i := 13) (N := some 49) (v := ?_) (a' := ?_) #[true,true,false,true,true,false,true,true,false,false,true,false,false,true,false,false,false,false,false,false] rfl rfl (by kernel_rfl) (fun _ _ _ h => h) (Or.inl ⟨by rfl,?_⟩) ?_ ?_
         rotate_left
         ·intro w'
          go_simp
          with_reducible rfl
         rotate_left
         ·simp only [Act.put,List.setIfInBounds_toArray,List.set_cons_zero,List.set_cons_succ,i64_w,i32_w]
          rfl
         refine take_ (i := 2) (N := some 38) (v := ?_) (a' := ?_) #[true,true,true,true,true,false,true,true,false,false,true,false,false,true,false,false,false,false,false,false] rfl rfl (by kernel_rfl) (fun _ _ _ h => h) (Or.inl ⟨by rfl,?_⟩) hHeld ?_ ?_
         rotate_left
         ·rintro w' ⟨s0,s1,s2,s3,s4⟩
          go_simp
          with_reducible rfl
         rotate_left
         ·simp only [Act.put,List.setIfInBounds_toArray,List.set_cons_zero,List.set_cons_succ,i64_w,i32_w]
          rfl
         refine take_ (i := 5) (N := some 41) (v := ?_) (a' := ?_) #[true,true,true,true,true,true,true,true,false,false,true,false,false,true,false,false,false,false,false,false] rfl rfl (by kernel_rfl) (fun _ _ _ h => h) (Or.inl ⟨by rfl,?_⟩) hHeld ?_ ?_
         rotate_left
         ·rintro w' ⟨s0,s1,s2,s3,s4⟩
          go_simp
          with_reducible rfl
         rotate_left
         ·simp only [Act.put,List.setIfInBounds_toArray,List.set_cons_zero,List.set_cons_succ,i64_w,i32_w]
          rfl
         refine take_ (i := 8) (N := some 44) (v := ?_) (a' := ?_) #[true,true,true,true,true,true,true,true,true,false,true,false,false,true,false,false,false,false,false,false] rfl rfl (by kernel_rfl) (fun _ _ _ h => h) (Or.inl ⟨by rfl,?_⟩) hHeld ?_ ?_
         rotate_left
         ·rintro w' ⟨s0,s1,s2,s3,s4⟩
          go_simp
          with_reducible rfl
         rotate_left
         ·simp only [Act.put,List.setIfInBounds_toArray,List.set_cons_zero,List.set_cons_succ,i64_w,i32_w]
          rfl
         refine take_ (i := 11) (N := some 47) (v := ?_) (a' := ?_) #[true,true,true,true,true,true,true,true,true,false,true,true,false,true,false,false,false,false,false,false] rfl rfl (by kernel_rfl) (fun _ _ _ h => h) (Or.inl ⟨by rfl,?_⟩) hHeld ?_ ?_
         rotate_left
         ·rintro w' ⟨s0,s1,s2,s3,s4⟩
          go_simp
          with_reducible rfl
         rotate_left
         ·simp only [Act.put,List.setIfInBounds_toArray,List.set_cons_zero,List.set_cons_succ,i64_w,i32_w]
          rfl
         refine join_ (σ := Value × Value × Value) 5 #[true,true,true,true,true,true,true,true,true,true,true,true,true,true,true,false,false,false,false,false] (fun s_ => [(45, .agg #[s_.1, .int .i64 q2]),(48,s_.2.1),(50,s_.2.2)]) (fun s_ w' => (w'.cell? ⟨gp,0,none⟩ = some (.slice Ap pl.length cp) ∧ w'.cell? ⟨gp,1,none⟩ = some (.int .i64 pu) ∧ w'.cell? ⟨gp,2,none⟩ = some (.slice Am pm.length cm) ∧ w'.cell? ⟨gx,0,none⟩ = some (.int .i64 (rd mix 0)) ∧ w'.cell? ⟨gx,1,none⟩ = some (.int .i64 (rd mix 1))) ∧ Kd.R (Kd.int .i64) 3 w' 0 (fun _ => True) s_.1 q1 ∧ Kd.R dM 22 w' 0 (fun _ => True) s_.2.1 pm ∧ (∀ k_,s_.2.1.ownBlock = some k_ → wr.heap.size ≤ k_) ∧ Kd.R dM 22 w' 0 (fun _ => True) s_.2.2 [mix] ∧ Below wr.heap.size wr w') ?_ ?_
         rotate_left
         ·intro hCont
          refine two_ (i := 9) (j := 14) (Ni := some 45) (Nj := some 50) #[true,true,true,true,true,true,true,true,true,true,true,true,false,true,false,false,false,false,false,false] #[true,true,true,true,true,true,true,true,true,false,true,true,false,true,true,false,false,false,false,false] rfl rfl rfl rfl (by kernel_rfl) (by decide) (by decide) (fun K hK => ?_) (fun K hK => ?_)
          ·skip
           refine goes_ Try.func42 (by kernel_rfl) rfl #[.agg #[.slice Ap pl.length cp, .int .i64 pu], .int .i64 (rd mix 0), .int .i64 (rd mix 1)] (by rfl) rfl rfl (by simp only [List.map_toArray,List.map_cons,List.map_nil];rfl) ?_
           with_reducible refine (impl_mix.calls k _ _ pl pu (rd mix 0) (rd mix 1) q1 q2 _ (Kd.R_reads' (Kd.R_below HRp.out HBB.out)).2.2 (Kd.R_reads' HRp.out).2.1 HQ.out).mono ?_
           rintro e w3 ⟨v45,rfl,hq,hb⟩
           refine ⟨_,rfl,?_⟩
           have O45 := Aside0.mk (Kd.R_lower hq (Nat.zero_le _))
           have q_ := Aside0.mk (below_step HBB.out hb)
           clear HBB
           have HBB := q_
           clear q_
           clear hq hb
           refine hK.out _ _ ⟨((HBB.out.cell (World.block_lt_of_cell? wr _ HS.out.1)).trans HS.out.1),((HBB.out.cell (World.block_lt_of_cell? wr _ HS.out.2.1)).trans HS.out.2.1),((HBB.out.cell (World.block_lt_of_cell? wr _ HS.out.2.2.1)).trans HS.out.2.2.1),((HBB.out.cell (World.block_lt_of_cell? wr _ HS.out.2.2.2.1)).trans HS.out.2.2.2.1),((HBB.out.cell (World.block_lt_of_cell? wr _ HS.out.2.2.2.2)).trans HS.out.2.2.2.2)⟩ (fun hHeld => ?_)
           clear hK K
           refine norm_ (a' := ?_) ?_ ?_
           rotate_left
           ·show Act.put _ (some 45) _ = _
            simp only [Act.put,List.setIfInBounds_toArray,List.set_cons_zero,List.set_cons_succ,i64_w,i32_w]
            rfl
           refine two_ (i := 12) (j := 14) (Ni := some 48) (Nj := some 50) #[true,true,true,true,true,true,true,true,true,true,true,true,true,true,false,false,false,false,false,false] #[true,true,true,true,true,true,true,true,true,true,true,true,false,true,true,false,false,false,false,false] rfl rfl rfl rfl (by kernel_rfl) (by decide) (by decide) (fun K hK => ?_) (fun K hK => ?_)
           ·skip
            refine goes_ Try.func80 (by kernel_rfl) rfl #[.slice Am pm.length cm] (by rfl) rfl rfl (by simp only [List.map_toArray,List.map_cons,List.map_nil];rfl) ?_
            with_reducible refine (clone2_calls Am cm pm _ (Kd.R_mono (Kd.R_below HRm.out HBB.out) (fun _ _ => trivial)) (by have := HP5.out;(try simp only at this);omega)).mono ?_
            rintro e w3 ⟨v48,rfl,ho,hown,hb⟩
            refine ⟨_,rfl,?_⟩
            have O48 := Aside0.mk ho
            have W48 := Aside0.mk (show ∀ k_,v48.ownBlock = some k_ → wr.heap.size ≤ k_ from fun k_ hk => Nat.le_trans HBB.out.size (hown k_ hk))
            have m0_ := Aside0.mk (Kd.R_below O45.out hb)
            have q_ := Aside0.mk (below_step HBB.out hb)
            clear HBB O45
            have O45 := m0_
            have HBB := q_
            clear q_ m0_
            clear ho hown hb
            refine hK.out _ _ ⟨((HBB.out.cell (World.block_lt_of_cell? wr _ HS.out.1)).trans HS.out.1),((HBB.out.cell (World.block_lt_of_cell? wr _ HS.out.2.1)).trans HS.out.2.1),((HBB.out.cell (World.block_lt_of_cell? wr _ HS.out.2.2.1)).trans HS.out.2.2.1),((HBB.out.cell (World.block_lt_of_cell? wr _ HS.out.2.2.2.1)).trans HS.out.2.2.2.1),((HBB.out.cell (World.block_lt_of_cell? wr _ HS.out.2.2.2.2)).trans HS.out.2.2.2.2)⟩ (fun hHeld => ?_)
            clear hK K
            refine norm_ (a' := ?_) ?_ ?_
            rotate_left
            ·show Act.put _ (some 48) _ = _
             simp only [Act.put,List.setIfInBounds_toArray,List.set_cons_zero,List.set_cons_succ,i64_w,i32_w]
             rfl
            refine one_ (i := 14) (N := some 50) #[true,true,true,true,true,true,true,true,true,true,true,true,true,true,true,false,false,false,false,false] rfl rfl (by kernel_rfl) (by decide) (fun K hK => ?_)
            refine Kd.R_lit_step dM 0 22 (by rfl) (N := 50) rfl (xs := [mix]) (inner := [.slice (some ⟨gx,0,none⟩) mix.length cx]) (ok := fun _ => True) (okp := fun _ => True) (by first | (go_simp;done) | (go_simp;rfl)) (Reps.one (show Kd.M dM _ _ _ mix _ from ⟨_,rfl,Kd.R_below HMX.out HBB.out⟩) (Reps.none _ _)) (fun _ hk => hk) trivial (Below.refl 0 _) (Nat.zero_le _) (by simp) ?_
            intro v50 w3 ho hb0 hg_ hnew_
            have hb := below_grew (Below.refl _ _) hg_ (fun _ e_ => by cases e_)
            have O50 := Aside0.mk ho
            have m0_ := Aside0.mk (Kd.R_below O45.out hb)
            have m1_ := Aside0.mk (Kd.R_below O48.out hb)
            have q_ := Aside0.mk (below_step HBB.out hb)
            clear HBB O45 O48
            have O45 := m0_
            have O48 := m1_
            have HBB := q_
            clear q_ m0_ m1_
            clear ho hb0 hg_ hnew_ hb
            refine hK.out _ _ ⟨((HBB.out.cell (World.block_lt_of_cell? wr _ HS.out.1)).trans HS.out.1),((HBB.out.cell (World.block_lt_of_cell? wr _ HS.out.2.1)).trans HS.out.2.1),((HBB.out.cell (World.block_lt_of_cell? wr _ HS.out.2.2.1)).trans HS.out.2.2.1),((HBB.out.cell (World.block_lt_of_cell? wr _ HS.out.2.2.2.1)).trans HS.out.2.2.2.1),((HBB.out.cell (World.block_lt_of_cell? wr _ HS.out.2.2.2.2)).trans HS.out.2.2.2.2)⟩ (fun hHeld => ?_)
            clear hK K
            refine norm_ (a' := ?_) ?_ ?_
            rotate_left
            ·show Act.put _ (some 50) _ = _
             simp only [Act.put,List.setIfInBounds_toArray,List.set_cons_zero,List.set_cons_succ,i64_w,i32_w]
             rfl
            exact norm_ (by simp only [putAll,Act.put,List.setIfInBounds_toArray,List.set_cons_zero,List.set_cons_succ]) (hCont (v45,v48,v50) _ ⟨⟨((HBB.out.cell (World.block_lt_of_cell? wr _ HS.out.1)).trans HS.out.1),((HBB.out.cell (World.block_lt_of_cell? wr _ HS.out.2.1)).trans HS.out.2.1),((HBB.out.cell (World.block_lt_of_cell? wr _ HS.out.2.2.1)).trans HS.out.2.2.1),((HBB.out.cell (World.block_lt_of_cell? wr _ HS.out.2.2.2.1)).trans HS.out.2.2.2.1),((HBB.out.cell (World.block_lt_of_cell? wr _ HS.out.2.2.2.2)).trans HS.out.2.2.2.2)⟩,O45.out,O48.out,W48.out,O50.out,HBB.out⟩)
           ·skip
            refine Kd.R_lit_step dM 0 22 (by rfl) (N := 50) rfl (xs := [mix]) (inner := [.slice (some ⟨gx,0,none⟩) mix.length cx]) (ok := fun _ => True) (okp := fun _ => True) (by first | (go_simp;done) | (go_simp;rfl)) (Reps.one (show Kd.M dM _ _ _ mix _ from ⟨_,rfl,Kd.R_below HMX.out HBB.out⟩) (Reps.none _ _)) (fun _ hk => hk) trivial (Below.refl 0 _) (Nat.zero_le _) (by simp) ?_
            intro v50 w3 ho hb0 hg_ hnew_
            have hb := below_grew (Below.refl _ _) hg_ (fun _ e_ => by cases e_)
            have O50 := Aside0.mk ho
            have m0_ := Aside0.mk (Kd.R_below O45.out hb)
            have q_ := Aside0.mk (below_step HBB.out hb)
            clear HBB O45
            have O45 := m0_
            have HBB := q_
            clear q_ m0_
            clear ho hb0 hg_ hnew_ hb
            refine hK.out _ _ ⟨((HBB.out.cell (World.block_lt_of_cell? wr _ HS.out.1)).trans HS.out.1),((HBB.out.cell (World.block_lt_of_cell? wr _ HS.out.2.1)).trans HS.out.2.1),((HBB.out.cell (World.block_lt_of_cell? wr _ HS.out.2.2.1)).trans HS.out.2.2.1),((HBB.out.cell (World.block_lt_of_cell? wr _ HS.out.2.2.2.1)).trans HS.out.2.2.2.1),((HBB.out.cell (World.block_lt_of_cell? wr _ HS.out.2.2.2.2)).trans HS.out.2.2.2.2)⟩ (fun hHeld => ?_)
            clear hK K
            refine norm_ (a' := ?_) ?_ ?_
            rotate_left
            ·show Act.put _ (some 50) _ = _
             simp only [Act.put,List.setIfInBounds_toArray,List.set_cons_zero,List.set_cons_succ,i64_w,i32_w]
             rfl
            refine one_ (i := 12) (N := some 48) #[true,true,true,true,true,true,true,true,true,true,true,true,true,true,true,false,false,false,false,false] rfl rfl (by kernel_rfl) (by decide) (fun K hK => ?_)
            refine goes_ Try.func80 (by kernel_rfl) rfl #[.slice Am pm.length cm] (by rfl) rfl rfl (by simp only [List.map_toArray,List.map_cons,List.map_nil];rfl) ?_
            with_reducible refine (clone2_calls Am cm pm _ (Kd.R_mono (Kd.R_below HRm.out HBB.out) (fun _ _ => trivial)) (by have := HP5.out;(try simp only at this);omega)).mono ?_
            rintro e w3 ⟨v48,rfl,ho,hown,hb⟩
            refine ⟨_,rfl,?_⟩
            have O48 := Aside0.mk ho
            have W48 := Aside0.mk (show ∀ k_,v48.ownBlock = some k_ → wr.heap.size ≤ k_ from fun k_ hk => Nat.le_trans HBB.out.size (hown k_ hk))
            have m0_ := Aside0.mk (Kd.R_below O45.out hb)
            have m1_ := Aside0.mk (Kd.R_below O50.out hb)
            have q_ := Aside0.mk (below_step HBB.out hb)
            clear HBB O45 O50
            have O45 := m0_
            have O50 := m1_
            have HBB := q_
            clear q_ m0_ m1_
            clear ho hown hb
            refine hK.out _ _ ⟨((HBB.out.cell (World.block_lt_of_cell? wr _ HS.out.1)).trans HS.out.1),((HBB.out.cell (World.block_lt_of_cell? wr _ HS.out.2.1)).trans HS.out.2.1),((HBB.out.cell (World.block_lt_of_cell? wr _ HS.out.2.2.1)).trans HS.out.2.2.1),((HBB.out.cell (World.block_lt_of_cell? wr _ HS.out.2.2.2.1)).trans HS.out.2.2.2.1),((HBB.out.cell (World.block_lt_of_cell? wr _ HS.out.2.2.2.2)).trans HS.out.2.2.2.2)⟩ (fun hHeld => ?_)
            clear hK K
            refine norm_ (a' := ?_) ?_ ?_
            rotate_left
            ·show Act.put _ (some 48) _ = _
             simp only [Act.put,List.setIfInBounds_toArray,List.set_cons_zero,List.set_cons_succ,i64_w,i32_w]
             rfl
            exact norm_ (by simp only [putAll,Act.put,List.setIfInBounds_toArray,List.set_cons_zero,List.set_cons_succ]) (hCont (v45,v48,v50) _ ⟨⟨((HBB.out.cell (World.block_lt_of_cell? wr _ HS.out.1)).trans HS.out.1),((HBB.out.cell (World.block_lt_of_cell? wr _ HS.out.2.1)).trans HS.out.2.1),((HBB.out.cell (World.block_lt_of_cell? wr _ HS.out.2.2.1)).trans HS.out.2.2.1),((HBB.out.cell (World.block_lt_of_cell? wr _ HS.out.2.2.2.1)).trans HS.out.2.2.2.1),((HBB.out.cell (World.block_lt_of_cell? wr _ HS.out.2.2.2.2)).trans HS.out.2.2.2.2)⟩,O45.out,O48.out,W48.out,O50.out,HBB.out⟩)
          ·skip
           refine Kd.R_lit_step dM 0 22 (by rfl) (N := 50) rfl (xs := [mix]) (inner := [.slice (some ⟨gx,0,none⟩) mix.length cx]) (ok := fun _ => True) (okp := fun _ => True) (by first | (go_simp;done) | (go_simp;rfl)) (Reps.one (show Kd.M dM _ _ _ mix _ from ⟨_,rfl,Kd.R_below HMX.out HBB.out⟩) (Reps.none _ _)) (fun _ hk => hk) trivial (Below.refl 0 _) (Nat.zero_le _) (by simp) ?_
           intro v50 w3 ho hb0 hg_ hnew_
           have hb := below_grew (Below.refl _ _) hg_ (fun _ e_ => by cases e_)
           have O50 := Aside0.mk ho
           have q_ := Aside0.mk (below_step HBB.out hb)
           clear HBB
           have HBB := q_
           clear q_
           clear ho hb0 hg_ hnew_ hb
           refine hK.out _ _ ⟨((HBB.out.cell (World.block_lt_of_cell? wr _ HS.out.1)).trans HS.out.1),((HBB.out.cell (World.block_lt_of_cell? wr _ HS.out.2.1)).trans HS.out.2.1),((HBB.out.cell (World.block_lt_of_cell? wr _ HS.out.2.2.1)).trans HS.out.2.2.1),((HBB.out.cell (World.block_lt_of_cell? wr _ HS.out.2.2.2.1)).trans HS.out.2.2.2.1),((HBB.out.cell (World.block_lt_of_cell? wr _ HS.out.2.2.2.2)).trans HS.out.2.2.2.2)⟩ (fun hHeld => ?_)
           clear hK K
           refine norm_ (a' := ?_) ?_ ?_
           rotate_left
           ·show Act.put _ (some 50) _ = _
            simp only [Act.put,List.setIfInBounds_toArray,List.set_cons_zero,List.set_cons_succ,i64_w,i32_w]
            rfl
           refine one_ (i := 9) (N := some 45) #[true,true,true,true,true,true,true,true,true,true,true,true,false,true,true,false,false,false,false,false] rfl rfl (by kernel_rfl) (by decide) (fun K hK => ?_)
           refine goes_ Try.func42 (by kernel_rfl) rfl #[.agg #[.slice Ap pl.length cp, .int .i64 pu], .int .i64 (rd mix 0), .int .i64 (rd mix 1)] (by rfl) rfl rfl (by simp only [List.map_toArray,List.map_cons,List.map_nil];rfl) ?_
           with_reducible refine (impl_mix.calls k _ _ pl pu (rd mix 0) (rd mix 1) q1 q2 _ (Kd.R_reads' (Kd.R_below HRp.out HBB.out)).2.2 (Kd.R_reads' HRp.out).2.1 HQ.out).mono ?_
           rintro e w3 ⟨v45,rfl,hq,hb⟩
           refine ⟨_,rfl,?_⟩
           have O45 := Aside0.mk (Kd.R_lower hq (Nat.zero_le _))
           have m0_ := Aside0.mk (Kd.R_below O50.out hb)
           have q_ := Aside0.mk (below_step HBB.out hb)
           clear HBB O50
           have O50 := m0_
           have HBB := q_
           clear q_ m0_
           clear hq hb
           refine hK.out _ _ ⟨((HBB.out.cell (World.block_lt_of_cell? wr _ HS.out.1)).trans HS.out.1),((HBB.out.cell (World.block_lt_of_cell? wr _ HS.out.2.1)).trans HS.out.2.1),((HBB.out.cell (World.block_lt_of_cell? wr _ HS.out.2.2.1)).trans HS.out.2.2.1),((HBB.out.cell (World.block_lt_of_cell? wr _ HS.out.2.2.2.1)).trans HS.out.2.2.2.1),((HBB.out.cell (World.block_lt_of_cell? wr _ HS.out.2.2.2.2)).trans HS.out.2.2.2.2)⟩ (fun hHeld => ?_)
           clear hK K
           refine norm_ (a' := ?_) ?_ ?_
           rotate_left
           ·show Act.put _ (some 45) _ = _
            simp only [Act.put,List.setIfInBounds_toArray,List.set_cons_zero,List.set_cons_succ,i64_w,i32_w]
            rfl
           refine one_ (i := 12) (N := some 48) #[true,true,true,true,true,true,true,true,true,true,true,true,true,true,true,false,false,false,false,false] rfl rfl (by kernel_rfl) (by decide) (fun K hK => ?_)
           refine goes_ Try.func80 (by kernel_rfl) rfl #[.slice Am pm.length cm] (by rfl) rfl rfl (by simp only [List.map_toArray,List.map_cons,List.map_nil];rfl) ?_
           with_reducible refine (clone2_calls Am cm pm _ (Kd.R_mono (Kd.R_below HRm.out HBB.out) (fun _ _ => trivial)) (by have := HP5.out;(try simp only at this);omega)).mono ?_
           rintro e w3 ⟨v48,rfl,ho,hown,hb⟩
           refine ⟨_,rfl,?_⟩
           have O48 := Aside0.mk ho
           have W48 := Aside0.mk (show ∀ k_,v48.ownBlock = some k_ → wr.heap.size ≤ k_ from fun k_ hk => Nat.le_trans HBB.out.size (hown k_ hk))
           have m0_ := Aside0.mk (Kd.R_below O45.out hb)
           have m1_ := Aside0.mk (Kd.R_below O50.out hb)
           have q_ := Aside0.mk (below_step HBB.out hb)
           clear HBB O45 O50
           have O45 := m0_
           have O50 := m1_
           have HBB := q_
           clear q_ m0_ m1_
           clear ho hown hb
           refine hK.out _ _ ⟨((HBB.out.cell (World.block_lt_of_cell? wr _ HS.out.1)).trans HS.out.1),((HBB.out.cell (World.block_lt_of_cell? wr _ HS.out.2.1)).trans HS.out.2.1),((HBB.out.cell (World.block_lt_of_cell? wr _ HS.out.2.2.1)).trans HS.out.2.2.1),((HBB.out.cell (World.block_lt_of_cell? wr _ HS.out.2.2.2.1)).trans HS.out.2.2.2.1),((HBB.out.cell (World.block_lt_of_cell? wr _ HS.out.2.2.2.2)).trans HS.out.2.2.2.2)⟩ (fun hHeld => ?_)
           clear hK K
           refine norm_ (a' := ?_) ?_ ?_
           rotate_left
           ·show Act.put _ (some 48) _ = _
            simp only [Act.put,List.setIfInBounds_toArray,List.set_cons_zero,List.set_cons_succ,i64_w,i32_w]
            rfl
           exact norm_ (by simp only [putAll,Act.put,List.setIfInBounds_toArray,List.set_cons_zero,List.set_cons_succ]) (hCont (v45,v48,v50) _ ⟨⟨((HBB.out.cell (World.block_lt_of_cell? wr _ HS.out.1)).trans HS.out.1),((HBB.out.cell (World.block_lt_of_cell? wr _ HS.out.2.1)).trans HS.out.2.1),((HBB.out.cell (World.block_lt_of_cell? wr _ HS.out.2.2.1)).trans HS.out.2.2.1),((HBB.out.cell (World.block_lt_of_cell? wr _ HS.out.2.2.2.1)).trans HS.out.2.2.2.1),((HBB.out.cell (World.block_lt_of_cell? wr _ HS.out.2.2.2.2)).trans HS.out.2.2.2.2)⟩,O45.out,O48.out,W48.out,O50.out,HBB.out⟩)
         rintro ⟨v45,v48,v50⟩ w4 ⟨hHeld,o45,o48,o48w,o50,hbb⟩
         clear HBB
         have HBB := Aside0.mk hbb
         have O45 := Aside0.mk o45
         have O48 := Aside0.mk o48
         have W48 := Aside0.mk o48w
         have O50 := Aside0.mk o50
         clear o45 o48 o48w o50 hbb
         obtain ⟨A45,c45,e45⟩ := Kd.R_slice O45.out
         subst e45
         obtain ⟨A50,c50,e50⟩ := Kd.R_slice O50.out
         subst e50
         refine norm_ (a' := ?_) ?_ ?_
         rotate_left
         ·simp only [putAll,Act.put,List.setIfInBounds_toArray,List.set_cons_zero,List.set_cons_succ]
          rfl
         refine one_ (i := 15) (N := some 51) #[true,true,true,true,true,true,true,true,true,true,true,true,true,true,true,true,false,false,false,false] rfl rfl (by kernel_rfl) (by decide) (fun K hK => ?_)
         refine Kd.R_append_rows_step dM (Rr := fun x cs => dM.M w4 0 (fun k_ => True ∧ some k_ ≠ (Value.slice A50 [mix].length c50).ownBlock) x cs) (w0 := w) 0 (by rfl) (.tmp 48) (.tmp 50) 26 22 (.slice none 0 0) 24 rfl Try.underlying26 info22 rfl (by decide) (by omega) v48 pm [mix] _ _ _ (fun _ => True) (fun k_ => True ∧ some k_ ≠ v48.ownBlock) rfl rfl O48.out (R_rows O50.out) (fun x cs h_ => dM.M_mono (fun k_ q_ => ⟨trivial,q_.2⟩) (M_apart' h_ (Kd.R_typed O48.out) (by decide))) (fun _ h_ => h_) (fun _ _ => trivial) (below_zero (below_step HB.out HBB.out)) (Nat.zero_le _) (by have := HP5.out;(try simp only at this);simp only [List.length_singleton];omega) ?_
         intro v51 w10 ho hb0 hg hat
         obtain ⟨y51,hy51⟩ : ∃ y_,y_ = pm ++ [mix] := ⟨_,rfl⟩
         rw [← hy51] at ho
         have Y51 := Aside0.mk hy51
         have O51 := Aside0.mk ho
         have q_ := Aside0.mk (below_grew HBB.out hg W48.out)
         have m_ := Aside0.mk (Kd.R_over' O45.out (Kd.R_typed O48.out) (by decide) hg)
         clear hy51 ho hb0 hg hat O48 O45 O50 HBB
         have HBB := q_
         have O45 := m_
         clear q_ m_
         obtain ⟨A51,c51,e51⟩ := Kd.R_slice O51.out
         subst e51
         refine hK.out _ _ ⟨((HBB.out.cell (World.block_lt_of_cell? wr _ HS.out.1)).trans HS.out.1),((HBB.out.cell (World.block_lt_of_cell? wr _ HS.out.2.1)).trans HS.out.2.1),((HBB.out.cell (World.block_lt_of_cell? wr _ HS.out.2.2.1)).trans HS.out.2.2.1),((HBB.out.cell (World.block_lt_of_cell? wr _ HS.out.2.2.2.1)).trans HS.out.2.2.2.1),((HBB.out.cell (World.block_lt_of_cell? wr _ HS.out.2.2.2.2)).trans HS.out.2.2.2.2)⟩ (fun hHeld => ?_)
         clear hK K
         refine norm_ (a' := ?_) ?_ ?_
         rotate_left
         ·show Act.put _ (some 51) _ = _
          simp only [Act.put,List.setIfInBounds_toArray,List.set_cons_zero,List.set_cons_succ,i64_w,i32_w]
          rfl
         refine pure_ (i := 16) (N := some 52) (v := ?_) (a' := ?_) #[true,true,true,true,true,true,true,true,true,true,true,true,true,true,true,true,true,false,false,false] rfl rfl (by kernel_rfl) (fun _ _ _ h => h) (Or.inl ⟨by rfl,?_⟩) ?_ ?_
         rotate_left
         ·intro w'
          go_simp
          with_reducible rfl
         rotate_left
         ·simp only [Act.put,List.setIfInBounds_toArray,List.set_cons_zero,List.set_cons_succ,i64_w,i32_w]
          rfl
         refine one_ (i := 17) (N := some 53) #[true,true,true,true,true,true,true,true,true,true,true,true,true,true,true,true,true,true,false,false] rfl rfl (by kernel_rfl) (by decide) (fun K hK => ?_)
         refine Kd.R_lit_step dP 0 70 (by rfl) (N := 53) rfl (xs := ([((q1,q2),y51)] : List Pl)) (inner := [.slice A45 q1.length c45, .int .i64 q2, .slice A51 y51.length c51]) (ok := fun _ => True) (okp := fun _ => True) (by first | (go_simp;done) | (go_simp;rfl)) (Reps.c3 (show Kd.M dP _ _ _ ((q1,q2),y51) _ from ⟨[_,_],[_],rfl,⟨[_],[_],rfl,⟨_,rfl,O45.out⟩,rfl⟩,⟨_,rfl,O51.out⟩⟩) (Reps.none _ _)) (fun _ hk => hk) trivial (Below.refl 0 _) (Nat.zero_le _) (by simp) ?_
         intro v53 w11 ho hb0 hg_ hnew_
         have hb := below_grew (Below.refl _ _) hg_ (fun _ e_ => by cases e_)
         have O53 := Aside0.mk ho
         have W53 := Aside0.mk (show ∀ k_,v53.ownBlock = some k_ → wr.heap.size ≤ k_ from fun k_ hk => by obtain ⟨b_,e1_,e2_⟩ := hnew_;rw [e1_] at hk;cases hk;exact Nat.le_trans HBB.out.size e2_)
         have q_ := Aside0.mk (below_step HBB.out hb)
         clear HBB
         have HBB := q_
         clear q_
         clear ho hb0 hg_ hnew_ hb O45 O51
         obtain ⟨A53,c53,e53⟩ := Kd.R_slice O53.out
         subst e53
         refine hK.out _ _ ⟨((HBB.out.cell (World.block_lt_of_cell? wr _ HS.out.1)).trans HS.out.1),((HBB.out.cell (World.block_lt_of_cell? wr _ HS.out.2.1)).trans HS.out.2.1),((HBB.out.cell (World.block_lt_of_cell? wr _ HS.out.2.2.1)).trans HS.out.2.2.1),((HBB.out.cell (World.block_lt_of_cell? wr _ HS.out.2.2.2.1)).trans HS.out.2.2.2.1),((HBB.out.cell (World.block_lt_of_cell? wr _ HS.out.2.2.2.2)).trans HS.out.2.2.2.2)⟩ (fun hHeld => ?_)
         clear hK K
         refine norm_ (a' := ?_) ?_ ?_
         rotate_left
         ·show Act.put _ (some 53) _ = _
          simp only [Act.put,List.setIfInBounds_toArray,List.set_cons_zero,List.set_cons_succ,i64_w,i32_w]
          rfl
         refine last_ (i := 18) (N := some 54) #[true,true,true,true,true,true,true,true,true,true,true,true,true,true,true,true,true,true,true,false] rfl rfl (by kernel_rfl) (by decide) (fun K hK => ?_)
         refine Kd.R_append_rows_step dP (Rr := fun x cs => dP.M w11 0 (fun k_ => True ∧ some k_ ≠ (u7 : Value).ownBlock) x cs) (w0 := w) 0 (by rfl) (.tmp 36) (.tmp 53) 77 70 zero70 56 rfl Try.underlying77 infoP rfl (by decide) (by omega) u7 nx2 [((q1,q2),y51)] _ _ _ (fun _ => True) (fun k_ => True ∧ some k_ ≠ (u7 : Value).ownBlock) rfl rfl (Kd.R_below HN.out HBB.out) (R_rows_apart O53.out (Kd.R_typed (Kd.R_below HN.out HBB.out)) (by decide)) (fun x cs h_ => h_) (fun _ h_ => h_) (fun _ _ => trivial) (below_zero (below_step HB.out HBB.out)) (Nat.zero_le _) (by have := HNX.out;simp only [List.length_singleton];omega) ?_
         intro v54 w12 ho hb0 hg hat
         have n0_ := Aside0.mk (show Kd.R dP 70 w12 0 (fun _ => True) v54 (nx2 ++ [((q1,q2),y51)]) from ho)
         have n1_ := Aside0.mk (at_own HNO.out (Nat.le_trans HW2.out HBB.out.size) hat)
         have n2_ := Aside0.mk (own_away HPN.out (Nat.lt_of_lt_of_le (blk_lt KP.out) HBB.out.size) hat)
         have n3_ := Aside0.mk (Nat.le_trans HW2.out (Nat.le_trans HBB.out.size hg.size))
         have n4_ := Aside0.mk (Kd.R_grown (Kd.R_below HV2.out HBB.out) hg (fun k_ h_ e_ => by have := HNO.out k_ e_.symm;omega))
         have n5_ := Aside0.mk (Kd.R_grown (Kd.R_below HO2.out HBB.out) hg (fun k_ h_ e_ => by have := HNO.out k_ e_.symm;omega))
         have n8_ := Aside0.mk (Kd.R_grown (Kd.R_below HRp.out HBB.out) hg (fun k_ h_ e_ => by have := HNO.out k_ e_.symm;omega))
         have n9_ := Aside0.mk (Kd.R_grown (Kd.R_below HRm.out HBB.out) hg (fun k_ h_ e_ => by have := HNO.out k_ e_.symm;omega))
         have n6_ := Aside0.mk (blk_grown (blk_below BK.out HBB.out) hg (fun e_ => by have h1_ := HNO.out gb e_.symm;have h2_ := HGB.out;omega))
         have n7_ := Aside0.mk (blk_grown (blk_below KP.out HBB.out) hg (fun e_ => HPN.out gp e_.symm rfl))
         have n10_ := Aside0.mk (Kd.R_over' (Kd.R_below HPS.out HBB.out) (Kd.R_typed (Kd.R_below HN.out HBB.out)) (by decide) hg)
         have n11_ := Aside0.mk (below_grew (below_step HB.out HBB.out) hg (fun k_ e_ => Nat.le_trans HW.out (HNO.out k_ e_)))
         clear ho hb0 hg hat HN HNO HPN HW2 HV2 HO2 BK KP HRp HRm HPS HB HBB O53 W53 HS
         refine hK.out _ _ ?_
         clear hK K
         refine norm_ (a' := ?_) ?_ ?_
         rotate_left
         ·show Act.put _ (some 54) _ = _
          simp only [Act.put,List.setIfInBounds_toArray,List.set_cons_zero,List.set_cons_succ,i64_w,i32_w]
          rfl
         refine pure_ (i := 19) (N := some 7) (v := ?_) (a' := ?_) #[true,true,true,true,true,true,true,true,true,true,true,true,true,true,true,true,true,true,true,true] rfl rfl (by kernel_rfl) (fun _ _ _ h => h) (Or.inl ⟨by rfl,?_⟩) ?_ ?_
         rotate_left
         ·intro w'
          go_simp
          with_reducible rfl
         rotate_left
         ·simp only [Act.put,List.setIfInBounds_toArray,List.set_cons_zero,List.set_cons_succ,i64_w,i32_w]
          rfl
         refine done_ (by kernel_rfl) ?_

         go_wp2
         go_roundg (LP - (j + 1))
         case measure => have := HK2.out;have := HJL.out;omega
         case rel =>
          have h1 := Hj.out;have h2 := HLP.out;have h3 := HC.out;have h4 := HJL.out
          exact ⟨j + 1,_,up_one (by omega),⟨by omega⟩,⟨by omega⟩,⟨by rw [Y51.out];exact HMA.out⟩,⟨by rw [List.length_append,List.length_singleton];have h5 := HNL2.out;omega⟩,⟨fun x hx => by
           rcases List.mem_append.1 hx with hx | hx
           ·exact HN5.out x hx
           ·simp only [List.mem_singleton] at hx
            subst hx
            have h5 := HP5.out
            try simp only at h5
            show y51.length + m ≤ 5
            rw [Y51.out,List.length_append,List.length_singleton];omega⟩,n0_,n1_,n2_,n3_,n4_,n5_,n6_,n7_,n8_,n9_,n10_,n11_⟩
        ·rw [if_neg hm1] at hma;cases hma
       ·have hjb : decide ((j : Int) < (LP : Int)) = false := decide_eq_false (by omega)
        have e2 : nx2 = nxp := by
         have := HMA.out
         rw [List.drop_of_length_le (by have := HLP.out;omega)] at this
         exact Option.some.inj this
        subst e2
        go_wp2
        go_roundg (L - (i2 + 1))
        case measure => have := HK1.out;have := HIL.out;omega
        case rel =>
         have h1 := HIL.out;have h2 := HLM.out;have h3 := HLN.out
         exact ⟨i2 + 1,_,up_one (by omega),⟨by omega⟩,⟨by omega⟩,HU,⟨by have h4 := HNL2.out;have h5 := Hj.out;have h6 := HLP.out;rw [Nat.succ_mul];omega⟩,HN5,HN,HNO,HW2,HV2,HO2,BK,HB⟩
     ·have hib : decide ((i2 : Int) < (L : Int)) = false := decide_eq_false (by omega)
      have e2 : nx = nxE := by
       have := HU.out
       rw [List.drop_of_length_le (by have := HLN.out;omega)] at this
       exact Option.some.inj this
      subst e2
      obtain ⟨A7,c7,e7⟩ := Kd.R_slice HN.out
      subst e7
      go_wp2_with (first | ((with_reducible refine gate_builtin (b := .append) (xs := #[.tmp 58, .tmp 60]) rfl ?_);at_builtin;refine Kd.R_append dV (w0 := w) 0 rfl (.tmp 58) (.tmp 60) 75 77 (.slice none 0 0) 24 rfl Try.underlying75 infoLP rfl (by decide) (by omega) u6 outs nx [.slice A7 nx.length c7] (fun _ => True) (fun k_ => True ∧ some k_ ≠ (u6 : Value).ownBlock) rfl rfl ?aM ?aP ?aF ?aO ?aB ?aS ?aL ?_;(case aM => exact ⟨_,rfl,Kd.R_apart' HN.out (Kd.R_typed HO2.out) (by decide)⟩);(case aP => exact fun _ h_ => h_);(case aF => exact fun _ _ => trivial);(case aO => exact Kd.R_mono HO2.out (fun _ _ => trivial));(case aB => exact below_zero HB.out);(case aS => exact Nat.zero_le _);(case aL => have := HO6.out;omega);intro v61 w5 ho hb hg hat;have n0_ := Aside0.mk ho;have n1_ := Aside0.mk (at_own HON.out HB.out.size hat);have n2_ := Aside0.mk (Kd.R_over' HN.out (Kd.R_typed HO2.out) (by decide) hg);have n3_ := Aside0.mk (blk_grown BK.out hg (Kd.R_ne HO2.out BK.out (by decide)));have n4_ := Aside0.mk (below_grew HB.out hg HON.out);clear ho hb hg hat HN HO2 BK HB))
      go_roundg m
      case measure => have := HM.out;omega
      case rel =>
       have h1 := HIM.out;have h2 := HM.out;have h3 := HC.out
       exact ⟨i + 1,m,nx,outs ++ [nx],up_one (by omega),⟨by omega⟩,⟨Nat.le_refl _⟩,H,⟨by
        have h4 := HL.out;have h5 := HNL.out;have h6 := HLN.out;have h7 := Hi.out
        rw [Nat.pow_succ] at h4
        have h8 : i2 * ms.length ≤ lev.length * 6 := Nat.mul_le_mul (by omega) h3.2.2
        calc nx.length * 6 ^ m ≤ (lev.length * 6) * 6 ^ m := Nat.mul_le_mul_right _ (Nat.le_trans h5 h8)
         _ = lev.length * (6 ^ m * 6) := by rw [Nat.mul_assoc,Nat.mul_comm 6]
         _ ≤ 7776 := h4⟩,HN5,⟨by rw [List.length_append,List.length_singleton];have h4 := HO6.out;omega⟩,n2_,n0_,n1_,n3_,n4_⟩
 ·rw [if_neg hc] at h;cases h
theorem mixAll_mono (k : Nat) (p : Pl) : ∀ ms acc,LeO (mixAll k p ms acc) (mixAll (k + 1) p ms acc)
 | [],_ => LeO.refl _
 | m :: ms,acc => by
  unfold mixAll
  exact LeO.ite (LeO.bind (impl_mix.mono _ _ _ _ _) (fun _ => mixAll_mono k p ms _)) (LeO.refl _)
theorem levelUp_mono (k : Nat) (ms : List (List Int)) : ∀ ps acc,LeO (levelUp k ms ps acc) (levelUp (k + 1) ms ps acc)
 | [],_ => LeO.refl _
 | p :: ps,acc => by
  unfold levelUp
  exact LeO.bind (mixAll_mono k p ms acc) (fun _ => levelUp_mono k ms ps _)
theorem levels_mono (k : Nat) (ms : List (List Int)) : ∀ d lev out,LeO (levels k ms d lev out) (levels (k + 1) ms d lev out)
 | 0,_,_ => LeO.refl _
 | d + 1,lev,out => by
  unfold levels
  exact LeO.bind (levelUp_mono k ms lev []) (fun _ => levels_mono k ms d _ _)
theorem impl_rounds.mono : ∀ l u most k,LeO (impl_rounds.f k l u most) (impl_rounds.f (k + 1) l u most) := fun l u most k => by
 unfold impl_rounds.f
 exact LeO.bind (impl_mixesOf.mono _ _) (fun _ => LeO.ite (levels_mono _ _ _ _ _) (LeO.refl _))

end Go.Proofs.Ytmkpngmdikbbeaa.P
