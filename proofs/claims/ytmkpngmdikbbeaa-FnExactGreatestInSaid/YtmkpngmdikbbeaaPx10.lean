/- Written by a program of this workplace (own_print.py, over the kit's print) for the functions that the statements reach, with contracts of its own. Lean checks it. -/
import Derived.Test.YtmkpngmdikbbeaaPx0
import Derived.Test.YtmkpngmdikbbeaaPx2
import Derived.Test.YtmkpngmdikbbeaaPx4
namespace Go.Proofs.Ytmkpngmdikbbeaa.P
open Go.RowKit Go.Proofs.YtmkpngmdikbbeaaW.PrintWords Go.Proofs.YtmkpngmdikbbeaaW.PrintLast Go.Proofs.YtmkpngmdikbbeaaW.PrintMore
attribute [local go_sem] max2_int min2_int max_two min_two max_three min_three max_four min_four   -- for this text's walks alone
set_option linter.unusedVariables false
set_option linter.unusedSimpArgs false

/-! ### spec_cuLists: function 66 -/
abbrev dM : Kd (List Int) := Kd.slice 3 (Kd.int .i64)
abbrev dL : Kd (List (List Int)) := Kd.slice 22 dM
/-- Each list,with each mix behind it. -/
def longer (ps : List (List Int)) (out : List (List (List Int))) : List (List (List Int)) := out.flatMap fun l => ps.map fun p => l ++ [p]
def longest (ps : List (List Int)) : Nat → List (List (List Int)) → List (List (List Int))
 | 0,o => o
 | m + 1,o => longest ps m (longer ps o)
def spec_cuLists.f (k : Nat) (a0 a1 : Int) : Option (List (List (List Int))) := (spec_cuPairs.f k a0).bind fun ps => if 0 ≤ a1 ∧ a1 ≤ 5 ∧ ps.length ≤ 6 then some (longest ps a1.toNat [[]]) else none
theorem spec_cuLists.mono : ∀ a0 a1 k,LeO (spec_cuLists.f k a0 a1) (spec_cuLists.f (k + 1) a0 a1) := fun a0 a1 k => by
 unfold spec_cuLists.f
 exact LeO.bind (spec_cuPairs.mono _ _) (fun _ => LeO.refl _)
theorem longer_len (ps : List (List Int)) (out : List (List (List Int))) : (longer ps out).length = out.length * ps.length := by
 induction out with
 | nil => simp [longer]
 | cons l out ih => unfold longer at ih ⊢;rw [List.flatMap_cons,List.length_append,ih,List.length_map,List.length_cons,Nat.succ_mul];omega
/-- Behind an append: what lay below stays,if the row that it wrote was made since. -/
theorem below_grew {w W W1 : World} {row : Option Nat} (h : Below w.heap.size w W) (hg : W.grownBy W1 row) (hr : ∀ k,row = some k → w.heap.size ≤ k) : Below w.heap.size w W1 where
 os := hg.os.trans h.os
 tape := hg.tape.trans h.tape
 output := hg.output.trans h.output
 size := Nat.le_trans h.size hg.size
 block := fun k hk => (hg.block k (Nat.lt_of_lt_of_le hk h.size) (fun e => by have := hr k e.symm;omega)).trans (h.block k hk)
theorem R_rows {α : Type} {d : Kd α} {e : Nat} {W : World} {base : Nat} {ok : Nat → Prop} {A : Option Addr} {n c : Nat} {xs : List α} (h : Kd.R d e W base ok (.slice A n c) xs) : ReadsRow (fun x cs => d.M W base (fun k => ok k ∧ some k ≠ (Value.slice A n c).ownBlock) x cs) d.sz W A n xs := by
 obtain ⟨A',c',he,_,hr⟩ := OwnRow.reads h.2
 injection he with h1 h2 h3
 subst h1 h2 h3
 exact hr
theorem longer_one (ps : List (List Int)) (outs : List (List (List Int))) (i : Nat) (hi : i < outs.length) : longer ps (outs.take (i + 1)) = longer ps (outs.take i) ++ ps.map fun p => outs[i] ++ [p] := by
 rw [List.take_succ_eq_append_getElem hi];unfold longer;rw [List.flatMap_append];simp
theorem up_one {i : Nat} (h : i ≤ 1000000) : Value.int .i64 (wrap64 ((i : Int) + 1)) = .int .i64 ((i + 1 : Nat) : Int) := by
 have e : wrap64 ((i : Int) + 1) = (i : Int) + 1 := by unfold wrap64;omega
 rw [e];rfl
theorem back_one {m : Nat} (h : m ≤ 1000000) : Value.int .i64 (wrap64 (((m + 1 : Nat) : Int) - 1)) = .int .i64 (m : Int) := by
 have e : wrap64 (((m + 1 : Nat) : Int) - 1) = (m : Int) := by unfold wrap64;omega
 rw [e]
theorem same_one {m : Nat} (h : m ≤ 1000000) : Value.int .i64 (wrap64 (m : Int)) = .int .i64 (m : Int) := by
 have e : wrap64 (m : Int) = (m : Int) := by unfold wrap64;omega
 rw [e]
theorem at_own {v v1 : Value} {n m : Nat} (hv : ∀ k,v.ownBlock = some k → n ≤ k) (hm : n ≤ m) (hat : v1.ownBlock = v.ownBlock ∨ ∃ b,v1.ownBlock = some b ∧ m ≤ b) : ∀ k,v1.ownBlock = some k → n ≤ k := fun k hk => by
 rcases hat with h | ⟨b,h,hb⟩
 ·exact hv k (h ▸ hk)
 ·rw [h] at hk;cases hk;omega
set_option maxHeartbeats 4000000 in
set_option maxRecDepth 100000 in
theorem spec_cuLists.calls (k : Nat) (a0 a1 : Int) (r : List (List (List Int))) (w : World) (h : spec_cuLists.f k a0 a1 = some r) :
  Calls Try.prog 66 #[.int .i64 a0, .int .i64 a1] w fun e w' => ∃ v0_ : Value,e = .returned v0_ ∧ Kd.R dL 26 w' w.heap.size (fun _ => True) v0_ r ∧ Below w.heap.size w w' := by
 obtain ⟨ps,P0,h⟩ := Option.bind_eq_some_iff.mp h
 by_cases hc : 0 ≤ a1 ∧ a1 ≤ 5 ∧ ps.length ≤ 6
 ·rw [if_pos hc] at h
  have H := Aside0.mk (Option.some.inj h)
  have PS := Aside0.mk P0
  have HC := Aside0.mk hc
  have HB := Aside0.mk (Below.refl w.heap.size w)
  clear h P0 hc
  go_enter Try.func66,Try.ntmps66
  go_wp2_with ((with_reducible refine gate_dst (N := 11) rfl ?_);refine Kd.R_lit dL _ 26 ?hg (N := 11) ?hd (xs := ([[]] : List (List (List Int)))) (inner := [.slice none 0 0]) (ok := fun _ => True) (okp := fun _ => False) ?hr ?hp (fun _ hk => hk.elim) trivial (Below.refl _ _) (Nat.le_refl _) (by simp) ?_;(case hd => rfl);(case hg => rfl);(case hr => first | (go_simp;done) | (go_simp;rfl));(case hp => exact (Reps.one (show Kd.M dL _ _ _ [] [.slice none 0 0] from ⟨_,rfl,Kd.R_nil _ _ _ _ _⟩) (Reps.none _ _)));intro v11 w1 ho hb hg_ hnew_;clear hg_ hnew_;have n0_ := Aside0.mk (Kd.R_lower ho HB.out.size);have n1_ := Aside0.mk (below_step HB.out hb);clear HB ho hb;have HO := n0_;have HB := n1_;clear n0_ n1_)
  go_loopg [1,5] 5 (fun kq v1 v5 w' => ∃ (m : Nat) (outs : List (List (List Int))),v1 = .int .i64 (m : Int) ∧ Aside0 (m ≤ kq ∧ m ≤ 5) ∧ Aside0 (longest ps m outs = r) ∧ Aside0 (outs.length * 6 ^ m ≤ 7776) ∧ Aside0 (∀ l ∈ outs,l.length + m ≤ 5) ∧ Aside0 (Kd.R dL 26 w' w.heap.size (fun _ => True) v5 outs) ∧ Aside0 (Below w.heap.size w w'))
  case atStart =>
   have hm : ((a1.toNat : Nat) : Int) = a1 := by have := HC.out;omega
   have hm5 : a1.toNat ≤ 5 := by have := HC.out;omega
   exact ⟨a1.toNat,[[]],by rw [hm],⟨hm5,hm5⟩,H,⟨Nat.le_trans (Nat.mul_le_mul_left _ (Nat.pow_le_pow_right (by omega) hm5)) (by decide)⟩,⟨fun l hl => by simp only [List.mem_singleton] at hl;subst hl;simpa using hm5⟩,HO,HB⟩
  case round =>
   clear H HO HB
   obtain ⟨m,outs,rfl,HM,H,HL,H5,HO,HB⟩ := hrel
   cases m with
   | zero =>
    have c0 : decide (0 < ((0 : Nat) : Int)) = false := by decide
    have E := H.out
    obtain ⟨A5,c5,e5⟩ := Kd.R_slice HO.out
    subst e5
    clear H
    go_wp2
    go_ret
    exact ⟨_,rfl,by rw [← E];exact HO.out,HB.out⟩
   | succ m =>
    have c0 : decide (0 < ((m + 1 : Nat) : Int)) = true := decide_eq_true (by omega)
    obtain ⟨A5,c5,e5⟩ := Kd.R_slice HO.out
    subst e5
    obtain ⟨L,hLL⟩ : ∃ L,outs.length = L := ⟨_,rfl⟩
    have HLN := Aside0.mk hLL
    have hLM : outs.length ≤ 7776 := by have := HL.out;have h6 : 1 ≤ 6 ^ (m + 1) := Nat.pow_pos (by decide);exact Nat.le_trans (Nat.le_mul_of_pos_right _ h6) this
    have HLM := Aside0.mk hLM
    clear hLM
    rw [hLL] at HO ⊢
    clear hLL
    obtain ⟨M0,hM0⟩ : ∃ M0,wr.heap.size = M0 := ⟨_,rfl⟩
    have HO2 := Aside0.mk (Kd.R_mono (Kd.R_bound HO.out) (ok' := fun k_ => k_ < M0) (fun _ hk => by have := hk.2.2.1;omega))
    have HW := Aside0.mk (show w.heap.size ≤ M0 by rw [← hM0];exact HB.out.size)
    have HW2 := Aside0.mk (show M0 ≤ wr.heap.size from Nat.le_of_eq hM0.symm)
    clear HO hM0
    go_wp2
    go_loopg [6,18] L (fun kq v6 v18 w' => ∃ (i : Nat) (nx : List (List (List Int))),v18 = .int .i64 (i : Int) ∧ Aside0 (i ≤ L) ∧ Aside0 (L - i ≤ kq) ∧ Aside0 (nx = longer ps (outs.take i)) ∧ Aside0 (Kd.R dL 26 w' w.heap.size (fun _ => True) v6 nx) ∧ Aside0 (∀ k,v6.ownBlock = some k → M0 ≤ k) ∧ Aside0 (M0 ≤ w'.heap.size) ∧ Aside0 (Kd.R dL 26 w' w.heap.size (fun k_ => k_ < M0) (.slice A5 L c5) outs) ∧ Aside0 (Below w.heap.size w w'))
    case atStart => exact ⟨0,[],rfl,⟨Nat.zero_le _⟩,⟨by omega⟩,⟨by simp [longer]⟩,⟨Kd.R_nil _ _ _ _ _⟩,⟨fun k hk => by simp [Value.ownBlock] at hk⟩,HW2,HO2,HB⟩
    case round =>
     clear HO2 HW2 HB
     obtain ⟨i,nx,rfl,Hi,HK1,HX,HN,HNO,HW2,HO2,HB⟩ := hrel
     by_cases hi : i < L
     ·have hib : decide ((i : Int) < (L : Int)) = true := decide_eq_true (by omega)
      have hib1 : ((i : Int) < (L : Int)) = True := eq_true (by omega)
      have hiL : i < outs.length := by have := HLN.out;omega
      obtain ⟨ad,rfl⟩ : ∃ ad,A5 = some ad := by
       obtain ⟨g,cap,he,_⟩ := Kd.R_form HO2.out (by omega)
       injection he with h1 _ _
       exact ⟨_,h1⟩
      obtain ⟨c,hcl,hM,hcc⟩ := Kd.R_getA HO2.out ([] : List (List Int)) (i : Int) (by omega) (by omega)
      obtain ⟨vl,rfl,hR⟩ := hM
      have hx := hcc 0 vl rfl
      simp only [show (Kd.slice 22 dM).sz = 1 from rfl,Nat.mul_one,Nat.add_zero,Int.toNat_natCast] at hx
      obtain ⟨Al,cl,el⟩ := Kd.R_slice hR
      subst el
      have hl : outs.getD ((i : Int)).toNat [] = outs[i] := by rw [Int.toNat_natCast,List.getD_eq_getElem?_getD,List.getElem?_eq_getElem hiL];rfl
      rw [hl] at hR hx
      obtain ⟨list,hlist⟩ : ∃ l,outs[i] = l := ⟨_,rfl⟩
      rw [hlist] at hR hx
      have HLI := Aside0.mk (show longer ps (outs.take (i + 1)) = nx ++ ps.map fun p => list ++ [p] by rw [longer_one ps outs i hiL,hlist,HX.out])
      have HR := Aside0.mk (Kd.R_mono hR (ok' := fun k_ => k_ < M0) (fun _ hk => hk.1))
      have HIL := Aside0.mk hi
      have HL5 := Aside0.mk (show list.length ≤ 5 by rw [← hlist];have := H5.out _ (List.getElem_mem hiL);omega)
      have HNX := Aside0.mk (show nx.length ≤ 46656 by rw [HX.out,longer_len,List.length_take];have h1 := HLM.out;have h2 := HC.out.2.2;exact Nat.le_trans (Nat.mul_le_mul (show min i outs.length ≤ 7776 by omega) h2) (by decide))
      clear hR hcc hcl hl hlist hi HX hiL
      go_wp2_with fail
      refine (spec_cuPairs.calls k a0 ps _ PS.out).mono ?_
      rintro e w2 ⟨v23,rfl,hs,hb⟩
      have HPS := Aside0.mk (Kd.R_lower (Kd.S_R hs) HB.out.size)
      have n0_ := Aside0.mk (Kd.R_below HN.out hb)
      have n1_ := Aside0.mk (Kd.R_below HO2.out hb)
      have n2_ := Aside0.mk (Kd.R_below HR.out hb)
      have n3_ := Aside0.mk (below_step HB.out hb)
      have n4_ := Aside0.mk (Nat.le_trans HW2.out hb.size)
      clear HN HO2 HR HB HW2 hs hb hx
      have HN := n0_
      have HO2 := n1_
      have HR := n2_
      have HB := n3_
      have HW2 := n4_
      clear n0_ n1_ n2_ n3_ n4_
      obtain ⟨A23,c23,e23⟩ := Kd.R_slice HPS.out
      subst e23
      obtain ⟨LP,hLP⟩ : ∃ LP,ps.length = LP := ⟨_,rfl⟩
      have HLP := Aside0.mk hLP
      rw [hLP] at HPS ⊢
      clear hLP
      go_wp2
      go_loopg [6,25] LP (fun kq v6 v25 w' => ∃ (j : Nat) (nx2 : List (List (List Int))),v25 = .int .i64 (j : Int) ∧ Aside0 (j ≤ LP) ∧ Aside0 (LP - j ≤ kq) ∧ Aside0 (nx2 = nx ++ (ps.take j).map fun p => list ++ [p]) ∧ Aside0 (Kd.R dL 26 w' w.heap.size (fun _ => True) v6 nx2) ∧ Aside0 (∀ k,v6.ownBlock = some k → M0 ≤ k) ∧ Aside0 (M0 ≤ w'.heap.size) ∧ Aside0 (Kd.R dL 26 w' w.heap.size (fun k_ => k_ < M0) (.slice (some ad) L c5) outs) ∧ Aside0 (Kd.R dM 22 w' w.heap.size (fun k_ => k_ < M0) (.slice Al list.length cl) list) ∧ Aside0 (Kd.R dM 22 w' w.heap.size (fun _ => True) (.slice A23 LP c23) ps) ∧ Aside0 (Below w.heap.size w w'))
      case atStart => exact ⟨0,nx,rfl,⟨Nat.zero_le _⟩,⟨by omega⟩,⟨by simp⟩,HN,HNO,HW2,HO2,HR,HPS,HB⟩
      case round =>
       clear HN HNO HW2 HO2 HR HPS HB
       obtain ⟨j,nx2,rfl,Hj,HK2,HX2,HN,HNO,HW2,HO2,HR,HPS,HB⟩ := hrel
       by_cases hj : j < LP
       ·have hjb : decide ((j : Int) < (LP : Int)) = true := decide_eq_true (by omega)
        have hjb1 : ((j : Int) < (LP : Int)) = True := eq_true (by omega)
        have hjL : j < ps.length := by have := HLP.out;omega
        obtain ⟨ad2,rfl⟩ : ∃ ad,A23 = some ad := by
         obtain ⟨g,cap,he,_⟩ := Kd.R_form HPS.out (by omega)
         injection he with h1 _ _
         exact ⟨_,h1⟩
        obtain ⟨c,hcl,hM,hcc⟩ := Kd.R_getA HPS.out ([] : List Int) (j : Int) (by omega) (by omega)
        obtain ⟨vm,rfl,hR⟩ := hM
        have hx := hcc 0 vm rfl
        simp only [show dM.sz = 1 from rfl,Nat.mul_one,Nat.add_zero,Int.toNat_natCast] at hx
        obtain ⟨Am,cm,em⟩ := Kd.R_slice hR
        subst em
        have hl : ps.getD ((j : Int)).toNat [] = ps[j] := by rw [Int.toNat_natCast,List.getD_eq_getElem?_getD,List.getElem?_eq_getElem hjL];rfl
        rw [hl] at hR hx
        obtain ⟨mix,hmix⟩ : ∃ l,ps[j] = l := ⟨_,rfl⟩
        rw [hmix] at hR hx
        have HJL := Aside0.mk hj
        have HPJ := Aside0.mk (show (nx ++ (ps.take (j + 1)).map fun p => list ++ [p]) = nx2 ++ [list ++ [mix]] by rw [List.take_succ_eq_append_getElem hjL,List.map_append, ← List.append_assoc, ← HX2.out,hmix];rfl)
        have HMX := Aside0.mk (Kd.R_mono (Kd.R_bound hR) (ok' := fun k_ => k_ < wr.heap.size) (fun _ hk => hk.2.2.1))
        clear hR hcc hcl hl hmix hj hjL
        have HNX2 := Aside0.mk (show nx2.length ≤ 46700 by rw [HX2.out,List.length_append,List.length_map,List.length_take];have h1 := HNX.out;have h2 := HC.out.2.2;omega)
        go_wp2_with (first | ((with_reducible refine gate_dst (N := 30) rfl ?_);refine Kd.R_lit dM _ 22 ?hg (N := 30) ?hd (xs := ([] : List (List Int))) (inner := []) (ok := fun _ => True) (okp := fun _ => True) ?hr ?hp (fun _ hk => hk) trivial (Below.refl _ _) (Nat.le_refl _) (by simp) ?_;(case hd => rfl);(case hg => rfl);(case hr => first | (go_simp;done) | (go_simp;rfl));(case hp => exact (Reps.none _ _));intro v30 w4 ho hb hg_ hnew_;clear hg_ hnew_;have O30 := Aside0.mk (Kd.R_lower ho HB.out.size);have W30 := Aside0.mk (show ∀ k,v30.ownBlock = some k → wr.heap.size ≤ k from Kd.R_base ho);have B30 := Aside0.mk hb;clear ho hb) | ((with_reducible refine gate_builtin (b := .append) (xs := #[.tmp 30, .tmp 31]) rfl ?_);at_builtin;refine Kd.R_append_rows dM (Rr := fun x cs => dM.M w4 w.heap.size (fun k_ => k_ < M0 ∧ some k_ ≠ (Value.slice Al list.length cl).ownBlock) x cs) (w0 := w) w.heap.size rfl (.tmp 30) (.tmp 31) 26 22 (.slice none 0 0) 24 rfl Try.underlying26 info22 rfl (by decide) (by omega) v30 [] list _ _ _ (fun _ => True) (fun k_ => k_ < wr.heap.size) rfl rfl ?aO ?aR ?aK ?aP ?aF ?aB ?aS ?aL ?_;(case aO => exact O30.out);(case aR => exact R_rows (Kd.R_below HR.out B30.out));(case aK => exact fun x cs h_ => dM.M_mono (fun k_ q_ => by have h1 := q_.1;have h2 := HW2.out;omega) h_);(case aP => exact fun k_ h_ => ⟨trivial,fun e_ => by have := W30.out k_ e_.symm;omega⟩);(case aF => exact fun _ _ => trivial);(case aB => exact below_step HB.out B30.out);(case aS => exact (below_step HB.out B30.out).size);(case aL => have := HL5.out;simp only [List.length_nil];omega);intro v32 w5 ho hb hg hat;have O32 := Aside0.mk (show Kd.R dM 22 w5 w.heap.size (fun _ => True) v32 list from ho);have W32 := Aside0.mk (at_own W30.out B30.out.size hat);have B32 := Aside0.mk (below_grew B30.out hg W30.out);clear ho hb hg hat O30) | ((with_reducible refine gate_builtin (b := .append) (xs := #[.tmp 32, .tmp 34]) rfl ?_);at_builtin;refine Kd.R_append dM (w0 := w) w.heap.size rfl (.tmp 32) (.tmp 34) 26 22 (.slice none 0 0) 24 rfl Try.underlying26 info22 rfl (by decide) (by omega) v32 list mix [.slice Am mix.length cm] (fun _ => True) (fun k_ => k_ < wr.heap.size) rfl rfl ?aM ?aP ?aF ?aO ?aB ?aS ?aL ?_;(case aM => exact ⟨_,rfl,Kd.R_below HMX.out B32.out⟩);(case aP => exact fun k_ h_ => ⟨trivial,fun e_ => by have := W32.out k_ e_.symm;omega⟩);(case aF => exact fun _ _ => trivial);(case aO => exact O32.out);(case aB => exact below_step HB.out B32.out);(case aS => exact (below_step HB.out B32.out).size);(case aL => have := HL5.out;omega);intro v35 w6 ho hb hg hat;obtain ⟨y35,hy35⟩ : ∃ y_,y_ = list ++ [mix] := ⟨_,rfl⟩;rw [← hy35] at ho;have Y35 := Aside0.mk hy35;clear hy35;have O35 := Aside0.mk ho;have W35 := Aside0.mk (at_own W32.out B32.out.size hat);have B35 := Aside0.mk (below_grew B32.out hg W32.out);clear ho hb hg hat O32;obtain ⟨A35,c35,e35⟩ := Kd.R_slice O35.out;subst e35) | ((with_reducible refine gate_builtin (b := .append) (xs := #[.tmp 29, .tmp 36]) rfl ?_);at_builtin;refine Kd.R_append dL (w0 := w) w.heap.size rfl (.tmp 29) (.tmp 36) 72 26 (.slice none 0 0) 24 rfl Try.underlying72 info26 rfl (by decide) (by omega) u6 nx2 y35 [.slice A35 y35.length c35] (fun _ => True) (fun k_ => True ∧ some k_ ≠ (u6 : Value).ownBlock) rfl rfl ?aM ?aP ?aF ?aO ?aB ?aS ?aL ?_;(case aM => exact ⟨_,rfl,Kd.R_apart' O35.out (Kd.R_typed (Kd.R_below HN.out B35.out)) (by decide)⟩);(case aP => exact fun _ h_ => h_);(case aF => exact fun _ _ => trivial);(case aO => exact Kd.R_below HN.out B35.out);(case aB => exact below_step HB.out B35.out);(case aS => exact (below_step HB.out B35.out).size);(case aL => have := HNX2.out;omega);intro v37 w7 ho hb hg hat;rw [Y35.out,HPJ.out.symm] at ho;have n0_ := Aside0.mk ho;have n1_ := Aside0.mk (at_own HNO.out (Nat.le_trans HW2.out B35.out.size) hat);have n2_ := Aside0.mk (Nat.le_trans HW2.out (Nat.le_trans B35.out.size hg.size));have n3_ := Aside0.mk (Kd.R_grown (Kd.R_below HO2.out B35.out) hg (fun k_ h_ e_ => by have := HNO.out k_ e_.symm;omega));have n4_ := Aside0.mk (Kd.R_grown (Kd.R_below HR.out B35.out) hg (fun k_ h_ e_ => by have := HNO.out k_ e_.symm;omega));have n5_ := Aside0.mk (Kd.R_over' (Kd.R_below HPS.out B35.out) (Kd.R_typed (Kd.R_below HN.out B35.out)) (by decide) hg);have n6_ := Aside0.mk (below_grew (below_step HB.out B35.out) hg (fun k_ e_ => Nat.le_trans HW.out (HNO.out k_ e_)));clear ho hb hg hat HN HNO HW2 HO2 HR HPS HB O35 hx))
        go_roundg (LP - (j + 1))
        case measure => have := HK2.out;have := HJL.out;omega
        case rel =>
         have h1 := Hj.out;have h2 := HLP.out;have h3 := HC.out;have h4 := HJL.out
         exact ⟨j + 1,_,up_one (by omega),⟨by omega⟩,⟨by omega⟩,⟨rfl⟩,n0_,n1_,n2_,n3_,n4_,n5_,n6_⟩
       ·have hjb : decide ((j : Int) < (LP : Int)) = false := decide_eq_false (by omega)
        have e2 : nx2 = longer ps (outs.take (i + 1)) := by
         rw [HX2.out,HLI.out,List.take_of_length_le (by have := HLP.out;omega)]
        have E2 := Aside0.mk e2
        clear e2
        go_wp2
        go_roundg (L - (i + 1))
        case measure => have := HK1.out;have := HIL.out;omega
        case rel =>
         have h1 := HIL.out;have h2 := HLM.out;have h3 := HLN.out
         exact ⟨i + 1,_,up_one (by omega),⟨by omega⟩,⟨by omega⟩,E2,HN,HNO,HW2,HO2,HB⟩
     ·have hib : decide ((i : Int) < (L : Int)) = false := decide_eq_false (by omega)
      have e2 : nx = longer ps outs := by rw [HX.out,List.take_of_length_le (by have := HLN.out;omega)]
      subst e2
      obtain ⟨A6,c6,e6⟩ := Kd.R_slice HN.out
      subst e6
      go_wp2
      go_roundg m
      case measure => have := HM.out;omega
      case rel =>
       have hm5 := HM.out
       exact ⟨m,_,by first | exact same_one (by omega) | exact back_one (by omega),⟨Nat.le_refl _,by omega⟩,H,⟨by
        rw [longer_len]
        have h1 := HL.out;have h2 := HC.out.2.2
        rw [Nat.pow_succ] at h1
        calc outs.length * ps.length * 6 ^ m ≤ outs.length * 6 * 6 ^ m := Nat.mul_le_mul_right _ (Nat.mul_le_mul_left _ h2)
         _ = outs.length * (6 ^ m * 6) := by rw [Nat.mul_assoc,Nat.mul_comm 6]
         _ ≤ 7776 := h1⟩,⟨fun l hl => by
        obtain ⟨l0,h1,h2⟩ := List.mem_flatMap.1 hl
        obtain ⟨p,_,rfl⟩ := List.mem_map.1 h2
        have := H5.out l0 h1
        rw [List.length_append,List.length_singleton];omega⟩,HN,HB⟩
 ·rw [if_neg hc] at h;cases h

/-! ### impl_areFew: function 68 -/
def impl_areFew.f (k : Nat) (l0_0 : List Int) (a0_1 : Int) : Option (Bool) := (impl_AreCups.f k l0_0 a0_1).bind fun t456 => (if t456 = true then (if (l0_0.length : Int) ≤ 4 then (some (decide (a0_1 ≤ 1024))) else (some false)) else (some false))
theorem impl_areFew.mono : ∀ a0 a1 k,LeO (impl_areFew.f k a0 a1) (impl_areFew.f (k + 1) a0 a1) := by
 intro a0 a1 k
 unfold impl_areFew.f
 repeat' first
   | (with_reducible exact impl_AreCups.mono _ _ _)
   | (with_reducible exact LeO.refl _)
   | (with_reducible exact LeO.none _)
   | (with_reducible refine LeO.ite ?_ ?_)
   | (with_reducible refine LeO.bind ?_ (fun _ => ?_))
   | exact impl_AreCups.mono _ _ _
   | exact LeO.none _
   | refine LeO.ite ?_ ?_
   | refine LeO.bind ?_ (fun _ => ?_)
set_option maxHeartbeats 8000000 in
set_option maxRecDepth 100000 in
theorem impl_areFew.calls (k : Nat) (A0_0 : Option Addr) (c0_0 : Nat) (l0_0 : List Int) (a0_1 : Int) (r : Bool) (w : World) (hr0_0 : Kd.C (Kd.int .i64) w A0_0 l0_0.length l0_0) (hc0_0 : l0_0.length ≤ c0_0) (h : impl_areFew.f k l0_0 a0_1 = some r) :
  Calls Try.prog 68 #[.agg #[.slice A0_0 l0_0.length c0_0, .int .i64 a0_1]] w fun e w' => e = .returned (.bool r) ∧ Below w.heap.size w w' := by
 have hu29 := Try.underlying29
 have HR0_0 := Aside0.mk hr0_0
 have HC0_0 := Aside0.mk hc0_0
 clear hr0_0 hc0_0
 have HB := Aside0.mk (Below.refl w.heap.size w)
 have H : ((impl_AreCups.f k l0_0 a0_1).bind fun t456 => (if t456 = true then (if (l0_0.length : Int) ≤ 4 then (some (decide (a0_1 ≤ 1024))) else (some false)) else (some false))) = some r := h
 clear h
 replace H := Option.bind_eq_some_iff.mp H
 obtain ⟨t456,A20,H⟩ := H
 replace H : (if t456 = true then (if (l0_0.length : Int) ≤ 4 then (some (decide (a0_1 ≤ 1024))) else (some false)) else (some false)) = some r := H
 have A2 := Aside0.mk A20
 clear A20
 by_cases c3 : t456 = true
 ·subst c3
  have H1 : (if (l0_0.length : Int) ≤ 4 then (some (decide (a0_1 ≤ 1024))) else (some false)) = some r := by rw [if_pos rfl] at H;exact H
  clear H
  have H := H1
  clear H1
  by_cases c4 : (l0_0.length : Int) ≤ 4
  ·rw [if_pos c4] at H
   have c4b0 : decide ((l0_0.length : Int) ≤ 4) = true := decide_eq_true c4
   have c4b1 : decide (l0_0.length ≤ 4) = true := decide_eq_true (by omega)
   clear c4
   obtain rfl := Option.some.inj H
   go_enter Try.func68,Try.ntmps68
   go_wp2_with (first | ((with_reducible refine gate_dst (N := 1) rfl ?_);(try (refine gate_guard (by rfl) ?_;dsimp only));refine box_event ?hg (N := 1) ?hd (cs := #[.slice A0_0 l0_0.length c0_0, .int .i64 a0_1]) (t := 29) ?hr ?_;(case hd => rfl);(case hg => rfl);(case hr => first | (go_simp;done) | (go_simp;rfl));intro gb455 hg w5 hbox hb;have n0_ := Aside0.mk (below_step (by repeat (first | (with_reducible first | exact HB.out | apply below_alloc | apply pw_below_drewN | apply below_drew1) | exact HB.out)) hb);have n1_ := Aside0.mk (hbox);have n2_ := Aside0.mk ((by rw [hg];exact (below_size (by repeat (first | (with_reducible first | exact HB.out | apply below_alloc | apply pw_below_drewN | apply below_drew1) | exact HB.out))) : w.heap.size ≤ gb455));have n3_ := Aside0.mk ((by rw [hg];exact (below_size (by repeat (first | (with_reducible first | exact HB.out | apply below_alloc | apply pw_below_drewN | apply below_drew1) | exact HB.out))) : w.heap.size ≤ gb455));clear HB;have HB := n0_;have BK455 := n1_;have GW455 := n2_;have GE455 := n3_;clear n0_ n1_ n2_ n3_;clear hb hbox hg;have hcz6_0 : w5.cell? ⟨gb455,0,none⟩ = some (.slice A0_0 l0_0.length c0_0) := (blk_cell BK455.out 0).trans rfl;have hcz6_1 : w5.cell? ⟨gb455,1,none⟩ = some (.int .i64 a0_1) := (blk_cell BK455.out 1).trans rfl;have hfz6_0 := blk_frozen BK455.out 0;have hfz6_1 := blk_frozen BK455.out 1) | ((with_reducible refine gate_callee (f := 32) rfl ?_);refine goesL_ (some 4) rfl rfl Try.func32 (by kernel_rfl) rfl #[.agg #[.slice A0_0 l0_0.length c0_0, .int .i64 a0_1]] rfl (by (try simp only [List.map_toArray,List.map_cons,List.map_nil]);first | done | rfl | (simp only [List.length_drop,List.length_take];rfl)) ?_;(with_reducible refine (impl_AreCups.calls k _ _ l0_0 a0_1 true _ ?side1 ?side2 A2.out).mono ?_);(case side1 => repeat (first | exact (Kd.C_below HR0_0.out HB.out) | (with_reducible refine Kd.C_alloc ?_ _) | (with_reducible refine Kd.C_drewN ?_ _) | (with_reducible refine Kd.C_drew ?_)));(case side2 => exact HC0_0.out);rintro e w7 ⟨rfl,hb⟩;refine ⟨_,rfl,?_⟩;have n0_ := Aside0.mk (blk_below (g := gb455) (o := .cells #[.slice A0_0 l0_0.length c0_0, .int .i64 a0_1] 29 (0,0)) (by (with_reducible repeat (first | refine blk_drewN ?_ _ | refine blk_drew ?_ | refine blk_alloc ?_ _));exact BK455.out) hb);have n1_ := Aside0.mk (below_step (by repeat (first | (with_reducible first | exact HB.out | apply below_alloc | apply pw_below_drewN | apply below_drew1 | refine below_set ?_ GE455.out) | exact HB.out)) hb);clear BK455;clear HB;have BK455 := n0_;have HB := n1_;clear n0_ n1_;(try clear hb);(try clear hb2);(try clear hk);(try clear hi);have hcz8_0 : w7.cell? ⟨gb455,0,none⟩ = some (.slice A0_0 l0_0.length c0_0) := (blk_cell BK455.out 0).trans rfl;have hcz8_1 : w7.cell? ⟨gb455,1,none⟩ = some (.int .i64 a0_1) := (blk_cell BK455.out 1).trans rfl;have hfz8_0 := blk_frozen BK455.out 0;have hfz8_1 := blk_frozen BK455.out 1))
   go_ret
   exact ⟨by first | rfl | (simp [errW_none,errW_some] <;> rfl) | (simp [*,errW_none,errW_some] <;> rfl),by repeat (first | (with_reducible first | exact HB.out | apply below_alloc | apply pw_below_drewN | apply below_drew1 | refine below_set ?_ GE455.out) | exact HB.out)⟩
  ·rw [if_neg c4] at H
   have c4b0 : decide ((l0_0.length : Int) ≤ 4) = false := decide_eq_false c4
   have c4b1 : decide (l0_0.length ≤ 4) = false := decide_eq_false (by omega)
   clear c4
   obtain rfl := Option.some.inj H
   go_enter Try.func68,Try.ntmps68
   go_wp2_with (first | ((with_reducible refine gate_dst (N := 1) rfl ?_);(try (refine gate_guard (by rfl) ?_;dsimp only));refine box_event ?hg (N := 1) ?hd (cs := #[.slice A0_0 l0_0.length c0_0, .int .i64 a0_1]) (t := 29) ?hr ?_;(case hd => rfl);(case hg => rfl);(case hr => first | (go_simp;done) | (go_simp;rfl));intro gb455 hg w9 hbox hb;have n0_ := Aside0.mk (below_step (by repeat (first | (with_reducible first | exact HB.out | apply below_alloc | apply pw_below_drewN | apply below_drew1) | exact HB.out)) hb);have n1_ := Aside0.mk (hbox);have n2_ := Aside0.mk ((by rw [hg];exact (below_size (by repeat (first | (with_reducible first | exact HB.out | apply below_alloc | apply pw_below_drewN | apply below_drew1) | exact HB.out))) : w.heap.size ≤ gb455));have n3_ := Aside0.mk ((by rw [hg];exact (below_size (by repeat (first | (with_reducible first | exact HB.out | apply below_alloc | apply pw_below_drewN | apply below_drew1) | exact HB.out))) : w.heap.size ≤ gb455));clear HB;have HB := n0_;have BK455 := n1_;have GW455 := n2_;have GE455 := n3_;clear n0_ n1_ n2_ n3_;clear hb hbox hg;have hcz10_0 : w9.cell? ⟨gb455,0,none⟩ = some (.slice A0_0 l0_0.length c0_0) := (blk_cell BK455.out 0).trans rfl;have hcz10_1 : w9.cell? ⟨gb455,1,none⟩ = some (.int .i64 a0_1) := (blk_cell BK455.out 1).trans rfl;have hfz10_0 := blk_frozen BK455.out 0;have hfz10_1 := blk_frozen BK455.out 1) | ((with_reducible refine gate_callee (f := 32) rfl ?_);refine goesL_ (some 4) rfl rfl Try.func32 (by kernel_rfl) rfl #[.agg #[.slice A0_0 l0_0.length c0_0, .int .i64 a0_1]] rfl (by (try simp only [List.map_toArray,List.map_cons,List.map_nil]);first | done | rfl | (simp only [List.length_drop,List.length_take];rfl)) ?_;(with_reducible refine (impl_AreCups.calls k _ _ l0_0 a0_1 true _ ?side1 ?side2 A2.out).mono ?_);(case side1 => repeat (first | exact (Kd.C_below HR0_0.out HB.out) | (with_reducible refine Kd.C_alloc ?_ _) | (with_reducible refine Kd.C_drewN ?_ _) | (with_reducible refine Kd.C_drew ?_)));(case side2 => exact HC0_0.out);rintro e w11 ⟨rfl,hb⟩;refine ⟨_,rfl,?_⟩;have n0_ := Aside0.mk (blk_below (g := gb455) (o := .cells #[.slice A0_0 l0_0.length c0_0, .int .i64 a0_1] 29 (0,0)) (by (with_reducible repeat (first | refine blk_drewN ?_ _ | refine blk_drew ?_ | refine blk_alloc ?_ _));exact BK455.out) hb);have n1_ := Aside0.mk (below_step (by repeat (first | (with_reducible first | exact HB.out | apply below_alloc | apply pw_below_drewN | apply below_drew1 | refine below_set ?_ GE455.out) | exact HB.out)) hb);clear BK455;clear HB;have BK455 := n0_;have HB := n1_;clear n0_ n1_;(try clear hb);(try clear hb2);(try clear hk);(try clear hi);have hcz12_0 : w11.cell? ⟨gb455,0,none⟩ = some (.slice A0_0 l0_0.length c0_0) := (blk_cell BK455.out 0).trans rfl;have hcz12_1 : w11.cell? ⟨gb455,1,none⟩ = some (.int .i64 a0_1) := (blk_cell BK455.out 1).trans rfl;have hfz12_0 := blk_frozen BK455.out 0;have hfz12_1 := blk_frozen BK455.out 1))
   go_ret
   exact ⟨by first | rfl | (simp [errW_none,errW_some] <;> rfl) | (simp [*,errW_none,errW_some] <;> rfl),by repeat (first | (with_reducible first | exact HB.out | apply below_alloc | apply pw_below_drewN | apply below_drew1 | refine below_set ?_ GE455.out) | exact HB.out)⟩
 ·replace c3 := Bool.eq_false_iff.mpr c3
  subst c3
  have H1 : (some false) = some r := by rw [if_neg (show ¬ (false = true) by decide)] at H;exact H
  clear H
  have H := H1
  clear H1
  obtain rfl := Option.some.inj H
  go_enter Try.func68,Try.ntmps68
  go_wp2_with (first | ((with_reducible refine gate_dst (N := 1) rfl ?_);(try (refine gate_guard (by rfl) ?_;dsimp only));refine box_event ?hg (N := 1) ?hd (cs := #[.slice A0_0 l0_0.length c0_0, .int .i64 a0_1]) (t := 29) ?hr ?_;(case hd => rfl);(case hg => rfl);(case hr => first | (go_simp;done) | (go_simp;rfl));intro gb455 hg w13 hbox hb;have n0_ := Aside0.mk (below_step (by repeat (first | (with_reducible first | exact HB.out | apply below_alloc | apply pw_below_drewN | apply below_drew1) | exact HB.out)) hb);have n1_ := Aside0.mk (hbox);have n2_ := Aside0.mk ((by rw [hg];exact (below_size (by repeat (first | (with_reducible first | exact HB.out | apply below_alloc | apply pw_below_drewN | apply below_drew1) | exact HB.out))) : w.heap.size ≤ gb455));have n3_ := Aside0.mk ((by rw [hg];exact (below_size (by repeat (first | (with_reducible first | exact HB.out | apply below_alloc | apply pw_below_drewN | apply below_drew1) | exact HB.out))) : w.heap.size ≤ gb455));clear HB;have HB := n0_;have BK455 := n1_;have GW455 := n2_;have GE455 := n3_;clear n0_ n1_ n2_ n3_;clear hb hbox hg;have hcz14_0 : w13.cell? ⟨gb455,0,none⟩ = some (.slice A0_0 l0_0.length c0_0) := (blk_cell BK455.out 0).trans rfl;have hcz14_1 : w13.cell? ⟨gb455,1,none⟩ = some (.int .i64 a0_1) := (blk_cell BK455.out 1).trans rfl;have hfz14_0 := blk_frozen BK455.out 0;have hfz14_1 := blk_frozen BK455.out 1) | ((with_reducible refine gate_callee (f := 32) rfl ?_);refine goesL_ (some 4) rfl rfl Try.func32 (by kernel_rfl) rfl #[.agg #[.slice A0_0 l0_0.length c0_0, .int .i64 a0_1]] rfl (by (try simp only [List.map_toArray,List.map_cons,List.map_nil]);first | done | rfl | (simp only [List.length_drop,List.length_take];rfl)) ?_;(with_reducible refine (impl_AreCups.calls k _ _ l0_0 a0_1 false _ ?side1 ?side2 A2.out).mono ?_);(case side1 => repeat (first | exact (Kd.C_below HR0_0.out HB.out) | (with_reducible refine Kd.C_alloc ?_ _) | (with_reducible refine Kd.C_drewN ?_ _) | (with_reducible refine Kd.C_drew ?_)));(case side2 => exact HC0_0.out);rintro e w15 ⟨rfl,hb⟩;refine ⟨_,rfl,?_⟩;have n0_ := Aside0.mk (blk_below (g := gb455) (o := .cells #[.slice A0_0 l0_0.length c0_0, .int .i64 a0_1] 29 (0,0)) (by (with_reducible repeat (first | refine blk_drewN ?_ _ | refine blk_drew ?_ | refine blk_alloc ?_ _));exact BK455.out) hb);have n1_ := Aside0.mk (below_step (by repeat (first | (with_reducible first | exact HB.out | apply below_alloc | apply pw_below_drewN | apply below_drew1 | refine below_set ?_ GE455.out) | exact HB.out)) hb);clear BK455;clear HB;have BK455 := n0_;have HB := n1_;clear n0_ n1_;(try clear hb);(try clear hb2);(try clear hk);(try clear hi)))
  go_ret
  exact ⟨by first | rfl | (simp [errW_none,errW_some] <;> rfl) | (simp [*,errW_none,errW_some] <;> rfl),by repeat (first | (with_reducible first | exact HB.out | apply below_alloc | apply pw_below_drewN | apply below_drew1 | refine below_set ?_ GE455.out) | exact HB.out)⟩

end Go.Proofs.Ytmkpngmdikbbeaa.P
