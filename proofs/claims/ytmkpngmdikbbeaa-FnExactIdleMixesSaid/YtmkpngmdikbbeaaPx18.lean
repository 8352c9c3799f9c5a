/- Written by a program of this workplace (own_print.py, over the kit's print) for the functions that the statements reach, with contracts of its own. Lean checks it. -/
import Derived.Lib.SlBy
import Derived.Lib.SlKept
import Derived.Lib.SliceRun
import Derived.Sort.WalkB12
import Derived.Sort.WalkA
import Derived.Deep.Draws
import Derived.Test.YtmkpngmdikbbeaaPx0
import Derived.Test.YtmkpngmdikbbeaaPx2
import Derived.Test.YtmkpngmdikbbeaaPx4
import Derived.Test.YtmkpngmdikbbeaaPx14
namespace Go.Proofs.Ytmkpngmdikbbeaa.P
open Go.RowKit Go.Proofs.YtmkpngmdikbbeaaW.PrintWords Go.Proofs.YtmkpngmdikbbeaaW.PrintLast Go.Proofs.YtmkpngmdikbbeaaW.PrintMore
attribute [local go_sem] max2_int min2_int max_two min_two max_three min_three max_four min_four   -- for this text's walks alone
set_option linter.unusedVariables false
set_option linter.unusedSimpArgs false

/-! ### impl_IdleMixes: function 11 -/
/-- An element: its number,and the slice. -/
abbrev El := Nat × Option Addr × Nat × Nat
def encE (x : El) : Value := .slice x.2.1 x.2.2.1 x.2.2.2
/-- A world with the row of block g written anew. -/
def Rowed (w : World) (g q : Nat) (d : Array El) : World := Sort.putRow encE (Sort.ahead w q) g 0 d
set_option maxHeartbeats 4000000 in
set_option maxRecDepth 100000 in
theorem idx_calls (p : El → Bool) (lb : Value) (g n c : Nat) (zs : List El) (w : World)
  (hcall : ∀ (x : El) (q : Nat),x ∈ zs → Calls Try.prog 35 #[encE x,lb] (w.drewN q) fun e w' => e = .returned (.bool (p x)) ∧ ∃ q',w' = (w.drewN q).drewN q')
  (hz : n = zs.length) (hbig : n ≤ 9223372036854775807) (hc : ∀ j,j < zs.length → w.cell? ⟨g,j,none⟩ = some (encE zs[j]!)) :
  Calls Try.prog 55 #[.slice (some ⟨g,0,none⟩) n c, .func (.func 35) #[] #[lb]] w fun e w' => e = .returned (.int .i64 (Lib.idxBy (fun _ y => p y) zs default)) ∧ ∃ q,w' = w.drewN q := by
 have HC := Aside0.mk hc
 have HL := Aside0.mk hcall
 have HZ := Aside0.mk hz
 clear hc hcall hz
 go_enter Try.func55,Try.ntmps55
 go_wp2
 go_loopg [8] n (fun gg s8 wr => ∃ kk q : Nat,kk ≤ n ∧ n - kk ≤ gg ∧ s8 = .int .i64 kk ∧ wr = w.drewN q ∧ Aside0 (∀ j,j < kk → p zs[j]! = false))
 case atStart => exact ⟨0,0,Nat.zero_le _,by omega,rfl,rfl,⟨fun j hj => absurd hj (Nat.not_lt_zero _)⟩⟩
 case round =>
  obtain ⟨kk,q,hkk,hg,rfl,rfl,A⟩ := hrel
  by_cases hlt : kk < n
  ·have hltz : (kk : Int) < (n : Int) := by omega
   have hcell : w.cell? ⟨g,kk,none⟩ = some (encE zs[kk]!) := HC.out kk (by have := HZ.out;omega)
   have hmem : zs[kk]! ∈ zs := by
    have := HZ.out
    rw [getElem!_pos zs kk (by omega)]
    exact List.getElem_mem _
   generalize hy : zs[kk]! = y at hcell hmem
   have B : Aside0 (zs[kk]! = y) := ⟨hy⟩
   clear hy
   have hcall := fun q => HL.out y q hmem
   obtain ⟨y0,y1,y2,y3⟩ := y
   simp only [encE] at hcell hcall
   clear hmem
   cases hq : p (y0,y1,y2,y3) with
   | true =>
    rw [hq] at hcall
    have HCA := Aside0.mk hcall
    clear hcall
    go_wp2_with fail
    refine (HCA.out _).mono ?_
    rintro e w' ⟨rfl,q',rfl⟩
    go_wp2
    go_ret
    refine ⟨?_,_,rfl⟩
    have e1 := HZ.out
    have e2 := Lib.idxBy_hit (fun _ y => p y) zs n kk default hlt (by omega) (by show p zs[kk]! = true;rw [B.out];exact hq) A.out
    rw [e1,List.take_of_length_le (Nat.le_refl _)] at e2
    rw [e2]
    rfl
   | false =>
    rw [hq] at hcall
    have HCA := Aside0.mk hcall
    clear hcall
    go_wp2_with fail
    refine (HCA.out _).mono ?_
    rintro e w' ⟨rfl,q',rfl⟩
    go_wp2
    go_roundg (n - (kk + 1))
    case measure => omega
    case rel =>
     refine ⟨kk + 1,_,by omega,by omega,by go_num,rfl,⟨fun j hj => ?_⟩⟩
     by_cases e : j = kk
     ·subst e
      rw [B.out];exact hq
     ·exact A.out j (by omega)
  ·have hltz : ¬ (kk : Int) < (n : Int) := by omega
   have : kk = n := by omega
   subst this
   go_wp2
   go_ret
   refine ⟨?_,q,rfl⟩
   have e1 := HZ.out
   have e2 := Lib.idxBy_miss (fun _ y => p y) zs kk default A.out
   rw [e1,List.take_of_length_le (Nat.le_refl _)] at e2
   rw [e2]
   rfl
set_option maxHeartbeats 4000000 in
set_option maxRecDepth 100000 in
theorem idx_empty (lb : Value) (A : Option Addr) (c : Nat) (w : World) :
  Calls Try.prog 55 #[.slice A 0 c, .func (.func 35) #[] #[lb]] w fun e w' => e = .returned (.int .i64 (-1)) ∧ w' = w := by
 go_enter Try.func55,Try.ntmps55
 go_wp2
 go_loopg [8] 0 (fun _ s8 wr => s8 = .int .i64 0 ∧ wr = w)
 case atStart => exact ⟨rfl,rfl⟩
 case round =>
  obtain ⟨rfl,rfl⟩ := hrel
  go_wp2
  go_ret
  exact ⟨rfl,rfl⟩

/-- The first hit's place,or none. -/
theorem idx_first (p : El → Bool) : ∀ (l : List El) (i : Nat),(Lib.idxByFrom (fun _ y => p y) default l i = -1 ∧ ∀ j,j < l.length → p l[j]! = false) ∨ ∃ k,k < l.length ∧ Lib.idxByFrom (fun _ y => p y) default l i = ((i + k : Nat) : Int) ∧ p l[k]! = true ∧ ∀ j,j < k → p l[j]! = false
 | [],_ => .inl ⟨rfl,fun j hj => absurd hj (Nat.not_lt_zero _)⟩
 | y :: r,i => by
  cases h : p y with
  | true => exact .inr ⟨0,by simp,by simp [Lib.idxByFrom,h],by simpa using h,fun j hj => absurd hj (Nat.not_lt_zero _)⟩
  | false =>
   rcases idx_first p r (i + 1) with ⟨e,ha⟩ | ⟨k,hk,e,ht,ha⟩
   ·refine .inl ⟨by simp [Lib.idxByFrom,h,e],fun j hj => ?_⟩
    cases j with
    | zero => simpa using h
    | succ j => simpa using ha j (by simpa using hj)
   ·refine .inr ⟨k + 1,by simpa using hk,by simp only [Lib.idxByFrom,h,e];simp;omega,by simpa using ht,fun j hj => ?_⟩
    cases j with
    | zero => simpa using h
    | succ j => simpa using ha j (by omega)
def zrE : El := (0,none,0,0)
set_option maxHeartbeats 4000000 in
set_option maxRecDepth 100000 in
theorem del_calls (p : El → Bool) (lb : Value) (g c : Nat) (d : Array El) (w : World)
  (hcall : ∀ (dk : Array El) (u : El) (q : Nat),u ∈ d.toList → dk.size = d.size → Calls Try.prog 35 #[encE u,lb] (Rowed w g q dk) fun e w' => e = .returned (.bool (p u)) ∧ ∃ q',w' = (Rowed w g q dk).drewN q')
  (hH : Sort.Holds encE w g 0 d) (hsz : d.size ≤ 9223372036854775807) (hcap : d.size ≤ c) :
  Calls Try.prog 33 #[.slice (some ⟨g,0,none⟩) d.size c, .func (.func 35) #[] #[lb]] w fun e w' => e = .returned (.slice (some ⟨g,0,none⟩) (d.toList.filter fun x => !p x).length c) ∧ ∃ q,w' = Rowed w g q ((d.toList.filter fun x => !p x) ++ List.replicate (d.size - (d.toList.filter fun x => !p x).length) zrE).toArray := by
 have tl : ∀ j,j < d.size → d.toList[j]! = d[j]! := fun j hj => by rw [getElem!_pos d j hj,getElem!_pos d.toList j (by simpa using hj)];simp
 have hself : ∀ q,Rowed w g q d = w.drewN q := fun q => Sort.putRow_self encE (Sort.ahead w q) g 0 d (Sort.holds_ahead encE w q g 0 d hH)
 have hIF := idx_calls p lb g d.size c d.toList w (fun x q hx => by have := hcall d x q hx rfl;rw [hself] at this;exact this) (by simp) hsz (fun j hj => by
  have hj' : j < d.size := by simpa using hj
  have := (hH j hj').1
  rw [Nat.zero_add] at this
  rw [this,tl j hj'])
 obtain ⟨kp,HK⟩ : ∃ kp : Nat → Bool,Aside0 (kp = fun j => !p d[j]!) := ⟨_,⟨rfl⟩⟩
 have hfil : (d.toList.filter fun x => !p x) = Lib.keptUpTo kp d d.size := by rw [HK.out];exact (Lib.keptUpTo_filter (fun x => !p x) d).symm
 rw [hfil]
 rcases idx_first p d.toList 0 with ⟨e1,hall⟩ | ⟨k0,hk0,e1,ht,hall⟩
 ·have e2 : Lib.idxBy (fun _ y => p y) d.toList default = -1 := e1
  rw [e2] at hIF
  have hkeep : ∀ j,j < d.size → kp j = true := fun j hj => by rw [HK.out];show (!p d[j]!) = true;rw [← tl j hj,hall j (by simpa using hj)];rfl
  have e3 : Lib.keptUpTo kp d d.size = d.toList := by rw [Lib.keptUpTo_all kp d _ hkeep,Lib.range_map_get]
  have HS := Aside0.mk hself
  have HI := Aside0.mk hIF
  clear hH hcall hself hIF
  go_enter Try.func33,Try.ntmps33
  go_wp2_with fail
  refine HI.out.mono ?_
  rintro e w' ⟨rfl,q0,rfl⟩
  go_wp2
  go_ret
  rw [e3]
  refine ⟨by simp,q0,?_⟩
  simp only [Array.length_toList,Nat.sub_self,List.replicate_zero,List.append_nil,Array.toArray_toList]
  exact (HS.out q0).symm
 ·have hk0' : k0 < d.size := by simpa using hk0
  have e2 : Lib.idxBy (fun _ y => p y) d.toList default = (k0 : Int) := by unfold Lib.idxBy;rw [e1];simp
  rw [e2] at hIF
  have hkeep : ∀ j,j < k0 → kp j = true := fun j hj => by rw [HK.out];show (!p d[j]!) = true;rw [← tl j (by omega),hall j hj];rfl
  have hdrop : kp k0 = false := by rw [HK.out];show (!p d[k0]!) = false;rw [← tl k0 hk0'];rw [show p d.toList[k0]! = true from ht];rfl
  have hne1 : ((k0 : Int) == -1) = false := beq_eq_false_iff_ne.2 (by omega)
  have hu26 := Try.underlying26
  have HC := Aside0.mk hcall
  have HH := Aside0.mk hH
  have HS := Aside0.mk hself
  have HI := Aside0.mk hIF
  have HM : Aside0 (∀ j,j < d.size → d[j]! ∈ d.toList) := ⟨fun j hj => by rw [← tl j hj,getElem!_pos d.toList j (by simpa using hj)];exact List.getElem_mem _⟩
  clear hcall hH hself hIF hall ht e1 e2 tl
  go_enter Try.func33,Try.ntmps33
  go_wp2_with fail
  refine HI.out.mono ?_
  rintro e w' ⟨rfl,q0,rfl⟩
  go_wp2
  go_loopg [5,6,7] d.size (fun gg s5 s6 _ wr => ∃ (i j q : Nat) (dk : Array El),s5 = .int .i64 i ∧ s6 = .int .i64 j ∧ j ≤ d.size ∧ d.size - j ≤ gg ∧ Aside0 (wr = Rowed w g q dk) ∧ Aside0 (Lib.KeptInv kp d j i dk))
  case atStart => exact ⟨k0,k0 + 1,q0,d,rfl,by go_num,by omega,by omega,⟨(HS.out q0).symm⟩,⟨Lib.KeptInv.start hkeep hdrop⟩⟩
  case round =>
   obtain ⟨i,j,q,dk,rfl,rfl,hjd,hgg,W2,I2⟩ := hrel
   have hij := I2.out.lt
   have hds := I2.out.size
   have hHk : Sort.Holds encE wr g 0 dk := by rw [W2.out];exact Sort.holds_putRow encE _ g 0 d dk (Sort.holds_ahead encE w q g 0 d HH.out) hds
   by_cases hlt : j < d.size
   ·have hltz : (j : Int) < (d.size : Int) := by omega
    obtain ⟨cj,_⟩ := hHk j (by omega)
    obtain ⟨ci,fi⟩ := hHk i (by omega)
    rw [I2.out.high j (by omega)] at cj
    have hcall := HC.out dk d[j]! q (HM.out j hlt) hds
    rw [← show wr = Rowed w g q dk from W2.out] at hcall
    clear hHk
    rw [Nat.zero_add] at cj ci fi
    generalize hu : d[j]! = u at cj hcall
    generalize dk[i]! = old at ci
    have C : Aside0 (d[j]! = u) := ⟨hu⟩
    clear hu
    obtain ⟨y0,y1,y2,y3⟩ := u
    simp only [encE] at cj hcall
    generalize encE old = old' at ci
    cases hq : p (y0,y1,y2,y3) with
    | false =>
     rw [hq] at hcall
     have HCA := Aside0.mk hcall
     clear hcall
     have FI := Aside0.mk fi
     have CI := Aside0.mk ci
     go_wp2_with fail
     refine HCA.out.mono ?_
     rintro e w' ⟨rfl,qq,rfl⟩
     go_wp2
     go_roundg (d.size - (j + 1))
     case measure => omega
     case rel =>
      refine ⟨i + 1,j + 1,q + qq,dk.setIfInBounds i (y0,y1,y2,y3),by go_num,by go_num,by omega,Nat.le_refl _,⟨?_⟩,⟨?_⟩⟩
      ·rw [W2.out,show (Rowed w g q dk).drewN qq = Rowed w g (q + qq) dk from putRow_drewN _ _ _ _ _ _ _]
       have := Sort.putRow_set encE (Sort.ahead w (q + qq)) g 0 dk i (y0,y1,y2,y3) (by omega)
       rw [Nat.zero_add] at this
       exact this
      ·have := I2.out.keep hlt (by rw [HK.out];show (!p d[j]!) = true;rw [C.out,hq];rfl)
       rwa [C.out] at this
    | true =>
     rw [hq] at hcall
     have HCA := Aside0.mk hcall
     clear hcall
     go_wp2_with fail
     refine HCA.out.mono ?_
     rintro e w' ⟨rfl,qq,rfl⟩
     go_wp2
     go_roundg (d.size - (j + 1))
     case measure => omega
     case rel => exact ⟨i,j + 1,q + qq,dk,rfl,by go_num,by omega,Nat.le_refl _,⟨by rw [W2.out];exact putRow_drewN _ _ _ _ _ _ _⟩,⟨I2.out.skip (by rw [HK.out];show (!p d[j]!) = false;rw [C.out,hq];rfl)⟩⟩
   ·obtain rfl : j = d.size := by omega
    have hltz : ¬ (d.size : Int) < (d.size : Int) := by omega
    have hcl : ∀ ty,(Builtin.clear_ #[26] ty #[.slice (some ⟨g,i,none⟩) (d.size - i) (c - i)]).run Try.prog wr = .ok (.tuple #[]) (wr.setCells g i (List.replicate (d.size - i) (encE zrE))) :=
     fun ty => Lib.run_clear_slice wr _ _ ty _ Try.underlying26 Try.zeroValue22 rfl rfl g i _ _ (by omega) (fun t ht => by have := (hHk (i + t) (by omega)).1;rw [Nat.zero_add] at this;rw [this];rfl) (fun t ht => by have := (hHk (i + t) (by omega)).2;rw [Nat.zero_add] at this;exact this)
    have hik : i ≤ d.size := by omega
    clear hHk
    go_wp2
    go_ret
    have hI := I2.out
    refine ⟨by rw [hI.len];rfl,q,?_⟩
    rw [hI.len, ← hI.done zrE,W2.out]
    have := Lib.putRow_setCells encE (Sort.ahead w q) g 0 (List.replicate (d.size - i) zrE) dk i (by simp;omega)
    rw [Nat.zero_add,List.map_replicate] at this
    exact this
/-- Does a mix turn the cups? -/
def turns (l m : List Int) : Bool := rd l (rd m 0) != rd l (rd m 1)
set_option maxHeartbeats 4000000 in
set_option maxRecDepth 100000 in
theorem lit_calls (b : Nat) (A : Option Addr) (c : Nat) (l : List Int) (u1 : Int) (A1 : Option Addr) (c1 : Nat) (m : List Int) (W : World) (hb : W.heap[b]? = some (.cells #[.slice A l.length c, .int .i64 u1] 29 (0,0))) (hl : Kd.C (Kd.int .i64) W A l.length l) (hm : Kd.C (Kd.int .i64) W A1 m.length m)
  (h1 : 1 < (m.length : Int)) (a0 : 0 ≤ rd m 0) (a1 : rd m 0 < (l.length : Int)) (b0 : 0 ≤ rd m 1) (b1 : rd m 1 < (l.length : Int)) :
  Calls Try.prog 35 #[.slice A1 m.length c1, .pointer (some ⟨b,0,none⟩)] W fun e w' => e = .returned (.bool (turns l m)) ∧ ∃ q,w' = W.drewN q := by
 have hz : W.cell? ⟨b,0,none⟩ = some (.slice A l.length c) := (blk_cell hb 0).trans rfl
 obtain ⟨ad,rfl,hx0⟩ := Kd.at_int hl (rd m 0) a0 a1
 obtain ⟨_,e2,hx1⟩ := Kd.at_int hl (rd m 1) b0 b1
 cases e2
 obtain ⟨am,rfl,hm0⟩ := Kd.at_int hm 0 (by omega) (by omega)
 obtain ⟨_,e2,hm1⟩ := Kd.at_int hm 1 (by omega) (by omega)
 cases e2
 replace hx0 : W.cell? (ad.add (rd m 0).toNat) = some (.int .i64 (rd l (rd m 0))) := hx0
 replace hx1 : W.cell? (ad.add (rd m 1).toNat) = some (.int .i64 (rd l (rd m 1))) := hx1
 replace hm0 : W.cell? (am.add ((0 : Int)).toNat) = some (.int .i64 (rd m 0)) := hm0
 replace hm1 : W.cell? (am.add ((1 : Int)).toNat) = some (.int .i64 (rd m 1)) := hm1
 (try rw [show ((0 : Int)).toNat = 0 from rfl] at hm0)
 (try rw [Addr.add_zero'] at hm0)
 replace hm1 : W.cell? { block := am.block,off := am.off + 1 } = some (.int .i64 (rd m 1)) := hm1
 have ht0 : (0 ≤ rd m 0) = True := eq_true a0
 have ht1 : (rd m 0 < (l.length : Int)) = True := eq_true a1
 have ht2 : (0 ≤ rd m 1) = True := eq_true b0
 have ht3 : (rd m 1 < (l.length : Int)) = True := eq_true b1
 have ht4 : (1 < (m.length : Int)) = True := eq_true h1
 have ht5 : (0 < (m.length : Int)) = True := eq_true (by omega)
 have ht6 : (0 < m.length) = True := eq_true (by omega)
 have ht7 : (1 < m.length) = True := eq_true (by omega)
 have HM := Aside0.mk (show 1 < m.length by omega)
 clear hb hl hm a0 a1 b0 b1 h1
 go_enter Try.func35,Try.ntmps35
 go_wp2
 go_quiet (fail)
 clear hz hx0 hx1 hm0 hm1
 go_wp2
 go_ret
 exact ⟨rfl,_,rfl⟩
def decE (j : Nat) : Value → El
 | .slice A n c => (j,A,n,c)
 | _ => (j,none,0,0)
theorem S_open {w : World} {base : Nat} {ok : Nat → Prop} {v : Value} {ms : List (List Int)} (h : Kd.S (Kd.slice 3 (Kd.int .i64)) 22 w base ok v ms) : (ms = [] ∧ v = .slice none 0 0) ∨ ∃ (g cap : Nat) (cur : Array Value) (f : Nat → Nat) (d : Array El),v = .slice (some ⟨g,0,none⟩) d.size cap ∧ d.size = ms.length ∧ base ≤ g ∧ d.size ≤ cap ∧ cap ≤ maxLen ∧ cur.size = cap ∧ ok g ∧ w.heap[g]? = some (.cells cur 22 (0,0)) ∧ ∀ j,j < d.size → d[j]!.1 = j ∧ cur[j]? = some (encE d[j]!) ∧ Kd.R (Kd.int .i64) 3 w base (fun k_ => (ok k_ ∧ k_ ≠ g) ∧ f k_ = j) (encE d[j]!) (ms.getD j []) := by
 obtain ⟨f,h0,inner,⟨hl,ho⟩,hr⟩ := h
 rw [List.length_zipIdx] at ho hl
 rcases ho with ⟨rfl,hn⟩ | ⟨g,cap,cur,rfl,hg,hh,hc1,hc2,hc3,hc4⟩
 ·exact .inl ⟨List.length_eq_zero_iff.1 hn,rfl⟩
 ·have hsz : (Kd.tag f (Kd.slice 3 (Kd.int .i64))).sz = 1 := rfl
  rw [hsz,Nat.mul_one] at hl hc3 hc4
  have hds : (Array.ofFn (n := ms.length) fun j => decE j.1 cur[j.1]!).size = ms.length := by simp
  refine .inr ⟨g,cap,cur,f,Array.ofFn (n := ms.length) fun j => decE j.1 cur[j.1]!,by rw [hds],hds,hg,by rw [hds];exact hc1,hc2,hc3,h0 g rfl,hh,fun j hj => ?_⟩
  rw [hds] at hj
  obtain ⟨hrl,hr⟩ := hr
  have hm : ms.zipIdx[j]? = some (ms[j],j) := Kd.zip_at (List.getElem?_eq_getElem hj)
  have h1 := hr j _ hm
  rw [hsz,Nat.mul_one] at h1
  obtain ⟨vj,hv,hR⟩ := h1
  have hin : inner[j]? = some vj := by
   have := congrArg (fun l : List Value => l[0]?) hv
   simpa using this
  have hcur : cur[j]? = some vj := by
   rw [← hc4,List.getElem?_take,if_pos hj] at hin
   simpa using hin
  obtain ⟨A,c,rfl⟩ := Kd.R_slice hR
  have hdj : (Array.ofFn (n := ms.length) fun j => decE j.1 cur[j.1]!)[j]! = (j,A,ms[j].length,c) := by
   rw [getElem!_pos _ j (by simpa using hj),Array.getElem_ofFn]
   show decE j cur[j]! = _
   rw [getElem!_def,hcur]
   rfl
  rw [hdj]
  refine ⟨rfl,hcur,?_⟩
  rw [List.getD_eq_getElem?_getD,List.getElem?_eq_getElem hj]
  exact Kd.R_mono hR (fun k_ hk => ⟨⟨hk.1.1,fun he => hk.1.2 (by rw [he];rfl)⟩,hk.2⟩)
theorem S_close {w : World} {base : Nat} {ok : Nat → Prop} {g cap : Nat} {cur : Array Value} {f : Nat → Nat} {d : List El} {M : El → List Int} (hg : base ≤ g) (ho : ok g) (hh : w.heap[g]? = some (.cells cur 22 (0,0))) (hc1 : d.length ≤ cap) (hc2 : cap ≤ maxLen) (hc3 : cur.size = cap)
  (hcur : ∀ (j : Nat) (x : El),d[j]? = some x → cur[j]? = some (encE x)) (hnd : (d.map (·.1)).Nodup) (hR : ∀ x ∈ d,Kd.R (Kd.int .i64) 3 w base (fun k_ => (ok k_ ∧ k_ ≠ g) ∧ f k_ = x.1) (encE x) (M x)) : Kd.S (Kd.slice 3 (Kd.int .i64)) 22 w base ok (.slice (some ⟨g,0,none⟩) d.length cap) (d.map M) := by
 refine ⟨fun k_ => (d.map (·.1)).idxOf (f k_),fun k_ hk => by (have : g = k_ := by simpa [Value.ownBlock] using hk);exact this ▸ ho,d.map encE,⟨by simp [Kd.tag,Kd.slice], .inr ⟨g,cap,cur,by simp,hg,hh,by simpa using hc1,hc2,by rw [hc3];exact (Nat.mul_one _).symm,?_⟩⟩,by simp [Kd.tag,Kd.slice],fun j p hp => ?_⟩
 ·apply List.ext_getElem?
  intro j
  rw [List.length_zipIdx,List.length_map,show (Kd.tag (fun k_ => (d.map (·.1)).idxOf (f k_)) (Kd.slice 3 (Kd.int .i64))).sz = 1 from rfl,Nat.mul_one,List.getElem?_take,List.getElem?_map]
  by_cases hj : j < d.length
  ·rw [if_pos hj]
   have := hcur j _ (List.getElem?_eq_getElem hj)
   rw [List.getElem?_eq_getElem hj]
   simpa using this
  ·rw [if_neg hj,List.getElem?_eq_none (by omega)]
   rfl
 ·rw [List.getElem?_zipIdx,List.getElem?_map,Nat.zero_add] at hp
  obtain ⟨y,hy,rfl⟩ := Option.map_eq_some_iff.1 hp
  obtain ⟨x,hx,rfl⟩ := Option.map_eq_some_iff.1 hy
  obtain ⟨hj,hxj⟩ := List.getElem?_eq_some_iff.1 hx
  refine ⟨encE x,?_,Kd.R_mono (hR x (List.mem_of_getElem? hx)) (fun k_ hk => ?_)⟩
  ·rw [show (Kd.tag (fun k_ => (d.map (·.1)).idxOf (f k_)) (Kd.slice 3 (Kd.int .i64))).sz = 1 from rfl,Nat.mul_one]
   apply List.ext_getElem?
   intro i
   cases i with
   | zero => simp [hx]
   | succ i => simp;omega
  ·refine ⟨⟨hk.1.1,fun he => hk.1.2 (by simpa [Value.ownBlock] using he)⟩,?_⟩
   show (d.map (·.1)).idxOf (f k_) = j
   rw [hk.2]
   have : x.1 = (d.map (·.1))[j]'(by simpa using hj) := by simp [hxj]
   rw [this]
   exact hnd.idxOf_getElem j (by simpa using hj)
theorem rowed_other {w : World} {g q : Nat} {d : Array El} {k_ : Nat} (h : k_ ≠ g) : (Rowed w g q d).heap[k_]? = w.heap[k_]? := by
 show (w.heap.modify g _)[k_]? = _
 rw [Array.getElem?_modify,if_neg (fun e => h e.symm)]
theorem rowed_at {w : World} {g q : Nat} {d : Array El} {cur : Array Value} {t : TypeId} {fr : Nat × Nat} (h : w.heap[g]? = some (.cells cur t fr)) : (Rowed w g q d).heap[g]? = some (.cells (Sort.putCells encE 0 d cur) t fr) := by
 show (w.heap.modify g _)[g]? = _
 rw [Array.getElem?_modify,if_pos rfl,h]
 rfl
theorem rowed_size {w : World} {g q : Nat} {d : Array El} : (Rowed w g q d).heap.size = w.heap.size := Sort.size_putRow _ _ _ _ _
theorem rowed_below {w0 w : World} {g q : Nat} {d : Array El} (h : Below w0.heap.size w0 w) (hg : w0.heap.size ≤ g) : Below w0.heap.size w0 (Rowed w g q d) where
 os := h.os
 tape := h.tape
 output := h.output
 size := by rw [rowed_size];exact h.size
 block := fun k_ hk => (rowed_other (by omega)).trans (h.block k_ hk)

set_option maxHeartbeats 4000000 in
set_option maxRecDepth 100000 in
theorem del_empty (lb : Value) (w : World) :
  Calls Try.prog 33 #[.slice none 0 0, .func (.func 35) #[] #[lb]] w fun e w' => e = .returned (.slice none 0 0) ∧ w' = w := by
 go_enter Try.func33,Try.ntmps33
 go_wp2_with fail
 refine (idx_empty lb none 0 w).mono ?_
 rintro e w' ⟨rfl,rfl⟩
 go_wp2
 go_ret
 exact ⟨rfl,rfl⟩
/-- Its two places are places of the cups. -/
def placed (l m : List Int) : Bool := decide (1 < (m.length : Int) ∧ 0 ≤ rd m 0 ∧ rd m 0 < (l.length : Int) ∧ 0 ≤ rd m 1 ∧ rd m 1 < (l.length : Int))
def impl_IdleMixes.f (k : Nat) (l : List Int) (a1 : Int) : Option (List (List Int) × Bool) := (impl_AreCups.f k l a1).bind fun b => (if b = true then ((impl_mixesOf.f k (l.length : Int)).bind fun ms => (if ms.all (placed l) = true then some (ms.filter fun m => !turns l m,true) else none)) else some ([],false))
theorem impl_IdleMixes.mono : ∀ l a1 k,LeO (impl_IdleMixes.f k l a1) (impl_IdleMixes.f (k + 1) l a1) := fun l a1 k => by
 unfold impl_IdleMixes.f
 exact LeO.bind (impl_AreCups.mono _ _ _) (fun _ => LeO.ite (LeO.bind (impl_mixesOf.mono _ _) (fun _ => LeO.refl _)) (LeO.refl _))
theorem filt_map {ms : List (List Int)} {d : Array El} (hs : d.size = ms.length) (h1 : ∀ j,j < d.size → d[j]!.1 = j) (q : List Int → Bool) : (d.toList.filter fun x => q (ms.getD x.1 [])).map (fun x => ms.getD x.1 []) = ms.filter q := by
 have e : d.toList.map (fun x => ms.getD x.1 []) = ms := by
  apply List.ext_getElem?
  intro j
  rw [List.getElem?_map]
  by_cases hj : j < d.size
  ·have h2 := h1 j hj
   rw [getElem!_pos d j hj] at h2
   rw [List.getElem?_eq_getElem (by simpa using hj),List.getElem?_eq_getElem (by omega)]
   simp [h2,List.getElem?_eq_getElem (show j < ms.length by omega)]
  ·rw [List.getElem?_eq_none (by simpa using hj),List.getElem?_eq_none (by omega)]
   rfl
 conv => rhs;rw [← e,List.filter_map]
 rfl
theorem tags_nodup {d : Array El} (h1 : ∀ j,j < d.size → d[j]!.1 = j) (q : El → Bool) : ((d.toList.filter q).map (·.1)).Nodup := by
 have e : d.toList.map (·.1) = List.range d.size := by
  apply List.ext_getElem?
  intro j
  rw [List.getElem?_map]
  by_cases hj : j < d.size
  ·have h2 := h1 j hj
   rw [getElem!_pos d j hj] at h2
   rw [List.getElem?_eq_getElem (by simpa using hj)]
   simp [h2,hj]
  ·rw [List.getElem?_eq_none (by simpa using hj),List.getElem?_eq_none (by simpa using hj)]
   rfl
 refine List.Nodup.sublist (List.Sublist.map _ List.filter_sublist) ?_
 rw [e]
 exact List.nodup_range
set_option maxHeartbeats 4000000 in
set_option maxRecDepth 100000 in
theorem impl_IdleMixes.calls (k : Nat) (A : Option Addr) (c : Nat) (l : List Int) (u : Int) (s : List (List Int)) (b : Bool) (w : World) (hr : Kd.C (Kd.int .i64) w A l.length l) (hc : l.length ≤ c) (h : impl_IdleMixes.f k l u = some (s,b)) :
  Calls Try.prog 11 #[.agg #[.slice A l.length c, .int .i64 u]] w fun e w' => ∃ v0_ : Value,e = .returned (.tuple #[v0_, .bool b]) ∧ Kd.S (Kd.slice 3 (Kd.int .i64)) 22 w' w.heap.size (fun _ => True) v0_ s ∧ Below w.heap.size w w' := by
 obtain ⟨t,B0,h⟩ := Option.bind_eq_some_iff.mp h
 have hu29 := Try.underlying29
 have HB := Aside0.mk (Below.refl w.heap.size w)
 have HR := Aside0.mk hr
 have HC := Aside0.mk hc
 replace B0 := Aside0.mk B0
 clear hr hc
 cases t with
 | false =>
  rw [if_neg (by decide)] at h
  simp only [Option.some.injEq,Prod.mk.injEq] at h
  obtain ⟨rfl,rfl⟩ := h
  go_enter Try.func11,Try.ntmps11
  go_wp2_with ((with_reducible refine gate_dst (N := 1) rfl ?_);(try (refine gate_guard (by rfl) ?_;dsimp only));refine box_event ?hg (N := 1) ?hd (cs := #[.slice A l.length c, .int .i64 u]) (t := 29) ?hr ?_;(case hd => rfl);(case hg => rfl);(case hr => first | (go_simp;done) | (go_simp;rfl));intro gb hg w5 hbox hb;have n0_ := Aside0.mk (below_step HB.out hb);have BK := Aside0.mk hbox;have GE := Aside0.mk (show w.heap.size ≤ gb by rw [hg];exact Nat.le_refl _);clear HB;have HB := n0_;clear n0_ hb hbox hg;have hcz0 : w5.cell? ⟨gb,0,none⟩ = some (.slice A l.length c) := (blk_cell BK.out 0).trans rfl;have hcz1 : w5.cell? ⟨gb,1,none⟩ = some (.int .i64 u) := (blk_cell BK.out 1).trans rfl;have hfz0 := blk_frozen BK.out 0;have hfz1 := blk_frozen BK.out 1)
  refine (impl_AreCups.calls k A c l u false _ (Kd.C_below HR.out HB.out) HC.out B0.out).mono ?_
  rintro e w7 ⟨rfl,hb⟩
  have HB7 := Aside0.mk (below_step HB.out hb)
  have BK7 := Aside0.mk (blk_below BK.out hb)
  clear hb hcz0 hcz1 hfz0 hfz1
  go_wp2
  go_ret2
  exact ⟨_,rfl,Kd.S_nil _ _ _ _ _,HB7.out⟩
 | true =>
  rw [if_pos rfl] at h
  obtain ⟨ms,M0,h⟩ := Option.bind_eq_some_iff.mp h
  by_cases hp : ms.all (placed l) = true
  ·rw [if_pos hp] at h
   simp only [Option.some.injEq,Prod.mk.injEq] at h
   obtain ⟨rfl,rfl⟩ := h
   replace M0 := Aside0.mk M0
   have HP := Aside0.mk hp
   clear hp
   have hmf : ∀ (fn : Fn) (first cap : Array Value) (w : World),(Instr.makeFunc fn first cap).run Try.prog w = .ok (.func fn first cap) w := fun _ _ _ _ => rfl
   go_enter Try.func11,Try.ntmps11
   go_wp2_with ((with_reducible refine gate_dst (N := 1) rfl ?_);(try (refine gate_guard (by rfl) ?_;dsimp only));refine box_event ?hg (N := 1) ?hd (cs := #[.slice A l.length c, .int .i64 u]) (t := 29) ?hr ?_;(case hd => rfl);(case hg => rfl);(case hr => first | (go_simp;done) | (go_simp;rfl));intro gb hg w5 hbox hb;have n0_ := Aside0.mk (below_step HB.out hb);have BK := Aside0.mk hbox;have GE := Aside0.mk (show w.heap.size ≤ gb by rw [hg];exact Nat.le_refl _);clear HB;have HB := n0_;clear n0_ hb hbox hg;have hcz0 : w5.cell? ⟨gb,0,none⟩ = some (.slice A l.length c) := (blk_cell BK.out 0).trans rfl;have hcz1 : w5.cell? ⟨gb,1,none⟩ = some (.int .i64 u) := (blk_cell BK.out 1).trans rfl;have hfz0 := blk_frozen BK.out 0;have hfz1 := blk_frozen BK.out 1)
   refine (impl_AreCups.calls k A c l u true _ (Kd.C_below HR.out HB.out) HC.out B0.out).mono ?_
   rintro e w7 ⟨rfl,hb⟩
   have HB7 := Aside0.mk (below_step HB.out hb)
   have BK7 := Aside0.mk (blk_below BK.out hb)
   clear hb hcz0 hcz1 hfz0 hfz1 HB BK
   have hcz0 : w7.cell? ⟨gb,0,none⟩ = some (.slice A l.length c) := (blk_cell BK7.out 0).trans rfl
   have hcz1 : w7.cell? ⟨gb,1,none⟩ = some (.int .i64 u) := (blk_cell BK7.out 1).trans rfl
   go_wp2_with fail
   refine (impl_mixesOf.calls k (l.length : Int) ms _ M0.out).mono ?_
   rintro e w8 ⟨v1,rfl,hs,hb⟩
   have GB := Aside0.mk (show gb < w7.heap.size from blk_lt BK7.out)
   have HB8 := Aside0.mk (below_step HB7.out hb)
   have BK8 := Aside0.mk (blk_below BK7.out hb)
   have H78 := Aside0.mk hb
   clear hb hcz0 hcz1
   rcases S_open hs with ⟨rfl,rfl⟩ | ⟨g,cap,cur,f,d,rfl,hd1,hd2,hd3,hd4,hd5,hd6,hd7,hd8⟩
   ·clear hs
    have E0 := Aside0.mk (show (([] : List (List Int)).filter fun m => !turns l m) = [] from rfl)
    go_wp2_with fail
    refine (del_empty _ w8).mono ?_
    rintro e w9 ⟨rfl,rfl⟩
    go_wp2
    go_ret2
    exact ⟨_,rfl,Kd.S_nil _ _ _ _ _,HB8.out⟩
   ·clear hs
    have HD := Aside0.mk hd8
    have HCU := Aside0.mk hd7
    have HSZ := Aside0.mk hd1
    have HG := Aside0.mk hd2
    have HCP := Aside0.mk (And.intro hd3 (And.intro hd4 hd5))
    clear hd1 hd2 hd3 hd4 hd5 hd6 hd7 hd8
    go_wp2_with fail
    have hgw : w.heap.size ≤ g := Nat.le_trans HB7.out.size HG.out
    have hgb : gb ≠ g := by have h1 := GB.out;have h2 := HG.out;omega
    have hold : Sort.Holds encE w8 g 0 d := fun j hj => by
     rw [Nat.zero_add]
     exact ⟨(blk_cell HCU.out j).trans (HD.out j hj).2.1,blk_frozen HCU.out j⟩
    have hmax : d.size ≤ 9223372036854775807 := by
     have h1 := HCP.out.1;have h2 := HCP.out.2.1
     have h3 : maxLen ≤ 9223372036854775807 := by decide
     omega
    refine (del_calls (fun x => turns l (ms.getD x.1 [])) (.pointer (some ⟨gb,0,none⟩)) g cap d w8 (fun dk x q hx hk => ?_) hold hmax HCP.out.1).mono ?_
    ·obtain ⟨j,hj,rfl⟩ := List.getElem_of_mem hx
     have hj' : j < d.size := by simpa using hj
     obtain ⟨e1,e2,e3⟩ := HD.out j hj'
     have e4 : d.toList[j] = d[j]! := by rw [getElem!_pos d j hj'];simp
     rw [e4]
     have hjm : j < ms.length := by have := HSZ.out;omega
     have e5 : ms.getD j [] = ms[j] := by rw [List.getD_eq_getElem?_getD,List.getElem?_eq_getElem hjm];rfl
     show Calls _ _ _ _ (fun e w' => e = .returned (.bool (turns l (ms.getD (d[j]!).1 []))) ∧ _)
     rw [e1]
     have hP := List.all_eq_true.1 HP.out _ (show ms.getD j [] ∈ ms by rw [e5];exact List.getElem_mem _)
     replace hP := of_decide_eq_true hP
     have e6 : Kd.R (Kd.int .i64) 3 (Rowed w8 g q dk) w7.heap.size (fun k_ => (True ∧ k_ ≠ g) ∧ f k_ = j) (encE d[j]!) (ms.getD j []) := Kd.R_move e3 (fun k_ h_ => rowed_other h_.1.2)
     obtain ⟨A1,c1,e7⟩ := Kd.R_slice e6
     rw [e7] at e6 ⊢
     exact lit_calls gb A c l u A1 c1 _ _ ((rowed_other hgb).trans BK8.out) (Kd.C_below HR.out (rowed_below HB8.out hgw)) (Kd.R_reads' e6).2.2 hP.1 hP.2.1 hP.2.2.1 hP.2.2.2.1 hP.2.2.2.2
    ·rintro e w9 ⟨rfl,q,rfl⟩
     have e1 : ∀ j,j < d.size → d[j]!.1 = j := fun j hj => (HD.out j hj).1
     have hfl : (d.toList.filter fun x => !turns l (ms.getD x.1 [])).length ≤ d.size := by have := List.length_filter_le (fun x => !turns l (ms.getD x.1 [])) d.toList;simpa using this
     have hS : Kd.S (Kd.slice 3 (Kd.int .i64)) 22 (Rowed w8 g q ((d.toList.filter fun x => !turns l (ms.getD x.1 [])) ++ List.replicate (d.size - (d.toList.filter fun x => !turns l (ms.getD x.1 [])).length) zrE).toArray) w.heap.size (fun _ => True) (.slice (some ⟨g,0,none⟩) (d.toList.filter fun x => !turns l (ms.getD x.1 [])).length cap) (ms.filter fun m => !turns l m) := by
      rw [← filt_map HSZ.out e1 (fun m => !turns l m)]
      refine S_close (f := f) hgw trivial (rowed_at HCU.out) (by have := HCP.out.1;omega) HCP.out.2.1 (by simp [Sort.putCells];exact HCP.out.2.2) (fun j x hx => ?_) (tags_nodup e1 _) (fun x hx => ?_)
      ·obtain ⟨hj,hxj⟩ := List.getElem?_eq_some_iff.1 hx
       have h1 : j < cur.size := by have := HCP.out;omega
       unfold Sort.putCells
       rw [Array.getElem?_mapIdx,Array.getElem?_eq_getElem h1,Option.map_some,if_pos ⟨Nat.zero_le _,by simp;omega⟩,Nat.sub_zero,getElem!_pos _ j (by simp;omega)]
       simp only [List.getElem_toArray]
       rw [List.getElem_append_left hj,hxj]
      ·have hx2 := (List.mem_filter.1 hx).1
       obtain ⟨j,hj,rfl⟩ := List.getElem_of_mem hx2
       have hj' : j < d.size := by simpa using hj
       obtain ⟨e1',e2,e3⟩ := HD.out j hj'
       have e4 : d.toList[j] = d[j]! := by rw [getElem!_pos d j hj'];simp
       rw [e4]
       show Kd.R _ _ _ _ (fun k_ => (True ∧ k_ ≠ g) ∧ f k_ = (d[j]!).1) _ (ms.getD (d[j]!).1 [])
       rw [e1']
       exact Kd.R_lower (Kd.R_move e3 (fun k_ h_ => rowed_other h_.1.2)) HB7.out.size
     have HS := Aside0.mk hS
     have HBB := Aside0.mk (rowed_below (q := q) (d := ((d.toList.filter fun x => !turns l (ms.getD x.1 [])) ++ List.replicate (d.size - (d.toList.filter fun x => !turns l (ms.getD x.1 [])).length) zrE).toArray) HB8.out hgw)
     clear hold hmax hfl hS e1
     generalize Rowed w8 g q _ = w9 at HS HBB ⊢
     go_wp2
     go_ret2
     exact ⟨_,rfl,HS.out,HBB.out⟩
  ·rw [if_neg hp] at h
   exact absurd h (by simp)

/-! ### laws_heldIntSS: function 16 -/
def laws_heldIntSS.l0 : Nat → List (List Int) → Int → Int → Option (Int)
 | 0,_,_,_ => none
 | k + 1,x0,x1,x5 => if x5 < (x0.length : Int) then (if 0 ≤ x5 then ((laws_heldIntS.f k (rd_L1 x0 x5) x1).bind fun t171 => (if t171 < 0 then (some (-1)) else (laws_heldIntSS.l0 k x0 t171 (wrap64 (x5 + 1))))) else (none)) else (some x1)
def laws_heldIntSS.f (k : Nat) (l0 : List (List Int)) (a1 : Int) : Option (Int) := laws_heldIntSS.l0 k l0 a1 0
theorem laws_heldIntSS.mono_l : ∀ k,(∀ y0 y1 y2,LeO (laws_heldIntSS.l0 k y0 y1 y2) (laws_heldIntSS.l0 (k + 1) y0 y1 y2))
 | 0 => fun _ _ _ r h => by simp [laws_heldIntSS.l0] at h
 | k + 1 => by
  have ih0 := laws_heldIntSS.mono_l k
  ·intro y0 y1 y2
   unfold laws_heldIntSS.l0
   repeat' first
   | (with_reducible exact ih0 _ _ _)
   | (with_reducible exact laws_heldIntS.mono _ _ _)
   | (with_reducible exact LeO.refl _)
   | (with_reducible exact LeO.none _)
   | (with_reducible refine LeO.ite ?_ ?_)
   | (with_reducible refine LeO.bind ?_ (fun _ => ?_))
   | exact ih0 _ _ _
   | exact laws_heldIntS.mono _ _ _
   | exact LeO.none _
   | refine LeO.ite ?_ ?_
   | refine LeO.bind ?_ (fun _ => ?_)
theorem laws_heldIntSS.mono : ∀ a0 a1 k,LeO (laws_heldIntSS.f k a0 a1) (laws_heldIntSS.f (k + 1) a0 a1) := by
 intro a0 a1 k
 have ih0 := laws_heldIntSS.mono_l k
 unfold laws_heldIntSS.f
 repeat' first
   | (with_reducible exact ih0 _ _ _)
   | (with_reducible exact laws_heldIntS.mono _ _ _)
   | (with_reducible exact LeO.refl _)
   | (with_reducible exact LeO.none _)
   | (with_reducible refine LeO.ite ?_ ?_)
   | (with_reducible refine LeO.bind ?_ (fun _ => ?_))
   | exact ih0 _ _ _
   | exact laws_heldIntS.mono _ _ _
   | exact LeO.none _
   | refine LeO.ite ?_ ?_
   | refine LeO.bind ?_ (fun _ => ?_)
set_option maxHeartbeats 8000000 in
set_option maxRecDepth 100000 in
theorem laws_heldIntSS.calls (k : Nat) (A0 : Option Addr) (c0 : Nat) (l0 : List (List Int)) (a1 : Int) (r : Int) (w : World) (hr0 : Kd.C (Kd.slice 3 (Kd.int .i64)) w A0 l0.length l0) (hc0 : l0.length ≤ c0) (h : laws_heldIntSS.f k l0 a1 = some r) :
  Calls Try.prog 16 #[.slice A0 l0.length c0, .int .i64 a1] w fun e w' => e = .returned (.int .i64 r) ∧ Drawn0 w w' := by
 have HR0 := Aside0.mk hr0
 have HC0 := Aside0.mk hc0
 clear hr0 hc0
 have H : (laws_heldIntSS.l0 k l0 a1 0) = some r := h
 clear h
 have H' := Aside0.mk H
 clear H
 go_enter Try.func16,Try.ntmps16
 go_wp2
 go_loopg [1,5] k (fun kq v1 v5 w' => ∃ (x1_1 : Int) (x5_1 : Int),v1 = .int .i64 x1_1 ∧ v5 = .int .i64 x5_1 ∧ Aside0 (laws_heldIntSS.l0 kq l0 x1_1 x5_1 = some r) ∧ Aside0 (kq ≤ k) ∧ Drawn0 w w')
 case atStart => exact ⟨(a1),(0),(by first | rfl | (simp;done) | (simp [*];done)),(by first | rfl | (simp;done) | (simp [*];done)),H',⟨Nat.le_refl _⟩,by repeat (first | exact Drawn0.refl _ | apply Drawn0.step)⟩
 case round =>
  clear H'
  try clear c1
  try clear p2
  obtain ⟨x1_1,x5_1,rfl,rfl,HA,HK1,⟨m1,rfl⟩⟩ := hrel
  cases gk with
  | zero => exact absurd HA.out (by simp [laws_heldIntSS.l0])
  | succ k1 =>
   have H := HA.out
   clear HA
   simp only [laws_heldIntSS.l0] at H
   by_cases c3 : x5_1 < (l0.length : Int)
   ·rw [if_pos c3] at H
    have c3b0 : decide (x5_1 < (l0.length : Int)) = true := decide_eq_true c3
    clear c3
    by_cases c4 : 0 ≤ x5_1
    ·rw [if_pos c4] at H
     have c4b0 : decide (0 ≤ x5_1) = true := decide_eq_true c4
     clear c4
     replace H := Option.bind_eq_some_iff.mp H
     obtain ⟨t171,A50,H⟩ := H
     replace H : (if t171 < 0 then (some (-1)) else (laws_heldIntSS.l0 k1 l0 t171 (wrap64 (x5_1 + 1)))) = some r := H
     have A5 := Aside0.mk A50
     clear A50
     by_cases c6 : t171 < 0
     ·rw [if_pos c6] at H
      have c6b0 : decide (t171 < 0) = true := decide_eq_true c6
      clear c6
      obtain rfl := Option.some.inj H
      have p170 : 0 ≤ (x5_1 : Int) := of_decide_eq_true (by first | (with_reducible assumption) | assumption)
      have q170 : x5_1 < (l0.length : Int) := of_decide_eq_true (by first | (with_reducible assumption) | assumption)
      obtain ⟨ad170,A170_0,c170_0,e170,hx170_0,hl170_0,hi170_0⟩ := at_L1 HR0.out x5_1 p170 q170
      cases e170
      have HR170_0 := Aside0.mk hi170_0
      have HC170_0 := Aside0.mk hl170_0
      clear hi170_0 hl170_0
      replace p170 := eq_true p170
      replace q170 := eq_true q170
      go_wp2_with (first | ((with_reducible refine gate_callee (f := 38) rfl ?_);refine goesL_ (some 17) rfl rfl Try.func38 (by kernel_rfl) rfl #[.slice A170_0 (rd_L1 l0 x5_1).length c170_0, .int .i64 x1_1] rfl (by (try simp only [List.map_toArray,List.map_cons,List.map_nil]);first | done | rfl | (simp only [List.length_drop,List.length_take];rfl)) ?_;(with_reducible refine (laws_heldIntS.calls k1 _ _ (rd_L1 l0 x5_1) x1_1 t171 _ ?side1 ?side2 A5.out).mono ?_);(case side1 => repeat (first | exact HR170_0.out | (with_reducible refine Kd.C_alloc ?_ _) | (with_reducible refine Kd.C_drewN ?_ _) | (with_reducible refine Kd.C_drew ?_)));(case side2 => exact HC170_0.out);rintro e w' ⟨rfl,⟨nd,rfl⟩⟩;refine ⟨_,rfl,?_⟩))
      go_ret
      exact ⟨by first | rfl | (simp;done) | (simp [*];done),by repeat (first | exact Drawn0.refl _ | apply Drawn0.step)⟩
     ·rw [if_neg c6] at H
      have c6b0 : decide (t171 < 0) = false := decide_eq_false c6
      clear c6
      have H' := Aside0.mk H
      clear H
      have p170 : 0 ≤ (x5_1 : Int) := of_decide_eq_true (by first | (with_reducible assumption) | assumption)
      have q170 : x5_1 < (l0.length : Int) := of_decide_eq_true (by first | (with_reducible assumption) | assumption)
      obtain ⟨ad170,A170_0,c170_0,e170,hx170_0,hl170_0,hi170_0⟩ := at_L1 HR0.out x5_1 p170 q170
      cases e170
      have HR170_0 := Aside0.mk hi170_0
      have HC170_0 := Aside0.mk hl170_0
      clear hi170_0 hl170_0
      replace p170 := eq_true p170
      replace q170 := eq_true q170
      go_wp2_with (first | ((with_reducible refine gate_callee (f := 38) rfl ?_);refine goesL_ (some 17) rfl rfl Try.func38 (by kernel_rfl) rfl #[.slice A170_0 (rd_L1 l0 x5_1).length c170_0, .int .i64 x1_1] rfl (by (try simp only [List.map_toArray,List.map_cons,List.map_nil]);first | done | rfl | (simp only [List.length_drop,List.length_take];rfl)) ?_;(with_reducible refine (laws_heldIntS.calls k1 _ _ (rd_L1 l0 x5_1) x1_1 t171 _ ?side1 ?side2 A5.out).mono ?_);(case side1 => repeat (first | exact HR170_0.out | (with_reducible refine Kd.C_alloc ?_ _) | (with_reducible refine Kd.C_drewN ?_ _) | (with_reducible refine Kd.C_drew ?_)));(case side2 => exact HC170_0.out);rintro e w' ⟨rfl,⟨nd,rfl⟩⟩;refine ⟨_,rfl,?_⟩))
      go_roundg k1
      case measure => have := HK1.out;omega
      case rel => exact ⟨(t171),(wrap64 (x5_1 + 1)),(by first | rfl | (simp;done) | (simp [*];done)),(by first | rfl | (simp;done) | (simp [*];done)),H',⟨by have := HK1.out;omega⟩,by repeat (first | exact Drawn0.refl _ | apply Drawn0.step)⟩
    ·rw [if_neg c4] at H
     exact absurd H (by simp)
   ·rw [if_neg c3] at H
    have c3b0 : decide (x5_1 < (l0.length : Int)) = false := decide_eq_false c3
    clear c3
    obtain rfl := Option.some.inj H
    go_wp2
    go_ret
    exact ⟨by first | rfl | (simp;done) | (simp [*];done),by repeat (first | exact Drawn0.refl _ | apply Drawn0.step)⟩

end Go.Proofs.Ytmkpngmdikbbeaa.P
