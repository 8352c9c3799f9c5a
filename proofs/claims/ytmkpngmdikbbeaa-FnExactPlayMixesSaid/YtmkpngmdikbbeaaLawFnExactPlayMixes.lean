/- Written by a program of this workplace (own_row.py): the row of a law that takes a struct by value. Lean checks it. -/
import Derived.Test.YtmkpngmdikbbeaaRows
import Derived.Test.YtmkpngmdikbbeaaHeads
import Derived.Test.YtmkpngmdikbbeaaPx21
import Derived.Test.YtmkpngmdikbbeaaPureFnExactPlayMixes
import Derived.WalkKit
import Derived.ProofKit
import Derived.OpenShut
import Derived.ShutString
import Derived.ChangeOld
import Derived.Below
import Derived.SizedLaws
import Derived.Lib.SmallJoins
import Derived.Deep.Matrix
namespace Go.Proofs.Ytmkpngmdikbbeaa.fnExactPlayMixes
open Go.ChangeShapes Go.WideShapes Go.ChangeAt Go.RowKit Go.Proofs.YtmkpngmdikbbeaaW.PrintWords
set_option linter.unusedVariables false
theorem own : ownKnob Try.prog.godebug = none := by kernel_rfl
theorem laidOut : laidOutB Try.prog = true := by kernel_rfl
def IsRow (k : IntKind) (w : World) (a : Option Addr) (len cap : Nat) (zs : List Int) : Prop :=
  (a = none ∧ len = 0 ∧ cap = 0 ∧ zs = []) ∨
  ∃ x, a = some x ∧ len ≤ cap ∧ cap ≤ maxLen ∧ zs.length = cap ∧ (∀ i, i < zs.length → w.cell? (x.add i) = some (.int k (zs.getD i 0))) ∧ ∀ n ∈ zs, (Lit.int k n).wf = true
theorem openRow {H : Type} {enc : TypeId × Value → H} {W : World} {base : Nat} {held : Bool} {c : Value} {y : DataW H × List MemPlace} (h : ∃ n, DataW.trod enc Try.prog W base (fun _ => true) held n 22 [c] = some y) :
    ∃ (a : Option Addr) (len cap : Nat) (zs : List Int), c = .slice a len cap ∧ IsRow .i64 W a len cap zs := by
  obtain ⟨fuel, hf⟩ := h
  rcases open_ints Try.underlying22 Try.underlying3 (by kernel_rfl) hf with ⟨hcs, _⟩ | ⟨x, l, c, zs, hcs, _, hl, hm, hz, _, hcell, hwz⟩
  · simp at hcs
    exact ⟨none, 0, 0, [], hcs, .inl ⟨rfl, rfl, rfl, rfl⟩⟩
  · simp at hcs
    exact ⟨_, _, _, zs, hcs, .inr ⟨_, rfl, hl, hm, by simpa using hz, hcell, hwz⟩⟩
theorem openRows {H : Type} {enc : TypeId × Value → H} {W : World} {base : Nat} {held : Bool} {c : Value} {y : DataW H × List MemPlace} (h : ∃ n, DataW.trod enc Try.prog W base (fun _ => true) held n 26 [c] = some y) :
    ∃ (a : Option Addr) (cap : Nat) (ms : List (List Int)), c = .slice a ms.length cap ∧ ms.length ≤ cap ∧ ms.length ≤ maxLen ∧ (∀ r ∈ ms, r.length ≤ maxLen) ∧ Kd.C (Kd.slice 3 (Kd.int .i64)) W a ms.length ms := by
  obtain ⟨fuel, hf⟩ := h
  rcases Go.Deep.open_int_rows Try.underlying26 Try.underlying22 Try.underlying3 (by kernel_rfl) (by kernel_rfl) hf with ⟨hcs, _⟩ | ⟨a, len, cap, A, L, C, Z, hcs, _, hl, hm, _, hrows⟩
  · simp at hcs
    exact ⟨none, 0, [], hcs, Nat.le_refl _, Nat.zero_le _, (fun r hr => by cases hr), Kd.C_nil _ _⟩
  · simp at hcs
    have hlen : ((List.range len).map fun r => (Z r).take (L r)).length = len := by simp
    have hrow : ∀ r, r < len → ((Z r).take (L r)).length = L r := fun r hr => by
      obtain ⟨_, h1, _, h2, _⟩ := hrows r (by omega)
      rw [List.length_take]; omega
    refine ⟨some a, cap, (List.range len).map fun r => (Z r).take (L r), by rw [hlen]; exact hcs, by rw [hlen]; exact hl, by rw [hlen]; omega, fun r hr => ?_, hlen.symm ▸ hlen, ?_, fun _ => ⟨a, rfl, fun j p hj => ?_⟩⟩
    · obtain ⟨i, hi, rfl⟩ := List.mem_map.1 hr
      have hi := List.mem_range.1 hi
      obtain ⟨_, h1, h3, _⟩ := hrows i (by omega)
      rw [hrow i hi]; omega
    · rw [hlen]; unfold maxLen at hm; omega
    · rw [List.getElem?_map] at hj
      obtain ⟨i, hi, rfl⟩ := Option.map_eq_some_iff.1 hj
      obtain ⟨hil, hie⟩ := List.getElem?_eq_some_iff.1 hi
      rw [List.getElem_range] at hie
      subst hie
      rw [List.length_range] at hil
      obtain ⟨hc, h1, h3, h2, _, h4, h5⟩ := hrows j (by omega)
      have hr := hrow j hil
      refine ⟨[.slice (A j) (L j) (C j)], rfl, ⟨A j, C j, by rw [hr], by rw [hr]; exact h1, rfl, by rw [hr]; unfold maxLen at h3; omega, fun hp => ?_⟩, fun i u hu => ?_⟩
      · rw [hr] at hp
        cases hA : A j with
        | none => have := h4 hA; omega
        | some a' =>
          refine ⟨a', rfl, fun q p hq => ?_⟩
          obtain ⟨hql, hqe⟩ := List.getElem?_eq_some_iff.1 hq
          have hq' : q < L j := by rw [hr] at hql; exact hql
          refine ⟨[.int .i64 p], rfl, rfl, fun i u hu => ?_⟩
          cases i with
          | succ i => simp at hu
          | zero =>
            have hu : Value.int .i64 p = u := by simpa using hu
            subst hu
            have := (h5 a' hA).2 q (by omega)
            rw [List.getElem_take] at hqe
            rw [show (Kd.int .i64).sz = 1 from rfl, Nat.mul_one, Nat.add_zero, this, List.getD_eq_getElem?_getD, List.getElem?_eq_getElem (by omega), Option.getD_some, hqe]
      · cases i with
        | succ i => simp at hu
        | zero =>
          have hu : Value.slice (A j) (L j) (C j) = u := by simpa using hu
          subst hu
          rw [show (Kd.slice 3 (Kd.int .i64)).sz = 1 from rfl, Nat.mul_one, Nat.add_zero]
          exact hc
set_option maxRecDepth 100000 in
theorem lifted (os : Os) (started : os.Started) (H : Type) (enc : TypeId × Value → H) :
    ReturnsInHanded {} Try.checked os 4 .any (Rows.fnExactPlayMixesSpec.pre6 enc Try.prog Try.f4 Rows.fnExactPlayMixesRow.domain false) (Rows.fnExactPlayMixesSpec.post enc Try.prog Try.f4 false true false false) := by
  refine returnsInHanded_of_change_sized (C := Try.checked) own started (by kernel_rfl) Try.func4
    (ChangeSpec.witness6 (enc := enc) (C := Try.checked) false ⟨#[], #[.agg #[.slice none 0 0, .int .i64 0], .slice none 0 0], []⟩ 8 (by kernel_rfl) (by kernel_rfl) (by kernel_rfl) (by kernel_rfl)) ?_
  intro W base args ds gs before hval0 hW hcnd hsz0 _
  have hval : ∀ (j : Nat) t v, Try.f4.params[j]? = some t → args[j]? = some v → Value.okWide Try.prog W .any base t v := hval0
  have hW' := hW
  obtain ⟨p, q, hA0, hV, rfl, hfz, hnd⟩ := hW
  have hA : DataW.TrodAll enc Try.prog W 0 (fun _ => true) true Try.f4.params.toList args.toList ds p := hA0
  rw [Try.params4] at hA hval
  obtain ⟨v0, vs0, d0, ds0, p0, q0, hargs, rfl, rfl, h0, r0⟩ := trodAll_cons hA
  obtain ⟨v1, vs1, d1, ds1, p1, q1, rfl, rfl, rfl, h1, r1⟩ := trodAll_cons r0
  obtain ⟨rfl, rfl, rfl⟩ := trodAll_nil r1
  obtain rfl : args = #[v0, v1] := by cases args; simp_all
  obtain ⟨rfl, rfl⟩ := trodVars_none hV
  have k0 := h0
  have lt0 : ∀ x ∈ p0, x.block < W.heap.size := by obtain ⟨m, hm⟩ := k0; exact DataW.trod_lt m _ _ _ hm
  obtain ⟨b0, e0, yb0, ye0, m0, rfl, rfl, rfl, hb0, he0⟩ := Joins.open_agg2 Try.underlying24 (by kernel_rfl) (by first | exact Try.cells24 | kernel_rfl) (hval 0 24 v0 rfl rfl) h0
  obtain ⟨A0, len0, cap0, z0, rfl, w0⟩ := openRow ⟨_, hb0⟩
  obtain ⟨n0, en0, _, wn0⟩ := DataW.trod_int Try.underlying3 he0
  simp only [List.cons.injEq, and_true] at en0
  subst en0
  obtain ⟨l0, rfl, hr0, hm0, hw0, hc0⟩ := Go.Proofs.YtmkpngmdikbbeaaW.PrintWords.ReadsInt.ofRowC w0
  have k1 := h1
  have lt1 : ∀ x ∈ p1, x.block < W.heap.size := by obtain ⟨m, hm⟩ := k1; exact DataW.trod_lt m _ _ _ hm
  obtain ⟨A1, len1, cap1, rfl⟩ := okWide_slice Try.underlying26 (hval 1 26 v1 rfl rfl)
  obtain ⟨B1, bap1, ms1, eb1, hc1, hm1, hw1, hr1⟩ := openRows h1
  injection eb1 with eb1 eb2 eb3
  subst eb1 eb2 eb3
  have hk := Pure.FnExactPlayMixes l0 n0 ms1 hm0 hw0 wn0 hm1 hw1
  clear hA0 hval0 hsz0
  refine (P.laws_FnExactPlayMixes.walkC _ _ l0 n0 _ _ ms1 W (Kd.C_of_reads (d := (0 : Int)) (h1 := fun _ => rfl) hr0) hc0 hr1 hc1 hk).mono fun e W' ⟨he, bel⟩ => ?_
  subst he
  exact ⟨_, rfl, _, _, _, [], _, [], hW', trodAll_mk1 (shut_bool Try.underlying4 _), (trodAll_cons_mk (Below.trod laidOut (by kernel_rfl) (of_decide_eq_true (by kernel_rfl)) k0 bel lt0) (trodAll_cons_mk (Below.trod laidOut (by kernel_rfl) (of_decide_eq_true (by kernel_rfl)) k1 bel lt1) trodAll_mk0)), rfl, bel.frame _, fun h => by cases h⟩
theorem facts : joinedFacts Try.prog 4 Try.f4 Rows.fnExactPlayMixesSpec Rows.fnExactPlayMixesRow = true := by
  obtain ⟨h1, h2, h3⟩ := Heads.heads
  unfold joinedFacts
  rw [h1, h2, h3]
  clear h1 h2 h3
  kernel_rfl
theorem over : Rows.fnExactPlayMixesRow.holds Try.pinned (OpenSpec.ofChange Rows.fnExactPlayMixesSpec) :=
  OpenClaim.holds_of_wide 4 Try.f4 rfl rfl rfl rfl rfl rfl rfl ⟨rfl, rfl, rfl, rfl, rfl⟩ rfl rfl rfl rfl rfl (by kernel_rfl) Try.func4 facts
    (of_decide_eq_true (by kernel_rfl)) (by unfold Func.isWrapper; first | (rw [if_pos (by decide +kernel)]; kernel_rfl) | (rw [if_neg (by decide +kernel)]; exact ⟨rfl, rfl⟩))
    (fun os started H enc _ => lifted os started H enc)
theorem proved : Rows.FnExactPlayMixesSaid := over
#print axioms proved
end Go.Proofs.Ytmkpngmdikbbeaa.fnExactPlayMixes
namespace Go.Proofs.Ytmkpngmdikbbeaa
/-- The row, under a short name, for the claim. -/
theorem fnExactPlayMixes_holds : Rows.FnExactPlayMixesSaid := fnExactPlayMixes.proved
end Go.Proofs.Ytmkpngmdikbbeaa
