/- The statement FnExactAreCups over numbers and lists alone, and what it is proved by.
Conditions: those of the statement. -/
import Derived.Test.YtidlipobpgfooaaPx1
import Derived.Test.YtidlipobpgfooaaPx2
import Derived.Test.YtidlipobpgfooaaPx3
import Derived.Test.YtidlipobpgfooaaPx21
namespace Go.Proofs.Ytidlipobpgfooaa.Pure
open Go.RowKit Go.Proofs.Ytidlipobpgfooaa.P Go.Proofs.YtidlipobpgfooaaW.PrintWords Go.Proofs.YtidlipobpgfooaaW.PrintLast
set_option linter.unusedSimpArgs false
set_option linter.unusedVariables false

theorem wrap_id {x : Int} (h0 : -9223372036854775808 ≤ x) (h1 : x ≤ 9223372036854775807) : wrap64 x = x := by
  unfold wrap64; omega
theorem wrap_succ {i : Nat} (h : i < 1152921504606846976) : wrap64 ((i : Int) + 1) = ((i + 1 : Nat) : Int) := by
  rw [wrap_id (by omega) (by omega)]; omega
theorem rd_lt {l : List Int} {i : Nat} (h : i < l.length) : rd l (i : Int) = l[i] := by
  simp [rd, List.getD_eq_getElem?_getD, List.getElem?_eq_getElem h]
theorem toIntS_l0 (l : List Int) (hl : l.length ≤ 1099511627776) (d : Nat) : ∀ (k : Nat) (out : List Int) (i : Nat), i + d = l.length → out.length = l.length → d < k →
    laws_toIntS.l0 k l out i = some (out.take i ++ l.drop i) := by
  induction d with
  | zero =>
    intro k out i hi ho hk
    obtain ⟨k, rfl⟩ : ∃ m, k = m + 1 := ⟨k - 1, by omega⟩
    simp only [laws_toIntS.l0]
    rw [if_neg (by omega), List.take_of_length_le (by omega), List.drop_of_length_le (by omega), List.append_nil]
  | succ d ih =>
    intro k out i hi ho hk
    obtain ⟨k, rfl⟩ : ∃ m, k = m + 1 := ⟨k - 1, by omega⟩
    simp only [laws_toIntS.l0]
    rw [if_pos (by omega), if_pos (by omega), if_pos (by omega), wrap_succ (by omega), ih k _ (i + 1) (by omega) (by simpa using ho) (by omega)]
    congr 1
    rw [Int.toNat_natCast, rd_lt (by omega), List.drop_eq_getElem_cons (show i < l.length by omega), List.take_succ_eq_append_getElem (by simp; omega)]
    simp [List.take_set_of_le, List.getElem_set]
theorem toIntS_at {l : List Int} (hl : l.length ≤ 1099511627776) {k : Nat} (hk : l.length < k) : laws_toIntS.f k l = some l := by
  unfold laws_toIntS.f
  rw [if_pos (by omega), if_pos (by omega)]
  have := toIntS_l0 l hl l.length k (List.replicate l.length 0) 0 (by omega) (by simp) hk
  simpa using this
theorem eqIntS_l0 (l : List Int) (hl : l.length ≤ 1099511627776) (d : Nat) : ∀ (k : Nat) (i : Nat), i + d = l.length → d < k → laws_eqIntS.l0 k l l i = some true := by
  induction d with
  | zero =>
    intro k i hi hk
    obtain ⟨k, rfl⟩ : ∃ m, k = m + 1 := ⟨k - 1, by omega⟩
    simp only [laws_eqIntS.l0]
    rw [if_neg (by omega)]
  | succ d ih =>
    intro k i hi hk
    obtain ⟨k, rfl⟩ : ∃ m, k = m + 1 := ⟨k - 1, by omega⟩
    simp only [laws_eqIntS.l0]
    rw [if_pos (by omega), if_pos (by omega), if_pos (by omega), if_pos trivial, wrap_succ (by omega)]
    exact ih k (i + 1) (by omega) (by omega)
theorem eqIntS_at {l : List Int} (hl : l.length ≤ 1099511627776) {k : Nat} (hk : l.length < k) : laws_eqIntS.f k l l = some true := by
  unfold laws_eqIntS.f
  rw [if_pos rfl]
  exact eqIntS_l0 l hl l.length k 0 (by omega) hk
/-- The number at a place, 0 beyond the list. -/
def g (l : List Int) (i : Nat) : Int := l.getD i 0
theorem g_lt {l : List Int} {i : Nat} (h : i < l.length) : g l i = l[i] := by
  simp [g, List.getD_eq_getElem?_getD, List.getElem?_eq_getElem h]
theorem rd_g (l : List Int) (i : Nat) : rd l (i : Int) = g l i := by simp [rd, g]
theorem within_eq (a b c : Int) : impl_within.f a b c = some (inB b c a) := by
  unfold impl_within.f inB
  by_cases h : a ≥ b <;> simp [h] <;> omega
theorem l1In_eq (a b c : Int) : spec_l1In.f a b c = some (inB b c a) := by
  unfold spec_l1In.f inB
  by_cases h : a ≥ b <;> simp [h] <;> omega
theorem l1All_l0 (p q : Int) (l : List Int) (hl : l.length ≤ 1099511627776) (d : Nat) : ∀ (k : Nat) (i : Nat), i + d = l.length → d < k →
    spec_l1All.l0 k p q l (l.length : Int) (i : Int) = some ((l.drop i).all (inB p q)) := by
  induction d with
  | zero =>
    intro k i hi hk
    obtain ⟨k, rfl⟩ : ∃ m, k = m + 1 := ⟨k - 1, by omega⟩
    simp only [spec_l1All.l0]
    rw [if_neg (by omega), List.drop_of_length_le (by omega)]; rfl
  | succ d ih =>
    intro k i hi hk
    obtain ⟨k, rfl⟩ : ∃ m, k = m + 1 := ⟨k - 1, by omega⟩
    simp only [spec_l1All.l0]
    rw [if_pos (by omega), if_pos (by omega), if_pos (by omega), l1In_eq, rd_lt (by omega), List.drop_eq_getElem_cons (show i < l.length by omega), List.all_cons]
    simp only [Option.bind_some]
    by_cases h : inB p q l[i] = true
    · rw [if_pos h, h, wrap_succ (by omega), ih k (i + 1) (by omega) (by omega)]; rfl
    · rw [if_neg h, Bool.eq_false_iff.2 h]; rfl
theorem l1All_at (p q : Int) {l : List Int} (hl : l.length ≤ 1099511627776) {k : Nat} (hk : l.length < k) : spec_l1All.f k l p q = some (l.all (inB p q)) := by
  unfold spec_l1All.f
  have := l1All_l0 p q l hl l.length k 0 (by omega) hk
  simpa using this
theorem beq_oddx (x : Int) : (Int.tmod x 2 == 1) = oddx x := by
  unfold oddx; rw [Bool.eq_iff_iff, beq_iff_eq, decide_eq_true_eq]
/-- Valid cups, as a Bool. -/
def vcup (l : List Int) (u : Int) : Bool := inB 2 6 (l.length : Int) && (inB 1 1048576 u && (Go.bits .and .i64 u (wrap64 (u - 1)) == 0)) && l.all (inB 0 (wrap64 (1000 * u))) && (decide (u = 1) || l.any oddx)
theorem contains_odd1 (l : List Int) : slices_ContainsFunc_int_int.f l 59 = some (l.any oddx) := by
  unfold slices_ContainsFunc_int_int.f; rw [if_pos (by rfl)]
theorem impl_AreCups_at (l : List Int) (u : Int) {k : Nat} (hk : 1 ≤ k) : impl_AreCups.f k l u = some (vcup l u) := by
  obtain ⟨k, rfl⟩ : ∃ m, k = m + 1 := ⟨k - 1, by omega⟩
  unfold impl_AreCups.f vcup
  rw [within_eq, within_eq]
  simp only [Option.bind_some, impl_AreCups.j0, contains_odd1, impl_areIn.f]
  cases h1 : inB 2 6 (l.length : Int) with
  | false => simp
  | true =>
    cases h2 : inB 1 1048576 u with
    | false => simp
    | true =>
      generalize Go.bits .and .i64 u (wrap64 (u - 1)) = b
      by_cases h3 : b = 0
      · subst h3
        cases h4 : l.all (inB 0 (wrap64 (1000 * u))) with
        | false => simp
        | true => by_cases h5 : u = 1 <;> simp [h5]
      · have h4 : (b != 0) = true := by simpa using h3
        have h5 : (b == 0) = false := by simpa using h3
        rw [h4, h5]; simp
theorem cuUnit_eq (u : Int) : spec_cuUnit.f u = some (inB 1 1048576 u && (Go.bits .and .i64 u (wrap64 (u - 1)) == 0)) := by
  unfold spec_cuUnit.f
  rw [l1In_eq]
  cases h2 : inB 1 1048576 u with
  | false => rfl
  | true => simp
theorem cuGood_l0 {l : List Int} (hL : l.length ≤ 1099511627776) (l' : List Int) (u : Int) (d : Nat) : ∀ (k i : Nat) (b : Bool), i + d = l.length → d < k →
    spec_cuGood.l0 k b l (l.length : Int) (i : Int) l' u = some (decide (u = 1) || (b || (l.drop i).any oddx)) := by
  induction d with
  | zero =>
    intro k i b hi hk
    obtain ⟨k, rfl⟩ : ∃ m, k = m + 1 := ⟨k - 1, by omega⟩
    simp only [spec_cuGood.l0]
    rw [if_neg (by omega), List.drop_eq_nil_of_le (by omega)]
    by_cases h : u = 1 <;> simp [h]
  | succ d ih =>
    intro k i b hi hk
    obtain ⟨k, rfl⟩ : ∃ m, k = m + 1 := ⟨k - 1, by omega⟩
    simp only [spec_cuGood.l0]
    rw [if_pos (by omega), if_pos (by omega), if_pos (by omega), wrap_succ (by omega), beq_oddx, rd_g, ih k (i + 1) _ (by omega) (by omega), ih k (i + 1) _ (by omega) (by omega), List.drop_eq_getElem_cons (by omega : i < l.length), List.any_cons, g_lt (by omega)]
    cases b <;> simp
theorem cuGood_at {l : List Int} (hL : l.length ≤ 1099511627776) (u : Int) {k : Nat} (hk : l.length + 1 < k) : spec_cuGood.f k l u = some (vcup l u) := by
  obtain ⟨k, rfl⟩ : ∃ m, k = m + 1 := ⟨k - 1, by omega⟩
  have e : ∀ b, spec_cuGood.j0 (k + 1) b l u = some (!b && (decide (u = 1) || l.any oddx)) := fun b => by
    simp only [spec_cuGood.j0]
    cases b with
    | true => simp
    | false =>
      have := cuGood_l0 hL l u l.length k 0 false (by omega) (by omega)
      simpa using this
  unfold spec_cuGood.f vcup
  rw [l1In_eq, cuUnit_eq, l1All_at _ _ hL (by omega)]
  simp only [Option.bind_some, e]
  cases inB 2 6 (l.length : Int) with
  | false => simp
  | true =>
    cases (inB 1 1048576 u && (Go.bits .and .i64 u (wrap64 (u - 1)) == 0)) with
    | false => simp
    | true => simp
theorem szCups_in {l : List Int} (u : Int) (h : l.length ≤ 1048576) : laws_szCups.f l u 1048576 = some (1048576 - (l.length : Int)) := by
  unfold laws_szCups.f laws_szIntS.f
  rw [wrap_id (by omega) (by omega), if_neg (by omega), Option.bind_some, if_neg (by omega)]
theorem szCups_out {l : List Int} (u : Int) (h : ¬ l.length ≤ 1048576) (hm : l.length ≤ maxLen) : laws_szCups.f l u 1048576 = some (-1) := by
  simp only [maxLen] at hm
  unfold laws_szCups.f laws_szIntS.f
  rw [wrap_id (by omega) (by omega), if_pos (by omega)]; rfl
theorem toCups_at {l : List Int} (hl : l.length ≤ 1099511627776) (u : Int) {k : Nat} (hk : l.length < k) : laws_toCups.f k l u = some (l, u) := by
  unfold laws_toCups.f; rw [toIntS_at hl hk]; rfl
theorem eqCups_at {l : List Int} (hl : l.length ≤ 1099511627776) (u : Int) {k : Nat} (hk : l.length < k) : laws_eqCups.f k l u l u = some true := by
  unfold laws_eqCups.f; rw [eqIntS_at hl hk, Option.bind_some, if_pos rfl, if_pos rfl]
theorem AreCups_both {l : List Int} (hL : l.length ≤ 1099511627776) (u : Int) : ∃ (K : Nat) (r : Bool), (∀ k, K ≤ k → spec_AreCups.f k l u = some r) ∧ (∀ k, K ≤ k → impl_AreCups.f k l u = some r) := by
  refine ⟨l.length + 2, vcup l u, fun k hk => ?_, fun k hk => impl_AreCups_at l u (by omega)⟩
  unfold spec_AreCups.f; rw [cuGood_at hL u (by omega)]; rfl
theorem FnExactAreCups (l : List Int) (u : Int) (hm : l.length ≤ maxLen) (hw : ∀ x ∈ l, (Lit.int .i64 x).wf = true) (hu : (Lit.int .i64 u).wf = true) : ∃ k, laws_FnExactAreCups.f k l u = some true := by
  by_cases hl : l.length ≤ 1048576
  · have h0 : l.length ≤ 1099511627776 := by omega
    obtain ⟨K, r, hs, hi⟩ := AreCups_both h0 u
    have hT : ∀ k, l.length < k → laws_toCups.f k l u = some (l, u) := fun k hk => toCups_at h0 u hk
    have hE : ∀ k, l.length < k → laws_eqCups.f k l u l u = some true := fun k hk => eqCups_at h0 u hk
    have hn : ¬ (1048576 - (l.length : Int) < 0) := by omega
    refine ⟨K + l.length + 8, ?_⟩
    unfold laws_FnExactAreCups.f
    rw [szCups_in u hl, Option.bind_some, if_neg hn]
    simp (disch := omega) only [eq_self, hT, hE, hs, hi, Option.bind_some, bne_self_eq_false, if_true, if_false, Bool.false_eq_true, Bool.true_eq_false, if_neg hn]
  · exact ⟨0, by unfold laws_FnExactAreCups.f; rw [szCups_out u hl hm]; rfl⟩
end Go.Proofs.Ytidlipobpgfooaa.Pure
