/- The statement FnExactCupsOf over numbers and lists alone, and what it is proved by.
Conditions: those of the statement. -/
import Derived.Test.YtidlipobpgfooaaPx1
import Derived.Test.YtidlipobpgfooaaPx2
import Derived.Test.YtidlipobpgfooaaPx4
import Derived.Test.YtidlipobpgfooaaPx9
import Derived.Test.YtidlipobpgfooaaPx11
import Derived.Test.YtidlipobpgfooaaPx15
import Derived.Test.YtidlipobpgfooaaPx23
import Derived.Test.YtidlipobpgfooaaPx24
namespace Go.Proofs.Ytidlipobpgfooaa.Pure
open Go.RowKit Go.Proofs.Ytidlipobpgfooaa.P Go.Proofs.YtidlipobpgfooaaW.PrintWords Go.Proofs.YtidlipobpgfooaaW.PrintLast
set_option linter.unusedSimpArgs false
set_option linter.unusedVariables false

theorem wrap_id {x : Int} (h0 : -9223372036854775808 ≤ x) (h1 : x ≤ 9223372036854775807) : wrap64 x = x := by
  unfold wrap64; omega
theorem wrap_succ {i : Nat} (h : i < 1152921504606846976) : wrap64 ((i : Int) + 1) = ((i + 1 : Nat) : Int) := by
  rw [wrap_id (by omega) (by omega)]; omega
theorem rd_lt {l : List Int} {i : Nat} (h : i < l.length) : rd l (i : Int) = l[i] := by
  simp [rd, List.getD_eq_getElem?_getD, List.getElem?_eq_getElem h]
theorem toIntS_l0 (l : List Int) (hl : l.length ≤ 1099511627776) (d : Nat) : ∀ (k : Nat) (out : List Int) (i : Nat), i + d = l.length → out.length = l.length → d < k →
    laws_toIntS.l0 k l out i = some (out.take i ++ l.drop i) := by
  induction d with
  | zero =>
    intro k out i hi ho hk
    obtain ⟨k, rfl⟩ : ∃ m, k = m + 1 := ⟨k - 1, by omega⟩
    simp only [laws_toIntS.l0]
    rw [if_neg (by omega), List.take_of_length_le (by omega), List.drop_of_length_le (by omega), List.append_nil]
  | succ d ih =>
    intro k out i hi ho hk
    obtain ⟨k, rfl⟩ : ∃ m, k = m + 1 := ⟨k - 1, by omega⟩
    simp only [laws_toIntS.l0]
    rw [if_pos (by omega), if_pos (by omega), if_pos (by omega), wrap_succ (by omega), ih k _ (i + 1) (by omega) (by simpa using ho) (by omega)]
    congr 1
    rw [Int.toNat_natCast, rd_lt (by omega), List.drop_eq_getElem_cons (show i < l.length by omega), List.take_succ_eq_append_getElem (by simp; omega)]
    simp [List.take_set_of_le, List.getElem_set]
theorem toIntS_at {l : List Int} (hl : l.length ≤ 1099511627776) {k : Nat} (hk : l.length < k) : laws_toIntS.f k l = some l := by
  unfold laws_toIntS.f
  rw [if_pos (by omega), if_pos (by omega)]
  have := toIntS_l0 l hl l.length k (List.replicate l.length 0) 0 (by omega) (by simp) hk
  simpa using this
theorem eqIntS_l0 (l : List Int) (hl : l.length ≤ 1099511627776) (d : Nat) : ∀ (k : Nat) (i : Nat), i + d = l.length → d < k → laws_eqIntS.l0 k l l i = some true := by
  induction d with
  | zero =>
    intro k i hi hk
    obtain ⟨k, rfl⟩ : ∃ m, k = m + 1 := ⟨k - 1, by omega⟩
    simp only [laws_eqIntS.l0]
    rw [if_neg (by omega)]
  | succ d ih =>
    intro k i hi hk
    obtain ⟨k, rfl⟩ : ∃ m, k = m + 1 := ⟨k - 1, by omega⟩
    simp only [laws_eqIntS.l0]
    rw [if_pos (by omega), if_pos (by omega), if_pos (by omega), if_pos trivial, wrap_succ (by omega)]
    exact ih k (i + 1) (by omega) (by omega)
theorem eqIntS_at {l : List Int} (hl : l.length ≤ 1099511627776) {k : Nat} (hk : l.length < k) : laws_eqIntS.f k l l = some true := by
  unfold laws_eqIntS.f
  rw [if_pos rfl]
  exact eqIntS_l0 l hl l.length k 0 (by omega) hk
/-- The numbers from m on. -/
def marks (m : Int) (n : Nat) : List Int := (List.range n).map fun (i : Nat) => m + (i : Int)
theorem marks_len (m : Int) (n : Nat) : (marks m n).length = n := by simp [marks]
theorem marks_get (m : Int) (n i : Nat) (h : i < (marks m n).length) : (marks m n)[i] = m + (i : Int) := by simp [marks]
theorem markIntS_l0 (m : Int) (n : Nat) (hm : 0 ≤ m) (hm2 : m ≤ 1099511627776) (hn : n ≤ 1099511627776) (d : Nat) : ∀ (k : Nat) (l : List Int) (i : Nat), i + d = n → l.length = n → d < k →
    laws_markIntS.l0 k l (m + (i : Int)) (i : Int) = some (m + n, l.take i ++ (marks m n).drop i) := by
  induction d with
  | zero =>
    intro k l i hi hl hk
    obtain ⟨k, rfl⟩ : ∃ m, k = m + 1 := ⟨k - 1, by omega⟩
    simp only [laws_markIntS.l0]
    rw [if_neg (by omega), List.take_of_length_le (by omega), List.drop_of_length_le (by rw [marks_len]; omega), List.append_nil]
    congr 3; omega
  | succ d ih =>
    intro k l i hi hl hk
    obtain ⟨k, rfl⟩ : ∃ m, k = m + 1 := ⟨k - 1, by omega⟩
    simp only [laws_markIntS.l0]
    rw [if_pos (by omega), if_pos (by omega), wrap_succ (by omega), wrap_id (by omega) (by omega)]
    rw [show m + (i : Int) + 1 = m + ((i + 1 : Nat) : Int) by omega, ih k _ (i + 1) (by omega) (by simpa using hl) (by omega)]
    congr 2
    rw [Int.toNat_natCast, List.drop_eq_getElem_cons (show i < (marks m n).length by rw [marks_len]; omega), marks_get, List.take_succ_eq_append_getElem (by simp; omega)]
    simp [List.take_set_of_le]
theorem markIntS_at {m : Int} {l : List Int} (hm : 0 ≤ m) (hm2 : m ≤ 1099511627776) (hl : l.length ≤ 1099511627776) {k : Nat} (hk : l.length < k) : laws_markIntS.f k l m = some (m + l.length, marks m l.length) := by
  unfold laws_markIntS.f
  have := markIntS_l0 m l.length hm hm2 hl l.length k l 0 (by omega) rfl hk
  simpa using this
theorem heldIntS_l0 (m : Int) (n : Nat) (hm : 0 ≤ m) (hm2 : m ≤ 1099511627776) (hn : n ≤ 1099511627776) (d : Nat) : ∀ (k : Nat) (i : Nat), i + d = n → d < k →
    laws_heldIntS.l0 k (marks m n) (m + (i : Int)) (i : Int) = some (m + n) := by
  induction d with
  | zero =>
    intro k i hi hk
    obtain ⟨k, rfl⟩ : ∃ m, k = m + 1 := ⟨k - 1, by omega⟩
    simp only [laws_heldIntS.l0]
    rw [marks_len, if_neg (by omega)]
    congr 2; omega
  | succ d ih =>
    intro k i hi hk
    obtain ⟨k, rfl⟩ : ∃ m, k = m + 1 := ⟨k - 1, by omega⟩
    simp only [laws_heldIntS.l0]
    rw [marks_len, if_pos (by omega), if_pos (by omega), rd_lt (by rw [marks_len]; omega), marks_get, if_pos rfl, wrap_succ (by omega), wrap_id (by omega) (by omega)]
    rw [show m + (i : Int) + 1 = m + ((i + 1 : Nat) : Int) by omega, ih k (i + 1) (by omega) (by omega)]
theorem heldIntS_at {m : Int} {n : Nat} (hm : 0 ≤ m) (hm2 : m ≤ 1099511627776) (hn : n ≤ 1099511627776) {k : Nat} (hk : n < k) : laws_heldIntS.f k (marks m n) m = some (m + n) := by
  unfold laws_heldIntS.f
  have := heldIntS_l0 m n hm hm2 hn n k 0 (by omega) hk
  simpa using this
theorem within_eq (a b c : Int) : impl_within.f a b c = some (inB b c a) := by
  unfold impl_within.f inB
  by_cases h : a ≥ b <;> simp [h] <;> omega
theorem l1In_eq (a b c : Int) : spec_l1In.f a b c = some (inB b c a) := by
  unfold spec_l1In.f inB
  by_cases h : a ≥ b <;> simp [h] <;> omega
theorem l1All_l0 (p q : Int) (l : List Int) (hl : l.length ≤ 1099511627776) (d : Nat) : ∀ (k : Nat) (i : Nat), i + d = l.length → d < k →
    spec_l1All.l0 k p q l (l.length : Int) (i : Int) = some ((l.drop i).all (inB p q)) := by
  induction d with
  | zero =>
    intro k i hi hk
    obtain ⟨k, rfl⟩ : ∃ m, k = m + 1 := ⟨k - 1, by omega⟩
    simp only [spec_l1All.l0]
    rw [if_neg (by omega), List.drop_of_length_le (by omega)]; rfl
  | succ d ih =>
    intro k i hi hk
    obtain ⟨k, rfl⟩ : ∃ m, k = m + 1 := ⟨k - 1, by omega⟩
    simp only [spec_l1All.l0]
    rw [if_pos (by omega), if_pos (by omega), if_pos (by omega), l1In_eq, rd_lt (by omega), List.drop_eq_getElem_cons (show i < l.length by omega), List.all_cons]
    simp only [Option.bind_some]
    by_cases h : inB p q l[i] = true
    · rw [if_pos h, h, wrap_succ (by omega), ih k (i + 1) (by omega) (by omega)]; rfl
    · rw [if_neg h, Bool.eq_false_iff.2 h]; rfl
theorem l1All_at (p q : Int) {l : List Int} (hl : l.length ≤ 1099511627776) {k : Nat} (hk : l.length < k) : spec_l1All.f k l p q = some (l.all (inB p q)) := by
  unfold spec_l1All.f
  have := l1All_l0 p q l hl l.length k 0 (by omega) hk
  simpa using this
theorem l1Own_eq {l : List Int} (h : l.length ≤ 1099511627776) : spec_l1Own.f l = some l := by
  unfold spec_l1Own.f
  simp only [Option.bind_some, List.length_nil, List.nil_append]
  rw [if_pos (by omega)]
/-- Valid cups, as a Bool. -/
def vcup (l : List Int) (u : Int) : Bool := inB 2 6 (l.length : Int) && (inB 1 1048576 u && (Go.bits .and .i64 u (wrap64 (u - 1)) == 0)) && l.all (inB 0 (wrap64 (1000 * u))) && (decide (u = 1) || l.any oddx)
theorem contains_odd1 (l : List Int) : slices_ContainsFunc_int_int.f l 59 = some (l.any oddx) := by
  unfold slices_ContainsFunc_int_int.f; rw [if_pos (by rfl)]
theorem impl_AreCups_at (l : List Int) (u : Int) {k : Nat} (hk : 1 ≤ k) : impl_AreCups.f k l u = some (vcup l u) := by
  obtain ⟨k, rfl⟩ : ∃ m, k = m + 1 := ⟨k - 1, by omega⟩
  unfold impl_AreCups.f vcup
  rw [within_eq, within_eq]
  simp only [Option.bind_some, impl_AreCups.j0, contains_odd1, impl_areIn.f]
  cases h1 : inB 2 6 (l.length : Int) with
  | false => simp
  | true =>
    cases h2 : inB 1 1048576 u with
    | false => simp
    | true =>
      generalize Go.bits .and .i64 u (wrap64 (u - 1)) = b
      by_cases h3 : b = 0
      · subst h3
        cases h4 : l.all (inB 0 (wrap64 (1000 * u))) with
        | false => simp
        | true => by_cases h5 : u = 1 <;> simp [h5]
      · have h4 : (b != 0) = true := by simpa using h3
        have h5 : (b == 0) = false := by simpa using h3
        rw [h4, h5]; simp
theorem eqCups_at {l : List Int} (hl : l.length ≤ 1099511627776) (u : Int) {k : Nat} (hk : l.length < k) : laws_eqCups.f k l u l u = some true := by
  unfold laws_eqCups.f; rw [eqIntS_at hl hk, Option.bind_some, if_pos rfl, if_pos rfl]
theorem Clone64_eq {l : List Int} (h : l.length ≤ 1099511627776) : slices_Clone_int_int_64.f l = some l := by
  unfold slices_Clone_int_int_64.f
  rw [if_pos (by omega)]
theorem vcup_one (l : List Int) : vcup l 1 = (inB 2 6 (l.length : Int) && l.all (inB 0 1000)) := by
  unfold vcup
  have e0 : wrap64 (1 - 1) = 0 := wrap_id (by omega) (by omega)
  have e : Go.bits .and .i64 1 (wrap64 (1 - 1)) = 0 := by rw [e0]; decide
  have e2 : wrap64 (1000 * 1) = 1000 := wrap_id (by omega) (by omega)
  rw [e, e2]
  have e3 : inB 1 1048576 1 = true := by rfl
  rw [e3]; simp
theorem CupsOf_both {l : List Int} (hL : l.length ≤ 1099511627776) : ∃ (K : Nat) (r : List Int × Int × Bool), r.1.length ≤ 1099511627776 ∧ (∀ k, K ≤ k → spec_CupsOf.f k l = some r) ∧ (∀ k, K ≤ k → impl_CupsOf.f k l = some r) := by
  refine ⟨l.length + 2, if vcup l 1 = true then (l, 1, true) else ([], 0, false), by split; exact hL; simp, fun k hk => ?_, fun k hk => ?_⟩
  · unfold spec_CupsOf.f
    rw [l1In_eq, l1All_at _ _ hL (by omega), l1Own_eq hL, vcup_one]
    cases h1 : inB 2 6 (l.length : Int) with
    | false => rfl
    | true =>
      cases h2 : l.all (inB 0 1000) with
      | false => rfl
      | true => rfl
  · unfold impl_CupsOf.f
    rw [Clone64_eq hL, Option.bind_some, impl_AreCups_at l 1 (by omega), Option.bind_some]
    cases vcup l 1 <;> rfl
theorem FnExactCupsOf : laws_FnExactCupsOf.Pure := by
  intro l0 _ _ _
  unfold laws_FnExactCupsOf.f
  by_cases hl0 : (l0.length : Int) > 1048576
  · exact ⟨0, by rw [if_pos hl0]⟩
  · have h0l0 : l0.length ≤ 1099511627776 := by omega
    obtain ⟨K, r, hr, hs, hi⟩ := CupsOf_both h0l0
    have hTl0 : ∀ k, l0.length < k → laws_toIntS.f k l0 = some l0 := fun k hk => toIntS_at h0l0 hk
    have hEl0 : ∀ k, l0.length < k → laws_eqIntS.f k l0 l0 = some true := fun k hk => eqIntS_at h0l0 hk
    have hMl0 : ∀ k, l0.length < k → laws_markIntS.f k l0 1 = some ((1 : Int) + (l0.length : Int), marks 1 l0.length) := fun k hk => markIntS_at (by omega) (by omega) h0l0 hk
    have hEr : ∀ k, r.1.length < k → laws_eqCups.f k r.1 r.2.1 r.1 r.2.1 = some true := fun k hk => eqCups_at hr _ hk
    have hn1 : ¬ ((1 : Int) + (l0.length : Int) < 0) := by omega
    have hn2 : ¬ ((1 : Int) + (r.1.length : Int) < 0) := by omega
    have hMr : ∀ k, r.1.length < k → laws_markCups.f k r.1 r.2.1 1 = some ((1 : Int) + (r.1.length : Int), marks 1 r.1.length) := fun k hk => by
      unfold laws_markCups.f; rw [markIntS_at (by omega) (by omega) hr hk]; rfl
    have hHr : ∀ k, r.1.length < k → laws_heldCups.f k (marks 1 r.1.length) r.2.1 1 = some ((1 : Int) + (r.1.length : Int)) := fun k hk => by
      unfold laws_heldCups.f; rw [heldIntS_at (by omega) (by omega) hr hk, Option.bind_some, if_neg hn2]
    refine ⟨K + l0.length + r.1.length + 8, ?_⟩
    rw [if_neg hl0]
    simp (disch := omega) only [eq_self, hTl0, hEl0, hs, hi, Option.bind_some, bne_self_eq_false, if_true, if_false, Bool.false_eq_true, Bool.true_eq_false, hMl0, hEr, hMr, hHr, if_neg hn1, if_neg hn2]
    simp only [laws_FnExactCupsOf.j0]
    simp (disch := omega) only [eq_self, hTl0, hEl0, hs, hi, Option.bind_some, bne_self_eq_false, if_true, if_false, Bool.false_eq_true, Bool.true_eq_false, hMl0, hEr, hMr, hHr, if_neg hn1, if_neg hn2]
    simp only [laws_FnExactCupsOf.j1]
    simp (disch := omega) only [eq_self, hTl0, hEl0, hs, hi, Option.bind_some, bne_self_eq_false, if_true, if_false, Bool.false_eq_true, Bool.true_eq_false, hMl0, hEr, hMr, hHr, if_neg hn1, if_neg hn2]
    simp only [laws_FnExactCupsOf.j2]
    simp (disch := omega) only [eq_self, hTl0, hEl0, hs, hi, Option.bind_some, bne_self_eq_false, if_true, if_false, Bool.false_eq_true, Bool.true_eq_false, hMl0, hEr, hMr, hHr, if_neg hn1, if_neg hn2]
end Go.Proofs.Ytidlipobpgfooaa.Pure
