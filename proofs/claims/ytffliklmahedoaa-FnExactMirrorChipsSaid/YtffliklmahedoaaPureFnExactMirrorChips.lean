/- The statement FnExactMirrorChips over lists alone: the program tells what the reference tells.
Conditions: those of the statement. -/
import Derived.Test.YtffliklmahedoaaPx5
import Derived.Test.YtffliklmahedoaaPx6
import Derived.Test.YtffliklmahedoaaPx7
import Derived.Test.YtffliklmahedoaaChipC
import Derived.Test.YtffliklmahedoaaMark
namespace Go.Proofs.Ytffliklmahedoaa.Pure
open Go.RowKit Go.Proofs.Ytffliklmahedoaa.P Go.Proofs.YtffliklmahedoaaW.PrintWords Go.Proofs.YtffliklmahedoaaW.PrintLast Go.Proofs.Ytffliklmahedoaa.Chips
set_option linter.unusedSimpArgs false

theorem len_of_good {l : List Int} (h : good l = true) : l.length ≤ 1099511627776 := by have := (good_len h).2; omega
theorem Mirror_l0 {l : List Int} (hL : l.length ≤ 1099511627776) (d : Nat) : ∀ (k : Nat) (out : List Int), d ≤ l.length → out.length + d = l.length → d < k →
    spec_MirrorChips.l0 k l out ((d : Int) - 1) = some (out ++ (l.take d).reverse, true) := by
  induction d with
  | zero =>
    intro k out hd ho hk
    obtain ⟨k, rfl⟩ : ∃ m, k = m + 1 := ⟨k - 1, by omega⟩
    simp only [spec_MirrorChips.l0]
    rw [if_neg (by omega)]; simp
  | succ d ih =>
    intro k out hd ho hk
    obtain ⟨k, rfl⟩ : ∃ m, k = m + 1 := ⟨k - 1, by omega⟩
    simp only [spec_MirrorChips.l0]
    rw [show ((d + 1 : Nat) : Int) - 1 = (d : Int) by omega, if_pos (by omega), if_pos (by omega), if_pos (by omega), if_pos (by omega), rd_g, wrap_id (by omega) (by omega), ih k _ (by omega) (by simp; omega) (by omega), List.take_succ_eq_append_getElem (show d < l.length by omega), g_lt (by omega)]
    simp only [List.append_assoc, List.reverse_append, List.reverse_cons, List.reverse_nil, List.nil_append, List.singleton_append]
theorem Reverse_l0 {l : List Int} (hL : l.length ≤ 1099511627776) (d : Nat) : ∀ (k : Nat) (x : List Int) (i : Nat), x.length = l.length → l.length ≤ 2 * i + d → 2 * i ≤ l.length + 1 → (∀ j, j < l.length → g x j = if j < i ∨ l.length ≤ i + j then g l (l.length - 1 - j) else g l j) → d < k →
    slices_Reverse_int_int.l0 k x (i : Int) ((l.length : Int) - 1 - i) = some l.reverse := by
  have fin : ∀ (x : List Int) (i : Nat), x.length = l.length → l.length ≤ 2 * i + 1 → (∀ j, j < l.length → g x j = if j < i ∨ l.length ≤ i + j then g l (l.length - 1 - j) else g l j) → x = l.reverse := by
    intro x i hx hi hg
    apply ext_g (by simpa using hx)
    intro j hj
    rw [hx] at hj
    rw [hg j hj, g_lt (l := l.reverse) (by simpa using hj), List.getElem_reverse, ← g_lt]
    by_cases c : j < i ∨ l.length ≤ i + j
    · rw [if_pos c]
    · rw [if_neg c]; congr 1; omega
  induction d with
  | zero =>
    intro k x i hx hi hi2 hg hk
    obtain ⟨k, rfl⟩ : ∃ m, k = m + 1 := ⟨k - 1, by omega⟩
    simp only [slices_Reverse_int_int.l0]
    rw [if_neg (by omega), fin x i hx (by omega) hg]
  | succ d ih =>
    intro k x i hx hi hi2 hg hk
    obtain ⟨k, rfl⟩ : ∃ m, k = m + 1 := ⟨k - 1, by omega⟩
    simp only [slices_Reverse_int_int.l0]
    by_cases c : (i : Int) < (l.length : Int) - 1 - i
    · rw [if_pos c, if_pos (by omega), if_pos (by omega), if_pos (by omega), if_pos (by omega), wrap_succ (by omega), wrap_id (by omega) (by omega), show (l.length : Int) - 1 - i - 1 = (l.length : Int) - 1 - ((i + 1 : Nat) : Int) by omega]
      refine ih k _ (i + 1) (by simpa using hx) (by omega) (by omega) ?_ (by omega)
      intro j hj
      have e1 : ((l.length : Int) - 1 - (i : Int)).toNat = l.length - 1 - i := by omega
      rw [rd_g, rd_toNat, e1, Int.toNat_natCast, g_set, g_set, List.length_set, hg i (by omega), hg (l.length - 1 - i) (by omega), hg j hj, hx]
      by_cases a : l.length - 1 - i = j
      · rw [if_pos ⟨a, hj⟩, if_neg (by omega), if_pos (by omega)]; congr 1; omega
      · rw [if_neg (by omega)]
        by_cases b : i = j
        · subst b; rw [if_pos ⟨rfl, hj⟩, if_neg (by omega), if_pos (by omega)]
        · rw [if_neg (by omega)]
          by_cases e : j < i ∨ l.length ≤ i + j
          · rw [if_pos e, if_pos (by omega)]
          · rw [if_neg e, if_neg (by omega)]
    · rw [if_neg c, fin x i hx (by omega) hg]
theorem Reverse_at {l : List Int} (hL : l.length ≤ 1099511627776) {k : Nat} (hk : l.length < k) : slices_Reverse_int_int.f k l = some l.reverse := by
  unfold slices_Reverse_int_int.f
  rw [wrap_id (by omega) (by omega)]
  have := Reverse_l0 hL l.length k l 0 rfl (by omega) (by omega) (fun j hj => by rw [if_neg (by omega)]) hk
  simpa using this
theorem MirrorChips_both {l : List Int} (hL : l.length ≤ 1099511627776) : ∃ (K : Nat) (r : List Int × Bool), r.1.length ≤ 1099511627776 ∧ (∀ k, K ≤ k → spec_MirrorChips.f k l = some r) ∧ (∀ k, K ≤ k → impl_MirrorChips.f k l = some r) := by
  cases h : good l with
  | false =>
    refine ⟨l.length + 1, ([], false), by simp, fun k hk => ?_, fun k hk => ?_⟩
    · unfold spec_MirrorChips.f; rw [chGood_at hL (by omega), h]; rfl
    · unfold impl_MirrorChips.f; rw [impl_AreChips_eq, h]; rfl
  | true =>
    refine ⟨l.length + 1, (l.reverse, true), by simpa using hL, fun k hk => ?_, fun k hk => ?_⟩
    · unfold spec_MirrorChips.f; rw [chGood_at hL (by omega), h, wrap_id (by omega) (by omega)]
      simp only [Option.bind_some, if_true]
      rw [Mirror_l0 hL l.length k [] (by omega) (by simp) (by omega)]; simp
    · unfold impl_MirrorChips.f slices_Clone_int_int.f; rw [impl_AreChips_eq, h, if_pos (by omega)]
      simp only [Option.bind_some, if_true]
      rw [Reverse_at hL (by omega)]; rfl
theorem FnExactMirrorChips : laws_FnExactMirrorChips.Pure := by
  intro l _ _ _
  unfold laws_FnExactMirrorChips.f
  by_cases hl : (l.length : Int) > 1048576
  · exact ⟨0, by rw [if_pos hl]⟩
  · have h0l : l.length ≤ 1099511627776 := by omega
    obtain ⟨K, r, hr, hs, hi⟩ := MirrorChips_both h0l
    have hTl : ∀ k, l.length < k → laws_toIntS.f k l = some l := fun k hk => toIntS_at h0l hk
    have hEl : ∀ k, l.length < k → laws_eqIntS.f k l l = some true := fun k hk => eqIntS_at h0l hk
    have hEr : ∀ k, r.1.length < k → laws_eqIntS.f k r.1 r.1 = some true := fun k hk => eqIntS_at hr hk
    have hMl : ∀ k, l.length < k → laws_markIntS.f k l ((1 : Int)) = some ((1 : Int) + (l.length : Int), marks ((1 : Int)) l.length) := fun k hk => markIntS_at (by omega) (by omega) h0l hk
    have hMr : ∀ k, r.1.length < k → laws_markIntS.f k r.1 1 = some ((1 : Int) + (r.1.length : Int), marks 1 r.1.length) := fun k hk => markIntS_at (by omega) (by omega) hr hk
    have hHr : ∀ k, r.1.length < k → laws_heldIntS.f k (marks 1 r.1.length) 1 = some ((1 : Int) + (r.1.length : Int)) := fun k hk => heldIntS_at (by omega) (by omega) hr hk
    have hn1 : ¬ ((1 : Int) + (l.length : Int) < 0) := by omega
    have hn2 : ¬ ((1 : Int) + (r.1.length : Int) < 0) := by omega
    refine ⟨K + l.length + r.1.length + 8, ?_⟩
    rw [if_neg hl]
    simp (disch := omega) only [eq_self, hTl, hEl, hs, hi, Option.bind_some, bne_self_eq_false, if_true, if_false, Bool.false_eq_true, Bool.true_eq_false, hMl, hEr, hMr, hHr, if_neg hn1, if_neg hn2]
    simp only [laws_FnExactMirrorChips.j0]
    simp (disch := omega) only [eq_self, hTl, hEl, hs, hi, Option.bind_some, bne_self_eq_false, if_true, if_false, Bool.false_eq_true, Bool.true_eq_false, hMl, hEr, hMr, hHr, if_neg hn1, if_neg hn2]
    simp only [laws_FnExactMirrorChips.j1]
    simp (disch := omega) only [eq_self, hTl, hEl, hs, hi, Option.bind_some, bne_self_eq_false, if_true, if_false, Bool.false_eq_true, Bool.true_eq_false, hMl, hEr, hMr, hHr, if_neg hn1, if_neg hn2]
    simp only [laws_FnExactMirrorChips.j2]
    simp (disch := omega) only [eq_self, hTl, hEl, hs, hi, Option.bind_some, bne_self_eq_false, if_true, if_false, Bool.false_eq_true, Bool.true_eq_false, hMl, hEr, hMr, hHr, if_neg hn1, if_neg hn2]
end Go.Proofs.Ytffliklmahedoaa.Pure
