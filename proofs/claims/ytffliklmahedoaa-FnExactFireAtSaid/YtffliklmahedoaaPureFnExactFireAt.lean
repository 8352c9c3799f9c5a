/- The statement FnExactFireAt over lists alone: the program tells what the reference tells.
Conditions: those of the statement. -/
import Derived.Test.YtffliklmahedoaaPx5
import Derived.Test.YtffliklmahedoaaPx9
import Derived.Test.YtffliklmahedoaaPx10
import Derived.Test.YtffliklmahedoaaPx11
import Derived.Test.YtffliklmahedoaaChipG
import Derived.Test.YtffliklmahedoaaChipD
import Derived.Test.YtffliklmahedoaaChipJ
import Derived.Test.YtffliklmahedoaaMark
namespace Go.Proofs.Ytffliklmahedoaa.Pure
open Go.RowKit Go.Proofs.Ytffliklmahedoaa.P Go.Proofs.YtffliklmahedoaaW.PrintWords Go.Proofs.YtffliklmahedoaaW.PrintLast Go.Proofs.Ytffliklmahedoaa.Chips
set_option linter.unusedSimpArgs false

theorem FireAt_both {l : List Int} (hL : l.length ≤ 1099511627776) (a : Int) : ∃ (K : Nat) (r : List Int × Int × Bool), r.1.length ≤ 1099511627776 ∧ (∀ k, K ≤ k → spec_FireAt.f k l a = some r) ∧ (∀ k, K ≤ k → impl_FireAt.f k l a = some r) := by
  cases h : asked l a with
  | false =>
    refine ⟨l.length + 3, ([], 0, false), by simp, fun k hk => ?_, fun k hk => ?_⟩
    · obtain ⟨k, rfl⟩ : ∃ m, k = m + 1 := ⟨k - 1, by omega⟩
      unfold spec_FireAt.f; rw [chAsked_at hL a (by omega), h]; simp [spec_FireAt.j0]
    · obtain ⟨k, rfl⟩ : ∃ m, k = m + 1 := ⟨k - 1, by omega⟩
      unfold impl_FireAt.f; rw [isPlace_eq hL, h]; simp [impl_FireAt.j0]
  | true =>
    obtain ⟨i, rfl, hi, hg⟩ := asked_nat h
    by_cases c : g l i < 2
    · refine ⟨l.length + 3, ([], 0, false), by simp, fun k hk => ?_, fun k hk => ?_⟩
      · obtain ⟨k, rfl⟩ : ∃ m, k = m + 1 := ⟨k - 1, by omega⟩
        unfold spec_FireAt.f; rw [chAsked_at hL _ (by omega), h]
        simp only [Option.bind_some, if_true]
        rw [if_pos (by omega), if_pos (by omega), rd_g, decide_eq_true c]; simp [spec_FireAt.j0]
      · obtain ⟨k, rfl⟩ : ∃ m, k = m + 1 := ⟨k - 1, by omega⟩
        unfold impl_FireAt.f; rw [isPlace_eq hL, h]
        simp only [Option.bind_some, if_true]
        rw [if_pos (by omega), if_pos (by omega), rd_g, decide_eq_true c]; simp [impl_FireAt.j0]
    · have hb := fun j hj => good_g hg (i := j) hj
      refine ⟨l.length + 6, (fire1 l i, (if i = 0 then 1 else 0) + (if i + 1 = l.length then 1 else 0), true), by rw [len_fire1]; exact hL, fun k hk => ?_, fun k hk => ?_⟩
      · obtain ⟨k, rfl⟩ : ∃ m, k = m + 1 := ⟨k - 1, by omega⟩
        unfold spec_FireAt.f; rw [chAsked_at hL _ (by omega), h]
        simp only [Option.bind_some, if_true]
        rw [if_pos (by omega), if_pos (by omega), rd_g, decide_eq_false c]
        simp only [spec_FireAt.j0]
        rw [if_neg (by simp), chOnce_eq hL hi]
        simp only [Option.bind_some]
        rw [chFire_at (len_once _ _) hL (fun j hj => by have := hb j hj; omega) (fun j _ => by have := once_01 l.length i j; omega) (by omega), fireT_once hi, chLost_eq (by rw [len_once]; omega) (by rw [len_once]; exact hL) (fun j _ => once_01 _ _ _)]
        simp only [Option.bind_some, len_once, g_once]
        congr 3
        congr 1 <;> (congr 1; rw [eq_iff_iff]; omega)
      · obtain ⟨k, rfl⟩ : ∃ m, k = m + 1 := ⟨k - 1, by omega⟩
        unfold impl_FireAt.f; rw [isPlace_eq hL, h]
        simp only [Option.bind_some, if_true]
        rw [if_pos (by omega), if_pos (by omega), rd_g, decide_eq_false c]
        simp only [impl_FireAt.j0]
        unfold slices_Clone_int_int.f
        rw [if_neg (by simp), if_pos (by omega)]
        simp only [Option.bind_some]
        rw [fire_at l i hi hL (fun j hj => by have := hb j hj; omega) k (by omega)]
        rfl
theorem FnExactFireAt : laws_FnExactFireAt.Pure := by
  intro l a _ _ _ _
  unfold laws_FnExactFireAt.f
  by_cases hl : (l.length : Int) > 1048576
  · exact ⟨0, by rw [if_pos hl]⟩
  · have h0l : l.length ≤ 1099511627776 := by omega
    obtain ⟨K, r, hr, hs, hi⟩ := FireAt_both h0l a
    have hTl : ∀ k, l.length < k → laws_toIntS.f k l = some l := fun k hk => toIntS_at h0l hk
    have hEl : ∀ k, l.length < k → laws_eqIntS.f k l l = some true := fun k hk => eqIntS_at h0l hk
    have hEr : ∀ k, r.1.length < k → laws_eqIntS.f k r.1 r.1 = some true := fun k hk => eqIntS_at hr hk
    have hMl : ∀ k, l.length < k → laws_markIntS.f k l ((1 : Int)) = some ((1 : Int) + (l.length : Int), marks ((1 : Int)) l.length) := fun k hk => markIntS_at (by omega) (by omega) h0l hk
    have hMr : ∀ k, r.1.length < k → laws_markIntS.f k r.1 1 = some ((1 : Int) + (r.1.length : Int), marks 1 r.1.length) := fun k hk => markIntS_at (by omega) (by omega) hr hk
    have hHr : ∀ k, r.1.length < k → laws_heldIntS.f k (marks 1 r.1.length) 1 = some ((1 : Int) + (r.1.length : Int)) := fun k hk => heldIntS_at (by omega) (by omega) hr hk
    have hn1 : ¬ ((1 : Int) + (l.length : Int) < 0) := by omega
    have hn2 : ¬ ((1 : Int) + (r.1.length : Int) < 0) := by omega
    refine ⟨K + l.length + r.1.length + 8, ?_⟩
    rw [if_neg hl]
    simp (disch := omega) only [eq_self, hTl, hEl, hs, hi, Option.bind_some, bne_self_eq_false, if_true, if_false, Bool.false_eq_true, Bool.true_eq_false, hMl, hEr, hMr, hHr, if_neg hn1, if_neg hn2]
    simp only [laws_FnExactFireAt.j0]
    simp (disch := omega) only [eq_self, hTl, hEl, hs, hi, Option.bind_some, bne_self_eq_false, if_true, if_false, Bool.false_eq_true, Bool.true_eq_false, hMl, hEr, hMr, hHr, if_neg hn1, if_neg hn2]
    simp only [laws_FnExactFireAt.j1]
    simp (disch := omega) only [eq_self, hTl, hEl, hs, hi, Option.bind_some, bne_self_eq_false, if_true, if_false, Bool.false_eq_true, Bool.true_eq_false, hMl, hEr, hMr, hHr, if_neg hn1, if_neg hn2]
    simp only [laws_FnExactFireAt.j2]
    simp (disch := omega) only [eq_self, hTl, hEl, hs, hi, Option.bind_some, bne_self_eq_false, if_true, if_false, Bool.false_eq_true, Bool.true_eq_false, hMl, hEr, hMr, hHr, if_neg hn1, if_neg hn2]
end Go.Proofs.Ytffliklmahedoaa.Pure
