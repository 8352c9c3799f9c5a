/- The statement FnExactFireAll over lists alone: the program tells what the reference tells.
Conditions: those of the statement. -/
import Derived.Test.YtffliklmahedoaaPx16
import Derived.Test.YtffliklmahedoaaPx17
import Derived.Test.YtffliklmahedoaaChipK
import Derived.Test.YtffliklmahedoaaMark
namespace Go.Proofs.Ytffliklmahedoaa.Pure
open Go.RowKit Go.Proofs.Ytffliklmahedoaa.P Go.Proofs.YtffliklmahedoaaW.PrintWords Go.Proofs.YtffliklmahedoaaW.PrintLast Go.Proofs.Ytffliklmahedoaa.Chips
set_option linter.unusedSimpArgs false

theorem FireAll_both {l : List Int} (hL : l.length ≤ 1099511627776) : ∃ (K : Nat) (r : List Int × Int × Bool), r.1.length ≤ 1099511627776 ∧ (∀ k, K ≤ k → spec_FireAll.f k l = some r) ∧ (∀ k, K ≤ k → impl_FireAll.f k l = some r) := by
  cases h : good l with
  | false =>
    refine ⟨l.length + 1, ([], 0, false), by simp, fun k hk => ?_, fun k hk => ?_⟩
    · unfold spec_FireAll.f; rw [chGood_at hL (by omega), h]; rfl
    · unfold impl_FireAll.f; rw [impl_AreChips_eq, h]; rfl
  | true =>
    have hc := good_calm h
    have hl := good_len h
    refine ⟨2 * l.length + 6, (runs l (places l), lostOf l.length (places l), true), by rw [len_runs]; exact hL, fun k hk => ?_, fun k hk => ?_⟩
    · unfold spec_FireAll.f; rw [chGood_at hL (by omega), h, chReady_at hL (by omega)]
      simp only [Option.bind_some, if_true]
      rw [chFire_at (len_ready l) hL hc.bound' (fun j _ => by have := ready_01 l j; omega) (by omega), fireT_ready, chLost_eq (by rw [len_ready]; omega) (by rw [len_ready]; omega) (fun j _ => ready_01 l j), len_ready, lost_ready hl.1]
      rfl
    · unfold impl_FireAll.f; rw [impl_AreChips_eq, h, Clone_eq hL]
      simp only [Option.bind_some, if_true]
      rw [fireAll_at hc hk]; rfl
theorem FnExactFireAll : laws_FnExactFireAll.Pure := by
  intro l _ _ _
  unfold laws_FnExactFireAll.f
  by_cases hl : (l.length : Int) > 1048576
  · exact ⟨0, by rw [if_pos hl]⟩
  · have h0l : l.length ≤ 1099511627776 := by omega
    obtain ⟨K, r, hr, hs, hi⟩ := FireAll_both h0l
    have hTl : ∀ k, l.length < k → laws_toIntS.f k l = some l := fun k hk => toIntS_at h0l hk
    have hEl : ∀ k, l.length < k → laws_eqIntS.f k l l = some true := fun k hk => eqIntS_at h0l hk
    have hEr : ∀ k, r.1.length < k → laws_eqIntS.f k r.1 r.1 = some true := fun k hk => eqIntS_at hr hk
    have hMl : ∀ k, l.length < k → laws_markIntS.f k l ((1 : Int)) = some ((1 : Int) + (l.length : Int), marks ((1 : Int)) l.length) := fun k hk => markIntS_at (by omega) (by omega) h0l hk
    have hMr : ∀ k, r.1.length < k → laws_markIntS.f k r.1 1 = some ((1 : Int) + (r.1.length : Int), marks 1 r.1.length) := fun k hk => markIntS_at (by omega) (by omega) hr hk
    have hHr : ∀ k, r.1.length < k → laws_heldIntS.f k (marks 1 r.1.length) 1 = some ((1 : Int) + (r.1.length : Int)) := fun k hk => heldIntS_at (by omega) (by omega) hr hk
    have hn1 : ¬ ((1 : Int) + (l.length : Int) < 0) := by omega
    have hn2 : ¬ ((1 : Int) + (r.1.length : Int) < 0) := by omega
    refine ⟨K + l.length + r.1.length + 8, ?_⟩
    rw [if_neg hl]
    simp (disch := omega) only [eq_self, hTl, hEl, hs, hi, Option.bind_some, bne_self_eq_false, if_true, if_false, Bool.false_eq_true, Bool.true_eq_false, hMl, hEr, hMr, hHr, if_neg hn1, if_neg hn2]
    simp only [laws_FnExactFireAll.j0]
    simp (disch := omega) only [eq_self, hTl, hEl, hs, hi, Option.bind_some, bne_self_eq_false, if_true, if_false, Bool.false_eq_true, Bool.true_eq_false, hMl, hEr, hMr, hHr, if_neg hn1, if_neg hn2]
    simp only [laws_FnExactFireAll.j1]
    simp (disch := omega) only [eq_self, hTl, hEl, hs, hi, Option.bind_some, bne_self_eq_false, if_true, if_false, Bool.false_eq_true, Bool.true_eq_false, hMl, hEr, hMr, hHr, if_neg hn1, if_neg hn2]
    simp only [laws_FnExactFireAll.j2]
    simp (disch := omega) only [eq_self, hTl, hEl, hs, hi, Option.bind_some, bne_self_eq_false, if_true, if_false, Bool.false_eq_true, Bool.true_eq_false, hMl, hEr, hMr, hHr, if_neg hn1, if_neg hn2]
end Go.Proofs.Ytffliklmahedoaa.Pure
