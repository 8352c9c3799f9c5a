/- The statement FnExactMeanOfCups over numbers and lists alone, and what it is proved by.
Conditions: those of the statement. -/
import Derived.Test.YtidlipobpgfooaaPx1
import Derived.Test.YtidlipobpgfooaaPx2
import Derived.Test.YtidlipobpgfooaaPx3
import Derived.Test.YtidlipobpgfooaaPx7
import Derived.Test.YtidlipobpgfooaaPx29
import Derived.Test.YtidlipobpgfooaaPx30
namespace Go.Proofs.Ytidlipobpgfooaa.Pure
open Go.RowKit Go.Proofs.Ytidlipobpgfooaa.P Go.Proofs.YtidlipobpgfooaaW.PrintWords Go.Proofs.YtidlipobpgfooaaW.PrintLast
set_option linter.unusedSimpArgs false
set_option linter.unusedVariables false

theorem wrap_id {x : Int} (h0 : -9223372036854775808 ≤ x) (h1 : x ≤ 9223372036854775807) : wrap64 x = x := by
  unfold wrap64; omega
theorem wrap_succ {i : Nat} (h : i < 1152921504606846976) : wrap64 ((i : Int) + 1) = ((i + 1 : Nat) : Int) := by
  rw [wrap_id (by omega) (by omega)]; omega
theorem rd_lt {l : List Int} {i : Nat} (h : i < l.length) : rd l (i : Int) = l[i] := by
  simp [rd, List.getD_eq_getElem?_getD, List.getElem?_eq_getElem h]
theorem toIntS_l0 (l : List Int) (hl : l.length ≤ 1099511627776) (d : Nat) : ∀ (k : Nat) (out : List Int) (i : Nat), i + d = l.length → out.length = l.length → d < k →
    laws_toIntS.l0 k l out i = some (out.take i ++ l.drop i) := by
  induction d with
  | zero =>
    intro k out i hi ho hk
    obtain ⟨k, rfl⟩ : ∃ m, k = m + 1 := ⟨k - 1, by omega⟩
    simp only [laws_toIntS.l0]
    rw [if_neg (by omega), List.take_of_length_le (by omega), List.drop_of_length_le (by omega), List.append_nil]
  | succ d ih =>
    intro k out i hi ho hk
    obtain ⟨k, rfl⟩ : ∃ m, k = m + 1 := ⟨k - 1, by omega⟩
    simp only [laws_toIntS.l0]
    rw [if_pos (by omega), if_pos (by omega), if_pos (by omega), wrap_succ (by omega), ih k _ (i + 1) (by omega) (by simpa using ho) (by omega)]
    congr 1
    rw [Int.toNat_natCast, rd_lt (by omega), List.drop_eq_getElem_cons (show i < l.length by omega), List.take_succ_eq_append_getElem (by simp; omega)]
    simp [List.take_set_of_le, List.getElem_set]
theorem toIntS_at {l : List Int} (hl : l.length ≤ 1099511627776) {k : Nat} (hk : l.length < k) : laws_toIntS.f k l = some l := by
  unfold laws_toIntS.f
  rw [if_pos (by omega), if_pos (by omega)]
  have := toIntS_l0 l hl l.length k (List.replicate l.length 0) 0 (by omega) (by simp) hk
  simpa using this
theorem eqIntS_l0 (l : List Int) (hl : l.length ≤ 1099511627776) (d : Nat) : ∀ (k : Nat) (i : Nat), i + d = l.length → d < k → laws_eqIntS.l0 k l l i = some true := by
  induction d with
  | zero =>
    intro k i hi hk
    obtain ⟨k, rfl⟩ : ∃ m, k = m + 1 := ⟨k - 1, by omega⟩
    simp only [laws_eqIntS.l0]
    rw [if_neg (by omega)]
  | succ d ih =>
    intro k i hi hk
    obtain ⟨k, rfl⟩ : ∃ m, k = m + 1 := ⟨k - 1, by omega⟩
    simp only [laws_eqIntS.l0]
    rw [if_pos (by omega), if_pos (by omega), if_pos (by omega), if_pos trivial, wrap_succ (by omega)]
    exact ih k (i + 1) (by omega) (by omega)
theorem eqIntS_at {l : List Int} (hl : l.length ≤ 1099511627776) {k : Nat} (hk : l.length < k) : laws_eqIntS.f k l l = some true := by
  unfold laws_eqIntS.f
  rw [if_pos rfl]
  exact eqIntS_l0 l hl l.length k 0 (by omega) hk
/-- The number at a place, 0 beyond the list. -/
def g (l : List Int) (i : Nat) : Int := l.getD i 0
theorem g_lt {l : List Int} {i : Nat} (h : i < l.length) : g l i = l[i] := by
  simp [g, List.getD_eq_getElem?_getD, List.getElem?_eq_getElem h]
theorem g_mem {l : List Int} {i : Nat} (h : i < l.length) : g l i ∈ l := by
  rw [g_lt h]; exact List.getElem_mem h
def sumTo : Nat → (Nat → Int) → Int
  | 0, _ => 0
  | n + 1, f => sumTo n f + f n
theorem sumTo_nonneg {n : Nat} {f : Nat → Int} (h : ∀ i, i < n → 0 ≤ f i) : 0 ≤ sumTo n f := by
  induction n with
  | zero => exact Int.le_refl _
  | succ n ih => simp only [sumTo]; have := ih (fun i hi => h i (by omega)); have := h n (by omega); omega
theorem sumTo_le {n : Nat} {f : Nat → Int} {M : Int} (h : ∀ i, i < n → f i ≤ M) : sumTo n f ≤ n * M := by
  induction n with
  | zero => simp [sumTo]
  | succ n ih =>
    simp only [sumTo]
    have := ih (fun i hi => h i (by omega)); have := h n (by omega)
    have e : ((n + 1 : Nat) : Int) * M = (n : Int) * M + M := by rw [Int.natCast_add, Int.add_mul]; simp
    rw [e]; omega
theorem rd_g (l : List Int) (i : Nat) : rd l (i : Int) = g l i := by simp [rd, g]
theorem inB_iff {p q x : Int} : inB p q x = true ↔ p ≤ x ∧ x ≤ q := by simp [inB]
theorem within_eq (a b c : Int) : impl_within.f a b c = some (inB b c a) := by
  unfold impl_within.f inB
  by_cases h : a ≥ b <;> simp [h] <;> omega
theorem l1In_eq (a b c : Int) : spec_l1In.f a b c = some (inB b c a) := by
  unfold spec_l1In.f inB
  by_cases h : a ≥ b <;> simp [h] <;> omega
theorem l1All_l0 (p q : Int) (l : List Int) (hl : l.length ≤ 1099511627776) (d : Nat) : ∀ (k : Nat) (i : Nat), i + d = l.length → d < k →
    spec_l1All.l0 k p q l (l.length : Int) (i : Int) = some ((l.drop i).all (inB p q)) := by
  induction d with
  | zero =>
    intro k i hi hk
    obtain ⟨k, rfl⟩ : ∃ m, k = m + 1 := ⟨k - 1, by omega⟩
    simp only [spec_l1All.l0]
    rw [if_neg (by omega), List.drop_of_length_le (by omega)]; rfl
  | succ d ih =>
    intro k i hi hk
    obtain ⟨k, rfl⟩ : ∃ m, k = m + 1 := ⟨k - 1, by omega⟩
    simp only [spec_l1All.l0]
    rw [if_pos (by omega), if_pos (by omega), if_pos (by omega), l1In_eq, rd_lt (by omega), List.drop_eq_getElem_cons (show i < l.length by omega), List.all_cons]
    simp only [Option.bind_some]
    by_cases h : inB p q l[i] = true
    · rw [if_pos h, h, wrap_succ (by omega), ih k (i + 1) (by omega) (by omega)]; rfl
    · rw [if_neg h, Bool.eq_false_iff.2 h]; rfl
theorem l1All_at (p q : Int) {l : List Int} (hl : l.length ≤ 1099511627776) {k : Nat} (hk : l.length < k) : spec_l1All.f k l p q = some (l.all (inB p q)) := by
  unfold spec_l1All.f
  have := l1All_l0 p q l hl l.length k 0 (by omega) hk
  simpa using this
def tot (l : List Int) (i : Nat) : Int := sumTo i (g l)
theorem tot_succ (l : List Int) (i : Nat) : tot l (i + 1) = tot l i + g l i := rfl
theorem tot_bound {l : List Int} {M : Int} (hM : 0 ≤ M ∧ M ≤ 1099511627776) (hL : l.length ≤ 1048576) (hb : ∀ j, j < l.length → 0 ≤ g l j ∧ g l j ≤ M) {i : Nat} (hi : i ≤ l.length) : 0 ≤ tot l i ∧ tot l i ≤ 1152921504606846976 := by
  refine ⟨sumTo_nonneg fun j hj => (hb j (by omega)).1, ?_⟩
  have h2 := sumTo_le (n := i) (f := g l) (M := M) fun j hj => (hb j (by omega)).2
  have h3 : (i : Int) * M ≤ 1048576 * 1099511627776 := Int.mul_le_mul (by omega) hM.2 hM.1 (by omega)
  unfold tot; omega
theorem sum_l0 {l : List Int} {M : Int} (hM : 0 ≤ M ∧ M ≤ 1099511627776) (hL : l.length ≤ 1048576) (hb : ∀ j, j < l.length → 0 ≤ g l j ∧ g l j ≤ M) (d : Nat) : ∀ (k : Nat) (i : Nat), i + d = l.length → d < k →
    impl_sum.l0 k (tot l i) l (l.length : Int) (i : Int) = some (tot l l.length) := by
  induction d with
  | zero =>
    intro k i hi hk
    obtain ⟨k, rfl⟩ : ∃ m, k = m + 1 := ⟨k - 1, by omega⟩
    simp only [impl_sum.l0]
    rw [if_neg (by omega), show i = l.length by omega]
  | succ d ih =>
    intro k i hi hk
    obtain ⟨k, rfl⟩ : ∃ m, k = m + 1 := ⟨k - 1, by omega⟩
    have h1 := tot_bound hM hL hb (i := i) (by omega)
    have h2 := tot_bound hM hL hb (i := i + 1) (by omega)
    rw [tot_succ] at h2
    simp only [impl_sum.l0]
    rw [if_pos (by omega), if_pos (by omega), if_pos (by omega), wrap_succ (by omega), rd_g, wrap_id (by omega) (by omega)]
    exact ih k (i + 1) (by omega) (by omega)
theorem sum_at {l : List Int} {M : Int} (hM : 0 ≤ M ∧ M ≤ 1099511627776) (hL : l.length ≤ 1048576) (hb : ∀ j, j < l.length → 0 ≤ g l j ∧ g l j ≤ M) {k : Nat} (hk : l.length < k) : impl_sum.f k l = some (tot l l.length) := by
  unfold impl_sum.f
  exact sum_l0 hM hL hb l.length k 0 (by omega) hk
theorem hpSum_l0 {l : List Int} {M : Int} (hM : 0 ≤ M ∧ M ≤ 1099511627776) (hL : l.length ≤ 1048576) (hb : ∀ j, j < l.length → 0 ≤ g l j ∧ g l j ≤ M) (d : Nat) : ∀ (k : Nat) (i : Nat), i + d = l.length → d < k →
    spec_hpSum.l0 k (tot l i) l (l.length : Int) (i : Int) = some (tot l l.length) := by
  induction d with
  | zero =>
    intro k i hi hk
    obtain ⟨k, rfl⟩ : ∃ m, k = m + 1 := ⟨k - 1, by omega⟩
    simp only [spec_hpSum.l0]
    rw [if_neg (by omega), show i = l.length by omega]
  | succ d ih =>
    intro k i hi hk
    obtain ⟨k, rfl⟩ : ∃ m, k = m + 1 := ⟨k - 1, by omega⟩
    have h1 := tot_bound hM hL hb (i := i) (by omega)
    have h2 := tot_bound hM hL hb (i := i + 1) (by omega)
    rw [tot_succ] at h2
    simp only [spec_hpSum.l0]
    rw [if_pos (by omega), if_pos (by omega), if_pos (by omega), rd_g, wrap_id (by omega) (by omega), wrap_succ (by omega), ← tot_succ]
    exact ih k (i + 1) (by omega) (by omega)
theorem hpSum_at {l : List Int} {M : Int} (hM : 0 ≤ M ∧ M ≤ 1099511627776) (hL : l.length ≤ 1048576) (hb : ∀ j, j < l.length → 0 ≤ g l j ∧ g l j ≤ M) {k : Nat} (hk : l.length < k) : spec_hpSum.f k l = some (tot l l.length) := by
  unfold spec_hpSum.f
  exact hpSum_l0 hM hL hb l.length k 0 (by omega) hk
theorem beq_oddx (x : Int) : (Int.tmod x 2 == 1) = oddx x := by
  unfold oddx; rw [Bool.eq_iff_iff, beq_iff_eq, decide_eq_true_eq]
/-- Valid cups, as a Bool. -/
def vcup (l : List Int) (u : Int) : Bool := inB 2 6 (l.length : Int) && (inB 1 1048576 u && (Go.bits .and .i64 u (wrap64 (u - 1)) == 0)) && l.all (inB 0 (wrap64 (1000 * u))) && (decide (u = 1) || l.any oddx)
theorem contains_odd1 (l : List Int) : slices_ContainsFunc_int_int.f l 59 = some (l.any oddx) := by
  unfold slices_ContainsFunc_int_int.f; rw [if_pos (by rfl)]
theorem impl_AreCups_at (l : List Int) (u : Int) {k : Nat} (hk : 1 ≤ k) : impl_AreCups.f k l u = some (vcup l u) := by
  obtain ⟨k, rfl⟩ : ∃ m, k = m + 1 := ⟨k - 1, by omega⟩
  unfold impl_AreCups.f vcup
  rw [within_eq, within_eq]
  simp only [Option.bind_some, impl_AreCups.j0, contains_odd1, impl_areIn.f]
  cases h1 : inB 2 6 (l.length : Int) with
  | false => simp
  | true =>
    cases h2 : inB 1 1048576 u with
    | false => simp
    | true =>
      generalize Go.bits .and .i64 u (wrap64 (u - 1)) = b
      by_cases h3 : b = 0
      · subst h3
        cases h4 : l.all (inB 0 (wrap64 (1000 * u))) with
        | false => simp
        | true => by_cases h5 : u = 1 <;> simp [h5]
      · have h4 : (b != 0) = true := by simpa using h3
        have h5 : (b == 0) = false := by simpa using h3
        rw [h4, h5]; simp
theorem cuUnit_eq (u : Int) : spec_cuUnit.f u = some (inB 1 1048576 u && (Go.bits .and .i64 u (wrap64 (u - 1)) == 0)) := by
  unfold spec_cuUnit.f
  rw [l1In_eq]
  cases h2 : inB 1 1048576 u with
  | false => rfl
  | true => simp
theorem cuGood_l0 {l : List Int} (hL : l.length ≤ 1099511627776) (l' : List Int) (u : Int) (d : Nat) : ∀ (k i : Nat) (b : Bool), i + d = l.length → d < k →
    spec_cuGood.l0 k b l (l.length : Int) (i : Int) l' u = some (decide (u = 1) || (b || (l.drop i).any oddx)) := by
  induction d with
  | zero =>
    intro k i b hi hk
    obtain ⟨k, rfl⟩ : ∃ m, k = m + 1 := ⟨k - 1, by omega⟩
    simp only [spec_cuGood.l0]
    rw [if_neg (by omega), List.drop_eq_nil_of_le (by omega)]
    by_cases h : u = 1 <;> simp [h]
  | succ d ih =>
    intro k i b hi hk
    obtain ⟨k, rfl⟩ : ∃ m, k = m + 1 := ⟨k - 1, by omega⟩
    simp only [spec_cuGood.l0]
    rw [if_pos (by omega), if_pos (by omega), if_pos (by omega), wrap_succ (by omega), beq_oddx, rd_g, ih k (i + 1) _ (by omega) (by omega), ih k (i + 1) _ (by omega) (by omega), List.drop_eq_getElem_cons (by omega : i < l.length), List.any_cons, g_lt (by omega)]
    cases b <;> simp
theorem cuGood_at {l : List Int} (hL : l.length ≤ 1099511627776) (u : Int) {k : Nat} (hk : l.length + 1 < k) : spec_cuGood.f k l u = some (vcup l u) := by
  obtain ⟨k, rfl⟩ : ∃ m, k = m + 1 := ⟨k - 1, by omega⟩
  have e : ∀ b, spec_cuGood.j0 (k + 1) b l u = some (!b && (decide (u = 1) || l.any oddx)) := fun b => by
    simp only [spec_cuGood.j0]
    cases b with
    | true => simp
    | false =>
      have := cuGood_l0 hL l u l.length k 0 false (by omega) (by omega)
      simpa using this
  unfold spec_cuGood.f vcup
  rw [l1In_eq, cuUnit_eq, l1All_at _ _ hL (by omega)]
  simp only [Option.bind_some, e]
  cases inB 2 6 (l.length : Int) with
  | false => simp
  | true =>
    cases (inB 1 1048576 u && (Go.bits .and .i64 u (wrap64 (u - 1)) == 0)) with
    | false => simp
    | true => simp
/-- What valid cups are. -/
structure VCup (l : List Int) (u : Int) : Prop where
  lo : 2 ≤ l.length
  hi : l.length ≤ 6
  u1 : 1 ≤ u
  u2 : u ≤ 1048576
  b : ∀ j, j < l.length → 0 ≤ g l j ∧ g l j ≤ 1000 * u
theorem vcup_V {l : List Int} {u : Int} (h : vcup l u = true) : VCup l u := by
  simp only [vcup, Bool.and_eq_true, List.all_eq_true] at h
  obtain ⟨⟨⟨h1, h2, _⟩, h3⟩, _⟩ := h
  have h1 := inB_iff.1 h1; have h2 := inB_iff.1 h2
  refine ⟨by omega, by omega, h2.1, h2.2, fun j hj => ?_⟩
  have := inB_iff.1 (h3 _ (g_mem hj))
  rw [wrap_id (by omega) (by omega)] at this; exact this
/-- Euclid's numbers. -/
def eu : Nat → Int → Int → Int
  | 0, a, _ => a
  | n + 1, a, b => if b > 0 then eu n b (Int.tmod a b) else a
theorem tmod_in {a b : Int} (h : 0 ≤ a) (h2 : b > 0) : 0 ≤ Int.tmod a b ∧ Int.tmod a b < b := ⟨Int.tmod_nonneg b h, Int.tmod_lt_of_pos a h2⟩
theorem eu_pos (n : Nat) : ∀ a b : Int, 0 ≤ a → 0 ≤ b → b < n → (1 ≤ a ∨ 1 ≤ b) → 1 ≤ eu n a b := by
  induction n with
  | zero => intro a b _ _ h; omega
  | succ n ih =>
    intro a b ha hb hn h
    simp only [eu]
    by_cases c : b > 0
    · rw [if_pos c]; have := tmod_in ha c; exact ih b _ hb this.1 (by omega) (Or.inl (by omega))
    · rw [if_neg c]; omega
theorem divisor_l0 (n : Nat) : ∀ a b : Int, 0 ≤ a → 0 ≤ b → b < n → ∃ K, ∀ k, K ≤ k → impl_divisor.l0 k a b = some (eu n a b) := by
  induction n with
  | zero => intro a b _ _ h; omega
  | succ n ih =>
    intro a b ha hb hn
    by_cases c : b > 0
    · have := tmod_in ha c
      obtain ⟨K, hK⟩ := ih b _ hb this.1 (by omega)
      refine ⟨K + 1, fun k hk => ?_⟩
      obtain ⟨k, rfl⟩ : ∃ m, k = m + 1 := ⟨k - 1, by omega⟩
      simp only [impl_divisor.l0, eu]
      rw [if_pos c, if_neg (by omega), if_pos c, hK k (by omega)]
    · refine ⟨1, fun k hk => ?_⟩
      obtain ⟨k, rfl⟩ : ∃ m, k = m + 1 := ⟨k - 1, by omega⟩
      simp only [impl_divisor.l0, eu]
      rw [if_neg c, if_neg c]
theorem cuPart_l0 (x y : Int) (n : Nat) : ∀ a b : Int, 0 ≤ a → 0 ≤ b → b < n → (1 ≤ a ∨ 1 ≤ b) → ∃ K, ∀ k, K ≤ k → spec_cuPart.l0 k x y a b = some (wrap64 (Int.tdiv x (eu n a b)), wrap64 (Int.tdiv y (eu n a b))) := by
  induction n with
  | zero => intro a b _ _ h; omega
  | succ n ih =>
    intro a b ha hb hn h
    by_cases c : b > 0
    · have := tmod_in ha c
      obtain ⟨K, hK⟩ := ih b _ hb this.1 (by omega) (Or.inl (by omega))
      refine ⟨K + 1, fun k hk => ?_⟩
      obtain ⟨k, rfl⟩ : ∃ m, k = m + 1 := ⟨k - 1, by omega⟩
      simp only [spec_cuPart.l0, eu]
      rw [if_pos c, if_neg (by omega), if_pos c, hK k (by omega)]
    · refine ⟨1, fun k hk => ?_⟩
      obtain ⟨k, rfl⟩ : ∃ m, k = m + 1 := ⟨k - 1, by omega⟩
      simp only [spec_cuPart.l0, eu]
      rw [if_neg c, if_neg (by omega), if_neg c]
/-- Both tell a fraction in lowest terms alike. -/
theorem lowest_both {x y : Int} (hx : 0 ≤ x) (hy : 1 ≤ y) : ∃ (K : Nat) (r : Int × Int), (∀ k, K ≤ k → spec_cuPart.f k x y = some r) ∧ (∀ k, K ≤ k → impl_lowest.f k x y = some r) := by
  have hn : y < ((y.toNat + 1 : Nat) : Int) := by omega
  obtain ⟨K, hK⟩ := divisor_l0 (y.toNat + 1) x y hx (by omega) hn
  obtain ⟨K', hK'⟩ := cuPart_l0 x y (y.toNat + 1) x y hx (by omega) hn (Or.inr hy)
  have hp := eu_pos (y.toNat + 1) x y hx (by omega) hn (Or.inr hy)
  refine ⟨K + K', (wrap64 (Int.tdiv x (eu (y.toNat + 1) x y)), wrap64 (Int.tdiv y (eu (y.toNat + 1) x y))), fun k hk => ?_, fun k hk => ?_⟩
  · unfold spec_cuPart.f; exact hK' k (by omega)
  · unfold impl_lowest.f impl_divisor.f; rw [hK k (by omega), Option.bind_some, if_neg (by omega)]
theorem VCup.b' {l : List Int} {u : Int} (h : VCup l u) : ∀ j, j < l.length → 0 ≤ g l j ∧ g l j ≤ 1099511627776 := fun j hj => by
  have h1 := h.b j hj; have h2 := h.u2; omega
theorem szCups_in {l : List Int} (u : Int) (h : l.length ≤ 1048576) : laws_szCups.f l u 1048576 = some (1048576 - (l.length : Int)) := by
  unfold laws_szCups.f laws_szIntS.f
  rw [wrap_id (by omega) (by omega), if_neg (by omega), Option.bind_some, if_neg (by omega)]
theorem szCups_out {l : List Int} (u : Int) (h : ¬ l.length ≤ 1048576) (hm : l.length ≤ maxLen) : laws_szCups.f l u 1048576 = some (-1) := by
  simp only [maxLen] at hm
  unfold laws_szCups.f laws_szIntS.f
  rw [wrap_id (by omega) (by omega), if_pos (by omega)]; rfl
theorem toCups_at {l : List Int} (hl : l.length ≤ 1099511627776) (u : Int) {k : Nat} (hk : l.length < k) : laws_toCups.f k l u = some (l, u) := by
  unfold laws_toCups.f; rw [toIntS_at hl hk]; rfl
theorem eqCups_at {l : List Int} (hl : l.length ≤ 1099511627776) (u : Int) {k : Nat} (hk : l.length < k) : laws_eqCups.f k l u l u = some true := by
  unfold laws_eqCups.f; rw [eqIntS_at hl hk, Option.bind_some, if_pos rfl, if_pos rfl]
theorem MeanOfCups_both {l : List Int} (hL : l.length ≤ 1099511627776) (u : Int) : ∃ (K : Nat) (r : Int × Int × Bool), (∀ k, K ≤ k → spec_MeanOfCups.f k l u = some r) ∧ (∀ k, K ≤ k → impl_MeanOfCups.f k l u = some r) := by
  cases h : vcup l u with
  | false =>
    refine ⟨l.length + 2, (0, 0, false), fun k hk => ?_, fun k hk => ?_⟩
    · unfold spec_MeanOfCups.f; rw [cuGood_at hL u (by omega), h]; rfl
    · unfold impl_MeanOfCups.f; rw [impl_AreCups_at l u (by omega), h]; rfl
  | true =>
    have hv := vcup_V h
    have h1 := hv.lo; have h2 := hv.hi; have h3 := hv.u1; have h4 := hv.u2
    have ht := tot_bound (M := 1099511627776) (by omega) (by omega) hv.b' (i := l.length) (by omega)
    have m1 : (1 : Int) * 1 ≤ u * (l.length : Int) := Int.mul_le_mul h3 (by omega) (by omega) (by omega)
    have m2 : u * (l.length : Int) ≤ 1048576 * 6 := Int.mul_le_mul h4 (by omega) (by omega) (by omega)
    obtain ⟨K, r, hs, hi⟩ := lowest_both (x := tot l l.length) (y := u * (l.length : Int)) ht.1 (by omega)
    refine ⟨K + l.length + 2, (r.1, r.2, true), fun k hk => ?_, fun k hk => ?_⟩
    · unfold spec_MeanOfCups.f; rw [cuGood_at hL u (by omega), h, Option.bind_some, if_pos rfl, hpSum_at (M := 1099511627776) (by omega) (by omega) hv.b' (by omega), Option.bind_some, wrap_id (by omega) (by omega), hs k (by omega)]; rfl
    · unfold impl_MeanOfCups.f; rw [impl_AreCups_at l u (by omega), h, Option.bind_some, if_pos rfl, sum_at (M := 1099511627776) (by omega) (by omega) hv.b' (by omega), Option.bind_some, wrap_id (by omega) (by omega), hi k (by omega)]; rfl
theorem FnExactMeanOfCups (l : List Int) (u : Int) (hm : l.length ≤ maxLen) (hw : ∀ x ∈ l, (Lit.int .i64 x).wf = true) (hu : (Lit.int .i64 u).wf = true) : ∃ k, laws_FnExactMeanOfCups.f k l u = some true := by
  by_cases hl : l.length ≤ 1048576
  · have h0 : l.length ≤ 1099511627776 := by omega
    obtain ⟨K, r, hs, hi⟩ := MeanOfCups_both h0 u
    have hT : ∀ k, l.length < k → laws_toCups.f k l u = some (l, u) := fun k hk => toCups_at h0 u hk
    have hE : ∀ k, l.length < k → laws_eqCups.f k l u l u = some true := fun k hk => eqCups_at h0 u hk
    have hn : ¬ (1048576 - (l.length : Int) < 0) := by omega
    refine ⟨K + l.length + 8, ?_⟩
    unfold laws_FnExactMeanOfCups.f
    rw [szCups_in u hl, Option.bind_some, if_neg hn]
    simp (disch := omega) only [eq_self, hT, hE, hs, hi, Option.bind_some, bne_self_eq_false, if_true, if_false, Bool.false_eq_true, Bool.true_eq_false, if_neg hn]
    simp only [laws_FnExactMeanOfCups.j0]
    simp (disch := omega) only [eq_self, hT, hE, hs, hi, Option.bind_some, bne_self_eq_false, if_true, if_false, Bool.false_eq_true, Bool.true_eq_false, if_neg hn]
  · exact ⟨0, by unfold laws_FnExactMeanOfCups.f; rw [szCups_out u hl hm]; rfl⟩
end Go.Proofs.Ytidlipobpgfooaa.Pure
