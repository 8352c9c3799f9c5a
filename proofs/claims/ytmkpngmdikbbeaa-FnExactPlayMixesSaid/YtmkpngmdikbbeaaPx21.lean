/- Written by a program of this workplace (own_print.py, over the kit's print) for the functions that the statements reach, with contracts of its own. Lean checks it. -/
import Derived.Test.YtmkpngmdikbbeaaPx0
import Derived.Test.YtmkpngmdikbbeaaPx1
import Derived.Test.YtmkpngmdikbbeaaPx2
import Derived.Test.YtmkpngmdikbbeaaPx3
import Derived.Test.YtmkpngmdikbbeaaPx14
import Derived.Test.YtmkpngmdikbbeaaPx18
import Derived.Test.YtmkpngmdikbbeaaPx19
import Derived.Test.YtmkpngmdikbbeaaPx20
namespace Go.Proofs.Ytmkpngmdikbbeaa.P
open Go.RowKit Go.Proofs.YtmkpngmdikbbeaaW.PrintWords Go.Proofs.YtmkpngmdikbbeaaW.PrintLast Go.Proofs.YtmkpngmdikbbeaaW.PrintMore
attribute [local go_sem] max2_int min2_int max_two min_two max_three min_three max_four min_four   -- for this text's walks alone
set_option linter.unusedVariables false
set_option linter.unusedSimpArgs false

/-! ### laws_FnExactPlayMixes: function 4 -/
set_option maxHeartbeats 8000000 in
set_option maxRecDepth 100000 in
/-- Too many numbers: the law holds. -/
theorem laws_FnExactPlayMixes.big1 (k : Nat) (A0 : Option Addr) (c0 : Nat) (l : List Int) (u : Int) (A1 : Option Addr) (c1 : Nat) (ms : List (List Int)) (s1 s2 : Int) (w : World) (hr0 : Kd.C (Kd.int .i64) w A0 l.length l) (hc0 : l.length ≤ c0) (hr1 : Kd.C (Kd.slice 3 (Kd.int .i64)) w A1 ms.length ms) (hc1 : ms.length ≤ c1) (h1 : laws_szCups.f l u 1048576 = some s1) (hn : s1 < 0) :
  Calls Try.prog 4 #[.agg #[.slice A0 l.length c0, .int .i64 u], .slice A1 ms.length c1] w fun e w' => e = .returned (.bool true) ∧ Below w.heap.size w w' := by
 have HR0 := Aside0.mk hr0
 have HC0 := Aside0.mk hc0
 have HR1 := Aside0.mk hr1
 have HC1 := Aside0.mk hc1
 clear hr0 hc0 hr1 hc1
 have HB := Aside0.mk (Below.refl w.heap.size w)
 have H1 := Aside0.mk h1
 clear h1
 have c1b0 : decide (s1 < 0) = true := decide_eq_true hn
 clear hn
 go_enter Try.func4,Try.ntmps4
 go_wp2_with ((with_reducible refine gate_dst (N := 2) rfl ?_);refine box_event ?hg (N := 2) ?hd (cs := #[.slice A0 l.length c0, .int .i64 u]) (t := 24) ?hr ?_;(case hd => rfl);(case hg => rfl);(case hr => first | (go_simp;done) | (go_simp;rfl));intro ga hg w1 hbox hb;clear hg;have n0_ := Aside0.mk (below_step HB.out hb);have BKga := Aside0.mk hbox;have GHga := Aside0.mk (show ga < w1.heap.size from blk_lt hbox);clear HB hbox hb;have HB := n0_;clear n0_;have hz_ga_0 : World.cell? w1 ⟨ga,0,none⟩ = some (.slice A0 l.length c0) := (blk_cell BKga.out 0).trans rfl;have hz_ga_1 : World.cell? w1 ⟨ga,1,none⟩ = some (.int .i64 u) := (blk_cell BKga.out 1).trans rfl;have hf_ga_0 := blk_frozen BKga.out 0;have hf_ga_1 := blk_frozen BKga.out 1)
 refine (laws_szCups.calls A0 c0 l u 1048576 s1 _ (Kd.C_below HR0.out HB.out) HC0.out H1.out).mono ?_
 rintro e w2 ⟨rfl,hb⟩
 clear hz_ga_0 hf_ga_0
 clear hz_ga_1 hf_ga_1
 have sz1 := Aside0.mk (show w1.heap.size ≤ w2.heap.size from hb.size)
 replace BKga := Aside0.mk (blk_below BKga.out hb)
 replace HB := Aside0.mk (below_step HB.out hb)
 clear hb
 have hz_ga_0 : World.cell? w2 ⟨ga,0,none⟩ = some (.slice A0 l.length c0) := (blk_cell BKga.out 0).trans rfl
 have hf_ga_0 := blk_frozen BKga.out 0
 have hz_ga_1 : World.cell? w2 ⟨ga,1,none⟩ = some (.int .i64 u) := (blk_cell BKga.out 1).trans rfl
 have hf_ga_1 := blk_frozen BKga.out 1
 go_wp2
 go_ret
 exact ⟨rfl,HB.out⟩
set_option maxHeartbeats 8000000 in
set_option maxRecDepth 100000 in
/-- Too many numbers: the law holds. -/
theorem laws_FnExactPlayMixes.big2 (k : Nat) (A0 : Option Addr) (c0 : Nat) (l : List Int) (u : Int) (A1 : Option Addr) (c1 : Nat) (ms : List (List Int)) (s1 s2 : Int) (w : World) (hr0 : Kd.C (Kd.int .i64) w A0 l.length l) (hc0 : l.length ≤ c0) (hr1 : Kd.C (Kd.slice 3 (Kd.int .i64)) w A1 ms.length ms) (hc1 : ms.length ≤ c1) (h1 : laws_szCups.f l u 1048576 = some s1) (hp : ¬ s1 < 0) (h2 : laws_szIntSS.f k ms s1 = some s2) (hn : s2 < 0) :
  Calls Try.prog 4 #[.agg #[.slice A0 l.length c0, .int .i64 u], .slice A1 ms.length c1] w fun e w' => e = .returned (.bool true) ∧ Below w.heap.size w w' := by
 have HR0 := Aside0.mk hr0
 have HC0 := Aside0.mk hc0
 have HR1 := Aside0.mk hr1
 have HC1 := Aside0.mk hc1
 clear hr0 hc0 hr1 hc1
 have HB := Aside0.mk (Below.refl w.heap.size w)
 have H1 := Aside0.mk h1
 clear h1
 have H2 := Aside0.mk h2
 clear h2
 have c1b0 : decide (s1 < 0) = false := decide_eq_false hp
 have c2b0 : decide (s2 < 0) = true := decide_eq_true hn
 clear hp hn
 go_enter Try.func4,Try.ntmps4
 go_wp2_with ((with_reducible refine gate_dst (N := 2) rfl ?_);refine box_event ?hg (N := 2) ?hd (cs := #[.slice A0 l.length c0, .int .i64 u]) (t := 24) ?hr ?_;(case hd => rfl);(case hg => rfl);(case hr => first | (go_simp;done) | (go_simp;rfl));intro ga hg w1 hbox hb;clear hg;have n0_ := Aside0.mk (below_step HB.out hb);have BKga := Aside0.mk hbox;have GHga := Aside0.mk (show ga < w1.heap.size from blk_lt hbox);clear HB hbox hb;have HB := n0_;clear n0_;have hz_ga_0 : World.cell? w1 ⟨ga,0,none⟩ = some (.slice A0 l.length c0) := (blk_cell BKga.out 0).trans rfl;have hz_ga_1 : World.cell? w1 ⟨ga,1,none⟩ = some (.int .i64 u) := (blk_cell BKga.out 1).trans rfl;have hf_ga_0 := blk_frozen BKga.out 0;have hf_ga_1 := blk_frozen BKga.out 1)
 refine (laws_szCups.calls A0 c0 l u 1048576 s1 _ (Kd.C_below HR0.out HB.out) HC0.out H1.out).mono ?_
 rintro e w2 ⟨rfl,hb⟩
 clear hz_ga_0 hf_ga_0
 clear hz_ga_1 hf_ga_1
 have sz1 := Aside0.mk (show w1.heap.size ≤ w2.heap.size from hb.size)
 replace BKga := Aside0.mk (blk_below BKga.out hb)
 replace HB := Aside0.mk (below_step HB.out hb)
 clear hb
 have hz_ga_0 : World.cell? w2 ⟨ga,0,none⟩ = some (.slice A0 l.length c0) := (blk_cell BKga.out 0).trans rfl
 have hf_ga_0 := blk_frozen BKga.out 0
 have hz_ga_1 : World.cell? w2 ⟨ga,1,none⟩ = some (.int .i64 u) := (blk_cell BKga.out 1).trans rfl
 have hf_ga_1 := blk_frozen BKga.out 1
 go_wp2_with fail
 refine (laws_szIntSS.calls k A1 c1 ms s1 s2 _ (Kd.C_below HR1.out HB.out) HC1.out H2.out).mono ?_
 rintro e w3 ⟨rfl,hd⟩
 have hb := hd.below
 clear hd
 clear hz_ga_0 hf_ga_0
 clear hz_ga_1 hf_ga_1
 have sz2 := Aside0.mk (show w2.heap.size ≤ w3.heap.size from hb.size)
 replace BKga := Aside0.mk (blk_below BKga.out hb)
 replace HB := Aside0.mk (below_step HB.out hb)
 clear hb
 have hz_ga_0 : World.cell? w3 ⟨ga,0,none⟩ = some (.slice A0 l.length c0) := (blk_cell BKga.out 0).trans rfl
 have hf_ga_0 := blk_frozen BKga.out 0
 have hz_ga_1 : World.cell? w3 ⟨ga,1,none⟩ = some (.int .i64 u) := (blk_cell BKga.out 1).trans rfl
 have hf_ga_1 := blk_frozen BKga.out 1
 go_wp2
 go_ret
 exact ⟨rfl,HB.out⟩
/-- What both tell,and what the marks are: with these the law's every test comes out well. -/
structure laws_FnExactPlayMixes.Goes (k : Nat) (l : List Int) (u : Int) (ms : List (List Int)) (r : List Int) (ru : Int) (b : Bool) (s1 s2 n1 n2 n : Int) (l' : List Int) (ms' : List (List Int)) (r' : List Int) : Prop where
 sz1 : laws_szCups.f l u 1048576 = some s1
 p1 : ¬ s1 < 0
 sz2 : laws_szIntSS.f k ms s1 = some s2
 p2 : ¬ s2 < 0
 toC : laws_toCups.f k l u = some (l,u)
 toM : laws_toIntSS.f k ms = some ms
 sp : spec_PlayMixes.f k l u ms = some (r,ru,b)
 im : impl_PlayMixes.f k l u ms = some (r,ru,b)
 eqr : laws_eqCups.f k r ru r ru = some true
 eqx : laws_eqCups.f k l u l u = some true
 eqm : laws_eqIntSS.f k ms ms = some true
 mk1 : laws_markCups.f k l u 1 = some (n1,l')
 mk2 : laws_markIntSS.f k ms n1 = some (n2,ms')
 p3 : ¬ n2 < 0
 mk3 : laws_markCups.f k r ru 1 = some (n,r')
 p4 : ¬ n < 0
 ln : r'.length = r.length
 hd : laws_heldCups.f k r' ru 1 = some n
set_option maxHeartbeats 16000000 in
set_option maxRecDepth 100000 in
/-- The blocks of what the reference told lie below those of the argument,these below those of the result: so no mark reaches another. -/
theorem laws_FnExactPlayMixes.good (k : Nat) (A0 : Option Addr) (c0 : Nat) (l : List Int) (u : Int) (A1 : Option Addr) (c1 : Nat) (ms : List (List Int)) (r : List Int) (ru : Int) (b : Bool) (s1 s2 n1 n2 n : Int) (l' : List Int) (ms' : List (List Int)) (r' : List Int) (w : World) (hr0 : Kd.C (Kd.int .i64) w A0 l.length l) (hc0 : l.length ≤ c0) (hr1 : Kd.C (Kd.slice 3 (Kd.int .i64)) w A1 ms.length ms) (hc1 : ms.length ≤ c1) (G : laws_FnExactPlayMixes.Goes k l u ms r ru b s1 s2 n1 n2 n l' ms' r') :
  Calls Try.prog 4 #[.agg #[.slice A0 l.length c0, .int .i64 u], .slice A1 ms.length c1] w fun e w' => e = .returned (.bool true) ∧ Below w.heap.size w w' := by
 have HR0 := Aside0.mk hr0
 have HC0 := Aside0.mk hc0
 have HR1 := Aside0.mk hr1
 have HC1 := Aside0.mk hc1
 clear hr0 hc0 hr1 hc1
 have HB := Aside0.mk (Below.refl w.heap.size w)
 have HG0 := Aside0.mk G
 have HLN := Aside0.mk G.ln
 have c1b0 : decide (s1 < 0) = false := decide_eq_false G.p1
 have c2b0 : decide (s2 < 0) = false := decide_eq_false G.p2
 have c3b0 : decide (n2 < 0) = false := decide_eq_false G.p3
 have c4b0 : decide (n < 0) = false := decide_eq_false G.p4
 have c5b0 : (b != b) = false := bne_self_eq_false b
 clear G
 go_enter Try.func4,Try.ntmps4
 go_wp2_with ((with_reducible refine gate_dst (N := 2) rfl ?_);refine box_event ?hg (N := 2) ?hd (cs := #[.slice A0 l.length c0, .int .i64 u]) (t := 24) ?hr ?_;(case hd => rfl);(case hg => rfl);(case hr => first | (go_simp;done) | (go_simp;rfl));intro ga hg w1 hbox hb;clear hg;have n0_ := Aside0.mk (below_step HB.out hb);have BKga := Aside0.mk hbox;have GHga := Aside0.mk (show ga < w1.heap.size from blk_lt hbox);clear HB hbox hb;have HB := n0_;clear n0_;have hz_ga_0 : World.cell? w1 ⟨ga,0,none⟩ = some (.slice A0 l.length c0) := (blk_cell BKga.out 0).trans rfl;have hz_ga_1 : World.cell? w1 ⟨ga,1,none⟩ = some (.int .i64 u) := (blk_cell BKga.out 1).trans rfl;have hf_ga_0 := blk_frozen BKga.out 0;have hf_ga_1 := blk_frozen BKga.out 1)
 refine (laws_szCups.calls A0 c0 l u 1048576 s1 _ (Kd.C_below HR0.out HB.out) HC0.out HG0.out.sz1).mono ?_
 rintro e w2 ⟨rfl,hb⟩
 clear hz_ga_0 hf_ga_0
 clear hz_ga_1 hf_ga_1
 have sz1 := Aside0.mk (show w1.heap.size ≤ w2.heap.size from hb.size)
 replace BKga := Aside0.mk (blk_below BKga.out hb)
 replace HB := Aside0.mk (below_step HB.out hb)
 clear hb
 have hz_ga_0 : World.cell? w2 ⟨ga,0,none⟩ = some (.slice A0 l.length c0) := (blk_cell BKga.out 0).trans rfl
 have hf_ga_0 := blk_frozen BKga.out 0
 have hz_ga_1 : World.cell? w2 ⟨ga,1,none⟩ = some (.int .i64 u) := (blk_cell BKga.out 1).trans rfl
 have hf_ga_1 := blk_frozen BKga.out 1
 go_wp2_with fail
 refine (laws_szIntSS.calls k A1 c1 ms s1 s2 _ (Kd.C_below HR1.out HB.out) HC1.out HG0.out.sz2).mono ?_
 rintro e w3 ⟨rfl,hd⟩
 have hb := hd.below
 clear hd
 clear hz_ga_0 hf_ga_0
 clear hz_ga_1 hf_ga_1
 have sz2 := Aside0.mk (show w2.heap.size ≤ w3.heap.size from hb.size)
 replace BKga := Aside0.mk (blk_below BKga.out hb)
 replace HB := Aside0.mk (below_step HB.out hb)
 clear hb
 have hz_ga_0 : World.cell? w3 ⟨ga,0,none⟩ = some (.slice A0 l.length c0) := (blk_cell BKga.out 0).trans rfl
 have hf_ga_0 := blk_frozen BKga.out 0
 have hz_ga_1 : World.cell? w3 ⟨ga,1,none⟩ = some (.int .i64 u) := (blk_cell BKga.out 1).trans rfl
 have hf_ga_1 := blk_frozen BKga.out 1
 go_wp2_with fail
 refine (laws_toCups.calls k A0 c0 l u l u _ (Kd.C_below HR0.out HB.out) HC0.out HG0.out.toC).mono ?_
 rintro e w4 ⟨v_,rfl,ho,hb⟩
 clear hz_ga_0 hf_ga_0
 clear hz_ga_1 hf_ga_1
 have sz3 := Aside0.mk (show w3.heap.size ≤ w4.heap.size from hb.size)
 have HO := Aside0.mk (ho)
 replace BKga := Aside0.mk (blk_below BKga.out hb)
 replace HB := Aside0.mk (below_step HB.out hb)
 clear hb
 clear ho
 obtain ⟨B1,d1,e_⟩ := Kd.R_slice HO.out
 subst e_
 go_wp2_with fail
 refine (laws_toIntSS.calls k A1 c1 ms ms _ (Kd.C_below HR1.out HB.out) HC1.out HG0.out.toM).mono ?_
 rintro e w5 ⟨v_,rfl,ho,hb⟩
 have sz4 := Aside0.mk (show w4.heap.size ≤ w5.heap.size from hb.size)
 have HM := Aside0.mk (ho)
 replace HO := Aside0.mk (Kd.R_below HO.out hb)
 replace BKga := Aside0.mk (blk_below BKga.out hb)
 replace HB := Aside0.mk (below_step HB.out hb)
 clear hb
 clear ho
 obtain ⟨B2,d2,e_⟩ := Kd.S_slice HM.out
 subst e_
 have hz_ga_0 : World.cell? w5 ⟨ga,0,none⟩ = some (.slice A0 l.length c0) := (blk_cell BKga.out 0).trans rfl
 have hf_ga_0 := blk_frozen BKga.out 0
 have hz_ga_1 : World.cell? w5 ⟨ga,1,none⟩ = some (.int .i64 u) := (blk_cell BKga.out 1).trans rfl
 have hf_ga_1 := blk_frozen BKga.out 1
 go_wp2_with fail
 refine (spec_PlayMixes.calls k B1 d1 l u B2 d2 ms r ru b _ (Kd.R_reads' HO.out).2.2 (Kd.R_reads' HO.out).2.1 (Kd.S_reads' HM.out).2.2 (Kd.S_reads' HM.out).2.1 HG0.out.sp).mono ?_
 rintro e w6 ⟨v_,rfl,ho,hb⟩
 clear hz_ga_0 hf_ga_0
 clear hz_ga_1 hf_ga_1
 have sz5 := Aside0.mk (show w5.heap.size ≤ w6.heap.size from hb.size)
 have HS := Aside0.mk (Kd.V_mono (Kd.V_bound (Kd.R_V (base' := 0) ho)) (ok' := fun k_ => k_ < w6.heap.size) (fun _ hk => hk.2))
 replace BKga := Aside0.mk (blk_below BKga.out hb)
 replace HB := Aside0.mk (below_step HB.out hb)
 clear hb HO HM
 clear ho
 obtain ⟨B3,d3,e_⟩ := Kd.V_slice HS.out
 subst e_
 have hz_ga_0 : World.cell? w6 ⟨ga,0,none⟩ = some (.slice A0 l.length c0) := (blk_cell BKga.out 0).trans rfl
 have hf_ga_0 := blk_frozen BKga.out 0
 have hz_ga_1 : World.cell? w6 ⟨ga,1,none⟩ = some (.int .i64 u) := (blk_cell BKga.out 1).trans rfl
 have hf_ga_1 := blk_frozen BKga.out 1
 go_wp2_with ((with_reducible refine gate_dst (N := 6) rfl ?_);refine box_event ?hg (N := 6) ?hd (cs := #[.slice none 0 0, .int .i64 0]) (t := 29) ?hr ?_;(case hd => rfl);(case hg => rfl);(case hr => first | (go_simp;done) | (go_simp;rfl));intro gs hg wb0 hbox hb;have HX_ := Aside0.mk hb;have HY_ := Aside0.mk hbox;have HZ_ := Aside0.mk hg;clear hb hbox hg;have hq0_ : World.cell? wb0 ⟨gs,0,none⟩ = some (.slice none 0 0) := (blk_cell HY_.out 0).trans rfl;have hq1_ : World.cell? wb0 ⟨gs,1,none⟩ = some (.int .i64 0) := (blk_cell HY_.out 1).trans rfl;have hq2_ := blk_frozen HY_.out 0;have hq3_ := blk_frozen HY_.out 1;have hu_ga := blk_below BKga.out HX_.out;have hv_ga_0 : World.cell? wb0 ⟨ga,0,none⟩ = some (.slice A0 l.length c0) := (blk_cell hu_ga 0).trans rfl;have hw_ga_0 := blk_frozen hu_ga 0;have hv_ga_1 : World.cell? wb0 ⟨ga,1,none⟩ = some (.int .i64 u) := (blk_cell hu_ga 1).trans rfl;have hw_ga_1 := blk_frozen hu_ga 1;clear hu_ga;have ht_ga : ga ≠ gs := (by rw [HZ_.out];exact Nat.ne_of_lt (blk_lt BKga.out));have hs_ga : gs ≠ ga := ht_ga.symm)
 clear hq0_ hq1_ hq2_ hq3_ ht_ga hs_ga hv_ga_0 hw_ga_0 hv_ga_1 hw_ga_1
 have hb : Below w6.heap.size w6 ((wb0.setCell ⟨gs,0,none⟩ (.slice B3 r.length d3)).setCell ⟨gs,1,none⟩ (.int .i64 ru)) := below_set (below_set HX_.out (by rw [HZ_.out];exact Nat.le_refl _)) (by rw [HZ_.out];exact Nat.le_refl _)
 have BKgs := Aside0.mk (show (((wb0.setCell ⟨gs,0,none⟩ (.slice B3 r.length d3)).setCell ⟨gs,1,none⟩ (.int .i64 ru))).heap[gs]? = some (.cells #[.slice B3 r.length d3, .int .i64 ru] 29 (0,0)) from blk_put (blk_put HY_.out 0 _ rfl) 1 _ rfl)
 have Ggs := Aside0.mk (show w6.heap.size ≤ gs from by rw [HZ_.out];exact Nat.le_refl _)
 clear HX_ HY_ HZ_
 have GHgs := Aside0.mk (show gs < (((wb0.setCell ⟨gs,0,none⟩ (.slice B3 r.length d3)).setCell ⟨gs,1,none⟩ (.int .i64 ru))).heap.size from blk_lt BKgs.out)
 generalize ((wb0.setCell ⟨gs,0,none⟩ (.slice B3 r.length d3)).setCell ⟨gs,1,none⟩ (.int .i64 ru)) = w7 at hb BKgs GHgs ⊢
 clear hz_ga_0 hf_ga_0
 clear hz_ga_1 hf_ga_1
 have sz6 := Aside0.mk (show w6.heap.size ≤ w7.heap.size from hb.size)
 replace HS := Aside0.mk (Kd.V_below HS.out hb)
 replace BKga := Aside0.mk (blk_below BKga.out hb)
 replace HB := Aside0.mk (below_step HB.out hb)
 clear hb
 have hz_ga_0 : World.cell? w7 ⟨ga,0,none⟩ = some (.slice A0 l.length c0) := (blk_cell BKga.out 0).trans rfl
 have hf_ga_0 := blk_frozen BKga.out 0
 have hz_ga_1 : World.cell? w7 ⟨ga,1,none⟩ = some (.int .i64 u) := (blk_cell BKga.out 1).trans rfl
 have hf_ga_1 := blk_frozen BKga.out 1
 have hz_gs_0 : World.cell? w7 ⟨gs,0,none⟩ = some (.slice B3 r.length d3) := (blk_cell BKgs.out 0).trans rfl
 have hf_gs_0 := blk_frozen BKgs.out 0
 have hz_gs_1 : World.cell? w7 ⟨gs,1,none⟩ = some (.int .i64 ru) := (blk_cell BKgs.out 1).trans rfl
 have hf_gs_1 := blk_frozen BKgs.out 1
 refine (laws_toCups.calls k A0 c0 l u l u _ (Kd.C_below HR0.out HB.out) HC0.out HG0.out.toC).mono ?_
 rintro e w8 ⟨v_,rfl,ho,hb⟩
 have HL1 := Aside0.mk (show ∀ k_,v_.ownBlock = some k_ → w7.heap.size ≤ k_ from Kd.R_base ho)
 have HL2 := Aside0.mk (show ∀ k_,v_.ownBlock = some k_ → k_ < w8.heap.size from Kd.R_lt ho)
 clear hz_ga_0 hf_ga_0
 clear hz_ga_1 hf_ga_1
 clear hz_gs_0 hf_gs_0
 clear hz_gs_1 hf_gs_1
 have sz7 := Aside0.mk (show w7.heap.size ≤ w8.heap.size from hb.size)
 have HX := Aside0.mk (Kd.R_tight rfl (Kd.R_lower ho (below_size HB.out)))
 replace HS := Aside0.mk (Kd.V_below HS.out hb)
 replace BKga := Aside0.mk (blk_below BKga.out hb)
 replace BKgs := Aside0.mk (blk_below BKgs.out hb)
 replace HB := Aside0.mk (below_step HB.out hb)
 clear hb
 clear ho
 obtain ⟨B5,d5,e_⟩ := Kd.R_slice HX.out
 subst e_
 have hz_ga_0 : World.cell? w8 ⟨ga,0,none⟩ = some (.slice A0 l.length c0) := (blk_cell BKga.out 0).trans rfl
 have hf_ga_0 := blk_frozen BKga.out 0
 have hz_ga_1 : World.cell? w8 ⟨ga,1,none⟩ = some (.int .i64 u) := (blk_cell BKga.out 1).trans rfl
 have hf_ga_1 := blk_frozen BKga.out 1
 have hz_gs_0 : World.cell? w8 ⟨gs,0,none⟩ = some (.slice B3 r.length d3) := (blk_cell BKgs.out 0).trans rfl
 have hf_gs_0 := blk_frozen BKgs.out 0
 have hz_gs_1 : World.cell? w8 ⟨gs,1,none⟩ = some (.int .i64 ru) := (blk_cell BKgs.out 1).trans rfl
 have hf_gs_1 := blk_frozen BKgs.out 1
 go_wp2_with ((with_reducible refine gate_dst (N := 8) rfl ?_);refine box_event ?hg (N := 8) ?hd (cs := #[.slice none 0 0, .int .i64 0]) (t := 29) ?hr ?_;(case hd => rfl);(case hg => rfl);(case hr => first | (go_simp;done) | (go_simp;rfl));intro gx hg wb1 hbox hb;have HX_ := Aside0.mk hb;have HY_ := Aside0.mk hbox;have HZ_ := Aside0.mk hg;clear hb hbox hg;have hq0_ : World.cell? wb1 ⟨gx,0,none⟩ = some (.slice none 0 0) := (blk_cell HY_.out 0).trans rfl;have hq1_ : World.cell? wb1 ⟨gx,1,none⟩ = some (.int .i64 0) := (blk_cell HY_.out 1).trans rfl;have hq2_ := blk_frozen HY_.out 0;have hq3_ := blk_frozen HY_.out 1;have hu_ga := blk_below BKga.out HX_.out;have hv_ga_0 : World.cell? wb1 ⟨ga,0,none⟩ = some (.slice A0 l.length c0) := (blk_cell hu_ga 0).trans rfl;have hw_ga_0 := blk_frozen hu_ga 0;have hv_ga_1 : World.cell? wb1 ⟨ga,1,none⟩ = some (.int .i64 u) := (blk_cell hu_ga 1).trans rfl;have hw_ga_1 := blk_frozen hu_ga 1;clear hu_ga;have ht_ga : ga ≠ gx := (by rw [HZ_.out];exact Nat.ne_of_lt (blk_lt BKga.out));have hs_ga : gx ≠ ga := ht_ga.symm;have hu_gs := blk_below BKgs.out HX_.out;have hv_gs_0 : World.cell? wb1 ⟨gs,0,none⟩ = some (.slice B3 r.length d3) := (blk_cell hu_gs 0).trans rfl;have hw_gs_0 := blk_frozen hu_gs 0;have hv_gs_1 : World.cell? wb1 ⟨gs,1,none⟩ = some (.int .i64 ru) := (blk_cell hu_gs 1).trans rfl;have hw_gs_1 := blk_frozen hu_gs 1;clear hu_gs;have ht_gs : gs ≠ gx := (by rw [HZ_.out];exact Nat.ne_of_lt (blk_lt BKgs.out));have hs_gs : gx ≠ gs := ht_gs.symm)
 clear hq0_ hq1_ hq2_ hq3_ ht_ga hs_ga hv_ga_0 hw_ga_0 hv_ga_1 hw_ga_1 ht_gs hs_gs hv_gs_0 hw_gs_0 hv_gs_1 hw_gs_1
 have hb : Below w8.heap.size w8 ((wb1.setCell ⟨gx,0,none⟩ (.slice B5 l.length d5)).setCell ⟨gx,1,none⟩ (.int .i64 u)) := below_set (below_set HX_.out (by rw [HZ_.out];exact Nat.le_refl _)) (by rw [HZ_.out];exact Nat.le_refl _)
 have BKgx := Aside0.mk (show (((wb1.setCell ⟨gx,0,none⟩ (.slice B5 l.length d5)).setCell ⟨gx,1,none⟩ (.int .i64 u))).heap[gx]? = some (.cells #[.slice B5 l.length d5, .int .i64 u] 29 (0,0)) from blk_put (blk_put HY_.out 0 _ rfl) 1 _ rfl)
 have Ggx := Aside0.mk (show w8.heap.size ≤ gx from by rw [HZ_.out];exact Nat.le_refl _)
 clear HX_ HY_ HZ_
 have GHgx := Aside0.mk (show gx < (((wb1.setCell ⟨gx,0,none⟩ (.slice B5 l.length d5)).setCell ⟨gx,1,none⟩ (.int .i64 u))).heap.size from blk_lt BKgx.out)
 generalize ((wb1.setCell ⟨gx,0,none⟩ (.slice B5 l.length d5)).setCell ⟨gx,1,none⟩ (.int .i64 u)) = w9 at hb BKgx GHgx ⊢
 clear hz_ga_0 hf_ga_0
 clear hz_ga_1 hf_ga_1
 clear hz_gs_0 hf_gs_0
 clear hz_gs_1 hf_gs_1
 have sz8 := Aside0.mk (show w8.heap.size ≤ w9.heap.size from hb.size)
 replace HS := Aside0.mk (Kd.V_below HS.out hb)
 replace HX := Aside0.mk (Kd.R_below HX.out hb)
 replace BKga := Aside0.mk (blk_below BKga.out hb)
 replace BKgs := Aside0.mk (blk_below BKgs.out hb)
 replace HB := Aside0.mk (below_step HB.out hb)
 clear hb
 have hz_ga_0 : World.cell? w9 ⟨ga,0,none⟩ = some (.slice A0 l.length c0) := (blk_cell BKga.out 0).trans rfl
 have hf_ga_0 := blk_frozen BKga.out 0
 have hz_ga_1 : World.cell? w9 ⟨ga,1,none⟩ = some (.int .i64 u) := (blk_cell BKga.out 1).trans rfl
 have hf_ga_1 := blk_frozen BKga.out 1
 have hz_gs_0 : World.cell? w9 ⟨gs,0,none⟩ = some (.slice B3 r.length d3) := (blk_cell BKgs.out 0).trans rfl
 have hf_gs_0 := blk_frozen BKgs.out 0
 have hz_gs_1 : World.cell? w9 ⟨gs,1,none⟩ = some (.int .i64 ru) := (blk_cell BKgs.out 1).trans rfl
 have hf_gs_1 := blk_frozen BKgs.out 1
 have hz_gx_0 : World.cell? w9 ⟨gx,0,none⟩ = some (.slice B5 l.length d5) := (blk_cell BKgx.out 0).trans rfl
 have hf_gx_0 := blk_frozen BKgx.out 0
 have hz_gx_1 : World.cell? w9 ⟨gx,1,none⟩ = some (.int .i64 u) := (blk_cell BKgx.out 1).trans rfl
 have hf_gx_1 := blk_frozen BKgx.out 1
 refine (laws_toIntSS.calls k A1 c1 ms ms _ (Kd.C_below HR1.out HB.out) HC1.out HG0.out.toM).mono ?_
 rintro e w10 ⟨v_,rfl,ho,hb⟩
 clear hz_ga_0 hf_ga_0
 clear hz_ga_1 hf_ga_1
 clear hz_gs_0 hf_gs_0
 clear hz_gs_1 hf_gs_1
 clear hz_gx_0 hf_gx_0
 clear hz_gx_1 hf_gx_1
 have sz9 := Aside0.mk (show w9.heap.size ≤ w10.heap.size from hb.size)
 have HXM := Aside0.mk (Kd.S_lower (Kd.S_mono (Kd.S_bound ho) (ok' := fun k_ => w9.heap.size ≤ k_ ∧ k_ < w10.heap.size) (fun _ hk => ⟨hk.2.1,hk.2.2.1⟩)) (below_size HB.out))
 replace HS := Aside0.mk (Kd.V_below HS.out hb)
 replace HX := Aside0.mk (Kd.R_below HX.out hb)
 replace BKga := Aside0.mk (blk_below BKga.out hb)
 replace BKgs := Aside0.mk (blk_below BKgs.out hb)
 replace BKgx := Aside0.mk (blk_below BKgx.out hb)
 replace HB := Aside0.mk (below_step HB.out hb)
 clear hb
 clear ho
 obtain ⟨B4,d4,e_⟩ := Kd.S_slice HXM.out
 subst e_
 have hz_ga_0 : World.cell? w10 ⟨ga,0,none⟩ = some (.slice A0 l.length c0) := (blk_cell BKga.out 0).trans rfl
 have hf_ga_0 := blk_frozen BKga.out 0
 have hz_ga_1 : World.cell? w10 ⟨ga,1,none⟩ = some (.int .i64 u) := (blk_cell BKga.out 1).trans rfl
 have hf_ga_1 := blk_frozen BKga.out 1
 have hz_gs_0 : World.cell? w10 ⟨gs,0,none⟩ = some (.slice B3 r.length d3) := (blk_cell BKgs.out 0).trans rfl
 have hf_gs_0 := blk_frozen BKgs.out 0
 have hz_gs_1 : World.cell? w10 ⟨gs,1,none⟩ = some (.int .i64 ru) := (blk_cell BKgs.out 1).trans rfl
 have hf_gs_1 := blk_frozen BKgs.out 1
 have hz_gx_0 : World.cell? w10 ⟨gx,0,none⟩ = some (.slice B5 l.length d5) := (blk_cell BKgx.out 0).trans rfl
 have hf_gx_0 := blk_frozen BKgx.out 0
 have hz_gx_1 : World.cell? w10 ⟨gx,1,none⟩ = some (.int .i64 u) := (blk_cell BKgx.out 1).trans rfl
 have hf_gx_1 := blk_frozen BKgx.out 1
 go_wp2_with fail
 refine (impl_PlayMixes.calls k B5 d5 l u B4 d4 ms r ru b _ (Kd.R_reads' HX.out).2.2 (Kd.R_reads' HX.out).2.1 (Kd.S_reads' HXM.out).2.2 (Kd.S_reads' HXM.out).2.1 HG0.out.im).mono ?_
 rintro e w11 ⟨v_,rfl,ho,hb⟩
 have HL3 := Aside0.mk (show ∀ k_,v_.ownBlock = some k_ → w10.heap.size ≤ k_ from Kd.R_base ho)
 clear hz_ga_0 hf_ga_0
 clear hz_ga_1 hf_ga_1
 clear hz_gs_0 hf_gs_0
 clear hz_gs_1 hf_gs_1
 clear hz_gx_0 hf_gx_0
 clear hz_gx_1 hf_gx_1
 have sz10 := Aside0.mk (show w10.heap.size ≤ w11.heap.size from hb.size)
 have HR := Aside0.mk (Kd.R_tight rfl (Kd.R_lower ho (below_size HB.out)))
 replace HS := Aside0.mk (Kd.V_below HS.out hb)
 replace HX := Aside0.mk (Kd.R_below HX.out hb)
 replace HXM := Aside0.mk (Kd.S_below HXM.out hb)
 replace BKga := Aside0.mk (blk_below BKga.out hb)
 replace BKgs := Aside0.mk (blk_below BKgs.out hb)
 replace BKgx := Aside0.mk (blk_below BKgx.out hb)
 replace HB := Aside0.mk (below_step HB.out hb)
 clear hb
 clear ho
 obtain ⟨B6,d6,e_⟩ := Kd.R_slice HR.out
 subst e_
 have hz_ga_0 : World.cell? w11 ⟨ga,0,none⟩ = some (.slice A0 l.length c0) := (blk_cell BKga.out 0).trans rfl
 have hf_ga_0 := blk_frozen BKga.out 0
 have hz_ga_1 : World.cell? w11 ⟨ga,1,none⟩ = some (.int .i64 u) := (blk_cell BKga.out 1).trans rfl
 have hf_ga_1 := blk_frozen BKga.out 1
 have hz_gs_0 : World.cell? w11 ⟨gs,0,none⟩ = some (.slice B3 r.length d3) := (blk_cell BKgs.out 0).trans rfl
 have hf_gs_0 := blk_frozen BKgs.out 0
 have hz_gs_1 : World.cell? w11 ⟨gs,1,none⟩ = some (.int .i64 ru) := (blk_cell BKgs.out 1).trans rfl
 have hf_gs_1 := blk_frozen BKgs.out 1
 have hz_gx_0 : World.cell? w11 ⟨gx,0,none⟩ = some (.slice B5 l.length d5) := (blk_cell BKgx.out 0).trans rfl
 have hf_gx_0 := blk_frozen BKgx.out 0
 have hz_gx_1 : World.cell? w11 ⟨gx,1,none⟩ = some (.int .i64 u) := (blk_cell BKgx.out 1).trans rfl
 have hf_gx_1 := blk_frozen BKgx.out 1
 go_wp2_with ((with_reducible refine gate_dst (N := 10) rfl ?_);refine box_event ?hg (N := 10) ?hd (cs := #[.slice none 0 0, .int .i64 0]) (t := 29) ?hr ?_;(case hd => rfl);(case hg => rfl);(case hr => first | (go_simp;done) | (go_simp;rfl));intro gr hg wb2 hbox hb;have HX_ := Aside0.mk hb;have HY_ := Aside0.mk hbox;have HZ_ := Aside0.mk hg;clear hb hbox hg;have hq0_ : World.cell? wb2 ⟨gr,0,none⟩ = some (.slice none 0 0) := (blk_cell HY_.out 0).trans rfl;have hq1_ : World.cell? wb2 ⟨gr,1,none⟩ = some (.int .i64 0) := (blk_cell HY_.out 1).trans rfl;have hq2_ := blk_frozen HY_.out 0;have hq3_ := blk_frozen HY_.out 1;have hu_ga := blk_below BKga.out HX_.out;have hv_ga_0 : World.cell? wb2 ⟨ga,0,none⟩ = some (.slice A0 l.length c0) := (blk_cell hu_ga 0).trans rfl;have hw_ga_0 := blk_frozen hu_ga 0;have hv_ga_1 : World.cell? wb2 ⟨ga,1,none⟩ = some (.int .i64 u) := (blk_cell hu_ga 1).trans rfl;have hw_ga_1 := blk_frozen hu_ga 1;clear hu_ga;have ht_ga : ga ≠ gr := (by rw [HZ_.out];exact Nat.ne_of_lt (blk_lt BKga.out));have hs_ga : gr ≠ ga := ht_ga.symm;have hu_gs := blk_below BKgs.out HX_.out;have hv_gs_0 : World.cell? wb2 ⟨gs,0,none⟩ = some (.slice B3 r.length d3) := (blk_cell hu_gs 0).trans rfl;have hw_gs_0 := blk_frozen hu_gs 0;have hv_gs_1 : World.cell? wb2 ⟨gs,1,none⟩ = some (.int .i64 ru) := (blk_cell hu_gs 1).trans rfl;have hw_gs_1 := blk_frozen hu_gs 1;clear hu_gs;have ht_gs : gs ≠ gr := (by rw [HZ_.out];exact Nat.ne_of_lt (blk_lt BKgs.out));have hs_gs : gr ≠ gs := ht_gs.symm;have hu_gx := blk_below BKgx.out HX_.out;have hv_gx_0 : World.cell? wb2 ⟨gx,0,none⟩ = some (.slice B5 l.length d5) := (blk_cell hu_gx 0).trans rfl;have hw_gx_0 := blk_frozen hu_gx 0;have hv_gx_1 : World.cell? wb2 ⟨gx,1,none⟩ = some (.int .i64 u) := (blk_cell hu_gx 1).trans rfl;have hw_gx_1 := blk_frozen hu_gx 1;clear hu_gx;have ht_gx : gx ≠ gr := (by rw [HZ_.out];exact Nat.ne_of_lt (blk_lt BKgx.out));have hs_gx : gr ≠ gx := ht_gx.symm)
 clear hq0_ hq1_ hq2_ hq3_ ht_ga hs_ga hv_ga_0 hw_ga_0 hv_ga_1 hw_ga_1 ht_gs hs_gs hv_gs_0 hw_gs_0 hv_gs_1 hw_gs_1 ht_gx hs_gx hv_gx_0 hw_gx_0 hv_gx_1 hw_gx_1
 have hb : Below w11.heap.size w11 ((wb2.setCell ⟨gr,0,none⟩ (.slice B6 r.length d6)).setCell ⟨gr,1,none⟩ (.int .i64 ru)) := below_set (below_set HX_.out (by rw [HZ_.out];exact Nat.le_refl _)) (by rw [HZ_.out];exact Nat.le_refl _)
 have BKgr := Aside0.mk (show (((wb2.setCell ⟨gr,0,none⟩ (.slice B6 r.length d6)).setCell ⟨gr,1,none⟩ (.int .i64 ru))).heap[gr]? = some (.cells #[.slice B6 r.length d6, .int .i64 ru] 29 (0,0)) from blk_put (blk_put HY_.out 0 _ rfl) 1 _ rfl)
 have Ggr := Aside0.mk (show w11.heap.size ≤ gr from by rw [HZ_.out];exact Nat.le_refl _)
 clear HX_ HY_ HZ_
 have GHgr := Aside0.mk (show gr < (((wb2.setCell ⟨gr,0,none⟩ (.slice B6 r.length d6)).setCell ⟨gr,1,none⟩ (.int .i64 ru))).heap.size from blk_lt BKgr.out)
 generalize ((wb2.setCell ⟨gr,0,none⟩ (.slice B6 r.length d6)).setCell ⟨gr,1,none⟩ (.int .i64 ru)) = w12 at hb BKgr GHgr ⊢
 clear hz_ga_0 hf_ga_0
 clear hz_ga_1 hf_ga_1
 clear hz_gs_0 hf_gs_0
 clear hz_gs_1 hf_gs_1
 clear hz_gx_0 hf_gx_0
 clear hz_gx_1 hf_gx_1
 have sz11 := Aside0.mk (show w11.heap.size ≤ w12.heap.size from hb.size)
 replace HS := Aside0.mk (Kd.V_below HS.out hb)
 replace HX := Aside0.mk (Kd.R_below HX.out hb)
 replace HXM := Aside0.mk (Kd.S_below HXM.out hb)
 replace HR := Aside0.mk (Kd.R_below HR.out hb)
 replace BKga := Aside0.mk (blk_below BKga.out hb)
 replace BKgs := Aside0.mk (blk_below BKgs.out hb)
 replace BKgx := Aside0.mk (blk_below BKgx.out hb)
 replace HB := Aside0.mk (below_step HB.out hb)
 clear hb
 have hz_ga_0 : World.cell? w12 ⟨ga,0,none⟩ = some (.slice A0 l.length c0) := (blk_cell BKga.out 0).trans rfl
 have hf_ga_0 := blk_frozen BKga.out 0
 have hz_ga_1 : World.cell? w12 ⟨ga,1,none⟩ = some (.int .i64 u) := (blk_cell BKga.out 1).trans rfl
 have hf_ga_1 := blk_frozen BKga.out 1
 have hz_gs_0 : World.cell? w12 ⟨gs,0,none⟩ = some (.slice B3 r.length d3) := (blk_cell BKgs.out 0).trans rfl
 have hf_gs_0 := blk_frozen BKgs.out 0
 have hz_gs_1 : World.cell? w12 ⟨gs,1,none⟩ = some (.int .i64 ru) := (blk_cell BKgs.out 1).trans rfl
 have hf_gs_1 := blk_frozen BKgs.out 1
 have hz_gx_0 : World.cell? w12 ⟨gx,0,none⟩ = some (.slice B5 l.length d5) := (blk_cell BKgx.out 0).trans rfl
 have hf_gx_0 := blk_frozen BKgx.out 0
 have hz_gx_1 : World.cell? w12 ⟨gx,1,none⟩ = some (.int .i64 u) := (blk_cell BKgx.out 1).trans rfl
 have hf_gx_1 := blk_frozen BKgx.out 1
 have hz_gr_0 : World.cell? w12 ⟨gr,0,none⟩ = some (.slice B6 r.length d6) := (blk_cell BKgr.out 0).trans rfl
 have hf_gr_0 := blk_frozen BKgr.out 0
 have hz_gr_1 : World.cell? w12 ⟨gr,1,none⟩ = some (.int .i64 ru) := (blk_cell BKgr.out 1).trans rfl
 have hf_gr_1 := blk_frozen BKgr.out 1
 refine (laws_eqCups.calls k B6 d6 r ru B3 d3 r ru true _ (Kd.R_reads' HR.out).2.2 (Kd.R_reads' HR.out).2.1 (Kd.V_reads' HS.out).2.2 (Kd.V_reads' HS.out).2.1 HG0.out.eqr).mono ?_
 rintro e w13 ⟨rfl,hb⟩
 clear hz_ga_0 hf_ga_0
 clear hz_ga_1 hf_ga_1
 clear hz_gs_0 hf_gs_0
 clear hz_gs_1 hf_gs_1
 clear hz_gx_0 hf_gx_0
 clear hz_gx_1 hf_gx_1
 clear hz_gr_0 hf_gr_0
 clear hz_gr_1 hf_gr_1
 have sz12 := Aside0.mk (show w12.heap.size ≤ w13.heap.size from hb.size)
 replace HS := Aside0.mk (Kd.V_below HS.out hb)
 replace HX := Aside0.mk (Kd.R_below HX.out hb)
 replace HXM := Aside0.mk (Kd.S_below HXM.out hb)
 replace HR := Aside0.mk (Kd.R_below HR.out hb)
 replace BKga := Aside0.mk (blk_below BKga.out hb)
 replace BKgs := Aside0.mk (blk_below BKgs.out hb)
 replace BKgx := Aside0.mk (blk_below BKgx.out hb)
 replace BKgr := Aside0.mk (blk_below BKgr.out hb)
 replace HB := Aside0.mk (below_step HB.out hb)
 clear hb
 have hz_ga_0 : World.cell? w13 ⟨ga,0,none⟩ = some (.slice A0 l.length c0) := (blk_cell BKga.out 0).trans rfl
 have hf_ga_0 := blk_frozen BKga.out 0
 have hz_ga_1 : World.cell? w13 ⟨ga,1,none⟩ = some (.int .i64 u) := (blk_cell BKga.out 1).trans rfl
 have hf_ga_1 := blk_frozen BKga.out 1
 have hz_gs_0 : World.cell? w13 ⟨gs,0,none⟩ = some (.slice B3 r.length d3) := (blk_cell BKgs.out 0).trans rfl
 have hf_gs_0 := blk_frozen BKgs.out 0
 have hz_gs_1 : World.cell? w13 ⟨gs,1,none⟩ = some (.int .i64 ru) := (blk_cell BKgs.out 1).trans rfl
 have hf_gs_1 := blk_frozen BKgs.out 1
 have hz_gx_0 : World.cell? w13 ⟨gx,0,none⟩ = some (.slice B5 l.length d5) := (blk_cell BKgx.out 0).trans rfl
 have hf_gx_0 := blk_frozen BKgx.out 0
 have hz_gx_1 : World.cell? w13 ⟨gx,1,none⟩ = some (.int .i64 u) := (blk_cell BKgx.out 1).trans rfl
 have hf_gx_1 := blk_frozen BKgx.out 1
 have hz_gr_0 : World.cell? w13 ⟨gr,0,none⟩ = some (.slice B6 r.length d6) := (blk_cell BKgr.out 0).trans rfl
 have hf_gr_0 := blk_frozen BKgr.out 0
 have hz_gr_1 : World.cell? w13 ⟨gr,1,none⟩ = some (.int .i64 ru) := (blk_cell BKgr.out 1).trans rfl
 have hf_gr_1 := blk_frozen BKgr.out 1
 try go_wp2
 have hb := below_drew1 (Below.refl w13.heap.size w13)
 clear hz_ga_0 hf_ga_0
 clear hz_ga_1 hf_ga_1
 clear hz_gs_0 hf_gs_0
 clear hz_gs_1 hf_gs_1
 clear hz_gx_0 hf_gx_0
 clear hz_gx_1 hf_gx_1
 clear hz_gr_0 hf_gr_0
 clear hz_gr_1 hf_gr_1
 replace HS := Aside0.mk (Kd.V_below HS.out hb)
 replace HX := Aside0.mk (Kd.R_below HX.out hb)
 replace HXM := Aside0.mk (Kd.S_below HXM.out hb)
 replace HR := Aside0.mk (Kd.R_below HR.out hb)
 replace BKga := Aside0.mk (blk_below BKga.out hb)
 replace BKgs := Aside0.mk (blk_below BKgs.out hb)
 replace BKgx := Aside0.mk (blk_below BKgx.out hb)
 replace BKgr := Aside0.mk (blk_below BKgr.out hb)
 replace HB := Aside0.mk (below_step HB.out hb)
 clear hb
 refine start_ (n := 5) (S := fun w' => w'.cell? ⟨gx,0,none⟩ = some (.slice B5 l.length d5) ∧ w'.cell? ⟨gx,1,none⟩ = some (.int .i64 u) ∧ w'.cell? ⟨ga,0,none⟩ = some (.slice A0 l.length c0) ∧ w'.cell? ⟨ga,1,none⟩ = some (.int .i64 u)) (ds := []) #[false,false,false,false,false] (by kernel_rfl) rfl rfl ⟨(blk_cell BKgx.out 0).trans rfl,(blk_cell BKgx.out 1).trans rfl,(blk_cell BKga.out 0).trans rfl,(blk_cell BKga.out 1).trans rfl⟩ (fun hHeld => ?_)
 generalize w13.drew = w14 at HS HX HXM HR BKga BKgs BKgx BKgr HB hHeld ⊢
 refine take_ (i := 0) (N := some 54) (v := ?_) (a' := ?_) #[true,false,false,false,false] rfl rfl (by kernel_rfl) (fun _ _ _ h => h) (Or.inl ⟨by rfl,?_⟩) hHeld ?_ ?_
 rotate_left
 ·rintro w' ⟨s0,s1,s2,s3⟩
  go_simp
  with_reducible rfl
 rotate_left
 ·simp only [Act.put,List.setIfInBounds_toArray,List.set_cons_zero,List.set_cons_succ,i64_w,i32_w]
  rfl
 refine take_ (i := 1) (N := some 55) (v := ?_) (a' := ?_) #[true,true,false,false,false] rfl rfl (by kernel_rfl) (fun _ _ _ h => h) (Or.inl ⟨by rfl,?_⟩) hHeld ?_ ?_
 rotate_left
 ·rintro w' ⟨s0,s1,s2,s3⟩
  go_simp
  with_reducible rfl
 rotate_left
 ·simp only [Act.put,List.setIfInBounds_toArray,List.set_cons_zero,List.set_cons_succ,i64_w,i32_w]
  rfl
 refine one_ (i := 2) (N := some 56) #[true,true,true,false,false] rfl rfl (by kernel_rfl) (by decide) (fun K hK => ?_)
 refine goes_ Try.func10 (by kernel_rfl) rfl #[.agg #[.slice A0 l.length c0, .int .i64 u]] (by rfl) rfl rfl (by (try simp only [List.map_toArray,List.map_cons,List.map_nil]);first | done | rfl | (simp only [List.length_drop,List.length_take];rfl)) ?_
 with_reducible refine (laws_toCups.calls k A0 c0 l u l u _ (Kd.C_below HR0.out HB.out) HC0.out HG0.out.toC).mono ?_
 rintro e w15 ⟨v_,rfl,ho,hb⟩
 refine ⟨_,rfl,?_⟩
 have HO := Aside0.mk ho
 clear ho
 have sz13 := Aside0.mk (show w14.heap.size ≤ w15.heap.size from hb.size)
 replace HS := Aside0.mk (Kd.V_below HS.out hb)
 replace HX := Aside0.mk (Kd.R_below HX.out hb)
 replace HXM := Aside0.mk (Kd.S_below HXM.out hb)
 replace HR := Aside0.mk (Kd.R_below HR.out hb)
 replace BKga := Aside0.mk (blk_below BKga.out hb)
 replace BKgs := Aside0.mk (blk_below BKgs.out hb)
 replace BKgx := Aside0.mk (blk_below BKgx.out hb)
 replace BKgr := Aside0.mk (blk_below BKgr.out hb)
 replace HB := Aside0.mk (below_step HB.out hb)
 clear hb
 obtain ⟨B7,d7,e_⟩ := Kd.R_slice HO.out
 subst e_
 refine hK.out _ _ ⟨(blk_cell BKgx.out 0).trans rfl,(blk_cell BKgx.out 1).trans rfl,(blk_cell BKga.out 0).trans rfl,(blk_cell BKga.out 1).trans rfl⟩ (fun hHeld => ?_)
 clear hK K
 refine norm_ (a' := ?_) ?_ ?_
 rotate_left
 ·show Act.put _ (some 56) _ = _
  simp only [Act.put,List.setIfInBounds_toArray,List.set_cons_zero,List.set_cons_succ,i64_w,i32_w]
  rfl
 refine one_ (i := 3) (N := some 57) #[true,true,true,true,false] rfl rfl (by kernel_rfl) (by decide) (fun K hK => ?_)
 refine goes_ Try.func13 (by kernel_rfl) rfl #[.agg #[.slice B5 l.length d5, .int .i64 u], .agg #[.slice B7 l.length d7, .int .i64 u]] (by rfl) rfl rfl (by (try simp only [List.map_toArray,List.map_cons,List.map_nil]);first | done | rfl | (simp only [List.length_drop,List.length_take];rfl)) ?_
 with_reducible refine (laws_eqCups.calls k B5 d5 l u B7 d7 l u true _ (Kd.R_reads' HX.out).2.2 (Kd.R_reads' HX.out).2.1 (Kd.R_reads' HO.out).2.2 (Kd.R_reads' HO.out).2.1 HG0.out.eqx).mono ?_
 rintro e w16 ⟨rfl,hb⟩
 refine ⟨_,rfl,?_⟩
 have sz14 := Aside0.mk (show w15.heap.size ≤ w16.heap.size from hb.size)
 replace HS := Aside0.mk (Kd.V_below HS.out hb)
 replace HX := Aside0.mk (Kd.R_below HX.out hb)
 replace HXM := Aside0.mk (Kd.S_below HXM.out hb)
 replace HR := Aside0.mk (Kd.R_below HR.out hb)
 replace BKga := Aside0.mk (blk_below BKga.out hb)
 replace BKgs := Aside0.mk (blk_below BKgs.out hb)
 replace BKgx := Aside0.mk (blk_below BKgx.out hb)
 replace BKgr := Aside0.mk (blk_below BKgr.out hb)
 replace HB := Aside0.mk (below_step HB.out hb)
 clear hb HO
 refine hK.out _ _ ⟨(blk_cell BKgx.out 0).trans rfl,(blk_cell BKgx.out 1).trans rfl,(blk_cell BKga.out 0).trans rfl,(blk_cell BKga.out 1).trans rfl⟩ (fun hHeld => ?_)
 clear hK K
 refine norm_ (a' := ?_) ?_ ?_
 rotate_left
 ·show Act.put _ (some 57) _ = _
  simp only [Act.put,List.setIfInBounds_toArray,List.set_cons_zero,List.set_cons_succ,i64_w,i32_w]
  rfl
 refine pure_ (i := 4) (N := some 58) (v := ?_) (a' := ?_) #[true,true,true,true,true] rfl rfl (by kernel_rfl) (fun _ _ _ h => h) (Or.inl ⟨by rfl,?_⟩) ?_ ?_
 rotate_left
 ·intro w'
  go_simp
  with_reducible rfl
 rotate_left
 ·simp only [Act.put,List.setIfInBounds_toArray,List.set_cons_zero,List.set_cons_succ,i64_w,i32_w]
  rfl
 refine done_ (by kernel_rfl) ?_
 clear hHeld
 go_wp2_with fail
 refine (laws_toIntSS.calls k A1 c1 ms ms _ (Kd.C_below HR1.out HB.out) HC1.out HG0.out.toM).mono ?_
 rintro e w17 ⟨v_,rfl,ho,hb⟩
 have sz15 := Aside0.mk (show w16.heap.size ≤ w17.heap.size from hb.size)
 have HO := Aside0.mk (ho)
 replace HS := Aside0.mk (Kd.V_below HS.out hb)
 replace HX := Aside0.mk (Kd.R_below HX.out hb)
 replace HXM := Aside0.mk (Kd.S_below HXM.out hb)
 replace HR := Aside0.mk (Kd.R_below HR.out hb)
 replace BKga := Aside0.mk (blk_below BKga.out hb)
 replace BKgs := Aside0.mk (blk_below BKgs.out hb)
 replace BKgx := Aside0.mk (blk_below BKgx.out hb)
 replace BKgr := Aside0.mk (blk_below BKgr.out hb)
 replace HB := Aside0.mk (below_step HB.out hb)
 clear hb
 clear ho
 obtain ⟨B7,d7,e_⟩ := Kd.S_slice HO.out
 subst e_
 go_wp2_with fail
 refine (laws_eqIntSS.calls k B4 d4 ms B7 d7 ms true _ (Kd.S_reads' HXM.out).2.2 (Kd.S_reads' HXM.out).2.1 (Kd.S_reads' HO.out).2.2 (Kd.S_reads' HO.out).2.1 HG0.out.eqm).mono ?_
 rintro e w18 ⟨rfl,hd⟩
 have hb := hd.below
 clear hd
 have sz16 := Aside0.mk (show w17.heap.size ≤ w18.heap.size from hb.size)
 replace HS := Aside0.mk (Kd.V_below HS.out hb)
 replace HX := Aside0.mk (Kd.R_below HX.out hb)
 replace HXM := Aside0.mk (Kd.S_below HXM.out hb)
 replace HR := Aside0.mk (Kd.R_below HR.out hb)
 replace BKga := Aside0.mk (blk_below BKga.out hb)
 replace BKgs := Aside0.mk (blk_below BKgs.out hb)
 replace BKgx := Aside0.mk (blk_below BKgx.out hb)
 replace BKgr := Aside0.mk (blk_below BKgr.out hb)
 replace HB := Aside0.mk (below_step HB.out hb)
 clear hb HO
 have hz_ga_0 : World.cell? w18 ⟨ga,0,none⟩ = some (.slice A0 l.length c0) := (blk_cell BKga.out 0).trans rfl
 have hf_ga_0 := blk_frozen BKga.out 0
 have hz_ga_1 : World.cell? w18 ⟨ga,1,none⟩ = some (.int .i64 u) := (blk_cell BKga.out 1).trans rfl
 have hf_ga_1 := blk_frozen BKga.out 1
 have hz_gs_0 : World.cell? w18 ⟨gs,0,none⟩ = some (.slice B3 r.length d3) := (blk_cell BKgs.out 0).trans rfl
 have hf_gs_0 := blk_frozen BKgs.out 0
 have hz_gs_1 : World.cell? w18 ⟨gs,1,none⟩ = some (.int .i64 ru) := (blk_cell BKgs.out 1).trans rfl
 have hf_gs_1 := blk_frozen BKgs.out 1
 have hz_gx_0 : World.cell? w18 ⟨gx,0,none⟩ = some (.slice B5 l.length d5) := (blk_cell BKgx.out 0).trans rfl
 have hf_gx_0 := blk_frozen BKgx.out 0
 have hz_gx_1 : World.cell? w18 ⟨gx,1,none⟩ = some (.int .i64 u) := (blk_cell BKgx.out 1).trans rfl
 have hf_gx_1 := blk_frozen BKgx.out 1
 have hz_gr_0 : World.cell? w18 ⟨gr,0,none⟩ = some (.slice B6 r.length d6) := (blk_cell BKgr.out 0).trans rfl
 have hf_gr_0 := blk_frozen BKgr.out 0
 have hz_gr_1 : World.cell? w18 ⟨gr,1,none⟩ = some (.int .i64 ru) := (blk_cell BKgr.out 1).trans rfl
 have hf_gr_1 := blk_frozen BKgr.out 1
 go_wp2_with fail
 refine (laws_markCups.calls k (fun k_ => some k_ = (.slice B5 l.length d5 : Value).ownBlock) _ l u 1 n1 l' w _ HB.out HX.out HG0.out.mk1).mono ?_
 rintro e w19 ⟨rfl,_,hb,hkp⟩
 have rga_ := Kd.R_ne HX.out BKga.out (by decide)
 have rgs_ := Kd.R_ne HX.out BKgs.out (by decide)
 have rgx_ := Kd.R_ne HX.out BKgx.out (by decide)
 have rgr_ := Kd.R_ne HX.out BKgr.out (by decide)
 clear hz_ga_0 hf_ga_0
 clear hz_ga_1 hf_ga_1
 clear hz_gs_0 hf_gs_0
 clear hz_gs_1 hf_gs_1
 clear hz_gx_0 hf_gx_0
 clear hz_gx_1 hf_gx_1
 clear hz_gr_0 hf_gr_0
 clear hz_gr_1 hf_gr_1
 have sz17 := Aside0.mk (show w18.heap.size ≤ w19.heap.size from hkp.1)
 replace HS := Aside0.mk (Kd.V_kept HS.out hkp (fun k_ hk he => by have h1_ := HL1.out k_ he.symm;(try simp only at hk);have z6_ := sz6.out;omega))
 replace HXM := Aside0.mk (Kd.S_kept HXM.out hkp (fun k_ hk he => by have h1_ := HL2.out k_ he.symm;have h2_ := hk.1;have z8_ := sz8.out;omega))
 replace HR := Aside0.mk (Kd.R_kept HR.out hkp (fun k_ hk he => by have h1_ := HL2.out k_ he.symm;have h2_ := HL3.out k_ hk.symm;have z8_ := sz8.out;have z9_ := sz9.out;omega))
 replace BKga := Aside0.mk (blk_kept BKga.out hkp (rga_))
 replace BKgs := Aside0.mk (blk_kept BKgs.out hkp (rgs_))
 replace BKgx := Aside0.mk (blk_kept BKgx.out hkp (rgx_))
 replace BKgr := Aside0.mk (blk_kept BKgr.out hkp (rgr_))
 replace HB := Aside0.mk (hb)
 clear hb hkp HX
 clear rga_
 clear rgs_
 clear rgx_
 clear rgr_
 go_wp2_with fail
 refine (laws_markIntSS.calls k (fun k_ => w9.heap.size ≤ k_ ∧ k_ < w10.heap.size) _ ms n1 n2 ms' w _ HB.out HXM.out HG0.out.mk2).mono ?_
 rintro e w20 ⟨rfl,_,hb,hkp⟩
 have sz18 := Aside0.mk (show w19.heap.size ≤ w20.heap.size from hkp.1)
 replace HS := Aside0.mk (Kd.V_kept HS.out hkp (fun k_ hk he => by have h1_ := he.1;(try simp only at hk);have z6_ := sz6.out;have z7_ := sz7.out;have z8_ := sz8.out;omega))
 replace HR := Aside0.mk (Kd.R_kept HR.out hkp (fun k_ hk he => by have h1_ := he.2;have h2_ := HL3.out k_ hk.symm;omega))
 replace BKga := Aside0.mk (blk_kept BKga.out hkp (fun he => by have h1_ := he.1;have h2_ := GHga.out;have z1_ := sz1.out;have z2_ := sz2.out;have z3_ := sz3.out;have z4_ := sz4.out;have z5_ := sz5.out;have z6_ := sz6.out;have z7_ := sz7.out;have z8_ := sz8.out;omega))
 replace BKgs := Aside0.mk (blk_kept BKgs.out hkp (fun he => by have h1_ := he.1;have h2_ := GHgs.out;have z7_ := sz7.out;have z8_ := sz8.out;omega))
 replace BKgx := Aside0.mk (blk_kept BKgx.out hkp (fun he => by have h1_ := he.1;have h2_ := GHgx.out;omega))
 replace BKgr := Aside0.mk (blk_kept BKgr.out hkp (fun he => by have h1_ := he.2;have h2_ := Ggr.out;have z10_ := sz10.out;omega))
 replace HB := Aside0.mk (hb)
 clear hb hkp HXM
 have hz_ga_0 : World.cell? w20 ⟨ga,0,none⟩ = some (.slice A0 l.length c0) := (blk_cell BKga.out 0).trans rfl
 have hf_ga_0 := blk_frozen BKga.out 0
 have hz_ga_1 : World.cell? w20 ⟨ga,1,none⟩ = some (.int .i64 u) := (blk_cell BKga.out 1).trans rfl
 have hf_ga_1 := blk_frozen BKga.out 1
 have hz_gs_0 : World.cell? w20 ⟨gs,0,none⟩ = some (.slice B3 r.length d3) := (blk_cell BKgs.out 0).trans rfl
 have hf_gs_0 := blk_frozen BKgs.out 0
 have hz_gs_1 : World.cell? w20 ⟨gs,1,none⟩ = some (.int .i64 ru) := (blk_cell BKgs.out 1).trans rfl
 have hf_gs_1 := blk_frozen BKgs.out 1
 have hz_gx_0 : World.cell? w20 ⟨gx,0,none⟩ = some (.slice B5 l.length d5) := (blk_cell BKgx.out 0).trans rfl
 have hf_gx_0 := blk_frozen BKgx.out 0
 have hz_gx_1 : World.cell? w20 ⟨gx,1,none⟩ = some (.int .i64 u) := (blk_cell BKgx.out 1).trans rfl
 have hf_gx_1 := blk_frozen BKgx.out 1
 have hz_gr_0 : World.cell? w20 ⟨gr,0,none⟩ = some (.slice B6 r.length d6) := (blk_cell BKgr.out 0).trans rfl
 have hf_gr_0 := blk_frozen BKgr.out 0
 have hz_gr_1 : World.cell? w20 ⟨gr,1,none⟩ = some (.int .i64 ru) := (blk_cell BKgr.out 1).trans rfl
 have hf_gr_1 := blk_frozen BKgr.out 1
 go_wp2_with fail
 refine (laws_eqCups.calls k B6 d6 r ru B3 d3 r ru true _ (Kd.R_reads' HR.out).2.2 (Kd.R_reads' HR.out).2.1 (Kd.V_reads' HS.out).2.2 (Kd.V_reads' HS.out).2.1 HG0.out.eqr).mono ?_
 rintro e w21 ⟨rfl,hb⟩
 clear hz_ga_0 hf_ga_0
 clear hz_ga_1 hf_ga_1
 clear hz_gs_0 hf_gs_0
 clear hz_gs_1 hf_gs_1
 clear hz_gx_0 hf_gx_0
 clear hz_gx_1 hf_gx_1
 clear hz_gr_0 hf_gr_0
 clear hz_gr_1 hf_gr_1
 have sz19 := Aside0.mk (show w20.heap.size ≤ w21.heap.size from hb.size)
 replace HS := Aside0.mk (Kd.V_below HS.out hb)
 replace HR := Aside0.mk (Kd.R_below HR.out hb)
 replace BKga := Aside0.mk (blk_below BKga.out hb)
 replace BKgs := Aside0.mk (blk_below BKgs.out hb)
 replace BKgx := Aside0.mk (blk_below BKgx.out hb)
 replace BKgr := Aside0.mk (blk_below BKgr.out hb)
 replace HB := Aside0.mk (below_step HB.out hb)
 clear hb
 have hz_ga_0 : World.cell? w21 ⟨ga,0,none⟩ = some (.slice A0 l.length c0) := (blk_cell BKga.out 0).trans rfl
 have hf_ga_0 := blk_frozen BKga.out 0
 have hz_ga_1 : World.cell? w21 ⟨ga,1,none⟩ = some (.int .i64 u) := (blk_cell BKga.out 1).trans rfl
 have hf_ga_1 := blk_frozen BKga.out 1
 have hz_gs_0 : World.cell? w21 ⟨gs,0,none⟩ = some (.slice B3 r.length d3) := (blk_cell BKgs.out 0).trans rfl
 have hf_gs_0 := blk_frozen BKgs.out 0
 have hz_gs_1 : World.cell? w21 ⟨gs,1,none⟩ = some (.int .i64 ru) := (blk_cell BKgs.out 1).trans rfl
 have hf_gs_1 := blk_frozen BKgs.out 1
 have hz_gx_0 : World.cell? w21 ⟨gx,0,none⟩ = some (.slice B5 l.length d5) := (blk_cell BKgx.out 0).trans rfl
 have hf_gx_0 := blk_frozen BKgx.out 0
 have hz_gx_1 : World.cell? w21 ⟨gx,1,none⟩ = some (.int .i64 u) := (blk_cell BKgx.out 1).trans rfl
 have hf_gx_1 := blk_frozen BKgx.out 1
 have hz_gr_0 : World.cell? w21 ⟨gr,0,none⟩ = some (.slice B6 r.length d6) := (blk_cell BKgr.out 0).trans rfl
 have hf_gr_0 := blk_frozen BKgr.out 0
 have hz_gr_1 : World.cell? w21 ⟨gr,1,none⟩ = some (.int .i64 ru) := (blk_cell BKgr.out 1).trans rfl
 have hf_gr_1 := blk_frozen BKgr.out 1
 go_wp2_with fail
 refine (laws_markCups.calls k (fun k_ => some k_ = (.slice B6 r.length d6 : Value).ownBlock) _ r ru 1 n r' w _ HB.out HR.out HG0.out.mk3).mono ?_
 rintro e w22 ⟨rfl,ho,hb,hkp⟩
 have rga_ := Kd.R_ne HR.out BKga.out (by decide)
 have rgs_ := Kd.R_ne HR.out BKgs.out (by decide)
 have rgx_ := Kd.R_ne HR.out BKgx.out (by decide)
 have rgr_ := Kd.R_ne HR.out BKgr.out (by decide)
 clear hz_ga_0 hf_ga_0
 clear hz_ga_1 hf_ga_1
 clear hz_gs_0 hf_gs_0
 clear hz_gs_1 hf_gs_1
 clear hz_gx_0 hf_gx_0
 clear hz_gx_1 hf_gx_1
 clear hz_gr_0 hf_gr_0
 clear hz_gr_1 hf_gr_1
 have sz20 := Aside0.mk (show w21.heap.size ≤ w22.heap.size from hkp.1)
 have HQ := Aside0.mk (ho)
 replace HS := Aside0.mk (Kd.V_kept HS.out hkp (fun k_ hk he => by have h1_ := HL3.out k_ he.symm;(try simp only at hk);have z6_ := sz6.out;have z7_ := sz7.out;have z8_ := sz8.out;have z9_ := sz9.out;omega))
 replace BKga := Aside0.mk (blk_kept BKga.out hkp (rga_))
 replace BKgs := Aside0.mk (blk_kept BKgs.out hkp (rgs_))
 replace BKgx := Aside0.mk (blk_kept BKgx.out hkp (rgx_))
 replace BKgr := Aside0.mk (blk_kept BKgr.out hkp (rgr_))
 replace HB := Aside0.mk (hb)
 clear hb hkp HR
 clear ho
 clear rga_
 clear rgs_
 clear rgx_
 clear rgr_
 have hz_ga_0 : World.cell? w22 ⟨ga,0,none⟩ = some (.slice A0 l.length c0) := (blk_cell BKga.out 0).trans rfl
 have hf_ga_0 := blk_frozen BKga.out 0
 have hz_ga_1 : World.cell? w22 ⟨ga,1,none⟩ = some (.int .i64 u) := (blk_cell BKga.out 1).trans rfl
 have hf_ga_1 := blk_frozen BKga.out 1
 have hz_gs_0 : World.cell? w22 ⟨gs,0,none⟩ = some (.slice B3 r.length d3) := (blk_cell BKgs.out 0).trans rfl
 have hf_gs_0 := blk_frozen BKgs.out 0
 have hz_gs_1 : World.cell? w22 ⟨gs,1,none⟩ = some (.int .i64 ru) := (blk_cell BKgs.out 1).trans rfl
 have hf_gs_1 := blk_frozen BKgs.out 1
 have hz_gx_0 : World.cell? w22 ⟨gx,0,none⟩ = some (.slice B5 l.length d5) := (blk_cell BKgx.out 0).trans rfl
 have hf_gx_0 := blk_frozen BKgx.out 0
 have hz_gx_1 : World.cell? w22 ⟨gx,1,none⟩ = some (.int .i64 u) := (blk_cell BKgx.out 1).trans rfl
 have hf_gx_1 := blk_frozen BKgx.out 1
 have hz_gr_0 : World.cell? w22 ⟨gr,0,none⟩ = some (.slice B6 r.length d6) := (blk_cell BKgr.out 0).trans rfl
 have hf_gr_0 := blk_frozen BKgr.out 0
 have hz_gr_1 : World.cell? w22 ⟨gr,1,none⟩ = some (.int .i64 ru) := (blk_cell BKgr.out 1).trans rfl
 have hf_gr_1 := blk_frozen BKgr.out 1
 go_wp2_with fail
 have hc_ := laws_heldCups.calls k B6 d6 r' ru 1 n w22 (Kd.R_reads' HQ.out).2.2 (by rw [HLN.out];exact (Kd.R_reads' HQ.out).2.1) HG0.out.hd
 rw [HLN.out] at hc_
 refine hc_.mono ?_
 clear hc_
 rintro e w23 ⟨rfl,hb⟩
 clear hz_ga_0 hf_ga_0
 clear hz_ga_1 hf_ga_1
 clear hz_gs_0 hf_gs_0
 clear hz_gs_1 hf_gs_1
 clear hz_gx_0 hf_gx_0
 clear hz_gx_1 hf_gx_1
 clear hz_gr_0 hf_gr_0
 clear hz_gr_1 hf_gr_1
 have sz21 := Aside0.mk (show w22.heap.size ≤ w23.heap.size from hb.size)
 replace HS := Aside0.mk (Kd.V_below HS.out hb)
 replace HQ := Aside0.mk (Kd.R_below HQ.out hb)
 replace BKga := Aside0.mk (blk_below BKga.out hb)
 replace BKgs := Aside0.mk (blk_below BKgs.out hb)
 replace BKgx := Aside0.mk (blk_below BKgx.out hb)
 replace BKgr := Aside0.mk (blk_below BKgr.out hb)
 replace HB := Aside0.mk (below_step HB.out hb)
 clear hb
 have hz_ga_0 : World.cell? w23 ⟨ga,0,none⟩ = some (.slice A0 l.length c0) := (blk_cell BKga.out 0).trans rfl
 have hf_ga_0 := blk_frozen BKga.out 0
 have hz_ga_1 : World.cell? w23 ⟨ga,1,none⟩ = some (.int .i64 u) := (blk_cell BKga.out 1).trans rfl
 have hf_ga_1 := blk_frozen BKga.out 1
 have hz_gs_0 : World.cell? w23 ⟨gs,0,none⟩ = some (.slice B3 r.length d3) := (blk_cell BKgs.out 0).trans rfl
 have hf_gs_0 := blk_frozen BKgs.out 0
 have hz_gs_1 : World.cell? w23 ⟨gs,1,none⟩ = some (.int .i64 ru) := (blk_cell BKgs.out 1).trans rfl
 have hf_gs_1 := blk_frozen BKgs.out 1
 have hz_gx_0 : World.cell? w23 ⟨gx,0,none⟩ = some (.slice B5 l.length d5) := (blk_cell BKgx.out 0).trans rfl
 have hf_gx_0 := blk_frozen BKgx.out 0
 have hz_gx_1 : World.cell? w23 ⟨gx,1,none⟩ = some (.int .i64 u) := (blk_cell BKgx.out 1).trans rfl
 have hf_gx_1 := blk_frozen BKgx.out 1
 have hz_gr_0 : World.cell? w23 ⟨gr,0,none⟩ = some (.slice B6 r.length d6) := (blk_cell BKgr.out 0).trans rfl
 have hf_gr_0 := blk_frozen BKgr.out 0
 have hz_gr_1 : World.cell? w23 ⟨gr,1,none⟩ = some (.int .i64 ru) := (blk_cell BKgr.out 1).trans rfl
 have hf_gr_1 := blk_frozen BKgr.out 1
 go_wp2_with fail
 refine (laws_toCups.calls k A0 c0 l u l u _ (Kd.C_below HR0.out HB.out) HC0.out HG0.out.toC).mono ?_
 rintro e w24 ⟨v_,rfl,ho,hb⟩
 clear hz_ga_0 hf_ga_0
 clear hz_ga_1 hf_ga_1
 clear hz_gs_0 hf_gs_0
 clear hz_gs_1 hf_gs_1
 clear hz_gx_0 hf_gx_0
 clear hz_gx_1 hf_gx_1
 clear hz_gr_0 hf_gr_0
 clear hz_gr_1 hf_gr_1
 have sz22 := Aside0.mk (show w23.heap.size ≤ w24.heap.size from hb.size)
 have HO := Aside0.mk (ho)
 replace HS := Aside0.mk (Kd.V_below HS.out hb)
 replace HQ := Aside0.mk (Kd.R_below HQ.out hb)
 replace BKga := Aside0.mk (blk_below BKga.out hb)
 replace BKgs := Aside0.mk (blk_below BKgs.out hb)
 replace BKgx := Aside0.mk (blk_below BKgx.out hb)
 replace BKgr := Aside0.mk (blk_below BKgr.out hb)
 replace HB := Aside0.mk (below_step HB.out hb)
 clear hb
 clear ho
 obtain ⟨B8,d8,e_⟩ := Kd.R_slice HO.out
 subst e_
 go_wp2_with fail
 refine (laws_toIntSS.calls k A1 c1 ms ms _ (Kd.C_below HR1.out HB.out) HC1.out HG0.out.toM).mono ?_
 rintro e w25 ⟨v_,rfl,ho,hb⟩
 have sz23 := Aside0.mk (show w24.heap.size ≤ w25.heap.size from hb.size)
 have HM := Aside0.mk (ho)
 replace HS := Aside0.mk (Kd.V_below HS.out hb)
 replace HQ := Aside0.mk (Kd.R_below HQ.out hb)
 replace HO := Aside0.mk (Kd.R_below HO.out hb)
 replace BKga := Aside0.mk (blk_below BKga.out hb)
 replace BKgs := Aside0.mk (blk_below BKgs.out hb)
 replace BKgx := Aside0.mk (blk_below BKgx.out hb)
 replace BKgr := Aside0.mk (blk_below BKgr.out hb)
 replace HB := Aside0.mk (below_step HB.out hb)
 clear hb
 clear ho
 obtain ⟨B9,d9,e_⟩ := Kd.S_slice HM.out
 subst e_
 go_wp2_with fail
 refine (impl_PlayMixes.calls k B8 d8 l u B9 d9 ms r ru b _ (Kd.R_reads' HO.out).2.2 (Kd.R_reads' HO.out).2.1 (Kd.S_reads' HM.out).2.2 (Kd.S_reads' HM.out).2.1 HG0.out.im).mono ?_
 rintro e w26 ⟨v_,rfl,ho,hb⟩
 have sz24 := Aside0.mk (show w25.heap.size ≤ w26.heap.size from hb.size)
 have HO2 := Aside0.mk (ho)
 replace HS := Aside0.mk (Kd.V_below HS.out hb)
 replace HQ := Aside0.mk (Kd.R_below HQ.out hb)
 replace BKga := Aside0.mk (blk_below BKga.out hb)
 replace BKgs := Aside0.mk (blk_below BKgs.out hb)
 replace BKgx := Aside0.mk (blk_below BKgx.out hb)
 replace BKgr := Aside0.mk (blk_below BKgr.out hb)
 replace HB := Aside0.mk (below_step HB.out hb)
 clear hb HO HM
 clear ho
 obtain ⟨B10,d10,e_⟩ := Kd.R_slice HO2.out
 subst e_
 have hz_ga_0 : World.cell? w26 ⟨ga,0,none⟩ = some (.slice A0 l.length c0) := (blk_cell BKga.out 0).trans rfl
 have hf_ga_0 := blk_frozen BKga.out 0
 have hz_ga_1 : World.cell? w26 ⟨ga,1,none⟩ = some (.int .i64 u) := (blk_cell BKga.out 1).trans rfl
 have hf_ga_1 := blk_frozen BKga.out 1
 have hz_gs_0 : World.cell? w26 ⟨gs,0,none⟩ = some (.slice B3 r.length d3) := (blk_cell BKgs.out 0).trans rfl
 have hf_gs_0 := blk_frozen BKgs.out 0
 have hz_gs_1 : World.cell? w26 ⟨gs,1,none⟩ = some (.int .i64 ru) := (blk_cell BKgs.out 1).trans rfl
 have hf_gs_1 := blk_frozen BKgs.out 1
 have hz_gx_0 : World.cell? w26 ⟨gx,0,none⟩ = some (.slice B5 l.length d5) := (blk_cell BKgx.out 0).trans rfl
 have hf_gx_0 := blk_frozen BKgx.out 0
 have hz_gx_1 : World.cell? w26 ⟨gx,1,none⟩ = some (.int .i64 u) := (blk_cell BKgx.out 1).trans rfl
 have hf_gx_1 := blk_frozen BKgx.out 1
 have hz_gr_0 : World.cell? w26 ⟨gr,0,none⟩ = some (.slice B6 r.length d6) := (blk_cell BKgr.out 0).trans rfl
 have hf_gr_0 := blk_frozen BKgr.out 0
 have hz_gr_1 : World.cell? w26 ⟨gr,1,none⟩ = some (.int .i64 ru) := (blk_cell BKgr.out 1).trans rfl
 have hf_gr_1 := blk_frozen BKgr.out 1
 go_wp2_with ((with_reducible refine gate_dst (N := 15) rfl ?_);refine box_event ?hg (N := 15) ?hd (cs := #[.slice none 0 0, .int .i64 0]) (t := 29) ?hr ?_;(case hd => rfl);(case hg => rfl);(case hr => first | (go_simp;done) | (go_simp;rfl));intro gh hg wb3 hbox hb;have HX_ := Aside0.mk hb;have HY_ := Aside0.mk hbox;have HZ_ := Aside0.mk hg;clear hb hbox hg;have hq0_ : World.cell? wb3 ⟨gh,0,none⟩ = some (.slice none 0 0) := (blk_cell HY_.out 0).trans rfl;have hq1_ : World.cell? wb3 ⟨gh,1,none⟩ = some (.int .i64 0) := (blk_cell HY_.out 1).trans rfl;have hq2_ := blk_frozen HY_.out 0;have hq3_ := blk_frozen HY_.out 1;have hu_ga := blk_below BKga.out HX_.out;have hv_ga_0 : World.cell? wb3 ⟨ga,0,none⟩ = some (.slice A0 l.length c0) := (blk_cell hu_ga 0).trans rfl;have hw_ga_0 := blk_frozen hu_ga 0;have hv_ga_1 : World.cell? wb3 ⟨ga,1,none⟩ = some (.int .i64 u) := (blk_cell hu_ga 1).trans rfl;have hw_ga_1 := blk_frozen hu_ga 1;clear hu_ga;have ht_ga : ga ≠ gh := (by rw [HZ_.out];exact Nat.ne_of_lt (blk_lt BKga.out));have hs_ga : gh ≠ ga := ht_ga.symm;have hu_gs := blk_below BKgs.out HX_.out;have hv_gs_0 : World.cell? wb3 ⟨gs,0,none⟩ = some (.slice B3 r.length d3) := (blk_cell hu_gs 0).trans rfl;have hw_gs_0 := blk_frozen hu_gs 0;have hv_gs_1 : World.cell? wb3 ⟨gs,1,none⟩ = some (.int .i64 ru) := (blk_cell hu_gs 1).trans rfl;have hw_gs_1 := blk_frozen hu_gs 1;clear hu_gs;have ht_gs : gs ≠ gh := (by rw [HZ_.out];exact Nat.ne_of_lt (blk_lt BKgs.out));have hs_gs : gh ≠ gs := ht_gs.symm;have hu_gx := blk_below BKgx.out HX_.out;have hv_gx_0 : World.cell? wb3 ⟨gx,0,none⟩ = some (.slice B5 l.length d5) := (blk_cell hu_gx 0).trans rfl;have hw_gx_0 := blk_frozen hu_gx 0;have hv_gx_1 : World.cell? wb3 ⟨gx,1,none⟩ = some (.int .i64 u) := (blk_cell hu_gx 1).trans rfl;have hw_gx_1 := blk_frozen hu_gx 1;clear hu_gx;have ht_gx : gx ≠ gh := (by rw [HZ_.out];exact Nat.ne_of_lt (blk_lt BKgx.out));have hs_gx : gh ≠ gx := ht_gx.symm;have hu_gr := blk_below BKgr.out HX_.out;have hv_gr_0 : World.cell? wb3 ⟨gr,0,none⟩ = some (.slice B6 r.length d6) := (blk_cell hu_gr 0).trans rfl;have hw_gr_0 := blk_frozen hu_gr 0;have hv_gr_1 : World.cell? wb3 ⟨gr,1,none⟩ = some (.int .i64 ru) := (blk_cell hu_gr 1).trans rfl;have hw_gr_1 := blk_frozen hu_gr 1;clear hu_gr;have ht_gr : gr ≠ gh := (by rw [HZ_.out];exact Nat.ne_of_lt (blk_lt BKgr.out));have hs_gr : gh ≠ gr := ht_gr.symm)
 clear hq0_ hq1_ hq2_ hq3_ ht_ga hs_ga hv_ga_0 hw_ga_0 hv_ga_1 hw_ga_1 ht_gs hs_gs hv_gs_0 hw_gs_0 hv_gs_1 hw_gs_1 ht_gx hs_gx hv_gx_0 hw_gx_0 hv_gx_1 hw_gx_1 ht_gr hs_gr hv_gr_0 hw_gr_0 hv_gr_1 hw_gr_1
 have hb : Below w26.heap.size w26 ((wb3.setCell ⟨gh,0,none⟩ (.slice B10 r.length d10)).setCell ⟨gh,1,none⟩ (.int .i64 ru)) := below_set (below_set HX_.out (by rw [HZ_.out];exact Nat.le_refl _)) (by rw [HZ_.out];exact Nat.le_refl _)
 have BKgh := Aside0.mk (show (((wb3.setCell ⟨gh,0,none⟩ (.slice B10 r.length d10)).setCell ⟨gh,1,none⟩ (.int .i64 ru))).heap[gh]? = some (.cells #[.slice B10 r.length d10, .int .i64 ru] 29 (0,0)) from blk_put (blk_put HY_.out 0 _ rfl) 1 _ rfl)
 have Ggh := Aside0.mk (show w26.heap.size ≤ gh from by rw [HZ_.out];exact Nat.le_refl _)
 clear HX_ HY_ HZ_
 have GHgh := Aside0.mk (show gh < (((wb3.setCell ⟨gh,0,none⟩ (.slice B10 r.length d10)).setCell ⟨gh,1,none⟩ (.int .i64 ru))).heap.size from blk_lt BKgh.out)
 generalize ((wb3.setCell ⟨gh,0,none⟩ (.slice B10 r.length d10)).setCell ⟨gh,1,none⟩ (.int .i64 ru)) = w27 at hb BKgh GHgh ⊢
 clear hz_ga_0 hf_ga_0
 clear hz_ga_1 hf_ga_1
 clear hz_gs_0 hf_gs_0
 clear hz_gs_1 hf_gs_1
 clear hz_gx_0 hf_gx_0
 clear hz_gx_1 hf_gx_1
 clear hz_gr_0 hf_gr_0
 clear hz_gr_1 hf_gr_1
 have sz25 := Aside0.mk (show w26.heap.size ≤ w27.heap.size from hb.size)
 replace HS := Aside0.mk (Kd.V_below HS.out hb)
 replace HQ := Aside0.mk (Kd.R_below HQ.out hb)
 replace HO2 := Aside0.mk (Kd.R_below HO2.out hb)
 replace BKga := Aside0.mk (blk_below BKga.out hb)
 replace BKgs := Aside0.mk (blk_below BKgs.out hb)
 replace BKgx := Aside0.mk (blk_below BKgx.out hb)
 replace BKgr := Aside0.mk (blk_below BKgr.out hb)
 replace HB := Aside0.mk (below_step HB.out hb)
 clear hb
 have hz_ga_0 : World.cell? w27 ⟨ga,0,none⟩ = some (.slice A0 l.length c0) := (blk_cell BKga.out 0).trans rfl
 have hf_ga_0 := blk_frozen BKga.out 0
 have hz_ga_1 : World.cell? w27 ⟨ga,1,none⟩ = some (.int .i64 u) := (blk_cell BKga.out 1).trans rfl
 have hf_ga_1 := blk_frozen BKga.out 1
 have hz_gs_0 : World.cell? w27 ⟨gs,0,none⟩ = some (.slice B3 r.length d3) := (blk_cell BKgs.out 0).trans rfl
 have hf_gs_0 := blk_frozen BKgs.out 0
 have hz_gs_1 : World.cell? w27 ⟨gs,1,none⟩ = some (.int .i64 ru) := (blk_cell BKgs.out 1).trans rfl
 have hf_gs_1 := blk_frozen BKgs.out 1
 have hz_gx_0 : World.cell? w27 ⟨gx,0,none⟩ = some (.slice B5 l.length d5) := (blk_cell BKgx.out 0).trans rfl
 have hf_gx_0 := blk_frozen BKgx.out 0
 have hz_gx_1 : World.cell? w27 ⟨gx,1,none⟩ = some (.int .i64 u) := (blk_cell BKgx.out 1).trans rfl
 have hf_gx_1 := blk_frozen BKgx.out 1
 have hz_gr_0 : World.cell? w27 ⟨gr,0,none⟩ = some (.slice B6 r.length d6) := (blk_cell BKgr.out 0).trans rfl
 have hf_gr_0 := blk_frozen BKgr.out 0
 have hz_gr_1 : World.cell? w27 ⟨gr,1,none⟩ = some (.int .i64 ru) := (blk_cell BKgr.out 1).trans rfl
 have hf_gr_1 := blk_frozen BKgr.out 1
 have hz_gh_0 : World.cell? w27 ⟨gh,0,none⟩ = some (.slice B10 r.length d10) := (blk_cell BKgh.out 0).trans rfl
 have hf_gh_0 := blk_frozen BKgh.out 0
 have hz_gh_1 : World.cell? w27 ⟨gh,1,none⟩ = some (.int .i64 ru) := (blk_cell BKgh.out 1).trans rfl
 have hf_gh_1 := blk_frozen BKgh.out 1
 refine (laws_eqCups.calls k B10 d10 r ru B3 d3 r ru true _ (Kd.R_reads' HO2.out).2.2 (Kd.R_reads' HO2.out).2.1 (Kd.V_reads' HS.out).2.2 (Kd.V_reads' HS.out).2.1 HG0.out.eqr).mono ?_
 rintro e w28 ⟨rfl,hb⟩
 clear hz_ga_0 hf_ga_0
 clear hz_ga_1 hf_ga_1
 clear hz_gs_0 hf_gs_0
 clear hz_gs_1 hf_gs_1
 clear hz_gx_0 hf_gx_0
 clear hz_gx_1 hf_gx_1
 clear hz_gr_0 hf_gr_0
 clear hz_gr_1 hf_gr_1
 clear hz_gh_0 hf_gh_0
 clear hz_gh_1 hf_gh_1
 have sz26 := Aside0.mk (show w27.heap.size ≤ w28.heap.size from hb.size)
 replace HQ := Aside0.mk (Kd.R_below HQ.out hb)
 replace BKga := Aside0.mk (blk_below BKga.out hb)
 replace BKgs := Aside0.mk (blk_below BKgs.out hb)
 replace BKgx := Aside0.mk (blk_below BKgx.out hb)
 replace BKgr := Aside0.mk (blk_below BKgr.out hb)
 replace BKgh := Aside0.mk (blk_below BKgh.out hb)
 replace HB := Aside0.mk (below_step HB.out hb)
 clear hb HO2 HS
 have hz_ga_0 : World.cell? w28 ⟨ga,0,none⟩ = some (.slice A0 l.length c0) := (blk_cell BKga.out 0).trans rfl
 have hf_ga_0 := blk_frozen BKga.out 0
 have hz_ga_1 : World.cell? w28 ⟨ga,1,none⟩ = some (.int .i64 u) := (blk_cell BKga.out 1).trans rfl
 have hf_ga_1 := blk_frozen BKga.out 1
 have hz_gs_0 : World.cell? w28 ⟨gs,0,none⟩ = some (.slice B3 r.length d3) := (blk_cell BKgs.out 0).trans rfl
 have hf_gs_0 := blk_frozen BKgs.out 0
 have hz_gs_1 : World.cell? w28 ⟨gs,1,none⟩ = some (.int .i64 ru) := (blk_cell BKgs.out 1).trans rfl
 have hf_gs_1 := blk_frozen BKgs.out 1
 have hz_gx_0 : World.cell? w28 ⟨gx,0,none⟩ = some (.slice B5 l.length d5) := (blk_cell BKgx.out 0).trans rfl
 have hf_gx_0 := blk_frozen BKgx.out 0
 have hz_gx_1 : World.cell? w28 ⟨gx,1,none⟩ = some (.int .i64 u) := (blk_cell BKgx.out 1).trans rfl
 have hf_gx_1 := blk_frozen BKgx.out 1
 have hz_gr_0 : World.cell? w28 ⟨gr,0,none⟩ = some (.slice B6 r.length d6) := (blk_cell BKgr.out 0).trans rfl
 have hf_gr_0 := blk_frozen BKgr.out 0
 have hz_gr_1 : World.cell? w28 ⟨gr,1,none⟩ = some (.int .i64 ru) := (blk_cell BKgr.out 1).trans rfl
 have hf_gr_1 := blk_frozen BKgr.out 1
 have hz_gh_0 : World.cell? w28 ⟨gh,0,none⟩ = some (.slice B10 r.length d10) := (blk_cell BKgh.out 0).trans rfl
 have hf_gh_0 := blk_frozen BKgh.out 0
 have hz_gh_1 : World.cell? w28 ⟨gh,1,none⟩ = some (.int .i64 ru) := (blk_cell BKgh.out 1).trans rfl
 have hf_gh_1 := blk_frozen BKgh.out 1
 go_wp2_with fail
 have hc_ := laws_heldCups.calls k B6 d6 r' ru 1 n w28 (Kd.R_reads' HQ.out).2.2 (by rw [HLN.out];exact (Kd.R_reads' HQ.out).2.1) HG0.out.hd
 rw [HLN.out] at hc_
 refine hc_.mono ?_
 clear hc_
 rintro e w29 ⟨rfl,hb⟩
 clear hz_ga_0 hf_ga_0
 clear hz_ga_1 hf_ga_1
 clear hz_gs_0 hf_gs_0
 clear hz_gs_1 hf_gs_1
 clear hz_gx_0 hf_gx_0
 clear hz_gx_1 hf_gx_1
 clear hz_gr_0 hf_gr_0
 clear hz_gr_1 hf_gr_1
 clear hz_gh_0 hf_gh_0
 clear hz_gh_1 hf_gh_1
 have sz27 := Aside0.mk (show w28.heap.size ≤ w29.heap.size from hb.size)
 replace BKga := Aside0.mk (blk_below BKga.out hb)
 replace BKgs := Aside0.mk (blk_below BKgs.out hb)
 replace BKgx := Aside0.mk (blk_below BKgx.out hb)
 replace BKgr := Aside0.mk (blk_below BKgr.out hb)
 replace BKgh := Aside0.mk (blk_below BKgh.out hb)
 replace HB := Aside0.mk (below_step HB.out hb)
 clear hb HQ
 have hz_ga_0 : World.cell? w29 ⟨ga,0,none⟩ = some (.slice A0 l.length c0) := (blk_cell BKga.out 0).trans rfl
 have hf_ga_0 := blk_frozen BKga.out 0
 have hz_ga_1 : World.cell? w29 ⟨ga,1,none⟩ = some (.int .i64 u) := (blk_cell BKga.out 1).trans rfl
 have hf_ga_1 := blk_frozen BKga.out 1
 have hz_gs_0 : World.cell? w29 ⟨gs,0,none⟩ = some (.slice B3 r.length d3) := (blk_cell BKgs.out 0).trans rfl
 have hf_gs_0 := blk_frozen BKgs.out 0
 have hz_gs_1 : World.cell? w29 ⟨gs,1,none⟩ = some (.int .i64 ru) := (blk_cell BKgs.out 1).trans rfl
 have hf_gs_1 := blk_frozen BKgs.out 1
 have hz_gx_0 : World.cell? w29 ⟨gx,0,none⟩ = some (.slice B5 l.length d5) := (blk_cell BKgx.out 0).trans rfl
 have hf_gx_0 := blk_frozen BKgx.out 0
 have hz_gx_1 : World.cell? w29 ⟨gx,1,none⟩ = some (.int .i64 u) := (blk_cell BKgx.out 1).trans rfl
 have hf_gx_1 := blk_frozen BKgx.out 1
 have hz_gr_0 : World.cell? w29 ⟨gr,0,none⟩ = some (.slice B6 r.length d6) := (blk_cell BKgr.out 0).trans rfl
 have hf_gr_0 := blk_frozen BKgr.out 0
 have hz_gr_1 : World.cell? w29 ⟨gr,1,none⟩ = some (.int .i64 ru) := (blk_cell BKgr.out 1).trans rfl
 have hf_gr_1 := blk_frozen BKgr.out 1
 have hz_gh_0 : World.cell? w29 ⟨gh,0,none⟩ = some (.slice B10 r.length d10) := (blk_cell BKgh.out 0).trans rfl
 have hf_gh_0 := blk_frozen BKgh.out 0
 have hz_gh_1 : World.cell? w29 ⟨gh,1,none⟩ = some (.int .i64 ru) := (blk_cell BKgh.out 1).trans rfl
 have hf_gh_1 := blk_frozen BKgh.out 1
 go_wp2
 go_ret
 exact ⟨rfl,HB.out⟩
/-- What the law asks,over lists and numbers. -/
def laws_FnExactPlayMixes.Ok (l : List Int) (u : Int) (ms : List (List Int)) : Prop := (∃ s1,laws_szCups.f l u 1048576 = some s1 ∧ s1 < 0) ∨ (∃ k s1 s2,laws_szCups.f l u 1048576 = some s1 ∧ ¬ s1 < 0 ∧ laws_szIntSS.f k ms s1 = some s2 ∧ s2 < 0) ∨ (∃ k r ru b s1 s2 n1 n2 n l' ms' r',laws_FnExactPlayMixes.Goes k l u ms r ru b s1 s2 n1 n2 n l' ms' r')
theorem laws_FnExactPlayMixes.walkC (A0 : Option Addr) (c0 : Nat) (l : List Int) (u : Int) (A1 : Option Addr) (c1 : Nat) (ms : List (List Int)) (w : World) (hr0 : Kd.C (Kd.int .i64) w A0 l.length l) (hc0 : l.length ≤ c0) (hr1 : Kd.C (Kd.slice 3 (Kd.int .i64)) w A1 ms.length ms) (hc1 : ms.length ≤ c1) (h : laws_FnExactPlayMixes.Ok l u ms) :
  Calls Try.prog 4 #[.agg #[.slice A0 l.length c0, .int .i64 u], .slice A1 ms.length c1] w fun e w' => e = .returned (.bool true) ∧ Below w.heap.size w w' := by
 rcases h with ⟨s1,h1,hn⟩ | ⟨k,s1,s2,h1,hp,h2,hn⟩ | ⟨k,r,ru,b,s1,s2,n1,n2,n,l',ms',r',G⟩
 ·exact laws_FnExactPlayMixes.big1 0 A0 c0 l u A1 c1 ms s1 0 w hr0 hc0 hr1 hc1 h1 hn
 ·exact laws_FnExactPlayMixes.big2 k A0 c0 l u A1 c1 ms s1 s2 w hr0 hc0 hr1 hc1 h1 hp h2 hn
 ·exact laws_FnExactPlayMixes.good k A0 c0 l u A1 c1 ms r ru b s1 s2 n1 n2 n l' ms' r' w hr0 hc0 hr1 hc1 G

end Go.Proofs.Ytmkpngmdikbbeaa.P
