/- Written by a program of this workplace (own_print.py, over the kit's print) for the functions that the statements reach, with contracts of its own. Lean checks it. -/
import Derived.Test.YtmkpngmdikbbeaaPx0
import Derived.Test.YtmkpngmdikbbeaaPx1
import Derived.Test.YtmkpngmdikbbeaaPx2
import Derived.Test.YtmkpngmdikbbeaaPx3
import Derived.Test.YtmkpngmdikbbeaaPx14
import Derived.Test.YtmkpngmdikbbeaaPx17
import Derived.Test.YtmkpngmdikbbeaaPx18
namespace Go.Proofs.Ytmkpngmdikbbeaa.P
open Go.RowKit Go.Proofs.YtmkpngmdikbbeaaW.PrintWords Go.Proofs.YtmkpngmdikbbeaaW.PrintLast Go.Proofs.YtmkpngmdikbbeaaW.PrintMore
attribute [local go_sem] max2_int min2_int max_two min_two max_three min_three max_four min_four   -- for this text's walks alone
set_option linter.unusedVariables false
set_option linter.unusedSimpArgs false

/-! ### laws_FnExactIdleMixes: function 3 -/
set_option maxHeartbeats 8000000 in
set_option maxRecDepth 100000 in
/-- Too many numbers: the law holds. -/
theorem laws_FnExactIdleMixes.big1 (k : Nat) (A0 : Option Addr) (c0 : Nat) (l : List Int) (u : Int) (s1 s2 : Int) (w : World) (hr0 : Kd.C (Kd.int .i64) w A0 l.length l) (hc0 : l.length ≤ c0) (h1 : laws_szCups.f l u 1048576 = some s1) (hn : s1 < 0) :
  Calls Try.prog 3 #[.agg #[.slice A0 l.length c0, .int .i64 u]] w fun e w' => e = .returned (.bool true) ∧ Below w.heap.size w w' := by
 have HR0 := Aside0.mk hr0
 have HC0 := Aside0.mk hc0
 clear hr0 hc0
 have HB := Aside0.mk (Below.refl w.heap.size w)
 have H1 := Aside0.mk h1
 clear h1
 have c1b0 : decide (s1 < 0) = true := decide_eq_true hn
 clear hn
 go_enter Try.func3,Try.ntmps3
 go_wp2_with ((with_reducible refine gate_dst (N := 1) rfl ?_);refine box_event ?hg (N := 1) ?hd (cs := #[.slice A0 l.length c0, .int .i64 u]) (t := 24) ?hr ?_;(case hd => rfl);(case hg => rfl);(case hr => first | (go_simp;done) | (go_simp;rfl));intro ga hg w1 hbox hb;clear hg;have n0_ := Aside0.mk (below_step HB.out hb);have BKga := Aside0.mk hbox;have GHga := Aside0.mk (show ga < w1.heap.size from blk_lt hbox);clear HB hbox hb;have HB := n0_;clear n0_;have hz_ga_0 : World.cell? w1 ⟨ga,0,none⟩ = some (.slice A0 l.length c0) := (blk_cell BKga.out 0).trans rfl;have hz_ga_1 : World.cell? w1 ⟨ga,1,none⟩ = some (.int .i64 u) := (blk_cell BKga.out 1).trans rfl;have hf_ga_0 := blk_frozen BKga.out 0;have hf_ga_1 := blk_frozen BKga.out 1)
 refine (laws_szCups.calls A0 c0 l u 1048576 s1 _ (Kd.C_below HR0.out HB.out) HC0.out H1.out).mono ?_
 rintro e w2 ⟨rfl,hb⟩
 clear hz_ga_0 hf_ga_0
 clear hz_ga_1 hf_ga_1
 have sz1 := Aside0.mk (show w1.heap.size ≤ w2.heap.size from hb.size)
 replace BKga := Aside0.mk (blk_below BKga.out hb)
 replace HB := Aside0.mk (below_step HB.out hb)
 clear hb
 have hz_ga_0 : World.cell? w2 ⟨ga,0,none⟩ = some (.slice A0 l.length c0) := (blk_cell BKga.out 0).trans rfl
 have hf_ga_0 := blk_frozen BKga.out 0
 have hz_ga_1 : World.cell? w2 ⟨ga,1,none⟩ = some (.int .i64 u) := (blk_cell BKga.out 1).trans rfl
 have hf_ga_1 := blk_frozen BKga.out 1
 go_wp2
 go_ret
 exact ⟨rfl,HB.out⟩
/-- What both tell,and what the marks are: with these the law's every test comes out well. -/
structure laws_FnExactIdleMixes.Goes (k : Nat) (l : List Int) (u : Int) (s : List (List Int)) (b : Bool) (s1  n1  n : Int) (l' : List Int) (s' : List (List Int)) : Prop where
 sz1 : laws_szCups.f l u 1048576 = some s1
 p1 : ¬ s1 < 0
 toC : laws_toCups.f k l u = some (l,u)
 sp : spec_IdleMixes.f k l u = some (s,b)
 im : impl_IdleMixes.f k l u = some (s,b)
 eqr : laws_eqIntSS.f k s s = some true
 eqx : laws_eqCups.f k l u l u = some true
 mk1 : laws_markCups.f k l u 1 = some (n1,l')
 p3 : ¬ n1 < 0
 mk3 : laws_markIntSS.f k s 1 = some (n,s')
 p4 : ¬ n < 0
 ln : s'.length = s.length
 hd : laws_heldIntSS.f k s' 1 = some n
set_option maxHeartbeats 16000000 in
set_option maxRecDepth 100000 in
/-- The blocks of what the reference told lie below those of the argument,these below those of the result: so no mark reaches another. -/
theorem laws_FnExactIdleMixes.good (k : Nat) (A0 : Option Addr) (c0 : Nat) (l : List Int) (u : Int) (s : List (List Int)) (b : Bool) (s1  n1  n : Int) (l' : List Int) (s' : List (List Int)) (w : World) (hr0 : Kd.C (Kd.int .i64) w A0 l.length l) (hc0 : l.length ≤ c0) (G : laws_FnExactIdleMixes.Goes k l u s b s1  n1  n l' s') :
  Calls Try.prog 3 #[.agg #[.slice A0 l.length c0, .int .i64 u]] w fun e w' => e = .returned (.bool true) ∧ Below w.heap.size w w' := by
 have HR0 := Aside0.mk hr0
 have HC0 := Aside0.mk hc0
 clear hr0 hc0
 have HB := Aside0.mk (Below.refl w.heap.size w)
 have HG0 := Aside0.mk G
 have HLN := Aside0.mk G.ln
 have c1b0 : decide (s1 < 0) = false := decide_eq_false G.p1
 have c3b0 : decide (n1 < 0) = false := decide_eq_false G.p3
 have c4b0 : decide (n < 0) = false := decide_eq_false G.p4
 have c5b0 : (b != b) = false := bne_self_eq_false b
 clear G
 go_enter Try.func3,Try.ntmps3
 go_wp2_with ((with_reducible refine gate_dst (N := 1) rfl ?_);refine box_event ?hg (N := 1) ?hd (cs := #[.slice A0 l.length c0, .int .i64 u]) (t := 24) ?hr ?_;(case hd => rfl);(case hg => rfl);(case hr => first | (go_simp;done) | (go_simp;rfl));intro ga hg w1 hbox hb;clear hg;have n0_ := Aside0.mk (below_step HB.out hb);have BKga := Aside0.mk hbox;have GHga := Aside0.mk (show ga < w1.heap.size from blk_lt hbox);clear HB hbox hb;have HB := n0_;clear n0_;have hz_ga_0 : World.cell? w1 ⟨ga,0,none⟩ = some (.slice A0 l.length c0) := (blk_cell BKga.out 0).trans rfl;have hz_ga_1 : World.cell? w1 ⟨ga,1,none⟩ = some (.int .i64 u) := (blk_cell BKga.out 1).trans rfl;have hf_ga_0 := blk_frozen BKga.out 0;have hf_ga_1 := blk_frozen BKga.out 1)
 refine (laws_szCups.calls A0 c0 l u 1048576 s1 _ (Kd.C_below HR0.out HB.out) HC0.out HG0.out.sz1).mono ?_
 rintro e w2 ⟨rfl,hb⟩
 clear hz_ga_0 hf_ga_0
 clear hz_ga_1 hf_ga_1
 have sz1 := Aside0.mk (show w1.heap.size ≤ w2.heap.size from hb.size)
 replace BKga := Aside0.mk (blk_below BKga.out hb)
 replace HB := Aside0.mk (below_step HB.out hb)
 clear hb
 have hz_ga_0 : World.cell? w2 ⟨ga,0,none⟩ = some (.slice A0 l.length c0) := (blk_cell BKga.out 0).trans rfl
 have hf_ga_0 := blk_frozen BKga.out 0
 have hz_ga_1 : World.cell? w2 ⟨ga,1,none⟩ = some (.int .i64 u) := (blk_cell BKga.out 1).trans rfl
 have hf_ga_1 := blk_frozen BKga.out 1
 go_wp2_with fail
 refine (laws_toCups.calls k A0 c0 l u l u _ (Kd.C_below HR0.out HB.out) HC0.out HG0.out.toC).mono ?_
 rintro e w3 ⟨v_,rfl,ho,hb⟩
 clear hz_ga_0 hf_ga_0
 clear hz_ga_1 hf_ga_1
 have sz2 := Aside0.mk (show w2.heap.size ≤ w3.heap.size from hb.size)
 have HO := Aside0.mk (ho)
 replace BKga := Aside0.mk (blk_below BKga.out hb)
 replace HB := Aside0.mk (below_step HB.out hb)
 clear hb
 clear ho
 obtain ⟨B1,d1,e_⟩ := Kd.R_slice HO.out
 subst e_
 have hz_ga_0 : World.cell? w3 ⟨ga,0,none⟩ = some (.slice A0 l.length c0) := (blk_cell BKga.out 0).trans rfl
 have hf_ga_0 := blk_frozen BKga.out 0
 have hz_ga_1 : World.cell? w3 ⟨ga,1,none⟩ = some (.int .i64 u) := (blk_cell BKga.out 1).trans rfl
 have hf_ga_1 := blk_frozen BKga.out 1
 go_wp2_with fail
 refine (spec_IdleMixes.calls k B1 d1 l u s b _ (Kd.R_reads' HO.out).2.2 (Kd.R_reads' HO.out).2.1 HG0.out.sp).mono ?_
 rintro e w4 ⟨v_,rfl,ho,hb⟩
 clear hz_ga_0 hf_ga_0
 clear hz_ga_1 hf_ga_1
 have sz3 := Aside0.mk (show w3.heap.size ≤ w4.heap.size from hb.size)
 have HS := Aside0.mk (Kd.V_mono (Kd.V_bound (Kd.N_V (base' := 0) ho)) (ok' := fun k_ => k_ < w4.heap.size) (fun _ hk => hk.2))
 replace BKga := Aside0.mk (blk_below BKga.out hb)
 replace HB := Aside0.mk (below_step HB.out hb)
 clear hb HO
 clear ho
 obtain ⟨B3,d3,e_⟩ := Kd.V_slice HS.out
 subst e_
 have hz_ga_0 : World.cell? w4 ⟨ga,0,none⟩ = some (.slice A0 l.length c0) := (blk_cell BKga.out 0).trans rfl
 have hf_ga_0 := blk_frozen BKga.out 0
 have hz_ga_1 : World.cell? w4 ⟨ga,1,none⟩ = some (.int .i64 u) := (blk_cell BKga.out 1).trans rfl
 have hf_ga_1 := blk_frozen BKga.out 1
 go_wp2_with fail
 refine (laws_toCups.calls k A0 c0 l u l u _ (Kd.C_below HR0.out HB.out) HC0.out HG0.out.toC).mono ?_
 rintro e w5 ⟨v_,rfl,ho,hb⟩
 have HL1 := Aside0.mk (show ∀ k_,v_.ownBlock = some k_ → w4.heap.size ≤ k_ from Kd.R_base ho)
 have HL2 := Aside0.mk (show ∀ k_,v_.ownBlock = some k_ → k_ < w5.heap.size from Kd.R_lt ho)
 clear hz_ga_0 hf_ga_0
 clear hz_ga_1 hf_ga_1
 have sz4 := Aside0.mk (show w4.heap.size ≤ w5.heap.size from hb.size)
 have HX := Aside0.mk (Kd.R_tight rfl (Kd.R_lower ho (below_size HB.out)))
 replace HS := Aside0.mk (Kd.V_below HS.out hb)
 replace BKga := Aside0.mk (blk_below BKga.out hb)
 replace HB := Aside0.mk (below_step HB.out hb)
 clear hb
 clear ho
 obtain ⟨B5,d5,e_⟩ := Kd.R_slice HX.out
 subst e_
 have hz_ga_0 : World.cell? w5 ⟨ga,0,none⟩ = some (.slice A0 l.length c0) := (blk_cell BKga.out 0).trans rfl
 have hf_ga_0 := blk_frozen BKga.out 0
 have hz_ga_1 : World.cell? w5 ⟨ga,1,none⟩ = some (.int .i64 u) := (blk_cell BKga.out 1).trans rfl
 have hf_ga_1 := blk_frozen BKga.out 1
 go_wp2_with ((with_reducible refine gate_dst (N := 6) rfl ?_);refine box_event ?hg (N := 6) ?hd (cs := #[.slice none 0 0, .int .i64 0]) (t := 29) ?hr ?_;(case hd => rfl);(case hg => rfl);(case hr => first | (go_simp;done) | (go_simp;rfl));intro gx hg wb0 hbox hb;have HX_ := Aside0.mk hb;have HY_ := Aside0.mk hbox;have HZ_ := Aside0.mk hg;clear hb hbox hg;have hq0_ : World.cell? wb0 ⟨gx,0,none⟩ = some (.slice none 0 0) := (blk_cell HY_.out 0).trans rfl;have hq1_ : World.cell? wb0 ⟨gx,1,none⟩ = some (.int .i64 0) := (blk_cell HY_.out 1).trans rfl;have hq2_ := blk_frozen HY_.out 0;have hq3_ := blk_frozen HY_.out 1;have hu_ga := blk_below BKga.out HX_.out;have hv_ga_0 : World.cell? wb0 ⟨ga,0,none⟩ = some (.slice A0 l.length c0) := (blk_cell hu_ga 0).trans rfl;have hw_ga_0 := blk_frozen hu_ga 0;have hv_ga_1 : World.cell? wb0 ⟨ga,1,none⟩ = some (.int .i64 u) := (blk_cell hu_ga 1).trans rfl;have hw_ga_1 := blk_frozen hu_ga 1;clear hu_ga;have ht_ga : ga ≠ gx := (by rw [HZ_.out];exact Nat.ne_of_lt (blk_lt BKga.out));have hs_ga : gx ≠ ga := ht_ga.symm)
 clear hq0_ hq1_ hq2_ hq3_ ht_ga hs_ga hv_ga_0 hw_ga_0 hv_ga_1 hw_ga_1
 have hb : Below w5.heap.size w5 ((wb0.setCell ⟨gx,0,none⟩ (.slice B5 l.length d5)).setCell ⟨gx,1,none⟩ (.int .i64 u)) := below_set (below_set HX_.out (by rw [HZ_.out];exact Nat.le_refl _)) (by rw [HZ_.out];exact Nat.le_refl _)
 have BKgx := Aside0.mk (show (((wb0.setCell ⟨gx,0,none⟩ (.slice B5 l.length d5)).setCell ⟨gx,1,none⟩ (.int .i64 u))).heap[gx]? = some (.cells #[.slice B5 l.length d5, .int .i64 u] 29 (0,0)) from blk_put (blk_put HY_.out 0 _ rfl) 1 _ rfl)
 have Ggx := Aside0.mk (show w5.heap.size ≤ gx from by rw [HZ_.out];exact Nat.le_refl _)
 clear HX_ HY_ HZ_
 have GHgx := Aside0.mk (show gx < (((wb0.setCell ⟨gx,0,none⟩ (.slice B5 l.length d5)).setCell ⟨gx,1,none⟩ (.int .i64 u))).heap.size from blk_lt BKgx.out)
 generalize ((wb0.setCell ⟨gx,0,none⟩ (.slice B5 l.length d5)).setCell ⟨gx,1,none⟩ (.int .i64 u)) = w6 at hb BKgx GHgx ⊢
 clear hz_ga_0 hf_ga_0
 clear hz_ga_1 hf_ga_1
 have sz5 := Aside0.mk (show w5.heap.size ≤ w6.heap.size from hb.size)
 replace HS := Aside0.mk (Kd.V_below HS.out hb)
 replace HX := Aside0.mk (Kd.R_below HX.out hb)
 replace BKga := Aside0.mk (blk_below BKga.out hb)
 replace HB := Aside0.mk (below_step HB.out hb)
 clear hb
 have hz_ga_0 : World.cell? w6 ⟨ga,0,none⟩ = some (.slice A0 l.length c0) := (blk_cell BKga.out 0).trans rfl
 have hf_ga_0 := blk_frozen BKga.out 0
 have hz_ga_1 : World.cell? w6 ⟨ga,1,none⟩ = some (.int .i64 u) := (blk_cell BKga.out 1).trans rfl
 have hf_ga_1 := blk_frozen BKga.out 1
 have hz_gx_0 : World.cell? w6 ⟨gx,0,none⟩ = some (.slice B5 l.length d5) := (blk_cell BKgx.out 0).trans rfl
 have hf_gx_0 := blk_frozen BKgx.out 0
 have hz_gx_1 : World.cell? w6 ⟨gx,1,none⟩ = some (.int .i64 u) := (blk_cell BKgx.out 1).trans rfl
 have hf_gx_1 := blk_frozen BKgx.out 1
 refine (impl_IdleMixes.calls k B5 d5 l u s b _ (Kd.R_reads' HX.out).2.2 (Kd.R_reads' HX.out).2.1 HG0.out.im).mono ?_
 rintro e w7 ⟨v_,rfl,ho,hb⟩
 clear hz_ga_0 hf_ga_0
 clear hz_ga_1 hf_ga_1
 clear hz_gx_0 hf_gx_0
 clear hz_gx_1 hf_gx_1
 have sz6 := Aside0.mk (show w6.heap.size ≤ w7.heap.size from hb.size)
 have HR := Aside0.mk (Kd.S_lower (Kd.S_mono (Kd.S_bound ho) (ok' := fun k_ => w6.heap.size ≤ k_) (fun _ hk => hk.2.1)) (below_size HB.out))
 replace HS := Aside0.mk (Kd.V_below HS.out hb)
 replace HX := Aside0.mk (Kd.R_below HX.out hb)
 replace BKga := Aside0.mk (blk_below BKga.out hb)
 replace BKgx := Aside0.mk (blk_below BKgx.out hb)
 replace HB := Aside0.mk (below_step HB.out hb)
 clear hb
 clear ho
 obtain ⟨B6,d6,e_⟩ := Kd.S_slice HR.out
 subst e_
 have hz_ga_0 : World.cell? w7 ⟨ga,0,none⟩ = some (.slice A0 l.length c0) := (blk_cell BKga.out 0).trans rfl
 have hf_ga_0 := blk_frozen BKga.out 0
 have hz_ga_1 : World.cell? w7 ⟨ga,1,none⟩ = some (.int .i64 u) := (blk_cell BKga.out 1).trans rfl
 have hf_ga_1 := blk_frozen BKga.out 1
 have hz_gx_0 : World.cell? w7 ⟨gx,0,none⟩ = some (.slice B5 l.length d5) := (blk_cell BKgx.out 0).trans rfl
 have hf_gx_0 := blk_frozen BKgx.out 0
 have hz_gx_1 : World.cell? w7 ⟨gx,1,none⟩ = some (.int .i64 u) := (blk_cell BKgx.out 1).trans rfl
 have hf_gx_1 := blk_frozen BKgx.out 1
 go_wp2_with fail
 refine (laws_eqIntSS.calls k B6 d6 s B3 d3 s true _ (Kd.S_reads' HR.out).2.2 (Kd.S_reads' HR.out).2.1 (Kd.V_reads' HS.out).2.2 (Kd.V_reads' HS.out).2.1 HG0.out.eqr).mono ?_
 rintro e w8 ⟨rfl,hd⟩
 have hb := hd.below
 clear hd
 clear hz_ga_0 hf_ga_0
 clear hz_ga_1 hf_ga_1
 clear hz_gx_0 hf_gx_0
 clear hz_gx_1 hf_gx_1
 have sz7 := Aside0.mk (show w7.heap.size ≤ w8.heap.size from hb.size)
 replace HS := Aside0.mk (Kd.V_below HS.out hb)
 replace HX := Aside0.mk (Kd.R_below HX.out hb)
 replace HR := Aside0.mk (Kd.S_below HR.out hb)
 replace BKga := Aside0.mk (blk_below BKga.out hb)
 replace BKgx := Aside0.mk (blk_below BKgx.out hb)
 replace HB := Aside0.mk (below_step HB.out hb)
 clear hb
 have hz_ga_0 : World.cell? w8 ⟨ga,0,none⟩ = some (.slice A0 l.length c0) := (blk_cell BKga.out 0).trans rfl
 have hf_ga_0 := blk_frozen BKga.out 0
 have hz_ga_1 : World.cell? w8 ⟨ga,1,none⟩ = some (.int .i64 u) := (blk_cell BKga.out 1).trans rfl
 have hf_ga_1 := blk_frozen BKga.out 1
 have hz_gx_0 : World.cell? w8 ⟨gx,0,none⟩ = some (.slice B5 l.length d5) := (blk_cell BKgx.out 0).trans rfl
 have hf_gx_0 := blk_frozen BKgx.out 0
 have hz_gx_1 : World.cell? w8 ⟨gx,1,none⟩ = some (.int .i64 u) := (blk_cell BKgx.out 1).trans rfl
 have hf_gx_1 := blk_frozen BKgx.out 1
 try go_wp2
 have hb := below_drew1 (Below.refl w8.heap.size w8)
 clear hz_ga_0 hf_ga_0
 clear hz_ga_1 hf_ga_1
 clear hz_gx_0 hf_gx_0
 clear hz_gx_1 hf_gx_1
 replace HS := Aside0.mk (Kd.V_below HS.out hb)
 replace HX := Aside0.mk (Kd.R_below HX.out hb)
 replace HR := Aside0.mk (Kd.S_below HR.out hb)
 replace BKga := Aside0.mk (blk_below BKga.out hb)
 replace BKgx := Aside0.mk (blk_below BKgx.out hb)
 replace HB := Aside0.mk (below_step HB.out hb)
 clear hb
 refine start_ (n := 5) (S := fun w' => w'.cell? ⟨gx,0,none⟩ = some (.slice B5 l.length d5) ∧ w'.cell? ⟨gx,1,none⟩ = some (.int .i64 u) ∧ w'.cell? ⟨ga,0,none⟩ = some (.slice A0 l.length c0) ∧ w'.cell? ⟨ga,1,none⟩ = some (.int .i64 u)) (ds := []) #[false,false,false,false,false] (by kernel_rfl) rfl rfl ⟨(blk_cell BKgx.out 0).trans rfl,(blk_cell BKgx.out 1).trans rfl,(blk_cell BKga.out 0).trans rfl,(blk_cell BKga.out 1).trans rfl⟩ (fun hHeld => ?_)
 generalize w8.drew = w9 at HS HX HR BKga BKgx HB hHeld ⊢
 refine take_ (i := 0) (N := some 41) (v := ?_) (a' := ?_) #[true,false,false,false,false] rfl rfl (by kernel_rfl) (fun _ _ _ h => h) (Or.inl ⟨by rfl,?_⟩) hHeld ?_ ?_
 rotate_left
 ·rintro w' ⟨s0,s1,s2,s3⟩
  go_simp
  with_reducible rfl
 rotate_left
 ·simp only [Act.put,List.setIfInBounds_toArray,List.set_cons_zero,List.set_cons_succ,i64_w,i32_w]
  rfl
 refine take_ (i := 1) (N := some 42) (v := ?_) (a' := ?_) #[true,true,false,false,false] rfl rfl (by kernel_rfl) (fun _ _ _ h => h) (Or.inl ⟨by rfl,?_⟩) hHeld ?_ ?_
 rotate_left
 ·rintro w' ⟨s0,s1,s2,s3⟩
  go_simp
  with_reducible rfl
 rotate_left
 ·simp only [Act.put,List.setIfInBounds_toArray,List.set_cons_zero,List.set_cons_succ,i64_w,i32_w]
  rfl
 refine one_ (i := 2) (N := some 43) #[true,true,true,false,false] rfl rfl (by kernel_rfl) (by decide) (fun K hK => ?_)
 refine goes_ Try.func10 (by kernel_rfl) rfl #[.agg #[.slice A0 l.length c0, .int .i64 u]] (by rfl) rfl rfl (by (try simp only [List.map_toArray,List.map_cons,List.map_nil]);first | done | rfl | (simp only [List.length_drop,List.length_take];rfl)) ?_
 with_reducible refine (laws_toCups.calls k A0 c0 l u l u _ (Kd.C_below HR0.out HB.out) HC0.out HG0.out.toC).mono ?_
 rintro e w10 ⟨v_,rfl,ho,hb⟩
 refine ⟨_,rfl,?_⟩
 have HO := Aside0.mk ho
 clear ho
 have sz8 := Aside0.mk (show w9.heap.size ≤ w10.heap.size from hb.size)
 replace HS := Aside0.mk (Kd.V_below HS.out hb)
 replace HX := Aside0.mk (Kd.R_below HX.out hb)
 replace HR := Aside0.mk (Kd.S_below HR.out hb)
 replace BKga := Aside0.mk (blk_below BKga.out hb)
 replace BKgx := Aside0.mk (blk_below BKgx.out hb)
 replace HB := Aside0.mk (below_step HB.out hb)
 clear hb
 obtain ⟨B7,d7,e_⟩ := Kd.R_slice HO.out
 subst e_
 refine hK.out _ _ ⟨(blk_cell BKgx.out 0).trans rfl,(blk_cell BKgx.out 1).trans rfl,(blk_cell BKga.out 0).trans rfl,(blk_cell BKga.out 1).trans rfl⟩ (fun hHeld => ?_)
 clear hK K
 refine norm_ (a' := ?_) ?_ ?_
 rotate_left
 ·show Act.put _ (some 43) _ = _
  simp only [Act.put,List.setIfInBounds_toArray,List.set_cons_zero,List.set_cons_succ,i64_w,i32_w]
  rfl
 refine one_ (i := 3) (N := some 44) #[true,true,true,true,false] rfl rfl (by kernel_rfl) (by decide) (fun K hK => ?_)
 refine goes_ Try.func13 (by kernel_rfl) rfl #[.agg #[.slice B5 l.length d5, .int .i64 u], .agg #[.slice B7 l.length d7, .int .i64 u]] (by rfl) rfl rfl (by (try simp only [List.map_toArray,List.map_cons,List.map_nil]);first | done | rfl | (simp only [List.length_drop,List.length_take];rfl)) ?_
 with_reducible refine (laws_eqCups.calls k B5 d5 l u B7 d7 l u true _ (Kd.R_reads' HX.out).2.2 (Kd.R_reads' HX.out).2.1 (Kd.R_reads' HO.out).2.2 (Kd.R_reads' HO.out).2.1 HG0.out.eqx).mono ?_
 rintro e w11 ⟨rfl,hb⟩
 refine ⟨_,rfl,?_⟩
 have sz9 := Aside0.mk (show w10.heap.size ≤ w11.heap.size from hb.size)
 replace HS := Aside0.mk (Kd.V_below HS.out hb)
 replace HX := Aside0.mk (Kd.R_below HX.out hb)
 replace HR := Aside0.mk (Kd.S_below HR.out hb)
 replace BKga := Aside0.mk (blk_below BKga.out hb)
 replace BKgx := Aside0.mk (blk_below BKgx.out hb)
 replace HB := Aside0.mk (below_step HB.out hb)
 clear hb HO
 refine hK.out _ _ ⟨(blk_cell BKgx.out 0).trans rfl,(blk_cell BKgx.out 1).trans rfl,(blk_cell BKga.out 0).trans rfl,(blk_cell BKga.out 1).trans rfl⟩ (fun hHeld => ?_)
 clear hK K
 refine norm_ (a' := ?_) ?_ ?_
 rotate_left
 ·show Act.put _ (some 44) _ = _
  simp only [Act.put,List.setIfInBounds_toArray,List.set_cons_zero,List.set_cons_succ,i64_w,i32_w]
  rfl
 refine pure_ (i := 4) (N := some 45) (v := ?_) (a' := ?_) #[true,true,true,true,true] rfl rfl (by kernel_rfl) (fun _ _ _ h => h) (Or.inl ⟨by rfl,?_⟩) ?_ ?_
 rotate_left
 ·intro w'
  go_simp
  with_reducible rfl
 rotate_left
 ·simp only [Act.put,List.setIfInBounds_toArray,List.set_cons_zero,List.set_cons_succ,i64_w,i32_w]
  rfl
 refine done_ (by kernel_rfl) ?_
 clear hHeld
 have hz_ga_0 : World.cell? w11 ⟨ga,0,none⟩ = some (.slice A0 l.length c0) := (blk_cell BKga.out 0).trans rfl
 have hf_ga_0 := blk_frozen BKga.out 0
 have hz_ga_1 : World.cell? w11 ⟨ga,1,none⟩ = some (.int .i64 u) := (blk_cell BKga.out 1).trans rfl
 have hf_ga_1 := blk_frozen BKga.out 1
 have hz_gx_0 : World.cell? w11 ⟨gx,0,none⟩ = some (.slice B5 l.length d5) := (blk_cell BKgx.out 0).trans rfl
 have hf_gx_0 := blk_frozen BKgx.out 0
 have hz_gx_1 : World.cell? w11 ⟨gx,1,none⟩ = some (.int .i64 u) := (blk_cell BKgx.out 1).trans rfl
 have hf_gx_1 := blk_frozen BKgx.out 1
 go_wp2_with fail
 refine (laws_markCups.calls k (fun k_ => some k_ = (.slice B5 l.length d5 : Value).ownBlock) _ l u 1 n1 l' w _ HB.out HX.out HG0.out.mk1).mono ?_
 rintro e w12 ⟨rfl,_,hb,hkp⟩
 have rga_ := Kd.R_ne HX.out BKga.out (by decide)
 have rgx_ := Kd.R_ne HX.out BKgx.out (by decide)
 clear hz_ga_0 hf_ga_0
 clear hz_ga_1 hf_ga_1
 clear hz_gx_0 hf_gx_0
 clear hz_gx_1 hf_gx_1
 have sz10 := Aside0.mk (show w11.heap.size ≤ w12.heap.size from hkp.1)
 replace HS := Aside0.mk (Kd.V_kept HS.out hkp (fun k_ hk he => by have h1_ := HL1.out k_ he.symm;(try simp only at hk);omega))
 replace HR := Aside0.mk (Kd.S_kept HR.out hkp (fun k_ hk he => by have h1_ := HL2.out k_ he.symm;(try simp only at hk);have z5_ := sz5.out;omega))
 replace BKga := Aside0.mk (blk_kept BKga.out hkp (rga_))
 replace BKgx := Aside0.mk (blk_kept BKgx.out hkp (rgx_))
 replace HB := Aside0.mk (hb)
 clear hb hkp HX
 clear rga_
 clear rgx_
 have hz_ga_0 : World.cell? w12 ⟨ga,0,none⟩ = some (.slice A0 l.length c0) := (blk_cell BKga.out 0).trans rfl
 have hf_ga_0 := blk_frozen BKga.out 0
 have hz_ga_1 : World.cell? w12 ⟨ga,1,none⟩ = some (.int .i64 u) := (blk_cell BKga.out 1).trans rfl
 have hf_ga_1 := blk_frozen BKga.out 1
 have hz_gx_0 : World.cell? w12 ⟨gx,0,none⟩ = some (.slice B5 l.length d5) := (blk_cell BKgx.out 0).trans rfl
 have hf_gx_0 := blk_frozen BKgx.out 0
 have hz_gx_1 : World.cell? w12 ⟨gx,1,none⟩ = some (.int .i64 u) := (blk_cell BKgx.out 1).trans rfl
 have hf_gx_1 := blk_frozen BKgx.out 1
 go_wp2_with fail
 refine (laws_eqIntSS.calls k B6 d6 s B3 d3 s true _ (Kd.S_reads' HR.out).2.2 (Kd.S_reads' HR.out).2.1 (Kd.V_reads' HS.out).2.2 (Kd.V_reads' HS.out).2.1 HG0.out.eqr).mono ?_
 rintro e w13 ⟨rfl,hd⟩
 have hb := hd.below
 clear hd
 clear hz_ga_0 hf_ga_0
 clear hz_ga_1 hf_ga_1
 clear hz_gx_0 hf_gx_0
 clear hz_gx_1 hf_gx_1
 have sz11 := Aside0.mk (show w12.heap.size ≤ w13.heap.size from hb.size)
 replace HS := Aside0.mk (Kd.V_below HS.out hb)
 replace HR := Aside0.mk (Kd.S_below HR.out hb)
 replace BKga := Aside0.mk (blk_below BKga.out hb)
 replace BKgx := Aside0.mk (blk_below BKgx.out hb)
 replace HB := Aside0.mk (below_step HB.out hb)
 clear hb
 go_wp2_with fail
 refine (laws_markIntSS.calls k (fun k_ => w6.heap.size ≤ k_) _ s 1 n s' w _ HB.out HR.out HG0.out.mk3).mono ?_
 rintro e w14 ⟨rfl,ho,hb,hkp⟩
 have sz12 := Aside0.mk (show w13.heap.size ≤ w14.heap.size from hkp.1)
 have HQ := Aside0.mk (ho)
 replace HS := Aside0.mk (Kd.V_kept HS.out hkp (fun k_ hk he => by (try simp only at hk);(try simp only at he);have z4_ := sz4.out;have z5_ := sz5.out;omega))
 replace BKga := Aside0.mk (blk_kept BKga.out hkp (fun he => by (try simp only at he);have h2_ := GHga.out;have z1_ := sz1.out;have z2_ := sz2.out;have z3_ := sz3.out;have z4_ := sz4.out;have z5_ := sz5.out;omega))
 replace BKgx := Aside0.mk (blk_kept BKgx.out hkp (fun he => by (try simp only at he);have h2_ := GHgx.out;omega))
 replace HB := Aside0.mk (hb)
 clear hb hkp HR
 clear ho
 have hz_ga_0 : World.cell? w14 ⟨ga,0,none⟩ = some (.slice A0 l.length c0) := (blk_cell BKga.out 0).trans rfl
 have hf_ga_0 := blk_frozen BKga.out 0
 have hz_ga_1 : World.cell? w14 ⟨ga,1,none⟩ = some (.int .i64 u) := (blk_cell BKga.out 1).trans rfl
 have hf_ga_1 := blk_frozen BKga.out 1
 have hz_gx_0 : World.cell? w14 ⟨gx,0,none⟩ = some (.slice B5 l.length d5) := (blk_cell BKgx.out 0).trans rfl
 have hf_gx_0 := blk_frozen BKgx.out 0
 have hz_gx_1 : World.cell? w14 ⟨gx,1,none⟩ = some (.int .i64 u) := (blk_cell BKgx.out 1).trans rfl
 have hf_gx_1 := blk_frozen BKgx.out 1
 go_wp2_with fail
 have hc_ := laws_heldIntSS.calls k B6 d6 s' 1 n w14 (Kd.S_reads' HQ.out).2.2 (by rw [HLN.out];exact (Kd.S_reads' HQ.out).2.1) HG0.out.hd
 rw [HLN.out] at hc_
 refine hc_.mono ?_
 clear hc_
 rintro e w15 ⟨rfl,hd⟩
 have hb := hd.below
 clear hd
 clear hz_ga_0 hf_ga_0
 clear hz_ga_1 hf_ga_1
 clear hz_gx_0 hf_gx_0
 clear hz_gx_1 hf_gx_1
 have sz13 := Aside0.mk (show w14.heap.size ≤ w15.heap.size from hb.size)
 replace HS := Aside0.mk (Kd.V_below HS.out hb)
 replace HQ := Aside0.mk (Kd.S_below HQ.out hb)
 replace BKga := Aside0.mk (blk_below BKga.out hb)
 replace BKgx := Aside0.mk (blk_below BKgx.out hb)
 replace HB := Aside0.mk (below_step HB.out hb)
 clear hb
 have hz_ga_0 : World.cell? w15 ⟨ga,0,none⟩ = some (.slice A0 l.length c0) := (blk_cell BKga.out 0).trans rfl
 have hf_ga_0 := blk_frozen BKga.out 0
 have hz_ga_1 : World.cell? w15 ⟨ga,1,none⟩ = some (.int .i64 u) := (blk_cell BKga.out 1).trans rfl
 have hf_ga_1 := blk_frozen BKga.out 1
 have hz_gx_0 : World.cell? w15 ⟨gx,0,none⟩ = some (.slice B5 l.length d5) := (blk_cell BKgx.out 0).trans rfl
 have hf_gx_0 := blk_frozen BKgx.out 0
 have hz_gx_1 : World.cell? w15 ⟨gx,1,none⟩ = some (.int .i64 u) := (blk_cell BKgx.out 1).trans rfl
 have hf_gx_1 := blk_frozen BKgx.out 1
 go_wp2_with fail
 refine (laws_toCups.calls k A0 c0 l u l u _ (Kd.C_below HR0.out HB.out) HC0.out HG0.out.toC).mono ?_
 rintro e w16 ⟨v_,rfl,ho,hb⟩
 clear hz_ga_0 hf_ga_0
 clear hz_ga_1 hf_ga_1
 clear hz_gx_0 hf_gx_0
 clear hz_gx_1 hf_gx_1
 have sz14 := Aside0.mk (show w15.heap.size ≤ w16.heap.size from hb.size)
 have HO := Aside0.mk (ho)
 replace HS := Aside0.mk (Kd.V_below HS.out hb)
 replace HQ := Aside0.mk (Kd.S_below HQ.out hb)
 replace BKga := Aside0.mk (blk_below BKga.out hb)
 replace BKgx := Aside0.mk (blk_below BKgx.out hb)
 replace HB := Aside0.mk (below_step HB.out hb)
 clear hb
 clear ho
 obtain ⟨B8,d8,e_⟩ := Kd.R_slice HO.out
 subst e_
 have hz_ga_0 : World.cell? w16 ⟨ga,0,none⟩ = some (.slice A0 l.length c0) := (blk_cell BKga.out 0).trans rfl
 have hf_ga_0 := blk_frozen BKga.out 0
 have hz_ga_1 : World.cell? w16 ⟨ga,1,none⟩ = some (.int .i64 u) := (blk_cell BKga.out 1).trans rfl
 have hf_ga_1 := blk_frozen BKga.out 1
 have hz_gx_0 : World.cell? w16 ⟨gx,0,none⟩ = some (.slice B5 l.length d5) := (blk_cell BKgx.out 0).trans rfl
 have hf_gx_0 := blk_frozen BKgx.out 0
 have hz_gx_1 : World.cell? w16 ⟨gx,1,none⟩ = some (.int .i64 u) := (blk_cell BKgx.out 1).trans rfl
 have hf_gx_1 := blk_frozen BKgx.out 1
 go_wp2_with fail
 refine (impl_IdleMixes.calls k B8 d8 l u s b _ (Kd.R_reads' HO.out).2.2 (Kd.R_reads' HO.out).2.1 HG0.out.im).mono ?_
 rintro e w17 ⟨v_,rfl,ho,hb⟩
 clear hz_ga_0 hf_ga_0
 clear hz_ga_1 hf_ga_1
 clear hz_gx_0 hf_gx_0
 clear hz_gx_1 hf_gx_1
 have sz15 := Aside0.mk (show w16.heap.size ≤ w17.heap.size from hb.size)
 have HO2 := Aside0.mk (ho)
 replace HS := Aside0.mk (Kd.V_below HS.out hb)
 replace HQ := Aside0.mk (Kd.S_below HQ.out hb)
 replace BKga := Aside0.mk (blk_below BKga.out hb)
 replace BKgx := Aside0.mk (blk_below BKgx.out hb)
 replace HB := Aside0.mk (below_step HB.out hb)
 clear hb HO
 clear ho
 obtain ⟨B10,d10,e_⟩ := Kd.S_slice HO2.out
 subst e_
 have hz_ga_0 : World.cell? w17 ⟨ga,0,none⟩ = some (.slice A0 l.length c0) := (blk_cell BKga.out 0).trans rfl
 have hf_ga_0 := blk_frozen BKga.out 0
 have hz_ga_1 : World.cell? w17 ⟨ga,1,none⟩ = some (.int .i64 u) := (blk_cell BKga.out 1).trans rfl
 have hf_ga_1 := blk_frozen BKga.out 1
 have hz_gx_0 : World.cell? w17 ⟨gx,0,none⟩ = some (.slice B5 l.length d5) := (blk_cell BKgx.out 0).trans rfl
 have hf_gx_0 := blk_frozen BKgx.out 0
 have hz_gx_1 : World.cell? w17 ⟨gx,1,none⟩ = some (.int .i64 u) := (blk_cell BKgx.out 1).trans rfl
 have hf_gx_1 := blk_frozen BKgx.out 1
 go_wp2_with fail
 refine (laws_eqIntSS.calls k B10 d10 s B3 d3 s true _ (Kd.S_reads' HO2.out).2.2 (Kd.S_reads' HO2.out).2.1 (Kd.V_reads' HS.out).2.2 (Kd.V_reads' HS.out).2.1 HG0.out.eqr).mono ?_
 rintro e w18 ⟨rfl,hd⟩
 have hb := hd.below
 clear hd
 clear hz_ga_0 hf_ga_0
 clear hz_ga_1 hf_ga_1
 clear hz_gx_0 hf_gx_0
 clear hz_gx_1 hf_gx_1
 have sz16 := Aside0.mk (show w17.heap.size ≤ w18.heap.size from hb.size)
 replace HQ := Aside0.mk (Kd.S_below HQ.out hb)
 replace BKga := Aside0.mk (blk_below BKga.out hb)
 replace BKgx := Aside0.mk (blk_below BKgx.out hb)
 replace HB := Aside0.mk (below_step HB.out hb)
 clear hb HO2 HS
 have hz_ga_0 : World.cell? w18 ⟨ga,0,none⟩ = some (.slice A0 l.length c0) := (blk_cell BKga.out 0).trans rfl
 have hf_ga_0 := blk_frozen BKga.out 0
 have hz_ga_1 : World.cell? w18 ⟨ga,1,none⟩ = some (.int .i64 u) := (blk_cell BKga.out 1).trans rfl
 have hf_ga_1 := blk_frozen BKga.out 1
 have hz_gx_0 : World.cell? w18 ⟨gx,0,none⟩ = some (.slice B5 l.length d5) := (blk_cell BKgx.out 0).trans rfl
 have hf_gx_0 := blk_frozen BKgx.out 0
 have hz_gx_1 : World.cell? w18 ⟨gx,1,none⟩ = some (.int .i64 u) := (blk_cell BKgx.out 1).trans rfl
 have hf_gx_1 := blk_frozen BKgx.out 1
 go_wp2_with fail
 have hc_ := laws_heldIntSS.calls k B6 d6 s' 1 n w18 (Kd.S_reads' HQ.out).2.2 (by rw [HLN.out];exact (Kd.S_reads' HQ.out).2.1) HG0.out.hd
 rw [HLN.out] at hc_
 refine hc_.mono ?_
 clear hc_
 rintro e w19 ⟨rfl,hd⟩
 have hb := hd.below
 clear hd
 clear hz_ga_0 hf_ga_0
 clear hz_ga_1 hf_ga_1
 clear hz_gx_0 hf_gx_0
 clear hz_gx_1 hf_gx_1
 have sz17 := Aside0.mk (show w18.heap.size ≤ w19.heap.size from hb.size)
 replace BKga := Aside0.mk (blk_below BKga.out hb)
 replace BKgx := Aside0.mk (blk_below BKgx.out hb)
 replace HB := Aside0.mk (below_step HB.out hb)
 clear hb HQ
 have hz_ga_0 : World.cell? w19 ⟨ga,0,none⟩ = some (.slice A0 l.length c0) := (blk_cell BKga.out 0).trans rfl
 have hf_ga_0 := blk_frozen BKga.out 0
 have hz_ga_1 : World.cell? w19 ⟨ga,1,none⟩ = some (.int .i64 u) := (blk_cell BKga.out 1).trans rfl
 have hf_ga_1 := blk_frozen BKga.out 1
 have hz_gx_0 : World.cell? w19 ⟨gx,0,none⟩ = some (.slice B5 l.length d5) := (blk_cell BKgx.out 0).trans rfl
 have hf_gx_0 := blk_frozen BKgx.out 0
 have hz_gx_1 : World.cell? w19 ⟨gx,1,none⟩ = some (.int .i64 u) := (blk_cell BKgx.out 1).trans rfl
 have hf_gx_1 := blk_frozen BKgx.out 1
 go_wp2
 go_ret
 exact ⟨rfl,HB.out⟩
/-- What the law asks,over lists and numbers. -/
def laws_FnExactIdleMixes.Ok (l : List Int) (u : Int) : Prop := (∃ s1,laws_szCups.f l u 1048576 = some s1 ∧ s1 < 0) ∨ (∃ k s b s1  n1  n l' s',laws_FnExactIdleMixes.Goes k l u s b s1  n1  n l' s')
theorem laws_FnExactIdleMixes.walkC (A0 : Option Addr) (c0 : Nat) (l : List Int) (u : Int) (w : World) (hr0 : Kd.C (Kd.int .i64) w A0 l.length l) (hc0 : l.length ≤ c0) (h : laws_FnExactIdleMixes.Ok l u) :
  Calls Try.prog 3 #[.agg #[.slice A0 l.length c0, .int .i64 u]] w fun e w' => e = .returned (.bool true) ∧ Below w.heap.size w w' := by
 rcases h with ⟨s1,h1,hn⟩ | ⟨k,s,b,s1,n1,n,l',s',G⟩
 ·exact laws_FnExactIdleMixes.big1 0 A0 c0 l u s1 0 w hr0 hc0 h1 hn
 ·exact laws_FnExactIdleMixes.good k A0 c0 l u s b s1  n1  n l' s' w hr0 hc0 G

end Go.Proofs.Ytmkpngmdikbbeaa.P
