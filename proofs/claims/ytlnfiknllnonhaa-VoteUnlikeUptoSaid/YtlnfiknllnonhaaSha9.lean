/- The hash SHA-256: the walks of the program's text and of the document's. -/
import Derived.Test.YtlnfiknllnonhaaSha1
import Derived.Test.YtlnfiknllnonhaaSha2
import Derived.Test.YtlnfiknllnonhaaSha4
import Derived.Test.YtlnfiknllnonhaaSha5
import Derived.Test.YtlnfiknllnonhaaSha7
import Derived.Test.YtlnfiknllnonhaaSha8
import Derived.Test.YtlnfiknllnonhaaSha0
namespace Go.Proofs.Ytlnfiknllnonhaa.Sha
open Go Go.RowKit Go.Proofs.YtlnfiknllnonhaaW.PrintWords Go.Proofs.YtlnfiknllnonhaaW.PrintLast Go.Proofs.YtlnfiknllnonhaaW.PrintMore
set_option linter.unusedVariables false
set_option linter.unusedSimpArgs false
theorem bit_M (i : Nat) (h : i < 32) : Nat.testBit 4294967295 i = true := by
 rw [show 4294967295 = 2 ^ 32 - 1 by decide, Nat.testBit_two_pow_sub_one]; simpa using h
theorem ch_o (e f g : Nat) (lf : f < 4294967296) (lg : g < 4294967296) : ((e &&& f) ||| ((e ^^^ 4294967295) &&& g)) = chN e f g := by
 unfold chN
 apply Nat.eq_of_testBit_eq
 intro i
 simp only [Nat.testBit_or, Nat.testBit_and, Nat.testBit_xor]
 by_cases h : i < 32
 ·rw [bit_M i h]
  cases Nat.testBit e i <;> cases Nat.testBit f i <;> cases Nat.testBit g i <;> rfl
 ·have hf : Nat.testBit f i = false := Nat.testBit_lt_two_pow (Nat.lt_of_lt_of_le lf (by rw [show 4294967296 = 2 ^ 32 by decide]; exact Nat.pow_le_pow_right (by decide) (by omega)))
  have hg : Nat.testBit g i = false := Nat.testBit_lt_two_pow (Nat.lt_of_lt_of_le lg (by rw [show 4294967296 = 2 ^ 32 by decide]; exact Nat.pow_le_pow_right (by decide) (by omega)))
  rw [hf, hg]
  simp
theorem maj_o (a b c : Nat) : ((a &&& b) ||| (a &&& c)) ||| (b &&& c) = majN a b c := by
 unfold majN
 apply Nat.eq_of_testBit_eq
 intro i
 simp only [Nat.testBit_or, Nat.testBit_and, Nat.testBit_xor]
 cases Nat.testBit a i <;> cases Nat.testBit b i <;> cases Nat.testBit c i <;> rfl
theorem t1_or3 (k w e f g h : Nat) (le : e < 4294967296) (lf : f < 4294967296) (lg : g < 4294967296) :
  ((h : Int) + bits .xor .u32 (bits .xor .u32 ((rorN e 6 : Nat) : Int) ((rorN e 11 : Nat) : Int)) ((rorN e 25 : Nat) : Int) + bits .or .u32 (bits .and .u32 (e : Int) (f : Int)) (bits .and .u32 (bits .xor .u32 (e : Int) 4294967295) (g : Int)) + (k : Int) + (w : Int)) % 4294967296 = ((t1N k w e f g h : Nat) : Int) := by
 rw [show (4294967295 : Int) = ((4294967295 : Nat) : Int) from rfl, and32 _ _ le lf, xor32 _ _ le (by decide), and32 _ _ (xor_lt _ _ le (by decide)) lg, or32 _ _ (and_lt _ _ lf) (and_lt _ _ lg), ch_o e f g lf lg, xor3 _ _ _ (ror_lt _ _ le) (ror_lt _ _ le) (ror_lt _ _ le)]
 have e1 : ∀ a b : Nat, ((h : Int) + (a : Int) + (b : Int) + (k : Int) + (w : Int)) % 4294967296 = (((((h + a) % 4294967296 + b) % 4294967296 + k) % 4294967296 + w) % 4294967296 : Nat) := by intro a b; omega
 exact e1 _ _
theorem t2_or3 (a b c : Nat) (la : a < 4294967296) (lb : b < 4294967296) (lc : c < 4294967296) :
  (bits .xor .u32 (bits .xor .u32 ((rorN a 2 : Nat) : Int) ((rorN a 13 : Nat) : Int)) ((rorN a 22 : Nat) : Int) + bits .or .u32 (bits .or .u32 (bits .and .u32 (a : Int) (b : Int)) (bits .and .u32 (a : Int) (c : Int))) (bits .and .u32 (b : Int) (c : Int))) % 4294967296 = ((t2N a b c : Nat) : Int) := by
 rw [and32 _ _ la lb, and32 _ _ la lc, and32 _ _ lb lc, or32 _ _ (and_lt _ _ lb) (and_lt _ _ lc), or32 _ _ (or_lt _ _ (and_lt _ _ lb) (and_lt _ _ lc)) (and_lt _ _ lc), maj_o, xor3 _ _ _ (ror_lt _ _ la) (ror_lt _ _ la) (ror_lt _ _ la)]
 have e1 : ∀ a b : Nat, ((a : Int) + (b : Int)) % 4294967296 = (((a + b) % 4294967296 : Nat) : Int) := by intro a b; omega
 exact e1 _ _
set_option maxHeartbeats 8000000 in
set_option maxRecDepth 100000 in
theorem refBlock (w : World) (st : List Nat) (hl : st.length = 8) (hst : W32 st) (A : Option Addr) (c : Nat) (p : List Int) (hp : p.length = 64) (hc : p.length ≤ c) (hb : bytes8 p) (hr : Kd.C (Kd.int .u8) w A p.length p) :
  Calls Try.prog 66 #[.agg (v32 st).toArray, .slice A 64 c] w fun e' w' => e' = .returned (.agg (v32 (comp st (fun i => (rd p i).toNat))).toArray) ∧ Below w.heap.size w w' := by
 obtain ⟨a0, a1, a2, a3, a4, a5, a6, a7, rfl⟩ := len8 hl
 clear hl
 have HR := Aside0.mk hr
 have HP := Aside0.mk hp
 have HC := Aside0.mk hc
 have HBY := Aside0.mk hb
 have HST := Aside0.mk hst
 have HB := Aside0.mk (Below.refl w.heap.size w)
 obtain ⟨WS, hWS⟩ : ∃ WS, sched (fun i => (rd p i).toNat) 64 = WS := ⟨_, rfl⟩
 have HSC := Aside0.mk (show ∀ W, Below w.heap.size w W → Calls Try.prog 76 #[.slice A 64 c] W fun e' w' => e' = .returned (.agg (v32 WS).toArray) ∧ Below W.heap.size W w' from fun W h => by rw [← hWS]; exact schedule W A c p hp hc hb (Kd.C_below hr h))
 have HWL := Aside0.mk (show WS.length = 64 from by rw [← hWS]; exact sched_len _ _)
 have HW32 := Aside0.mk (show W32 WS from by rw [← hWS]; exact W32_sched _ (fun i => by have := rd_byte hb (i : Int); show (rd p (i : Int)).toNat < 256; omega) 64)
 have HWS := Aside0.mk hWS
 obtain ⟨KQ, hKQ⟩ : ∃ KQ, KS = KQ := ⟨_, rfl⟩
 have HKC := Aside0.mk (show ∀ W, Calls Try.prog 77 #[] W fun e w' => e = .returned (.agg (v32 KQ).toArray) ∧ Below W.heap.size W w' from fun W => by rw [← hKQ]; exact K_any W)
 have HKL := Aside0.mk (show KQ.length = 64 from by rw [← hKQ]; rfl)
 have HKQ := Aside0.mk hKQ
 clear hr hp hb hc hst hWS hKQ
 go_enter Try.func66, Try.ntmps66
 go_wp2_with (first | ((with_reducible refine gate_dst (N := 2) rfl ?_); refine box_event ?hg (N := 2) ?hd (cs := (v32 [a0, a1, a2, a3, a4, a5, a6, a7]).toArray) (t := 77) ?hr ?_; (case hd => rfl); (case hg => rfl); (case hr => first | (go_simp; done) | (go_simp; rfl)); intro g2 hg2 w2 hbox hb; have GEg2 := Aside0.mk (show w.heap.size ≤ g2 from hg2 ▸ below_size HB.out); have HB_ := Aside0.mk (below_step HB.out hb); clear HB; have HB := HB_; clear HB_; have H2 := Aside0.mk hbox; clear hbox hb hg2) | ((with_reducible refine gate_dst (N := 4) rfl ?_); refine box_event ?hg (N := 4) ?hd (cs := (v32 [0, 0, 0, 0, 0, 0, 0, 0]).toArray) (t := 77) ?hr ?_; (case hd => rfl); (case hg => rfl); (case hr => first | (go_simp; done) | (go_simp; rfl)); intro g4 hg4 w4 hbox hb; have Lg2g4 := Aside0.mk (show g2 < g4 from by have := blk_lt H2.out; omega); have GEg4 := Aside0.mk (show w.heap.size ≤ g4 from hg4 ▸ below_size HB.out); have H2_ := Aside0.mk (blk_below H2.out hb); clear H2; have H2 := H2_; clear H2_; have HB_ := Aside0.mk (below_step HB.out hb); clear HB; have HB := HB_; clear HB_; have H4 := Aside0.mk hbox; clear hbox hb hg4) | (go_at_call 76; refine (HSC.out _ HB.out).mono ?_; rintro e wc76 ⟨rfl, hb⟩; have H2_ := Aside0.mk (blk_below H2.out hb); have H4_ := Aside0.mk (blk_below H4.out hb); clear H2 H4; have H2 := H2_; clear H2_; have H4 := H4_; clear H4_; have HB_ := Aside0.mk (below_step HB.out hb); clear HB; have HB := HB_; clear HB_ hb) | ((with_reducible refine gate_dst (N := 5) rfl ?_); refine box_event ?hg (N := 5) ?hd (cs := (v32 (List.replicate 64 0)).toArray) (t := 89) ?hr ?_; (case hd => rfl); (case hg => rfl); (case hr => first | (go_simp; done) | (go_simp; rfl)); intro gw hgw w5 hbox hb; have Lg2gw := Aside0.mk (show g2 < gw from by have := blk_lt H2.out; omega); have Lg4gw := Aside0.mk (show g4 < gw from by have := blk_lt H4.out; omega); have GEgw := Aside0.mk (show w.heap.size ≤ gw from hgw ▸ below_size HB.out); have H2_ := Aside0.mk (blk_below H2.out hb); have H4_ := Aside0.mk (blk_below H4.out hb); clear H2 H4; have H2 := H2_; clear H2_; have H4 := H4_; clear H4_; have HB_ := Aside0.mk (below_step HB.out hb); clear HB; have HB := HB_; clear HB_; have HW := Aside0.mk hbox; clear hbox hb hgw) | ((with_reducible refine gate_store (t := 89) (p := 5) rfl ?_); refine store_whole rfl rfl 89 (.tmp 5) (.tmp 19) rfl _ (v32 WS) rfl rfl HW.out (by rfl) (by rw [show (v32 WS).length = 64 from by simp [v32, HWL.out]]; kernel_rfl) (by simp [v32, HWL.out]) (one32 _) ?_; intro w50 hw; have H2_ := Aside0.mk (show w50.heap[g2]? = _ from hw ▸ far_cells H2.out (Nat.ne_of_lt Lg2gw.out)); have H4_ := Aside0.mk (show w50.heap[g4]? = _ from hw ▸ far_cells H4.out (Nat.ne_of_lt Lg4gw.out)); have HW_ := Aside0.mk (show w50.heap[gw]? = some (.cells (v32 WS).toArray 89 (0, 0)) from hw ▸ set_all HW.out (by simp [v32, HWL.out])); clear H2 H4 HW; have H2 := H2_; clear H2_; have H4 := H4_; clear H4_; have HW := HW_; clear HW_; have HB_ := Aside0.mk (show Below w.heap.size w w50 from hw ▸ below_cells HB.out GEgw.out _ _); clear HB; have HB := HB_; clear HB_ hw) | (go_at_call 77; refine (HKC.out _).mono ?_; rintro e wc77 ⟨rfl, hb⟩; have H2_ := Aside0.mk (blk_below H2.out hb); have H4_ := Aside0.mk (blk_below H4.out hb); have HW_ := Aside0.mk (blk_below HW.out hb); clear H2 H4 HW; have H2 := H2_; clear H2_; have H4 := H4_; clear H4_; have HW := HW_; clear HW_; have HB_ := Aside0.mk (below_step HB.out hb); clear HB; have HB := HB_; clear HB_ hb) | ((with_reducible refine gate_dst (N := 6) rfl ?_); refine box_event ?hg (N := 6) ?hd (cs := (v32 (List.replicate 64 0)).toArray) (t := 89) ?hr ?_; (case hd => rfl); (case hg => rfl); (case hr => first | (go_simp; done) | (go_simp; rfl)); intro gq hgq w6 hbox hb; have Lg2gq := Aside0.mk (show g2 < gq from by have := blk_lt H2.out; omega); have Lg4gq := Aside0.mk (show g4 < gq from by have := blk_lt H4.out; omega); have Lgwgq := Aside0.mk (show gw < gq from by have := blk_lt HW.out; omega); have GEgq := Aside0.mk (show w.heap.size ≤ gq from hgq ▸ below_size HB.out); have H2_ := Aside0.mk (blk_below H2.out hb); have H4_ := Aside0.mk (blk_below H4.out hb); have HW_ := Aside0.mk (blk_below HW.out hb); clear H2 H4 HW; have H2 := H2_; clear H2_; have H4 := H4_; clear H4_; have HW := HW_; clear HW_; have HB_ := Aside0.mk (below_step HB.out hb); clear HB; have HB := HB_; clear HB_; have HK := Aside0.mk hbox; clear hbox hb hgq) | ((with_reducible refine gate_store (t := 89) (p := 6) rfl ?_); refine store_whole rfl rfl 89 (.tmp 6) (.tmp 20) rfl _ (v32 KQ) rfl rfl HK.out (by rfl) (by rw [show (v32 KQ).length = 64 from by simp [v32, HKL.out]]; kernel_rfl) (by simp [v32, HKL.out]) (one32 _) ?_; intro w60 hw; have H2_ := Aside0.mk (show w60.heap[g2]? = _ from hw ▸ far_cells H2.out (Nat.ne_of_lt Lg2gq.out)); have H4_ := Aside0.mk (show w60.heap[g4]? = _ from hw ▸ far_cells H4.out (Nat.ne_of_lt Lg4gq.out)); have HW_ := Aside0.mk (show w60.heap[gw]? = _ from hw ▸ far_cells HW.out (Nat.ne_of_lt Lgwgq.out)); have HK_ := Aside0.mk (show w60.heap[gq]? = some (.cells (v32 KQ).toArray 89 (0, 0)) from hw ▸ set_all HK.out (by simp [v32, HKL.out])); clear H2 H4 HW HK; have H2 := H2_; clear H2_; have H4 := H4_; clear H4_; have HW := HW_; clear HW_; have HK := HK_; clear HK_; have HB_ := Aside0.mk (show Below w.heap.size w w60 from hw ▸ below_cells HB.out GEgq.out _ _); clear HB; have HB := HB_; clear HB_ hw) | ((with_reducible refine gate_dst (N := 21) rfl ?_); refine wpList_load_row rfl 77 (.tmp 2) rfl g2 rfl 77 _ (0, 0) _ H2.out Try.underlying77 rfl (show _ = some 8 from by kernel_rfl) ?_) | ((with_reducible refine gate_dst (N := 7) rfl ?_); refine box_event ?hg (N := 7) ?hd (cs := (v32 [0, 0, 0, 0, 0, 0, 0, 0]).toArray) (t := 77) ?hr ?_; (case hd => rfl); (case hg => rfl); (case hr => first | (go_simp; done) | (go_simp; rfl)); intro gv hgv w7 hbox hb; have Lg2gv := Aside0.mk (show g2 < gv from by have := blk_lt H2.out; omega); have Lg4gv := Aside0.mk (show g4 < gv from by have := blk_lt H4.out; omega); have Lgwgv := Aside0.mk (show gw < gv from by have := blk_lt HW.out; omega); have Lgqgv := Aside0.mk (show gq < gv from by have := blk_lt HK.out; omega); have GEgv := Aside0.mk (show w.heap.size ≤ gv from hgv ▸ below_size HB.out); have H2_ := Aside0.mk (blk_below H2.out hb); have H4_ := Aside0.mk (blk_below H4.out hb); have HW_ := Aside0.mk (blk_below HW.out hb); have HK_ := Aside0.mk (blk_below HK.out hb); clear H2 H4 HW HK; have H2 := H2_; clear H2_; have H4 := H4_; clear H4_; have HW := HW_; clear HW_; have HK := HK_; clear HK_; have HB_ := Aside0.mk (below_step HB.out hb); clear HB; have HB := HB_; clear HB_; have HV := Aside0.mk hbox; clear hbox hb hgv) | ((with_reducible refine gate_store (t := 77) (p := 7) rfl ?_); refine store_whole rfl rfl 77 (.tmp 7) (.tmp 21) rfl _ (v32 [a0, a1, a2, a3, a4, a5, a6, a7]) rfl rfl HV.out (by rfl) (show _ = some 8 from by kernel_rfl) (by simp [v32]) (one32 _) ?_; intro w70 hw; have H2_ := Aside0.mk (show w70.heap[g2]? = _ from hw ▸ far_cells H2.out (Nat.ne_of_lt Lg2gv.out)); have H4_ := Aside0.mk (show w70.heap[g4]? = _ from hw ▸ far_cells H4.out (Nat.ne_of_lt Lg4gv.out)); have HW_ := Aside0.mk (show w70.heap[gw]? = _ from hw ▸ far_cells HW.out (Nat.ne_of_lt Lgwgv.out)); have HK_ := Aside0.mk (show w70.heap[gq]? = _ from hw ▸ far_cells HK.out (Nat.ne_of_lt Lgqgv.out)); have HV_ := Aside0.mk (show w70.heap[gv]? = some (.cells (v32 [a0, a1, a2, a3, a4, a5, a6, a7]).toArray 77 (0, 0)) from hw ▸ set_all HV.out (by simp [v32])); clear H2 H4 HW HK HV; have H2 := H2_; clear H2_; have H4 := H4_; clear H4_; have HW := HW_; clear HW_; have HK := HK_; clear HK_; have HV := HV_; clear HV_; have HB_ := Aside0.mk (show Below w.heap.size w w70 from hw ▸ below_cells HB.out GEgv.out _ _); clear HB; have HB := HB_; clear HB_ hw))
 generalize hST : [a0, a1, a2, a3, a4, a5, a6, a7] = ST at HV H2
 have HSTE := Aside0.mk hST
 have HST8 := Aside0.mk (show ST.length = 8 from by rw [← hST]; rfl)
 have HST32 := Aside0.mk (show W32 ST from by rw [← hST]; exact HST.out)
 clear hST
 go_loopg [8] 65 (fun kq v wr => ∃ t : Nat, t ≤ 64 ∧ v = .int .i64 t ∧ Aside0 (kq + t = 65) ∧ Aside0 (wr.heap[gv]? = some (.cells (v32 (rnds WS t ST)).toArray 77 (0, 0))) ∧ Aside0 (wr.heap[g2]? = some (.cells (v32 ST).toArray 77 (0, 0))) ∧ Aside0 (wr.heap[g4]? = some (.cells (v32 [0, 0, 0, 0, 0, 0, 0, 0]).toArray 77 (0, 0))) ∧ Aside0 (wr.heap[gw]? = some (.cells (v32 WS).toArray 89 (0, 0))) ∧ Aside0 (wr.heap[gq]? = some (.cells (v32 KQ).toArray 89 (0, 0))) ∧ Aside0 (Below w.heap.size w wr))
 case atStart => exact ⟨0, by omega, rfl, ⟨rfl⟩, HV, H2, H4, HW, HK, HB⟩
 case round =>
  clear HV H2 H4 HW HK HB
  obtain ⟨t, ht, rfl, HKK, HV1, H21, H41, HW1, HK1, HB1⟩ := hrel
  obtain ⟨k1, rfl⟩ : ∃ k1, gk = k1 + 1 := ⟨gk - 1, by have := HKK.out; omega⟩
  have hw : wrap64 ((t : Int) + 1) = ((t + 1 : Nat) : Int) := by unfold wrap64; omega
  by_cases hlt : t < 64
  ·obtain ⟨a, b, c1, d, e5, f, g, h8, hrn⟩ := len8 (rnds_len WS ST HST8.out t)
   have hw8 := W32_rnds WS ST HST8.out HST32.out t
   rw [hrn] at HV1 hw8
   have HRN := Aside0.mk hrn
   have la : a < 4294967296 := hw8 _ (by simp)
   have lb : b < 4294967296 := hw8 _ (by simp)
   have lc : c1 < 4294967296 := hw8 _ (by simp)
   have le : e5 < 4294967296 := hw8 _ (by simp)
   have lf : f < 4294967296 := hw8 _ (by simp)
   have lg : g < 4294967296 := hw8 _ (by simp)
   clear hw8 hrn
   obtain ⟨kt, hkt⟩ : ∃ y, KQ.getD t 0 = y := ⟨_, rfl⟩
   obtain ⟨wt, hwt⟩ : ∃ y, WS.getD t 0 = y := ⟨_, rfl⟩
   have HKT := Aside0.mk hkt
   have HWT := Aside0.mk hwt
   clear hkt hwt
   have q0 : wr.cell? ⟨gv, 0, none⟩ = some (.int .u32 (a : Int)) := (blk_cell HV1.out 0).trans rfl
   have q1 : wr.cell? ⟨gv, 1, none⟩ = some (.int .u32 (b : Int)) := (blk_cell HV1.out 1).trans rfl
   have q2 : wr.cell? ⟨gv, 2, none⟩ = some (.int .u32 (c1 : Int)) := (blk_cell HV1.out 2).trans rfl
   have q4 : wr.cell? ⟨gv, 4, none⟩ = some (.int .u32 (e5 : Int)) := (blk_cell HV1.out 4).trans rfl
   have q5 : wr.cell? ⟨gv, 5, none⟩ = some (.int .u32 (f : Int)) := (blk_cell HV1.out 5).trans rfl
   have q6 : wr.cell? ⟨gv, 6, none⟩ = some (.int .u32 (g : Int)) := (blk_cell HV1.out 6).trans rfl
   go_upto_region 8 with (fail)
   go_quiet (fail)
   have HV2 := Aside0.mk (blk_drewN HV1.out nq)
   have H22 := Aside0.mk (blk_drewN H21.out nq)
   have H42 := Aside0.mk (blk_drewN H41.out nq)
   have HW2 := Aside0.mk (blk_drewN HW1.out nq)
   have HK2 := Aside0.mk (blk_drewN HK1.out nq)
   have HB2 := Aside0.mk (pw_below_drewN HB1.out nq)
   clear HV1 H21 H41 HW1 HK1 HB1 q0 q1 q2 q4 q5 q6
   generalize wr.drewN nq = w2 at HV2 H22 H42 HW2 HK2 HB2 ⊢
   go_upto_region 8 with (fail)
   go_cut [15] (fun v15 wc => v15 = .int .u32 ((t1N kt wt e5 f g h8 : Nat) : Int) ∧ Aside0 (wc.heap[gv]? = some (.cells (v32 [a, b, c1, d, e5, f, g, h8]).toArray 77 (0, 0))) ∧ Aside0 (wc.heap[g2]? = some (.cells (v32 ST).toArray 77 (0, 0))) ∧ Aside0 (wc.heap[g4]? = some (.cells (v32 [0, 0, 0, 0, 0, 0, 0, 0]).toArray 77 (0, 0))) ∧ Aside0 (wc.heap[gw]? = some (.cells (v32 WS).toArray 89 (0, 0))) ∧ Aside0 (wc.heap[gq]? = some (.cells (v32 KQ).toArray 89 (0, 0))) ∧ Aside0 (Below w.heap.size w wc))
   case first =>
    have q7 : w2.cell? ⟨gv, 7, none⟩ = some (.int .u32 (h8 : Int)) := (blk_cell HV2.out 7).trans rfl
    have qk := get0 HK2.out t (show t < KQ.length from by rw [HKL.out]; exact hlt)
    have qw := get0 HW2.out t (show t < WS.length from by rw [HWL.out]; exact hlt)
    rw [HKT.out] at qk
    rw [HWT.out] at qw
    go_quiet ((go_at_call 78; first | (with_reducible exact Calls.quiet_of_same (turn_6s e5 _ le)) | (with_reducible exact Calls.quiet_of_same (turn_11s e5 _ le)) | (with_reducible exact Calls.quiet_of_same (turn_25s e5 _ le))))
    go_wp2
    go_meet
    case rel => exact ⟨congrArg (Value.int IntKind.u32) (by rw [← t1_or3 kt wt e5 f g h8 le lf lg]; omega), ⟨blk_drewN HV2.out nq⟩, ⟨blk_drewN H22.out nq⟩, ⟨blk_drewN H42.out nq⟩, ⟨blk_drewN HW2.out nq⟩, ⟨blk_drewN HK2.out nq⟩, ⟨pw_below_drewN HB2.out nq⟩⟩
   case rest =>
   clear HV2 H22 H42 HW2 HK2 HB2
   obtain ⟨rfl, HV2, H22, H42, HW2, HK2, HB2⟩ := hcut
   obtain ⟨wx, hwx⟩ : ∃ x, x = wc := ⟨_, rfl⟩
   subst hwx
   generalize hT1 : t1N kt wt e5 f g h8 = T1
   have HT1 := Aside0.mk hT1
   clear hT1
   go_upto_region 9 with (fail)
   go_cut [16] (fun v16 wc => v16 = .int .u32 ((t2N a b c1 : Nat) : Int) ∧ Aside0 (wc.heap[gv]? = some (.cells (v32 [a, b, c1, d, e5, f, g, h8]).toArray 77 (0, 0))) ∧ Aside0 (wc.heap[g2]? = some (.cells (v32 ST).toArray 77 (0, 0))) ∧ Aside0 (wc.heap[g4]? = some (.cells (v32 [0, 0, 0, 0, 0, 0, 0, 0]).toArray 77 (0, 0))) ∧ Aside0 (wc.heap[gw]? = some (.cells (v32 WS).toArray 89 (0, 0))) ∧ Aside0 (wc.heap[gq]? = some (.cells (v32 KQ).toArray 89 (0, 0))) ∧ Aside0 (Below w.heap.size w wc))
   case first =>
    go_wp2_with (first | (go_at_call 78; (with_reducible refine (turn_2 a _ la).mono ?_); rintro e w6 ⟨rfl, rfl⟩) | (go_at_call 78; (with_reducible refine (turn_13 a _ la).mono ?_); rintro e w6 ⟨rfl, rfl⟩) | (go_at_call 78; (with_reducible refine (turn_22 a _ la).mono ?_); rintro e w6 ⟨rfl, rfl⟩))
    go_meet
    case rel => exact ⟨congrArg (Value.int IntKind.u32) (by rw [← t2_or3 a b c1 la lb lc]), HV2, H22, H42, HW2, HK2, HB2⟩
   case rest =>
   clear HV2 H22 H42 HW2 HK2 HB2
   obtain ⟨rfl, HV2, H22, H42, HW2, HK2, HB2⟩ := hcut
   generalize hT2 : t2N a b c1 = T2
   have HT2 := Aside0.mk hT2
   clear hT2
   have q3 : wc.cell? ⟨gv, 3, none⟩ = some (.int .u32 (d : Int)) := (blk_cell HV2.out 3).trans rfl
   have hseg : [Value.int .u32 (((T1 : Int) + (T2 : Int)) % 4294967296), Value.int .u32 a, Value.int .u32 b, Value.int .u32 c1, Value.int .u32 (((d : Int) + (T1 : Int)) % 4294967296), Value.int .u32 e5, Value.int .u32 f, Value.int .u32 g] = v32 [(T1 + T2) % 4294967296, a, b, c1, (d + T1) % 4294967296, e5, f, g] := by
    have e1 : (((T1 : Int) + (T2 : Int)) % 4294967296) = (((T1 + T2) % 4294967296 : Nat) : Int) := by omega
    have e2 : (((d : Int) + (T1 : Int)) % 4294967296) = (((d + T1) % 4294967296 : Nat) : Int) := by omega
    rw [e1, e2]; rfl
   have HSEG := Aside0.mk hseg
   clear hseg
   go_wp2_with (first | ((with_reducible refine gate_store (t := 77) (p := 7) rfl ?_); refine store_whole rfl rfl 77 (.tmp 7) (.tmp 99) rfl _ [Value.int .u32 (((T1 : Int) + (T2 : Int)) % 4294967296), Value.int .u32 a, Value.int .u32 b, Value.int .u32 c1, Value.int .u32 (((d : Int) + (T1 : Int)) % 4294967296), Value.int .u32 e5, Value.int .u32 f, Value.int .u32 g] rfl rfl HV2.out (by rfl) (show _ = some 8 from by kernel_rfl) (by simp [v32]) (by rw [HSEG.out]; exact one32 _) ?_; intro w9 hw9; have HV3 := Aside0.mk (show w9.heap[gv]? = some (.cells (v32 [(T1 + T2) % 4294967296, a, b, c1, (d + T1) % 4294967296, e5, f, g]).toArray 77 (0, 0)) from by rw [← HSEG.out]; exact hw9 ▸ set_all HV2.out (by simp [v32])); have H23 := Aside0.mk (show w9.heap[g2]? = _ from hw9 ▸ far_cells H22.out (Nat.ne_of_lt Lg2gv.out)); have H43 := Aside0.mk (show w9.heap[g4]? = _ from hw9 ▸ far_cells H42.out (Nat.ne_of_lt Lg4gv.out)); have HW3 := Aside0.mk (show w9.heap[gw]? = _ from hw9 ▸ far_cells HW2.out (Nat.ne_of_lt Lgwgv.out)); have HK3 := Aside0.mk (show w9.heap[gq]? = _ from hw9 ▸ far_cells HK2.out (Nat.ne_of_lt Lgqgv.out)); have HB3 := Aside0.mk (show Below w.heap.size w w9 from hw9 ▸ below_cells HB2.out GEgv.out _ _); clear hw9))
   go_roundg k1
   case rel =>
    refine ⟨t + 1, by omega, (by first | exact congrArg (Value.int IntKind.i64) hw | simp), ⟨by have := HKK.out; omega⟩, ⟨?_⟩, H23, H43, HW3, HK3, HB3⟩
    have er : rnds WS (t + 1) ST = [(T1 + T2) % 4294967296, a, b, c1, (d + T1) % 4294967296, e5, f, g] := by
     show rnd (KS.getD t 0) (WS.getD t 0) (rnds _ t _) = _
     rw [HKQ.out, HRN.out, HKT.out, HWT.out]
     show [(t1N kt wt e5 f g h8 + t2N a b c1) % 4294967296, a, b, c1, (d + t1N kt wt e5 f g h8) % 4294967296, e5, f, g] = _
     rw [HT1.out, HT2.out]
    rw [er]
    exact HV3.out
   case measure => have := HKK.out; omega
  ·obtain rfl : t = 64 := by omega
   have HL8 := rnds_len WS ST HST8.out 64
   generalize hR : rnds WS 64 ST = RN at HV1 HL8
   have HRR := Aside0.mk hR
   clear hR HW1 HK1
   go_wp2
   go_loopg [17] 9 (fun kq v wr => ∃ i : Nat, i ≤ 8 ∧ v = .int .i64 i ∧ Aside0 (kq + i = 9) ∧ Aside0 (wr.heap[g2]? = some (.cells (v32 (LL ST RN i)).toArray 77 (0, 0))) ∧ Aside0 (wr.heap[gv]? = some (.cells (v32 RN).toArray 77 (0, 0))) ∧ Aside0 (wr.heap[g4]? = some (.cells (v32 [0, 0, 0, 0, 0, 0, 0, 0]).toArray 77 (0, 0))) ∧ Aside0 (Below w.heap.size w wr))
   case atStart => exact ⟨0, by omega, rfl, ⟨rfl⟩, ⟨by have := H21.out; simpa [LL] using this⟩, HV1, H41, HB1⟩
   case round =>
    clear H21 HV1 H41 HB1
    obtain ⟨i, hi, rfl, HK3, HG1, HV2, H42, HB2⟩ := hrel
    obtain ⟨k2, rfl⟩ : ∃ k2, gk = k2 + 1 := ⟨gk - 1, by have := HK3.out; omega⟩
    have hw3 : wrap64 ((i : Int) + 1) = ((i + 1 : Nat) : Int) := by unfold wrap64; omega
    have HS8 := HST8.out
    by_cases hlt3 : i < 8
    ·obtain ⟨sx, hsx⟩ : ∃ y, ST.getD i 0 = y := ⟨_, rfl⟩
     obtain ⟨rx, hrx⟩ : ∃ y, RN.getD i 0 = y := ⟨_, rfl⟩
     have d1 := get0 HG1.out i (by rw [LL_len HS8 HL8 i hi]; exact hlt3)
     rw [LL_get HS8 HL8 i hlt3, hsx] at d1
     have d2 := get0 HV2.out i (by rw [HL8]; exact hlt3)
     rw [hrx] at d2
     have HSX := Aside0.mk hsx
     have HRX := Aside0.mk hrx
     clear hsx hrx
     go_wp2
     refine wp_region_still_tail 8 (by kernel_rfl) (by kernel_rfl) ?_
     simp only [List.take_succ_cons, List.take_zero, List.drop_succ_cons, List.drop_zero]
     repeat still_step
     try refine wpStill_nil ?_
     change wpList _ _ _ _ _ wr.drew
     have HG2 := Aside0.mk (blk_drew HG1.out)
     have HV3 := Aside0.mk (blk_drew HV2.out)
     have H43 := Aside0.mk (blk_drew H42.out)
     have HB3 := Aside0.mk (below_drew1 HB2.out)
     clear d1 d2 HG1 HV2 H42 HB2
     generalize wr.drew = w2 at HG2 HV3 H43 HB3 ⊢
     have c1 := get0 HG2.out i (by rw [LL_len HS8 HL8 i hi]; exact hlt3)
     have f1 := blk_frozen HG2.out i
     go_wp2
     go_roundg k2
     case rel =>
      refine ⟨i + 1, by omega, (by first | exact congrArg (Value.int IntKind.i64) hw3 | simp), ⟨by have := HK3.out; omega⟩, ⟨?_⟩, ⟨other_set HV3.out (Nat.ne_of_gt Lg2gv.out)⟩, ⟨other_set H43.out (Nat.ne_of_gt Lg2g4.out)⟩, ⟨below_set HB3.out GEg2.out⟩⟩
      have e1 : ((sx : Int) + (rx : Int)) % 4294967296 = (((sx + rx) % 4294967296 : Nat) : Int) := by omega
      rw [e1]
      have h1 := set0 HG2.out i ((sx + rx) % 4294967296) (by rw [LL_len HS8 HL8 i hi]; exact hlt3)
      rw [← HSX.out, ← HRX.out, LL_set HS8 HL8 i hlt3] at h1
      rw [← HSX.out, ← HRX.out]
      exact h1
     case measure => have := HK3.out; omega
    ·obtain rfl : i = 8 := by omega
     have hfin := HG1.out
     rw [LL_end HS8 HL8] at hfin
     have hzl : (List.zipWith (fun x y => (x + y) % 4294967296) ST RN).length = 8 := by rw [List.length_zipWith]; omega
     generalize hF : List.zipWith (fun x y => (x + y) % 4294967296) ST RN = FN at hfin hzl
     have HF := Aside0.mk hF
     clear hF
     obtain ⟨z0, z1, z2, z3, z4, z5, z6, z7, rfl⟩ := len8 hzl
     have HGF := Aside0.mk hfin
     clear hfin hzl HG1
     go_wp2_with (first | ((with_reducible refine gate_dst (N := 112) rfl ?_); refine wpList_load_row rfl 77 (.tmp 2) rfl g2 rfl 77 _ (0, 0) _ HGF.out Try.underlying77 rfl (show _ = some 8 from by kernel_rfl) ?_) | ((with_reducible refine gate_store (t := 77) (p := 4) rfl ?_); refine store_whole rfl rfl 77 (.tmp 4) (.tmp 112) rfl _ (v32 [z0, z1, z2, z3, z4, z5, z6, z7]) rfl rfl H42.out (by rfl) (show _ = some 8 from by kernel_rfl) (by simp [v32]) (one32 _) ?_; intro w9 hw9; have H4F := Aside0.mk (show w9.heap[g4]? = some (.cells (v32 [z0, z1, z2, z3, z4, z5, z6, z7]).toArray 77 (0, 0)) from hw9 ▸ set_all H42.out (by simp [v32])); have HB9 := Aside0.mk (show Below w.heap.size w w9 from hw9 ▸ below_cells HB2.out GEg4.out _ _); clear hw9))
     refine bodyPost_ret (results_cell_row rfl _ _ g4 77 (v32 [z0, z1, z2, z3, z4, z5, z6, z7]).toArray (0, 0) _ rfl H4F.out Try.underlying77 rfl (show _ = some 8 from by kernel_rfl)) rfl ?_
     refine ⟨?_, HB9.out⟩
     show Ending.returned _ = Ending.returned (.agg (v32 (List.zipWith (fun x y => (x + y) % 4294967296) _ (rnds (sched (fun i => (rd p i).toNat) 64) 64 _))).toArray)
     rw [HWS.out, HSTE.out, HRR.out, HF.out]
end Go.Proofs.Ytlnfiknllnonhaa.Sha
