/- The hash SHA-256: the walks of the program's text and of the document's. -/
import Derived.Test.YtlnfiknllnonhaaSha1
import Derived.Test.YtlnfiknllnonhaaSha2
import Derived.Test.YtlnfiknllnonhaaSha4
import Derived.Test.YtlnfiknllnonhaaSha5
import Derived.Test.YtlnfiknllnonhaaSha7
import Derived.Test.YtlnfiknllnonhaaSha8
import Derived.Test.YtlnfiknllnonhaaSha9
import Derived.Test.YtlnfiknllnonhaaSha10
import Derived.Test.YtlnfiknllnonhaaSha0
namespace Go.Proofs.Ytlnfiknllnonhaa.Sha
open Go Go.RowKit Go.Proofs.YtlnfiknllnonhaaW.PrintWords Go.Proofs.YtlnfiknllnonhaaW.PrintLast Go.Proofs.YtlnfiknllnonhaaW.PrintMore
set_option linter.unusedVariables false
set_option linter.unusedSimpArgs false
def by4 (x : Nat) : List Int := [((x / 16777216 % 256 : Nat) : Int), ((x / 65536 % 256 : Nat) : Int), ((x / 256 % 256 : Nat) : Int), ((x % 256 : Nat) : Int)]
set_option maxHeartbeats 8000000 in
set_option maxRecDepth 100000 in
theorem refSum (w : World) (A : Option Addr) (c : Nat) (l : List Int) (hr : Kd.C (Kd.int .u8) w A l.length l) (hb : bytes8 l) (hn : l.length < 140737488352000) :
  Calls Try.prog 53 #[.slice A l.length c] w fun e w' => ∃ v0, e = .returned v0 ∧ Kd.R (Kd.int .u8) 5 w' w.heap.size (fun _ => True) v0 (outB (blocks (tailB l l.length) ((tailB l l.length).length / 64) S0)) ∧ Below w.heap.size w w' := by
 have HR := Aside0.mk hr
 have HLN := Aside0.mk hn
 have HBY := Aside0.mk hb
 have HB := Aside0.mk (Below.refl w.heap.size w)
 clear hr hn hb
 go_enter Try.func53, Try.ntmps53
 go_wp2_with (first | ((with_reducible refine gate_dst (N := 3) rfl ?_); refine box_event ?hg (N := 3) ?hd (cs := (v32 [0, 0, 0, 0, 0, 0, 0, 0]).toArray) (t := 77) ?hr ?_; (case hd => rfl); (case hg => rfl); (case hr => first | (go_simp; done) | (go_simp; rfl)); intro g3 hg3 w3 hbox hb3; have HB_ := Aside0.mk hb3; have HV0 := Aside0.mk hbox; have HGE := Aside0.mk (show w.heap.size ≤ g3 from Nat.le_of_eq hg3.symm); clear hbox hb3 hg3 HB; have HB := HB_; clear HB_) | ((with_reducible refine gate_store (t := 77) (p := 3) rfl ?_); refine store_whole rfl rfl 77 (.tmp 3) (.tmp 10) rfl _ (v32 S0) rfl rfl HV0.out (by rfl) (show _ = some 8 from by kernel_rfl) (by decide) (one32 _) ?_; intro w4 hw4; have HS := Aside0.mk (show w4.heap[g3]? = some (.cells (v32 S0).toArray 77 (0, 0)) from hw4 ▸ set_all HV0.out rfl); have HB_ := Aside0.mk (show Below w.heap.size w w4 from hw4 ▸ below_cells HB.out HGE.out _ _); clear hw4 HV0 HB; have HB := HB_; clear HB_) | (go_at_call 65; refine (refPad _ A c l (Kd.C_below HR.out HB.out) HLN.out).mono ?_; rintro e w6 ⟨v0, rfl, ho, hb⟩; have HO := Aside0.mk (Kd.R_lower ho (below_size HB.out)); have HS_ := Aside0.mk (blk_below HS.out hb); have HB_ := Aside0.mk (below_step HB.out hb); clear HS HB ho hb; have HS := HS_; have HB := HB_; clear HS_ HB_))
 have htl := tailB_len l l.length
 have htn : 64 ≤ (tailB l l.length).length ∧ (tailB l l.length).length < 140737488355000 := by
  have := HLN.out
  have h2 : (tailB l l.length).length = l.length + 1 + Zn l.length + 8 := by
   unfold tailB
   rw [List.length_append, List.length_append, List.length_append, List.length_replicate, lenB_len]; rfl
  have h3 : Zn l.length < 64 := by unfold Zn; omega
  omega
 have htby := tailB_bytes l.length HBY.out
 generalize hTT : tailB l l.length = T at HO htl htn htby
 have HTT := Aside0.mk hTT
 have HTL := Aside0.mk htl
 have HTN := Aside0.mk htn
 have HTY := Aside0.mk htby
 clear hTT htl htby
 obtain ⟨gm, cm, hvm, hgm, _, cellsm, hcm⟩ := Kd.R_form HO.out (by omega)
 subst hvm
 have HGM := Aside0.mk (show gm ≠ g3 from fun e => by
  have hne := Kd.R_ne HO.out HS.out (by decide)
  exact hne (by rw [← e]; simp [Value.ownBlock]))
 have HC0 := Aside0.mk (Kd.R_reads' HO.out).2.2
 have HL0 := Aside0.mk (Kd.R_reads' HO.out).2.1
 clear hgm hcm htn HO
 go_loopg [5] (T.length / 64 + 1) (fun kq v5 wr => ∃ n : Nat, v5 = .int .i64 (64 * (n : Int)) ∧ Aside0 (kq + n = T.length / 64 + 1) ∧ Aside0 (64 * n ≤ T.length) ∧ Aside0 (wr.heap[g3]? = some (.cells (v32 (blocks T n S0)).toArray 77 (0, 0))) ∧ Aside0 (Kd.C (Kd.int .u8) wr (some ⟨gm, 0, none⟩) T.length T) ∧ Aside0 (Below w.heap.size w wr))
 case atStart => exact ⟨0, by first | rfl | simp, ⟨rfl⟩, ⟨Nat.zero_le _⟩, HS, HC0, HB⟩
 case round =>
  clear HS HC0 HB
  obtain ⟨n, rfl, HK, HN, HS, HC0, HB⟩ := hrel
  have hl8 := blocks_len T n
  have hl32 := blocks_32 T n
  by_cases h64 : 64 * n < T.length
  ·obtain ⟨k1, rfl⟩ : ∃ k1, gk = k1 + 1 := ⟨gk - 1, by have := HK.out; have := HN.out; omega⟩
   have hbl : blocks T (n + 1) S0 = comp (blocks T n S0) (fun i => (rd ((T.drop (64 * n)).take 64) (i : Int)).toNat) := blocks_step T n _
   have HBL := Aside0.mk hbl
   clear hbl
   generalize hBN : blocks T n S0 = BN at HS hl8 hl32 HBL
   obtain ⟨x0, x1, x2, x3, x4, x5, x6, x7, rfl⟩ := len8 hl8
   have HBN := Aside0.mk hBN
   have H32 := Aside0.mk hl32
   clear hBN hl8 hl32
   have q0 : wr.cell? ⟨g3, 0, none⟩ = some (.int .u32 (x0 : Int)) := (blk_cell HS.out 0).trans rfl
   have q1 : wr.cell? ⟨g3, 1, none⟩ = some (.int .u32 (x1 : Int)) := (blk_cell HS.out 1).trans rfl
   have q2 : wr.cell? ⟨g3, 2, none⟩ = some (.int .u32 (x2 : Int)) := (blk_cell HS.out 2).trans rfl
   have q3 : wr.cell? ⟨g3, 3, none⟩ = some (.int .u32 (x3 : Int)) := (blk_cell HS.out 3).trans rfl
   have q4 : wr.cell? ⟨g3, 4, none⟩ = some (.int .u32 (x4 : Int)) := (blk_cell HS.out 4).trans rfl
   have q5 : wr.cell? ⟨g3, 5, none⟩ = some (.int .u32 (x5 : Int)) := (blk_cell HS.out 5).trans rfl
   have q6 : wr.cell? ⟨g3, 6, none⟩ = some (.int .u32 (x6 : Int)) := (blk_cell HS.out 6).trans rfl
   have q7 : wr.cell? ⟨g3, 7, none⟩ = some (.int .u32 (x7 : Int)) := (blk_cell HS.out 7).trans rfl
   have f3 : wrap64 (64 * (n : Int) + 64) = 64 * (n : Int) + 64 := by have := HTN.out; unfold wrap64; omega
   have f4 : IntKind.i64.wrap (64 * (n : Int) + 64) = 64 * (n : Int) + 64 := Go.IntWalk.i64_in _ (by have := HTN.out; omega)
   have i0 : 0 ≤ 64 * (n : Int) := by omega
   have i1 : 64 * (n : Int) ≤ 64 * (n : Int) + 64 := by omega
   have hTn : 64 * n + 64 ≤ T.length := by have := HTL.out; omega
   have i2 : 64 * (n : Int) + 64 ≤ (cm : Int) := by have := HL0.out; omega
   have i3 : 0 ≤ 64 * (n : Int) + 64 := by omega
   have m0 : (64 * (n : Int)).toNat = 64 * n := by omega
   have m1 : (64 * (n : Int) + 64).toNat = 64 * n + 64 := by omega
   have t0 : decide (64 * (n : Int) < (T.length : Int)) = true := decide_eq_true (by omega)
   have hcap : ¬ cm = 64 * n := by have := HL0.out; omega
   go_wp2
   go_still_tail 6, (by kernel_rfl)
   change wpList _ _ _ _ _ wr.drew
   have HS2 := Aside0.mk (blk_drew HS.out)
   have HC2 := Aside0.mk (Kd.C_drew HC0.out)
   have HB2 := Aside0.mk (below_drew1 HB.out)
   clear HS HC0 HB q0 q1 q2 q3 q4 q5 q6 q7 f3 f4 i0 i1 i2 i3 m0 m1 t0
   generalize wr.drew = w2 at HS2 HC2 HB2 ⊢
   have hct : Kd.C (Kd.int .u8) w2 (some ⟨gm, 64 * n, none⟩) ((T.drop (64 * n)).take 64).length ((T.drop (64 * n)).take 64) := by
    have h1 := Kd.C_drop (m := 64 * n) (c := cm) HC2.out (by omega) HL0.out
    rw [if_neg hcap, show (Kd.int .u8).sz = 1 from rfl, Nat.mul_one] at h1
    have h2 := Kd.C_take (m := 64) h1 (by rw [List.length_drop]; omega)
    have e : (some (⟨gm, 0, none⟩ : Addr)).map (·.add (64 * n)) = some ⟨gm, 64 * n, none⟩ := congrArg some (add_plain gm (64 * n))
    rw [e] at h2
    exact h2
   have hl64 : ((T.drop (64 * n)).take 64).length = 64 := by rw [List.length_take, List.length_drop]; omega
   obtain ⟨CN, hCN⟩ : ∃ CN, blocks T (n + 1) S0 = CN := ⟨_, rfl⟩
   have hcn8 : CN.length = 8 := by rw [← hCN]; exact blocks_len _ _
   have HCALL := Aside0.mk (show Calls Try.prog 66 #[.agg #[.int .u32 (x0 : Int), .int .u32 (x1 : Int), .int .u32 (x2 : Int), .int .u32 (x3 : Int), .int .u32 (x4 : Int), .int .u32 (x5 : Int), .int .u32 (x6 : Int), .int .u32 (x7 : Int)], .slice (some ⟨gm, 64 * n, none⟩) 64 (cm - 64 * n)] w2 fun e w' => e = .returned (.agg (v32 CN).toArray) ∧ Below w2.heap.size w2 w' from by
    rw [← hCN, HBL.out]
    exact refBlock w2 [x0, x1, x2, x3, x4, x5, x6, x7] rfl H32.out (some ⟨gm, 64 * n, none⟩) (cm - 64 * n) ((T.drop (64 * n)).take 64) hl64 (by rw [hl64]; have := HL0.out; omega) (bytes8_sub HTY.out (fun x hx => List.mem_of_mem_drop (List.mem_of_mem_take hx))) hct)
   have HCN := Aside0.mk hCN
   clear hct hl64 hCN hcap
   obtain ⟨y0, y1, y2, y3, y4, y5, y6, y7, rfl⟩ := len8 hcn8
   clear hcn8
   have hw : wrap64 (64 * (n : Int) + 64) = 64 * ((n + 1 : Nat) : Int) := by have := HTN.out; unfold wrap64; omega
   have HW64 := Aside0.mk hw
   clear hw
   go_wp2_with (first | (go_at_call 66; refine HCALL.out.mono ?_; rintro e w6 ⟨rfl, hb⟩; have HS_ := Aside0.mk (blk_below HS2.out hb); have HC_ := Aside0.mk (Kd.C_below HC2.out hb); have HB_ := Aside0.mk (below_step HB2.out hb); clear HS2 HC2 HB2 hb) | ((with_reducible refine gate_store (t := 77) (p := 3) rfl ?_); refine store_whole rfl rfl 77 (.tmp 3) (.tmp 25) rfl _ (v32 [y0, y1, y2, y3, y4, y5, y6, y7]) rfl rfl HS_.out (by rfl) (show _ = some 8 from by kernel_rfl) (by simp [v32]) (one32 _) ?_; intro w7 hw7; have HS7 := Aside0.mk (show w7.heap[g3]? = some (.cells (v32 [y0, y1, y2, y3, y4, y5, y6, y7]).toArray 77 (0, 0)) from hw7 ▸ set_all HS_.out (by simp [v32])); have HB7 := Aside0.mk (show Below w.heap.size w w7 from hw7 ▸ below_cells HB_.out HGE.out _ _); have HC7 := Aside0.mk (show Kd.C (Kd.int .u8) w7 (some ⟨gm, 0, none⟩) T.length T from hw7 ▸ Kd.C_keep 0 HC_.out (g := g3) ⟨by obtain ⟨_, _, _, s4⟩ := setCells_same g3 (v32 [y0, y1, y2, y3, y4, y5, y6, y7]) 0 w6; exact Nat.le_of_eq s4.symm, fun i _ hi _ => setCells_far _ _ i hi⟩ (fun ad e _ => by injection e with e; rw [← e]; exact HGM.out)); clear hw7))
   go_roundg k1
   case rel => exact ⟨n + 1, (by first | exact congrArg (Value.int IntKind.i64) HW64.out | (simp; omega)), ⟨by have := HK.out; omega⟩, ⟨by omega⟩, ⟨by rw [HCN.out]; exact HS7.out⟩, HC7, HB7⟩
   case measure => have := HK.out; omega
  ·have hn : n = T.length / 64 := by have := HN.out; have := HTL.out; omega
   subst hn
   have t0 : 64 * ((T.length / 64 : Nat) : Int) = (T.length : Int) := by omega
   rw [t0]
   clear t0 h64
   generalize hWS : blocks T (T.length / 64) S0 = WS at HS hl8 hl32
   have HWS := Aside0.mk hWS
   clear hWS
   obtain ⟨e0, e1, e2, e3, e4, e5, e6, e7, rfl⟩ := len8 hl8
   have x0 : wr.cell? ⟨g3, 0, none⟩ = some (.int .u32 (e0 : Int)) := (blk_cell HS.out 0).trans rfl
   have z0 : e0 < 4294967296 := hl32 _ (by simp)
   have x1 : wr.cell? ⟨g3, 1, none⟩ = some (.int .u32 (e1 : Int)) := (blk_cell HS.out 1).trans rfl
   have z1 : e1 < 4294967296 := hl32 _ (by simp)
   have x2 : wr.cell? ⟨g3, 2, none⟩ = some (.int .u32 (e2 : Int)) := (blk_cell HS.out 2).trans rfl
   have z2 : e2 < 4294967296 := hl32 _ (by simp)
   have x3 : wr.cell? ⟨g3, 3, none⟩ = some (.int .u32 (e3 : Int)) := (blk_cell HS.out 3).trans rfl
   have z3 : e3 < 4294967296 := hl32 _ (by simp)
   have x4 : wr.cell? ⟨g3, 4, none⟩ = some (.int .u32 (e4 : Int)) := (blk_cell HS.out 4).trans rfl
   have z4 : e4 < 4294967296 := hl32 _ (by simp)
   have x5 : wr.cell? ⟨g3, 5, none⟩ = some (.int .u32 (e5 : Int)) := (blk_cell HS.out 5).trans rfl
   have z5 : e5 < 4294967296 := hl32 _ (by simp)
   have x6 : wr.cell? ⟨g3, 6, none⟩ = some (.int .u32 (e6 : Int)) := (blk_cell HS.out 6).trans rfl
   have z6 : e6 < 4294967296 := hl32 _ (by simp)
   have x7 : wr.cell? ⟨g3, 7, none⟩ = some (.int .u32 (e7 : Int)) := (blk_cell HS.out 7).trans rfl
   have z7 : e7 < 4294967296 := hl32 _ (by simp)
   go_wp2_with (first | ((with_reducible refine gate_dst (N := 26) rfl ?_); refine Kd.R_lit (Kd.int .u8) _ 5 ?hg (N := 26) ?hd (xs := ([] : List Int)) (inner := []) (ok := fun _ => True) (okp := fun _ => True) ?hr ?hp (fun _ hk => hk) trivial (Below.refl _ _) (Nat.le_refl _) (by simp) ?_; (case hd => rfl); (case hg => rfl); (case hr => first | (go_simp; done) | (go_simp; rfl)); (case hp => exact (Reps.none _ _)); intro v0 w4 ho5 hb hg_ hnew_; clear hnew_; have HO := Aside0.mk (Kd.R_lower ho5 (below_size (by repeat (first | (with_reducible first | exact HB.out | apply below_alloc | apply pw_below_drewN | apply below_drew1) | exact HB.out)))); have HB_ := Aside0.mk (below_step (by repeat (first | (with_reducible first | exact HB.out | apply below_alloc | apply pw_below_drewN | apply below_drew1) | exact HB.out)) hb); have HS_ := Aside0.mk (blk_below HS.out hb); clear HS; have HS := HS_; clear HS_; have X0 : w4.cell? ⟨g3, 0, none⟩ = some (.int .u32 (e0 : Int)) := (blk_cell HS.out 0).trans rfl; clear x0; have x0 := X0; clear X0; have X1 : w4.cell? ⟨g3, 1, none⟩ = some (.int .u32 (e1 : Int)) := (blk_cell HS.out 1).trans rfl; clear x1; have x1 := X1; clear X1; have X2 : w4.cell? ⟨g3, 2, none⟩ = some (.int .u32 (e2 : Int)) := (blk_cell HS.out 2).trans rfl; clear x2; have x2 := X2; clear X2; have X3 : w4.cell? ⟨g3, 3, none⟩ = some (.int .u32 (e3 : Int)) := (blk_cell HS.out 3).trans rfl; clear x3; have x3 := X3; clear X3; have X4 : w4.cell? ⟨g3, 4, none⟩ = some (.int .u32 (e4 : Int)) := (blk_cell HS.out 4).trans rfl; clear x4; have x4 := X4; clear X4; have X5 : w4.cell? ⟨g3, 5, none⟩ = some (.int .u32 (e5 : Int)) := (blk_cell HS.out 5).trans rfl; clear x5; have x5 := X5; clear X5; have X6 : w4.cell? ⟨g3, 6, none⟩ = some (.int .u32 (e6 : Int)) := (blk_cell HS.out 6).trans rfl; clear x6; have x6 := X6; clear X6; have X7 : w4.cell? ⟨g3, 7, none⟩ = some (.int .u32 (e7 : Int)) := (blk_cell HS.out 7).trans rfl; clear x7; have x7 := X7; clear X7; clear HB; have HB := HB_; clear HB_ hb ho5 hg_))
   clear x0 x1 x2 x3 x4 x5 x6 x7
   go_loopg [6, 28] 9 (fun kq v6 v28 wr => ∃ j : Nat, j ≤ 8 ∧ v28 = .int .i64 j ∧ Aside0 (kq + j = 9) ∧ Aside0 (Kd.R (Kd.int .u8) 5 wr w.heap.size (fun _ => True) v6 (outB ([e0, e1, e2, e3, e4, e5, e6, e7].take j))) ∧ Aside0 (Below w.heap.size w wr))
   case atStart => exact ⟨0, by omega, rfl, ⟨rfl⟩, HO, HB⟩
   case round =>
    clear HS HB HO
    obtain ⟨j, hj, rfl, HK5, HO, HB⟩ := hrel
    obtain ⟨k5, rfl⟩ : ∃ k5, gk = k5 + 1 := ⟨gk - 1, by have := HK5.out; omega⟩
    rcases (show j = 0 ∨ j = 1 ∨ j = 2 ∨ j = 3 ∨ j = 4 ∨ j = 5 ∨ j = 6 ∨ j = 7 ∨ j = 8 by omega) with rfl | rfl | rfl | rfl | rfl | rfl | rfl | rfl | rfl
    ·have hix : ∀ W : World, Sem.run Try.prog (Instr.index 77 (.agg #[.int .u32 e0, .int .u32 e1, .int .u32 e2, .int .u32 e3, .int .u32 e4, .int .u32 e5, .int .u32 e6, .int .u32 e7]) (.int .i64 0)) W = .ok (.int .u32 e0) W := fun W => by kernel_rfl
     have hap : outB ([e0, e1, e2, e3, e4, e5, e6, e7].take (0 + 1)) = outB ([e0, e1, e2, e3, e4, e5, e6, e7].take 0) ++ by4 e0 := by
      rw [show [e0, e1, e2, e3, e4, e5, e6, e7].take (0 + 1) = [e0, e1, e2, e3, e4, e5, e6, e7].take 0 ++ [e0] from rfl, outB_s]; rfl
     have hyl : (outB ([e0, e1, e2, e3, e4, e5, e6, e7].take 0)).length < 100 := by rw [outB_len]; simp
     have HAP := Aside0.mk hap
     clear hap
     generalize outB ([e0, e1, e2, e3, e4, e5, e6, e7].take 0) = zs at HO HAP hyl
     have HZL := Aside0.mk hyl
     clear hyl
     go_wp2
     go_loopg [6, 9] 5 (fun kq v6 v9 wr => ∃ i : Nat, i ≤ 4 ∧ v9 = .int .i64 (3 - (i : Int)) ∧ Aside0 (kq + i = 5) ∧ Aside0 (Kd.R (Kd.int .u8) 5 wr w.heap.size (fun _ => True) v6 (zs ++ (by4 e0).take i)) ∧ Aside0 (Below w.heap.size w wr))
     case atStart => exact ⟨0, by omega, rfl, ⟨rfl⟩, ⟨by have := HO.out; simpa using this⟩, HB⟩
     case round =>
      clear HB HO
      obtain ⟨i, hi, rfl, HK6, HO, HB⟩ := hrel
      obtain ⟨k6, rfl⟩ : ∃ k6, gk = k6 + 1 := ⟨gk - 1, by have := HK6.out; omega⟩
      rcases (show i = 0 ∨ i = 1 ∨ i = 2 ∨ i = 3 ∨ i = 4 by omega) with rfl | rfl | rfl | rfl | rfl
      ·have hap : (zs ++ (by4 e0).take 0) ++ [((e0 : Int) / 16777216)] = zs ++ (by4 e0).take (0 + 1) := by
        rw [List.append_assoc]
        refine congrArg (fun l_ => zs ++ l_) ?_
        have e_ : ((e0 : Int) / 16777216) = ((e0 / 16777216 % 256 : Nat) : Int) := by omega
        rw [e_]
        rfl
       have hyl : (zs ++ (by4 e0).take 0).length < 110 := by have := HZL.out; rw [List.length_append]; simp [by4]; omega
       have HAQ := Aside0.mk hap
       have HLY := Aside0.mk hyl
       clear hap hyl
       generalize zs ++ (by4 e0).take 0 = ys at HO HAQ HLY
       obtain ⟨Ao, co, eo⟩ := Kd.R_slice HO.out
       subst eo
       go_wp2_with (first | ((with_reducible refine gate_builtin (b := .append) (xs := #[.tmp 35, .tmp 42]) rfl ?_); at_builtin; refine Kd.R_append (Kd.int .u8) (w0 := w) w.heap.size rfl (.tmp 35) (.tmp 42) 25 5 (.int .u8 0) 1 rfl Try.underlying25 inf5 rfl (by decide) (by omega) (.slice Ao ys.length co) ys ((e0 : Int) / 16777216) [.int .u8 ((e0 : Int) / 16777216)] (fun _ => True) (fun _ => False) rfl rfl ?aP (fun _ hk => hk.elim) ?aF ?aO ?aB ?aS ?aL ?_; (case aP => exact rfl); (case aB => exact (by repeat (first | (with_reducible first | exact HB.out | apply below_alloc | apply pw_below_drewN | apply below_drew1) | exact HB.out))); (case aF => exact (fun _ _ => trivial)); (case aO => exact (by (with_reducible repeat (first | apply Kd.R_alloc | apply Kd.R_drewN | apply Kd.R_drew)); exact HO.out)); (case aS => exact (below_size (by repeat (first | (with_reducible first | exact HB.out | apply below_alloc | apply pw_below_drewN | apply below_drew1) | exact HB.out)))); (case aL => have := HLY.out; first | omega | (simp; omega)); intro v1 w5 ho hb hg hat; have HB_ := Aside0.mk hb; clear HB HO; have HO := Aside0.mk ho; have HB := HB_; clear HB_ ho hb hg hat))
       go_roundg k6
       case rel => exact ⟨0 + 1, by decide, by first | rfl | simp, ⟨by have := HK6.out; omega⟩, ⟨by rw [← HAQ.out]; exact HO.out⟩, HB⟩
       case measure => have := HK6.out; omega
      ·have hap : (zs ++ (by4 e0).take 1) ++ [((e0 : Int) / 65536 % 256)] = zs ++ (by4 e0).take (1 + 1) := by
        rw [List.append_assoc]
        refine congrArg (fun l_ => zs ++ l_) ?_
        have e_ : ((e0 : Int) / 65536 % 256) = ((e0 / 65536 % 256 : Nat) : Int) := by omega
        rw [e_]
        rfl
       have hyl : (zs ++ (by4 e0).take 1).length < 110 := by have := HZL.out; rw [List.length_append]; simp [by4]; omega
       have HAQ := Aside0.mk hap
       have HLY := Aside0.mk hyl
       clear hap hyl
       generalize zs ++ (by4 e0).take 1 = ys at HO HAQ HLY
       obtain ⟨Ao, co, eo⟩ := Kd.R_slice HO.out
       subst eo
       go_wp2_with (first | ((with_reducible refine gate_builtin (b := .append) (xs := #[.tmp 35, .tmp 42]) rfl ?_); at_builtin; refine Kd.R_append (Kd.int .u8) (w0 := w) w.heap.size rfl (.tmp 35) (.tmp 42) 25 5 (.int .u8 0) 1 rfl Try.underlying25 inf5 rfl (by decide) (by omega) (.slice Ao ys.length co) ys ((e0 : Int) / 65536 % 256) [.int .u8 ((e0 : Int) / 65536 % 256)] (fun _ => True) (fun _ => False) rfl rfl ?aP (fun _ hk => hk.elim) ?aF ?aO ?aB ?aS ?aL ?_; (case aP => exact rfl); (case aB => exact (by repeat (first | (with_reducible first | exact HB.out | apply below_alloc | apply pw_below_drewN | apply below_drew1) | exact HB.out))); (case aF => exact (fun _ _ => trivial)); (case aO => exact (by (with_reducible repeat (first | apply Kd.R_alloc | apply Kd.R_drewN | apply Kd.R_drew)); exact HO.out)); (case aS => exact (below_size (by repeat (first | (with_reducible first | exact HB.out | apply below_alloc | apply pw_below_drewN | apply below_drew1) | exact HB.out)))); (case aL => have := HLY.out; first | omega | (simp; omega)); intro v1 w5 ho hb hg hat; have HB_ := Aside0.mk hb; clear HB HO; have HO := Aside0.mk ho; have HB := HB_; clear HB_ ho hb hg hat))
       go_roundg k6
       case rel => exact ⟨1 + 1, by decide, by first | rfl | simp, ⟨by have := HK6.out; omega⟩, ⟨by rw [← HAQ.out]; exact HO.out⟩, HB⟩
       case measure => have := HK6.out; omega
      ·have hap : (zs ++ (by4 e0).take 2) ++ [((e0 : Int) / 256 % 256)] = zs ++ (by4 e0).take (2 + 1) := by
        rw [List.append_assoc]
        refine congrArg (fun l_ => zs ++ l_) ?_
        have e_ : ((e0 : Int) / 256 % 256) = ((e0 / 256 % 256 : Nat) : Int) := by omega
        rw [e_]
        rfl
       have hyl : (zs ++ (by4 e0).take 2).length < 110 := by have := HZL.out; rw [List.length_append]; simp [by4]; omega
       have HAQ := Aside0.mk hap
       have HLY := Aside0.mk hyl
       clear hap hyl
       generalize zs ++ (by4 e0).take 2 = ys at HO HAQ HLY
       obtain ⟨Ao, co, eo⟩ := Kd.R_slice HO.out
       subst eo
       go_wp2_with (first | ((with_reducible refine gate_builtin (b := .append) (xs := #[.tmp 35, .tmp 42]) rfl ?_); at_builtin; refine Kd.R_append (Kd.int .u8) (w0 := w) w.heap.size rfl (.tmp 35) (.tmp 42) 25 5 (.int .u8 0) 1 rfl Try.underlying25 inf5 rfl (by decide) (by omega) (.slice Ao ys.length co) ys ((e0 : Int) / 256 % 256) [.int .u8 ((e0 : Int) / 256 % 256)] (fun _ => True) (fun _ => False) rfl rfl ?aP (fun _ hk => hk.elim) ?aF ?aO ?aB ?aS ?aL ?_; (case aP => exact rfl); (case aB => exact (by repeat (first | (with_reducible first | exact HB.out | apply below_alloc | apply pw_below_drewN | apply below_drew1) | exact HB.out))); (case aF => exact (fun _ _ => trivial)); (case aO => exact (by (with_reducible repeat (first | apply Kd.R_alloc | apply Kd.R_drewN | apply Kd.R_drew)); exact HO.out)); (case aS => exact (below_size (by repeat (first | (with_reducible first | exact HB.out | apply below_alloc | apply pw_below_drewN | apply below_drew1) | exact HB.out)))); (case aL => have := HLY.out; first | omega | (simp; omega)); intro v1 w5 ho hb hg hat; have HB_ := Aside0.mk hb; clear HB HO; have HO := Aside0.mk ho; have HB := HB_; clear HB_ ho hb hg hat))
       go_roundg k6
       case rel => exact ⟨2 + 1, by decide, by first | rfl | simp, ⟨by have := HK6.out; omega⟩, ⟨by rw [← HAQ.out]; exact HO.out⟩, HB⟩
       case measure => have := HK6.out; omega
      ·have hap : (zs ++ (by4 e0).take 3) ++ [((e0 : Int) % 256)] = zs ++ (by4 e0).take (3 + 1) := by
        rw [List.append_assoc]
        refine congrArg (fun l_ => zs ++ l_) ?_
        have e_ : ((e0 : Int) % 256) = ((e0 % 256 : Nat) : Int) := by omega
        rw [e_]
        rfl
       have hyl : (zs ++ (by4 e0).take 3).length < 110 := by have := HZL.out; rw [List.length_append]; simp [by4]; omega
       have HAQ := Aside0.mk hap
       have HLY := Aside0.mk hyl
       clear hap hyl
       generalize zs ++ (by4 e0).take 3 = ys at HO HAQ HLY
       obtain ⟨Ao, co, eo⟩ := Kd.R_slice HO.out
       subst eo
       go_wp2_with (first | ((with_reducible refine gate_builtin (b := .append) (xs := #[.tmp 35, .tmp 42]) rfl ?_); at_builtin; refine Kd.R_append (Kd.int .u8) (w0 := w) w.heap.size rfl (.tmp 35) (.tmp 42) 25 5 (.int .u8 0) 1 rfl Try.underlying25 inf5 rfl (by decide) (by omega) (.slice Ao ys.length co) ys ((e0 : Int) % 256) [.int .u8 ((e0 : Int) % 256)] (fun _ => True) (fun _ => False) rfl rfl ?aP (fun _ hk => hk.elim) ?aF ?aO ?aB ?aS ?aL ?_; (case aP => exact rfl); (case aB => exact (by repeat (first | (with_reducible first | exact HB.out | apply below_alloc | apply pw_below_drewN | apply below_drew1) | exact HB.out))); (case aF => exact (fun _ _ => trivial)); (case aO => exact (by (with_reducible repeat (first | apply Kd.R_alloc | apply Kd.R_drewN | apply Kd.R_drew)); exact HO.out)); (case aS => exact (below_size (by repeat (first | (with_reducible first | exact HB.out | apply below_alloc | apply pw_below_drewN | apply below_drew1) | exact HB.out)))); (case aL => have := HLY.out; first | omega | (simp; omega)); intro v1 w5 ho hb hg hat; have HB_ := Aside0.mk hb; clear HB HO; have HO := Aside0.mk ho; have HB := HB_; clear HB_ ho hb hg hat))
       go_roundg k6
       case rel => exact ⟨3 + 1, by decide, by first | rfl | simp, ⟨by have := HK6.out; omega⟩, ⟨by rw [← HAQ.out]; exact HO.out⟩, HB⟩
       case measure => have := HK6.out; omega
      ·go_wp2
       go_roundg k5
       case rel => exact ⟨0 + 1, by decide, by first | rfl | simp, ⟨by have := HK5.out; omega⟩, ⟨by rw [HAP.out]; exact HO.out⟩, HB⟩
       case measure => have := HK5.out; omega
    ·have hix : ∀ W : World, Sem.run Try.prog (Instr.index 77 (.agg #[.int .u32 e0, .int .u32 e1, .int .u32 e2, .int .u32 e3, .int .u32 e4, .int .u32 e5, .int .u32 e6, .int .u32 e7]) (.int .i64 1)) W = .ok (.int .u32 e1) W := fun W => by kernel_rfl
     have hap : outB ([e0, e1, e2, e3, e4, e5, e6, e7].take (1 + 1)) = outB ([e0, e1, e2, e3, e4, e5, e6, e7].take 1) ++ by4 e1 := by
      rw [show [e0, e1, e2, e3, e4, e5, e6, e7].take (1 + 1) = [e0, e1, e2, e3, e4, e5, e6, e7].take 1 ++ [e1] from rfl, outB_s]; rfl
     have hyl : (outB ([e0, e1, e2, e3, e4, e5, e6, e7].take 1)).length < 100 := by rw [outB_len]; simp
     have HAP := Aside0.mk hap
     clear hap
     generalize outB ([e0, e1, e2, e3, e4, e5, e6, e7].take 1) = zs at HO HAP hyl
     have HZL := Aside0.mk hyl
     clear hyl
     go_wp2
     go_loopg [6, 9] 5 (fun kq v6 v9 wr => ∃ i : Nat, i ≤ 4 ∧ v9 = .int .i64 (3 - (i : Int)) ∧ Aside0 (kq + i = 5) ∧ Aside0 (Kd.R (Kd.int .u8) 5 wr w.heap.size (fun _ => True) v6 (zs ++ (by4 e1).take i)) ∧ Aside0 (Below w.heap.size w wr))
     case atStart => exact ⟨0, by omega, rfl, ⟨rfl⟩, ⟨by have := HO.out; simpa using this⟩, HB⟩
     case round =>
      clear HB HO
      obtain ⟨i, hi, rfl, HK6, HO, HB⟩ := hrel
      obtain ⟨k6, rfl⟩ : ∃ k6, gk = k6 + 1 := ⟨gk - 1, by have := HK6.out; omega⟩
      rcases (show i = 0 ∨ i = 1 ∨ i = 2 ∨ i = 3 ∨ i = 4 by omega) with rfl | rfl | rfl | rfl | rfl
      ·have hap : (zs ++ (by4 e1).take 0) ++ [((e1 : Int) / 16777216)] = zs ++ (by4 e1).take (0 + 1) := by
        rw [List.append_assoc]
        refine congrArg (fun l_ => zs ++ l_) ?_
        have e_ : ((e1 : Int) / 16777216) = ((e1 / 16777216 % 256 : Nat) : Int) := by omega
        rw [e_]
        rfl
       have hyl : (zs ++ (by4 e1).take 0).length < 110 := by have := HZL.out; rw [List.length_append]; simp [by4]; omega
       have HAQ := Aside0.mk hap
       have HLY := Aside0.mk hyl
       clear hap hyl
       generalize zs ++ (by4 e1).take 0 = ys at HO HAQ HLY
       obtain ⟨Ao, co, eo⟩ := Kd.R_slice HO.out
       subst eo
       go_wp2_with (first | ((with_reducible refine gate_builtin (b := .append) (xs := #[.tmp 35, .tmp 42]) rfl ?_); at_builtin; refine Kd.R_append (Kd.int .u8) (w0 := w) w.heap.size rfl (.tmp 35) (.tmp 42) 25 5 (.int .u8 0) 1 rfl Try.underlying25 inf5 rfl (by decide) (by omega) (.slice Ao ys.length co) ys ((e1 : Int) / 16777216) [.int .u8 ((e1 : Int) / 16777216)] (fun _ => True) (fun _ => False) rfl rfl ?aP (fun _ hk => hk.elim) ?aF ?aO ?aB ?aS ?aL ?_; (case aP => exact rfl); (case aB => exact (by repeat (first | (with_reducible first | exact HB.out | apply below_alloc | apply pw_below_drewN | apply below_drew1) | exact HB.out))); (case aF => exact (fun _ _ => trivial)); (case aO => exact (by (with_reducible repeat (first | apply Kd.R_alloc | apply Kd.R_drewN | apply Kd.R_drew)); exact HO.out)); (case aS => exact (below_size (by repeat (first | (with_reducible first | exact HB.out | apply below_alloc | apply pw_below_drewN | apply below_drew1) | exact HB.out)))); (case aL => have := HLY.out; first | omega | (simp; omega)); intro v1 w5 ho hb hg hat; have HB_ := Aside0.mk hb; clear HB HO; have HO := Aside0.mk ho; have HB := HB_; clear HB_ ho hb hg hat))
       go_roundg k6
       case rel => exact ⟨0 + 1, by decide, by first | rfl | simp, ⟨by have := HK6.out; omega⟩, ⟨by rw [← HAQ.out]; exact HO.out⟩, HB⟩
       case measure => have := HK6.out; omega
      ·have hap : (zs ++ (by4 e1).take 1) ++ [((e1 : Int) / 65536 % 256)] = zs ++ (by4 e1).take (1 + 1) := by
        rw [List.append_assoc]
        refine congrArg (fun l_ => zs ++ l_) ?_
        have e_ : ((e1 : Int) / 65536 % 256) = ((e1 / 65536 % 256 : Nat) : Int) := by omega
        rw [e_]
        rfl
       have hyl : (zs ++ (by4 e1).take 1).length < 110 := by have := HZL.out; rw [List.length_append]; simp [by4]; omega
       have HAQ := Aside0.mk hap
       have HLY := Aside0.mk hyl
       clear hap hyl
       generalize zs ++ (by4 e1).take 1 = ys at HO HAQ HLY
       obtain ⟨Ao, co, eo⟩ := Kd.R_slice HO.out
       subst eo
       go_wp2_with (first | ((with_reducible refine gate_builtin (b := .append) (xs := #[.tmp 35, .tmp 42]) rfl ?_); at_builtin; refine Kd.R_append (Kd.int .u8) (w0 := w) w.heap.size rfl (.tmp 35) (.tmp 42) 25 5 (.int .u8 0) 1 rfl Try.underlying25 inf5 rfl (by decide) (by omega) (.slice Ao ys.length co) ys ((e1 : Int) / 65536 % 256) [.int .u8 ((e1 : Int) / 65536 % 256)] (fun _ => True) (fun _ => False) rfl rfl ?aP (fun _ hk => hk.elim) ?aF ?aO ?aB ?aS ?aL ?_; (case aP => exact rfl); (case aB => exact (by repeat (first | (with_reducible first | exact HB.out | apply below_alloc | apply pw_below_drewN | apply below_drew1) | exact HB.out))); (case aF => exact (fun _ _ => trivial)); (case aO => exact (by (with_reducible repeat (first | apply Kd.R_alloc | apply Kd.R_drewN | apply Kd.R_drew)); exact HO.out)); (case aS => exact (below_size (by repeat (first | (with_reducible first | exact HB.out | apply below_alloc | apply pw_below_drewN | apply below_drew1) | exact HB.out)))); (case aL => have := HLY.out; first | omega | (simp; omega)); intro v1 w5 ho hb hg hat; have HB_ := Aside0.mk hb; clear HB HO; have HO := Aside0.mk ho; have HB := HB_; clear HB_ ho hb hg hat))
       go_roundg k6
       case rel => exact ⟨1 + 1, by decide, by first | rfl | simp, ⟨by have := HK6.out; omega⟩, ⟨by rw [← HAQ.out]; exact HO.out⟩, HB⟩
       case measure => have := HK6.out; omega
      ·have hap : (zs ++ (by4 e1).take 2) ++ [((e1 : Int) / 256 % 256)] = zs ++ (by4 e1).take (2 + 1) := by
        rw [List.append_assoc]
        refine congrArg (fun l_ => zs ++ l_) ?_
        have e_ : ((e1 : Int) / 256 % 256) = ((e1 / 256 % 256 : Nat) : Int) := by omega
        rw [e_]
        rfl
       have hyl : (zs ++ (by4 e1).take 2).length < 110 := by have := HZL.out; rw [List.length_append]; simp [by4]; omega
       have HAQ := Aside0.mk hap
       have HLY := Aside0.mk hyl
       clear hap hyl
       generalize zs ++ (by4 e1).take 2 = ys at HO HAQ HLY
       obtain ⟨Ao, co, eo⟩ := Kd.R_slice HO.out
       subst eo
       go_wp2_with (first | ((with_reducible refine gate_builtin (b := .append) (xs := #[.tmp 35, .tmp 42]) rfl ?_); at_builtin; refine Kd.R_append (Kd.int .u8) (w0 := w) w.heap.size rfl (.tmp 35) (.tmp 42) 25 5 (.int .u8 0) 1 rfl Try.underlying25 inf5 rfl (by decide) (by omega) (.slice Ao ys.length co) ys ((e1 : Int) / 256 % 256) [.int .u8 ((e1 : Int) / 256 % 256)] (fun _ => True) (fun _ => False) rfl rfl ?aP (fun _ hk => hk.elim) ?aF ?aO ?aB ?aS ?aL ?_; (case aP => exact rfl); (case aB => exact (by repeat (first | (with_reducible first | exact HB.out | apply below_alloc | apply pw_below_drewN | apply below_drew1) | exact HB.out))); (case aF => exact (fun _ _ => trivial)); (case aO => exact (by (with_reducible repeat (first | apply Kd.R_alloc | apply Kd.R_drewN | apply Kd.R_drew)); exact HO.out)); (case aS => exact (below_size (by repeat (first | (with_reducible first | exact HB.out | apply below_alloc | apply pw_below_drewN | apply below_drew1) | exact HB.out)))); (case aL => have := HLY.out; first | omega | (simp; omega)); intro v1 w5 ho hb hg hat; have HB_ := Aside0.mk hb; clear HB HO; have HO := Aside0.mk ho; have HB := HB_; clear HB_ ho hb hg hat))
       go_roundg k6
       case rel => exact ⟨2 + 1, by decide, by first | rfl | simp, ⟨by have := HK6.out; omega⟩, ⟨by rw [← HAQ.out]; exact HO.out⟩, HB⟩
       case measure => have := HK6.out; omega
      ·have hap : (zs ++ (by4 e1).take 3) ++ [((e1 : Int) % 256)] = zs ++ (by4 e1).take (3 + 1) := by
        rw [List.append_assoc]
        refine congrArg (fun l_ => zs ++ l_) ?_
        have e_ : ((e1 : Int) % 256) = ((e1 % 256 : Nat) : Int) := by omega
        rw [e_]
        rfl
       have hyl : (zs ++ (by4 e1).take 3).length < 110 := by have := HZL.out; rw [List.length_append]; simp [by4]; omega
       have HAQ := Aside0.mk hap
       have HLY := Aside0.mk hyl
       clear hap hyl
       generalize zs ++ (by4 e1).take 3 = ys at HO HAQ HLY
       obtain ⟨Ao, co, eo⟩ := Kd.R_slice HO.out
       subst eo
       go_wp2_with (first | ((with_reducible refine gate_builtin (b := .append) (xs := #[.tmp 35, .tmp 42]) rfl ?_); at_builtin; refine Kd.R_append (Kd.int .u8) (w0 := w) w.heap.size rfl (.tmp 35) (.tmp 42) 25 5 (.int .u8 0) 1 rfl Try.underlying25 inf5 rfl (by decide) (by omega) (.slice Ao ys.length co) ys ((e1 : Int) % 256) [.int .u8 ((e1 : Int) % 256)] (fun _ => True) (fun _ => False) rfl rfl ?aP (fun _ hk => hk.elim) ?aF ?aO ?aB ?aS ?aL ?_; (case aP => exact rfl); (case aB => exact (by repeat (first | (with_reducible first | exact HB.out | apply below_alloc | apply pw_below_drewN | apply below_drew1) | exact HB.out))); (case aF => exact (fun _ _ => trivial)); (case aO => exact (by (with_reducible repeat (first | apply Kd.R_alloc | apply Kd.R_drewN | apply Kd.R_drew)); exact HO.out)); (case aS => exact (below_size (by repeat (first | (with_reducible first | exact HB.out | apply below_alloc | apply pw_below_drewN | apply below_drew1) | exact HB.out)))); (case aL => have := HLY.out; first | omega | (simp; omega)); intro v1 w5 ho hb hg hat; have HB_ := Aside0.mk hb; clear HB HO; have HO := Aside0.mk ho; have HB := HB_; clear HB_ ho hb hg hat))
       go_roundg k6
       case rel => exact ⟨3 + 1, by decide, by first | rfl | simp, ⟨by have := HK6.out; omega⟩, ⟨by rw [← HAQ.out]; exact HO.out⟩, HB⟩
       case measure => have := HK6.out; omega
      ·go_wp2
       go_roundg k5
       case rel => exact ⟨1 + 1, by decide, by first | rfl | simp, ⟨by have := HK5.out; omega⟩, ⟨by rw [HAP.out]; exact HO.out⟩, HB⟩
       case measure => have := HK5.out; omega
    ·have hix : ∀ W : World, Sem.run Try.prog (Instr.index 77 (.agg #[.int .u32 e0, .int .u32 e1, .int .u32 e2, .int .u32 e3, .int .u32 e4, .int .u32 e5, .int .u32 e6, .int .u32 e7]) (.int .i64 2)) W = .ok (.int .u32 e2) W := fun W => by kernel_rfl
     have hap : outB ([e0, e1, e2, e3, e4, e5, e6, e7].take (2 + 1)) = outB ([e0, e1, e2, e3, e4, e5, e6, e7].take 2) ++ by4 e2 := by
      rw [show [e0, e1, e2, e3, e4, e5, e6, e7].take (2 + 1) = [e0, e1, e2, e3, e4, e5, e6, e7].take 2 ++ [e2] from rfl, outB_s]; rfl
     have hyl : (outB ([e0, e1, e2, e3, e4, e5, e6, e7].take 2)).length < 100 := by rw [outB_len]; simp
     have HAP := Aside0.mk hap
     clear hap
     generalize outB ([e0, e1, e2, e3, e4, e5, e6, e7].take 2) = zs at HO HAP hyl
     have HZL := Aside0.mk hyl
     clear hyl
     go_wp2
     go_loopg [6, 9] 5 (fun kq v6 v9 wr => ∃ i : Nat, i ≤ 4 ∧ v9 = .int .i64 (3 - (i : Int)) ∧ Aside0 (kq + i = 5) ∧ Aside0 (Kd.R (Kd.int .u8) 5 wr w.heap.size (fun _ => True) v6 (zs ++ (by4 e2).take i)) ∧ Aside0 (Below w.heap.size w wr))
     case atStart => exact ⟨0, by omega, rfl, ⟨rfl⟩, ⟨by have := HO.out; simpa using this⟩, HB⟩
     case round =>
      clear HB HO
      obtain ⟨i, hi, rfl, HK6, HO, HB⟩ := hrel
      obtain ⟨k6, rfl⟩ : ∃ k6, gk = k6 + 1 := ⟨gk - 1, by have := HK6.out; omega⟩
      rcases (show i = 0 ∨ i = 1 ∨ i = 2 ∨ i = 3 ∨ i = 4 by omega) with rfl | rfl | rfl | rfl | rfl
      ·have hap : (zs ++ (by4 e2).take 0) ++ [((e2 : Int) / 16777216)] = zs ++ (by4 e2).take (0 + 1) := by
        rw [List.append_assoc]
        refine congrArg (fun l_ => zs ++ l_) ?_
        have e_ : ((e2 : Int) / 16777216) = ((e2 / 16777216 % 256 : Nat) : Int) := by omega
        rw [e_]
        rfl
       have hyl : (zs ++ (by4 e2).take 0).length < 110 := by have := HZL.out; rw [List.length_append]; simp [by4]; omega
       have HAQ := Aside0.mk hap
       have HLY := Aside0.mk hyl
       clear hap hyl
       generalize zs ++ (by4 e2).take 0 = ys at HO HAQ HLY
       obtain ⟨Ao, co, eo⟩ := Kd.R_slice HO.out
       subst eo
       go_wp2_with (first | ((with_reducible refine gate_builtin (b := .append) (xs := #[.tmp 35, .tmp 42]) rfl ?_); at_builtin; refine Kd.R_append (Kd.int .u8) (w0 := w) w.heap.size rfl (.tmp 35) (.tmp 42) 25 5 (.int .u8 0) 1 rfl Try.underlying25 inf5 rfl (by decide) (by omega) (.slice Ao ys.length co) ys ((e2 : Int) / 16777216) [.int .u8 ((e2 : Int) / 16777216)] (fun _ => True) (fun _ => False) rfl rfl ?aP (fun _ hk => hk.elim) ?aF ?aO ?aB ?aS ?aL ?_; (case aP => exact rfl); (case aB => exact (by repeat (first | (with_reducible first | exact HB.out | apply below_alloc | apply pw_below_drewN | apply below_drew1) | exact HB.out))); (case aF => exact (fun _ _ => trivial)); (case aO => exact (by (with_reducible repeat (first | apply Kd.R_alloc | apply Kd.R_drewN | apply Kd.R_drew)); exact HO.out)); (case aS => exact (below_size (by repeat (first | (with_reducible first | exact HB.out | apply below_alloc | apply pw_below_drewN | apply below_drew1) | exact HB.out)))); (case aL => have := HLY.out; first | omega | (simp; omega)); intro v1 w5 ho hb hg hat; have HB_ := Aside0.mk hb; clear HB HO; have HO := Aside0.mk ho; have HB := HB_; clear HB_ ho hb hg hat))
       go_roundg k6
       case rel => exact ⟨0 + 1, by decide, by first | rfl | simp, ⟨by have := HK6.out; omega⟩, ⟨by rw [← HAQ.out]; exact HO.out⟩, HB⟩
       case measure => have := HK6.out; omega
      ·have hap : (zs ++ (by4 e2).take 1) ++ [((e2 : Int) / 65536 % 256)] = zs ++ (by4 e2).take (1 + 1) := by
        rw [List.append_assoc]
        refine congrArg (fun l_ => zs ++ l_) ?_
        have e_ : ((e2 : Int) / 65536 % 256) = ((e2 / 65536 % 256 : Nat) : Int) := by omega
        rw [e_]
        rfl
       have hyl : (zs ++ (by4 e2).take 1).length < 110 := by have := HZL.out; rw [List.length_append]; simp [by4]; omega
       have HAQ := Aside0.mk hap
       have HLY := Aside0.mk hyl
       clear hap hyl
       generalize zs ++ (by4 e2).take 1 = ys at HO HAQ HLY
       obtain ⟨Ao, co, eo⟩ := Kd.R_slice HO.out
       subst eo
       go_wp2_with (first | ((with_reducible refine gate_builtin (b := .append) (xs := #[.tmp 35, .tmp 42]) rfl ?_); at_builtin; refine Kd.R_append (Kd.int .u8) (w0 := w) w.heap.size rfl (.tmp 35) (.tmp 42) 25 5 (.int .u8 0) 1 rfl Try.underlying25 inf5 rfl (by decide) (by omega) (.slice Ao ys.length co) ys ((e2 : Int) / 65536 % 256) [.int .u8 ((e2 : Int) / 65536 % 256)] (fun _ => True) (fun _ => False) rfl rfl ?aP (fun _ hk => hk.elim) ?aF ?aO ?aB ?aS ?aL ?_; (case aP => exact rfl); (case aB => exact (by repeat (first | (with_reducible first | exact HB.out | apply below_alloc | apply pw_below_drewN | apply below_drew1) | exact HB.out))); (case aF => exact (fun _ _ => trivial)); (case aO => exact (by (with_reducible repeat (first | apply Kd.R_alloc | apply Kd.R_drewN | apply Kd.R_drew)); exact HO.out)); (case aS => exact (below_size (by repeat (first | (with_reducible first | exact HB.out | apply below_alloc | apply pw_below_drewN | apply below_drew1) | exact HB.out)))); (case aL => have := HLY.out; first | omega | (simp; omega)); intro v1 w5 ho hb hg hat; have HB_ := Aside0.mk hb; clear HB HO; have HO := Aside0.mk ho; have HB := HB_; clear HB_ ho hb hg hat))
       go_roundg k6
       case rel => exact ⟨1 + 1, by decide, by first | rfl | simp, ⟨by have := HK6.out; omega⟩, ⟨by rw [← HAQ.out]; exact HO.out⟩, HB⟩
       case measure => have := HK6.out; omega
      ·have hap : (zs ++ (by4 e2).take 2) ++ [((e2 : Int) / 256 % 256)] = zs ++ (by4 e2).take (2 + 1) := by
        rw [List.append_assoc]
        refine congrArg (fun l_ => zs ++ l_) ?_
        have e_ : ((e2 : Int) / 256 % 256) = ((e2 / 256 % 256 : Nat) : Int) := by omega
        rw [e_]
        rfl
       have hyl : (zs ++ (by4 e2).take 2).length < 110 := by have := HZL.out; rw [List.length_append]; simp [by4]; omega
       have HAQ := Aside0.mk hap
       have HLY := Aside0.mk hyl
       clear hap hyl
       generalize zs ++ (by4 e2).take 2 = ys at HO HAQ HLY
       obtain ⟨Ao, co, eo⟩ := Kd.R_slice HO.out
       subst eo
       go_wp2_with (first | ((with_reducible refine gate_builtin (b := .append) (xs := #[.tmp 35, .tmp 42]) rfl ?_); at_builtin; refine Kd.R_append (Kd.int .u8) (w0 := w) w.heap.size rfl (.tmp 35) (.tmp 42) 25 5 (.int .u8 0) 1 rfl Try.underlying25 inf5 rfl (by decide) (by omega) (.slice Ao ys.length co) ys ((e2 : Int) / 256 % 256) [.int .u8 ((e2 : Int) / 256 % 256)] (fun _ => True) (fun _ => False) rfl rfl ?aP (fun _ hk => hk.elim) ?aF ?aO ?aB ?aS ?aL ?_; (case aP => exact rfl); (case aB => exact (by repeat (first | (with_reducible first | exact HB.out | apply below_alloc | apply pw_below_drewN | apply below_drew1) | exact HB.out))); (case aF => exact (fun _ _ => trivial)); (case aO => exact (by (with_reducible repeat (first | apply Kd.R_alloc | apply Kd.R_drewN | apply Kd.R_drew)); exact HO.out)); (case aS => exact (below_size (by repeat (first | (with_reducible first | exact HB.out | apply below_alloc | apply pw_below_drewN | apply below_drew1) | exact HB.out)))); (case aL => have := HLY.out; first | omega | (simp; omega)); intro v1 w5 ho hb hg hat; have HB_ := Aside0.mk hb; clear HB HO; have HO := Aside0.mk ho; have HB := HB_; clear HB_ ho hb hg hat))
       go_roundg k6
       case rel => exact ⟨2 + 1, by decide, by first | rfl | simp, ⟨by have := HK6.out; omega⟩, ⟨by rw [← HAQ.out]; exact HO.out⟩, HB⟩
       case measure => have := HK6.out; omega
      ·have hap : (zs ++ (by4 e2).take 3) ++ [((e2 : Int) % 256)] = zs ++ (by4 e2).take (3 + 1) := by
        rw [List.append_assoc]
        refine congrArg (fun l_ => zs ++ l_) ?_
        have e_ : ((e2 : Int) % 256) = ((e2 % 256 : Nat) : Int) := by omega
        rw [e_]
        rfl
       have hyl : (zs ++ (by4 e2).take 3).length < 110 := by have := HZL.out; rw [List.length_append]; simp [by4]; omega
       have HAQ := Aside0.mk hap
       have HLY := Aside0.mk hyl
       clear hap hyl
       generalize zs ++ (by4 e2).take 3 = ys at HO HAQ HLY
       obtain ⟨Ao, co, eo⟩ := Kd.R_slice HO.out
       subst eo
       go_wp2_with (first | ((with_reducible refine gate_builtin (b := .append) (xs := #[.tmp 35, .tmp 42]) rfl ?_); at_builtin; refine Kd.R_append (Kd.int .u8) (w0 := w) w.heap.size rfl (.tmp 35) (.tmp 42) 25 5 (.int .u8 0) 1 rfl Try.underlying25 inf5 rfl (by decide) (by omega) (.slice Ao ys.length co) ys ((e2 : Int) % 256) [.int .u8 ((e2 : Int) % 256)] (fun _ => True) (fun _ => False) rfl rfl ?aP (fun _ hk => hk.elim) ?aF ?aO ?aB ?aS ?aL ?_; (case aP => exact rfl); (case aB => exact (by repeat (first | (with_reducible first | exact HB.out | apply below_alloc | apply pw_below_drewN | apply below_drew1) | exact HB.out))); (case aF => exact (fun _ _ => trivial)); (case aO => exact (by (with_reducible repeat (first | apply Kd.R_alloc | apply Kd.R_drewN | apply Kd.R_drew)); exact HO.out)); (case aS => exact (below_size (by repeat (first | (with_reducible first | exact HB.out | apply below_alloc | apply pw_below_drewN | apply below_drew1) | exact HB.out)))); (case aL => have := HLY.out; first | omega | (simp; omega)); intro v1 w5 ho hb hg hat; have HB_ := Aside0.mk hb; clear HB HO; have HO := Aside0.mk ho; have HB := HB_; clear HB_ ho hb hg hat))
       go_roundg k6
       case rel => exact ⟨3 + 1, by decide, by first | rfl | simp, ⟨by have := HK6.out; omega⟩, ⟨by rw [← HAQ.out]; exact HO.out⟩, HB⟩
       case measure => have := HK6.out; omega
      ·go_wp2
       go_roundg k5
       case rel => exact ⟨2 + 1, by decide, by first | rfl | simp, ⟨by have := HK5.out; omega⟩, ⟨by rw [HAP.out]; exact HO.out⟩, HB⟩
       case measure => have := HK5.out; omega
    ·have hix : ∀ W : World, Sem.run Try.prog (Instr.index 77 (.agg #[.int .u32 e0, .int .u32 e1, .int .u32 e2, .int .u32 e3, .int .u32 e4, .int .u32 e5, .int .u32 e6, .int .u32 e7]) (.int .i64 3)) W = .ok (.int .u32 e3) W := fun W => by kernel_rfl
     have hap : outB ([e0, e1, e2, e3, e4, e5, e6, e7].take (3 + 1)) = outB ([e0, e1, e2, e3, e4, e5, e6, e7].take 3) ++ by4 e3 := by
      rw [show [e0, e1, e2, e3, e4, e5, e6, e7].take (3 + 1) = [e0, e1, e2, e3, e4, e5, e6, e7].take 3 ++ [e3] from rfl, outB_s]; rfl
     have hyl : (outB ([e0, e1, e2, e3, e4, e5, e6, e7].take 3)).length < 100 := by rw [outB_len]; simp
     have HAP := Aside0.mk hap
     clear hap
     generalize outB ([e0, e1, e2, e3, e4, e5, e6, e7].take 3) = zs at HO HAP hyl
     have HZL := Aside0.mk hyl
     clear hyl
     go_wp2
     go_loopg [6, 9] 5 (fun kq v6 v9 wr => ∃ i : Nat, i ≤ 4 ∧ v9 = .int .i64 (3 - (i : Int)) ∧ Aside0 (kq + i = 5) ∧ Aside0 (Kd.R (Kd.int .u8) 5 wr w.heap.size (fun _ => True) v6 (zs ++ (by4 e3).take i)) ∧ Aside0 (Below w.heap.size w wr))
     case atStart => exact ⟨0, by omega, rfl, ⟨rfl⟩, ⟨by have := HO.out; simpa using this⟩, HB⟩
     case round =>
      clear HB HO
      obtain ⟨i, hi, rfl, HK6, HO, HB⟩ := hrel
      obtain ⟨k6, rfl⟩ : ∃ k6, gk = k6 + 1 := ⟨gk - 1, by have := HK6.out; omega⟩
      rcases (show i = 0 ∨ i = 1 ∨ i = 2 ∨ i = 3 ∨ i = 4 by omega) with rfl | rfl | rfl | rfl | rfl
      ·have hap : (zs ++ (by4 e3).take 0) ++ [((e3 : Int) / 16777216)] = zs ++ (by4 e3).take (0 + 1) := by
        rw [List.append_assoc]
        refine congrArg (fun l_ => zs ++ l_) ?_
        have e_ : ((e3 : Int) / 16777216) = ((e3 / 16777216 % 256 : Nat) : Int) := by omega
        rw [e_]
        rfl
       have hyl : (zs ++ (by4 e3).take 0).length < 110 := by have := HZL.out; rw [List.length_append]; simp [by4]; omega
       have HAQ := Aside0.mk hap
       have HLY := Aside0.mk hyl
       clear hap hyl
       generalize zs ++ (by4 e3).take 0 = ys at HO HAQ HLY
       obtain ⟨Ao, co, eo⟩ := Kd.R_slice HO.out
       subst eo
       go_wp2_with (first | ((with_reducible refine gate_builtin (b := .append) (xs := #[.tmp 35, .tmp 42]) rfl ?_); at_builtin; refine Kd.R_append (Kd.int .u8) (w0 := w) w.heap.size rfl (.tmp 35) (.tmp 42) 25 5 (.int .u8 0) 1 rfl Try.underlying25 inf5 rfl (by decide) (by omega) (.slice Ao ys.length co) ys ((e3 : Int) / 16777216) [.int .u8 ((e3 : Int) / 16777216)] (fun _ => True) (fun _ => False) rfl rfl ?aP (fun _ hk => hk.elim) ?aF ?aO ?aB ?aS ?aL ?_; (case aP => exact rfl); (case aB => exact (by repeat (first | (with_reducible first | exact HB.out | apply below_alloc | apply pw_below_drewN | apply below_drew1) | exact HB.out))); (case aF => exact (fun _ _ => trivial)); (case aO => exact (by (with_reducible repeat (first | apply Kd.R_alloc | apply Kd.R_drewN | apply Kd.R_drew)); exact HO.out)); (case aS => exact (below_size (by repeat (first | (with_reducible first | exact HB.out | apply below_alloc | apply pw_below_drewN | apply below_drew1) | exact HB.out)))); (case aL => have := HLY.out; first | omega | (simp; omega)); intro v1 w5 ho hb hg hat; have HB_ := Aside0.mk hb; clear HB HO; have HO := Aside0.mk ho; have HB := HB_; clear HB_ ho hb hg hat))
       go_roundg k6
       case rel => exact ⟨0 + 1, by decide, by first | rfl | simp, ⟨by have := HK6.out; omega⟩, ⟨by rw [← HAQ.out]; exact HO.out⟩, HB⟩
       case measure => have := HK6.out; omega
      ·have hap : (zs ++ (by4 e3).take 1) ++ [((e3 : Int) / 65536 % 256)] = zs ++ (by4 e3).take (1 + 1) := by
        rw [List.append_assoc]
        refine congrArg (fun l_ => zs ++ l_) ?_
        have e_ : ((e3 : Int) / 65536 % 256) = ((e3 / 65536 % 256 : Nat) : Int) := by omega
        rw [e_]
        rfl
       have hyl : (zs ++ (by4 e3).take 1).length < 110 := by have := HZL.out; rw [List.length_append]; simp [by4]; omega
       have HAQ := Aside0.mk hap
       have HLY := Aside0.mk hyl
       clear hap hyl
       generalize zs ++ (by4 e3).take 1 = ys at HO HAQ HLY
       obtain ⟨Ao, co, eo⟩ := Kd.R_slice HO.out
       subst eo
       go_wp2_with (first | ((with_reducible refine gate_builtin (b := .append) (xs := #[.tmp 35, .tmp 42]) rfl ?_); at_builtin; refine Kd.R_append (Kd.int .u8) (w0 := w) w.heap.size rfl (.tmp 35) (.tmp 42) 25 5 (.int .u8 0) 1 rfl Try.underlying25 inf5 rfl (by decide) (by omega) (.slice Ao ys.length co) ys ((e3 : Int) / 65536 % 256) [.int .u8 ((e3 : Int) / 65536 % 256)] (fun _ => True) (fun _ => False) rfl rfl ?aP (fun _ hk => hk.elim) ?aF ?aO ?aB ?aS ?aL ?_; (case aP => exact rfl); (case aB => exact (by repeat (first | (with_reducible first | exact HB.out | apply below_alloc | apply pw_below_drewN | apply below_drew1) | exact HB.out))); (case aF => exact (fun _ _ => trivial)); (case aO => exact (by (with_reducible repeat (first | apply Kd.R_alloc | apply Kd.R_drewN | apply Kd.R_drew)); exact HO.out)); (case aS => exact (below_size (by repeat (first | (with_reducible first | exact HB.out | apply below_alloc | apply pw_below_drewN | apply below_drew1) | exact HB.out)))); (case aL => have := HLY.out; first | omega | (simp; omega)); intro v1 w5 ho hb hg hat; have HB_ := Aside0.mk hb; clear HB HO; have HO := Aside0.mk ho; have HB := HB_; clear HB_ ho hb hg hat))
       go_roundg k6
       case rel => exact ⟨1 + 1, by decide, by first | rfl | simp, ⟨by have := HK6.out; omega⟩, ⟨by rw [← HAQ.out]; exact HO.out⟩, HB⟩
       case measure => have := HK6.out; omega
      ·have hap : (zs ++ (by4 e3).take 2) ++ [((e3 : Int) / 256 % 256)] = zs ++ (by4 e3).take (2 + 1) := by
        rw [List.append_assoc]
        refine congrArg (fun l_ => zs ++ l_) ?_
        have e_ : ((e3 : Int) / 256 % 256) = ((e3 / 256 % 256 : Nat) : Int) := by omega
        rw [e_]
        rfl
       have hyl : (zs ++ (by4 e3).take 2).length < 110 := by have := HZL.out; rw [List.length_append]; simp [by4]; omega
       have HAQ := Aside0.mk hap
       have HLY := Aside0.mk hyl
       clear hap hyl
       generalize zs ++ (by4 e3).take 2 = ys at HO HAQ HLY
       obtain ⟨Ao, co, eo⟩ := Kd.R_slice HO.out
       subst eo
       go_wp2_with (first | ((with_reducible refine gate_builtin (b := .append) (xs := #[.tmp 35, .tmp 42]) rfl ?_); at_builtin; refine Kd.R_append (Kd.int .u8) (w0 := w) w.heap.size rfl (.tmp 35) (.tmp 42) 25 5 (.int .u8 0) 1 rfl Try.underlying25 inf5 rfl (by decide) (by omega) (.slice Ao ys.length co) ys ((e3 : Int) / 256 % 256) [.int .u8 ((e3 : Int) / 256 % 256)] (fun _ => True) (fun _ => False) rfl rfl ?aP (fun _ hk => hk.elim) ?aF ?aO ?aB ?aS ?aL ?_; (case aP => exact rfl); (case aB => exact (by repeat (first | (with_reducible first | exact HB.out | apply below_alloc | apply pw_below_drewN | apply below_drew1) | exact HB.out))); (case aF => exact (fun _ _ => trivial)); (case aO => exact (by (with_reducible repeat (first | apply Kd.R_alloc | apply Kd.R_drewN | apply Kd.R_drew)); exact HO.out)); (case aS => exact (below_size (by repeat (first | (with_reducible first | exact HB.out | apply below_alloc | apply pw_below_drewN | apply below_drew1) | exact HB.out)))); (case aL => have := HLY.out; first | omega | (simp; omega)); intro v1 w5 ho hb hg hat; have HB_ := Aside0.mk hb; clear HB HO; have HO := Aside0.mk ho; have HB := HB_; clear HB_ ho hb hg hat))
       go_roundg k6
       case rel => exact ⟨2 + 1, by decide, by first | rfl | simp, ⟨by have := HK6.out; omega⟩, ⟨by rw [← HAQ.out]; exact HO.out⟩, HB⟩
       case measure => have := HK6.out; omega
      ·have hap : (zs ++ (by4 e3).take 3) ++ [((e3 : Int) % 256)] = zs ++ (by4 e3).take (3 + 1) := by
        rw [List.append_assoc]
        refine congrArg (fun l_ => zs ++ l_) ?_
        have e_ : ((e3 : Int) % 256) = ((e3 % 256 : Nat) : Int) := by omega
        rw [e_]
        rfl
       have hyl : (zs ++ (by4 e3).take 3).length < 110 := by have := HZL.out; rw [List.length_append]; simp [by4]; omega
       have HAQ := Aside0.mk hap
       have HLY := Aside0.mk hyl
       clear hap hyl
       generalize zs ++ (by4 e3).take 3 = ys at HO HAQ HLY
       obtain ⟨Ao, co, eo⟩ := Kd.R_slice HO.out
       subst eo
       go_wp2_with (first | ((with_reducible refine gate_builtin (b := .append) (xs := #[.tmp 35, .tmp 42]) rfl ?_); at_builtin; refine Kd.R_append (Kd.int .u8) (w0 := w) w.heap.size rfl (.tmp 35) (.tmp 42) 25 5 (.int .u8 0) 1 rfl Try.underlying25 inf5 rfl (by decide) (by omega) (.slice Ao ys.length co) ys ((e3 : Int) % 256) [.int .u8 ((e3 : Int) % 256)] (fun _ => True) (fun _ => False) rfl rfl ?aP (fun _ hk => hk.elim) ?aF ?aO ?aB ?aS ?aL ?_; (case aP => exact rfl); (case aB => exact (by repeat (first | (with_reducible first | exact HB.out | apply below_alloc | apply pw_below_drewN | apply below_drew1) | exact HB.out))); (case aF => exact (fun _ _ => trivial)); (case aO => exact (by (with_reducible repeat (first | apply Kd.R_alloc | apply Kd.R_drewN | apply Kd.R_drew)); exact HO.out)); (case aS => exact (below_size (by repeat (first | (with_reducible first | exact HB.out | apply below_alloc | apply pw_below_drewN | apply below_drew1) | exact HB.out)))); (case aL => have := HLY.out; first | omega | (simp; omega)); intro v1 w5 ho hb hg hat; have HB_ := Aside0.mk hb; clear HB HO; have HO := Aside0.mk ho; have HB := HB_; clear HB_ ho hb hg hat))
       go_roundg k6
       case rel => exact ⟨3 + 1, by decide, by first | rfl | simp, ⟨by have := HK6.out; omega⟩, ⟨by rw [← HAQ.out]; exact HO.out⟩, HB⟩
       case measure => have := HK6.out; omega
      ·go_wp2
       go_roundg k5
       case rel => exact ⟨3 + 1, by decide, by first | rfl | simp, ⟨by have := HK5.out; omega⟩, ⟨by rw [HAP.out]; exact HO.out⟩, HB⟩
       case measure => have := HK5.out; omega
    ·have hix : ∀ W : World, Sem.run Try.prog (Instr.index 77 (.agg #[.int .u32 e0, .int .u32 e1, .int .u32 e2, .int .u32 e3, .int .u32 e4, .int .u32 e5, .int .u32 e6, .int .u32 e7]) (.int .i64 4)) W = .ok (.int .u32 e4) W := fun W => by kernel_rfl
     have hap : outB ([e0, e1, e2, e3, e4, e5, e6, e7].take (4 + 1)) = outB ([e0, e1, e2, e3, e4, e5, e6, e7].take 4) ++ by4 e4 := by
      rw [show [e0, e1, e2, e3, e4, e5, e6, e7].take (4 + 1) = [e0, e1, e2, e3, e4, e5, e6, e7].take 4 ++ [e4] from rfl, outB_s]; rfl
     have hyl : (outB ([e0, e1, e2, e3, e4, e5, e6, e7].take 4)).length < 100 := by rw [outB_len]; simp
     have HAP := Aside0.mk hap
     clear hap
     generalize outB ([e0, e1, e2, e3, e4, e5, e6, e7].take 4) = zs at HO HAP hyl
     have HZL := Aside0.mk hyl
     clear hyl
     go_wp2
     go_loopg [6, 9] 5 (fun kq v6 v9 wr => ∃ i : Nat, i ≤ 4 ∧ v9 = .int .i64 (3 - (i : Int)) ∧ Aside0 (kq + i = 5) ∧ Aside0 (Kd.R (Kd.int .u8) 5 wr w.heap.size (fun _ => True) v6 (zs ++ (by4 e4).take i)) ∧ Aside0 (Below w.heap.size w wr))
     case atStart => exact ⟨0, by omega, rfl, ⟨rfl⟩, ⟨by have := HO.out; simpa using this⟩, HB⟩
     case round =>
      clear HB HO
      obtain ⟨i, hi, rfl, HK6, HO, HB⟩ := hrel
      obtain ⟨k6, rfl⟩ : ∃ k6, gk = k6 + 1 := ⟨gk - 1, by have := HK6.out; omega⟩
      rcases (show i = 0 ∨ i = 1 ∨ i = 2 ∨ i = 3 ∨ i = 4 by omega) with rfl | rfl | rfl | rfl | rfl
      ·have hap : (zs ++ (by4 e4).take 0) ++ [((e4 : Int) / 16777216)] = zs ++ (by4 e4).take (0 + 1) := by
        rw [List.append_assoc]
        refine congrArg (fun l_ => zs ++ l_) ?_
        have e_ : ((e4 : Int) / 16777216) = ((e4 / 16777216 % 256 : Nat) : Int) := by omega
        rw [e_]
        rfl
       have hyl : (zs ++ (by4 e4).take 0).length < 110 := by have := HZL.out; rw [List.length_append]; simp [by4]; omega
       have HAQ := Aside0.mk hap
       have HLY := Aside0.mk hyl
       clear hap hyl
       generalize zs ++ (by4 e4).take 0 = ys at HO HAQ HLY
       obtain ⟨Ao, co, eo⟩ := Kd.R_slice HO.out
       subst eo
       go_wp2_with (first | ((with_reducible refine gate_builtin (b := .append) (xs := #[.tmp 35, .tmp 42]) rfl ?_); at_builtin; refine Kd.R_append (Kd.int .u8) (w0 := w) w.heap.size rfl (.tmp 35) (.tmp 42) 25 5 (.int .u8 0) 1 rfl Try.underlying25 inf5 rfl (by decide) (by omega) (.slice Ao ys.length co) ys ((e4 : Int) / 16777216) [.int .u8 ((e4 : Int) / 16777216)] (fun _ => True) (fun _ => False) rfl rfl ?aP (fun _ hk => hk.elim) ?aF ?aO ?aB ?aS ?aL ?_; (case aP => exact rfl); (case aB => exact (by repeat (first | (with_reducible first | exact HB.out | apply below_alloc | apply pw_below_drewN | apply below_drew1) | exact HB.out))); (case aF => exact (fun _ _ => trivial)); (case aO => exact (by (with_reducible repeat (first | apply Kd.R_alloc | apply Kd.R_drewN | apply Kd.R_drew)); exact HO.out)); (case aS => exact (below_size (by repeat (first | (with_reducible first | exact HB.out | apply below_alloc | apply pw_below_drewN | apply below_drew1) | exact HB.out)))); (case aL => have := HLY.out; first | omega | (simp; omega)); intro v1 w5 ho hb hg hat; have HB_ := Aside0.mk hb; clear HB HO; have HO := Aside0.mk ho; have HB := HB_; clear HB_ ho hb hg hat))
       go_roundg k6
       case rel => exact ⟨0 + 1, by decide, by first | rfl | simp, ⟨by have := HK6.out; omega⟩, ⟨by rw [← HAQ.out]; exact HO.out⟩, HB⟩
       case measure => have := HK6.out; omega
      ·have hap : (zs ++ (by4 e4).take 1) ++ [((e4 : Int) / 65536 % 256)] = zs ++ (by4 e4).take (1 + 1) := by
        rw [List.append_assoc]
        refine congrArg (fun l_ => zs ++ l_) ?_
        have e_ : ((e4 : Int) / 65536 % 256) = ((e4 / 65536 % 256 : Nat) : Int) := by omega
        rw [e_]
        rfl
       have hyl : (zs ++ (by4 e4).take 1).length < 110 := by have := HZL.out; rw [List.length_append]; simp [by4]; omega
       have HAQ := Aside0.mk hap
       have HLY := Aside0.mk hyl
       clear hap hyl
       generalize zs ++ (by4 e4).take 1 = ys at HO HAQ HLY
       obtain ⟨Ao, co, eo⟩ := Kd.R_slice HO.out
       subst eo
       go_wp2_with (first | ((with_reducible refine gate_builtin (b := .append) (xs := #[.tmp 35, .tmp 42]) rfl ?_); at_builtin; refine Kd.R_append (Kd.int .u8) (w0 := w) w.heap.size rfl (.tmp 35) (.tmp 42) 25 5 (.int .u8 0) 1 rfl Try.underlying25 inf5 rfl (by decide) (by omega) (.slice Ao ys.length co) ys ((e4 : Int) / 65536 % 256) [.int .u8 ((e4 : Int) / 65536 % 256)] (fun _ => True) (fun _ => False) rfl rfl ?aP (fun _ hk => hk.elim) ?aF ?aO ?aB ?aS ?aL ?_; (case aP => exact rfl); (case aB => exact (by repeat (first | (with_reducible first | exact HB.out | apply below_alloc | apply pw_below_drewN | apply below_drew1) | exact HB.out))); (case aF => exact (fun _ _ => trivial)); (case aO => exact (by (with_reducible repeat (first | apply Kd.R_alloc | apply Kd.R_drewN | apply Kd.R_drew)); exact HO.out)); (case aS => exact (below_size (by repeat (first | (with_reducible first | exact HB.out | apply below_alloc | apply pw_below_drewN | apply below_drew1) | exact HB.out)))); (case aL => have := HLY.out; first | omega | (simp; omega)); intro v1 w5 ho hb hg hat; have HB_ := Aside0.mk hb; clear HB HO; have HO := Aside0.mk ho; have HB := HB_; clear HB_ ho hb hg hat))
       go_roundg k6
       case rel => exact ⟨1 + 1, by decide, by first | rfl | simp, ⟨by have := HK6.out; omega⟩, ⟨by rw [← HAQ.out]; exact HO.out⟩, HB⟩
       case measure => have := HK6.out; omega
      ·have hap : (zs ++ (by4 e4).take 2) ++ [((e4 : Int) / 256 % 256)] = zs ++ (by4 e4).take (2 + 1) := by
        rw [List.append_assoc]
        refine congrArg (fun l_ => zs ++ l_) ?_
        have e_ : ((e4 : Int) / 256 % 256) = ((e4 / 256 % 256 : Nat) : Int) := by omega
        rw [e_]
        rfl
       have hyl : (zs ++ (by4 e4).take 2).length < 110 := by have := HZL.out; rw [List.length_append]; simp [by4]; omega
       have HAQ := Aside0.mk hap
       have HLY := Aside0.mk hyl
       clear hap hyl
       generalize zs ++ (by4 e4).take 2 = ys at HO HAQ HLY
       obtain ⟨Ao, co, eo⟩ := Kd.R_slice HO.out
       subst eo
       go_wp2_with (first | ((with_reducible refine gate_builtin (b := .append) (xs := #[.tmp 35, .tmp 42]) rfl ?_); at_builtin; refine Kd.R_append (Kd.int .u8) (w0 := w) w.heap.size rfl (.tmp 35) (.tmp 42) 25 5 (.int .u8 0) 1 rfl Try.underlying25 inf5 rfl (by decide) (by omega) (.slice Ao ys.length co) ys ((e4 : Int) / 256 % 256) [.int .u8 ((e4 : Int) / 256 % 256)] (fun _ => True) (fun _ => False) rfl rfl ?aP (fun _ hk => hk.elim) ?aF ?aO ?aB ?aS ?aL ?_; (case aP => exact rfl); (case aB => exact (by repeat (first | (with_reducible first | exact HB.out | apply below_alloc | apply pw_below_drewN | apply below_drew1) | exact HB.out))); (case aF => exact (fun _ _ => trivial)); (case aO => exact (by (with_reducible repeat (first | apply Kd.R_alloc | apply Kd.R_drewN | apply Kd.R_drew)); exact HO.out)); (case aS => exact (below_size (by repeat (first | (with_reducible first | exact HB.out | apply below_alloc | apply pw_below_drewN | apply below_drew1) | exact HB.out)))); (case aL => have := HLY.out; first | omega | (simp; omega)); intro v1 w5 ho hb hg hat; have HB_ := Aside0.mk hb; clear HB HO; have HO := Aside0.mk ho; have HB := HB_; clear HB_ ho hb hg hat))
       go_roundg k6
       case rel => exact ⟨2 + 1, by decide, by first | rfl | simp, ⟨by have := HK6.out; omega⟩, ⟨by rw [← HAQ.out]; exact HO.out⟩, HB⟩
       case measure => have := HK6.out; omega
      ·have hap : (zs ++ (by4 e4).take 3) ++ [((e4 : Int) % 256)] = zs ++ (by4 e4).take (3 + 1) := by
        rw [List.append_assoc]
        refine congrArg (fun l_ => zs ++ l_) ?_
        have e_ : ((e4 : Int) % 256) = ((e4 % 256 : Nat) : Int) := by omega
        rw [e_]
        rfl
       have hyl : (zs ++ (by4 e4).take 3).length < 110 := by have := HZL.out; rw [List.length_append]; simp [by4]; omega
       have HAQ := Aside0.mk hap
       have HLY := Aside0.mk hyl
       clear hap hyl
       generalize zs ++ (by4 e4).take 3 = ys at HO HAQ HLY
       obtain ⟨Ao, co, eo⟩ := Kd.R_slice HO.out
       subst eo
       go_wp2_with (first | ((with_reducible refine gate_builtin (b := .append) (xs := #[.tmp 35, .tmp 42]) rfl ?_); at_builtin; refine Kd.R_append (Kd.int .u8) (w0 := w) w.heap.size rfl (.tmp 35) (.tmp 42) 25 5 (.int .u8 0) 1 rfl Try.underlying25 inf5 rfl (by decide) (by omega) (.slice Ao ys.length co) ys ((e4 : Int) % 256) [.int .u8 ((e4 : Int) % 256)] (fun _ => True) (fun _ => False) rfl rfl ?aP (fun _ hk => hk.elim) ?aF ?aO ?aB ?aS ?aL ?_; (case aP => exact rfl); (case aB => exact (by repeat (first | (with_reducible first | exact HB.out | apply below_alloc | apply pw_below_drewN | apply below_drew1) | exact HB.out))); (case aF => exact (fun _ _ => trivial)); (case aO => exact (by (with_reducible repeat (first | apply Kd.R_alloc | apply Kd.R_drewN | apply Kd.R_drew)); exact HO.out)); (case aS => exact (below_size (by repeat (first | (with_reducible first | exact HB.out | apply below_alloc | apply pw_below_drewN | apply below_drew1) | exact HB.out)))); (case aL => have := HLY.out; first | omega | (simp; omega)); intro v1 w5 ho hb hg hat; have HB_ := Aside0.mk hb; clear HB HO; have HO := Aside0.mk ho; have HB := HB_; clear HB_ ho hb hg hat))
       go_roundg k6
       case rel => exact ⟨3 + 1, by decide, by first | rfl | simp, ⟨by have := HK6.out; omega⟩, ⟨by rw [← HAQ.out]; exact HO.out⟩, HB⟩
       case measure => have := HK6.out; omega
      ·go_wp2
       go_roundg k5
       case rel => exact ⟨4 + 1, by decide, by first | rfl | simp, ⟨by have := HK5.out; omega⟩, ⟨by rw [HAP.out]; exact HO.out⟩, HB⟩
       case measure => have := HK5.out; omega
    ·have hix : ∀ W : World, Sem.run Try.prog (Instr.index 77 (.agg #[.int .u32 e0, .int .u32 e1, .int .u32 e2, .int .u32 e3, .int .u32 e4, .int .u32 e5, .int .u32 e6, .int .u32 e7]) (.int .i64 5)) W = .ok (.int .u32 e5) W := fun W => by kernel_rfl
     have hap : outB ([e0, e1, e2, e3, e4, e5, e6, e7].take (5 + 1)) = outB ([e0, e1, e2, e3, e4, e5, e6, e7].take 5) ++ by4 e5 := by
      rw [show [e0, e1, e2, e3, e4, e5, e6, e7].take (5 + 1) = [e0, e1, e2, e3, e4, e5, e6, e7].take 5 ++ [e5] from rfl, outB_s]; rfl
     have hyl : (outB ([e0, e1, e2, e3, e4, e5, e6, e7].take 5)).length < 100 := by rw [outB_len]; simp
     have HAP := Aside0.mk hap
     clear hap
     generalize outB ([e0, e1, e2, e3, e4, e5, e6, e7].take 5) = zs at HO HAP hyl
     have HZL := Aside0.mk hyl
     clear hyl
     go_wp2
     go_loopg [6, 9] 5 (fun kq v6 v9 wr => ∃ i : Nat, i ≤ 4 ∧ v9 = .int .i64 (3 - (i : Int)) ∧ Aside0 (kq + i = 5) ∧ Aside0 (Kd.R (Kd.int .u8) 5 wr w.heap.size (fun _ => True) v6 (zs ++ (by4 e5).take i)) ∧ Aside0 (Below w.heap.size w wr))
     case atStart => exact ⟨0, by omega, rfl, ⟨rfl⟩, ⟨by have := HO.out; simpa using this⟩, HB⟩
     case round =>
      clear HB HO
      obtain ⟨i, hi, rfl, HK6, HO, HB⟩ := hrel
      obtain ⟨k6, rfl⟩ : ∃ k6, gk = k6 + 1 := ⟨gk - 1, by have := HK6.out; omega⟩
      rcases (show i = 0 ∨ i = 1 ∨ i = 2 ∨ i = 3 ∨ i = 4 by omega) with rfl | rfl | rfl | rfl | rfl
      ·have hap : (zs ++ (by4 e5).take 0) ++ [((e5 : Int) / 16777216)] = zs ++ (by4 e5).take (0 + 1) := by
        rw [List.append_assoc]
        refine congrArg (fun l_ => zs ++ l_) ?_
        have e_ : ((e5 : Int) / 16777216) = ((e5 / 16777216 % 256 : Nat) : Int) := by omega
        rw [e_]
        rfl
       have hyl : (zs ++ (by4 e5).take 0).length < 110 := by have := HZL.out; rw [List.length_append]; simp [by4]; omega
       have HAQ := Aside0.mk hap
       have HLY := Aside0.mk hyl
       clear hap hyl
       generalize zs ++ (by4 e5).take 0 = ys at HO HAQ HLY
       obtain ⟨Ao, co, eo⟩ := Kd.R_slice HO.out
       subst eo
       go_wp2_with (first | ((with_reducible refine gate_builtin (b := .append) (xs := #[.tmp 35, .tmp 42]) rfl ?_); at_builtin; refine Kd.R_append (Kd.int .u8) (w0 := w) w.heap.size rfl (.tmp 35) (.tmp 42) 25 5 (.int .u8 0) 1 rfl Try.underlying25 inf5 rfl (by decide) (by omega) (.slice Ao ys.length co) ys ((e5 : Int) / 16777216) [.int .u8 ((e5 : Int) / 16777216)] (fun _ => True) (fun _ => False) rfl rfl ?aP (fun _ hk => hk.elim) ?aF ?aO ?aB ?aS ?aL ?_; (case aP => exact rfl); (case aB => exact (by repeat (first | (with_reducible first | exact HB.out | apply below_alloc | apply pw_below_drewN | apply below_drew1) | exact HB.out))); (case aF => exact (fun _ _ => trivial)); (case aO => exact (by (with_reducible repeat (first | apply Kd.R_alloc | apply Kd.R_drewN | apply Kd.R_drew)); exact HO.out)); (case aS => exact (below_size (by repeat (first | (with_reducible first | exact HB.out | apply below_alloc | apply pw_below_drewN | apply below_drew1) | exact HB.out)))); (case aL => have := HLY.out; first | omega | (simp; omega)); intro v1 w5 ho hb hg hat; have HB_ := Aside0.mk hb; clear HB HO; have HO := Aside0.mk ho; have HB := HB_; clear HB_ ho hb hg hat))
       go_roundg k6
       case rel => exact ⟨0 + 1, by decide, by first | rfl | simp, ⟨by have := HK6.out; omega⟩, ⟨by rw [← HAQ.out]; exact HO.out⟩, HB⟩
       case measure => have := HK6.out; omega
      ·have hap : (zs ++ (by4 e5).take 1) ++ [((e5 : Int) / 65536 % 256)] = zs ++ (by4 e5).take (1 + 1) := by
        rw [List.append_assoc]
        refine congrArg (fun l_ => zs ++ l_) ?_
        have e_ : ((e5 : Int) / 65536 % 256) = ((e5 / 65536 % 256 : Nat) : Int) := by omega
        rw [e_]
        rfl
       have hyl : (zs ++ (by4 e5).take 1).length < 110 := by have := HZL.out; rw [List.length_append]; simp [by4]; omega
       have HAQ := Aside0.mk hap
       have HLY := Aside0.mk hyl
       clear hap hyl
       generalize zs ++ (by4 e5).take 1 = ys at HO HAQ HLY
       obtain ⟨Ao, co, eo⟩ := Kd.R_slice HO.out
       subst eo
       go_wp2_with (first | ((with_reducible refine gate_builtin (b := .append) (xs := #[.tmp 35, .tmp 42]) rfl ?_); at_builtin; refine Kd.R_append (Kd.int .u8) (w0 := w) w.heap.size rfl (.tmp 35) (.tmp 42) 25 5 (.int .u8 0) 1 rfl Try.underlying25 inf5 rfl (by decide) (by omega) (.slice Ao ys.length co) ys ((e5 : Int) / 65536 % 256) [.int .u8 ((e5 : Int) / 65536 % 256)] (fun _ => True) (fun _ => False) rfl rfl ?aP (fun _ hk => hk.elim) ?aF ?aO ?aB ?aS ?aL ?_; (case aP => exact rfl); (case aB => exact (by repeat (first | (with_reducible first | exact HB.out | apply below_alloc | apply pw_below_drewN | apply below_drew1) | exact HB.out))); (case aF => exact (fun _ _ => trivial)); (case aO => exact (by (with_reducible repeat (first | apply Kd.R_alloc | apply Kd.R_drewN | apply Kd.R_drew)); exact HO.out)); (case aS => exact (below_size (by repeat (first | (with_reducible first | exact HB.out | apply below_alloc | apply pw_below_drewN | apply below_drew1) | exact HB.out)))); (case aL => have := HLY.out; first | omega | (simp; omega)); intro v1 w5 ho hb hg hat; have HB_ := Aside0.mk hb; clear HB HO; have HO := Aside0.mk ho; have HB := HB_; clear HB_ ho hb hg hat))
       go_roundg k6
       case rel => exact ⟨1 + 1, by decide, by first | rfl | simp, ⟨by have := HK6.out; omega⟩, ⟨by rw [← HAQ.out]; exact HO.out⟩, HB⟩
       case measure => have := HK6.out; omega
      ·have hap : (zs ++ (by4 e5).take 2) ++ [((e5 : Int) / 256 % 256)] = zs ++ (by4 e5).take (2 + 1) := by
        rw [List.append_assoc]
        refine congrArg (fun l_ => zs ++ l_) ?_
        have e_ : ((e5 : Int) / 256 % 256) = ((e5 / 256 % 256 : Nat) : Int) := by omega
        rw [e_]
        rfl
       have hyl : (zs ++ (by4 e5).take 2).length < 110 := by have := HZL.out; rw [List.length_append]; simp [by4]; omega
       have HAQ := Aside0.mk hap
       have HLY := Aside0.mk hyl
       clear hap hyl
       generalize zs ++ (by4 e5).take 2 = ys at HO HAQ HLY
       obtain ⟨Ao, co, eo⟩ := Kd.R_slice HO.out
       subst eo
       go_wp2_with (first | ((with_reducible refine gate_builtin (b := .append) (xs := #[.tmp 35, .tmp 42]) rfl ?_); at_builtin; refine Kd.R_append (Kd.int .u8) (w0 := w) w.heap.size rfl (.tmp 35) (.tmp 42) 25 5 (.int .u8 0) 1 rfl Try.underlying25 inf5 rfl (by decide) (by omega) (.slice Ao ys.length co) ys ((e5 : Int) / 256 % 256) [.int .u8 ((e5 : Int) / 256 % 256)] (fun _ => True) (fun _ => False) rfl rfl ?aP (fun _ hk => hk.elim) ?aF ?aO ?aB ?aS ?aL ?_; (case aP => exact rfl); (case aB => exact (by repeat (first | (with_reducible first | exact HB.out | apply below_alloc | apply pw_below_drewN | apply below_drew1) | exact HB.out))); (case aF => exact (fun _ _ => trivial)); (case aO => exact (by (with_reducible repeat (first | apply Kd.R_alloc | apply Kd.R_drewN | apply Kd.R_drew)); exact HO.out)); (case aS => exact (below_size (by repeat (first | (with_reducible first | exact HB.out | apply below_alloc | apply pw_below_drewN | apply below_drew1) | exact HB.out)))); (case aL => have := HLY.out; first | omega | (simp; omega)); intro v1 w5 ho hb hg hat; have HB_ := Aside0.mk hb; clear HB HO; have HO := Aside0.mk ho; have HB := HB_; clear HB_ ho hb hg hat))
       go_roundg k6
       case rel => exact ⟨2 + 1, by decide, by first | rfl | simp, ⟨by have := HK6.out; omega⟩, ⟨by rw [← HAQ.out]; exact HO.out⟩, HB⟩
       case measure => have := HK6.out; omega
      ·have hap : (zs ++ (by4 e5).take 3) ++ [((e5 : Int) % 256)] = zs ++ (by4 e5).take (3 + 1) := by
        rw [List.append_assoc]
        refine congrArg (fun l_ => zs ++ l_) ?_
        have e_ : ((e5 : Int) % 256) = ((e5 % 256 : Nat) : Int) := by omega
        rw [e_]
        rfl
       have hyl : (zs ++ (by4 e5).take 3).length < 110 := by have := HZL.out; rw [List.length_append]; simp [by4]; omega
       have HAQ := Aside0.mk hap
       have HLY := Aside0.mk hyl
       clear hap hyl
       generalize zs ++ (by4 e5).take 3 = ys at HO HAQ HLY
       obtain ⟨Ao, co, eo⟩ := Kd.R_slice HO.out
       subst eo
       go_wp2_with (first | ((with_reducible refine gate_builtin (b := .append) (xs := #[.tmp 35, .tmp 42]) rfl ?_); at_builtin; refine Kd.R_append (Kd.int .u8) (w0 := w) w.heap.size rfl (.tmp 35) (.tmp 42) 25 5 (.int .u8 0) 1 rfl Try.underlying25 inf5 rfl (by decide) (by omega) (.slice Ao ys.length co) ys ((e5 : Int) % 256) [.int .u8 ((e5 : Int) % 256)] (fun _ => True) (fun _ => False) rfl rfl ?aP (fun _ hk => hk.elim) ?aF ?aO ?aB ?aS ?aL ?_; (case aP => exact rfl); (case aB => exact (by repeat (first | (with_reducible first | exact HB.out | apply below_alloc | apply pw_below_drewN | apply below_drew1) | exact HB.out))); (case aF => exact (fun _ _ => trivial)); (case aO => exact (by (with_reducible repeat (first | apply Kd.R_alloc | apply Kd.R_drewN | apply Kd.R_drew)); exact HO.out)); (case aS => exact (below_size (by repeat (first | (with_reducible first | exact HB.out | apply below_alloc | apply pw_below_drewN | apply below_drew1) | exact HB.out)))); (case aL => have := HLY.out; first | omega | (simp; omega)); intro v1 w5 ho hb hg hat; have HB_ := Aside0.mk hb; clear HB HO; have HO := Aside0.mk ho; have HB := HB_; clear HB_ ho hb hg hat))
       go_roundg k6
       case rel => exact ⟨3 + 1, by decide, by first | rfl | simp, ⟨by have := HK6.out; omega⟩, ⟨by rw [← HAQ.out]; exact HO.out⟩, HB⟩
       case measure => have := HK6.out; omega
      ·go_wp2
       go_roundg k5
       case rel => exact ⟨5 + 1, by decide, by first | rfl | simp, ⟨by have := HK5.out; omega⟩, ⟨by rw [HAP.out]; exact HO.out⟩, HB⟩
       case measure => have := HK5.out; omega
    ·have hix : ∀ W : World, Sem.run Try.prog (Instr.index 77 (.agg #[.int .u32 e0, .int .u32 e1, .int .u32 e2, .int .u32 e3, .int .u32 e4, .int .u32 e5, .int .u32 e6, .int .u32 e7]) (.int .i64 6)) W = .ok (.int .u32 e6) W := fun W => by kernel_rfl
     have hap : outB ([e0, e1, e2, e3, e4, e5, e6, e7].take (6 + 1)) = outB ([e0, e1, e2, e3, e4, e5, e6, e7].take 6) ++ by4 e6 := by
      rw [show [e0, e1, e2, e3, e4, e5, e6, e7].take (6 + 1) = [e0, e1, e2, e3, e4, e5, e6, e7].take 6 ++ [e6] from rfl, outB_s]; rfl
     have hyl : (outB ([e0, e1, e2, e3, e4, e5, e6, e7].take 6)).length < 100 := by rw [outB_len]; simp
     have HAP := Aside0.mk hap
     clear hap
     generalize outB ([e0, e1, e2, e3, e4, e5, e6, e7].take 6) = zs at HO HAP hyl
     have HZL := Aside0.mk hyl
     clear hyl
     go_wp2
     go_loopg [6, 9] 5 (fun kq v6 v9 wr => ∃ i : Nat, i ≤ 4 ∧ v9 = .int .i64 (3 - (i : Int)) ∧ Aside0 (kq + i = 5) ∧ Aside0 (Kd.R (Kd.int .u8) 5 wr w.heap.size (fun _ => True) v6 (zs ++ (by4 e6).take i)) ∧ Aside0 (Below w.heap.size w wr))
     case atStart => exact ⟨0, by omega, rfl, ⟨rfl⟩, ⟨by have := HO.out; simpa using this⟩, HB⟩
     case round =>
      clear HB HO
      obtain ⟨i, hi, rfl, HK6, HO, HB⟩ := hrel
      obtain ⟨k6, rfl⟩ : ∃ k6, gk = k6 + 1 := ⟨gk - 1, by have := HK6.out; omega⟩
      rcases (show i = 0 ∨ i = 1 ∨ i = 2 ∨ i = 3 ∨ i = 4 by omega) with rfl | rfl | rfl | rfl | rfl
      ·have hap : (zs ++ (by4 e6).take 0) ++ [((e6 : Int) / 16777216)] = zs ++ (by4 e6).take (0 + 1) := by
        rw [List.append_assoc]
        refine congrArg (fun l_ => zs ++ l_) ?_
        have e_ : ((e6 : Int) / 16777216) = ((e6 / 16777216 % 256 : Nat) : Int) := by omega
        rw [e_]
        rfl
       have hyl : (zs ++ (by4 e6).take 0).length < 110 := by have := HZL.out; rw [List.length_append]; simp [by4]; omega
       have HAQ := Aside0.mk hap
       have HLY := Aside0.mk hyl
       clear hap hyl
       generalize zs ++ (by4 e6).take 0 = ys at HO HAQ HLY
       obtain ⟨Ao, co, eo⟩ := Kd.R_slice HO.out
       subst eo
       go_wp2_with (first | ((with_reducible refine gate_builtin (b := .append) (xs := #[.tmp 35, .tmp 42]) rfl ?_); at_builtin; refine Kd.R_append (Kd.int .u8) (w0 := w) w.heap.size rfl (.tmp 35) (.tmp 42) 25 5 (.int .u8 0) 1 rfl Try.underlying25 inf5 rfl (by decide) (by omega) (.slice Ao ys.length co) ys ((e6 : Int) / 16777216) [.int .u8 ((e6 : Int) / 16777216)] (fun _ => True) (fun _ => False) rfl rfl ?aP (fun _ hk => hk.elim) ?aF ?aO ?aB ?aS ?aL ?_; (case aP => exact rfl); (case aB => exact (by repeat (first | (with_reducible first | exact HB.out | apply below_alloc | apply pw_below_drewN | apply below_drew1) | exact HB.out))); (case aF => exact (fun _ _ => trivial)); (case aO => exact (by (with_reducible repeat (first | apply Kd.R_alloc | apply Kd.R_drewN | apply Kd.R_drew)); exact HO.out)); (case aS => exact (below_size (by repeat (first | (with_reducible first | exact HB.out | apply below_alloc | apply pw_below_drewN | apply below_drew1) | exact HB.out)))); (case aL => have := HLY.out; first | omega | (simp; omega)); intro v1 w5 ho hb hg hat; have HB_ := Aside0.mk hb; clear HB HO; have HO := Aside0.mk ho; have HB := HB_; clear HB_ ho hb hg hat))
       go_roundg k6
       case rel => exact ⟨0 + 1, by decide, by first | rfl | simp, ⟨by have := HK6.out; omega⟩, ⟨by rw [← HAQ.out]; exact HO.out⟩, HB⟩
       case measure => have := HK6.out; omega
      ·have hap : (zs ++ (by4 e6).take 1) ++ [((e6 : Int) / 65536 % 256)] = zs ++ (by4 e6).take (1 + 1) := by
        rw [List.append_assoc]
        refine congrArg (fun l_ => zs ++ l_) ?_
        have e_ : ((e6 : Int) / 65536 % 256) = ((e6 / 65536 % 256 : Nat) : Int) := by omega
        rw [e_]
        rfl
       have hyl : (zs ++ (by4 e6).take 1).length < 110 := by have := HZL.out; rw [List.length_append]; simp [by4]; omega
       have HAQ := Aside0.mk hap
       have HLY := Aside0.mk hyl
       clear hap hyl
       generalize zs ++ (by4 e6).take 1 = ys at HO HAQ HLY
       obtain ⟨Ao, co, eo⟩ := Kd.R_slice HO.out
       subst eo
       go_wp2_with (first | ((with_reducible refine gate_builtin (b := .append) (xs := #[.tmp 35, .tmp 42]) rfl ?_); at_builtin; refine Kd.R_append (Kd.int .u8) (w0 := w) w.heap.size rfl (.tmp 35) (.tmp 42) 25 5 (.int .u8 0) 1 rfl Try.underlying25 inf5 rfl (by decide) (by omega) (.slice Ao ys.length co) ys ((e6 : Int) / 65536 % 256) [.int .u8 ((e6 : Int) / 65536 % 256)] (fun _ => True) (fun _ => False) rfl rfl ?aP (fun _ hk => hk.elim) ?aF ?aO ?aB ?aS ?aL ?_; (case aP => exact rfl); (case aB => exact (by repeat (first | (with_reducible first | exact HB.out | apply below_alloc | apply pw_below_drewN | apply below_drew1) | exact HB.out))); (case aF => exact (fun _ _ => trivial)); (case aO => exact (by (with_reducible repeat (first | apply Kd.R_alloc | apply Kd.R_drewN | apply Kd.R_drew)); exact HO.out)); (case aS => exact (below_size (by repeat (first | (with_reducible first | exact HB.out | apply below_alloc | apply pw_below_drewN | apply below_drew1) | exact HB.out)))); (case aL => have := HLY.out; first | omega | (simp; omega)); intro v1 w5 ho hb hg hat; have HB_ := Aside0.mk hb; clear HB HO; have HO := Aside0.mk ho; have HB := HB_; clear HB_ ho hb hg hat))
       go_roundg k6
       case rel => exact ⟨1 + 1, by decide, by first | rfl | simp, ⟨by have := HK6.out; omega⟩, ⟨by rw [← HAQ.out]; exact HO.out⟩, HB⟩
       case measure => have := HK6.out; omega
      ·have hap : (zs ++ (by4 e6).take 2) ++ [((e6 : Int) / 256 % 256)] = zs ++ (by4 e6).take (2 + 1) := by
        rw [List.append_assoc]
        refine congrArg (fun l_ => zs ++ l_) ?_
        have e_ : ((e6 : Int) / 256 % 256) = ((e6 / 256 % 256 : Nat) : Int) := by omega
        rw [e_]
        rfl
       have hyl : (zs ++ (by4 e6).take 2).length < 110 := by have := HZL.out; rw [List.length_append]; simp [by4]; omega
       have HAQ := Aside0.mk hap
       have HLY := Aside0.mk hyl
       clear hap hyl
       generalize zs ++ (by4 e6).take 2 = ys at HO HAQ HLY
       obtain ⟨Ao, co, eo⟩ := Kd.R_slice HO.out
       subst eo
       go_wp2_with (first | ((with_reducible refine gate_builtin (b := .append) (xs := #[.tmp 35, .tmp 42]) rfl ?_); at_builtin; refine Kd.R_append (Kd.int .u8) (w0 := w) w.heap.size rfl (.tmp 35) (.tmp 42) 25 5 (.int .u8 0) 1 rfl Try.underlying25 inf5 rfl (by decide) (by omega) (.slice Ao ys.length co) ys ((e6 : Int) / 256 % 256) [.int .u8 ((e6 : Int) / 256 % 256)] (fun _ => True) (fun _ => False) rfl rfl ?aP (fun _ hk => hk.elim) ?aF ?aO ?aB ?aS ?aL ?_; (case aP => exact rfl); (case aB => exact (by repeat (first | (with_reducible first | exact HB.out | apply below_alloc | apply pw_below_drewN | apply below_drew1) | exact HB.out))); (case aF => exact (fun _ _ => trivial)); (case aO => exact (by (with_reducible repeat (first | apply Kd.R_alloc | apply Kd.R_drewN | apply Kd.R_drew)); exact HO.out)); (case aS => exact (below_size (by repeat (first | (with_reducible first | exact HB.out | apply below_alloc | apply pw_below_drewN | apply below_drew1) | exact HB.out)))); (case aL => have := HLY.out; first | omega | (simp; omega)); intro v1 w5 ho hb hg hat; have HB_ := Aside0.mk hb; clear HB HO; have HO := Aside0.mk ho; have HB := HB_; clear HB_ ho hb hg hat))
       go_roundg k6
       case rel => exact ⟨2 + 1, by decide, by first | rfl | simp, ⟨by have := HK6.out; omega⟩, ⟨by rw [← HAQ.out]; exact HO.out⟩, HB⟩
       case measure => have := HK6.out; omega
      ·have hap : (zs ++ (by4 e6).take 3) ++ [((e6 : Int) % 256)] = zs ++ (by4 e6).take (3 + 1) := by
        rw [List.append_assoc]
        refine congrArg (fun l_ => zs ++ l_) ?_
        have e_ : ((e6 : Int) % 256) = ((e6 % 256 : Nat) : Int) := by omega
        rw [e_]
        rfl
       have hyl : (zs ++ (by4 e6).take 3).length < 110 := by have := HZL.out; rw [List.length_append]; simp [by4]; omega
       have HAQ := Aside0.mk hap
       have HLY := Aside0.mk hyl
       clear hap hyl
       generalize zs ++ (by4 e6).take 3 = ys at HO HAQ HLY
       obtain ⟨Ao, co, eo⟩ := Kd.R_slice HO.out
       subst eo
       go_wp2_with (first | ((with_reducible refine gate_builtin (b := .append) (xs := #[.tmp 35, .tmp 42]) rfl ?_); at_builtin; refine Kd.R_append (Kd.int .u8) (w0 := w) w.heap.size rfl (.tmp 35) (.tmp 42) 25 5 (.int .u8 0) 1 rfl Try.underlying25 inf5 rfl (by decide) (by omega) (.slice Ao ys.length co) ys ((e6 : Int) % 256) [.int .u8 ((e6 : Int) % 256)] (fun _ => True) (fun _ => False) rfl rfl ?aP (fun _ hk => hk.elim) ?aF ?aO ?aB ?aS ?aL ?_; (case aP => exact rfl); (case aB => exact (by repeat (first | (with_reducible first | exact HB.out | apply below_alloc | apply pw_below_drewN | apply below_drew1) | exact HB.out))); (case aF => exact (fun _ _ => trivial)); (case aO => exact (by (with_reducible repeat (first | apply Kd.R_alloc | apply Kd.R_drewN | apply Kd.R_drew)); exact HO.out)); (case aS => exact (below_size (by repeat (first | (with_reducible first | exact HB.out | apply below_alloc | apply pw_below_drewN | apply below_drew1) | exact HB.out)))); (case aL => have := HLY.out; first | omega | (simp; omega)); intro v1 w5 ho hb hg hat; have HB_ := Aside0.mk hb; clear HB HO; have HO := Aside0.mk ho; have HB := HB_; clear HB_ ho hb hg hat))
       go_roundg k6
       case rel => exact ⟨3 + 1, by decide, by first | rfl | simp, ⟨by have := HK6.out; omega⟩, ⟨by rw [← HAQ.out]; exact HO.out⟩, HB⟩
       case measure => have := HK6.out; omega
      ·go_wp2
       go_roundg k5
       case rel => exact ⟨6 + 1, by decide, by first | rfl | simp, ⟨by have := HK5.out; omega⟩, ⟨by rw [HAP.out]; exact HO.out⟩, HB⟩
       case measure => have := HK5.out; omega
    ·have hix : ∀ W : World, Sem.run Try.prog (Instr.index 77 (.agg #[.int .u32 e0, .int .u32 e1, .int .u32 e2, .int .u32 e3, .int .u32 e4, .int .u32 e5, .int .u32 e6, .int .u32 e7]) (.int .i64 7)) W = .ok (.int .u32 e7) W := fun W => by kernel_rfl
     have hap : outB ([e0, e1, e2, e3, e4, e5, e6, e7].take (7 + 1)) = outB ([e0, e1, e2, e3, e4, e5, e6, e7].take 7) ++ by4 e7 := by
      rw [show [e0, e1, e2, e3, e4, e5, e6, e7].take (7 + 1) = [e0, e1, e2, e3, e4, e5, e6, e7].take 7 ++ [e7] from rfl, outB_s]; rfl
     have hyl : (outB ([e0, e1, e2, e3, e4, e5, e6, e7].take 7)).length < 100 := by rw [outB_len]; simp
     have HAP := Aside0.mk hap
     clear hap
     generalize outB ([e0, e1, e2, e3, e4, e5, e6, e7].take 7) = zs at HO HAP hyl
     have HZL := Aside0.mk hyl
     clear hyl
     go_wp2
     go_loopg [6, 9] 5 (fun kq v6 v9 wr => ∃ i : Nat, i ≤ 4 ∧ v9 = .int .i64 (3 - (i : Int)) ∧ Aside0 (kq + i = 5) ∧ Aside0 (Kd.R (Kd.int .u8) 5 wr w.heap.size (fun _ => True) v6 (zs ++ (by4 e7).take i)) ∧ Aside0 (Below w.heap.size w wr))
     case atStart => exact ⟨0, by omega, rfl, ⟨rfl⟩, ⟨by have := HO.out; simpa using this⟩, HB⟩
     case round =>
      clear HB HO
      obtain ⟨i, hi, rfl, HK6, HO, HB⟩ := hrel
      obtain ⟨k6, rfl⟩ : ∃ k6, gk = k6 + 1 := ⟨gk - 1, by have := HK6.out; omega⟩
      rcases (show i = 0 ∨ i = 1 ∨ i = 2 ∨ i = 3 ∨ i = 4 by omega) with rfl | rfl | rfl | rfl | rfl
      ·have hap : (zs ++ (by4 e7).take 0) ++ [((e7 : Int) / 16777216)] = zs ++ (by4 e7).take (0 + 1) := by
        rw [List.append_assoc]
        refine congrArg (fun l_ => zs ++ l_) ?_
        have e_ : ((e7 : Int) / 16777216) = ((e7 / 16777216 % 256 : Nat) : Int) := by omega
        rw [e_]
        rfl
       have hyl : (zs ++ (by4 e7).take 0).length < 110 := by have := HZL.out; rw [List.length_append]; simp [by4]; omega
       have HAQ := Aside0.mk hap
       have HLY := Aside0.mk hyl
       clear hap hyl
       generalize zs ++ (by4 e7).take 0 = ys at HO HAQ HLY
       obtain ⟨Ao, co, eo⟩ := Kd.R_slice HO.out
       subst eo
       go_wp2_with (first | ((with_reducible refine gate_builtin (b := .append) (xs := #[.tmp 35, .tmp 42]) rfl ?_); at_builtin; refine Kd.R_append (Kd.int .u8) (w0 := w) w.heap.size rfl (.tmp 35) (.tmp 42) 25 5 (.int .u8 0) 1 rfl Try.underlying25 inf5 rfl (by decide) (by omega) (.slice Ao ys.length co) ys ((e7 : Int) / 16777216) [.int .u8 ((e7 : Int) / 16777216)] (fun _ => True) (fun _ => False) rfl rfl ?aP (fun _ hk => hk.elim) ?aF ?aO ?aB ?aS ?aL ?_; (case aP => exact rfl); (case aB => exact (by repeat (first | (with_reducible first | exact HB.out | apply below_alloc | apply pw_below_drewN | apply below_drew1) | exact HB.out))); (case aF => exact (fun _ _ => trivial)); (case aO => exact (by (with_reducible repeat (first | apply Kd.R_alloc | apply Kd.R_drewN | apply Kd.R_drew)); exact HO.out)); (case aS => exact (below_size (by repeat (first | (with_reducible first | exact HB.out | apply below_alloc | apply pw_below_drewN | apply below_drew1) | exact HB.out)))); (case aL => have := HLY.out; first | omega | (simp; omega)); intro v1 w5 ho hb hg hat; have HB_ := Aside0.mk hb; clear HB HO; have HO := Aside0.mk ho; have HB := HB_; clear HB_ ho hb hg hat))
       go_roundg k6
       case rel => exact ⟨0 + 1, by decide, by first | rfl | simp, ⟨by have := HK6.out; omega⟩, ⟨by rw [← HAQ.out]; exact HO.out⟩, HB⟩
       case measure => have := HK6.out; omega
      ·have hap : (zs ++ (by4 e7).take 1) ++ [((e7 : Int) / 65536 % 256)] = zs ++ (by4 e7).take (1 + 1) := by
        rw [List.append_assoc]
        refine congrArg (fun l_ => zs ++ l_) ?_
        have e_ : ((e7 : Int) / 65536 % 256) = ((e7 / 65536 % 256 : Nat) : Int) := by omega
        rw [e_]
        rfl
       have hyl : (zs ++ (by4 e7).take 1).length < 110 := by have := HZL.out; rw [List.length_append]; simp [by4]; omega
       have HAQ := Aside0.mk hap
       have HLY := Aside0.mk hyl
       clear hap hyl
       generalize zs ++ (by4 e7).take 1 = ys at HO HAQ HLY
       obtain ⟨Ao, co, eo⟩ := Kd.R_slice HO.out
       subst eo
       go_wp2_with (first | ((with_reducible refine gate_builtin (b := .append) (xs := #[.tmp 35, .tmp 42]) rfl ?_); at_builtin; refine Kd.R_append (Kd.int .u8) (w0 := w) w.heap.size rfl (.tmp 35) (.tmp 42) 25 5 (.int .u8 0) 1 rfl Try.underlying25 inf5 rfl (by decide) (by omega) (.slice Ao ys.length co) ys ((e7 : Int) / 65536 % 256) [.int .u8 ((e7 : Int) / 65536 % 256)] (fun _ => True) (fun _ => False) rfl rfl ?aP (fun _ hk => hk.elim) ?aF ?aO ?aB ?aS ?aL ?_; (case aP => exact rfl); (case aB => exact (by repeat (first | (with_reducible first | exact HB.out | apply below_alloc | apply pw_below_drewN | apply below_drew1) | exact HB.out))); (case aF => exact (fun _ _ => trivial)); (case aO => exact (by (with_reducible repeat (first | apply Kd.R_alloc | apply Kd.R_drewN | apply Kd.R_drew)); exact HO.out)); (case aS => exact (below_size (by repeat (first | (with_reducible first | exact HB.out | apply below_alloc | apply pw_below_drewN | apply below_drew1) | exact HB.out)))); (case aL => have := HLY.out; first | omega | (simp; omega)); intro v1 w5 ho hb hg hat; have HB_ := Aside0.mk hb; clear HB HO; have HO := Aside0.mk ho; have HB := HB_; clear HB_ ho hb hg hat))
       go_roundg k6
       case rel => exact ⟨1 + 1, by decide, by first | rfl | simp, ⟨by have := HK6.out; omega⟩, ⟨by rw [← HAQ.out]; exact HO.out⟩, HB⟩
       case measure => have := HK6.out; omega
      ·have hap : (zs ++ (by4 e7).take 2) ++ [((e7 : Int) / 256 % 256)] = zs ++ (by4 e7).take (2 + 1) := by
        rw [List.append_assoc]
        refine congrArg (fun l_ => zs ++ l_) ?_
        have e_ : ((e7 : Int) / 256 % 256) = ((e7 / 256 % 256 : Nat) : Int) := by omega
        rw [e_]
        rfl
       have hyl : (zs ++ (by4 e7).take 2).length < 110 := by have := HZL.out; rw [List.length_append]; simp [by4]; omega
       have HAQ := Aside0.mk hap
       have HLY := Aside0.mk hyl
       clear hap hyl
       generalize zs ++ (by4 e7).take 2 = ys at HO HAQ HLY
       obtain ⟨Ao, co, eo⟩ := Kd.R_slice HO.out
       subst eo
       go_wp2_with (first | ((with_reducible refine gate_builtin (b := .append) (xs := #[.tmp 35, .tmp 42]) rfl ?_); at_builtin; refine Kd.R_append (Kd.int .u8) (w0 := w) w.heap.size rfl (.tmp 35) (.tmp 42) 25 5 (.int .u8 0) 1 rfl Try.underlying25 inf5 rfl (by decide) (by omega) (.slice Ao ys.length co) ys ((e7 : Int) / 256 % 256) [.int .u8 ((e7 : Int) / 256 % 256)] (fun _ => True) (fun _ => False) rfl rfl ?aP (fun _ hk => hk.elim) ?aF ?aO ?aB ?aS ?aL ?_; (case aP => exact rfl); (case aB => exact (by repeat (first | (with_reducible first | exact HB.out | apply below_alloc | apply pw_below_drewN | apply below_drew1) | exact HB.out))); (case aF => exact (fun _ _ => trivial)); (case aO => exact (by (with_reducible repeat (first | apply Kd.R_alloc | apply Kd.R_drewN | apply Kd.R_drew)); exact HO.out)); (case aS => exact (below_size (by repeat (first | (with_reducible first | exact HB.out | apply below_alloc | apply pw_below_drewN | apply below_drew1) | exact HB.out)))); (case aL => have := HLY.out; first | omega | (simp; omega)); intro v1 w5 ho hb hg hat; have HB_ := Aside0.mk hb; clear HB HO; have HO := Aside0.mk ho; have HB := HB_; clear HB_ ho hb hg hat))
       go_roundg k6
       case rel => exact ⟨2 + 1, by decide, by first | rfl | simp, ⟨by have := HK6.out; omega⟩, ⟨by rw [← HAQ.out]; exact HO.out⟩, HB⟩
       case measure => have := HK6.out; omega
      ·have hap : (zs ++ (by4 e7).take 3) ++ [((e7 : Int) % 256)] = zs ++ (by4 e7).take (3 + 1) := by
        rw [List.append_assoc]
        refine congrArg (fun l_ => zs ++ l_) ?_
        have e_ : ((e7 : Int) % 256) = ((e7 % 256 : Nat) : Int) := by omega
        rw [e_]
        rfl
       have hyl : (zs ++ (by4 e7).take 3).length < 110 := by have := HZL.out; rw [List.length_append]; simp [by4]; omega
       have HAQ := Aside0.mk hap
       have HLY := Aside0.mk hyl
       clear hap hyl
       generalize zs ++ (by4 e7).take 3 = ys at HO HAQ HLY
       obtain ⟨Ao, co, eo⟩ := Kd.R_slice HO.out
       subst eo
       go_wp2_with (first | ((with_reducible refine gate_builtin (b := .append) (xs := #[.tmp 35, .tmp 42]) rfl ?_); at_builtin; refine Kd.R_append (Kd.int .u8) (w0 := w) w.heap.size rfl (.tmp 35) (.tmp 42) 25 5 (.int .u8 0) 1 rfl Try.underlying25 inf5 rfl (by decide) (by omega) (.slice Ao ys.length co) ys ((e7 : Int) % 256) [.int .u8 ((e7 : Int) % 256)] (fun _ => True) (fun _ => False) rfl rfl ?aP (fun _ hk => hk.elim) ?aF ?aO ?aB ?aS ?aL ?_; (case aP => exact rfl); (case aB => exact (by repeat (first | (with_reducible first | exact HB.out | apply below_alloc | apply pw_below_drewN | apply below_drew1) | exact HB.out))); (case aF => exact (fun _ _ => trivial)); (case aO => exact (by (with_reducible repeat (first | apply Kd.R_alloc | apply Kd.R_drewN | apply Kd.R_drew)); exact HO.out)); (case aS => exact (below_size (by repeat (first | (with_reducible first | exact HB.out | apply below_alloc | apply pw_below_drewN | apply below_drew1) | exact HB.out)))); (case aL => have := HLY.out; first | omega | (simp; omega)); intro v1 w5 ho hb hg hat; have HB_ := Aside0.mk hb; clear HB HO; have HO := Aside0.mk ho; have HB := HB_; clear HB_ ho hb hg hat))
       go_roundg k6
       case rel => exact ⟨3 + 1, by decide, by first | rfl | simp, ⟨by have := HK6.out; omega⟩, ⟨by rw [← HAQ.out]; exact HO.out⟩, HB⟩
       case measure => have := HK6.out; omega
      ·go_wp2
       go_roundg k5
       case rel => exact ⟨7 + 1, by decide, by first | rfl | simp, ⟨by have := HK5.out; omega⟩, ⟨by rw [HAP.out]; exact HO.out⟩, HB⟩
       case measure => have := HK5.out; omega
    ·go_wp2
     go_ret
     exact ⟨_, rfl, by rw [HTT.out, HWS.out]; exact HO.out, HB.out⟩
end Go.Proofs.Ytlnfiknllnonhaa.Sha
