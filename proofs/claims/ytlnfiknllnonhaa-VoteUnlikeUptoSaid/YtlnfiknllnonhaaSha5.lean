/- The hash SHA-256: the walks of the program's text and of the document's. -/
import Derived.Test.YtlnfiknllnonhaaSha1
import Derived.Test.YtlnfiknllnonhaaSha2
import Derived.Test.YtlnfiknllnonhaaSha4
import Derived.Test.YtlnfiknllnonhaaSha0
namespace Go.Proofs.Ytlnfiknllnonhaa.Sha
open Go Go.RowKit Go.Proofs.YtlnfiknllnonhaaW.PrintWords Go.Proofs.YtlnfiknllnonhaaW.PrintLast Go.Proofs.YtlnfiknllnonhaaW.PrintMore
set_option linter.unusedVariables false
set_option linter.unusedSimpArgs false
def Zn (L : Nat) : Nat := (119 - L % 64) % 64
def lenB (sz : Nat) (j : Nat) : List Int := (List.range j).map (fun i => (((8 * sz % 18446744073709551616) / 2 ^ (56 - 8 * i) % 256 : Nat) : Int))
def tailB (rl : List Int) (sz : Nat) : List Int := rl ++ [128] ++ List.replicate (Zn rl.length) 0 ++ lenB sz 8
def outB (ws : List Nat) : List Int := (ws.map (fun x : Nat => [((x / 16777216 % 256 : Nat) : Int), ((x / 65536 % 256 : Nat) : Int), ((x / 256 % 256 : Nat) : Int), ((x % 256 : Nat) : Int)])).flatten
theorem Zn_ok (L : Nat) : (L + 1 + Zn L) % 64 = 56 := by unfold Zn; omega
theorem Zn_no (L z : Nat) (h : z < Zn L) : (L + 1 + z) % 64 ≠ 56 := by unfold Zn at h; omega
theorem lenB_len (sz j : Nat) : (lenB sz j).length = j := by simp [lenB]
theorem lenB_s (sz j : Nat) : lenB sz (j + 1) = lenB sz j ++ [(((8 * sz % 18446744073709551616) / 2 ^ (56 - 8 * j) % 256 : Nat) : Int)] := by
 unfold lenB; rw [List.range_succ, List.map_append]; rfl
theorem tailB_len (rl : List Int) (sz : Nat) : (tailB rl sz).length % 64 = 0 := by
 have := Zn_ok rl.length
 unfold tailB
 rw [List.length_append, List.length_append, List.length_append, List.length_replicate, lenB_len]
 simp only [List.length_singleton]; omega
theorem outB_s (ws : List Nat) (x : Nat) : outB (ws ++ [x]) = outB ws ++ [((x / 16777216 % 256 : Nat) : Int), ((x / 65536 % 256 : Nat) : Int), ((x / 256 % 256 : Nat) : Int), ((x % 256 : Nat) : Int)] := by
 unfold outB
 rw [List.map_append, List.flatten_append]
 simp
theorem outB_len (ws : List Nat) : (outB ws).length = 4 * ws.length := by
 induction ws with
 | nil => rfl
 | cons x ws ih =>
  show ([_, _, _, _] ++ outB ws).length = _
  rw [List.length_append, ih]
  simp only [List.length_cons, List.length_nil]; omega
theorem blocks_len' (l : List Int) (st : List Nat) (h : st.length = 8) : ∀ n, (blocks l n st).length = 8
 | 0 => h
 | n + 1 => comp_len _ _ (blocks_len' l st h n)
theorem blocks_32' (l : List Int) (st : List Nat) (h : W32 st) : ∀ n, W32 (blocks l n st)
 | 0 => h
 | n + 1 => comp_32 _ _
theorem tailB_bytes {rl : List Int} (sz : Nat) (h : bytes8 rl) : bytes8 (tailB rl sz) := by
 intro b hb
 unfold tailB at hb
 rcases List.mem_append.1 hb with hb | hb
 ·rcases List.mem_append.1 hb with hb | hb
  ·rcases List.mem_append.1 hb with hb | hb
   ·exact h b hb
   ·rw [List.mem_singleton.1 hb]; decide
  ·rw [(List.mem_replicate.1 hb).2]; decide
 ·unfold lenB at hb
  obtain ⟨i, _, rfl⟩ := List.mem_map.1 hb
  constructor
  ·exact Int.natCast_nonneg _
  ·have := Nat.mod_lt (8 * sz % 18446744073709551616 / 2 ^ (56 - 8 * i)) (show 0 < 256 by decide)
   omega
set_option maxHeartbeats 8000000 in
set_option maxRecDepth 100000 in
theorem hsum (w : World) (g : Nat) (st : List Nat) (hl : st.length = 8) (hst : W32 st) (A : Option Addr) (c : Nat) (rl : List Int) (sz : Nat) (hg : w.heap[g]? = some (.cells (v32 st ++ [Value.slice A rl.length c, Value.int .u64 sz]).toArray 96 (0, 0))) (hr : Kd.C (Kd.int .u8) w A rl.length rl) (hb : bytes8 rl) (hn : rl.length < 64) (hz : sz < 140737488352000) :
  Calls Try.prog 75 #[.pointer (some ⟨g, 0, none⟩)] w fun e w' => ∃ v0, e = .returned v0 ∧ Kd.R (Kd.int .u8) 5 w' w.heap.size (fun _ => True) v0 (outB (blocks (tailB rl sz) ((tailB rl sz).length / 64) st)) ∧ Below w.heap.size w w' := by
 obtain ⟨a0, a1, a2, a3, a4, a5, a6, a7, rfl⟩ := len8 hl
 clear hl
 have HG := Aside0.mk hg
 have HR := Aside0.mk hr
 have HST := Aside0.mk hst
 have HBY := Aside0.mk hb
 have HLN := Aside0.mk hn
 have HZ := Aside0.mk hz
 have HB := Aside0.mk (Below.refl w.heap.size w)
 have g0 : w.cell? ⟨g, 0, none⟩ = some (.int .u32 (a0 : Int)) := (blk_cell hg 0).trans rfl
 have g1 : w.cell? ⟨g, 1, none⟩ = some (.int .u32 (a1 : Int)) := (blk_cell hg 1).trans rfl
 have g2 : w.cell? ⟨g, 2, none⟩ = some (.int .u32 (a2 : Int)) := (blk_cell hg 2).trans rfl
 have g3 : w.cell? ⟨g, 3, none⟩ = some (.int .u32 (a3 : Int)) := (blk_cell hg 3).trans rfl
 have g4 : w.cell? ⟨g, 4, none⟩ = some (.int .u32 (a4 : Int)) := (blk_cell hg 4).trans rfl
 have g5 : w.cell? ⟨g, 5, none⟩ = some (.int .u32 (a5 : Int)) := (blk_cell hg 5).trans rfl
 have g6 : w.cell? ⟨g, 6, none⟩ = some (.int .u32 (a6 : Int)) := (blk_cell hg 6).trans rfl
 have g7 : w.cell? ⟨g, 7, none⟩ = some (.int .u32 (a7 : Int)) := (blk_cell hg 7).trans rfl
 have g8 : w.cell? ⟨g, 8, none⟩ = some (.slice A rl.length c) := (blk_cell hg 8).trans rfl
 clear hg hr hst hb hn hz
 go_enter Try.func75, Try.ntmps75
 go_wp2_with (first | ((with_reducible refine gate_dst (N := 3) rfl ?_); refine box_event ?hg (N := 3) ?hd (cs := (v32 [0, 0, 0, 0, 0, 0, 0, 0]).toArray) (t := 93) ?hr ?_; (case hd => rfl); (case hg => rfl); (case hr => first | (go_simp; done) | (go_simp; rfl)); intro gs hgs w3 hbox hb3; have HB_ := Aside0.mk (below_step HB.out hb3); have HV0 := Aside0.mk hbox; have HGE := Aside0.mk (show w.heap.size ≤ gs from hgs ▸ below_size HB.out); clear hbox hb3 hgs HB; have HB := HB_; clear HB_ g0 g1 g2 g3 g4 g5 g6 g7 g8) | ((with_reducible refine gate_store (t := 93) (p := 3) rfl ?_); refine store_whole rfl rfl 93 (.tmp 3) (.tmp 12) rfl _ (v32 [a0, a1, a2, a3, a4, a5, a6, a7]) rfl rfl HV0.out (by rfl) (show _ = some 8 from by kernel_rfl) (by simp [v32]) (one32 _) ?_; intro w4 hw4; have HS := Aside0.mk (show w4.heap[gs]? = some (.cells (v32 [a0, a1, a2, a3, a4, a5, a6, a7]).toArray 93 (0, 0)) from hw4 ▸ set_all HV0.out rfl); have HB_ := Aside0.mk (show Below w.heap.size w w4 from hw4 ▸ below_cells HB.out HGE.out _ _); clear hw4 HV0 HB; have HB := HB_; clear HB_; have g8 : w4.cell? ⟨g, 8, none⟩ = some (.slice A rl.length c) := (blk_cell (blk_below HG.out HB.out) 8).trans rfl) | ((with_reducible refine gate_dst (N := 13) rfl ?_); refine Kd.R_lit (Kd.int .u8) _ 5 ?hg (N := 13) ?hd (xs := ([] : List Int)) (inner := []) (ok := fun _ => True) (okp := fun _ => True) ?hr ?hp (fun _ hk => hk) trivial (Below.refl _ _) (Nat.le_refl _) (by simp) ?_; (case hd => rfl); (case hg => rfl); (case hr => first | (go_simp; done) | (go_simp; rfl)); (case hp => exact (Reps.none _ _)); intro v0 w4 ho5 hb hg_ hnew_; clear hnew_; have HO := Aside0.mk (Kd.R_lower ho5 (below_size (by repeat (first | (with_reducible first | exact HB.out | apply below_alloc | apply pw_below_drewN | apply below_drew1) | exact HB.out)))); have HB_ := Aside0.mk (below_step (by repeat (first | (with_reducible first | exact HB.out | apply below_alloc | apply pw_below_drewN | apply below_drew1) | exact HB.out)) hb); have HS_ := Aside0.mk (blk_below HS.out hb); clear HB HS; have HB := HB_; have HS := HS_; clear HB_ HS_ hb ho5 hg_; have g8_ : w4.cell? ⟨g, 8, none⟩ = some (.slice A rl.length c) := (blk_cell (blk_below HG.out HB.out) 8).trans rfl; clear g8; have g8 := g8_; clear g8_) | ((with_reducible refine gate_builtin (b := .append) (xs := #[.tmp 13, .tmp 17]) rfl ?_); at_builtin; refine Kd.R_append_rows (Kd.int .u8) (w0 := w) w.heap.size rfl (.tmp 13) (.tmp 17) 25 5 (.int .u8 0) 1 rfl Try.underlying25 inf5 rfl (by decide) (by omega) v0 [] rl A _ c (fun _ => True) (fun _ => False) rfl rfl ?aO ?aR (fun _ _ h => h) (fun _ h => h.elim) ?aF ?aB ?aS ?aL ?_; (case aR => exact (Kd.C_below HR.out HB.out)); (case aB => exact (by repeat (first | (with_reducible first | exact HB.out | apply below_alloc | apply pw_below_drewN | apply below_drew1) | exact HB.out))); (case aF => exact (fun _ _ => trivial)); (case aO => exact (by (with_reducible repeat (first | apply Kd.R_alloc | apply Kd.R_drewN | apply Kd.R_drew)); exact HO.out)); (case aS => exact (below_size (by repeat (first | (with_reducible first | exact HB.out | apply below_alloc | apply pw_below_drewN | apply below_drew1) | exact HB.out)))); (case aL => have := HLN.out; first | omega | (simp; omega)); intro v1 w5 ho hb hg hat; have HB_ := Aside0.mk hb; have HS_ := Aside0.mk (blk_grown HS.out hg (Kd.R_ne HO.out HS.out (by decide))); clear HB HO HS; have HO := Aside0.mk ho; have HB := HB_; have HS := HS_; clear HB_ HS_ ho hb hg hat) | ((with_reducible refine gate_builtin (b := .append) (xs := #[.tmp 19, .tmp 20]) rfl ?_); at_builtin; refine Kd.R_append (Kd.int .u8) (w0 := w) w.heap.size rfl (.tmp 19) (.tmp 20) 25 5 (.int .u8 0) 1 rfl Try.underlying25 inf5 rfl (by decide) (by omega) v1 ([] ++ rl) 128 [.int .u8 128] (fun _ => True) (fun _ => False) rfl rfl ?aP (fun _ hk => hk.elim) ?aF ?aO ?aB ?aS ?aL ?_; (case aP => exact rfl); (case aB => exact (by repeat (first | (with_reducible first | exact HB.out | apply below_alloc | apply pw_below_drewN | apply below_drew1) | exact HB.out))); (case aF => exact (fun _ _ => trivial)); (case aO => exact (by (with_reducible repeat (first | apply Kd.R_alloc | apply Kd.R_drewN | apply Kd.R_drew)); exact HO.out)); (case aS => exact (below_size (by repeat (first | (with_reducible first | exact HB.out | apply below_alloc | apply pw_below_drewN | apply below_drew1) | exact HB.out)))); (case aL => have := HLN.out; first | omega | (simp; omega)); intro v1 w5 ho hb hg hat; have HB_ := Aside0.mk hb; have HS_ := Aside0.mk (blk_grown HS.out hg (Kd.R_ne HO.out HS.out (by decide))); clear HB HO HS; have HO := Aside0.mk ho; have HB := HB_; have HS := HS_; clear HB_ HS_ ho hb hg hat))
 clear g8
 go_loopg [4] (Zn rl.length + 1) (fun kq v4 wr => ∃ z : Nat, Aside0 (kq + z = Zn rl.length + 1) ∧ Aside0 (z ≤ Zn rl.length) ∧ Aside0 (Kd.R (Kd.int .u8) 5 wr w.heap.size (fun _ => True) v4 (rl ++ [128] ++ List.replicate z 0)) ∧ Aside0 (wr.heap[gs]? = some (.cells (v32 [a0, a1, a2, a3, a4, a5, a6, a7]).toArray 93 (0, 0))) ∧ Aside0 (Below w.heap.size w wr))
 case atStart => exact ⟨0, ⟨rfl⟩, ⟨Nat.zero_le _⟩, ⟨by have := HO.out; simpa using this⟩, HS, HB⟩
 case round =>
  clear HO HS HB
  obtain ⟨z, HK, HZN, HO, HS, HB⟩ := hrel
  obtain ⟨k1, rfl⟩ : ∃ k1, gk = k1 + 1 := ⟨gk - 1, by have := HK.out; have := HZN.out; omega⟩
  have hxl : (rl ++ [128] ++ List.replicate z 0).length = rl.length + 1 + z := by simp; omega
  have hzz : Zn rl.length < 64 := by unfold Zn; omega
  by_cases hlt : z < Zn rl.length
  ·have hno := Zn_no rl.length z hlt
   have hap : (rl ++ [128] ++ List.replicate z 0) ++ [0] = rl ++ [128] ++ List.replicate (z + 1) 0 := by rw [List.replicate_succ', ← List.append_assoc]
   have HAP := Aside0.mk hap
   clear hap
   generalize rl ++ [128] ++ List.replicate z 0 = xs at HO hxl HAP
   have HLX := Aside0.mk (show xs.length < 200 by have := HLN.out; omega)
   have b0 : (((xs.length : Int) % 64) == 56) = false := beq_eq_false_iff_ne.mpr (by omega)
   have b1 : (((xs.length : Int) % 64) != 56) = true := bne_iff_ne.mpr (by omega)
   clear hxl hzz hno
   obtain ⟨Ao, co, eo⟩ := Kd.R_slice HO.out
   subst eo
   go_wp2_with (first | ((with_reducible refine gate_builtin (b := .append) (xs := #[.tmp 26, .tmp 27]) rfl ?_); at_builtin; refine Kd.R_append (Kd.int .u8) (w0 := w) w.heap.size rfl (.tmp 26) (.tmp 27) 25 5 (.int .u8 0) 1 rfl Try.underlying25 inf5 rfl (by decide) (by omega) (.slice Ao xs.length co) xs 0 [.int .u8 0] (fun _ => True) (fun _ => False) rfl rfl ?aP (fun _ hk => hk.elim) ?aF ?aO ?aB ?aS ?aL ?_; (case aP => exact rfl); (case aB => exact (by repeat (first | (with_reducible first | exact HB.out | apply below_alloc | apply pw_below_drewN | apply below_drew1) | exact HB.out))); (case aF => exact (fun _ _ => trivial)); (case aO => exact (by (with_reducible repeat (first | apply Kd.R_alloc | apply Kd.R_drewN | apply Kd.R_drew)); exact HO.out)); (case aS => exact (below_size (by repeat (first | (with_reducible first | exact HB.out | apply below_alloc | apply pw_below_drewN | apply below_drew1) | exact HB.out)))); (case aL => have := HLX.out; first | omega | (simp; omega)); intro v1 w5 ho hb hg hat; have HB_ := Aside0.mk hb; have HS_ := Aside0.mk (blk_grown HS.out hg (Kd.R_ne HO.out HS.out (by decide))); clear HB HO HS; have HO := Aside0.mk ho; have HB := HB_; have HS := HS_; clear HB_ HS_ ho hb hg hat))
   go_roundg k1
   case rel => exact ⟨z + 1, ⟨by have := HK.out; omega⟩, ⟨hlt⟩, ⟨by rw [← HAP.out]; exact HO.out⟩, HS, HB⟩
   case measure => have := HK.out; omega
  ·obtain rfl : z = Zn rl.length := by have := HZN.out; omega
   have hok := Zn_ok rl.length
   have htb : tailB rl sz = (rl ++ [128] ++ List.replicate (Zn rl.length) 0) ++ lenB sz 8 := rfl
   have HTB := Aside0.mk htb
   clear htb
   generalize hX : rl ++ [128] ++ List.replicate (Zn rl.length) 0 = xs at HO hxl HTB
   have HLX := Aside0.mk (show xs.length < 200 by have := HLN.out; omega)
   have b0 : (((xs.length : Int) % 64) == 56) = true := beq_iff_eq.mpr (by omega)
   have b1 : (((xs.length : Int) % 64) != 56) = false := bne_eq_false_iff_eq.mpr (by omega)
   have HXL := Aside0.mk (show xs.length % 64 = 56 by omega)
   clear hxl hzz hok hX
   obtain ⟨Ao, co, eo⟩ := Kd.R_slice HO.out
   subst eo
   go_wp2
   clear b0 b1
   go_loopg [4, 5] 9 (fun kq v4 v5 wr => ∃ j : Nat, j ≤ 8 ∧ v5 = .int .i64 (56 - 8 * (j : Int)) ∧ Aside0 (kq + j = 9) ∧ Aside0 (Kd.R (Kd.int .u8) 5 wr w.heap.size (fun _ => True) v4 (xs ++ lenB sz j)) ∧ Aside0 (wr.heap[gs]? = some (.cells (v32 [a0, a1, a2, a3, a4, a5, a6, a7]).toArray 93 (0, 0))) ∧ Aside0 (Below w.heap.size w wr))
   case atStart => exact ⟨0, by omega, rfl, ⟨rfl⟩, ⟨by have := HO.out; simpa [lenB] using this⟩, HS, HB⟩
   case round =>
    clear HO HS HB
    obtain ⟨j, hj, rfl, HK2, HO, HS, HB⟩ := hrel
    obtain ⟨k2, rfl⟩ : ∃ k2, gk = k2 + 1 := ⟨gk - 1, by have := HK2.out; omega⟩
    have h9 : wr.cell? ⟨g, 9, none⟩ = some (.int .u64 sz) := (blk_cell (blk_below HG.out HB.out) 9).trans rfl
    have hyl : (xs ++ lenB sz j).length = xs.length + j := by rw [List.length_append, lenB_len]
    have HS1 := Aside0.mk (lenB_s sz j)
    rcases (show j = 0 ∨ j = 1 ∨ j = 2 ∨ j = 3 ∨ j = 4 ∨ j = 5 ∨ j = 6 ∨ j = 7 ∨ j = 8 by omega) with rfl | rfl | rfl | rfl | rfl | rfl | rfl | rfl | rfl
    ·have hap : (xs ++ lenB sz 0) ++ [(8 * (sz : Int) / 72057594037927936)] = xs ++ lenB sz (0 + 1) := by
      rw [HS1.out, ← List.append_assoc]
      have := HZ.out
      congr 2
      omega
     have HAP := Aside0.mk hap
     clear hap
     generalize xs ++ lenB sz 0 = ys at HO hyl HAP
     have HLY := Aside0.mk (show ys.length < 300 by have := HLX.out; omega)
     have hsz : sz < 140737488352000 := HZ.out
     obtain ⟨Ao, co, eo⟩ := Kd.R_slice HO.out
     subst eo
     go_wp2_with (first | ((with_reducible refine gate_builtin (b := .append) (xs := #[.tmp 33, .tmp 42]) rfl ?_); at_builtin; refine Kd.R_append (Kd.int .u8) (w0 := w) w.heap.size rfl (.tmp 33) (.tmp 42) 25 5 (.int .u8 0) 1 rfl Try.underlying25 inf5 rfl (by decide) (by omega) (.slice Ao ys.length co) ys (8 * (sz : Int) / 72057594037927936) [.int .u8 (8 * (sz : Int) / 72057594037927936)] (fun _ => True) (fun _ => False) rfl rfl ?aP (fun _ hk => hk.elim) ?aF ?aO ?aB ?aS ?aL ?_; (case aP => exact rfl); (case aB => exact (by repeat (first | (with_reducible first | exact HB.out | apply below_alloc | apply pw_below_drewN | apply below_drew1) | exact HB.out))); (case aF => exact (fun _ _ => trivial)); (case aO => exact (by (with_reducible repeat (first | apply Kd.R_alloc | apply Kd.R_drewN | apply Kd.R_drew)); exact HO.out)); (case aS => exact (below_size (by repeat (first | (with_reducible first | exact HB.out | apply below_alloc | apply pw_below_drewN | apply below_drew1) | exact HB.out)))); (case aL => have := HLY.out; first | omega | (simp; omega)); intro v1 w5 ho hb hg hat; have HB_ := Aside0.mk hb; have HS_ := Aside0.mk (blk_grown HS.out hg (Kd.R_ne HO.out HS.out (by decide))); clear HB HO HS; have HO := Aside0.mk ho; have HB := HB_; have HS := HS_; clear HB_ HS_ ho hb hg hat))
     go_roundg k2
     case rel => exact ⟨0 + 1, by decide, by first | rfl | simp, ⟨by have := HK2.out; omega⟩, ⟨by rw [← HAP.out]; exact HO.out⟩, HS, HB⟩
     case measure => have := HK2.out; omega
    ·have hap : (xs ++ lenB sz 1) ++ [(8 * (sz : Int) / 281474976710656)] = xs ++ lenB sz (1 + 1) := by
      rw [HS1.out, ← List.append_assoc]
      have := HZ.out
      congr 2
      omega
     have HAP := Aside0.mk hap
     clear hap
     generalize xs ++ lenB sz 1 = ys at HO hyl HAP
     have HLY := Aside0.mk (show ys.length < 300 by have := HLX.out; omega)
     have hsz : sz < 140737488352000 := HZ.out
     obtain ⟨Ao, co, eo⟩ := Kd.R_slice HO.out
     subst eo
     go_wp2_with (first | ((with_reducible refine gate_builtin (b := .append) (xs := #[.tmp 33, .tmp 42]) rfl ?_); at_builtin; refine Kd.R_append (Kd.int .u8) (w0 := w) w.heap.size rfl (.tmp 33) (.tmp 42) 25 5 (.int .u8 0) 1 rfl Try.underlying25 inf5 rfl (by decide) (by omega) (.slice Ao ys.length co) ys (8 * (sz : Int) / 281474976710656) [.int .u8 (8 * (sz : Int) / 281474976710656)] (fun _ => True) (fun _ => False) rfl rfl ?aP (fun _ hk => hk.elim) ?aF ?aO ?aB ?aS ?aL ?_; (case aP => exact rfl); (case aB => exact (by repeat (first | (with_reducible first | exact HB.out | apply below_alloc | apply pw_below_drewN | apply below_drew1) | exact HB.out))); (case aF => exact (fun _ _ => trivial)); (case aO => exact (by (with_reducible repeat (first | apply Kd.R_alloc | apply Kd.R_drewN | apply Kd.R_drew)); exact HO.out)); (case aS => exact (below_size (by repeat (first | (with_reducible first | exact HB.out | apply below_alloc | apply pw_below_drewN | apply below_drew1) | exact HB.out)))); (case aL => have := HLY.out; first | omega | (simp; omega)); intro v1 w5 ho hb hg hat; have HB_ := Aside0.mk hb; have HS_ := Aside0.mk (blk_grown HS.out hg (Kd.R_ne HO.out HS.out (by decide))); clear HB HO HS; have HO := Aside0.mk ho; have HB := HB_; have HS := HS_; clear HB_ HS_ ho hb hg hat))
     go_roundg k2
     case rel => exact ⟨1 + 1, by decide, by first | rfl | simp, ⟨by have := HK2.out; omega⟩, ⟨by rw [← HAP.out]; exact HO.out⟩, HS, HB⟩
     case measure => have := HK2.out; omega
    ·have hap : (xs ++ lenB sz 2) ++ [((8 * (sz : Int) / 1099511627776) % 256)] = xs ++ lenB sz (2 + 1) := by
      rw [HS1.out, ← List.append_assoc]
      have := HZ.out
      congr 2
      omega
     have HAP := Aside0.mk hap
     clear hap
     generalize xs ++ lenB sz 2 = ys at HO hyl HAP
     have HLY := Aside0.mk (show ys.length < 300 by have := HLX.out; omega)
     have hsz : sz < 140737488352000 := HZ.out
     obtain ⟨Ao, co, eo⟩ := Kd.R_slice HO.out
     subst eo
     go_wp2_with (first | ((with_reducible refine gate_builtin (b := .append) (xs := #[.tmp 33, .tmp 42]) rfl ?_); at_builtin; refine Kd.R_append (Kd.int .u8) (w0 := w) w.heap.size rfl (.tmp 33) (.tmp 42) 25 5 (.int .u8 0) 1 rfl Try.underlying25 inf5 rfl (by decide) (by omega) (.slice Ao ys.length co) ys ((8 * (sz : Int) / 1099511627776) % 256) [.int .u8 ((8 * (sz : Int) / 1099511627776) % 256)] (fun _ => True) (fun _ => False) rfl rfl ?aP (fun _ hk => hk.elim) ?aF ?aO ?aB ?aS ?aL ?_; (case aP => exact rfl); (case aB => exact (by repeat (first | (with_reducible first | exact HB.out | apply below_alloc | apply pw_below_drewN | apply below_drew1) | exact HB.out))); (case aF => exact (fun _ _ => trivial)); (case aO => exact (by (with_reducible repeat (first | apply Kd.R_alloc | apply Kd.R_drewN | apply Kd.R_drew)); exact HO.out)); (case aS => exact (below_size (by repeat (first | (with_reducible first | exact HB.out | apply below_alloc | apply pw_below_drewN | apply below_drew1) | exact HB.out)))); (case aL => have := HLY.out; first | omega | (simp; omega)); intro v1 w5 ho hb hg hat; have HB_ := Aside0.mk hb; have HS_ := Aside0.mk (blk_grown HS.out hg (Kd.R_ne HO.out HS.out (by decide))); clear HB HO HS; have HO := Aside0.mk ho; have HB := HB_; have HS := HS_; clear HB_ HS_ ho hb hg hat))
     go_roundg k2
     case rel => exact ⟨2 + 1, by decide, by first | rfl | simp, ⟨by have := HK2.out; omega⟩, ⟨by rw [← HAP.out]; exact HO.out⟩, HS, HB⟩
     case measure => have := HK2.out; omega
    ·have hap : (xs ++ lenB sz 3) ++ [((8 * (sz : Int) / 4294967296) % 256)] = xs ++ lenB sz (3 + 1) := by
      rw [HS1.out, ← List.append_assoc]
      have := HZ.out
      congr 2
      omega
     have HAP := Aside0.mk hap
     clear hap
     generalize xs ++ lenB sz 3 = ys at HO hyl HAP
     have HLY := Aside0.mk (show ys.length < 300 by have := HLX.out; omega)
     have hsz : sz < 140737488352000 := HZ.out
     obtain ⟨Ao, co, eo⟩ := Kd.R_slice HO.out
     subst eo
     go_wp2_with (first | ((with_reducible refine gate_builtin (b := .append) (xs := #[.tmp 33, .tmp 42]) rfl ?_); at_builtin; refine Kd.R_append (Kd.int .u8) (w0 := w) w.heap.size rfl (.tmp 33) (.tmp 42) 25 5 (.int .u8 0) 1 rfl Try.underlying25 inf5 rfl (by decide) (by omega) (.slice Ao ys.length co) ys ((8 * (sz : Int) / 4294967296) % 256) [.int .u8 ((8 * (sz : Int) / 4294967296) % 256)] (fun _ => True) (fun _ => False) rfl rfl ?aP (fun _ hk => hk.elim) ?aF ?aO ?aB ?aS ?aL ?_; (case aP => exact rfl); (case aB => exact (by repeat (first | (with_reducible first | exact HB.out | apply below_alloc | apply pw_below_drewN | apply below_drew1) | exact HB.out))); (case aF => exact (fun _ _ => trivial)); (case aO => exact (by (with_reducible repeat (first | apply Kd.R_alloc | apply Kd.R_drewN | apply Kd.R_drew)); exact HO.out)); (case aS => exact (below_size (by repeat (first | (with_reducible first | exact HB.out | apply below_alloc | apply pw_below_drewN | apply below_drew1) | exact HB.out)))); (case aL => have := HLY.out; first | omega | (simp; omega)); intro v1 w5 ho hb hg hat; have HB_ := Aside0.mk hb; have HS_ := Aside0.mk (blk_grown HS.out hg (Kd.R_ne HO.out HS.out (by decide))); clear HB HO HS; have HO := Aside0.mk ho; have HB := HB_; have HS := HS_; clear HB_ HS_ ho hb hg hat))
     go_roundg k2
     case rel => exact ⟨3 + 1, by decide, by first | rfl | simp, ⟨by have := HK2.out; omega⟩, ⟨by rw [← HAP.out]; exact HO.out⟩, HS, HB⟩
     case measure => have := HK2.out; omega
    ·have hap : (xs ++ lenB sz 4) ++ [((8 * (sz : Int) / 16777216) % 256)] = xs ++ lenB sz (4 + 1) := by
      rw [HS1.out, ← List.append_assoc]
      have := HZ.out
      congr 2
      omega
     have HAP := Aside0.mk hap
     clear hap
     generalize xs ++ lenB sz 4 = ys at HO hyl HAP
     have HLY := Aside0.mk (show ys.length < 300 by have := HLX.out; omega)
     have hsz : sz < 140737488352000 := HZ.out
     obtain ⟨Ao, co, eo⟩ := Kd.R_slice HO.out
     subst eo
     go_wp2_with (first | ((with_reducible refine gate_builtin (b := .append) (xs := #[.tmp 33, .tmp 42]) rfl ?_); at_builtin; refine Kd.R_append (Kd.int .u8) (w0 := w) w.heap.size rfl (.tmp 33) (.tmp 42) 25 5 (.int .u8 0) 1 rfl Try.underlying25 inf5 rfl (by decide) (by omega) (.slice Ao ys.length co) ys ((8 * (sz : Int) / 16777216) % 256) [.int .u8 ((8 * (sz : Int) / 16777216) % 256)] (fun _ => True) (fun _ => False) rfl rfl ?aP (fun _ hk => hk.elim) ?aF ?aO ?aB ?aS ?aL ?_; (case aP => exact rfl); (case aB => exact (by repeat (first | (with_reducible first | exact HB.out | apply below_alloc | apply pw_below_drewN | apply below_drew1) | exact HB.out))); (case aF => exact (fun _ _ => trivial)); (case aO => exact (by (with_reducible repeat (first | apply Kd.R_alloc | apply Kd.R_drewN | apply Kd.R_drew)); exact HO.out)); (case aS => exact (below_size (by repeat (first | (with_reducible first | exact HB.out | apply below_alloc | apply pw_below_drewN | apply below_drew1) | exact HB.out)))); (case aL => have := HLY.out; first | omega | (simp; omega)); intro v1 w5 ho hb hg hat; have HB_ := Aside0.mk hb; have HS_ := Aside0.mk (blk_grown HS.out hg (Kd.R_ne HO.out HS.out (by decide))); clear HB HO HS; have HO := Aside0.mk ho; have HB := HB_; have HS := HS_; clear HB_ HS_ ho hb hg hat))
     go_roundg k2
     case rel => exact ⟨4 + 1, by decide, by first | rfl | simp, ⟨by have := HK2.out; omega⟩, ⟨by rw [← HAP.out]; exact HO.out⟩, HS, HB⟩
     case measure => have := HK2.out; omega
    ·have hap : (xs ++ lenB sz 5) ++ [((8 * (sz : Int) / 65536) % 256)] = xs ++ lenB sz (5 + 1) := by
      rw [HS1.out, ← List.append_assoc]
      have := HZ.out
      congr 2
      omega
     have HAP := Aside0.mk hap
     clear hap
     generalize xs ++ lenB sz 5 = ys at HO hyl HAP
     have HLY := Aside0.mk (show ys.length < 300 by have := HLX.out; omega)
     have hsz : sz < 140737488352000 := HZ.out
     obtain ⟨Ao, co, eo⟩ := Kd.R_slice HO.out
     subst eo
     go_wp2_with (first | ((with_reducible refine gate_builtin (b := .append) (xs := #[.tmp 33, .tmp 42]) rfl ?_); at_builtin; refine Kd.R_append (Kd.int .u8) (w0 := w) w.heap.size rfl (.tmp 33) (.tmp 42) 25 5 (.int .u8 0) 1 rfl Try.underlying25 inf5 rfl (by decide) (by omega) (.slice Ao ys.length co) ys ((8 * (sz : Int) / 65536) % 256) [.int .u8 ((8 * (sz : Int) / 65536) % 256)] (fun _ => True) (fun _ => False) rfl rfl ?aP (fun _ hk => hk.elim) ?aF ?aO ?aB ?aS ?aL ?_; (case aP => exact rfl); (case aB => exact (by repeat (first | (with_reducible first | exact HB.out | apply below_alloc | apply pw_below_drewN | apply below_drew1) | exact HB.out))); (case aF => exact (fun _ _ => trivial)); (case aO => exact (by (with_reducible repeat (first | apply Kd.R_alloc | apply Kd.R_drewN | apply Kd.R_drew)); exact HO.out)); (case aS => exact (below_size (by repeat (first | (with_reducible first | exact HB.out | apply below_alloc | apply pw_below_drewN | apply below_drew1) | exact HB.out)))); (case aL => have := HLY.out; first | omega | (simp; omega)); intro v1 w5 ho hb hg hat; have HB_ := Aside0.mk hb; have HS_ := Aside0.mk (blk_grown HS.out hg (Kd.R_ne HO.out HS.out (by decide))); clear HB HO HS; have HO := Aside0.mk ho; have HB := HB_; have HS := HS_; clear HB_ HS_ ho hb hg hat))
     go_roundg k2
     case rel => exact ⟨5 + 1, by decide, by first | rfl | simp, ⟨by have := HK2.out; omega⟩, ⟨by rw [← HAP.out]; exact HO.out⟩, HS, HB⟩
     case measure => have := HK2.out; omega
    ·have hap : (xs ++ lenB sz 6) ++ [((8 * (sz : Int) / 256) % 256)] = xs ++ lenB sz (6 + 1) := by
      rw [HS1.out, ← List.append_assoc]
      have := HZ.out
      congr 2
      omega
     have HAP := Aside0.mk hap
     clear hap
     generalize xs ++ lenB sz 6 = ys at HO hyl HAP
     have HLY := Aside0.mk (show ys.length < 300 by have := HLX.out; omega)
     have hsz : sz < 140737488352000 := HZ.out
     obtain ⟨Ao, co, eo⟩ := Kd.R_slice HO.out
     subst eo
     go_wp2_with (first | ((with_reducible refine gate_builtin (b := .append) (xs := #[.tmp 33, .tmp 42]) rfl ?_); at_builtin; refine Kd.R_append (Kd.int .u8) (w0 := w) w.heap.size rfl (.tmp 33) (.tmp 42) 25 5 (.int .u8 0) 1 rfl Try.underlying25 inf5 rfl (by decide) (by omega) (.slice Ao ys.length co) ys ((8 * (sz : Int) / 256) % 256) [.int .u8 ((8 * (sz : Int) / 256) % 256)] (fun _ => True) (fun _ => False) rfl rfl ?aP (fun _ hk => hk.elim) ?aF ?aO ?aB ?aS ?aL ?_; (case aP => exact rfl); (case aB => exact (by repeat (first | (with_reducible first | exact HB.out | apply below_alloc | apply pw_below_drewN | apply below_drew1) | exact HB.out))); (case aF => exact (fun _ _ => trivial)); (case aO => exact (by (with_reducible repeat (first | apply Kd.R_alloc | apply Kd.R_drewN | apply Kd.R_drew)); exact HO.out)); (case aS => exact (below_size (by repeat (first | (with_reducible first | exact HB.out | apply below_alloc | apply pw_below_drewN | apply below_drew1) | exact HB.out)))); (case aL => have := HLY.out; first | omega | (simp; omega)); intro v1 w5 ho hb hg hat; have HB_ := Aside0.mk hb; have HS_ := Aside0.mk (blk_grown HS.out hg (Kd.R_ne HO.out HS.out (by decide))); clear HB HO HS; have HO := Aside0.mk ho; have HB := HB_; have HS := HS_; clear HB_ HS_ ho hb hg hat))
     go_roundg k2
     case rel => exact ⟨6 + 1, by decide, by first | rfl | simp, ⟨by have := HK2.out; omega⟩, ⟨by rw [← HAP.out]; exact HO.out⟩, HS, HB⟩
     case measure => have := HK2.out; omega
    ·have hap : (xs ++ lenB sz 7) ++ [((8 * (sz : Int)) % 256)] = xs ++ lenB sz (7 + 1) := by
      rw [HS1.out, ← List.append_assoc]
      have := HZ.out
      congr 2
      omega
     have HAP := Aside0.mk hap
     clear hap
     generalize xs ++ lenB sz 7 = ys at HO hyl HAP
     have HLY := Aside0.mk (show ys.length < 300 by have := HLX.out; omega)
     have hsz : sz < 140737488352000 := HZ.out
     obtain ⟨Ao, co, eo⟩ := Kd.R_slice HO.out
     subst eo
     go_wp2_with (first | ((with_reducible refine gate_builtin (b := .append) (xs := #[.tmp 33, .tmp 42]) rfl ?_); at_builtin; refine Kd.R_append (Kd.int .u8) (w0 := w) w.heap.size rfl (.tmp 33) (.tmp 42) 25 5 (.int .u8 0) 1 rfl Try.underlying25 inf5 rfl (by decide) (by omega) (.slice Ao ys.length co) ys ((8 * (sz : Int)) % 256) [.int .u8 ((8 * (sz : Int)) % 256)] (fun _ => True) (fun _ => False) rfl rfl ?aP (fun _ hk => hk.elim) ?aF ?aO ?aB ?aS ?aL ?_; (case aP => exact rfl); (case aB => exact (by repeat (first | (with_reducible first | exact HB.out | apply below_alloc | apply pw_below_drewN | apply below_drew1) | exact HB.out))); (case aF => exact (fun _ _ => trivial)); (case aO => exact (by (with_reducible repeat (first | apply Kd.R_alloc | apply Kd.R_drewN | apply Kd.R_drew)); exact HO.out)); (case aS => exact (below_size (by repeat (first | (with_reducible first | exact HB.out | apply below_alloc | apply pw_below_drewN | apply below_drew1) | exact HB.out)))); (case aL => have := HLY.out; first | omega | (simp; omega)); intro v1 w5 ho hb hg hat; have HB_ := Aside0.mk hb; have HS_ := Aside0.mk (blk_grown HS.out hg (Kd.R_ne HO.out HS.out (by decide))); clear HB HO HS; have HO := Aside0.mk ho; have HB := HB_; have HS := HS_; clear HB_ HS_ ho hb hg hat))
     go_roundg k2
     case rel => exact ⟨7 + 1, by decide, by first | rfl | simp, ⟨by have := HK2.out; omega⟩, ⟨by rw [← HAP.out]; exact HO.out⟩, HS, HB⟩
     case measure => have := HK2.out; omega
    ·have hT : xs ++ lenB sz 8 = tailB rl sz := HTB.out.symm
     rw [hT] at HO
     have htl := tailB_len rl sz
     have htn : (tailB rl sz).length < 400 := by have := HLX.out; rw [← hT]; omega
     have htby := tailB_bytes sz HBY.out
     clear hT hyl HS1 h9
     generalize hTT : tailB rl sz = T at HO htl htn htby
     have HTT := Aside0.mk hTT
     clear hTT
     have HTL := Aside0.mk htl
     have HTN := Aside0.mk htn
     have HTY := Aside0.mk htby
     clear htl htn htby
     obtain ⟨Ao, co, eo⟩ := Kd.R_slice HO.out
     subst eo
     have HC0 := Aside0.mk (Kd.R_reads' HO.out).2.2
     have HL0 := Aside0.mk (Kd.R_reads' HO.out).2.1
     have HF0 := Aside0.mk (show ∀ ad, Ao = some ad → 0 < T.length → ad.block ≠ gs from fun ad h1 h2 e => by
      obtain ⟨g', cap, he, hge, _⟩ := Kd.R_form HO.out h2
      have hne := Kd.R_ne HO.out HS.out (by decide)
      injection he with e1 _ _
      rw [e1] at h1 hne
      injection h1 with h1
      rw [← h1] at e
      exact hne (by rw [← e]; simp [Value.ownBlock]))
     go_wp2
     go_loopg [4] (T.length / 64 + 1) (fun kq v4 wr => ∃ (n : Nat) (A' : Option Addr) (c' : Nat), v4 = .slice A' (T.drop (64 * n)).length c' ∧ Aside0 (kq + n = T.length / 64 + 1) ∧ Aside0 (64 * n ≤ T.length) ∧ Aside0 (Kd.C (Kd.int .u8) wr A' (T.drop (64 * n)).length (T.drop (64 * n))) ∧ Aside0 ((T.drop (64 * n)).length ≤ c') ∧ Aside0 (∀ ad, A' = some ad → 0 < (T.drop (64 * n)).length → ad.block ≠ gs) ∧ Aside0 (wr.heap[gs]? = some (.cells (v32 (blocks T n [a0, a1, a2, a3, a4, a5, a6, a7])).toArray 93 (0, 0))) ∧ Aside0 (Below w.heap.size w wr))
     case atStart => exact ⟨0, Ao, co, rfl, ⟨rfl⟩, ⟨Nat.zero_le _⟩, HC0, HL0, HF0, HS, HB⟩
     case round =>
      clear HO HS HB HC0 HL0 HF0
      obtain ⟨n, A', c', rfl, HK3, HN3, HC3, HL3, HF3, HS, HB⟩ := hrel
      have hl8 := blocks_len' T [a0, a1, a2, a3, a4, a5, a6, a7] rfl n
      have hdl : (T.drop (64 * n)).length = T.length - 64 * n := List.length_drop
      by_cases h64 : 0 < (T.drop (64 * n)).length
      ·obtain ⟨k3, rfl⟩ : ∃ k3, gk = k3 + 1 := ⟨gk - 1, by have := HK3.out; have := HN3.out; omega⟩
       have h64' : 64 ≤ (T.drop (64 * n)).length := by have := HTL.out; omega
       obtain ⟨ad, hA⟩ : ∃ ad, A' = some ad := by obtain ⟨ad, e, _⟩ := HC3.out.2.2 (by omega); exact ⟨ad, e⟩
       subst hA
       have hdd' : T.drop (64 * (n + 1)) = (T.drop (64 * n)).drop 64 := by rw [List.drop_drop]; congr 1
       have hbl : blocks T (n + 1) [a0, a1, a2, a3, a4, a5, a6, a7] = comp (blocks T n [a0, a1, a2, a3, a4, a5, a6, a7]) (fun i => (rd ((T.drop (64 * n)).take 64) (i : Int)).toNat) := blocks_step T n _
       have hby : ∀ b ∈ (T.drop (64 * n)).take 64, 0 ≤ b ∧ b < 256 := fun b hb => HTY.out b (List.mem_of_mem_drop (List.mem_of_mem_take hb))
       generalize T.drop (64 * n) = xs3 at HC3 HF3 HL3 h64 h64' hdl hdd' hbl hby ⊢
       have hln : (T.drop (64 * (n + 1))).length = xs3.length - 64 := by rw [hdd', List.length_drop]
       have HDD := Aside0.mk hdd'
       have HLN2 := Aside0.mk hln
       have HBL := Aside0.mk hbl
       have HBY2 := Aside0.mk hby
       have HDL := Aside0.mk hdl
       have htl2 : (xs3.take 64).length = 64 := by rw [List.length_take]; omega
       have HTL2 := Aside0.mk htl2
       have HCT := Aside0.mk (show Kd.C (Kd.int .u8) wr (some ad) 64 (xs3.take 64) from by have := Kd.C_take (m := 64) HC3.out h64'; rw [htl2] at this; exact this)
       have HW8 := Aside0.mk (blocks_32' T [a0, a1, a2, a3, a4, a5, a6, a7] HST.out n)
       have HL8 := Aside0.mk hl8
       have d64 : decide (0 < (xs3.length : Int)) = true := decide_eq_true (by omega)
       have d64n : decide (0 < xs3.length) = true := decide_eq_true h64
       have hc64 : (64 : Int) ≤ (c' : Int) := by have := HL3.out; omega
       have hc64n : 64 ≤ c' := by have := HL3.out; omega
       have HSB := Aside0.mk (show wr.heap[gs]? = some (.cells (v32 (blocks T n [a0, a1, a2, a3, a4, a5, a6, a7]) ++ []).toArray 93 (0, 0)) from by rw [nil_tl]; exact HS.out)
       clear hdd' hbl hby hdl htl2 hl8 hln HS
       by_cases hcap : c' = 64
       ·subst hcap
        go_wp2_with (first | (go_at_call 82; refine (block _ gs 93 (blocks T n [a0, a1, a2, a3, a4, a5, a6, a7]) [] HL8.out HW8.out HSB.out (some ad) 64 (xs3.take 64) HTL2.out HBY2.out HCT.out).mono ?_; rintro e w4 ⟨rfl, hg4, hgr4⟩; have HS4 := Aside0.mk (show w4.heap[gs]? = some (.cells (v32 (comp (blocks T n [a0, a1, a2, a3, a4, a5, a6, a7]) (fun i => (rd (xs3.take 64) (i : Int)).toNat))).toArray 93 (0, 0)) from by rw [nil_tl] at hg4; exact hg4); have HB4 := Aside0.mk (pw_below_grown HB.out (some gs) (below_size HB.out) hgr4 (fun k hk => by injection hk with hk; rw [← hk]; exact HGE.out)); have HC4 := Aside0.mk (C_grown HC3.out hgr4 HF3.out); clear hg4 hgr4 HSB HC3 HB HCT))
        go_roundg k3
        case rel => exact ⟨n + 1, some ad, 64 - 64, by rw [HLN2.out], ⟨by have := HK3.out; omega⟩, ⟨by have := HDL.out; omega⟩, ⟨by rw [HDD.out]; have := Kd.C_drop (m := 64) (c := 64) HC4.out h64' HL3.out; rw [if_pos rfl] at this; exact this⟩, ⟨by rw [HLN2.out]; have := HL3.out; omega⟩, ⟨fun a e hp => HF3.out a e (by omega)⟩, ⟨by rw [HBL.out]; exact HS4.out⟩, HB4⟩
        case measure => have := HK3.out; omega
       ·have HCP := Aside0.mk hcap
        go_wp2_with (first | (go_at_call 82; refine (block _ gs 93 (blocks T n [a0, a1, a2, a3, a4, a5, a6, a7]) [] HL8.out HW8.out HSB.out (some ad) c' (xs3.take 64) HTL2.out HBY2.out HCT.out).mono ?_; rintro e w4 ⟨rfl, hg4, hgr4⟩; have HS4 := Aside0.mk (show w4.heap[gs]? = some (.cells (v32 (comp (blocks T n [a0, a1, a2, a3, a4, a5, a6, a7]) (fun i => (rd (xs3.take 64) (i : Int)).toNat))).toArray 93 (0, 0)) from by rw [nil_tl] at hg4; exact hg4); have HB4 := Aside0.mk (pw_below_grown HB.out (some gs) (below_size HB.out) hgr4 (fun k hk => by injection hk with hk; rw [← hk]; exact HGE.out)); have HC4 := Aside0.mk (C_grown HC3.out hgr4 HF3.out); clear hg4 hgr4 HSB HC3 HB HCT))
        go_roundg k3
        case rel => exact ⟨n + 1, some ⟨ad.block, ad.off + 64, none⟩, c' - 64, by rw [HLN2.out], ⟨by have := HK3.out; omega⟩, ⟨by have := HDL.out; omega⟩, ⟨by rw [HDD.out]; have := Kd.C_drop (m := 64) (c := c') HC4.out h64' HL3.out; rw [if_neg HCP.out] at this; exact this⟩, ⟨by rw [HLN2.out]; have := HL3.out; omega⟩, ⟨fun a e hp => by injection e with e; rw [← e]; exact HF3.out ad rfl (by omega)⟩, ⟨by rw [HBL.out]; exact HS4.out⟩, HB4⟩
        case measure => have := HK3.out; omega
      ·have hn64 : n = T.length / 64 := by have := HN3.out; have := HTL.out; omega
       subst hn64
       have hnil : T.drop (64 * (T.length / 64)) = [] := List.drop_eq_nil_of_le (by omega)
       rw [hnil, List.length_nil]
       clear hnil hdl h64
       have hw8 := blocks_32' T [a0, a1, a2, a3, a4, a5, a6, a7] HST.out (T.length / 64)
       generalize hWS : blocks T (T.length / 64) [a0, a1, a2, a3, a4, a5, a6, a7] = WS at HS hl8 hw8
       have HWS := Aside0.mk hWS
       clear hWS
       obtain ⟨e0, e1, e2, e3, e4, e5, e6, e7, rfl⟩ := len8 hl8
       have x0 : wr.cell? ⟨gs, 0, none⟩ = some (.int .u32 (e0 : Int)) := (blk_cell HS.out 0).trans rfl
       have y0 : e0 < 4294967296 := hw8 _ (by simp)
       have x1 : wr.cell? ⟨gs, 1, none⟩ = some (.int .u32 (e1 : Int)) := (blk_cell HS.out 1).trans rfl
       have y1 : e1 < 4294967296 := hw8 _ (by simp)
       have x2 : wr.cell? ⟨gs, 2, none⟩ = some (.int .u32 (e2 : Int)) := (blk_cell HS.out 2).trans rfl
       have y2 : e2 < 4294967296 := hw8 _ (by simp)
       have x3 : wr.cell? ⟨gs, 3, none⟩ = some (.int .u32 (e3 : Int)) := (blk_cell HS.out 3).trans rfl
       have y3 : e3 < 4294967296 := hw8 _ (by simp)
       have x4 : wr.cell? ⟨gs, 4, none⟩ = some (.int .u32 (e4 : Int)) := (blk_cell HS.out 4).trans rfl
       have y4 : e4 < 4294967296 := hw8 _ (by simp)
       have x5 : wr.cell? ⟨gs, 5, none⟩ = some (.int .u32 (e5 : Int)) := (blk_cell HS.out 5).trans rfl
       have y5 : e5 < 4294967296 := hw8 _ (by simp)
       have x6 : wr.cell? ⟨gs, 6, none⟩ = some (.int .u32 (e6 : Int)) := (blk_cell HS.out 6).trans rfl
       have y6 : e6 < 4294967296 := hw8 _ (by simp)
       have x7 : wr.cell? ⟨gs, 7, none⟩ = some (.int .u32 (e7 : Int)) := (blk_cell HS.out 7).trans rfl
       have y7 : e7 < 4294967296 := hw8 _ (by simp)
       go_wp2
       clear x0 x1 x2 x3 x4 x5 x6 x7
       go_loopg [6, 53] 9 (fun kq v6 v53 wr => ∃ j : Nat, j ≤ 8 ∧ v53 = .int .i64 j ∧ Aside0 (kq + j = 9) ∧ Aside0 (Kd.R (Kd.int .u8) 5 wr w.heap.size (fun _ => True) v6 (outB ([e0, e1, e2, e3, e4, e5, e6, e7].take j))) ∧ Aside0 (Below w.heap.size w wr))
       case atStart => exact ⟨0, by omega, rfl, ⟨rfl⟩, ⟨Kd.R_nil _ _ _ _ _⟩, HB⟩
       case round =>
        clear HS HB
        obtain ⟨j, hj, rfl, HK5, HO, HB⟩ := hrel
        obtain ⟨k5, rfl⟩ : ∃ k5, gk = k5 + 1 := ⟨gk - 1, by have := HK5.out; omega⟩
        rcases (show j = 0 ∨ j = 1 ∨ j = 2 ∨ j = 3 ∨ j = 4 ∨ j = 5 ∨ j = 6 ∨ j = 7 ∨ j = 8 by omega) with rfl | rfl | rfl | rfl | rfl | rfl | rfl | rfl | rfl
        ·have hap : outB ([e0, e1, e2, e3, e4, e5, e6, e7].take 0) ++ [(e0 : Int) / 16777216, (e0 : Int) / 65536 % 256, (e0 : Int) / 256 % 256, (e0 : Int) % 256] = outB ([e0, e1, e2, e3, e4, e5, e6, e7].take (0 + 1)) := by
          rw [show [e0, e1, e2, e3, e4, e5, e6, e7].take (0 + 1) = [e0, e1, e2, e3, e4, e5, e6, e7].take 0 ++ [e0] from rfl, outB_s]
          congr 2 <;> omega
         have hyl : (outB ([e0, e1, e2, e3, e4, e5, e6, e7].take 0)).length < 100 := by rw [outB_len]; simp
         have HAP := Aside0.mk hap
         have HYL := Aside0.mk hyl
         clear hap hyl
         generalize outB ([e0, e1, e2, e3, e4, e5, e6, e7].take 0) = ys at HO HAP HYL
         obtain ⟨Ao, co, eo⟩ := Kd.R_slice HO.out
         subst eo
         have hix : ∀ W : World, Sem.run Try.prog (Instr.index 93 (.agg #[.int .u32 e0, .int .u32 e1, .int .u32 e2, .int .u32 e3, .int .u32 e4, .int .u32 e5, .int .u32 e6, .int .u32 e7]) (.int .i64 0)) W = .ok (.int .u32 e0) W := fun W => by kernel_rfl
         go_wp2_with (first | ((with_reducible refine gate_dst (N := 68) rfl ?_); refine Kd.R_lit (Kd.int .u8) w.heap.size 5 ?hg (N := 68) ?hd (xs := ([(e0 : Int) / 16777216, (e0 : Int) / 65536 % 256, (e0 : Int) / 256 % 256, (e0 : Int) % 256] : List Int)) (inner := [.int .u8 ((e0 : Int) / 16777216), .int .u8 ((e0 : Int) / 65536 % 256), .int .u8 ((e0 : Int) / 256 % 256), .int .u8 ((e0 : Int) % 256)]) (ok := fun _ => True) (okp := fun _ => True) ?hr ?hp (fun _ hk => hk) trivial HB.out (below_size HB.out) (by simp) ?_; (case hd => rfl); (case hg => rfl); (case hr => first | (go_simp; done) | (go_simp; rfl)); (case hp => exact (Reps.one rfl (Reps.one rfl (Reps.one rfl (Reps.one rfl (Reps.none _ _)))))); intro v0 w4 ho5 hb hg_ hnew_; have HO_ := Aside0.mk (Kd.R_step HO.out (fun k _ hk => hg_.block k hk (by simp))); clear HO HB; have HO := HO_; have HB := Aside0.mk hb; have HOL := Aside0.mk ho5; clear HO_ hb ho5 hg_ hnew_; obtain ⟨AL, cL, eL⟩ := Kd.R_slice HOL.out; subst eL) | ((with_reducible refine gate_builtin (b := .append) (xs := #[.tmp 56, .tmp 68]) rfl ?_); at_builtin; refine Kd.R_append_rows (Kd.int .u8) (w0 := w) w.heap.size rfl (.tmp 56) (.tmp 68) 25 5 (.int .u8 0) 1 rfl Try.underlying25 inf5 rfl (by decide) (by omega) (.slice Ao ys.length co) ys [(e0 : Int) / 16777216, (e0 : Int) / 65536 % 256, (e0 : Int) / 256 % 256, (e0 : Int) % 256] AL _ cL (fun _ => True) (fun _ => False) rfl rfl ?aO ?aR (fun _ _ h => h) (fun _ h => h.elim) ?aF ?aB ?aS ?aL ?_; (case aR => exact (Kd.R_reads' HOL.out).2.2); (case aB => exact HB.out); (case aF => exact (fun _ _ => trivial)); (case aO => exact HO.out); (case aS => exact (below_size HB.out)); (case aL => have := HYL.out; simp only [List.length_cons, List.length_nil]; omega); intro v1 w5 ho hb hg hat; have HB_ := Aside0.mk hb; clear HB HO HOL; have HO := Aside0.mk ho; have HB := HB_; clear HB_ ho hb hg hat))
         go_roundg k5
         case rel => exact ⟨0 + 1, by decide, by first | rfl | simp, ⟨by have := HK5.out; omega⟩, ⟨by rw [← HAP.out]; exact HO.out⟩, HB⟩
         case measure => have := HK5.out; omega
        ·have hap : outB ([e0, e1, e2, e3, e4, e5, e6, e7].take 1) ++ [(e1 : Int) / 16777216, (e1 : Int) / 65536 % 256, (e1 : Int) / 256 % 256, (e1 : Int) % 256] = outB ([e0, e1, e2, e3, e4, e5, e6, e7].take (1 + 1)) := by
          rw [show [e0, e1, e2, e3, e4, e5, e6, e7].take (1 + 1) = [e0, e1, e2, e3, e4, e5, e6, e7].take 1 ++ [e1] from rfl, outB_s]
          congr 2 <;> omega
         have hyl : (outB ([e0, e1, e2, e3, e4, e5, e6, e7].take 1)).length < 100 := by rw [outB_len]; simp
         have HAP := Aside0.mk hap
         have HYL := Aside0.mk hyl
         clear hap hyl
         generalize outB ([e0, e1, e2, e3, e4, e5, e6, e7].take 1) = ys at HO HAP HYL
         obtain ⟨Ao, co, eo⟩ := Kd.R_slice HO.out
         subst eo
         have hix : ∀ W : World, Sem.run Try.prog (Instr.index 93 (.agg #[.int .u32 e0, .int .u32 e1, .int .u32 e2, .int .u32 e3, .int .u32 e4, .int .u32 e5, .int .u32 e6, .int .u32 e7]) (.int .i64 1)) W = .ok (.int .u32 e1) W := fun W => by kernel_rfl
         go_wp2_with (first | ((with_reducible refine gate_dst (N := 68) rfl ?_); refine Kd.R_lit (Kd.int .u8) w.heap.size 5 ?hg (N := 68) ?hd (xs := ([(e1 : Int) / 16777216, (e1 : Int) / 65536 % 256, (e1 : Int) / 256 % 256, (e1 : Int) % 256] : List Int)) (inner := [.int .u8 ((e1 : Int) / 16777216), .int .u8 ((e1 : Int) / 65536 % 256), .int .u8 ((e1 : Int) / 256 % 256), .int .u8 ((e1 : Int) % 256)]) (ok := fun _ => True) (okp := fun _ => True) ?hr ?hp (fun _ hk => hk) trivial HB.out (below_size HB.out) (by simp) ?_; (case hd => rfl); (case hg => rfl); (case hr => first | (go_simp; done) | (go_simp; rfl)); (case hp => exact (Reps.one rfl (Reps.one rfl (Reps.one rfl (Reps.one rfl (Reps.none _ _)))))); intro v0 w4 ho5 hb hg_ hnew_; have HO_ := Aside0.mk (Kd.R_step HO.out (fun k _ hk => hg_.block k hk (by simp))); clear HO HB; have HO := HO_; have HB := Aside0.mk hb; have HOL := Aside0.mk ho5; clear HO_ hb ho5 hg_ hnew_; obtain ⟨AL, cL, eL⟩ := Kd.R_slice HOL.out; subst eL) | ((with_reducible refine gate_builtin (b := .append) (xs := #[.tmp 56, .tmp 68]) rfl ?_); at_builtin; refine Kd.R_append_rows (Kd.int .u8) (w0 := w) w.heap.size rfl (.tmp 56) (.tmp 68) 25 5 (.int .u8 0) 1 rfl Try.underlying25 inf5 rfl (by decide) (by omega) (.slice Ao ys.length co) ys [(e1 : Int) / 16777216, (e1 : Int) / 65536 % 256, (e1 : Int) / 256 % 256, (e1 : Int) % 256] AL _ cL (fun _ => True) (fun _ => False) rfl rfl ?aO ?aR (fun _ _ h => h) (fun _ h => h.elim) ?aF ?aB ?aS ?aL ?_; (case aR => exact (Kd.R_reads' HOL.out).2.2); (case aB => exact HB.out); (case aF => exact (fun _ _ => trivial)); (case aO => exact HO.out); (case aS => exact (below_size HB.out)); (case aL => have := HYL.out; simp only [List.length_cons, List.length_nil]; omega); intro v1 w5 ho hb hg hat; have HB_ := Aside0.mk hb; clear HB HO HOL; have HO := Aside0.mk ho; have HB := HB_; clear HB_ ho hb hg hat))
         go_roundg k5
         case rel => exact ⟨1 + 1, by decide, by first | rfl | simp, ⟨by have := HK5.out; omega⟩, ⟨by rw [← HAP.out]; exact HO.out⟩, HB⟩
         case measure => have := HK5.out; omega
        ·have hap : outB ([e0, e1, e2, e3, e4, e5, e6, e7].take 2) ++ [(e2 : Int) / 16777216, (e2 : Int) / 65536 % 256, (e2 : Int) / 256 % 256, (e2 : Int) % 256] = outB ([e0, e1, e2, e3, e4, e5, e6, e7].take (2 + 1)) := by
          rw [show [e0, e1, e2, e3, e4, e5, e6, e7].take (2 + 1) = [e0, e1, e2, e3, e4, e5, e6, e7].take 2 ++ [e2] from rfl, outB_s]
          congr 2 <;> omega
         have hyl : (outB ([e0, e1, e2, e3, e4, e5, e6, e7].take 2)).length < 100 := by rw [outB_len]; simp
         have HAP := Aside0.mk hap
         have HYL := Aside0.mk hyl
         clear hap hyl
         generalize outB ([e0, e1, e2, e3, e4, e5, e6, e7].take 2) = ys at HO HAP HYL
         obtain ⟨Ao, co, eo⟩ := Kd.R_slice HO.out
         subst eo
         have hix : ∀ W : World, Sem.run Try.prog (Instr.index 93 (.agg #[.int .u32 e0, .int .u32 e1, .int .u32 e2, .int .u32 e3, .int .u32 e4, .int .u32 e5, .int .u32 e6, .int .u32 e7]) (.int .i64 2)) W = .ok (.int .u32 e2) W := fun W => by kernel_rfl
         go_wp2_with (first | ((with_reducible refine gate_dst (N := 68) rfl ?_); refine Kd.R_lit (Kd.int .u8) w.heap.size 5 ?hg (N := 68) ?hd (xs := ([(e2 : Int) / 16777216, (e2 : Int) / 65536 % 256, (e2 : Int) / 256 % 256, (e2 : Int) % 256] : List Int)) (inner := [.int .u8 ((e2 : Int) / 16777216), .int .u8 ((e2 : Int) / 65536 % 256), .int .u8 ((e2 : Int) / 256 % 256), .int .u8 ((e2 : Int) % 256)]) (ok := fun _ => True) (okp := fun _ => True) ?hr ?hp (fun _ hk => hk) trivial HB.out (below_size HB.out) (by simp) ?_; (case hd => rfl); (case hg => rfl); (case hr => first | (go_simp; done) | (go_simp; rfl)); (case hp => exact (Reps.one rfl (Reps.one rfl (Reps.one rfl (Reps.one rfl (Reps.none _ _)))))); intro v0 w4 ho5 hb hg_ hnew_; have HO_ := Aside0.mk (Kd.R_step HO.out (fun k _ hk => hg_.block k hk (by simp))); clear HO HB; have HO := HO_; have HB := Aside0.mk hb; have HOL := Aside0.mk ho5; clear HO_ hb ho5 hg_ hnew_; obtain ⟨AL, cL, eL⟩ := Kd.R_slice HOL.out; subst eL) | ((with_reducible refine gate_builtin (b := .append) (xs := #[.tmp 56, .tmp 68]) rfl ?_); at_builtin; refine Kd.R_append_rows (Kd.int .u8) (w0 := w) w.heap.size rfl (.tmp 56) (.tmp 68) 25 5 (.int .u8 0) 1 rfl Try.underlying25 inf5 rfl (by decide) (by omega) (.slice Ao ys.length co) ys [(e2 : Int) / 16777216, (e2 : Int) / 65536 % 256, (e2 : Int) / 256 % 256, (e2 : Int) % 256] AL _ cL (fun _ => True) (fun _ => False) rfl rfl ?aO ?aR (fun _ _ h => h) (fun _ h => h.elim) ?aF ?aB ?aS ?aL ?_; (case aR => exact (Kd.R_reads' HOL.out).2.2); (case aB => exact HB.out); (case aF => exact (fun _ _ => trivial)); (case aO => exact HO.out); (case aS => exact (below_size HB.out)); (case aL => have := HYL.out; simp only [List.length_cons, List.length_nil]; omega); intro v1 w5 ho hb hg hat; have HB_ := Aside0.mk hb; clear HB HO HOL; have HO := Aside0.mk ho; have HB := HB_; clear HB_ ho hb hg hat))
         go_roundg k5
         case rel => exact ⟨2 + 1, by decide, by first | rfl | simp, ⟨by have := HK5.out; omega⟩, ⟨by rw [← HAP.out]; exact HO.out⟩, HB⟩
         case measure => have := HK5.out; omega
        ·have hap : outB ([e0, e1, e2, e3, e4, e5, e6, e7].take 3) ++ [(e3 : Int) / 16777216, (e3 : Int) / 65536 % 256, (e3 : Int) / 256 % 256, (e3 : Int) % 256] = outB ([e0, e1, e2, e3, e4, e5, e6, e7].take (3 + 1)) := by
          rw [show [e0, e1, e2, e3, e4, e5, e6, e7].take (3 + 1) = [e0, e1, e2, e3, e4, e5, e6, e7].take 3 ++ [e3] from rfl, outB_s]
          congr 2 <;> omega
         have hyl : (outB ([e0, e1, e2, e3, e4, e5, e6, e7].take 3)).length < 100 := by rw [outB_len]; simp
         have HAP := Aside0.mk hap
         have HYL := Aside0.mk hyl
         clear hap hyl
         generalize outB ([e0, e1, e2, e3, e4, e5, e6, e7].take 3) = ys at HO HAP HYL
         obtain ⟨Ao, co, eo⟩ := Kd.R_slice HO.out
         subst eo
         have hix : ∀ W : World, Sem.run Try.prog (Instr.index 93 (.agg #[.int .u32 e0, .int .u32 e1, .int .u32 e2, .int .u32 e3, .int .u32 e4, .int .u32 e5, .int .u32 e6, .int .u32 e7]) (.int .i64 3)) W = .ok (.int .u32 e3) W := fun W => by kernel_rfl
         go_wp2_with (first | ((with_reducible refine gate_dst (N := 68) rfl ?_); refine Kd.R_lit (Kd.int .u8) w.heap.size 5 ?hg (N := 68) ?hd (xs := ([(e3 : Int) / 16777216, (e3 : Int) / 65536 % 256, (e3 : Int) / 256 % 256, (e3 : Int) % 256] : List Int)) (inner := [.int .u8 ((e3 : Int) / 16777216), .int .u8 ((e3 : Int) / 65536 % 256), .int .u8 ((e3 : Int) / 256 % 256), .int .u8 ((e3 : Int) % 256)]) (ok := fun _ => True) (okp := fun _ => True) ?hr ?hp (fun _ hk => hk) trivial HB.out (below_size HB.out) (by simp) ?_; (case hd => rfl); (case hg => rfl); (case hr => first | (go_simp; done) | (go_simp; rfl)); (case hp => exact (Reps.one rfl (Reps.one rfl (Reps.one rfl (Reps.one rfl (Reps.none _ _)))))); intro v0 w4 ho5 hb hg_ hnew_; have HO_ := Aside0.mk (Kd.R_step HO.out (fun k _ hk => hg_.block k hk (by simp))); clear HO HB; have HO := HO_; have HB := Aside0.mk hb; have HOL := Aside0.mk ho5; clear HO_ hb ho5 hg_ hnew_; obtain ⟨AL, cL, eL⟩ := Kd.R_slice HOL.out; subst eL) | ((with_reducible refine gate_builtin (b := .append) (xs := #[.tmp 56, .tmp 68]) rfl ?_); at_builtin; refine Kd.R_append_rows (Kd.int .u8) (w0 := w) w.heap.size rfl (.tmp 56) (.tmp 68) 25 5 (.int .u8 0) 1 rfl Try.underlying25 inf5 rfl (by decide) (by omega) (.slice Ao ys.length co) ys [(e3 : Int) / 16777216, (e3 : Int) / 65536 % 256, (e3 : Int) / 256 % 256, (e3 : Int) % 256] AL _ cL (fun _ => True) (fun _ => False) rfl rfl ?aO ?aR (fun _ _ h => h) (fun _ h => h.elim) ?aF ?aB ?aS ?aL ?_; (case aR => exact (Kd.R_reads' HOL.out).2.2); (case aB => exact HB.out); (case aF => exact (fun _ _ => trivial)); (case aO => exact HO.out); (case aS => exact (below_size HB.out)); (case aL => have := HYL.out; simp only [List.length_cons, List.length_nil]; omega); intro v1 w5 ho hb hg hat; have HB_ := Aside0.mk hb; clear HB HO HOL; have HO := Aside0.mk ho; have HB := HB_; clear HB_ ho hb hg hat))
         go_roundg k5
         case rel => exact ⟨3 + 1, by decide, by first | rfl | simp, ⟨by have := HK5.out; omega⟩, ⟨by rw [← HAP.out]; exact HO.out⟩, HB⟩
         case measure => have := HK5.out; omega
        ·have hap : outB ([e0, e1, e2, e3, e4, e5, e6, e7].take 4) ++ [(e4 : Int) / 16777216, (e4 : Int) / 65536 % 256, (e4 : Int) / 256 % 256, (e4 : Int) % 256] = outB ([e0, e1, e2, e3, e4, e5, e6, e7].take (4 + 1)) := by
          rw [show [e0, e1, e2, e3, e4, e5, e6, e7].take (4 + 1) = [e0, e1, e2, e3, e4, e5, e6, e7].take 4 ++ [e4] from rfl, outB_s]
          congr 2 <;> omega
         have hyl : (outB ([e0, e1, e2, e3, e4, e5, e6, e7].take 4)).length < 100 := by rw [outB_len]; simp
         have HAP := Aside0.mk hap
         have HYL := Aside0.mk hyl
         clear hap hyl
         generalize outB ([e0, e1, e2, e3, e4, e5, e6, e7].take 4) = ys at HO HAP HYL
         obtain ⟨Ao, co, eo⟩ := Kd.R_slice HO.out
         subst eo
         have hix : ∀ W : World, Sem.run Try.prog (Instr.index 93 (.agg #[.int .u32 e0, .int .u32 e1, .int .u32 e2, .int .u32 e3, .int .u32 e4, .int .u32 e5, .int .u32 e6, .int .u32 e7]) (.int .i64 4)) W = .ok (.int .u32 e4) W := fun W => by kernel_rfl
         go_wp2_with (first | ((with_reducible refine gate_dst (N := 68) rfl ?_); refine Kd.R_lit (Kd.int .u8) w.heap.size 5 ?hg (N := 68) ?hd (xs := ([(e4 : Int) / 16777216, (e4 : Int) / 65536 % 256, (e4 : Int) / 256 % 256, (e4 : Int) % 256] : List Int)) (inner := [.int .u8 ((e4 : Int) / 16777216), .int .u8 ((e4 : Int) / 65536 % 256), .int .u8 ((e4 : Int) / 256 % 256), .int .u8 ((e4 : Int) % 256)]) (ok := fun _ => True) (okp := fun _ => True) ?hr ?hp (fun _ hk => hk) trivial HB.out (below_size HB.out) (by simp) ?_; (case hd => rfl); (case hg => rfl); (case hr => first | (go_simp; done) | (go_simp; rfl)); (case hp => exact (Reps.one rfl (Reps.one rfl (Reps.one rfl (Reps.one rfl (Reps.none _ _)))))); intro v0 w4 ho5 hb hg_ hnew_; have HO_ := Aside0.mk (Kd.R_step HO.out (fun k _ hk => hg_.block k hk (by simp))); clear HO HB; have HO := HO_; have HB := Aside0.mk hb; have HOL := Aside0.mk ho5; clear HO_ hb ho5 hg_ hnew_; obtain ⟨AL, cL, eL⟩ := Kd.R_slice HOL.out; subst eL) | ((with_reducible refine gate_builtin (b := .append) (xs := #[.tmp 56, .tmp 68]) rfl ?_); at_builtin; refine Kd.R_append_rows (Kd.int .u8) (w0 := w) w.heap.size rfl (.tmp 56) (.tmp 68) 25 5 (.int .u8 0) 1 rfl Try.underlying25 inf5 rfl (by decide) (by omega) (.slice Ao ys.length co) ys [(e4 : Int) / 16777216, (e4 : Int) / 65536 % 256, (e4 : Int) / 256 % 256, (e4 : Int) % 256] AL _ cL (fun _ => True) (fun _ => False) rfl rfl ?aO ?aR (fun _ _ h => h) (fun _ h => h.elim) ?aF ?aB ?aS ?aL ?_; (case aR => exact (Kd.R_reads' HOL.out).2.2); (case aB => exact HB.out); (case aF => exact (fun _ _ => trivial)); (case aO => exact HO.out); (case aS => exact (below_size HB.out)); (case aL => have := HYL.out; simp only [List.length_cons, List.length_nil]; omega); intro v1 w5 ho hb hg hat; have HB_ := Aside0.mk hb; clear HB HO HOL; have HO := Aside0.mk ho; have HB := HB_; clear HB_ ho hb hg hat))
         go_roundg k5
         case rel => exact ⟨4 + 1, by decide, by first | rfl | simp, ⟨by have := HK5.out; omega⟩, ⟨by rw [← HAP.out]; exact HO.out⟩, HB⟩
         case measure => have := HK5.out; omega
        ·have hap : outB ([e0, e1, e2, e3, e4, e5, e6, e7].take 5) ++ [(e5 : Int) / 16777216, (e5 : Int) / 65536 % 256, (e5 : Int) / 256 % 256, (e5 : Int) % 256] = outB ([e0, e1, e2, e3, e4, e5, e6, e7].take (5 + 1)) := by
          rw [show [e0, e1, e2, e3, e4, e5, e6, e7].take (5 + 1) = [e0, e1, e2, e3, e4, e5, e6, e7].take 5 ++ [e5] from rfl, outB_s]
          congr 2 <;> omega
         have hyl : (outB ([e0, e1, e2, e3, e4, e5, e6, e7].take 5)).length < 100 := by rw [outB_len]; simp
         have HAP := Aside0.mk hap
         have HYL := Aside0.mk hyl
         clear hap hyl
         generalize outB ([e0, e1, e2, e3, e4, e5, e6, e7].take 5) = ys at HO HAP HYL
         obtain ⟨Ao, co, eo⟩ := Kd.R_slice HO.out
         subst eo
         have hix : ∀ W : World, Sem.run Try.prog (Instr.index 93 (.agg #[.int .u32 e0, .int .u32 e1, .int .u32 e2, .int .u32 e3, .int .u32 e4, .int .u32 e5, .int .u32 e6, .int .u32 e7]) (.int .i64 5)) W = .ok (.int .u32 e5) W := fun W => by kernel_rfl
         go_wp2_with (first | ((with_reducible refine gate_dst (N := 68) rfl ?_); refine Kd.R_lit (Kd.int .u8) w.heap.size 5 ?hg (N := 68) ?hd (xs := ([(e5 : Int) / 16777216, (e5 : Int) / 65536 % 256, (e5 : Int) / 256 % 256, (e5 : Int) % 256] : List Int)) (inner := [.int .u8 ((e5 : Int) / 16777216), .int .u8 ((e5 : Int) / 65536 % 256), .int .u8 ((e5 : Int) / 256 % 256), .int .u8 ((e5 : Int) % 256)]) (ok := fun _ => True) (okp := fun _ => True) ?hr ?hp (fun _ hk => hk) trivial HB.out (below_size HB.out) (by simp) ?_; (case hd => rfl); (case hg => rfl); (case hr => first | (go_simp; done) | (go_simp; rfl)); (case hp => exact (Reps.one rfl (Reps.one rfl (Reps.one rfl (Reps.one rfl (Reps.none _ _)))))); intro v0 w4 ho5 hb hg_ hnew_; have HO_ := Aside0.mk (Kd.R_step HO.out (fun k _ hk => hg_.block k hk (by simp))); clear HO HB; have HO := HO_; have HB := Aside0.mk hb; have HOL := Aside0.mk ho5; clear HO_ hb ho5 hg_ hnew_; obtain ⟨AL, cL, eL⟩ := Kd.R_slice HOL.out; subst eL) | ((with_reducible refine gate_builtin (b := .append) (xs := #[.tmp 56, .tmp 68]) rfl ?_); at_builtin; refine Kd.R_append_rows (Kd.int .u8) (w0 := w) w.heap.size rfl (.tmp 56) (.tmp 68) 25 5 (.int .u8 0) 1 rfl Try.underlying25 inf5 rfl (by decide) (by omega) (.slice Ao ys.length co) ys [(e5 : Int) / 16777216, (e5 : Int) / 65536 % 256, (e5 : Int) / 256 % 256, (e5 : Int) % 256] AL _ cL (fun _ => True) (fun _ => False) rfl rfl ?aO ?aR (fun _ _ h => h) (fun _ h => h.elim) ?aF ?aB ?aS ?aL ?_; (case aR => exact (Kd.R_reads' HOL.out).2.2); (case aB => exact HB.out); (case aF => exact (fun _ _ => trivial)); (case aO => exact HO.out); (case aS => exact (below_size HB.out)); (case aL => have := HYL.out; simp only [List.length_cons, List.length_nil]; omega); intro v1 w5 ho hb hg hat; have HB_ := Aside0.mk hb; clear HB HO HOL; have HO := Aside0.mk ho; have HB := HB_; clear HB_ ho hb hg hat))
         go_roundg k5
         case rel => exact ⟨5 + 1, by decide, by first | rfl | simp, ⟨by have := HK5.out; omega⟩, ⟨by rw [← HAP.out]; exact HO.out⟩, HB⟩
         case measure => have := HK5.out; omega
        ·have hap : outB ([e0, e1, e2, e3, e4, e5, e6, e7].take 6) ++ [(e6 : Int) / 16777216, (e6 : Int) / 65536 % 256, (e6 : Int) / 256 % 256, (e6 : Int) % 256] = outB ([e0, e1, e2, e3, e4, e5, e6, e7].take (6 + 1)) := by
          rw [show [e0, e1, e2, e3, e4, e5, e6, e7].take (6 + 1) = [e0, e1, e2, e3, e4, e5, e6, e7].take 6 ++ [e6] from rfl, outB_s]
          congr 2 <;> omega
         have hyl : (outB ([e0, e1, e2, e3, e4, e5, e6, e7].take 6)).length < 100 := by rw [outB_len]; simp
         have HAP := Aside0.mk hap
         have HYL := Aside0.mk hyl
         clear hap hyl
         generalize outB ([e0, e1, e2, e3, e4, e5, e6, e7].take 6) = ys at HO HAP HYL
         obtain ⟨Ao, co, eo⟩ := Kd.R_slice HO.out
         subst eo
         have hix : ∀ W : World, Sem.run Try.prog (Instr.index 93 (.agg #[.int .u32 e0, .int .u32 e1, .int .u32 e2, .int .u32 e3, .int .u32 e4, .int .u32 e5, .int .u32 e6, .int .u32 e7]) (.int .i64 6)) W = .ok (.int .u32 e6) W := fun W => by kernel_rfl
         go_wp2_with (first | ((with_reducible refine gate_dst (N := 68) rfl ?_); refine Kd.R_lit (Kd.int .u8) w.heap.size 5 ?hg (N := 68) ?hd (xs := ([(e6 : Int) / 16777216, (e6 : Int) / 65536 % 256, (e6 : Int) / 256 % 256, (e6 : Int) % 256] : List Int)) (inner := [.int .u8 ((e6 : Int) / 16777216), .int .u8 ((e6 : Int) / 65536 % 256), .int .u8 ((e6 : Int) / 256 % 256), .int .u8 ((e6 : Int) % 256)]) (ok := fun _ => True) (okp := fun _ => True) ?hr ?hp (fun _ hk => hk) trivial HB.out (below_size HB.out) (by simp) ?_; (case hd => rfl); (case hg => rfl); (case hr => first | (go_simp; done) | (go_simp; rfl)); (case hp => exact (Reps.one rfl (Reps.one rfl (Reps.one rfl (Reps.one rfl (Reps.none _ _)))))); intro v0 w4 ho5 hb hg_ hnew_; have HO_ := Aside0.mk (Kd.R_step HO.out (fun k _ hk => hg_.block k hk (by simp))); clear HO HB; have HO := HO_; have HB := Aside0.mk hb; have HOL := Aside0.mk ho5; clear HO_ hb ho5 hg_ hnew_; obtain ⟨AL, cL, eL⟩ := Kd.R_slice HOL.out; subst eL) | ((with_reducible refine gate_builtin (b := .append) (xs := #[.tmp 56, .tmp 68]) rfl ?_); at_builtin; refine Kd.R_append_rows (Kd.int .u8) (w0 := w) w.heap.size rfl (.tmp 56) (.tmp 68) 25 5 (.int .u8 0) 1 rfl Try.underlying25 inf5 rfl (by decide) (by omega) (.slice Ao ys.length co) ys [(e6 : Int) / 16777216, (e6 : Int) / 65536 % 256, (e6 : Int) / 256 % 256, (e6 : Int) % 256] AL _ cL (fun _ => True) (fun _ => False) rfl rfl ?aO ?aR (fun _ _ h => h) (fun _ h => h.elim) ?aF ?aB ?aS ?aL ?_; (case aR => exact (Kd.R_reads' HOL.out).2.2); (case aB => exact HB.out); (case aF => exact (fun _ _ => trivial)); (case aO => exact HO.out); (case aS => exact (below_size HB.out)); (case aL => have := HYL.out; simp only [List.length_cons, List.length_nil]; omega); intro v1 w5 ho hb hg hat; have HB_ := Aside0.mk hb; clear HB HO HOL; have HO := Aside0.mk ho; have HB := HB_; clear HB_ ho hb hg hat))
         go_roundg k5
         case rel => exact ⟨6 + 1, by decide, by first | rfl | simp, ⟨by have := HK5.out; omega⟩, ⟨by rw [← HAP.out]; exact HO.out⟩, HB⟩
         case measure => have := HK5.out; omega
        ·have hap : outB ([e0, e1, e2, e3, e4, e5, e6, e7].take 7) ++ [(e7 : Int) / 16777216, (e7 : Int) / 65536 % 256, (e7 : Int) / 256 % 256, (e7 : Int) % 256] = outB ([e0, e1, e2, e3, e4, e5, e6, e7].take (7 + 1)) := by
          rw [show [e0, e1, e2, e3, e4, e5, e6, e7].take (7 + 1) = [e0, e1, e2, e3, e4, e5, e6, e7].take 7 ++ [e7] from rfl, outB_s]
          congr 2 <;> omega
         have hyl : (outB ([e0, e1, e2, e3, e4, e5, e6, e7].take 7)).length < 100 := by rw [outB_len]; simp
         have HAP := Aside0.mk hap
         have HYL := Aside0.mk hyl
         clear hap hyl
         generalize outB ([e0, e1, e2, e3, e4, e5, e6, e7].take 7) = ys at HO HAP HYL
         obtain ⟨Ao, co, eo⟩ := Kd.R_slice HO.out
         subst eo
         have hix : ∀ W : World, Sem.run Try.prog (Instr.index 93 (.agg #[.int .u32 e0, .int .u32 e1, .int .u32 e2, .int .u32 e3, .int .u32 e4, .int .u32 e5, .int .u32 e6, .int .u32 e7]) (.int .i64 7)) W = .ok (.int .u32 e7) W := fun W => by kernel_rfl
         go_wp2_with (first | ((with_reducible refine gate_dst (N := 68) rfl ?_); refine Kd.R_lit (Kd.int .u8) w.heap.size 5 ?hg (N := 68) ?hd (xs := ([(e7 : Int) / 16777216, (e7 : Int) / 65536 % 256, (e7 : Int) / 256 % 256, (e7 : Int) % 256] : List Int)) (inner := [.int .u8 ((e7 : Int) / 16777216), .int .u8 ((e7 : Int) / 65536 % 256), .int .u8 ((e7 : Int) / 256 % 256), .int .u8 ((e7 : Int) % 256)]) (ok := fun _ => True) (okp := fun _ => True) ?hr ?hp (fun _ hk => hk) trivial HB.out (below_size HB.out) (by simp) ?_; (case hd => rfl); (case hg => rfl); (case hr => first | (go_simp; done) | (go_simp; rfl)); (case hp => exact (Reps.one rfl (Reps.one rfl (Reps.one rfl (Reps.one rfl (Reps.none _ _)))))); intro v0 w4 ho5 hb hg_ hnew_; have HO_ := Aside0.mk (Kd.R_step HO.out (fun k _ hk => hg_.block k hk (by simp))); clear HO HB; have HO := HO_; have HB := Aside0.mk hb; have HOL := Aside0.mk ho5; clear HO_ hb ho5 hg_ hnew_; obtain ⟨AL, cL, eL⟩ := Kd.R_slice HOL.out; subst eL) | ((with_reducible refine gate_builtin (b := .append) (xs := #[.tmp 56, .tmp 68]) rfl ?_); at_builtin; refine Kd.R_append_rows (Kd.int .u8) (w0 := w) w.heap.size rfl (.tmp 56) (.tmp 68) 25 5 (.int .u8 0) 1 rfl Try.underlying25 inf5 rfl (by decide) (by omega) (.slice Ao ys.length co) ys [(e7 : Int) / 16777216, (e7 : Int) / 65536 % 256, (e7 : Int) / 256 % 256, (e7 : Int) % 256] AL _ cL (fun _ => True) (fun _ => False) rfl rfl ?aO ?aR (fun _ _ h => h) (fun _ h => h.elim) ?aF ?aB ?aS ?aL ?_; (case aR => exact (Kd.R_reads' HOL.out).2.2); (case aB => exact HB.out); (case aF => exact (fun _ _ => trivial)); (case aO => exact HO.out); (case aS => exact (below_size HB.out)); (case aL => have := HYL.out; simp only [List.length_cons, List.length_nil]; omega); intro v1 w5 ho hb hg hat; have HB_ := Aside0.mk hb; clear HB HO HOL; have HO := Aside0.mk ho; have HB := HB_; clear HB_ ho hb hg hat))
         go_roundg k5
         case rel => exact ⟨7 + 1, by decide, by first | rfl | simp, ⟨by have := HK5.out; omega⟩, ⟨by rw [← HAP.out]; exact HO.out⟩, HB⟩
         case measure => have := HK5.out; omega
        ·go_wp2
         go_ret
         exact ⟨_, rfl, by rw [HTT.out, HWS.out]; exact HO.out, HB.out⟩
theorem lit_event {P : Program} {ops : Array Oper} {rest : List Oper} {o : Oper} {a : Act} {Q : Exit → Act → World → Prop} {W : World} (hgd : o.guard = none) {N : Tmp} (_hd : o.dst = some N) {cs : Array Value} {t n : Nat}
  (hrun : (execOp a.eval o).run P W = .ok (.value (.slice (some ⟨W.heap.size, 0, none⟩) n n)) (W.alloc (.cells cs t (0, 0))))
  (h : ∀ g, g = W.heap.size → ∀ w1, w1.heap[g]? = some (.cells cs t (0, 0)) → Below W.heap.size W w1 → wpList P ops Q rest (a.put o.dst (.slice (some ⟨g, 0, none⟩) n n)) w1) : wpList P ops Q (o :: rest) a W :=
 Kd.event_run hgd hrun (h _ rfl _ (blk_new W _) (below_alloc (Below.refl _ _) _))
def restB (l : List Int) : List Int := l.drop (64 * (l.length / 64))
def shaI (l : List Int) : List Int := outB (blocks (tailB (restB l) l.length) ((tailB (restB l) l.length).length / 64) (blocks l (l.length / 64) S0))
set_option maxHeartbeats 400000 in
theorem sum_any (w : World) (A : Option Addr) (c : Nat) (l : List Int) (hr : Kd.C (Kd.int .u8) w A l.length l) (hc : l.length ≤ c) (hb : bytes8 l) (hn : l.length < 140737488352000) :
  Calls Try.prog 64 #[.slice A l.length c] w fun e w' => ∃ v0, e = .returned v0 ∧ Kd.R (Kd.int .u8) 5 w' w.heap.size (fun _ => True) v0 (shaI l) ∧ Below w.heap.size w w' := by
 have HR := Aside0.mk hr
 have HC := Aside0.mk hc
 have HBY := Aside0.mk hb
 have HN := Aside0.mk hn
 have HB := Aside0.mk (Below.refl w.heap.size w)
 clear hr hc hb hn
 go_enter Try.func64, Try.ntmps64
 go_wp2_with (first | (go_at_call 73; refine (new_any _).mono ?_; rintro e w1 ⟨g, rfl, hg, hge, hb⟩; have HG := Aside0.mk hg; have HGE := Aside0.mk hge; have HB1 := Aside0.mk hb; clear hg hge hb HB) | ((with_reducible refine gate_dst (N := 7) rfl ?_); refine lit_event ?hg (N := 7) ?hd (cs := #[.slice A l.length c]) (t := 25) (n := 1) ?hr ?_; (case hd => rfl); (case hg => rfl); (case hr => first | (go_simp; done) | (go_simp; rfl)); intro gp hgp w2 hbox hb; have HB2 := Aside0.mk (below_step HB1.out hb); have HG2 := Aside0.mk (blk_below HG.out hb); have HP := Aside0.mk (show w2.cell? ⟨gp, 0, none⟩ = some (.slice A l.length c) from (blk_cell hbox 0).trans rfl); clear hgp hbox hb HB1 HG) | (go_at_call 74; refine (write1 _ g HG2.out ⟨gp, 0, none⟩ 1 A c l HP.out (Kd.C_below HR.out HB2.out) HC.out (Kd.far_C 0 HR.out HGE.out) HBY.out HN.out).mono ?_; rintro e w3 ⟨rfl, A', c', hg3, hc3, hgr3⟩; have HG3 := Aside0.mk hg3; have HC3 := Aside0.mk hc3; have HB3 := Aside0.mk (pw_below_grown HB2.out (some g) (below_size HB2.out) hgr3 (fun k hk => by injection hk with hk; rw [← hk]; exact HGE.out)); clear hg3 hc3 hgr3 HB2 HG2 HP) | (go_at_call 75; refine (hsum _ g (blocks l (l.length / 64) S0) (blocks_len l _) (blocks_32 l _) A' c' (restB l) l.length HG3.out HC3.out (bytes8_sub HBY.out (fun x hx => List.mem_of_mem_drop hx)) (by unfold restB; rw [List.length_drop]; omega) HN.out).mono ?_; rintro e w4 ⟨v0, rfl, ho, hb⟩; have HO := Aside0.mk (Kd.R_lower ho (below_size HB3.out)); have HB4 := Aside0.mk (below_step HB3.out hb); clear ho hb))
 go_ret
 exact ⟨_, rfl, HO.out, HB4.out⟩
end Go.Proofs.Ytlnfiknllnonhaa.Sha
