/- The hash SHA-256: the walks of the program's text and of the document's. -/
import Derived.Test.YtlnfiknllnonhaaSha1
import Derived.Test.YtlnfiknllnonhaaSha2
import Derived.Test.YtlnfiknllnonhaaSha4
import Derived.Test.YtlnfiknllnonhaaSha5
import Derived.Test.YtlnfiknllnonhaaSha7
import Derived.Test.YtlnfiknllnonhaaSha0
namespace Go.Proofs.Ytlnfiknllnonhaa.Sha
open Go Go.RowKit Go.Proofs.YtlnfiknllnonhaaW.PrintWords Go.Proofs.YtlnfiknllnonhaaW.PrintLast Go.Proofs.YtlnfiknllnonhaaW.PrintMore
set_option linter.unusedVariables false
set_option linter.unusedSimpArgs false
set_option maxHeartbeats 8000000 in
set_option maxRecDepth 100000 in
theorem schedule (w : World) (A : Option Addr) (c : Nat) (p : List Int) (hp : p.length = 64) (hc : p.length ≤ c) (hb : bytes8 p) (hr : Kd.C (Kd.int .u8) w A p.length p) :
  Calls Try.prog 76 #[.slice A 64 c] w fun e' w' => e' = .returned (.agg (v32 (sched (fun i => (rd p i).toNat) 64)).toArray) ∧ Below w.heap.size w w' := by
 have HR := Aside0.mk hr
 have HP := Aside0.mk hp
 have HC := Aside0.mk hc
 have HBY := Aside0.mk hb
 have HB := Aside0.mk (Below.refl w.heap.size w)
 obtain ⟨ad, hA⟩ : ∃ ad, A = some ad := by obtain ⟨ad, e, _⟩ := hr.2.2 (by omega); exact ⟨ad, e⟩
 subst hA
 clear hr hp hb hc
 go_enter Try.func76, Try.ntmps76
 go_wp2_with (first | ((with_reducible refine gate_dst (N := 2) rfl ?_); refine box_event ?hg (N := 2) ?hd (cs := (v32 (List.replicate 64 0)).toArray) (t := 89) ?hr ?_; (case hd => rfl); (case hg => rfl); (case hr => first | (go_simp; done) | (go_simp; rfl)); intro g2 hg2 w3 hbox hb3; have HB2 := Aside0.mk hb3; have HG2 := Aside0.mk hbox; have HGE2 := Aside0.mk (show w.heap.size ≤ g2 from Nat.le_of_eq hg2.symm); clear hbox hb3 hg2 HB) | ((with_reducible refine gate_dst (N := 3) rfl ?_); refine box_event ?hg (N := 3) ?hd (cs := (v32 (List.replicate 64 0)).toArray) (t := 89) ?hr ?_; (case hd => rfl); (case hg => rfl); (case hr => first | (go_simp; done) | (go_simp; rfl)); intro gw hgw w4 hbox hb3; have HB3 := Aside0.mk (below_step HB2.out hb3); have HG3 := Aside0.mk (blk_below HG2.out hb3); have HGEW := Aside0.mk (show w.heap.size ≤ gw from hgw ▸ below_size HB2.out); have HLT := Aside0.mk (show g2 < gw from by have := blk_lt HG2.out; omega); have HGW0 := Aside0.mk hbox; clear hbox hb3 hgw HB2 HG2) | ((with_reducible refine gate_store (t := 89) (p := 3) rfl ?_); refine store_whole rfl rfl 89 (.tmp 3) (.tmp 8) rfl _ (v32 (List.replicate 64 0)) rfl rfl HGW0.out (by kernel_rfl) (by kernel_rfl) (by decide) (one32 _) ?_; intro w5 hw5; have HGW := Aside0.mk (show w5.heap[gw]? = some (.cells (v32 (List.replicate 64 0)).toArray 89 (0, 0)) from hw5 ▸ set_all HGW0.out rfl); have HB5 := Aside0.mk (show Below w.heap.size w w5 from hw5 ▸ below_cells HB3.out HGEW.out _ _); have HG5 := Aside0.mk (show w5.heap[g2]? = _ from hw5 ▸ far_cells HG3.out (Nat.ne_of_lt HLT.out)); clear hw5 HGW0 HB3 HG3))
 go_loopg [4] 17 (fun kq v wr => ∃ t : Nat, t ≤ 16 ∧ v = .int .i64 t ∧ Aside0 (kq + t = 17) ∧ Aside0 (wr.heap[gw]? = some (.cells (v32 (sched (fun i => (rd p i).toNat) t ++ List.replicate (64 - t) 0)).toArray 89 (0, 0))) ∧ Aside0 (wr.heap[g2]? = some (.cells (v32 (List.replicate 64 0)).toArray 89 (0, 0))) ∧ Aside0 (Below w.heap.size w wr))
 case atStart => exact ⟨0, by omega, rfl, ⟨rfl⟩, HGW, HG5, HB5⟩
 case round =>
  clear HGW HG5 HB5
  obtain ⟨t, ht, rfl, HKQ, HGW1, HG1, HB1⟩ := hrel
  obtain ⟨k1, rfl⟩ : ∃ k1, gk = k1 + 1 := ⟨gk - 1, by have := HKQ.out; omega⟩
  have hw : wrap64 ((t : Int) + 1) = ((t + 1 : Nat) : Int) := by unfold wrap64; omega
  by_cases hlt : t < 16
  ·have hlen : t < (sched (fun i => (rd p i).toNat) t ++ List.replicate (64 - t) 0).length := by rw [List.length_append, sched_len, List.length_replicate]; omega
   have hcw := get0 HGW1.out t hlen
   have hfw := blk_frozen HGW1.out t
   have hcd : Kd.C (Kd.int .u8) wr (some (ad.add (4 * t))) (p.drop (4 * t)).length (p.drop (4 * t)) := by
    have := Kd.C_drop (m := 4 * t) (c := c) (Kd.C_below HR.out HB1.out) (by have := HP.out; omega) HC.out
    rw [if_neg (by have := HP.out; have := HC.out; omega)] at this
    rw [show (Kd.int .u8).sz = 1 from rfl, Nat.mul_one] at this
    exact this
   have HCD := Aside0.mk hcd
   have HDL := Aside0.mk (show (p.drop (4 * t)).length = 64 - 4 * t by rw [List.length_drop, HP.out])
   have HWD := Aside0.mk (show wpN (fun i => (rd (p.drop (4 * t)) (i : Int)).toNat) 4 = wordN (fun i => (rd p (i : Int)).toNat) t by rw [← wpN_4]; congr 1; funext i; rw [rd_drop])
   clear hcd
   have c1 : ((4 * t : Nat) : Int) = 4 * (t : Int) := by omega
   have c2 : 4 * (t : Int) ≤ 64 := by omega
   have c3 : (4 * (t : Int)).toNat = 4 * t := by omega
   have c4 : ¬ c = 4 * t := by have := HP.out; have := HC.out; omega
   have HWC := Aside0.mk (show Calls Try.prog 83 #[.slice (some (ad.add (4 * t))) (64 - 4 * t) (c - 4 * t)] wr (fun e w' => e = .returned (.int .u32 ((wordN (fun i => (rd p (i : Int)).toNat) t : Nat) : Int)) ∧ wr = w') from by
    have := word_any wr (some (ad.add (4 * t))) (c - 4 * t) (p.drop (4 * t)) HCD.out (by rw [HDL.out]; omega) (bytes8_sub HBY.out (fun x hx => List.mem_of_mem_drop hx))
    rw [HDL.out, HWD.out] at this
    exact this.mono (fun _ _ h => ⟨h.1, h.2.symm⟩))
   clear HCD HDL HWD
   go_wp2_with (first | (go_at_call 83; refine HWC.out.mono ?_; rintro e w6 ⟨rfl, rfl⟩))
   go_roundg k1
   case rel =>
    refine ⟨t + 1, by omega, (by first | exact congrArg (Value.int IntKind.i64) hw | simp), ⟨by have := HKQ.out; omega⟩, ⟨?_⟩, ⟨other_set HG1.out (Nat.ne_of_lt HLT.out)⟩, ⟨below_set HB1.out HGEW.out⟩⟩
    have h := set0 HGW1.out t (wordN (fun i => (rd p (i : Int)).toNat) t) hlen
    rw [set_mid32 _ t (64 - t) _ (sched_len _ _) (by omega)] at h
    have e : sched (fun i => (rd p i).toNat) (t + 1) = sched (fun i => (rd p i).toNat) t ++ [wordN (fun i => (rd p (i : Int)).toNat) t] := by
     show sched _ t ++ [if t < 16 then wordN _ t else _] = _
     rw [if_pos hlt]
    rw [e, show 64 - (t + 1) = 64 - t - 1 by omega]
    exact h
   case measure => have := HKQ.out; omega
  ·obtain rfl : t = 16 := by omega
   go_wp2
   go_loopg [5] 65 (fun kq v wr => ∃ t : Nat, 16 ≤ t ∧ t ≤ 64 ∧ v = .int .i64 t ∧ Aside0 (kq + t = 16 + 65) ∧ Aside0 (wr.heap[gw]? = some (.cells (v32 (sched (fun i => (rd p i).toNat) t ++ List.replicate (64 - t) 0)).toArray 89 (0, 0))) ∧ Aside0 (wr.heap[g2]? = some (.cells (v32 (List.replicate 64 0)).toArray 89 (0, 0))) ∧ Aside0 (Below w.heap.size w wr))
   case atStart => exact ⟨16, by omega, by omega, rfl, ⟨rfl⟩, HGW1, HG1, HB1⟩
   case round =>
    clear HGW1 HG1 HB1 hlt hw
    obtain ⟨t, h16, ht, rfl, HK2, HGW1, HG1, HB1⟩ := hrel
    obtain ⟨k2, rfl⟩ : ∃ k2, gk = k2 + 1 := ⟨gk - 1, by have := HK2.out; omega⟩
    have hw : wrap64 ((t : Int) + 1) = ((t + 1 : Nat) : Int) := by unfold wrap64; omega
    by_cases hlt : t < 64
    ·obtain ⟨y, hy⟩ : ∃ y, (sched (fun i => (rd p i).toNat) t).getD (t - 2) 0 = y := ⟨_, rfl⟩
     obtain ⟨x, hx⟩ : ∃ y, (sched (fun i => (rd p i).toNat) t).getD (t - 15) 0 = y := ⟨_, rfl⟩
     obtain ⟨z, hz⟩ : ∃ y, (sched (fun i => (rd p i).toNat) t).getD (t - 7) 0 = y := ⟨_, rfl⟩
     obtain ⟨v, hv⟩ : ∃ y, (sched (fun i => (rd p i).toNat) t).getD (t - 16) 0 = y := ⟨_, rfl⟩
     have ws := W32_sched (fun i => (rd p i).toNat) (fun i => by have := rd_byte HBY.out (i : Int); show (rd p (i : Int)).toNat < 256; omega) t
     have ly : y < 4294967296 := hy ▸ W32_get ws _
     have lx : x < 4294967296 := hx ▸ W32_get ws _
     have lz : z < 4294967296 := hz ▸ W32_get ws _
     have lv : v < 4294967296 := hv ▸ W32_get ws _
     have hcx := getw (sched_len _ _) HGW1.out (t - 15) (by omega)
     rw [hx] at hcx
     have HX := Aside0.mk hx
     have HY := Aside0.mk hy
     have HZ := Aside0.mk hz
     have HV := Aside0.mk hv
     clear hx hy hz hv ws
     have f15 : IntKind.i64.wrap ((t : Int) - 15) = (t : Int) - 15 := Go.IntWalk.i64_in _ (by omega)
     have p15 : 0 ≤ (t : Int) - 15 := by omega
     have p15' : 15 ≤ (t : Int) := by omega
     have n15 : (t : Int) - 15 < 64 := by omega
     have m15 : ((t : Int) - 15).toNat = t - 15 := by omega
     go_wp2
     go_quiet ((go_at_call 78; first | (with_reducible exact Calls.quiet_of_same (turn_7s x _ lx)) | (with_reducible exact Calls.quiet_of_same (turn_18s x _ lx))))
     have HGW2 := Aside0.mk (blk_drewN HGW1.out nq)
     have HG2 := Aside0.mk (blk_drewN HG1.out nq)
     have HB2 := Aside0.mk (pw_below_drewN HB1.out nq)
     clear hcx HGW1 HG1 HB1 f15 p15 p15' n15 m15
     generalize wr.drewN nq = w2 at HGW2 HG2 HB2 ⊢
     have hcy := getw (sched_len _ _) HGW2.out (t - 2) (by omega)
     rw [HY.out] at hcy
     have f2 : IntKind.i64.wrap ((t : Int) - 2) = (t : Int) - 2 := Go.IntWalk.i64_in _ (by omega)
     have p2 : 0 ≤ (t : Int) - 2 := by omega
     have p2' : 2 ≤ (t : Int) := by omega
     have n2 : (t : Int) - 2 < 64 := by omega
     have m2 : ((t : Int) - 2).toNat = t - 2 := by omega
     go_wp2
     go_quiet ((go_at_call 78; first | (with_reducible exact Calls.quiet_of_same (turn_17s y _ ly)) | (with_reducible exact Calls.quiet_of_same (turn_19s y _ ly))))
     have HGW3 := Aside0.mk (blk_drewN HGW2.out nq)
     have HG3 := Aside0.mk (blk_drewN HG2.out nq)
     have HB3 := Aside0.mk (pw_below_drewN HB2.out nq)
     clear hcy HGW2 HG2 HB2 f2 p2 p2' n2 m2
     generalize w2.drewN nq = w3 at HGW3 HG3 HB3 ⊢
     have hcz := getw (sched_len _ _) HGW3.out (t - 7) (by omega)
     have hcv := getw (sched_len _ _) HGW3.out (t - 16) (by omega)
     rw [HZ.out] at hcz
     rw [HV.out] at hcv
     have f7 : IntKind.i64.wrap ((t : Int) - 7) = (t : Int) - 7 := Go.IntWalk.i64_in _ (by omega)
     have f16 : IntKind.i64.wrap ((t : Int) - 16) = (t : Int) - 16 := Go.IntWalk.i64_in _ (by omega)
     have p7 : 0 ≤ (t : Int) - 7 := by omega
     have p7' : 7 ≤ (t : Int) := by omega
     have p16 : 0 ≤ (t : Int) - 16 := by omega
     have p16' : 16 ≤ (t : Int) := by omega
     have n7 : (t : Int) - 7 < 64 := by omega
     have n16 : (t : Int) - 16 < 64 := by omega
     have m7 : ((t : Int) - 7).toNat = t - 7 := by omega
     have m16 : ((t : Int) - 16).toNat = t - 16 := by omega
     go_wp2
     refine wp_region_still_tail 15 (by kernel_rfl) (by kernel_rfl) ?_
     simp only [List.take_succ_cons, List.take_zero, List.drop_succ_cons, List.drop_zero]
     repeat still_step
     try refine wpStill_nil ?_
     change wpList _ _ _ _ _ w3.drew
     have HGW4 := Aside0.mk (blk_drew HGW3.out)
     have HG4 := Aside0.mk (blk_drew HG3.out)
     have HB4 := Aside0.mk (below_drew1 HB3.out)
     clear hcz hcv HGW3 HG3 HB3 f7 f16 p7 p7' p16 p16' n7 n16 m7 m16
     generalize w3.drew = w4 at HGW4 HG4 HB4 ⊢
     have hlen : t < (sched (fun i => (rd p i).toNat) t ++ List.replicate (64 - t) 0).length := by rw [List.length_append, sched_len, List.length_replicate]; omega
     have hc := get0 HGW4.out t hlen
     have hf := blk_frozen HGW4.out t
     go_wp2
     go_roundg k2
     case rel =>
      refine ⟨t + 1, by omega, by omega, (by first | exact congrArg (Value.int IntKind.i64) hw | simp), ⟨by have := HK2.out; omega⟩, ⟨?_⟩, ⟨other_set HG4.out (Nat.ne_of_lt HLT.out)⟩, ⟨below_set HB4.out HGEW.out⟩⟩
      have hval := nxt_or x y z v lx ly
      have h := set0 HGW4.out t ((((sg1 y + z) % 4294967296 + sg0 x) % 4294967296 + v) % 4294967296) hlen
      rw [set_mid32 _ t (64 - t) _ (sched_len _ _) (by omega)] at h
      have e : sched (fun i => (rd p i).toNat) (t + 1) = sched (fun i => (rd p i).toNat) t ++ [(((sg1 y + z) % 4294967296 + sg0 x) % 4294967296 + v) % 4294967296] := by
       show sched _ t ++ [if t < 16 then wordN _ t else nxt _ t] = _
       rw [if_neg (by omega)]
       unfold nxt
       rw [HX.out, HY.out, HZ.out, HV.out]
      rw [e, show 64 - (t + 1) = 64 - t - 1 by omega]
      rw [← hval] at h
      refine Eq.trans ?_ h
      congr 4
      omega
     case measure => have := HK2.out; omega
    ·obtain rfl : t = 64 := by omega
     have HGF := Aside0.mk (show wr.heap[gw]? = some (.cells (v32 (sched (fun i => (rd p i).toNat) 64)).toArray 89 (0, 0)) from by have := HGW1.out; rw [show 64 - 64 = 0 from rfl, List.replicate_zero, List.append_nil] at this; exact this)
     clear HGW1
     have hsz : (v32 (sched (fun i => (rd p i).toNat) 64)).toArray.size = 64 := by simp [v32, sched_len]
     have HSZ := Aside0.mk hsz
     have HIN := Aside0.mk (show (Try.prog.info? 89).map (·.size) = some (v32 (sched (fun i => (rd p i).toNat) 64)).toArray.size from by rw [hsz]; kernel_rfl)
     clear hsz
     generalize hWS : sched (fun i => (rd p i).toNat) 64 = WS at HGF HSZ HIN
     have HWS := Aside0.mk hWS
     clear hWS
     go_wp2_with (first | ((with_reducible refine gate_dst (N := 73) rfl ?_); refine wpList_load_row rfl 89 (.tmp 3) rfl gw rfl 89 _ (0, 0) _ HGF.out Try.underlying89 rfl HIN.out ?_) | ((with_reducible refine gate_store (t := 89) (p := 2) rfl ?_); refine store_whole rfl rfl 89 (.tmp 2) (.tmp 73) rfl _ (v32 WS) rfl rfl HG1.out (by rfl) (by have := HIN.out; have h2 := HSZ.out; rw [h2] at this; rw [this]; simp at h2; simp [h2]) (by have h2 := HSZ.out; simp at h2; simp [v32] at h2 ⊢; omega) (one32 _) ?_; intro w9 hw9; have HG9 := Aside0.mk (show w9.heap[g2]? = some (.cells (v32 WS).toArray 89 (0, 0)) from hw9 ▸ set_all HG1.out (by have h2 := HSZ.out; simp at h2; simp [v32] at h2 ⊢; omega)); have HB9 := Aside0.mk (show Below w.heap.size w w9 from hw9 ▸ below_cells HB1.out HGE2.out _ _); clear hw9))
     refine bodyPost_ret (results_cell_row rfl _ _ g2 89 (v32 WS).toArray (0, 0) _ rfl HG9.out Try.underlying89 rfl HIN.out) rfl ?_
     exact ⟨by rw [HWS.out], HB9.out⟩
end Go.Proofs.Ytlnfiknllnonhaa.Sha
