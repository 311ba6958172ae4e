/- The hash SHA-256: the walks of the program's text and of the document's. -/
import Derived.Test.YtlnfiknllnonhaaSha1
import Derived.Test.YtlnfiknllnonhaaSha2
import Derived.Test.YtlnfiknllnonhaaSha0
namespace Go.Proofs.Ytlnfiknllnonhaa.Sha
open Go Go.RowKit Go.Proofs.YtlnfiknllnonhaaW.PrintWords Go.Proofs.YtlnfiknllnonhaaW.PrintLast Go.Proofs.YtlnfiknllnonhaaW.PrintMore
set_option linter.unusedVariables false
set_option linter.unusedSimpArgs false
set_option maxHeartbeats 400000 in
theorem start_any (w : World) : Calls Try.prog 81 #[] w fun e w' => e = .returned (.agg (v32 S0).toArray) ∧ Below w.heap.size w w' := by
 go_enter Try.func81, Try.ntmps81
 go_wp2_with (first | ((with_reducible refine gate_dst (N := 0) rfl ?_); refine box_event ?hg (N := 0) ?hd (cs := (v32 [0, 0, 0, 0, 0, 0, 0, 0]).toArray) (t := 93) ?hr ?_; (case hd => rfl); (case hg => rfl); (case hr => first | (go_simp; done) | (go_simp; rfl)); intro gq hgq w3 hbox hb3; have HB := Aside0.mk hb3; have HG0 := Aside0.mk hbox; have HGE := Aside0.mk (show w.heap.size ≤ gq from Nat.le_of_eq hgq.symm); clear hbox hb3 hgq) | ((with_reducible refine gate_store (t := 93) (p := 0) rfl ?_); refine store_whole rfl rfl 93 (.tmp 0) (.tmp 1) rfl _ (v32 S0) rfl rfl HG0.out (by kernel_rfl) (by kernel_rfl) (by decide) (one32 S0) ?_; intro w4 hw4; have HG := Aside0.mk (show w4.heap[gq]? = some (.cells (v32 S0).toArray 93 (0, 0)) from hw4 ▸ set_all HG0.out rfl); have HB4 := Aside0.mk (show Below w.heap.size w w4 from hw4 ▸ below_cells HB.out HGE.out _ _); clear hw4 HG0 HB))
 refine bodyPost_ret (results_cell_row rfl _ _ gq 93 (v32 S0).toArray (0, 0) _ rfl HG.out Try.underlying93 rfl (by kernel_rfl)) rfl ?_
 exact ⟨rfl, HB4.out⟩
set_option maxHeartbeats 400000 in
theorem new_any (w : World) : Calls Try.prog 73 #[] w fun e w' => ∃ g, e = .returned (.pointer (some ⟨g, 0, none⟩)) ∧ w'.heap[g]? = some (.cells (v32 S0 ++ [Value.slice none 0 0, Value.int .u64 0]).toArray 96 (0, 0)) ∧ w.heap.size ≤ g ∧ Below w.heap.size w w' := by
 go_enter Try.func73, Try.ntmps73
 go_wp2_with (first | (go_at_call 81; refine (start_any _).mono ?_; rintro e w1 ⟨rfl, hb⟩; have HB := Aside0.mk hb; clear hb) | ((with_reducible refine gate_dst (N := 3) rfl ?_); refine box_event ?hg (N := 3) ?hd (cs := (v32 S0 ++ [Value.slice none 0 0, Value.int .u64 0]).toArray) (t := 96) ?hr ?_; (case hd => rfl); (case hg => rfl); (case hr => first | (go_simp; done) | (go_simp; rfl)); intro gq hgq w3 hbox hb3; have HB3 := Aside0.mk (below_step HB.out hb3); have HG0 := Aside0.mk hbox; have HGE := Aside0.mk (show w.heap.size ≤ gq from hgq ▸ below_size HB.out); clear hbox hb3 hgq HB))
 go_ret
 exact ⟨gq, rfl, HG0.out, HGE.out, HB3.out⟩
def blocks (l : List Int) : Nat → List Nat → List Nat
 | 0, st => st
 | n + 1, st => comp (blocks l n st) (fun i => (rd l ((64 * n + i : Nat) : Int)).toNat)
theorem comp_len (st : List Nat) (p : Nat → Nat) (h : st.length = 8) : (comp st p).length = 8 := by
 unfold comp
 rw [List.length_zipWith, rnds_len _ _ h]; omega
theorem comp_32 (st : List Nat) (p : Nat → Nat) : W32 (comp st p) := by
 intro x hx
 unfold comp at hx
 obtain ⟨i, hi, rfl⟩ := List.mem_iff_getElem.1 hx
 rw [List.getElem_zipWith]
 exact Nat.mod_lt _ (by decide)
theorem S0_32 : W32 S0 := by
 intro x hx
 simp only [S0, List.mem_cons, List.not_mem_nil, or_false] at hx
 omega
theorem blocks_len (l : List Int) : ∀ n, (blocks l n S0).length = 8
 | 0 => rfl
 | n + 1 => comp_len _ _ (blocks_len l n)
theorem blocks_32 (l : List Int) : ∀ n, W32 (blocks l n S0)
 | 0 => S0_32
 | n + 1 => comp_32 _ _
theorem rd_drop (l : List Int) (m i : Nat) : rd (l.drop m) (i : Int) = rd l ((m + i : Nat) : Int) := by
 unfold rd
 rw [Int.toNat_natCast, Int.toNat_natCast, List.getD_eq_getElem?_getD, List.getD_eq_getElem?_getD, List.getElem?_drop]
theorem rd_take (l : List Int) (m i : Nat) (h : i < m) : rd (l.take m) (i : Int) = rd l (i : Int) := by
 unfold rd
 rw [Int.toNat_natCast, List.getD_eq_getElem?_getD, List.getD_eq_getElem?_getD, List.getElem?_take, if_pos h]
theorem rnds_ext (ws ws' : List Nat) (v : List Nat) (h : ws = ws') : ∀ t, rnds ws t v = rnds ws' t v := by subst h; intro _; rfl
theorem sched_ext (p q : Nat → Nat) (h : ∀ i, i < 64 → p i = q i) : ∀ t, t ≤ 64 → sched p t = sched q t
 | 0, _ => rfl
 | t + 1, ht => by
  show sched p t ++ _ = sched q t ++ _
  rw [sched_ext p q h t (by omega)]
  by_cases h16 : t < 16
  ·rw [if_pos h16, if_pos h16]
   unfold wordN
   rw [h _ (by omega), h _ (by omega), h _ (by omega), h _ (by omega)]
  ·rw [if_neg h16, if_neg h16]
theorem comp_ext (st : List Nat) (p q : Nat → Nat) (h : ∀ i, i < 64 → p i = q i) : comp st p = comp st q := by
 unfold comp
 rw [sched_ext p q h 64 (Nat.le_refl _)]
theorem blocks_step (l : List Int) (n : Nat) (st : List Nat) : blocks l (n + 1) st = comp (blocks l n st) (fun i => (rd ((l.drop (64 * n)).take 64) (i : Int)).toNat) :=
 comp_ext _ _ _ (fun i hi => by rw [rd_take _ _ _ hi, rd_drop])
theorem get_at {W : World} {g e : Nat} {st : List Nat} {tl : List Value} (hl : st.length = 8) (h : W.heap[g]? = some (.cells (v32 st ++ tl).toArray e (0, 0))) (j : Nat) : W.cell? ⟨g, 8 + j, none⟩ = tl[j]? := by
 rw [blk_cell h (8 + j)]
 rw [List.getElem?_toArray, List.getElem?_append_right (by rw [v32_len]; omega), v32_len, hl, Nat.add_sub_cancel_left]
theorem set_at {W : World} {g e : Nat} {st : List Nat} {tl : List Value} (hl : st.length = 8) (h : W.heap[g]? = some (.cells (v32 st ++ tl).toArray e (0, 0))) (j : Nat) (u : Value) : (W.setCell ⟨g, 8 + j, none⟩ u).heap[g]? = some (.cells (v32 st ++ tl.set j u).toArray e (0, 0)) := by
 rw [blk_set h (8 + j) u]
 congr 2
 rw [List.setIfInBounds_toArray, List.set_append_right _ _ (by rw [v32_len]; omega), v32_len, hl, Nat.add_sub_cancel_left]
def bytes8 (l : List Int) : Prop := ∀ b ∈ l, 0 ≤ b ∧ b < 256
theorem inf5 : (Try.prog.info? 5).map (fun i => (i.zero, i.size, i.bytes)) = some (some (.int .u8 0), 1, 1) := by kernel_rfl
theorem grown_trans {w w1 w2 : World} {g : Nat} (h : w.grownBy w1 (some g)) (k : w1.grownBy w2 (some g)) : w.grownBy w2 (some g) :=
 ⟨k.os.trans h.os, k.tape.trans h.tape, k.output.trans h.output, Nat.le_trans h.size k.size, fun i hi hn => (k.block i (Nat.lt_of_lt_of_le hi h.size) hn).trans (h.block i hi hn)⟩
theorem grown_none {w w1 w2 : World} {g : Nat} (h : w.grownBy w1 (some g)) (k : w1.grownBy w2 none) : w.grownBy w2 (some g) :=
 ⟨k.os.trans h.os, k.tape.trans h.tape, k.output.trans h.output, Nat.le_trans h.size k.size, fun i hi hn => (k.block i (Nat.lt_of_lt_of_le hi h.size) (by simp)).trans (h.block i hi hn)⟩
theorem keep_of_grown {w w1 : World} {g : Nat} (h : w.grownBy w1 (some g)) : KeepBut w w1 g none := ⟨h.size, fun i hi hg _ => h.block i hi (fun e => hg (Option.some.inj e))⟩
theorem C_grown {w w1 : World} {g : Nat} {A : Option Addr} {n : Nat} {xs : List Int} (hC : Kd.C (Kd.int .u8) w A n xs) (h : w.grownBy w1 (some g)) (hf : ∀ ad, A = some ad → 0 < n → ad.block ≠ g) : Kd.C (Kd.int .u8) w1 A n xs :=
 Kd.C_keep 0 hC (keep_of_grown h) hf
theorem bytes8_sub {l m : List Int} (h : bytes8 l) (hs : ∀ x ∈ m, x ∈ l) : bytes8 m := fun b hb => h b (hs b hb)
set_option maxHeartbeats 8000000 in
set_option maxRecDepth 100000 in
theorem write1 (w : World) (g : Nat) (hg : w.heap[g]? = some (.cells (v32 S0 ++ [Value.slice none 0 0, Value.int .u64 0]).toArray 96 (0, 0))) (adp : Addr) (cp : Nat) (A : Option Addr) (c : Nat) (l : List Int) (hp : w.cell? adp = some (.slice A l.length c)) (hr : Kd.C (Kd.int .u8) w A l.length l) (hc : l.length ≤ c) (hfa : ∀ ad, A = some ad → 0 < l.length → ad.block ≠ g) (hb : bytes8 l) (hn : l.length < 140737488352000) :
  Calls Try.prog 74 #[.pointer (some ⟨g, 0, none⟩), .slice (some adp) 1 cp] w fun e w' => e = .returned (.tuple #[]) ∧ ∃ A' c', w'.heap[g]? = some (.cells (v32 (blocks l (l.length / 64) S0) ++ [Value.slice A' (l.drop (64 * (l.length / 64))).length c', Value.int .u64 l.length]).toArray 96 (0, 0)) ∧ Kd.C (Kd.int .u8) w' A' (l.drop (64 * (l.length / 64))).length (l.drop (64 * (l.length / 64))) ∧ w.grownBy w' (some g) := by
 have HG := Aside0.mk hg
 have HR := Aside0.mk hr
 have HBY := Aside0.mk hb
 have HN := Aside0.mk hn
 have HC := Aside0.mk hc
 have gsz := (get_at (st := S0) rfl hg 1).trans rfl
 have HP := Aside0.mk hp
 clear hg hr hb hc
 have HB := Aside0.mk (Below.refl w.heap.size w)
 go_enter Try.func74, Try.ntmps74
 go_wp2
 go_loopg [8] 2 (fun kq v wr => ∃ k : Nat, v = .int .i64 k ∧ Aside0 (kq + k = 2) ∧ (k = 0 ∧ Aside0 (wr = w) ∨ k = 1 ∧ Aside0 (∃ A' c', wr.heap[g]? = some (.cells (v32 (blocks l (l.length / 64) S0) ++ [Value.slice A' (l.drop (64 * (l.length / 64))).length c', Value.int .u64 l.length]).toArray 96 (0, 0)) ∧ Kd.C (Kd.int .u8) wr A' (l.drop (64 * (l.length / 64))).length (l.drop (64 * (l.length / 64))) ∧ w.grownBy wr (some g))))
 case atStart => exact ⟨0, rfl, ⟨rfl⟩, .inl ⟨rfl, ⟨rfl⟩⟩⟩
 case round =>
  obtain ⟨k, rfl, HKQ, h⟩ := hrel
  rcases h with ⟨rfl, HW⟩ | ⟨rfl, HE⟩
  ·obtain rfl := HW.out
   clear HW
   obtain ⟨k1, rfl⟩ : ∃ k1, gk = k1 + 1 := ⟨gk - 1, by have := HKQ.out; omega⟩
   have hp0 : wr.cell? adp = some (.slice A l.length c) := HP.out
   have gre := (get_at (st := S0) rfl HG.out 0).trans rfl
   have f8 := blk_frozen HG.out 8
   have f9 := blk_frozen HG.out 9
   have hgl := blk_lt HG.out
   have HFA := Aside0.mk hfa
   have HREF := Aside0.mk (show wr.grownBy wr (some g) from ⟨rfl, rfl, rfl, Nat.le_refl _, fun _ _ _ => rfl⟩)
   clear hfa
   go_wp2_with (first | ((with_reducible refine gate_builtin (b := .append) (xs := #[.tmp 26, .tmp 27]) rfl ?_); at_builtin; refine Kd.R_append_rows (Kd.int .u8) (w0 := _) wr.heap.size rfl (.tmp 26) (.tmp 27) 25 5 (.int .u8 0) 1 rfl Try.underlying25 inf5 rfl (by decide) (by omega) (.slice none 0 0) [] l A l.length c (fun _ => True) (fun _ => False) rfl rfl (Kd.R_nil _ _ _ _ _) ?aR (fun _ _ h => h) (fun _ h => h.elim) (fun _ _ => trivial) (Below.refl _ _) ?aS ?aL ?_; (case aR => exact Kd.C_keep 0 HR.out ((KeepBut.refl _ _ _).set_ _ _) HFA.out); (case aS => exact Nat.le_of_eq (by simp [World.setCell])); (case aL => have := HN.out; simp only [List.length_nil]; omega); intro v1 w5 ho hb hg hat; rw [List.nil_append] at ho; obtain ⟨A1, c1, hv1⟩ := Kd.R_slice ho; subst hv1; have HG5 := Aside0.mk ((hg.block g (by simpa [World.setCell] using hgl) (by simp [Value.ownBlock])).trans (set_at (st := S0) rfl HG.out 1 _)); have HC5 := Aside0.mk (Kd.R_reads' ho).2.2; have HL5 := Aside0.mk (Kd.R_reads' ho).2.1; have HF5 := Aside0.mk (show ∀ ad, A1 = some ad → 0 < l.length → ad.block ≠ g from fun ad h1 h2 => by { obtain ⟨g', cap, he, hge, _⟩ := Kd.R_form ho h2; injection he with e1 _ _; rw [e1] at h1; injection h1 with h1; rw [← h1]; intro e; dsimp only at e; omega }); have HGR5 := Aside0.mk (show wr.grownBy w5 (some g) from grown_none (grown_set HREF.out) hg); clear ho hb hg hat HFA f8 f9 gre; have c8 := (get_at (st := S0) rfl HG5.out 0).trans rfl; have f8 := blk_frozen HG5.out 8))
   have HG6 := Aside0.mk (set_at (st := S0) rfl HG5.out 0 (.slice A1 l.length c1))
   have HG7 := Aside0.mk (show (w5.setCell ⟨g, 8, none⟩ (.slice A1 l.length c1)).heap[g]? = some (.cells (v32 (blocks l 0 S0) ++ [Value.slice A1 (l.drop (64 * 0)).length c1, Value.int .u64 l.length]).toArray 96 (0, 0)) from HG6.out)
   have HC7 := Aside0.mk (show Kd.C (Kd.int .u8) (w5.setCell ⟨g, 8, none⟩ (.slice A1 l.length c1)) A1 (l.drop (64 * 0)).length (l.drop (64 * 0)) from Kd.C_keep 0 HC5.out ((KeepBut.refl _ _ _).set_ _ _) HF5.out)
   have HGR7 := Aside0.mk (show wr.grownBy (w5.setCell ⟨g, 8, none⟩ (.slice A1 l.length c1)) (some g) from grown_set HGR5.out)
   clear HG5 HC5 HGR5 HG6 c8 f8
   generalize w5.setCell ⟨g, 8, none⟩ (.slice A1 l.length c1) = w6 at HG7 HC7 HGR7 ⊢
   go_loopg [] (l.length / 64 + 1) (fun kq w' => ∃ (n : Nat) (A' : Option Addr) (c' : Nat), Aside0 (kq + n = l.length / 64 + 1) ∧ Aside0 (64 * n ≤ l.length) ∧ Aside0 (w'.heap[g]? = some (.cells (v32 (blocks l n S0) ++ [Value.slice A' (l.drop (64 * n)).length c', Value.int .u64 l.length]).toArray 96 (0, 0))) ∧ Aside0 (Kd.C (Kd.int .u8) w' A' (l.drop (64 * n)).length (l.drop (64 * n))) ∧ Aside0 (∀ ad, A' = some ad → 0 < (l.drop (64 * n)).length → ad.block ≠ g) ∧ Aside0 ((l.drop (64 * n)).length ≤ c') ∧ Aside0 (wr.grownBy w' (some g)))
   case atStart => exact ⟨0, A1, c1, ⟨rfl⟩, ⟨Nat.zero_le _⟩, HG7, HC7, ⟨HF5.out⟩, ⟨HL5.out⟩, HGR7⟩
   case round =>
    clear HG7 HC7 HGR7 HF5 HL5
    obtain ⟨n, A', c', HK2, HN2, HG2, HC2, HF2, HL2, HGR2⟩ := hrel
    have hl8 := blocks_len l n
    have g8 := (get_at hl8 HG2.out 0).trans rfl
    have hdl : (l.drop (64 * n)).length = l.length - 64 * n := List.length_drop
    by_cases h64 : 64 ≤ (l.drop (64 * n)).length
    ·obtain ⟨k3, rfl⟩ : ∃ k3, gk = k3 + 1 := ⟨gk - 1, by have := HK2.out; have := HN2.out; omega⟩
     obtain ⟨ad, hA⟩ : ∃ ad, A' = some ad := by obtain ⟨ad, e, _⟩ := HC2.out.2.2 (by omega); exact ⟨ad, e⟩
     subst hA
     generalize hxs : l.drop (64 * n) = xs at HC2 HF2 HL2 HG2 g8 h64 hdl ⊢
     have HXS := Aside0.mk hxs
     clear hxs
     have d64 : decide (64 ≤ (xs.length : Int)) = true := decide_eq_true (by omega)
     have d64n : decide (64 ≤ xs.length) = true := decide_eq_true h64
     have hc64 : (64 : Int) ≤ (c' : Int) := by have := HL2.out; omega
     have hc64n : 64 ≤ c' := by have := HL2.out; omega
     have HDL := Aside0.mk hdl
     clear hdl
     go_wp2
     go_still_tail 8, (by kernel_rfl)
     change wpList _ _ _ _ _ wr.drew
     have HG3 := Aside0.mk (blk_drew HG2.out)
     have HC3 := Aside0.mk (Kd.C_drew HC2.out)
     have HGR3 := Aside0.mk (grown_drew HGR2.out)
     clear HG2 HC2 HGR2 g8
     generalize wr.drew = w3 at HG3 HC3 HGR3 ⊢
     have hby : ∀ b ∈ xs.take 64, 0 ≤ b ∧ b < 256 := fun b hb => HBY.out b (by rw [← HXS.out] at hb; exact List.mem_of_mem_drop (List.mem_of_mem_take hb))
     have HBY2 := Aside0.mk hby
     have htl : (xs.take 64).length = 64 := by rw [List.length_take]; omega
     have HTL := Aside0.mk htl
     have HCT := Aside0.mk (show Kd.C (Kd.int .u8) w3 (some ad) 64 (xs.take 64) from by have := Kd.C_take (m := 64) HC3.out h64; rw [htl] at this; exact this)
     have HW8 := Aside0.mk (blocks_32 l n)
     have HL8 := Aside0.mk hl8
     clear hby htl hl8
     have hdd : l.drop (64 * (n + 1)) = xs.drop 64 := by rw [← HXS.out, List.drop_drop]; congr 1
     have hln : (l.drop (64 * (n + 1))).length = xs.length - 64 := by rw [hdd, List.length_drop]
     have hbl : blocks l (n + 1) S0 = comp (blocks l n S0) (fun i => (rd (xs.take 64) (i : Int)).toNat) := by rw [← HXS.out]; exact blocks_step l n S0
     have HDD := Aside0.mk hdd
     have HLN := Aside0.mk hln
     have HBL := Aside0.mk hbl
     clear hdd hln hbl
     by_cases hcap : c' = 64
     ·subst hcap
      have hcc : (64 : Nat) - 64 = 0 := rfl
      clear hcc
      go_wp2_with (first | (go_at_call 82; refine (block _ g 96 (blocks l n S0) _ HL8.out HW8.out HG3.out (some ad) 64 (xs.take 64) HTL.out HBY2.out HCT.out).mono ?_; rintro e w4 ⟨rfl, hg4, hgr4⟩; have HG4 := Aside0.mk hg4; have HGR4 := Aside0.mk (grown_trans HGR3.out hgr4); have HC4 := Aside0.mk (C_grown HC3.out hgr4 HF2.out); clear hg4 hgr4 HG3 HC3 HGR3 HCT; have c8 := (get_at (comp_len _ _ HL8.out) HG4.out 0).trans rfl; have f8 := blk_frozen HG4.out 8))
      go_roundg k3
      case rel =>
       refine ⟨n + 1, some ad, (64 - 64), ⟨by have := HK2.out; omega⟩, ⟨by have := HDL.out; omega⟩, ⟨?_⟩, ⟨?_⟩, ⟨?_⟩, ⟨by rw [HLN.out]; have := HL2.out; omega⟩, ⟨grown_set HGR4.out⟩⟩
       ·have h := set_at (comp_len _ _ HL8.out) HG4.out 0 (.slice (some ad) (xs.length - 64) ((64 - 64)))
        rw [HLN.out, HBL.out]
        exact h
       ·have h := Kd.C_keep 0 (Kd.C_drop (m := 64) (c := 64) HC4.out h64 HL2.out) ((KeepBut.refl _ _ _).set_ 8 (.slice (some ad) (xs.length - 64) ((64 - 64)))) (g := g) (fun a e hp => by rw [if_pos rfl] at e; injection e with e; rw [← e]; exact HF2.out ad rfl (by omega))
        rw [HDD.out]
        rw [if_pos rfl] at h
        exact h
       ·intro a e hp
        injection e with e
        rw [← e]
        exact HF2.out ad rfl (by omega)
      case measure => have := HK2.out; omega
     ·have HCP := Aside0.mk hcap
      go_wp2_with (first | (go_at_call 82; refine (block _ g 96 (blocks l n S0) _ HL8.out HW8.out HG3.out (some ad) c' (xs.take 64) HTL.out HBY2.out HCT.out).mono ?_; rintro e w4 ⟨rfl, hg4, hgr4⟩; have HG4 := Aside0.mk hg4; have HGR4 := Aside0.mk (grown_trans HGR3.out hgr4); have HC4 := Aside0.mk (C_grown HC3.out hgr4 HF2.out); clear hg4 hgr4 HG3 HC3 HGR3 HCT; have c8 := (get_at (comp_len _ _ HL8.out) HG4.out 0).trans rfl; have f8 := blk_frozen HG4.out 8))
      go_roundg k3
      case rel =>
       refine ⟨n + 1, some ⟨ad.block, ad.off + 64, none⟩, c' - 64, ⟨by have := HK2.out; omega⟩, ⟨by have := HDL.out; omega⟩, ⟨?_⟩, ⟨?_⟩, ⟨?_⟩, ⟨by rw [HLN.out]; have := HL2.out; omega⟩, ⟨grown_set HGR4.out⟩⟩
       ·have h := set_at (comp_len _ _ HL8.out) HG4.out 0 (.slice (some ⟨ad.block, ad.off + 64, none⟩) (xs.length - 64) (c' - 64))
        rw [HLN.out, HBL.out]
        exact h
       ·have h := Kd.C_keep 0 (Kd.C_drop (m := 64) (c := c') HC4.out h64 HL2.out) ((KeepBut.refl _ _ _).set_ 8 (.slice (some ⟨ad.block, ad.off + 64, none⟩) (xs.length - 64) (c' - 64))) (g := g) (fun a e hp => by rw [if_neg HCP.out] at e; injection e with e; rw [← e]; exact HF2.out ad rfl (by omega))
        rw [HDD.out]
        rw [if_neg HCP.out] at h
        exact h
       ·intro a e hp
        injection e with e
        rw [← e]
        exact HF2.out ad rfl (by omega)
      case measure => have := HK2.out; omega
    ·have d64 : decide (64 ≤ ((l.drop (64 * n)).length : Int)) = false := decide_eq_false (by omega)
     have d64n : decide (64 ≤ (l.drop (64 * n)).length) = false := decide_eq_false h64
     go_wp2
     go_roundg k1
     case rel =>
      have hn : n = l.length / 64 := by have := HN2.out; omega
      subst hn
      exact ⟨1, rfl, ⟨by have := HKQ.out; omega⟩, .inr ⟨rfl, ⟨A', c', HG2.out, HC2.out, HGR2.out⟩⟩⟩
     case measure => have := HKQ.out; omega
  ·go_wp2
   first | go_end0 | ((try simp only [Exit.inBlock, Exit.then]); refine bodyPost_ret (results_none rfl _ _ _) rfl ?_)
   exact ⟨rfl, HE.out⟩
end Go.Proofs.Ytlnfiknllnonhaa.Sha
