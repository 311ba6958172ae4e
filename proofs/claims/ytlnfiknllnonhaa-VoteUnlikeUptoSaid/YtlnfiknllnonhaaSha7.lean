/- The hash SHA-256: the walks of the program's text and of the document's. -/
import Derived.Test.YtlnfiknllnonhaaSha1
import Derived.Test.YtlnfiknllnonhaaSha2
import Derived.Test.YtlnfiknllnonhaaSha4
import Derived.Test.YtlnfiknllnonhaaSha5
import Derived.Test.YtlnfiknllnonhaaSha0
namespace Go.Proofs.Ytlnfiknllnonhaa.Sha
open Go Go.RowKit Go.Proofs.YtlnfiknllnonhaaW.PrintWords Go.Proofs.YtlnfiknllnonhaaW.PrintLast Go.Proofs.YtlnfiknllnonhaaW.PrintMore
set_option linter.unusedVariables false
set_option linter.unusedSimpArgs false
def wpN (p : Nat → Nat) : Nat → Nat
 | 0 => 0
 | j + 1 => wpN p j * 256 + p j
theorem wpN_lt (p : Nat → Nat) (hp : ∀ i, p i < 256) : ∀ j, wpN p j < 256 ^ j
 | 0 => Nat.one_pos
 | j + 1 => by
  have := wpN_lt p hp j
  have h := hp j
  show wpN p j * 256 + p j < 256 ^ (j + 1)
  rw [Nat.pow_succ]; omega
theorem wpN_4 (p : Nat → Nat) (t : Nat) : wpN (fun i => p (4 * t + i)) 4 = wordN p t := by
 show (((0 * 256 + p (4 * t + 0)) * 256 + p (4 * t + 1)) * 256 + p (4 * t + 2)) * 256 + p (4 * t + 3) = _
 unfold wordN
 simp only [Nat.zero_mul, Nat.zero_add, Nat.add_zero]
theorem rd_byte {l : List Int} (h : bytes8 l) (i : Int) : 0 ≤ rd l i ∧ rd l i < 256 := by
 unfold rd
 rw [List.getD_eq_getElem?_getD]
 by_cases hi : i.toNat < l.length
 ·rw [List.getElem?_eq_getElem hi]; exact h _ (List.getElem_mem hi)
 ·rw [List.getElem?_eq_none (by omega)]; decide
set_option maxHeartbeats 800000 in
theorem word_any (w : World) (A : Option Addr) (c : Nat) (l : List Int) (hr : Kd.C (Kd.int .u8) w A l.length l) (h4 : 4 ≤ l.length) (hb : bytes8 l) :
  Calls Try.prog 83 #[.slice A l.length c] w fun e w' => e = .returned (.int .u32 ((wpN (fun i => (rd l (i : Int)).toNat) 4 : Nat) : Int)) ∧ w' = w := by
 have HR := Aside0.mk hr
 have HBY := Aside0.mk hb
 have H4 := Aside0.mk h4
 have HLM := Aside0.mk (Kd.C_max hr)
 clear hr hb h4
 go_enter Try.func83, Try.ntmps83
 go_wp2
 go_loopg [3, 4] 5 (fun kq v3 v4 wr => ∃ j : Nat, j ≤ 4 ∧ v3 = .int .u32 ((wpN (fun i => (rd l (i : Int)).toNat) j : Nat) : Int) ∧ v4 = .int .i64 j ∧ Aside0 (kq + j = 5) ∧ Aside0 (wr = w))
 case atStart => exact ⟨0, by omega, rfl, rfl, ⟨rfl⟩, ⟨rfl⟩⟩
 case round =>
  obtain ⟨j, hj, rfl, rfl, HK, HW⟩ := hrel
  obtain rfl := HW.out
  clear HW
  obtain ⟨k1, rfl⟩ : ∃ k1, gk = k1 + 1 := ⟨gk - 1, by have := HK.out; omega⟩
  have hw : wrap64 ((j : Int) + 1) = ((j + 1 : Nat) : Int) := by unfold wrap64; omega
  have hlt := wpN_lt (fun i => (rd l (i : Int)).toNat) (fun i => by have := rd_byte HBY.out (i : Int); show (rd l (i : Int)).toNat < 256; omega) j
  by_cases hj4 : j < 4
  ·have hlt2 : wpN (fun i => (rd l (i : Int)).toNat) j < 16777216 := Nat.lt_of_lt_of_le hlt (Nat.pow_le_pow_right (by decide) (show j ≤ 3 by omega))
   clear hlt
   obtain ⟨ad, eA, hx⟩ := Kd.at_int HR.out (j : Int) (by omega) (by have := H4.out; omega)
   subst eA
   rw [Int.toNat_natCast] at hx
   have hbj := rd_byte HBY.out (j : Int)
   obtain ⟨b, hb⟩ : ∃ b : Nat, (rd l (j : Int)) = b := ⟨(rd l (j : Int)).toNat, by omega⟩
   have hs : wpN (fun i => (rd l (i : Int)).toNat) (j + 1) = wpN (fun i => (rd l (i : Int)).toNat) j * 256 + b := by
    show _ * 256 + (rd l (j : Int)).toNat = _
    rw [hb]; rfl
   have HS := Aside0.mk hs
   rw [hb] at hx hbj
   clear hs hb
   generalize wpN (fun i => (rd l (i : Int)).toNat) j = n at hlt2 HS ⊢
   have hb256 : b < 256 := by omega
   clear hbj
   have q1 : (j : Int) < (l.length : Int) := by have := H4.out; omega
   have q2 : j < l.length := by have := H4.out; omega
   go_wp2
   go_roundg k1
   case rel => exact ⟨j + 1, by omega, (by rw [HS.out]; first | exact congrArg (Value.int IntKind.u32) (by omega) | rfl), (by first | exact congrArg (Value.int IntKind.i64) hw | simp), ⟨by have := HK.out; omega⟩, ⟨rfl⟩⟩
   case measure => have := HK.out; omega
  ·obtain rfl : j = 4 := by omega
   go_wp2
   go_ret
   exact ⟨rfl, rfl⟩
set_option maxHeartbeats 4000000 in
set_option maxRecDepth 100000 in
theorem K_any (w : World) : Calls Try.prog 77 #[] w fun e w' => e = .returned (.agg (v32 KS).toArray) ∧ Below w.heap.size w w' := by
 go_enter Try.func77, Try.ntmps77
 go_wp2_with (first | ((with_reducible refine gate_dst (N := 0) rfl ?_); refine box_event ?hg (N := 0) ?hd (cs := (v32 (List.replicate 64 0)).toArray) (t := 89) ?hr ?_; (case hd => rfl); (case hg => rfl); (case hr => first | (go_simp; done) | (go_simp; rfl)); intro gq hgq w3 hbox hb3; have HB := Aside0.mk hb3; have HG0 := Aside0.mk hbox; have HGE := Aside0.mk (show w.heap.size ≤ gq from Nat.le_of_eq hgq.symm); clear hbox hb3 hgq) | ((with_reducible refine gate_store (t := 89) (p := 0) rfl ?_); refine store_whole rfl rfl 89 (.tmp 0) (.tmp 1) rfl _ (v32 KS) rfl rfl HG0.out (by kernel_rfl) (by kernel_rfl) (by decide) (one32 KS) ?_; intro w4 hw4; have HG := Aside0.mk (show w4.heap[gq]? = some (.cells (v32 KS).toArray 89 (0, 0)) from hw4 ▸ set_all HG0.out rfl); have HB4 := Aside0.mk (show Below w.heap.size w w4 from hw4 ▸ below_cells HB.out HGE.out _ _); clear hw4 HG0 HB))
 refine bodyPost_ret (results_cell_row rfl _ _ gq 89 (v32 KS).toArray (0, 0) _ rfl HG.out Try.underlying89 rfl (by kernel_rfl)) rfl ?_
 exact ⟨rfl, HB4.out⟩
end Go.Proofs.Ytlnfiknllnonhaa.Sha
