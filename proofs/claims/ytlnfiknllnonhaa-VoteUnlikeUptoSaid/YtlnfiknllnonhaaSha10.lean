/- The hash SHA-256: the walks of the program's text and of the document's. -/
import Derived.Test.YtlnfiknllnonhaaSha1
import Derived.Test.YtlnfiknllnonhaaSha2
import Derived.Test.YtlnfiknllnonhaaSha4
import Derived.Test.YtlnfiknllnonhaaSha5
import Derived.Test.YtlnfiknllnonhaaSha7
import Derived.Test.YtlnfiknllnonhaaSha8
import Derived.Test.YtlnfiknllnonhaaSha9
import Derived.Test.YtlnfiknllnonhaaSha0
namespace Go.Proofs.Ytlnfiknllnonhaa.Sha
open Go Go.RowKit Go.Proofs.YtlnfiknllnonhaaW.PrintWords Go.Proofs.YtlnfiknllnonhaaW.PrintLast Go.Proofs.YtlnfiknllnonhaaW.PrintMore
set_option linter.unusedVariables false
set_option linter.unusedSimpArgs false
set_option maxHeartbeats 8000000 in
set_option maxRecDepth 100000 in
theorem refPad (w : World) (A : Option Addr) (c : Nat) (l : List Int) (hr : Kd.C (Kd.int .u8) w A l.length l) (hn : l.length < 140737488352000) :
  Calls Try.prog 65 #[.slice A l.length c] w fun e w' => ∃ v0, e = .returned v0 ∧ Kd.R (Kd.int .u8) 5 w' w.heap.size (fun _ => True) v0 (tailB l l.length) ∧ Below w.heap.size w w' := by
 have HR := Aside0.mk hr
 have HLN := Aside0.mk hn
 have HB := Aside0.mk (Below.refl w.heap.size w)
 clear hr hn
 go_enter Try.func65, Try.ntmps65
 go_wp2_with (first | ((with_reducible refine gate_dst (N := 6) rfl ?_); refine Kd.R_lit (Kd.int .u8) _ 5 ?hg (N := 6) ?hd (xs := ([] : List Int)) (inner := []) (ok := fun _ => True) (okp := fun _ => True) ?hr ?hp (fun _ hk => hk) trivial (Below.refl _ _) (Nat.le_refl _) (by simp) ?_; (case hd => rfl); (case hg => rfl); (case hr => first | (go_simp; done) | (go_simp; rfl)); (case hp => exact (Reps.none _ _)); intro v0 w4 ho5 hb hg_ hnew_; clear hnew_; have HO := Aside0.mk (Kd.R_lower ho5 (below_size (by repeat (first | (with_reducible first | exact HB.out | apply below_alloc | apply pw_below_drewN | apply below_drew1) | exact HB.out)))); have HB_ := Aside0.mk (below_step (by repeat (first | (with_reducible first | exact HB.out | apply below_alloc | apply pw_below_drewN | apply below_drew1) | exact HB.out)) hb); clear HB; have HB := HB_; clear HB_ hb ho5 hg_) | ((with_reducible refine gate_builtin (b := .append) (xs := #[.tmp 6, .tmp 7]) rfl ?_); at_builtin; refine Kd.R_append_rows (Kd.int .u8) (w0 := w) w.heap.size rfl (.tmp 6) (.tmp 7) 25 5 (.int .u8 0) 1 rfl Try.underlying25 inf5 rfl (by decide) (by omega) v0 [] l A _ c (fun _ => True) (fun _ => False) rfl rfl ?aO ?aR (fun _ _ h => h) (fun _ h => h.elim) ?aF ?aB ?aS ?aL ?_; (case aR => exact (Kd.C_below HR.out HB.out)); (case aB => exact (by repeat (first | (with_reducible first | exact HB.out | apply below_alloc | apply pw_below_drewN | apply below_drew1) | exact HB.out))); (case aF => exact (fun _ _ => trivial)); (case aO => exact (by (with_reducible repeat (first | apply Kd.R_alloc | apply Kd.R_drewN | apply Kd.R_drew)); exact HO.out)); (case aS => exact (below_size (by repeat (first | (with_reducible first | exact HB.out | apply below_alloc | apply pw_below_drewN | apply below_drew1) | exact HB.out)))); (case aL => have := HLN.out; first | omega | (simp; omega)); intro v1 w5 ho hb hg hat; have HB_ := Aside0.mk hb; clear HB HO; have HO := Aside0.mk ho; have HB := HB_; clear HB_ ho hb hg hat) | ((with_reducible refine gate_builtin (b := .append) (xs := #[.tmp 9, .tmp 10]) rfl ?_); at_builtin; refine Kd.R_append (Kd.int .u8) (w0 := w) w.heap.size rfl (.tmp 9) (.tmp 10) 25 5 (.int .u8 0) 1 rfl Try.underlying25 inf5 rfl (by decide) (by omega) v1 ([] ++ l) 128 [.int .u8 128] (fun _ => True) (fun _ => False) rfl rfl ?aP (fun _ hk => hk.elim) ?aF ?aO ?aB ?aS ?aL ?_; (case aP => exact rfl); (case aB => exact (by repeat (first | (with_reducible first | exact HB.out | apply below_alloc | apply pw_below_drewN | apply below_drew1) | exact HB.out))); (case aF => exact (fun _ _ => trivial)); (case aO => exact (by (with_reducible repeat (first | apply Kd.R_alloc | apply Kd.R_drewN | apply Kd.R_drew)); exact HO.out)); (case aS => exact (below_size (by repeat (first | (with_reducible first | exact HB.out | apply below_alloc | apply pw_below_drewN | apply below_drew1) | exact HB.out)))); (case aL => have := HLN.out; first | omega | (simp; omega)); intro v1 w5 ho hb hg hat; have HB_ := Aside0.mk hb; clear HB HO; have HO := Aside0.mk ho; have HB := HB_; clear HB_ ho hb hg hat))
 go_loopg [3] (Zn l.length + 1) (fun kq v4 wr => ∃ z : Nat, Aside0 (kq + z = Zn l.length + 1) ∧ Aside0 (z ≤ Zn l.length) ∧ Aside0 (Kd.R (Kd.int .u8) 5 wr w.heap.size (fun _ => True) v4 (l ++ [128] ++ List.replicate z 0)) ∧ Aside0 (Below w.heap.size w wr))
 case atStart => exact ⟨0, ⟨rfl⟩, ⟨Nat.zero_le _⟩, ⟨by have := HO.out; simpa using this⟩, HB⟩
 case round =>
  clear HO HB
  obtain ⟨z, HK, HZN, HO, HB⟩ := hrel
  obtain ⟨k1, rfl⟩ : ∃ k1, gk = k1 + 1 := ⟨gk - 1, by have := HK.out; have := HZN.out; omega⟩
  have hxl : (l ++ [128] ++ List.replicate z 0).length = l.length + 1 + z := by simp; omega
  have hzz : Zn l.length < 64 := by unfold Zn; omega
  by_cases hlt : z < Zn l.length
  ·have hno := Zn_no l.length z hlt
   have hap : (l ++ [128] ++ List.replicate z 0) ++ [0] = l ++ [128] ++ List.replicate (z + 1) 0 := by rw [List.replicate_succ', ← List.append_assoc]
   have HAP := Aside0.mk hap
   clear hap
   generalize l ++ [128] ++ List.replicate z 0 = xs at HO hxl HAP
   have HLX := Aside0.mk (show xs.length < 140737488352200 by have := HLN.out; omega)
   have b0 : (((xs.length : Int) % 64) == 56) = false := beq_eq_false_iff_ne.mpr (by omega)
   have b1 : (((xs.length : Int) % 64) != 56) = true := bne_iff_ne.mpr (by omega)
   clear hxl hzz hno
   obtain ⟨Ao, co, eo⟩ := Kd.R_slice HO.out
   subst eo
   go_wp2_with (first | ((with_reducible refine gate_builtin (b := .append) (xs := #[.tmp 16, .tmp 17]) rfl ?_); at_builtin; refine Kd.R_append (Kd.int .u8) (w0 := w) w.heap.size rfl (.tmp 16) (.tmp 17) 25 5 (.int .u8 0) 1 rfl Try.underlying25 inf5 rfl (by decide) (by omega) (.slice Ao xs.length co) xs 0 [.int .u8 0] (fun _ => True) (fun _ => False) rfl rfl ?aP (fun _ hk => hk.elim) ?aF ?aO ?aB ?aS ?aL ?_; (case aP => exact rfl); (case aB => exact (by repeat (first | (with_reducible first | exact HB.out | apply below_alloc | apply pw_below_drewN | apply below_drew1) | exact HB.out))); (case aF => exact (fun _ _ => trivial)); (case aO => exact (by (with_reducible repeat (first | apply Kd.R_alloc | apply Kd.R_drewN | apply Kd.R_drew)); exact HO.out)); (case aS => exact (below_size (by repeat (first | (with_reducible first | exact HB.out | apply below_alloc | apply pw_below_drewN | apply below_drew1) | exact HB.out)))); (case aL => have := HLX.out; first | omega | (simp; omega)); intro v1 w5 ho hb hg hat; have HB_ := Aside0.mk hb; clear HB HO; have HO := Aside0.mk ho; have HB := HB_; clear HB_ ho hb hg hat))
   go_roundg k1
   case rel => exact ⟨z + 1, ⟨by have := HK.out; omega⟩, ⟨hlt⟩, ⟨by rw [← HAP.out]; exact HO.out⟩, HB⟩
   case measure => have := HK.out; omega
  ·obtain rfl : z = Zn l.length := by have := HZN.out; omega
   have hok := Zn_ok l.length
   have htb : tailB l l.length = (l ++ [128] ++ List.replicate (Zn l.length) 0) ++ lenB l.length 8 := rfl
   have HTB := Aside0.mk htb
   clear htb
   generalize hX : l ++ [128] ++ List.replicate (Zn l.length) 0 = xs at HO hxl HTB
   have HLX := Aside0.mk (show xs.length < 140737488352200 by have := HLN.out; omega)
   have b0 : (((xs.length : Int) % 64) == 56) = true := beq_iff_eq.mpr (by omega)
   have b1 : (((xs.length : Int) % 64) != 56) = false := bne_eq_false_iff_eq.mpr (by omega)
   clear hxl hzz hok hX
   obtain ⟨Ao, co, eo⟩ := Kd.R_slice HO.out
   subst eo
   have hsz : l.length < 140737488352000 := HLN.out
   go_wp2
   clear b0 b1
   go_loopg [3, 5] 9 (fun kq v4 v5 wr => ∃ j : Nat, j ≤ 8 ∧ v5 = .int .i64 (7 - (j : Int)) ∧ Aside0 (kq + j = 9) ∧ Aside0 (Kd.R (Kd.int .u8) 5 wr w.heap.size (fun _ => True) v4 (xs ++ lenB l.length j)) ∧ Aside0 (Below w.heap.size w wr))
   case atStart => exact ⟨0, by omega, rfl, ⟨rfl⟩, ⟨by have := HO.out; simpa [lenB] using this⟩, HB⟩
   case round =>
    clear HO HB
    obtain ⟨j, hj, rfl, HK2, HO, HB⟩ := hrel
    obtain ⟨k2, rfl⟩ : ∃ k2, gk = k2 + 1 := ⟨gk - 1, by have := HK2.out; omega⟩
    have hyl : (xs ++ lenB l.length j).length = xs.length + j := by rw [List.length_append, lenB_len]
    have HS1 := Aside0.mk (lenB_s l.length j)
    rcases (show j = 0 ∨ j = 1 ∨ j = 2 ∨ j = 3 ∨ j = 4 ∨ j = 5 ∨ j = 6 ∨ j = 7 ∨ j = 8 by omega) with rfl | rfl | rfl | rfl | rfl | rfl | rfl | rfl | rfl
    ·have hap : (xs ++ lenB l.length 0) ++ [((l.length : Int) * 8 / 72057594037927936)] = xs ++ lenB l.length (0 + 1) := by
      rw [HS1.out, ← List.append_assoc]
      have := HLN.out
      congr 2
      omega
     have HAP := Aside0.mk hap
     clear hap
     generalize xs ++ lenB l.length 0 = ys at HO hyl HAP
     have HLY := Aside0.mk (show ys.length < 140737488353200 by have := HLX.out; omega)
     obtain ⟨Ao, co, eo⟩ := Kd.R_slice HO.out
     subst eo
     go_wp2_with (first | ((with_reducible refine gate_builtin (b := .append) (xs := #[.tmp 27, .tmp 34]) rfl ?_); at_builtin; refine Kd.R_append (Kd.int .u8) (w0 := w) w.heap.size rfl (.tmp 27) (.tmp 34) 25 5 (.int .u8 0) 1 rfl Try.underlying25 inf5 rfl (by decide) (by omega) (.slice Ao ys.length co) ys ((l.length : Int) * 8 / 72057594037927936) [.int .u8 ((l.length : Int) * 8 / 72057594037927936)] (fun _ => True) (fun _ => False) rfl rfl ?aP (fun _ hk => hk.elim) ?aF ?aO ?aB ?aS ?aL ?_; (case aP => exact rfl); (case aB => exact (by repeat (first | (with_reducible first | exact HB.out | apply below_alloc | apply pw_below_drewN | apply below_drew1) | exact HB.out))); (case aF => exact (fun _ _ => trivial)); (case aO => exact (by (with_reducible repeat (first | apply Kd.R_alloc | apply Kd.R_drewN | apply Kd.R_drew)); exact HO.out)); (case aS => exact (below_size (by repeat (first | (with_reducible first | exact HB.out | apply below_alloc | apply pw_below_drewN | apply below_drew1) | exact HB.out)))); (case aL => have := HLY.out; first | omega | (simp; omega)); intro v1 w5 ho hb hg hat; have HB_ := Aside0.mk hb; clear HB HO; have HO := Aside0.mk ho; have HB := HB_; clear HB_ ho hb hg hat))
     go_roundg k2
     case rel => exact ⟨0 + 1, by decide, by first | rfl | simp, ⟨by have := HK2.out; omega⟩, ⟨by rw [← HAP.out]; exact HO.out⟩, HB⟩
     case measure => have := HK2.out; omega
    ·have hap : (xs ++ lenB l.length 1) ++ [((l.length : Int) * 8 / 281474976710656)] = xs ++ lenB l.length (1 + 1) := by
      rw [HS1.out, ← List.append_assoc]
      have := HLN.out
      congr 2
      omega
     have HAP := Aside0.mk hap
     clear hap
     generalize xs ++ lenB l.length 1 = ys at HO hyl HAP
     have HLY := Aside0.mk (show ys.length < 140737488353200 by have := HLX.out; omega)
     obtain ⟨Ao, co, eo⟩ := Kd.R_slice HO.out
     subst eo
     go_wp2_with (first | ((with_reducible refine gate_builtin (b := .append) (xs := #[.tmp 27, .tmp 34]) rfl ?_); at_builtin; refine Kd.R_append (Kd.int .u8) (w0 := w) w.heap.size rfl (.tmp 27) (.tmp 34) 25 5 (.int .u8 0) 1 rfl Try.underlying25 inf5 rfl (by decide) (by omega) (.slice Ao ys.length co) ys ((l.length : Int) * 8 / 281474976710656) [.int .u8 ((l.length : Int) * 8 / 281474976710656)] (fun _ => True) (fun _ => False) rfl rfl ?aP (fun _ hk => hk.elim) ?aF ?aO ?aB ?aS ?aL ?_; (case aP => exact rfl); (case aB => exact (by repeat (first | (with_reducible first | exact HB.out | apply below_alloc | apply pw_below_drewN | apply below_drew1) | exact HB.out))); (case aF => exact (fun _ _ => trivial)); (case aO => exact (by (with_reducible repeat (first | apply Kd.R_alloc | apply Kd.R_drewN | apply Kd.R_drew)); exact HO.out)); (case aS => exact (below_size (by repeat (first | (with_reducible first | exact HB.out | apply below_alloc | apply pw_below_drewN | apply below_drew1) | exact HB.out)))); (case aL => have := HLY.out; first | omega | (simp; omega)); intro v1 w5 ho hb hg hat; have HB_ := Aside0.mk hb; clear HB HO; have HO := Aside0.mk ho; have HB := HB_; clear HB_ ho hb hg hat))
     go_roundg k2
     case rel => exact ⟨1 + 1, by decide, by first | rfl | simp, ⟨by have := HK2.out; omega⟩, ⟨by rw [← HAP.out]; exact HO.out⟩, HB⟩
     case measure => have := HK2.out; omega
    ·have hap : (xs ++ lenB l.length 2) ++ [(((l.length : Int) * 8 / 1099511627776) % 256)] = xs ++ lenB l.length (2 + 1) := by
      rw [HS1.out, ← List.append_assoc]
      have := HLN.out
      congr 2
      omega
     have HAP := Aside0.mk hap
     clear hap
     generalize xs ++ lenB l.length 2 = ys at HO hyl HAP
     have HLY := Aside0.mk (show ys.length < 140737488353200 by have := HLX.out; omega)
     obtain ⟨Ao, co, eo⟩ := Kd.R_slice HO.out
     subst eo
     go_wp2_with (first | ((with_reducible refine gate_builtin (b := .append) (xs := #[.tmp 27, .tmp 34]) rfl ?_); at_builtin; refine Kd.R_append (Kd.int .u8) (w0 := w) w.heap.size rfl (.tmp 27) (.tmp 34) 25 5 (.int .u8 0) 1 rfl Try.underlying25 inf5 rfl (by decide) (by omega) (.slice Ao ys.length co) ys (((l.length : Int) * 8 / 1099511627776) % 256) [.int .u8 (((l.length : Int) * 8 / 1099511627776) % 256)] (fun _ => True) (fun _ => False) rfl rfl ?aP (fun _ hk => hk.elim) ?aF ?aO ?aB ?aS ?aL ?_; (case aP => exact rfl); (case aB => exact (by repeat (first | (with_reducible first | exact HB.out | apply below_alloc | apply pw_below_drewN | apply below_drew1) | exact HB.out))); (case aF => exact (fun _ _ => trivial)); (case aO => exact (by (with_reducible repeat (first | apply Kd.R_alloc | apply Kd.R_drewN | apply Kd.R_drew)); exact HO.out)); (case aS => exact (below_size (by repeat (first | (with_reducible first | exact HB.out | apply below_alloc | apply pw_below_drewN | apply below_drew1) | exact HB.out)))); (case aL => have := HLY.out; first | omega | (simp; omega)); intro v1 w5 ho hb hg hat; have HB_ := Aside0.mk hb; clear HB HO; have HO := Aside0.mk ho; have HB := HB_; clear HB_ ho hb hg hat))
     go_roundg k2
     case rel => exact ⟨2 + 1, by decide, by first | rfl | simp, ⟨by have := HK2.out; omega⟩, ⟨by rw [← HAP.out]; exact HO.out⟩, HB⟩
     case measure => have := HK2.out; omega
    ·have hap : (xs ++ lenB l.length 3) ++ [((l.length : Int) * 8 / 4294967296 % 256)] = xs ++ lenB l.length (3 + 1) := by
      rw [HS1.out, ← List.append_assoc]
      have := HLN.out
      congr 2
      omega
     have HAP := Aside0.mk hap
     clear hap
     generalize xs ++ lenB l.length 3 = ys at HO hyl HAP
     have HLY := Aside0.mk (show ys.length < 140737488353200 by have := HLX.out; omega)
     obtain ⟨Ao, co, eo⟩ := Kd.R_slice HO.out
     subst eo
     go_wp2_with (first | ((with_reducible refine gate_builtin (b := .append) (xs := #[.tmp 27, .tmp 34]) rfl ?_); at_builtin; refine Kd.R_append (Kd.int .u8) (w0 := w) w.heap.size rfl (.tmp 27) (.tmp 34) 25 5 (.int .u8 0) 1 rfl Try.underlying25 inf5 rfl (by decide) (by omega) (.slice Ao ys.length co) ys ((l.length : Int) * 8 / 4294967296 % 256) [.int .u8 ((l.length : Int) * 8 / 4294967296 % 256)] (fun _ => True) (fun _ => False) rfl rfl ?aP (fun _ hk => hk.elim) ?aF ?aO ?aB ?aS ?aL ?_; (case aP => exact rfl); (case aB => exact (by repeat (first | (with_reducible first | exact HB.out | apply below_alloc | apply pw_below_drewN | apply below_drew1) | exact HB.out))); (case aF => exact (fun _ _ => trivial)); (case aO => exact (by (with_reducible repeat (first | apply Kd.R_alloc | apply Kd.R_drewN | apply Kd.R_drew)); exact HO.out)); (case aS => exact (below_size (by repeat (first | (with_reducible first | exact HB.out | apply below_alloc | apply pw_below_drewN | apply below_drew1) | exact HB.out)))); (case aL => have := HLY.out; first | omega | (simp; omega)); intro v1 w5 ho hb hg hat; have HB_ := Aside0.mk hb; clear HB HO; have HO := Aside0.mk ho; have HB := HB_; clear HB_ ho hb hg hat))
     go_roundg k2
     case rel => exact ⟨3 + 1, by decide, by first | rfl | simp, ⟨by have := HK2.out; omega⟩, ⟨by rw [← HAP.out]; exact HO.out⟩, HB⟩
     case measure => have := HK2.out; omega
    ·have hap : (xs ++ lenB l.length 4) ++ [((l.length : Int) * 8 / 16777216 % 256)] = xs ++ lenB l.length (4 + 1) := by
      rw [HS1.out, ← List.append_assoc]
      have := HLN.out
      congr 2
      omega
     have HAP := Aside0.mk hap
     clear hap
     generalize xs ++ lenB l.length 4 = ys at HO hyl HAP
     have HLY := Aside0.mk (show ys.length < 140737488353200 by have := HLX.out; omega)
     obtain ⟨Ao, co, eo⟩ := Kd.R_slice HO.out
     subst eo
     go_wp2_with (first | ((with_reducible refine gate_builtin (b := .append) (xs := #[.tmp 27, .tmp 34]) rfl ?_); at_builtin; refine Kd.R_append (Kd.int .u8) (w0 := w) w.heap.size rfl (.tmp 27) (.tmp 34) 25 5 (.int .u8 0) 1 rfl Try.underlying25 inf5 rfl (by decide) (by omega) (.slice Ao ys.length co) ys ((l.length : Int) * 8 / 16777216 % 256) [.int .u8 ((l.length : Int) * 8 / 16777216 % 256)] (fun _ => True) (fun _ => False) rfl rfl ?aP (fun _ hk => hk.elim) ?aF ?aO ?aB ?aS ?aL ?_; (case aP => exact rfl); (case aB => exact (by repeat (first | (with_reducible first | exact HB.out | apply below_alloc | apply pw_below_drewN | apply below_drew1) | exact HB.out))); (case aF => exact (fun _ _ => trivial)); (case aO => exact (by (with_reducible repeat (first | apply Kd.R_alloc | apply Kd.R_drewN | apply Kd.R_drew)); exact HO.out)); (case aS => exact (below_size (by repeat (first | (with_reducible first | exact HB.out | apply below_alloc | apply pw_below_drewN | apply below_drew1) | exact HB.out)))); (case aL => have := HLY.out; first | omega | (simp; omega)); intro v1 w5 ho hb hg hat; have HB_ := Aside0.mk hb; clear HB HO; have HO := Aside0.mk ho; have HB := HB_; clear HB_ ho hb hg hat))
     go_roundg k2
     case rel => exact ⟨4 + 1, by decide, by first | rfl | simp, ⟨by have := HK2.out; omega⟩, ⟨by rw [← HAP.out]; exact HO.out⟩, HB⟩
     case measure => have := HK2.out; omega
    ·have hap : (xs ++ lenB l.length 5) ++ [((l.length : Int) * 8 / 65536 % 256)] = xs ++ lenB l.length (5 + 1) := by
      rw [HS1.out, ← List.append_assoc]
      have := HLN.out
      congr 2
      omega
     have HAP := Aside0.mk hap
     clear hap
     generalize xs ++ lenB l.length 5 = ys at HO hyl HAP
     have HLY := Aside0.mk (show ys.length < 140737488353200 by have := HLX.out; omega)
     obtain ⟨Ao, co, eo⟩ := Kd.R_slice HO.out
     subst eo
     go_wp2_with (first | ((with_reducible refine gate_builtin (b := .append) (xs := #[.tmp 27, .tmp 34]) rfl ?_); at_builtin; refine Kd.R_append (Kd.int .u8) (w0 := w) w.heap.size rfl (.tmp 27) (.tmp 34) 25 5 (.int .u8 0) 1 rfl Try.underlying25 inf5 rfl (by decide) (by omega) (.slice Ao ys.length co) ys ((l.length : Int) * 8 / 65536 % 256) [.int .u8 ((l.length : Int) * 8 / 65536 % 256)] (fun _ => True) (fun _ => False) rfl rfl ?aP (fun _ hk => hk.elim) ?aF ?aO ?aB ?aS ?aL ?_; (case aP => exact rfl); (case aB => exact (by repeat (first | (with_reducible first | exact HB.out | apply below_alloc | apply pw_below_drewN | apply below_drew1) | exact HB.out))); (case aF => exact (fun _ _ => trivial)); (case aO => exact (by (with_reducible repeat (first | apply Kd.R_alloc | apply Kd.R_drewN | apply Kd.R_drew)); exact HO.out)); (case aS => exact (below_size (by repeat (first | (with_reducible first | exact HB.out | apply below_alloc | apply pw_below_drewN | apply below_drew1) | exact HB.out)))); (case aL => have := HLY.out; first | omega | (simp; omega)); intro v1 w5 ho hb hg hat; have HB_ := Aside0.mk hb; clear HB HO; have HO := Aside0.mk ho; have HB := HB_; clear HB_ ho hb hg hat))
     go_roundg k2
     case rel => exact ⟨5 + 1, by decide, by first | rfl | simp, ⟨by have := HK2.out; omega⟩, ⟨by rw [← HAP.out]; exact HO.out⟩, HB⟩
     case measure => have := HK2.out; omega
    ·have hap : (xs ++ lenB l.length 6) ++ [((l.length : Int) * 8 / 256 % 256)] = xs ++ lenB l.length (6 + 1) := by
      rw [HS1.out, ← List.append_assoc]
      have := HLN.out
      congr 2
      omega
     have HAP := Aside0.mk hap
     clear hap
     generalize xs ++ lenB l.length 6 = ys at HO hyl HAP
     have HLY := Aside0.mk (show ys.length < 140737488353200 by have := HLX.out; omega)
     obtain ⟨Ao, co, eo⟩ := Kd.R_slice HO.out
     subst eo
     go_wp2_with (first | ((with_reducible refine gate_builtin (b := .append) (xs := #[.tmp 27, .tmp 34]) rfl ?_); at_builtin; refine Kd.R_append (Kd.int .u8) (w0 := w) w.heap.size rfl (.tmp 27) (.tmp 34) 25 5 (.int .u8 0) 1 rfl Try.underlying25 inf5 rfl (by decide) (by omega) (.slice Ao ys.length co) ys ((l.length : Int) * 8 / 256 % 256) [.int .u8 ((l.length : Int) * 8 / 256 % 256)] (fun _ => True) (fun _ => False) rfl rfl ?aP (fun _ hk => hk.elim) ?aF ?aO ?aB ?aS ?aL ?_; (case aP => exact rfl); (case aB => exact (by repeat (first | (with_reducible first | exact HB.out | apply below_alloc | apply pw_below_drewN | apply below_drew1) | exact HB.out))); (case aF => exact (fun _ _ => trivial)); (case aO => exact (by (with_reducible repeat (first | apply Kd.R_alloc | apply Kd.R_drewN | apply Kd.R_drew)); exact HO.out)); (case aS => exact (below_size (by repeat (first | (with_reducible first | exact HB.out | apply below_alloc | apply pw_below_drewN | apply below_drew1) | exact HB.out)))); (case aL => have := HLY.out; first | omega | (simp; omega)); intro v1 w5 ho hb hg hat; have HB_ := Aside0.mk hb; clear HB HO; have HO := Aside0.mk ho; have HB := HB_; clear HB_ ho hb hg hat))
     go_roundg k2
     case rel => exact ⟨6 + 1, by decide, by first | rfl | simp, ⟨by have := HK2.out; omega⟩, ⟨by rw [← HAP.out]; exact HO.out⟩, HB⟩
     case measure => have := HK2.out; omega
    ·have hap : (xs ++ lenB l.length 7) ++ [((l.length : Int) * 8 % 256)] = xs ++ lenB l.length (7 + 1) := by
      rw [HS1.out, ← List.append_assoc]
      have := HLN.out
      congr 2
      omega
     have HAP := Aside0.mk hap
     clear hap
     generalize xs ++ lenB l.length 7 = ys at HO hyl HAP
     have HLY := Aside0.mk (show ys.length < 140737488353200 by have := HLX.out; omega)
     obtain ⟨Ao, co, eo⟩ := Kd.R_slice HO.out
     subst eo
     go_wp2_with (first | ((with_reducible refine gate_builtin (b := .append) (xs := #[.tmp 27, .tmp 34]) rfl ?_); at_builtin; refine Kd.R_append (Kd.int .u8) (w0 := w) w.heap.size rfl (.tmp 27) (.tmp 34) 25 5 (.int .u8 0) 1 rfl Try.underlying25 inf5 rfl (by decide) (by omega) (.slice Ao ys.length co) ys ((l.length : Int) * 8 % 256) [.int .u8 ((l.length : Int) * 8 % 256)] (fun _ => True) (fun _ => False) rfl rfl ?aP (fun _ hk => hk.elim) ?aF ?aO ?aB ?aS ?aL ?_; (case aP => exact rfl); (case aB => exact (by repeat (first | (with_reducible first | exact HB.out | apply below_alloc | apply pw_below_drewN | apply below_drew1) | exact HB.out))); (case aF => exact (fun _ _ => trivial)); (case aO => exact (by (with_reducible repeat (first | apply Kd.R_alloc | apply Kd.R_drewN | apply Kd.R_drew)); exact HO.out)); (case aS => exact (below_size (by repeat (first | (with_reducible first | exact HB.out | apply below_alloc | apply pw_below_drewN | apply below_drew1) | exact HB.out)))); (case aL => have := HLY.out; first | omega | (simp; omega)); intro v1 w5 ho hb hg hat; have HB_ := Aside0.mk hb; clear HB HO; have HO := Aside0.mk ho; have HB := HB_; clear HB_ ho hb hg hat))
     go_roundg k2
     case rel => exact ⟨7 + 1, by decide, by first | rfl | simp, ⟨by have := HK2.out; omega⟩, ⟨by rw [← HAP.out]; exact HO.out⟩, HB⟩
     case measure => have := HK2.out; omega
    ·rw [← HTB.out] at HO
     go_wp2
     go_ret
     exact ⟨_, rfl, HO.out, HB.out⟩
end Go.Proofs.Ytlnfiknllnonhaa.Sha
