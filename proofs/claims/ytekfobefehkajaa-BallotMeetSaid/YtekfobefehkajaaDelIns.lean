/- slices.Delete and slices.Insert at whole numbers, on a row of the call's own. -/
import Derived.Test.YtekfobefehkajaaProg
import Derived.WalkSpells
import Derived.Below
import Derived.Deep.Draws
import Derived.Deep.AppendLies
import Derived.Maps.AppendAt
import Derived.OwnWalk
import Derived.Laws.BytesArg
import Derived.Laws.MakeOwn
import Derived.Laws.OwnMore
import Derived.Deep.OwnRows
import Derived.Tactics
import Derived.Lib.ConvBytes
import Derived.Laws.Slices
import Derived.WalkKit
import Derived.KernelRfl
import Derived.RowKit3
import Derived.Deep.LoopGhost
import Derived.Deep.QuietTactic
import Derived.BigQuiet
import Derived.WideLaws
import Derived.Deep.DeepCutAuto
import Derived.Deep.CutBlock
import Derived.Deep.RegionHeld3
import Derived.Laws.Rows
import Derived.Lib.AppendStr
import Derived.ArgAppend
import Derived.Laws.IdiomCopy
import Derived.OrdersHeld
import Derived.Laws.BitsLemmas
import Derived.RowKit
import Derived.Test.YtekfobefehkajaaWWords
import Derived.Test.YtekfobefehkajaaWLast
import Derived.Test.YtekfobefehkajaaWTab
import Derived.Test.YtekfobefehkajaaWFour
import Derived.Test.YtekfobefehkajaaWQPut
import Derived.Test.YtekfobefehkajaaWApart
import Derived.Test.YtekfobefehkajaaWArr
import Derived.Test.YtekfobefehkajaaWZeros
import Derived.Test.YtekfobefehkajaaWFoot
import Derived.Test.YtekfobefehkajaaWKept
import Derived.Test.YtekfobefehkajaaWShare
import Derived.Test.YtekfobefehkajaaWN
import Derived.Test.YtekfobefehkajaaWFootNe
import Derived.Test.YtekfobefehkajaaWAt
import Derived.Test.YtekfobefehkajaaWEqStruct
import Derived.Test.YtekfobefehkajaaWRepsOne
import Derived.Test.YtekfobefehkajaaWInv
import Derived.Test.YtekfobefehkajaaWInvWords
import Derived.Test.YtekfobefehkajaaWGuard
import Derived.Test.YtekfobefehkajaaWNEv
import Derived.Test.YtekfobefehkajaaWMore
import Derived.Test.YtekfobefehkajaaWOpen
import Derived.Deep.RegionLaw
import Derived.Outline
import Derived.Lib.AppendZerosOnto
import Derived.Laws.Externs
import Derived.Test.YtekfobefehkajaaWMid
namespace Go.Proofs.Ytekfobefehkajaa.DelIns
open Go.RowKit Go.Proofs.YtekfobefehkajaaW.PrintWords Go.Proofs.YtekfobefehkajaaW.PrintLast Go.Proofs.YtekfobefehkajaaW.PrintMore
theorem info3 : (Try.prog.info? 3).map (fun i => (i.zero, i.size, i.bytes)) = some (some (.int .i64 0), 1, 8) := by kernel_rfl

set_option maxHeartbeats 800000 in
theorem ins_end (base : Nat) (v : Value) (n : Nat) (inner c : List Value) (cx gx : Nat) (curx : Array Value) (w : World) (hown : w.ownsRow base 3 1 v n inner)
    (hx : w.heap[gx]? = some (.cells curx 3 (0, 0))) (hcx : curx.toList.take 1 = c) (hc : c.length = 1) (h1 : ∀ u ∈ c, u.oneCell' = true) (hl : (n + 1) * 8 ≤ 140737488355328) (hbase : base ≤ w.heap.size) :
    Calls Try.prog 35 #[v, .int .i64 (n : Int), .slice (some ⟨gx, 0, none⟩) 1 cx] w fun e w' => ∃ v', e = .returned v' ∧ w'.ownsRow base 3 1 v' (n + 1) (inner ++ c) ∧ w.grownBy w' v.ownBlock := by
  obtain ⟨A, cap, hv, hnc, hcm⟩ : ∃ A cap, v = .slice A n cap ∧ n ≤ cap ∧ cap ≤ 9223372036854775807 := by
    rcases hown.2 with ⟨rfl, rfl⟩ | ⟨g, cap, cur, rfl, _, _, h3, h4, _⟩
    · exact ⟨none, 0, rfl, Nat.le_refl _, by omega⟩
    · unfold maxLen at h4
      exact ⟨_, cap, rfl, h3, by omega⟩
  subst hv
  obtain ⟨i0, hi, hz0, hz1, hz2⟩ := info_parts info3
  have HO := Aside0.mk hown
  have hnews := Aside0.mk (cells_of_block hx 0 c (by rw [List.drop_zero, ← hcx]; exact List.take_prefix _ _))
  have HC := Aside0.mk hc
  have H1 := Aside0.mk h1
  clear hown hx hcx hc h1
  go_enter Try.func35, Try.ntmps35
  go_wp2_with (at_builtin; refine wpList_append_own _ rfl (.tmp 23) (.tmp 24) 22 rfl base 3 i0 (.int .i64 0) 1 8 Try.underlying22 hi hz0 hz1 hz2 rfl (by decide) _ n inner rfl HO.out ⟨gx, 0, none⟩ 1 cx c rfl (by rw [HC.out]) hnews.out H1.out (by unfold maxLen; omega) hl hbase ?_; intro v' w' hown' hgrow _; have HO' := Aside0.mk hown'; have HG' : Aside0 (w.grownBy w' (Value.slice A n cap).ownBlock) := ⟨hgrow⟩; clear hown' hgrow)
  all_goals
    (try subst_vars)
    go_ret
    exact ⟨_, rfl, HO'.out, HG'.out⟩

set_option maxHeartbeats 800000 in
set_option maxRecDepth 100000 in
/-- Room: in place. -/
theorem ins_room (base g n i cap : Nat) (inner c : List Value) (cx gx : Nat) (curx : Array Value) (w : World) (hown : w.ownsRow base 3 1 (.slice (some ⟨g, 0, none⟩) n cap) n inner)
    (hx : w.heap[gx]? = some (.cells curx 3 (0, 0))) (hcx : curx.toList.take 1 = c) (hc : c.length = 1) (h1 : ∀ u ∈ c, u.oneCell' = true) (hgx : gx ≠ g) (hin : i < n) (hroom : n + 1 ≤ cap) (hone : ∀ u ∈ inner, u.oneCell' = true) :
    Calls Try.prog 35 #[.slice (some ⟨g, 0, none⟩) n cap, .int .i64 (i : Int), .slice (some ⟨gx, 0, none⟩) 1 cx] w fun e w' => ∃ v', e = .returned v' ∧ w'.ownsRow base 3 1 v' (n + 1) (inner.take (i * 1) ++ c ++ inner.drop (i * 1)) ∧ w.grownBy w' (some g) ∧ v'.ownBlock = some g := by
  obtain ⟨hil, hown⟩ := hown
  rcases hown with ⟨he, _⟩ | ⟨g', cap', cur, he, hb, hh, hnc, hcm, hcs, ht⟩
  · cases he
  injection he with e1 e2 e3
  injection e1 with e1
  injection e1 with e1
  subst e1
  subst e3
  clear e2
  have hcm' : cap ≤ 9223372036854775807 := by unfold maxLen at hcm; omega
  have hsz : ∀ w, (sizeOf 3).run Try.prog w = .ok 1 w := fun w => by kernel_rfl
  have hcs1 : cur.size = cap := by rw [hcs, Nat.mul_one]
  have hil1 : inner.length = n := by rw [hil, Nat.mul_one]
  have hsrc : cur.toList.drop i <+: cur.toList.drop i := List.prefix_rfl
  have hmv : (inner.drop i) <+: cur.toList.drop i := by
    rw [← ht, List.drop_take]
    exact List.take_prefix _ _
  have hov : (callFunc 42 #[.slice (some ⟨gx, 0, none⟩) 1 cx, .slice (some ⟨g, i + 1, none⟩) (n - i) (cap - (i + 1))]).run Try.prog w = .ok (.value (.bool false)) w := by
    rw [run_callFunc_extern (P := Try.prog) (f := 42) Try.func42 (by kernel_rfl) (by kernel_rfl) (by kernel_rfl) (e := Extern.SlicesOverlaps.overlaps Try.f42.params Try.f42.resultTypes) (by kernel_rfl)]
    rw [show Try.f42.params = #[22, 22] from by kernel_rfl, show Try.f42.resultTypes = #[4] from by kernel_rfl]
    rw [Lib.run_overlaps_apart w 22 4 3 Try.underlying22 1 hsz ⟨gx, 0, none⟩ ⟨g, i + 1, none⟩ 1 cx (n - i) (cap - (i + 1)) hgx 3 3 curx.size cur.size (by simp [World.shape?, hx]) (by simp [World.shape?, hh]) (by omega) (blk_frozen hx _) (blk_frozen hx _)]
    rfl
  have hc1 : ∀ ty, (Builtin.copy_ #[22, 22] ty #[.slice (some ⟨g, i + 1, none⟩) (n - i) (cap - (i + 1)), .slice (some ⟨g, i, none⟩) (n + 1 - i) (cap - i)]).run Try.prog w.drew = .ok (.int .i64 ((n - i : Nat) : Int)) (w.drew.setCells g (i + 1) (inner.drop i)) := fun ty =>
    run_copy_any w.drew 22 22 ty 3 1 Try.underlying22 hsz g (i + 1) (n - i) (cap - (i + 1)) ⟨g, i, none⟩ (n + 1 - i) (cap - i) (n - i) (Nat.min_eq_right (by omega)) (inner.drop i) (by rw [List.length_drop, hil1, Nat.mul_one]) (cells_of_block (w := w) hh i _ hmv) cur 3 hh (by rw [List.length_drop, hil1, hcs1]; omega) (fun u hu => hone u (List.mem_of_mem_drop hu))
  obtain ⟨cur1, e1, e2, _⟩ := setCells_row (inner.drop i) (i + 1) w.drew cur hh (by rw [List.length_drop, hil1, hcs1]; omega)
  have hx1 : (w.drew.setCells g (i + 1) (inner.drop i)).heap[gx]? = some (.cells curx 3 (0, 0)) := by rw [setCells_far _ _ gx hgx]; exact hx
  have hc2 : ∀ ty, (Builtin.copy_ #[22, 22] ty #[.slice (some ⟨g, i, none⟩) (n + 1 - i) (cap - i), .slice (some ⟨gx, 0, none⟩) 1 cx]).run Try.prog (w.drew.setCells g (i + 1) (inner.drop i)) = .ok (.int .i64 ((1 : Nat) : Int)) ((w.drew.setCells g (i + 1) (inner.drop i)).setCells g i c) := fun ty =>
    run_copy_any _ 22 22 ty 3 1 Try.underlying22 hsz g i (n + 1 - i) (cap - i) ⟨gx, 0, none⟩ 1 cx 1 (Nat.min_eq_left (by omega)) c (by rw [hc]) (cells_of_block (w := w.drew.setCells g (i + 1) (inner.drop i)) hx1 0 c (by rw [List.drop_zero, ← hcx]; exact List.take_prefix _ _)) cur1 3 e1 (by rw [hc, e2, hcs1]; omega) h1
  have HF := Aside0.mk (row_insert (w := w.drew) (base := base) (sz := 1) hb hh hcm hcs hil ht (Nat.le_of_lt hin) hroom hc)
  have hi1 : i ≤ n := by omega
  have hi2 : i ≤ n + 1 := by omega
  have hi3 : i + 1 ≤ n + 1 := by omega
  have h01 : 0 ≤ (i : Int) + 1 := by omega
  have h02 : (i : Int) + 1 ≤ (n : Int) + 1 := by omega
  have hd : decide ((cap : Int) < (n : Int) + 1) = false := by simp; omega
  clear hil hil1 hcs hcs1 ht hcx hc e1 e2 hx1 hx hmv hsrc hone h1 hsz
  go_enter Try.func35, Try.ntmps35
  go_wp2_with fail
  go_region
  all_goals
    go_wp2_with fail
    go_ret
    have hf := HF.out
    simp only [Nat.mul_one] at hf ⊢
    exact ⟨_, rfl, hf.1, grown_drew hf.2, rfl⟩


set_option maxHeartbeats 800000 in
set_option maxRecDepth 100000 in
/-- No room: a new row. -/
theorem ins_grow (base g n i : Nat) (inner c : List Value) (cx gx : Nat) (curx : Array Value) (w : World) (hown : w.ownsRow base 3 1 (.slice (some ⟨g, 0, none⟩) n n) n inner)
    (hx : w.heap[gx]? = some (.cells curx 3 (0, 0))) (hcx : curx.toList.take 1 = c) (hc : c.length = 1) (h1 : ∀ u ∈ c, u.oneCell' = true) (hin : i < n) (hone : ∀ u ∈ inner, u.oneCell' = true) (hl : (n + 1) * 8 ≤ 140737488355328) (hbase : base ≤ w.heap.size) :
    Calls Try.prog 35 #[.slice (some ⟨g, 0, none⟩) n n, .int .i64 (i : Int), .slice (some ⟨gx, 0, none⟩) 1 cx] w fun e w' => ∃ v', e = .returned v' ∧ w'.ownsRow base 3 1 v' (n + 1) (inner.take (i * 1) ++ c ++ inner.drop (i * 1)) ∧ w.grownBy w' (some g) ∧ v'.ownBlock = some w.heap.size := by
  obtain ⟨hil, hown⟩ := hown
  rcases hown with ⟨he, _⟩ | ⟨g', cap', cur, he, hb, hh, hnc, hcm, hcs, ht⟩
  · cases he
  injection he with e1 e2 e3
  injection e1 with e1
  injection e1 with e1
  subst e1
  subst e3
  clear e2
  have hcm' : n ≤ 9223372036854775807 := by unfold maxLen at hcm; omega
  have hsz : ∀ w, (sizeOf 3).run Try.prog w = .ok 1 w := fun w => by kernel_rfl
  have hcs1 : cur.size = n := by rw [hcs, Nat.mul_one]
  have hil1 : inner.length = n := by rw [hil, Nat.mul_one]
  have hglt : g < w.heap.size := blk_lt hh
  obtain ⟨i0, hi, hz0, hz1, hz2⟩ := info_parts info3
  have hi1 : i ≤ n := by omega
  have hd : decide ((n : Int) < (n : Int) + 1) = true := by simp; omega
  have hne : ((i : Int) == (n : Int)) = false := by rw [beq_eq_false_iff_ne]; omega
  have h01 : 0 ≤ (n : Int) + 1 - (i : Int) := by omega
  have hsub : (n : Int) + 1 - (i : Int) = ((n + 1 - i : Nat) : Int) := by omega
  have hneed : i + (n + 1 - i) = n + 1 := by omega
  obtain ⟨cap, zs, hrun, hcap, hcapm, hzl⟩ : ∃ (cap : Nat) (zs : List Value), (∀ ty, (Builtin.append_ #[22, 3] ty #[.slice (some ⟨g, 0, none⟩) i n, .int .i64 ((n + 1 - i : Nat) : Int)]).run Try.prog w = .ok (.slice (some ⟨w.heap.size, 0, none⟩) (n + 1) cap) (w.alloc (.cells (inner.take i ++ zs).toArray 3)).drew) ∧ n + 1 ≤ cap ∧ cap ≤ maxLen ∧ (inner.take i ++ zs).length = cap := by
    refine ⟨grownCap w (i + (n + 1 - i)) n 3, (Builtin.zeroCells #[Value.int .i64 0] (n + 1 - i)).toList ++ (Builtin.zeroCells #[Value.int .i64 0] (grownCap w (i + (n + 1 - i)) n 3 - (i + (n + 1 - i)))).toList, fun ty => ?_, ?_, ?_, ?_⟩
    · have h := Lib.run_append_grow_zeros (P := Try.prog) w 22 3 ty 3 i0 (.int .i64 0) .i64 .i64 Try.underlying22 Try.underlying3 hi hz0 (some ⟨g, 0, none⟩) i n (inner.take i) (by
        rw [hz1]
        exact run_firstCells_some (P := Try.prog) w.drew 1 i ⟨g, 0, none⟩ i n (inner.take i) (by rw [List.length_take, hil1]; omega) (cells_of_block (w := w) hh 0 _ (by rw [List.drop_zero, ← ht, List.take_take]; exact List.take_prefix _ _))) (n + 1 - i) (by omega) (by rw [hz1]; decide) (by omega) (by omega) (by rw [hz2]; omega) (by rw [hz2, hneed]; exact growslice_fits (by omega) hl)
      rw [h, hneed]
      congr 3
      show (World.alloc w _).drew = _
      congr 3
      apply Array.ext'
      simp [Value.cells]
    · rw [hneed]; exact grownCap_ge _ _ _ _
    · exact grownCap_le_maxLen _ _ _ _ (by rw [hneed]; unfold maxLen; omega)
    · have := grownCap_ge w (i + (n + 1 - i)) n 3
      simp [Builtin.zeroCells]
      omega
  have hmv : (inner.drop i) <+: cur.toList.drop i := by
    rw [← ht, List.drop_take]
    exact List.take_prefix _ _
  obtain ⟨W1, hW1⟩ : ∃ W1 : World, W1 = (w.alloc (.cells (inner.take i ++ zs).toArray 3)).drew := ⟨_, rfl⟩
  have hh1 : W1.heap[w.heap.size]? = some (.cells (inner.take i ++ zs).toArray 3 (0, 0)) := by
    rw [hW1]
    show (w.heap.push _)[w.heap.size]? = _
    simp
  have hold : ∀ k, k < w.heap.size → W1.heap[k]? = w.heap[k]? := fun k hk => by rw [hW1]; exact Below.heap_alloc w _ k hk
  have hgxlt : gx < w.heap.size := blk_lt hx
  have hzs : (inner.take i ++ zs).toArray.size = cap := by simpa using hzl
  have hcA : ∀ ty, (Builtin.copy_ #[22, 22] ty #[.slice (some ⟨w.heap.size, i, none⟩) (n + 1 - i) (cap - i), .slice (some ⟨gx, 0, none⟩) 1 cx]).run Try.prog W1 = .ok (.int .i64 ((1 : Nat) : Int)) (W1.setCells w.heap.size i c) := fun ty =>
    run_copy_any W1 22 22 ty 3 1 Try.underlying22 hsz w.heap.size i (n + 1 - i) (cap - i) ⟨gx, 0, none⟩ 1 cx 1 (Nat.min_eq_left (by omega)) c (by rw [hc]) (cells_of_block ((hold gx hgxlt).trans hx) 0 c (by rw [List.drop_zero, ← hcx]; exact List.take_prefix _ _)) _ 3 hh1 (by rw [hc, hzs]; omega) h1
  obtain ⟨cur1, e1, e2, _⟩ := setCells_row c i W1 _ hh1 (by rw [hc, hzs]; omega)
  have hcB : ∀ ty, (Builtin.copy_ #[22, 22] ty #[.slice (some ⟨w.heap.size, i + 1, none⟩) (n - i) (cap - (i + 1)), .slice (some ⟨g, i, none⟩) (n - i) (n - i)]).run Try.prog (W1.setCells w.heap.size i c).drew = .ok (.int .i64 ((n - i : Nat) : Int)) ((W1.setCells w.heap.size i c).drew.setCells w.heap.size (i + 1) (inner.drop i)) := fun ty =>
    run_copy_any _ 22 22 ty 3 1 Try.underlying22 hsz w.heap.size (i + 1) (n - i) (cap - (i + 1)) ⟨g, i, none⟩ (n - i) (n - i) (n - i) (Nat.min_self _) (inner.drop i) (by rw [List.length_drop, hil1, Nat.mul_one]) (cells_of_block (w := (W1.setCells w.heap.size i c).drew) (show (W1.setCells w.heap.size i c).heap[g]? = _ by rw [setCells_far _ _ g (by omega), hold g hglt]; exact hh) i _ hmv) cur1 3 e1 (by rw [List.length_drop, hil1, e2, hzs]; omega) (fun u hu => hone u (List.mem_of_mem_drop hu))
  have HF := Aside0.mk (row_insert_new (w := w) (base := base) (sz := 1) (e := 3) (n := n) (i := i) (cap := cap) (inner := inner) (c := c) (zs := zs) hbase hcapm hil hi1 hcap hc (by rw [Nat.mul_one, Nat.mul_one]; exact hzl))
  have HW1 := Aside0.mk hW1
  have HRUN : Aside0 (∀ ty, (Builtin.append_ #[22, 3] ty #[.slice (some ⟨g, 0, none⟩) i n, .int .i64 ((n + 1 - i : Nat) : Int)]).run Try.prog w = .ok (.slice (some ⟨w.heap.size, 0, none⟩) (n + 1) cap) W1) := ⟨fun ty => by rw [hrun, hW1]⟩
  have hi2 : i ≤ n + 1 := by omega
  have hi3 : i + 1 ≤ n + 1 := by omega
  have h02 : 0 ≤ (i : Int) + 1 := by omega
  have h03 : (i : Int) + 1 ≤ (n : Int) + 1 := by omega
  have hne1 : cap ≠ i := by omega
  have hne2 : cap ≠ i + 1 := by omega
  clear hrun hW1 hh1 hold hzs e1 e2 hmv hil hil1 hcs hcs1 ht hcx hc h1 hone hx hh hzl hsz
  go_enter Try.func35, Try.ntmps35
  go_wp2_with (at_builtin; refine Lib.wpList_append_run _ rfl (.tmp 34) (.tmp 39) 22 3 rfl (.slice (some ⟨g, 0, none⟩) i n) (.int .i64 ((n + 1 - i : Nat) : Int)) rfl rfl _ _ (HRUN.out _) ?_)
  go_region
  all_goals
    go_wp2_with fail
    go_ret
    have hf := HF.out
    rw [HW1.out, setCells_drew, setCells_drew, setCells_drew]
    simp only [Nat.mul_one] at hf ⊢
    exact ⟨_, rfl, owns_drew (owns_drew hf.1), grown_to_drew (grown_to_drew (hf.2 _)), rfl⟩

set_option maxHeartbeats 800000 in
theorem del_int (base : Nat) (ok : Nat → Prop) (v : Value) (xs : List Int) (i : Nat) (w : World) (h : (Kd.int .i64).R 3 w base ok v xs) (hi : i < xs.length) (hbase : base ≤ w.heap.size) :
    Calls Try.prog 33 #[v, .int .i64 (i : Int), .int .i64 ((i : Int) + 1)] w fun e w' => ∃ v', e = .returned v' ∧ (Kd.int .i64).R 3 w' base ok v' (xs.eraseIdx i) ∧ w.grownBy w' v.ownBlock ∧ (∀ A n c, v = .slice A n c → ∃ n', v' = .slice A n' c) := by
  obtain ⟨g, c, rfl, hg, hgl, cells, hcells⟩ := Kd.R_form h (by omega)
  obtain ⟨_, hnc, _⟩ := Kd.R_reads' h
  have hcm : c ≤ 9223372036854775807 := by
    obtain ⟨inner, ho⟩ := Kd.R_own h
    rcases ho.2 with ⟨he, _⟩ | ⟨g', cap, cur, he, _, _, _, hm, _⟩
    · cases he
    · injection he with _ _ h3
      subst h3
      unfold maxLen at hm
      omega
  have hne : ((i : Int) == (i : Int) + 1) = false := by rw [beq_eq_false_iff_ne]; omega
  have hic : i ≤ c := by omega
  have hin : i + 1 ≤ xs.length := by omega
  have hic2 : i + 1 ≤ c := by omega
  have h01 : 0 ≤ (i : Int) + 1 := by omega
  have h02 : (i : Int) + 1 ≤ (xs.length : Int) := by omega
  have HR := Aside0.mk h
  have HH := Aside0.mk (show w.heap[g]? = some (.cells cells 3 (0, 0)) from hcells)
  have HA := Aside0.mk (show (if c = i + 1 then some (⟨g, 0, none⟩ : Addr) else some ⟨g, i + 1, none⟩) = if c = i + 1 then some ⟨g, 0, none⟩ else (some (⟨g, 0, none⟩ : Addr)).map (·.add ((i + 1) * 1)) from by
    split
    · rfl
    · simp [Addr.add])
  clear h hcells
  go_enter Try.func33, Try.ntmps33
  go_wp2_with fail
  go_region_law ((refine Kd.R_delete_step (Kd.int .i64) (w0 := w) base rfl (.tmp 22) (.tmp 25) 22 3 rfl Try.underlying22 (by kernel_rfl) (g := g) (n := xs.length) (c := c) (k := i) (m := xs.length - (i + 1)) (c2 := c - (i + 1)) (A := if c = i + 1 then some ⟨g, 0, none⟩ else some ⟨g, i + 1, none⟩) (by simp [Act.eval, Act.put]) (by simp [Act.eval, Act.put]) HA.out rfl (Kd.R_drew HR.out) hi (below_drew1 (Below.refl _ _)) hbase ?_); intro w1 hr1 hb1 hg1)
  have hz : ∀ w, (zeroValue 3).run Try.prog w = .ok (.int .i64 0) w := fun w => by kernel_rfl
  obtain ⟨cur, hcur, hcs, hnn, _, _, _⟩ := Kd.R_room hr1
  have hcs1 : cur.size = c * 1 := hcs
  have hclr := run_clear_cells (P := Try.prog) w1 22 3 0 (.int .i64 0) Try.underlying22 hz g (xs.length - 1) (xs.length - (xs.length - 1)) (c - (xs.length - 1)) cur 3 hcur (by omega) (by simp [Value.cells]; omega) (one_int _ _)
  have hsp := Aside0.mk (Kd.R_spare hr1 [.int .i64 0] (xs.length - 1) (by show (xs.length - 1) * 1 ≤ _; omega) (by show _ ≤ c * 1; simp; omega))
  have HG := Aside0.mk hg1
  have hi2 : xs.length - 1 ≤ xs.length := by omega
  have hi3 : xs.length ≤ c := hnc
  clear hcs hcs1 hnn hcur hr1 hb1 hg1
  go_wp2
  all_goals
    (try subst_vars)
    go_ret
    exact ⟨_, rfl, hsp.out.1, grown_trans (grown_drew HG.out) hsp.out.2, by first | exact ⟨_, rfl⟩ | (intro A n c' e; cases e; exact ⟨_, rfl⟩)⟩

/-- As above, the places as whole numbers; what it says of the caller's own world. -/
theorem del_at {w0 : World} (base : Nat) (A : Option Addr) (n c : Nat) (xs : List Int) (i : Nat) (z z2 : Int) (w : World) (h : (Kd.int .i64).R 3 w base (fun _ => True) (.slice A n c) xs) (hi : i < xs.length) (hB : Below base w0 w) (hbase : base ≤ w.heap.size) (h1 : z = i) (h2 : z2 = (i : Int) + 1) :
    Calls Try.prog 33 #[.slice A n c, .int .i64 z, .int .i64 z2] w fun e w' => ∃ n', e = .returned (.slice A n' c) ∧ (Kd.int .i64).R 3 w' base (fun _ => True) (.slice A n' c) (xs.eraseIdx i) ∧ Below base w0 w' ∧ base ≤ w'.heap.size := by
  subst h1
  subst h2
  obtain ⟨inner, ho⟩ := Kd.R_own h
  refine (del_int base _ _ xs i w h hi hbase).mono ?_
  rintro e w' ⟨v', rfl, hr, hg, hv⟩
  obtain ⟨n', rfl⟩ := hv A n c rfl
  exact ⟨n', rfl, hr, hB.grown hg hbase (fun k hk => own_base ho k hk), Nat.le_trans hbase hg.size⟩
theorem R_int {w : World} {base : Nat} {ok : Nat → Prop} {v : Value} {xs : List Int} : (Kd.int .i64).R 3 w base ok v xs ↔ (∀ k, v.ownBlock = some k → ok k) ∧ w.ownsRow base 3 1 v xs.length (xs.map (Value.int .i64)) := by
  constructor
  · rintro ⟨h0, inner, ho, hl, hr⟩
    refine ⟨h0, ?_⟩
    have hsz : (Kd.int .i64).sz = 1 := rfl
    rw [hsz] at ho hl hr
    have : inner = xs.map (Value.int .i64) := by
      apply List.ext_getElem
      · rw [hl]; simp
      · intro i h1 h2
        have hi : i < xs.length := by simpa using h2
        have := hr i xs[i] (List.getElem?_eq_getElem hi)
        have h3 : (inner.drop (i * 1)).take 1 = [Value.int .i64 xs[i]] := this
        rw [Nat.mul_one, List.drop_eq_getElem_cons h1, List.take_succ_cons, List.take_zero] at h3
        rw [List.getElem_map]
        exact (List.cons.inj h3).1
    rw [← this]
    exact ho
  · rintro ⟨h0, ho⟩
    refine ⟨h0, xs.map (Value.int .i64), ho, ?_, fun j p hj => ?_⟩
    · show _ = xs.length * 1
      simp
    · show ((xs.map (Value.int .i64)).drop (j * 1)).take 1 = [Value.int .i64 p]
      obtain ⟨hj', rfl⟩ := List.getElem?_eq_some_iff.1 hj
      rw [Nat.mul_one, List.drop_eq_getElem_cons (by simpa using hj')]
      simp
theorem ins_int (base : Nat) (A : Option Addr) (c n i : Nat) (x : Int) (xs : List Int) (gx cx : Nat) (curx : Array Value) (w : World) (h : (Kd.int .i64).R 3 w base (fun _ => True) (.slice A n c) xs) (hA : A ≠ none)
    (hx : w.heap[gx]? = some (.cells curx 3 (0, 0))) (hcx : curx.toList.take 1 = [.int .i64 x]) (hgx : ∀ k, (Value.slice A n c).ownBlock = some k → gx ≠ k) (hi : i ≤ xs.length) (hroom : n + 1 ≤ c) (hl : (xs.length + 1) * 8 ≤ 140737488355328) (hbase : base ≤ w.heap.size) :
    Calls Try.prog 35 #[.slice A n c, .int .i64 (i : Int), .slice (some ⟨gx, 0, none⟩) 1 cx] w fun e w' => ∃ v', e = .returned v' ∧ (Kd.int .i64).R 3 w' base (fun _ => True) v' (xs.take i ++ x :: xs.drop i) ∧ w.grownBy w' (Value.slice A n c).ownBlock := by
  obtain ⟨_, ho⟩ := R_int.1 h
  have hn : n = xs.length := by
    rcases ho.2 with ⟨he, hz⟩ | ⟨g', cap, cur, he, _⟩
    · injection he with h1 h2 h3; omega
    · injection he with h1 h2 h3
  subst hn
  have h1c : ∀ u ∈ [Value.int .i64 x], u.oneCell' = true := fun u hu => by rw [List.mem_singleton.1 hu]; rfl
  rcases Nat.eq_or_lt_of_le hi with rfl | hlt
  · refine (ins_end base _ xs.length _ [.int .i64 x] cx gx curx w ho hx hcx rfl h1c hl hbase).mono ?_
    rintro e w' ⟨v', rfl, hown, hg⟩
    refine ⟨v', rfl, R_int.2 ⟨fun _ _ => trivial, ?_⟩, hg⟩
    rw [show xs.take xs.length ++ x :: xs.drop xs.length = xs ++ [x] by simp]
    rw [List.map_append, List.length_append]
    exact hown
  · rcases ho.2 with ⟨he, hz⟩ | ⟨g, cap, cur, he, _⟩
    · omega
    · injection he with e1 e2 e3
      subst e1
      refine (ins_room base g xs.length i c _ [.int .i64 x] cx gx curx w ho hx hcx rfl h1c (hgx g rfl) hlt hroom (fun u hu => by obtain ⟨z, _, rfl⟩ := List.mem_map.1 hu; rfl)).mono ?_
      rintro e w' ⟨v', rfl, hown, hg, _⟩
      refine ⟨v', rfl, R_int.2 ⟨fun _ _ => trivial, ?_⟩, hg⟩
      have e1 : (xs.take i ++ x :: xs.drop i).length = xs.length + 1 := by simp; omega
      rw [e1]
      have e2 : (xs.take i ++ x :: xs.drop i).map (Value.int .i64) = (xs.map (Value.int .i64)).take (i * 1) ++ [Value.int .i64 x] ++ (xs.map (Value.int .i64)).drop (i * 1) := by simp [List.map_take, List.map_drop]
      rw [e2]
      exact hown
theorem ins_at {w0 : World} (base : Nat) (A : Option Addr) (c n i : Nat) (z x : Int) (xs : List Int) (w : World) (h : (Kd.int .i64).R 3 w base (fun _ => True) (.slice A n c) xs)
    (hpos : 0 < xs.length) (hi : i ≤ xs.length) (hroom : xs.length + 1 ≤ c) (hl : (xs.length + 1) * 8 ≤ 140737488355328) (hB : Below base w0 w) (hbase : base ≤ w.heap.size) (hz : z = i) :
    Calls Try.prog 35 #[.slice A n c, .int .i64 z, .slice (some ⟨w.heap.size, 0, none⟩) 1 1] (w.alloc (.cells #[.int .i64 x] 3)) fun e w' => ∃ v', e = .returned v' ∧ (Kd.int .i64).R 3 w' base (fun _ => True) v' (xs.take i ++ x :: xs.drop i) ∧ Below base w0 w' ∧ base ≤ w'.heap.size := by
  subst hz
  obtain ⟨inner, ho⟩ := Kd.R_own h
  obtain ⟨g, c', e, hg, hgl, _⟩ := Kd.R_form h hpos
  injection e with e1 e2 e3
  subst e1
  have hb1 : base ≤ (w.alloc (.cells #[.int .i64 x] 3)).heap.size := by simp; omega
  refine (ins_int base _ c n i x xs w.heap.size 1 #[.int .i64 x] _ (Kd.R_alloc h _) (fun e => by cases e) (by show (w.heap.push _)[w.heap.size]? = _; simp) rfl (fun k hk => by have : g = k := (by simpa [Value.ownBlock] using hk); omega) hi (by omega) hl hb1).mono ?_
  rintro e w' ⟨v', rfl, hr, hgr⟩
  exact ⟨v', rfl, hr, (hB.alloc hbase _).grown hgr hb1 (fun k hk => own_base ho k hk), Nat.le_trans hb1 hgr.size⟩
end Go.Proofs.Ytekfobefehkajaa.DelIns
