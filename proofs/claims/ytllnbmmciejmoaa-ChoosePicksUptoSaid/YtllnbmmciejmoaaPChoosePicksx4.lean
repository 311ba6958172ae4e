-- Written by a program of this session's (an extension of the kit's print)
import Derived.Test.YtllnbmmciejmoaaPChoosePicksx0
import Derived.Test.YtllnbmmciejmoaaPChoosePicksx3
namespace Go.Proofs.Ytllnbmmciejmoaa.PChoosePicks
open Go.RowKit Go.Proofs.YtllnbmmciejmoaaW.PrintWords Go.Proofs.YtllnbmmciejmoaaW.PrintLast Go.Proofs.YtllnbmmciejmoaaW.PrintMore
attribute [local go_sem] max2_int min2_int max_two min_two max_three min_three max_four min_four   -- for this text's walks alone
set_option linter.unusedVariables false
set_option linter.unusedSimpArgs false

/-! ### choose_best: function 21 (given) -/
def choose_best.up (k : Nat) (x5 : Option S45) (p : S45) : Option (Option S45) := match x5 with
 | none => some (some p)
 | some q => (ballot_Compare.f k p.f1.f0 p.f1.f1 q.f1.f0 q.f1.f1).bind fun t => if t > 0 then some (some p) else some (some q)
mutual
def choose_best.l0 : Nat → Int → Option S45 → List (S30) → Int → Int → Option (Option S45)
 | 0, _, _, _, _, _ => none
 | k + 1, x0, x5, x10, x11, x12 => if x12 < x11 then (if 0 ≤ x12 then (if x12 < (x10.length : Int) then (choose_best.l1 k x0 x5 x10 x11 x12 ((rd_T30 x10 x12).f5) (((rd_T30 x10 x12).f5).length : Int) 0) else (none)) else (none)) else (some x5)
def choose_best.l1 : Nat → Int → Option S45 → List (S30) → Int → Int → List (S45) → Int → Int → Option (Option S45)
 | 0, _, _, _, _, _, _, _, _ => none
 | k + 1, x0, x5, x10, x11, x12, x17, x18, x19 => if x19 < x18 then (if 0 ≤ x19 then (if x19 < (x17.length : Int) then (if (rd_T45 x17 x19).f0 = x0 then ((choose_best.up k x5 (rd_T45 x17 x19)).bind fun t => (choose_best.l1 k x0 t x10 x11 x12 x17 x18 (wrap64 (x19 + 1)))) else (choose_best.l1 k x0 x5 x10 x11 x12 x17 x18 (wrap64 (x19 + 1)))) else (none)) else (none)) else (choose_best.l0 k x0 x5 x10 x11 (wrap64 (x12 + 1)))
end
def choose_best.f (k : Nat) (a0 : Int) (l1 : List (S30)) : Option (Option S45) := choose_best.l0 k a0 none l1 (l1.length : Int) 0
theorem choose_best.up_mono (k : Nat) (x5 : Option S45) (p : S45) : LeO (choose_best.up k x5 p) (choose_best.up (k + 1) x5 p) := by
 cases x5 with
 | none => exact LeO.refl _
 | some q => exact LeO.bind (ballot_Compare.mono _ _ _ _ _) (fun _ => LeO.refl _)
theorem choose_best.mono_l : ∀ k, (∀ y0 y1 y2 y3 y4, LeO (choose_best.l0 k y0 y1 y2 y3 y4) (choose_best.l0 (k + 1) y0 y1 y2 y3 y4)) ∧ (∀ y0 y1 y2 y3 y4 y5 y6 y7, LeO (choose_best.l1 k y0 y1 y2 y3 y4 y5 y6 y7) (choose_best.l1 (k + 1) y0 y1 y2 y3 y4 y5 y6 y7))
 | 0 => ⟨fun _ _ _ _ _ r h => by simp [choose_best.l0] at h, fun _ _ _ _ _ _ _ _ r h => by simp [choose_best.l1] at h⟩
 | k + 1 => by
  obtain ⟨ih0, ih1⟩ := choose_best.mono_l k; refine ⟨?_, ?_⟩
  ·intro y0 y1 y2 y3 y4
   unfold choose_best.l0
   exact LeO.ite (LeO.ite (LeO.ite (ih1 _ _ _ _ _ _ _ _) (LeO.none _)) (LeO.none _)) (LeO.refl _)
  ·intro y0 y1 y2 y3 y4 y5 y6 y7
   unfold choose_best.l1
   exact LeO.ite (LeO.ite (LeO.ite (LeO.ite (LeO.bind (choose_best.up_mono _ _ _) (fun _ => ih1 _ _ _ _ _ _ _ _)) (ih1 _ _ _ _ _ _ _ _)) (LeO.none _)) (LeO.none _)) (ih0 _ _ _ _ _)
theorem choose_best.mono : ∀ a0 a1 k, LeO (choose_best.f k a0 a1) (choose_best.f (k + 1) a0 a1) := fun _ _ k => (choose_best.mono_l k).1 _ _ _ _ _
/-- nil, or the address of a prep that lies in the caller's world -/
def PtrAt (w : World) (v : Value) : Option S45 → Prop
 | none => v = .pointer none
 | some x => ∃ ad A5 c5 A6 c6 A7 c7, v = .pointer (some ad) ∧ w.cell? ad = some (.int .i64 x.f0) ∧ w.cell? ⟨ad.block, ad.off + 1, none⟩ = some (.int .i64 x.f1.f0) ∧ w.cell? ⟨ad.block, ad.off + 2, none⟩ = some (.int .i64 x.f1.f1) ∧ w.cell? ⟨ad.block, ad.off + 3, none⟩ = some (.int .i64 x.f2.f0) ∧ w.cell? ⟨ad.block, ad.off + 4, none⟩ = some (.int .i64 x.f2.f1) ∧ w.cell? ⟨ad.block, ad.off + 5, none⟩ = some (.slice A5 x.f2.f2.length c5) ∧ w.cell? ⟨ad.block, ad.off + 6, none⟩ = some (.slice A6 x.f2.f3.length c6) ∧ w.cell? ⟨ad.block, ad.off + 7, none⟩ = some (.slice A7 x.f3.length c7) ∧ x.f2.f2.length ≤ c5 ∧ (Kd.int .u8).C w A5 x.f2.f2.length x.f2.f2 ∧ x.f2.f3.length ≤ c6 ∧ (Kd.int .u8).C w A6 x.f2.f3.length x.f2.f3
theorem PtrAt.of {w : World} {A : Option Addr} {n : Nat} {xs : List S45} (h : Kd.C k45 w A n xs) (i : Int) (h0 : 0 ≤ i) (h1 : i < n) : ∃ ad, A = some ad ∧ PtrAt w (.pointer (some (ad.add (i.toNat * 8)))) (some (rd_T45 xs i)) := by
 obtain ⟨ad, A5, c5, A6, c6, A7, c7, e, x0, x1, x2, x3, x4, x5, x6, x7, l5, g5, l6, g6, l7, g7⟩ := at_T45 h i h0 h1; exact ⟨ad, e, _, A5, c5, A6, c6, A7, c7, rfl, x0, x1, x2, x3, x4, x5, x6, x7, l5, g5, l6, g6⟩
def choose_best.T8 : Bool × List (List Nat × List Nat) := (true, [([], []), ([0], [0]), ([], []), ([1, 2], [1, 2]), ([3], [3]), ([4], [4]), ([5, 4], [4, 5]), ([6, 4, 4], [4, 6]), ([7], [7]), ([8, 7], [7, 8]), ([7], [7]), ([10, 7], [7, 10]), ([11, 7], [7, 11]), ([12, 7], [7, 12]), ([9, 13, 7, 7], [7, 9, 13]), ([14, 7], [7, 14]), ([7, 15, 4], [4, 7, 15]), ([4, 16], [4, 16])])
def choose_best.B8 : List Nat := [0, 1, 0, 7, 15, 31, 63, 127, 255, 511, 255, 1279, 3327, 7423, 16383, 32767, 65535, 131071]
theorem choose_best.tab8 : rtab .any (opsOf Try.f21 8) = choose_best.T8 := by kernel_rfl
theorem choose_best.bits8 : waitsOk choose_best.T8.2 choose_best.B8 = true := by kernel_rfl
set_option maxHeartbeats 8000000 in
set_option maxRecDepth 100000 in
theorem choose_best.calls (k : Nat) (a0 : Int) (A1 : Option Addr) (c1 : Nat) (l1 : List (S30)) (r : Option S45) (w : World) (hr1 : Kd.C k30 w A1 l1.length l1) (hc1 : l1.length ≤ c1) (h : choose_best.f k a0 l1 = some r) :
  Calls Try.prog 21 #[.int .i64 a0, .slice A1 l1.length c1] w fun e w' => ∃ v, e = .returned v ∧ PtrAt w v r ∧ Below w.heap.size w w' := by
 have hu30 := Try.underlying30; have hu45 := Try.underlying45; have hu25 := Try.underlying25; have HR1 := Aside0.mk hr1; have HC1 := Aside0.mk hc1; clear hr1 hc1; have HB := Aside0.mk (Below.refl w.heap.size w); have H' := Aside0.mk (show choose_best.l0 k a0 none l1 (l1.length : Int) 0 = some r from h); clear h
 go_enter Try.func21, Try.ntmps21
 go_wp2
 go_loopg [5, 12] k (fun kq v5 v12 w' => ∃ (x5_1 : Option S45) (x12_1 : Int), v12 = .int .i64 x12_1 ∧ Aside0 (PtrAt w v5 x5_1) ∧ Aside0 (choose_best.l0 kq a0 x5_1 l1 (l1.length : Int) x12_1 = some r) ∧ Aside0 (kq ≤ k) ∧ Aside0 (Below w.heap.size w w'))
 case atStart => exact ⟨none, 0, (by first | rfl | (simp; done) | (simp [*]; done)), ⟨rfl⟩, H', ⟨Nat.le_refl _⟩, ⟨below_u HB.out⟩⟩
 case round =>
  clear H'
  try clear p2
  obtain ⟨x5_1, x12_1, rfl, HP, HA, HK1, HB⟩ := hrel
  cases gk with
  | zero => exact absurd HA.out (by simp [choose_best.l0])
  | succ k1 =>
   have H := HA.out; clear HA; simp only [choose_best.l0] at H
   by_cases c4 : x12_1 < (l1.length : Int)
   ·rw [if_pos c4] at H
    have c4b0 : decide (x12_1 < (l1.length : Int)) = true := decide_eq_true c4
    by_cases c5 : 0 ≤ x12_1
    ·rw [if_pos c5, if_pos c4] at H
     have c5b0 : decide (0 ≤ x12_1) = true := decide_eq_true c5; have H' := Aside0.mk H; clear H; have p108 : 0 ≤ (x12_1 : Int) := c5; have q108 : x12_1 < (l1.length : Int) := c4; clear c4 c5; obtain ⟨ad108, A108_4, c108_4, A108_5, c108_5, A108_6, c108_6, A108_7, c108_7, e108, hx108_0, hx108_1, hx108_2, hx108_3, hx108_4, hx108_5, hx108_6, hx108_7, hl108_4, hi108_4, hl108_5, hi108_5, hl108_6, hi108_6, hl108_7, hi108_7⟩ := at_T30 HR1.out x12_1 p108 q108
     cases e108
     replace hx108_0 := (HB.out.cell (World.block_lt_of_cell? w _ hx108_0)).trans hx108_0; replace hx108_1 := (HB.out.cell (World.block_lt_of_cell? w _ hx108_1)).trans hx108_1; replace hx108_2 := (HB.out.cell (World.block_lt_of_cell? w _ hx108_2)).trans hx108_2; replace hx108_3 := (HB.out.cell (World.block_lt_of_cell? w _ hx108_3)).trans hx108_3; replace hx108_4 := (HB.out.cell (World.block_lt_of_cell? w _ hx108_4)).trans hx108_4; replace hx108_5 := (HB.out.cell (World.block_lt_of_cell? w _ hx108_5)).trans hx108_5; replace hx108_6 := (HB.out.cell (World.block_lt_of_cell? w _ hx108_6)).trans hx108_6; replace hx108_7 := (HB.out.cell (World.block_lt_of_cell? w _ hx108_7)).trans hx108_7; have HR108_6 := Aside0.mk hi108_6; have HC108_6 := Aside0.mk hl108_6; clear hi108_6 hl108_6 hi108_4 hl108_4 hi108_5 hl108_5 hi108_7 hl108_7; replace p108 := eq_true p108; replace q108 := eq_true q108
     go_wp2_with (first | ((with_reducible refine gate_dst (N := 7) rfl ?_); refine box_event ?hg (N := 7) ?hd (cs := #[.int .i64 0, .int .i64 0, .int .i64 0, .int .i64 0, .slice none 0 0, .slice none 0 0, .slice none 0 0, .slice none 0 0]) (t := 30) ?hr ?_; (case hd => rfl); (case hg => rfl); (case hr => first | (go_simp; done) | (go_simp; rfl)); intro gb109 hg w7 hbox hb; have n0_ := Aside0.mk (below_step (below_u HB.out) hb); have n1_ := Aside0.mk (hbox); have n3_ := Aside0.mk ((by rw [hg]; exact (below_size (below_u HB.out)) : w.heap.size ≤ gb109)); clear HB; have HB := n0_; have BK109 := n1_; have GE109 := n3_; clear n0_ n1_ n3_; clear hb hbox hg; have hcz8_0 : w7.cell? ⟨gb109, 0, none⟩ = some (.int .i64 0) := (blk_cell BK109.out 0).trans rfl; have hcz8_1 : w7.cell? ⟨gb109, 1, none⟩ = some (.int .i64 0) := (blk_cell BK109.out 1).trans rfl; have hcz8_2 : w7.cell? ⟨gb109, 2, none⟩ = some (.int .i64 0) := (blk_cell BK109.out 2).trans rfl; have hcz8_3 : w7.cell? ⟨gb109, 3, none⟩ = some (.int .i64 0) := (blk_cell BK109.out 3).trans rfl; have hcz8_4 : w7.cell? ⟨gb109, 4, none⟩ = some (.slice none 0 0) := (blk_cell BK109.out 4).trans rfl; have hcz8_5 : w7.cell? ⟨gb109, 5, none⟩ = some (.slice none 0 0) := (blk_cell BK109.out 5).trans rfl; have hcz8_6 : w7.cell? ⟨gb109, 6, none⟩ = some (.slice none 0 0) := (blk_cell BK109.out 6).trans rfl; have hcz8_7 : w7.cell? ⟨gb109, 7, none⟩ = some (.slice none 0 0) := (blk_cell BK109.out 7).trans rfl; have hfz8_0 := blk_frozen BK109.out 0; have hfz8_1 := blk_frozen BK109.out 1; have hfz8_2 := blk_frozen BK109.out 2; have hfz8_3 := blk_frozen BK109.out 3; have hfz8_4 := blk_frozen BK109.out 4; have hfz8_5 := blk_frozen BK109.out 5; have hfz8_6 := blk_frozen BK109.out 6; have hfz8_7 := blk_frozen BK109.out 7))
     go_loopg [5, 19] k1 (fun kq v5 v19 w' => ∃ (x5_2 : Option S45) (x19_2 : Int), v19 = .int .i64 x19_2 ∧ Aside0 (PtrAt w v5 x5_2) ∧ Aside0 (choose_best.l1 kq a0 x5_2 l1 (l1.length : Int) x12_1 ((rd_T30 l1 x12_1).f5) (((rd_T30 l1 x12_1).f5).length : Int) x19_2 = some r) ∧ Aside0 (kq ≤ k1) ∧ Aside0 (w'.heap[gb109]? = some (.cells #[.int .i64 ((rd_T30 l1 x12_1).f0.f0), .int .i64 ((rd_T30 l1 x12_1).f0.f1), .int .i64 ((rd_T30 l1 x12_1).f1), .int .i64 ((rd_T30 l1 x12_1).f2), .slice A108_4 ((rd_T30 l1 x12_1).f3).length c108_4, .slice A108_5 ((rd_T30 l1 x12_1).f4).length c108_5, .slice A108_6 ((rd_T30 l1 x12_1).f5).length c108_6, .slice A108_7 ((rd_T30 l1 x12_1).f6).length c108_7] 30 (0, 0))) ∧ Aside0 (Below w.heap.size w w'))
     case atStart => exact ⟨x5_1, 0, (by first | rfl | (simp; done) | (simp [*]; done)), HP, H', ⟨Nat.le_refl _⟩, ⟨by (with_reducible repeat (first | refine blk_drewN ?_ _ | refine blk_drew ?_ | refine blk_alloc ?_ _)); refine blk_put (cs := #[.int .i64 ((rd_T30 l1 x12_1).f0.f0), .int .i64 ((rd_T30 l1 x12_1).f0.f1), .int .i64 ((rd_T30 l1 x12_1).f1), .int .i64 ((rd_T30 l1 x12_1).f2), .slice A108_4 ((rd_T30 l1 x12_1).f3).length c108_4, .slice A108_5 ((rd_T30 l1 x12_1).f4).length c108_5, .slice A108_6 ((rd_T30 l1 x12_1).f5).length c108_6, .slice none 0 0]) ?_ 7 _ rfl; (with_reducible repeat (first | refine blk_drewN ?_ _ | refine blk_drew ?_ | refine blk_alloc ?_ _)); refine blk_put (cs := #[.int .i64 ((rd_T30 l1 x12_1).f0.f0), .int .i64 ((rd_T30 l1 x12_1).f0.f1), .int .i64 ((rd_T30 l1 x12_1).f1), .int .i64 ((rd_T30 l1 x12_1).f2), .slice A108_4 ((rd_T30 l1 x12_1).f3).length c108_4, .slice A108_5 ((rd_T30 l1 x12_1).f4).length c108_5, .slice none 0 0, .slice none 0 0]) ?_ 6 _ rfl; (with_reducible repeat (first | refine blk_drewN ?_ _ | refine blk_drew ?_ | refine blk_alloc ?_ _)); refine blk_put (cs := #[.int .i64 ((rd_T30 l1 x12_1).f0.f0), .int .i64 ((rd_T30 l1 x12_1).f0.f1), .int .i64 ((rd_T30 l1 x12_1).f1), .int .i64 ((rd_T30 l1 x12_1).f2), .slice A108_4 ((rd_T30 l1 x12_1).f3).length c108_4, .slice none 0 0, .slice none 0 0, .slice none 0 0]) ?_ 5 _ rfl; (with_reducible repeat (first | refine blk_drewN ?_ _ | refine blk_drew ?_ | refine blk_alloc ?_ _)); refine blk_put (cs := #[.int .i64 ((rd_T30 l1 x12_1).f0.f0), .int .i64 ((rd_T30 l1 x12_1).f0.f1), .int .i64 ((rd_T30 l1 x12_1).f1), .int .i64 ((rd_T30 l1 x12_1).f2), .slice none 0 0, .slice none 0 0, .slice none 0 0, .slice none 0 0]) ?_ 4 _ rfl; (with_reducible repeat (first | refine blk_drewN ?_ _ | refine blk_drew ?_ | refine blk_alloc ?_ _)); refine blk_put (cs := #[.int .i64 ((rd_T30 l1 x12_1).f0.f0), .int .i64 ((rd_T30 l1 x12_1).f0.f1), .int .i64 ((rd_T30 l1 x12_1).f1), .int .i64 0, .slice none 0 0, .slice none 0 0, .slice none 0 0, .slice none 0 0]) ?_ 3 _ rfl; (with_reducible repeat (first | refine blk_drewN ?_ _ | refine blk_drew ?_ | refine blk_alloc ?_ _)); refine blk_put (cs := #[.int .i64 ((rd_T30 l1 x12_1).f0.f0), .int .i64 ((rd_T30 l1 x12_1).f0.f1), .int .i64 0, .int .i64 0, .slice none 0 0, .slice none 0 0, .slice none 0 0, .slice none 0 0]) ?_ 2 _ rfl; (with_reducible repeat (first | refine blk_drewN ?_ _ | refine blk_drew ?_ | refine blk_alloc ?_ _)); refine blk_put (cs := #[.int .i64 ((rd_T30 l1 x12_1).f0.f0), .int .i64 0, .int .i64 0, .int .i64 0, .slice none 0 0, .slice none 0 0, .slice none 0 0, .slice none 0 0]) ?_ 1 _ rfl; (with_reducible repeat (first | refine blk_drewN ?_ _ | refine blk_drew ?_ | refine blk_alloc ?_ _)); refine blk_put (cs := #[.int .i64 0, .int .i64 0, .int .i64 0, .int .i64 0, .slice none 0 0, .slice none 0 0, .slice none 0 0, .slice none 0 0]) ?_ 0 _ rfl; (with_reducible repeat (first | refine blk_drewN ?_ _ | refine blk_drew ?_ | refine blk_alloc ?_ _)); exact BK109.out⟩, ⟨by repeat (first | (with_reducible first | exact HB.out | apply below_alloc | apply pw_below_drewN | apply below_drew1 | refine below_set ?_ GE109.out) | exact HB.out)⟩⟩
     case round =>
      clear H' HP
      try clear p2
      try clear c4b0
      try clear c5b0
      try clear p108
      try clear q108
      try clear hcz8_0
      try clear hfz8_0
      try clear hx108_0
      try clear hcz8_1
      try clear hfz8_1
      try clear hx108_1
      try clear hcz8_2
      try clear hfz8_2
      try clear hx108_2
      try clear hcz8_3
      try clear hfz8_3
      try clear hx108_3
      try clear hcz8_4
      try clear hfz8_4
      try clear hx108_4
      try clear hcz8_5
      try clear hfz8_5
      try clear hx108_5
      try clear hcz8_6
      try clear hfz8_6
      try clear hx108_6
      try clear hcz8_7
      try clear hfz8_7
      try clear hx108_7
      obtain ⟨x5_2, x19_2, rfl, HP, HA, HK2, BK109, HB⟩ := hrel
      cases gk with
      | zero => exact absurd HA.out (by simp [choose_best.l1])
      | succ k2 =>
       have H := HA.out; clear HA; simp only [choose_best.l1] at H
       by_cases c9 : x19_2 < (((rd_T30 l1 x12_1).f5).length : Int)
       ·rw [if_pos c9] at H
        have c9b0 : decide (x19_2 < (((rd_T30 l1 x12_1).f5).length : Int)) = true := decide_eq_true c9
        by_cases c10 : 0 ≤ x19_2
        ·rw [if_pos c10, if_pos c9] at H
         have c10b0 : decide (0 ≤ x19_2) = true := decide_eq_true c10; have HC21 := Aside0.mk H; clear H; have p110 : 0 ≤ (x19_2 : Int) := c10; have q110 : x19_2 < (((rd_T30 l1 x12_1).f5).length : Int) := c9; clear c9 c10; obtain ⟨ad110_, e110_, HN0⟩ := PtrAt.of HR108_6.out x19_2 p110 q110; have HN := Aside0.mk HN0; clear HN0; obtain ⟨ad110, A110_5, c110_5, A110_6, c110_6, A110_7, c110_7, e110, hx110_0, hx110_1, hx110_2, hx110_3, hx110_4, hx110_5, hx110_6, hx110_7, hl110_5, hi110_5, hl110_6, hi110_6, hl110_7, hi110_7⟩ := at_T45 HR108_6.out x19_2 p110 q110; obtain rfl := Option.some.inj (e110.symm.trans e110_); clear e110_
         cases e110
         replace hx110_0 := (HB.out.cell (World.block_lt_of_cell? w _ hx110_0)).trans hx110_0; replace hx110_1 := (HB.out.cell (World.block_lt_of_cell? w _ hx110_1)).trans hx110_1; replace hx110_2 := (HB.out.cell (World.block_lt_of_cell? w _ hx110_2)).trans hx110_2; replace hx110_3 := (HB.out.cell (World.block_lt_of_cell? w _ hx110_3)).trans hx110_3; replace hx110_4 := (HB.out.cell (World.block_lt_of_cell? w _ hx110_4)).trans hx110_4; replace hx110_5 := (HB.out.cell (World.block_lt_of_cell? w _ hx110_5)).trans hx110_5; replace hx110_6 := (HB.out.cell (World.block_lt_of_cell? w _ hx110_6)).trans hx110_6; replace hx110_7 := (HB.out.cell (World.block_lt_of_cell? w _ hx110_7)).trans hx110_7; clear hl110_5 hi110_5 hl110_6 hi110_6 hl110_7 hi110_7; replace p110 := eq_true p110; replace q110 := eq_true q110
         go_upto_region 8 with (first | ((with_reducible refine gate_dst (N := 9) rfl ?_); refine box_event ?hg (N := 9) ?hd (cs := #[.int .i64 0, .int .i64 0, .int .i64 0, .int .i64 0, .int .i64 0, .slice none 0 0, .slice none 0 0, .slice none 0 0]) (t := 45) ?hr ?_; (case hd => rfl); (case hg => rfl); (case hr => first | (go_simp; done) | (go_simp; rfl)); intro gb111 hg w13 hbox hb; have n0_ := Aside0.mk (blk_below (blk_u <| BK109.out) hb); have n1_ := Aside0.mk (below_step (by repeat (first | (with_reducible first | exact HB.out | apply below_alloc | apply pw_below_drewN | apply below_drew1 | refine below_set ?_ GE109.out) | exact HB.out)) hb); have n2_ := Aside0.mk (hbox); have n4_ := Aside0.mk ((by rw [hg]; exact (below_size (by repeat (first | (with_reducible first | exact HB.out | apply below_alloc | apply pw_below_drewN | apply below_drew1 | refine below_set ?_ GE109.out) | exact HB.out))) : w.heap.size ≤ gb111)); have n5_ := Aside0.mk ((by rw [hg]; exact Nat.ne_of_lt (blk_lt (blk_u <| BK109.out)) : gb109 ≠ gb111)); clear BK109; clear HB; have BK109 := n0_; have HB := n1_; have BK111 := n2_; have GE111 := n4_; have NB109_111 := n5_; clear n0_ n1_ n2_ n4_ n5_; clear hb hbox hg; have hnb14 := NB109_111.out.symm; have hnc14 := NB109_111.out; have hcz15_0 : w13.cell? ⟨gb111, 0, none⟩ = some (.int .i64 0) := (blk_cell BK111.out 0).trans rfl; have hcz15_1 : w13.cell? ⟨gb111, 1, none⟩ = some (.int .i64 0) := (blk_cell BK111.out 1).trans rfl; have hcz15_2 : w13.cell? ⟨gb111, 2, none⟩ = some (.int .i64 0) := (blk_cell BK111.out 2).trans rfl; have hcz15_3 : w13.cell? ⟨gb111, 3, none⟩ = some (.int .i64 0) := (blk_cell BK111.out 3).trans rfl; have hcz15_4 : w13.cell? ⟨gb111, 4, none⟩ = some (.int .i64 0) := (blk_cell BK111.out 4).trans rfl; have hcz15_5 : w13.cell? ⟨gb111, 5, none⟩ = some (.slice none 0 0) := (blk_cell BK111.out 5).trans rfl; have hcz15_6 : w13.cell? ⟨gb111, 6, none⟩ = some (.slice none 0 0) := (blk_cell BK111.out 6).trans rfl; have hcz15_7 : w13.cell? ⟨gb111, 7, none⟩ = some (.slice none 0 0) := (blk_cell BK111.out 7).trans rfl; have hfz15_0 := blk_frozen BK111.out 0; have hfz15_1 := blk_frozen BK111.out 1; have hfz15_2 := blk_frozen BK111.out 2; have hfz15_3 := blk_frozen BK111.out 3; have hfz15_4 := blk_frozen BK111.out 4; have hfz15_5 := blk_frozen BK111.out 5; have hfz15_6 := blk_frozen BK111.out 6; have hfz15_7 := blk_frozen BK111.out 7))
         (try simp only [Act.put, List.setIfInBounds_toArray, List.set_cons_zero, List.set_cons_succ])
         have n0_ : Aside0 ((((((((((w13.setCell ⟨gb111, 0, none⟩ (.int .i64 (rd_T45 ((rd_T30 l1 x12_1).f5) x19_2).f0)).setCell ⟨gb111, 1, none⟩ (.int .i64 (rd_T45 ((rd_T30 l1 x12_1).f5) x19_2).f1.f0)).setCell ⟨gb111, 2, none⟩ (.int .i64 (rd_T45 ((rd_T30 l1 x12_1).f5) x19_2).f1.f1)).setCell ⟨gb111, 3, none⟩ (.int .i64 (rd_T45 ((rd_T30 l1 x12_1).f5) x19_2).f2.f0)).setCell ⟨gb111, 4, none⟩ (.int .i64 (rd_T45 ((rd_T30 l1 x12_1).f5) x19_2).f2.f1)).setCell ⟨gb111, 5, none⟩ (.slice A110_5 (rd_T45 ((rd_T30 l1 x12_1).f5) x19_2).f2.f2.length c110_5)).setCell ⟨gb111, 6, none⟩ (.slice A110_6 (rd_T45 ((rd_T30 l1 x12_1).f5) x19_2).f2.f3.length c110_6)).setCell ⟨gb111, 7, none⟩ (.slice A110_7 (rd_T45 ((rd_T30 l1 x12_1).f5) x19_2).f3.length c110_7))).heap[gb109]? = some (.cells #[.int .i64 ((rd_T30 l1 x12_1).f0.f0), .int .i64 ((rd_T30 l1 x12_1).f0.f1), .int .i64 ((rd_T30 l1 x12_1).f1), .int .i64 ((rd_T30 l1 x12_1).f2), .slice A108_4 ((rd_T30 l1 x12_1).f3).length c108_4, .slice A108_5 ((rd_T30 l1 x12_1).f4).length c108_5, .slice (some ad110) ((rd_T30 l1 x12_1).f5).length c108_6, .slice A108_7 ((rd_T30 l1 x12_1).f6).length c108_7] 30 (0, 0))) := ⟨by (with_reducible repeat (first | refine blk_drewN ?_ _ | refine blk_drew ?_ | refine blk_alloc ?_ _)); refine blk_far ?_ NB109_111.out _; (with_reducible repeat (first | refine blk_drewN ?_ _ | refine blk_drew ?_ | refine blk_alloc ?_ _)); refine blk_far ?_ NB109_111.out _; (with_reducible repeat (first | refine blk_drewN ?_ _ | refine blk_drew ?_ | refine blk_alloc ?_ _)); refine blk_far ?_ NB109_111.out _; (with_reducible repeat (first | refine blk_drewN ?_ _ | refine blk_drew ?_ | refine blk_alloc ?_ _)); refine blk_far ?_ NB109_111.out _; (with_reducible repeat (first | refine blk_drewN ?_ _ | refine blk_drew ?_ | refine blk_alloc ?_ _)); refine blk_far ?_ NB109_111.out _; (with_reducible repeat (first | refine blk_drewN ?_ _ | refine blk_drew ?_ | refine blk_alloc ?_ _)); refine blk_far ?_ NB109_111.out _; (with_reducible repeat (first | refine blk_drewN ?_ _ | refine blk_drew ?_ | refine blk_alloc ?_ _)); refine blk_far ?_ NB109_111.out _; (with_reducible repeat (first | refine blk_drewN ?_ _ | refine blk_drew ?_ | refine blk_alloc ?_ _)); refine blk_far ?_ NB109_111.out _; (with_reducible repeat (first | refine blk_drewN ?_ _ | refine blk_drew ?_ | refine blk_alloc ?_ _)); exact BK109.out⟩; have n1_ : Aside0 ((((((((((w13.setCell ⟨gb111, 0, none⟩ (.int .i64 (rd_T45 ((rd_T30 l1 x12_1).f5) x19_2).f0)).setCell ⟨gb111, 1, none⟩ (.int .i64 (rd_T45 ((rd_T30 l1 x12_1).f5) x19_2).f1.f0)).setCell ⟨gb111, 2, none⟩ (.int .i64 (rd_T45 ((rd_T30 l1 x12_1).f5) x19_2).f1.f1)).setCell ⟨gb111, 3, none⟩ (.int .i64 (rd_T45 ((rd_T30 l1 x12_1).f5) x19_2).f2.f0)).setCell ⟨gb111, 4, none⟩ (.int .i64 (rd_T45 ((rd_T30 l1 x12_1).f5) x19_2).f2.f1)).setCell ⟨gb111, 5, none⟩ (.slice A110_5 (rd_T45 ((rd_T30 l1 x12_1).f5) x19_2).f2.f2.length c110_5)).setCell ⟨gb111, 6, none⟩ (.slice A110_6 (rd_T45 ((rd_T30 l1 x12_1).f5) x19_2).f2.f3.length c110_6)).setCell ⟨gb111, 7, none⟩ (.slice A110_7 (rd_T45 ((rd_T30 l1 x12_1).f5) x19_2).f3.length c110_7))).heap[gb111]? = some (.cells #[.int .i64 (rd_T45 ((rd_T30 l1 x12_1).f5) x19_2).f0, .int .i64 (rd_T45 ((rd_T30 l1 x12_1).f5) x19_2).f1.f0, .int .i64 (rd_T45 ((rd_T30 l1 x12_1).f5) x19_2).f1.f1, .int .i64 (rd_T45 ((rd_T30 l1 x12_1).f5) x19_2).f2.f0, .int .i64 (rd_T45 ((rd_T30 l1 x12_1).f5) x19_2).f2.f1, .slice A110_5 (rd_T45 ((rd_T30 l1 x12_1).f5) x19_2).f2.f2.length c110_5, .slice A110_6 (rd_T45 ((rd_T30 l1 x12_1).f5) x19_2).f2.f3.length c110_6, .slice A110_7 (rd_T45 ((rd_T30 l1 x12_1).f5) x19_2).f3.length c110_7] 45 (0, 0))) := ⟨by (with_reducible repeat (first | refine blk_drewN ?_ _ | refine blk_drew ?_ | refine blk_alloc ?_ _)); refine blk_put (cs := #[.int .i64 (rd_T45 ((rd_T30 l1 x12_1).f5) x19_2).f0, .int .i64 (rd_T45 ((rd_T30 l1 x12_1).f5) x19_2).f1.f0, .int .i64 (rd_T45 ((rd_T30 l1 x12_1).f5) x19_2).f1.f1, .int .i64 (rd_T45 ((rd_T30 l1 x12_1).f5) x19_2).f2.f0, .int .i64 (rd_T45 ((rd_T30 l1 x12_1).f5) x19_2).f2.f1, .slice A110_5 (rd_T45 ((rd_T30 l1 x12_1).f5) x19_2).f2.f2.length c110_5, .slice A110_6 (rd_T45 ((rd_T30 l1 x12_1).f5) x19_2).f2.f3.length c110_6, .slice none 0 0]) ?_ 7 _ rfl; (with_reducible repeat (first | refine blk_drewN ?_ _ | refine blk_drew ?_ | refine blk_alloc ?_ _)); refine blk_put (cs := #[.int .i64 (rd_T45 ((rd_T30 l1 x12_1).f5) x19_2).f0, .int .i64 (rd_T45 ((rd_T30 l1 x12_1).f5) x19_2).f1.f0, .int .i64 (rd_T45 ((rd_T30 l1 x12_1).f5) x19_2).f1.f1, .int .i64 (rd_T45 ((rd_T30 l1 x12_1).f5) x19_2).f2.f0, .int .i64 (rd_T45 ((rd_T30 l1 x12_1).f5) x19_2).f2.f1, .slice A110_5 (rd_T45 ((rd_T30 l1 x12_1).f5) x19_2).f2.f2.length c110_5, .slice none 0 0, .slice none 0 0]) ?_ 6 _ rfl; (with_reducible repeat (first | refine blk_drewN ?_ _ | refine blk_drew ?_ | refine blk_alloc ?_ _)); refine blk_put (cs := #[.int .i64 (rd_T45 ((rd_T30 l1 x12_1).f5) x19_2).f0, .int .i64 (rd_T45 ((rd_T30 l1 x12_1).f5) x19_2).f1.f0, .int .i64 (rd_T45 ((rd_T30 l1 x12_1).f5) x19_2).f1.f1, .int .i64 (rd_T45 ((rd_T30 l1 x12_1).f5) x19_2).f2.f0, .int .i64 (rd_T45 ((rd_T30 l1 x12_1).f5) x19_2).f2.f1, .slice none 0 0, .slice none 0 0, .slice none 0 0]) ?_ 5 _ rfl; (with_reducible repeat (first | refine blk_drewN ?_ _ | refine blk_drew ?_ | refine blk_alloc ?_ _)); refine blk_put (cs := #[.int .i64 (rd_T45 ((rd_T30 l1 x12_1).f5) x19_2).f0, .int .i64 (rd_T45 ((rd_T30 l1 x12_1).f5) x19_2).f1.f0, .int .i64 (rd_T45 ((rd_T30 l1 x12_1).f5) x19_2).f1.f1, .int .i64 (rd_T45 ((rd_T30 l1 x12_1).f5) x19_2).f2.f0, .int .i64 0, .slice none 0 0, .slice none 0 0, .slice none 0 0]) ?_ 4 _ rfl; (with_reducible repeat (first | refine blk_drewN ?_ _ | refine blk_drew ?_ | refine blk_alloc ?_ _)); refine blk_put (cs := #[.int .i64 (rd_T45 ((rd_T30 l1 x12_1).f5) x19_2).f0, .int .i64 (rd_T45 ((rd_T30 l1 x12_1).f5) x19_2).f1.f0, .int .i64 (rd_T45 ((rd_T30 l1 x12_1).f5) x19_2).f1.f1, .int .i64 0, .int .i64 0, .slice none 0 0, .slice none 0 0, .slice none 0 0]) ?_ 3 _ rfl; (with_reducible repeat (first | refine blk_drewN ?_ _ | refine blk_drew ?_ | refine blk_alloc ?_ _)); refine blk_put (cs := #[.int .i64 (rd_T45 ((rd_T30 l1 x12_1).f5) x19_2).f0, .int .i64 (rd_T45 ((rd_T30 l1 x12_1).f5) x19_2).f1.f0, .int .i64 0, .int .i64 0, .int .i64 0, .slice none 0 0, .slice none 0 0, .slice none 0 0]) ?_ 2 _ rfl; (with_reducible repeat (first | refine blk_drewN ?_ _ | refine blk_drew ?_ | refine blk_alloc ?_ _)); refine blk_put (cs := #[.int .i64 (rd_T45 ((rd_T30 l1 x12_1).f5) x19_2).f0, .int .i64 0, .int .i64 0, .int .i64 0, .int .i64 0, .slice none 0 0, .slice none 0 0, .slice none 0 0]) ?_ 1 _ rfl; (with_reducible repeat (first | refine blk_drewN ?_ _ | refine blk_drew ?_ | refine blk_alloc ?_ _)); refine blk_put (cs := #[.int .i64 0, .int .i64 0, .int .i64 0, .int .i64 0, .int .i64 0, .slice none 0 0, .slice none 0 0, .slice none 0 0]) ?_ 0 _ rfl; (with_reducible repeat (first | refine blk_drewN ?_ _ | refine blk_drew ?_ | refine blk_alloc ?_ _)); exact BK111.out⟩; have n2_ : Aside0 (Below w.heap.size w (((((((((w13.setCell ⟨gb111, 0, none⟩ (.int .i64 (rd_T45 ((rd_T30 l1 x12_1).f5) x19_2).f0)).setCell ⟨gb111, 1, none⟩ (.int .i64 (rd_T45 ((rd_T30 l1 x12_1).f5) x19_2).f1.f0)).setCell ⟨gb111, 2, none⟩ (.int .i64 (rd_T45 ((rd_T30 l1 x12_1).f5) x19_2).f1.f1)).setCell ⟨gb111, 3, none⟩ (.int .i64 (rd_T45 ((rd_T30 l1 x12_1).f5) x19_2).f2.f0)).setCell ⟨gb111, 4, none⟩ (.int .i64 (rd_T45 ((rd_T30 l1 x12_1).f5) x19_2).f2.f1)).setCell ⟨gb111, 5, none⟩ (.slice A110_5 (rd_T45 ((rd_T30 l1 x12_1).f5) x19_2).f2.f2.length c110_5)).setCell ⟨gb111, 6, none⟩ (.slice A110_6 (rd_T45 ((rd_T30 l1 x12_1).f5) x19_2).f2.f3.length c110_6)).setCell ⟨gb111, 7, none⟩ (.slice A110_7 (rd_T45 ((rd_T30 l1 x12_1).f5) x19_2).f3.length c110_7)))) := ⟨by repeat (first | (with_reducible first | exact HB.out | apply below_alloc | apply pw_below_drewN | apply below_drew1 | refine below_set ?_ GE109.out | refine below_set ?_ GE111.out) | exact HB.out)⟩
         try clear hcz15_0
         try clear hcz15_1
         try clear hcz15_2
         try clear hcz15_3
         try clear hcz15_4
         try clear hcz15_5
         try clear hcz15_6
         try clear hcz15_7
         try clear hfz15_0
         try clear hfz15_1
         try clear hfz15_2
         try clear hfz15_3
         try clear hfz15_4
         try clear hfz15_5
         try clear hfz15_6
         try clear hfz15_7
         try clear hx110_0
         try clear hx110_1
         try clear hx110_2
         try clear hx110_3
         try clear hx110_4
         try clear hx110_5
         try clear hx110_6
         try clear hx110_7
         clear BK109 BK111 HB; generalize ((((((((w13.setCell ⟨gb111, 0, none⟩ (.int .i64 (rd_T45 ((rd_T30 l1 x12_1).f5) x19_2).f0)).setCell ⟨gb111, 1, none⟩ (.int .i64 (rd_T45 ((rd_T30 l1 x12_1).f5) x19_2).f1.f0)).setCell ⟨gb111, 2, none⟩ (.int .i64 (rd_T45 ((rd_T30 l1 x12_1).f5) x19_2).f1.f1)).setCell ⟨gb111, 3, none⟩ (.int .i64 (rd_T45 ((rd_T30 l1 x12_1).f5) x19_2).f2.f0)).setCell ⟨gb111, 4, none⟩ (.int .i64 (rd_T45 ((rd_T30 l1 x12_1).f5) x19_2).f2.f1)).setCell ⟨gb111, 5, none⟩ (.slice A110_5 (rd_T45 ((rd_T30 l1 x12_1).f5) x19_2).f2.f2.length c110_5)).setCell ⟨gb111, 6, none⟩ (.slice A110_6 (rd_T45 ((rd_T30 l1 x12_1).f5) x19_2).f2.f3.length c110_6)).setCell ⟨gb111, 7, none⟩ (.slice A110_7 (rd_T45 ((rd_T30 l1 x12_1).f5) x19_2).f3.length c110_7)) = w28 at n0_ n1_ n2_ ⊢; have BK109 := Aside0.mk (blk_drew n0_.out); have BK111 := Aside0.mk (blk_drew n1_.out); have HB := Aside0.mk (below_drew1 n2_.out); clear n0_ n1_ n2_; have H := HC21.out; clear HC21
         by_cases c26 : (rd_T45 ((rd_T30 l1 x12_1).f5) x19_2).f0 = a0
         ·rw [if_pos c26] at H
          have c26b0 : ((rd_T45 ((rd_T30 l1 x12_1).f5) x19_2).f0 == a0) = true := beq_iff_eq.mpr c26; clear c26
          cases x5_2 with
          | none =>
           have hv := HP.out; simp only [PtrAt] at hv; subst hv; clear HP; have H' := Aside0.mk (show choose_best.l1 k2 a0 (some (rd_T45 ((rd_T30 l1 x12_1).f5) x19_2)) l1 (l1.length : Int) x12_1 ((rd_T30 l1 x12_1).f5) (((rd_T30 l1 x12_1).f5).length : Int) (wrap64 (x19_2 + 1)) = some r from H); clear H
           refine start_ (n := 18) (S := fun w' => w'.cell? ⟨gb111, 0, none⟩ = some (.int .i64 (rd_T45 ((rd_T30 l1 x12_1).f5) x19_2).f0) ∧ w'.cell? ⟨gb111, 1, none⟩ = some (.int .i64 (rd_T45 ((rd_T30 l1 x12_1).f5) x19_2).f1.f0) ∧ w'.cell? ⟨gb111, 2, none⟩ = some (.int .i64 (rd_T45 ((rd_T30 l1 x12_1).f5) x19_2).f1.f1) ∧ w'.cell? ⟨gb111, 3, none⟩ = some (.int .i64 (rd_T45 ((rd_T30 l1 x12_1).f5) x19_2).f2.f0) ∧ w'.cell? ⟨gb111, 4, none⟩ = some (.int .i64 (rd_T45 ((rd_T30 l1 x12_1).f5) x19_2).f2.f1) ∧ w'.cell? ⟨gb111, 5, none⟩ = some (.slice A110_5 (rd_T45 ((rd_T30 l1 x12_1).f5) x19_2).f2.f2.length c110_5) ∧ w'.cell? ⟨gb111, 6, none⟩ = some (.slice A110_6 (rd_T45 ((rd_T30 l1 x12_1).f5) x19_2).f2.f3.length c110_6) ∧ w'.cell? ⟨gb111, 7, none⟩ = some (.slice A110_7 (rd_T45 ((rd_T30 l1 x12_1).f5) x19_2).f3.length c110_7)) (ds := []) #[false, false, false, false, false, false, false, false, false, false, false, false, false, false, false, false, false, false] (by kernel_rfl) rfl rfl ⟨(blk_cell BK111.out 0).trans rfl, (blk_cell BK111.out 1).trans rfl, (blk_cell BK111.out 2).trans rfl, (blk_cell BK111.out 3).trans rfl, (blk_cell BK111.out 4).trans rfl, (blk_cell BK111.out 5).trans rfl, (blk_cell BK111.out 6).trans rfl, (blk_cell BK111.out 7).trans rfl⟩ (fun hHeld => ?_); refine with_tabW choose_best.tab8 choose_best.bits8 (fun HT_ HW_ => ?_)
           generalize w28.drew = w29 at BK109 BK111 HB hHeld ⊢
           refine pure_ (i := 0) (N := some 24) (v := ?_) (a' := ?_) #[true, false, false, false, false, false, false, false, false, false, false, false, false, false, false, false, false, false] rfl rfl (any_of HT_.out (by kernel_rfl)) (fun _ _ _ h => h) (Or.inl ⟨by rfl, ?_⟩) ?_ ?_
           rotate_left
           ·intro w'
            go_simp
            with_reducible rfl
           rotate_left
           ·simp only [Act.put, List.setIfInBounds_toArray, List.set_cons_zero, List.set_cons_succ, i64_w, i32_w]
            rfl
           refine pure_ (i := 2) (N := some 26) (v := ?_) (a' := ?_) #[true, false, true, false, false, false, false, false, false, false, false, false, false, false, false, false, false, false] rfl rfl (any_of HT_.out (by kernel_rfl)) (fun _ _ _ h => h) (Or.inl ⟨by rfl, ?_⟩) ?_ ?_
           rotate_left
           ·intro w'
            go_simp
            with_reducible rfl
           rotate_left
           ·simp only [Act.put, List.setIfInBounds_toArray, List.set_cons_zero, List.set_cons_succ, i64_w, i32_w]
            rfl
           refine take_ (i := 1) (N := some 25) (v := ?_) (a' := ?_) #[true, true, true, false, false, false, false, false, false, false, false, false, false, false, false, false, false, false] rfl rfl (take_ofW HT_.out HW_.out (by kernel_rfl)) (fun _ _ _ h => h) (Or.inl ⟨by rfl, ?_⟩) hHeld ?_ ?_
           rotate_left
           ·rintro w' ⟨s0, s1, s2, s3, s4, s5, s6, s7⟩
            go_simp
            with_reducible rfl
           rotate_left
           ·simp only [Act.put, List.setIfInBounds_toArray, List.set_cons_zero, List.set_cons_succ, i64_w, i32_w]
            rfl
           refine pure_ (i := 3) (N := some 27) (v := ?_) (a' := ?_) #[true, true, true, true, false, false, false, false, false, false, false, false, false, false, false, false, false, false] rfl rfl (any_of HT_.out (by kernel_rfl)) (fun _ _ _ h => h) (Or.inl ⟨by rfl, ?_⟩) ?_ ?_
           rotate_left
           ·intro w'
            go_simp
            with_reducible rfl
           rotate_left
           ·simp only [Act.put, List.setIfInBounds_toArray, List.set_cons_zero, List.set_cons_succ, i64_w, i32_w]
            rfl
           refine pure_ (i := 4) (N := some 28) (v := ?_) (a' := ?_) #[true, true, true, true, true, false, false, false, false, false, false, false, false, false, false, false, false, false] rfl rfl (any_of HT_.out (by kernel_rfl)) (fun _ _ _ h => h) (Or.inl ⟨by rfl, ?_⟩) ?_ ?_
           rotate_left
           ·intro w'
            go_simp
            with_reducible rfl
           rotate_left
           ·simp only [Act.put, List.setIfInBounds_toArray, List.set_cons_zero, List.set_cons_succ, i64_w, i32_w]
            rfl
           refine pure_ (i := 5) (N := some 29) (v := ?_) (a' := ?_) #[true, true, true, true, true, true, false, false, false, false, false, false, false, false, false, false, false, false] rfl rfl (any_of HT_.out (by kernel_rfl)) (fun _ _ _ h => h) (Or.inl ⟨by rfl, ?_⟩) ?_ ?_
           rotate_left
           ·intro w'
            go_simp
            with_reducible rfl
           rotate_left
           ·simp only [Act.put, List.setIfInBounds_toArray, List.set_cons_zero, List.set_cons_succ, i64_w, i32_w]
            rfl
           refine pure_ (i := 6) (N := some 30) (v := ?_) (a' := ?_) #[true, true, true, true, true, true, true, false, false, false, false, false, false, false, false, false, false, false] rfl rfl (any_of HT_.out (by kernel_rfl)) (fun _ _ _ h => h) (Or.inl ⟨by rfl, ?_⟩) ?_ ?_
           rotate_left
           ·intro w'
            go_simp
            with_reducible rfl
           rotate_left
           ·simp only [Act.put, List.setIfInBounds_toArray, List.set_cons_zero, List.set_cons_succ, i64_w, i32_w]
            rfl
           refine pure_ (i := 7) (N := some 31) (v := ?_) (a' := ?_) #[true, true, true, true, true, true, true, true, false, false, false, false, false, false, false, false, false, false] rfl rfl (any_of HT_.out (by kernel_rfl)) (fun _ _ _ h => h) (Or.inl ⟨by rfl, ?_⟩) ?_ ?_
           rotate_left
           ·intro w'
            go_simp
            with_reducible rfl
           rotate_left
           ·simp only [Act.put, List.setIfInBounds_toArray, List.set_cons_zero, List.set_cons_succ, i64_w, i32_w]
            rfl
           refine pure_ (i := 8) (N := some 32) (v := undef) (a' := ?_) #[true, true, true, true, true, true, true, true, true, false, false, false, false, false, false, false, false, false] rfl rfl (any_of HT_.out (by kernel_rfl)) (fun _ _ _ h => h) (Or.inr ⟨by rfl, rfl⟩) ?_ ?_
           rotate_left
           ·simp only [Act.put, List.setIfInBounds_toArray, List.set_cons_zero, List.set_cons_succ, i64_w, i32_w]
            rfl
           refine pure_ (i := 9) (N := some 33) (v := undef) (a' := ?_) #[true, true, true, true, true, true, true, true, true, true, false, false, false, false, false, false, false, false] rfl rfl (any_of HT_.out (by kernel_rfl)) (fun _ _ _ h => h) (Or.inr ⟨by rfl, rfl⟩) ?_ ?_
           rotate_left
           ·simp only [Act.put, List.setIfInBounds_toArray, List.set_cons_zero, List.set_cons_succ, i64_w, i32_w]
            rfl
           refine pure_ (i := 10) (N := some 34) (v := undef) (a' := ?_) #[true, true, true, true, true, true, true, true, true, true, true, false, false, false, false, false, false, false] rfl rfl (any_of HT_.out (by kernel_rfl)) (fun _ _ _ h => h) (Or.inr ⟨by rfl, rfl⟩) ?_ ?_
           rotate_left
           ·simp only [Act.put, List.setIfInBounds_toArray, List.set_cons_zero, List.set_cons_succ, i64_w, i32_w]
            rfl
           refine pure_ (i := 11) (N := some 35) (v := undef) (a' := ?_) #[true, true, true, true, true, true, true, true, true, true, true, true, false, false, false, false, false, false] rfl rfl (any_of HT_.out (by kernel_rfl)) (fun _ _ _ h => h) (Or.inr ⟨by rfl, rfl⟩) ?_ ?_
           rotate_left
           ·simp only [Act.put, List.setIfInBounds_toArray, List.set_cons_zero, List.set_cons_succ, i64_w, i32_w]
            rfl
           refine pure_ (i := 12) (N := some 36) (v := undef) (a' := ?_) #[true, true, true, true, true, true, true, true, true, true, true, true, true, false, false, false, false, false] rfl rfl (any_of HT_.out (by kernel_rfl)) (fun _ _ _ h => h) (Or.inr ⟨by rfl, rfl⟩) ?_ ?_
           rotate_left
           ·simp only [Act.put, List.setIfInBounds_toArray, List.set_cons_zero, List.set_cons_succ, i64_w, i32_w]
            rfl
           refine pure_ (i := 13) (N := some 37) (v := undef) (a' := ?_) #[true, true, true, true, true, true, true, true, true, true, true, true, true, true, false, false, false, false] rfl rfl (any_of HT_.out (by kernel_rfl)) (fun _ _ _ h => h) (Or.inr ⟨by rfl, rfl⟩) ?_ ?_
           rotate_left
           ·simp only [Act.put, List.setIfInBounds_toArray, List.set_cons_zero, List.set_cons_succ, i64_w, i32_w]
            rfl
           refine pure_ (i := 14) (N := some 38) (v := undef) (a' := ?_) #[true, true, true, true, true, true, true, true, true, true, true, true, true, true, true, false, false, false] rfl rfl (any_of HT_.out (by kernel_rfl)) (fun _ _ _ h => h) (Or.inr ⟨by rfl, rfl⟩) ?_ ?_
           rotate_left
           ·simp only [Act.put, List.setIfInBounds_toArray, List.set_cons_zero, List.set_cons_succ, i64_w, i32_w]
            rfl
           refine pure_ (i := 15) (N := some 39) (v := undef) (a' := ?_) #[true, true, true, true, true, true, true, true, true, true, true, true, true, true, true, true, false, false] rfl rfl (any_of HT_.out (by kernel_rfl)) (fun _ _ _ h => h) (Or.inr ⟨by rfl, rfl⟩) ?_ ?_
           rotate_left
           ·simp only [Act.put, List.setIfInBounds_toArray, List.set_cons_zero, List.set_cons_succ, i64_w, i32_w]
            rfl
           refine pure_ (i := 16) (N := some 40) (v := ?_) (a' := ?_) #[true, true, true, true, true, true, true, true, true, true, true, true, true, true, true, true, true, false] rfl rfl (any_of HT_.out (by kernel_rfl)) (fun _ _ _ h => h) (Or.inl ⟨by rfl, ?_⟩) ?_ ?_
           rotate_left
           ·intro w'
            go_simp
            with_reducible rfl
           rotate_left
           ·simp only [Act.put, List.setIfInBounds_toArray, List.set_cons_zero, List.set_cons_succ, i64_w, i32_w]
            rfl
           refine pure_ (i := 17) (N := some 41) (v := ?_) (a' := ?_) #[true, true, true, true, true, true, true, true, true, true, true, true, true, true, true, true, true, true] rfl rfl (any_of HT_.out (by kernel_rfl)) (fun _ _ _ h => h) (Or.inl ⟨by rfl, ?_⟩) ?_ ?_
           rotate_left
           ·intro w'
            go_simp
            with_reducible rfl
           rotate_left
           ·simp only [Act.put, List.setIfInBounds_toArray, List.set_cons_zero, List.set_cons_succ, i64_w, i32_w]
            rfl
           refine done_ (done_of HT_.out (by kernel_rfl)) ?_; have hcz1_0 : w29.cell? ⟨gb109, 0, none⟩ = some (.int .i64 ((rd_T30 l1 x12_1).f0.f0)) := (blk_cell BK109.out 0).trans rfl; have hcz1_1 : w29.cell? ⟨gb109, 1, none⟩ = some (.int .i64 ((rd_T30 l1 x12_1).f0.f1)) := (blk_cell BK109.out 1).trans rfl; have hcz1_2 : w29.cell? ⟨gb109, 2, none⟩ = some (.int .i64 ((rd_T30 l1 x12_1).f1)) := (blk_cell BK109.out 2).trans rfl; have hcz1_3 : w29.cell? ⟨gb109, 3, none⟩ = some (.int .i64 ((rd_T30 l1 x12_1).f2)) := (blk_cell BK109.out 3).trans rfl; have hcz1_4 : w29.cell? ⟨gb109, 4, none⟩ = some (.slice A108_4 ((rd_T30 l1 x12_1).f3).length c108_4) := (blk_cell BK109.out 4).trans rfl; have hcz1_5 : w29.cell? ⟨gb109, 5, none⟩ = some (.slice A108_5 ((rd_T30 l1 x12_1).f4).length c108_5) := (blk_cell BK109.out 5).trans rfl; have hcz1_6 : w29.cell? ⟨gb109, 6, none⟩ = some (.slice (some ad110) ((rd_T30 l1 x12_1).f5).length c108_6) := (blk_cell BK109.out 6).trans rfl; have hcz1_7 : w29.cell? ⟨gb109, 7, none⟩ = some (.slice A108_7 ((rd_T30 l1 x12_1).f6).length c108_7) := (blk_cell BK109.out 7).trans rfl; have hfz1_0 := blk_frozen BK109.out 0; have hfz1_1 := blk_frozen BK109.out 1; have hfz1_2 := blk_frozen BK109.out 2; have hfz1_3 := blk_frozen BK109.out 3; have hfz1_4 := blk_frozen BK109.out 4; have hfz1_5 := blk_frozen BK109.out 5; have hfz1_6 := blk_frozen BK109.out 6; have hfz1_7 := blk_frozen BK109.out 7
           go_wp2
           go_roundg k2
           case measure => have := HK1.out; have := HK2.out; omega
           case rel => exact ⟨some (rd_T45 ((rd_T30 l1 x12_1).f5) x19_2), (wrap64 (x19_2 + 1)), (by first | rfl | (simp; done) | (simp [*]; done)), HN, H', ⟨by have := HK1.out; have := HK2.out; omega⟩, ⟨blk_u <| BK109.out⟩, ⟨by repeat (first | (with_reducible first | exact HB.out | apply below_alloc | apply pw_below_drewN | apply below_drew1 | refine below_set ?_ GE109.out | refine below_set ?_ GE111.out) | exact HB.out)⟩⟩
          | some q =>
           have hv := HP.out; obtain ⟨adq, A5_, c5_, A6_, c6_, A7_, c7_, rfl, hq0, hq1, hq2, hqr⟩ := hv; have HQ1 := Aside0.mk ((HB.out.cell (World.block_lt_of_cell? w _ hq1)).trans hq1); have HQ2 := Aside0.mk ((HB.out.cell (World.block_lt_of_cell? w _ hq2)).trans hq2); clear hq0 hq1 hq2 hqr; replace H := Option.bind_eq_some_iff.mp H; obtain ⟨tu, htu, H⟩ := H; replace htu := Option.bind_eq_some_iff.mp (show (ballot_Compare.f k2 (rd_T45 ((rd_T30 l1 x12_1).f5) x19_2).f1.f0 (rd_T45 ((rd_T30 l1 x12_1).f5) x19_2).f1.f1 q.f1.f0 q.f1.f1).bind (fun t => if t > 0 then some (some (rd_T45 ((rd_T30 l1 x12_1).f5) x19_2)) else some (some q)) = some tu from htu); obtain ⟨tc, htc, htu⟩ := htu; have HTC := Aside0.mk htc; clear htc
           by_cases c27 : tc > 0
           ·rw [if_pos c27] at htu
            obtain rfl := Option.some.inj htu; have c27b0 : decide (tc > 0) = true := decide_eq_true c27; clear htu c27; have H' := Aside0.mk H; clear H
            refine start_ (n := 18) (S := fun w' => w'.cell? ⟨gb111, 0, none⟩ = some (.int .i64 (rd_T45 ((rd_T30 l1 x12_1).f5) x19_2).f0) ∧ w'.cell? ⟨gb111, 1, none⟩ = some (.int .i64 (rd_T45 ((rd_T30 l1 x12_1).f5) x19_2).f1.f0) ∧ w'.cell? ⟨gb111, 2, none⟩ = some (.int .i64 (rd_T45 ((rd_T30 l1 x12_1).f5) x19_2).f1.f1) ∧ w'.cell? ⟨gb111, 3, none⟩ = some (.int .i64 (rd_T45 ((rd_T30 l1 x12_1).f5) x19_2).f2.f0) ∧ w'.cell? ⟨gb111, 4, none⟩ = some (.int .i64 (rd_T45 ((rd_T30 l1 x12_1).f5) x19_2).f2.f1) ∧ w'.cell? ⟨gb111, 5, none⟩ = some (.slice A110_5 (rd_T45 ((rd_T30 l1 x12_1).f5) x19_2).f2.f2.length c110_5) ∧ w'.cell? ⟨gb111, 6, none⟩ = some (.slice A110_6 (rd_T45 ((rd_T30 l1 x12_1).f5) x19_2).f2.f3.length c110_6) ∧ w'.cell? ⟨gb111, 7, none⟩ = some (.slice A110_7 (rd_T45 ((rd_T30 l1 x12_1).f5) x19_2).f3.length c110_7) ∧ w'.cell? ⟨adq.block, adq.off + 1, none⟩ = some (.int .i64 q.f1.f0) ∧ w'.cell? ⟨adq.block, adq.off + 2, none⟩ = some (.int .i64 q.f1.f1)) (ds := []) #[false, false, false, false, false, false, false, false, false, false, false, false, false, false, false, false, false, false] (by kernel_rfl) rfl rfl ⟨(blk_cell BK111.out 0).trans rfl, (blk_cell BK111.out 1).trans rfl, (blk_cell BK111.out 2).trans rfl, (blk_cell BK111.out 3).trans rfl, (blk_cell BK111.out 4).trans rfl, (blk_cell BK111.out 5).trans rfl, (blk_cell BK111.out 6).trans rfl, (blk_cell BK111.out 7).trans rfl, HQ1.out, HQ2.out⟩ (fun hHeld => ?_); refine with_tabW choose_best.tab8 choose_best.bits8 (fun HT_ HW_ => ?_)
            generalize w28.drew = w29 at BK109 BK111 HB hHeld ⊢
            refine pure_ (i := 0) (N := some 24) (v := ?_) (a' := ?_) #[true, false, false, false, false, false, false, false, false, false, false, false, false, false, false, false, false, false] rfl rfl (any_of HT_.out (by kernel_rfl)) (fun _ _ _ h => h) (Or.inl ⟨by rfl, ?_⟩) ?_ ?_
            rotate_left
            ·intro w'
             go_simp
             with_reducible rfl
            rotate_left
            ·simp only [Act.put, List.setIfInBounds_toArray, List.set_cons_zero, List.set_cons_succ, i64_w, i32_w]
             rfl
            refine pure_ (i := 2) (N := some 26) (v := ?_) (a' := ?_) #[true, false, true, false, false, false, false, false, false, false, false, false, false, false, false, false, false, false] rfl rfl (any_of HT_.out (by kernel_rfl)) (fun _ _ _ h => h) (Or.inl ⟨by rfl, ?_⟩) ?_ ?_
            rotate_left
            ·intro w'
             go_simp
             with_reducible rfl
            rotate_left
            ·simp only [Act.put, List.setIfInBounds_toArray, List.set_cons_zero, List.set_cons_succ, i64_w, i32_w]
             rfl
            refine take_ (i := 1) (N := some 25) (v := ?_) (a' := ?_) #[true, true, true, false, false, false, false, false, false, false, false, false, false, false, false, false, false, false] rfl rfl (take_ofW HT_.out HW_.out (by kernel_rfl)) (fun _ _ _ h => h) (Or.inl ⟨by rfl, ?_⟩) hHeld ?_ ?_
            rotate_left
            ·rintro w' ⟨s0, s1, s2, s3, s4, s5, s6, s7, s8, s9⟩
             go_simp
             with_reducible rfl
            rotate_left
            ·simp only [Act.put, List.setIfInBounds_toArray, List.set_cons_zero, List.set_cons_succ, i64_w, i32_w]
             rfl
            refine pure_ (i := 3) (N := some 27) (v := ?_) (a' := ?_) #[true, true, true, true, false, false, false, false, false, false, false, false, false, false, false, false, false, false] rfl rfl (any_of HT_.out (by kernel_rfl)) (fun _ _ _ h => h) (Or.inl ⟨by rfl, ?_⟩) ?_ ?_
            rotate_left
            ·intro w'
             go_simp
             with_reducible rfl
            rotate_left
            ·simp only [Act.put, List.setIfInBounds_toArray, List.set_cons_zero, List.set_cons_succ, i64_w, i32_w]
             rfl
            refine pure_ (i := 4) (N := some 28) (v := ?_) (a' := ?_) #[true, true, true, true, true, false, false, false, false, false, false, false, false, false, false, false, false, false] rfl rfl (any_of HT_.out (by kernel_rfl)) (fun _ _ _ h => h) (Or.inl ⟨by rfl, ?_⟩) ?_ ?_
            rotate_left
            ·intro w'
             go_simp
             with_reducible rfl
            rotate_left
            ·simp only [Act.put, List.setIfInBounds_toArray, List.set_cons_zero, List.set_cons_succ, i64_w, i32_w]
             rfl
            refine pure_ (i := 5) (N := some 29) (v := ?_) (a' := ?_) #[true, true, true, true, true, true, false, false, false, false, false, false, false, false, false, false, false, false] rfl rfl (any_of HT_.out (by kernel_rfl)) (fun _ _ _ h => h) (Or.inl ⟨by rfl, ?_⟩) ?_ ?_
            rotate_left
            ·intro w'
             go_simp
             with_reducible rfl
            rotate_left
            ·simp only [Act.put, List.setIfInBounds_toArray, List.set_cons_zero, List.set_cons_succ, i64_w, i32_w]
             rfl
            refine pure_ (i := 6) (N := some 30) (v := ?_) (a' := ?_) #[true, true, true, true, true, true, true, false, false, false, false, false, false, false, false, false, false, false] rfl rfl (any_of HT_.out (by kernel_rfl)) (fun _ _ _ h => h) (Or.inl ⟨by rfl, ?_⟩) ?_ ?_
            rotate_left
            ·intro w'
             go_simp
             with_reducible rfl
            rotate_left
            ·simp only [Act.put, List.setIfInBounds_toArray, List.set_cons_zero, List.set_cons_succ, i64_w, i32_w]
             rfl
            refine pure_ (i := 7) (N := some 31) (v := ?_) (a' := ?_) #[true, true, true, true, true, true, true, true, false, false, false, false, false, false, false, false, false, false] rfl rfl (any_of HT_.out (by kernel_rfl)) (fun _ _ _ h => h) (Or.inl ⟨by rfl, ?_⟩) ?_ ?_
            rotate_left
            ·intro w'
             go_simp
             with_reducible rfl
            rotate_left
            ·simp only [Act.put, List.setIfInBounds_toArray, List.set_cons_zero, List.set_cons_succ, i64_w, i32_w]
             rfl
            refine pure_ (i := 8) (N := some 32) (v := ?_) (a' := ?_) #[true, true, true, true, true, true, true, true, true, false, false, false, false, false, false, false, false, false] rfl rfl (any_of HT_.out (by kernel_rfl)) (fun _ _ _ h => h) (Or.inl ⟨by rfl, ?_⟩) ?_ ?_
            rotate_left
            ·intro w'
             go_simp
             with_reducible rfl
            rotate_left
            ·simp only [Act.put, List.setIfInBounds_toArray, List.set_cons_zero, List.set_cons_succ, i64_w, i32_w]
             rfl
            refine pure_ (i := 10) (N := some 34) (v := ?_) (a' := ?_) #[true, true, true, true, true, true, true, true, true, false, true, false, false, false, false, false, false, false] rfl rfl (any_of HT_.out (by kernel_rfl)) (fun _ _ _ h => h) (Or.inl ⟨by rfl, ?_⟩) ?_ ?_
            rotate_left
            ·intro w'
             go_simp
             with_reducible rfl
            rotate_left
            ·simp only [Act.put, List.setIfInBounds_toArray, List.set_cons_zero, List.set_cons_succ, i64_w, i32_w]
             rfl
            refine pure_ (i := 11) (N := some 35) (v := ?_) (a' := ?_) #[true, true, true, true, true, true, true, true, true, false, true, true, false, false, false, false, false, false] rfl rfl (any_of HT_.out (by kernel_rfl)) (fun _ _ _ h => h) (Or.inl ⟨by rfl, ?_⟩) ?_ ?_
            rotate_left
            ·intro w'
             go_simp
             with_reducible rfl
            rotate_left
            ·simp only [Act.put, List.setIfInBounds_toArray, List.set_cons_zero, List.set_cons_succ, i64_w, i32_w]
             rfl
            refine pure_ (i := 12) (N := some 36) (v := ?_) (a' := ?_) #[true, true, true, true, true, true, true, true, true, false, true, true, true, false, false, false, false, false] rfl rfl (any_of HT_.out (by kernel_rfl)) (fun _ _ _ h => h) (Or.inl ⟨by rfl, ?_⟩) ?_ ?_
            rotate_left
            ·intro w'
             go_simp
             with_reducible rfl
            rotate_left
            ·simp only [Act.put, List.setIfInBounds_toArray, List.set_cons_zero, List.set_cons_succ, i64_w, i32_w]
             rfl
            refine take_ (i := 9) (N := some 33) (v := ?_) (a' := ?_) #[true, true, true, true, true, true, true, true, true, true, true, true, true, false, false, false, false, false] rfl rfl (take_ofW HT_.out HW_.out (by kernel_rfl)) (fun _ _ _ h => h) (Or.inl ⟨by rfl, ?_⟩) hHeld ?_ ?_
            rotate_left
            ·rintro w' ⟨s0, s1, s2, s3, s4, s5, s6, s7, s8, s9⟩
             go_simp
             with_reducible rfl
            rotate_left
            ·simp only [Act.put, List.setIfInBounds_toArray, List.set_cons_zero, List.set_cons_succ, i64_w, i32_w]
             rfl
            refine take_ (i := 13) (N := some 37) (v := ?_) (a' := ?_) #[true, true, true, true, true, true, true, true, true, true, true, true, true, true, false, false, false, false] rfl rfl (take_ofW HT_.out HW_.out (by kernel_rfl)) (fun _ _ _ h => h) (Or.inl ⟨by rfl, ?_⟩) hHeld ?_ ?_
            rotate_left
            ·rintro w' ⟨s0, s1, s2, s3, s4, s5, s6, s7, s8, s9⟩
             go_simp
             with_reducible rfl
            rotate_left
            ·simp only [Act.put, List.setIfInBounds_toArray, List.set_cons_zero, List.set_cons_succ, i64_w, i32_w]
             rfl
            refine one_ (i := 14) (N := some 38) #[true, true, true, true, true, true, true, true, true, true, true, true, true, true, true, false, false, false] rfl rfl (one_of HT_.out (by kernel_rfl)) (by decide) (fun K hK => ?_); refine goes_ Try.func17 (by kernel_rfl) rfl #[.agg #[.int .i64 (rd_T45 ((rd_T30 l1 x12_1).f5) x19_2).f1.f0, .int .i64 (rd_T45 ((rd_T30 l1 x12_1).f5) x19_2).f1.f1], .agg #[.int .i64 q.f1.f0, .int .i64 q.f1.f1]] (by rfl) rfl rfl (by (try simp only [List.map_toArray, List.map_cons, List.map_nil]); first | done | rfl | (simp only [List.length_drop, List.length_take]; rfl)) ?_
            with_reducible refine (ballot_Compare.calls k2 (rd_T45 ((rd_T30 l1 x12_1).f5) x19_2).f1.f0 (rd_T45 ((rd_T30 l1 x12_1).f5) x19_2).f1.f1 q.f1.f0 q.f1.f1 tc _ HTC.out).mono ?_
            rintro e w35 ⟨rfl, hb⟩; have HS8_ := (hb.cell (World.block_lt_of_cell? _ _ (hHeld.2.2.2.2.2.2.2.2.1))).trans (hHeld.2.2.2.2.2.2.2.2.1); have HS9_ := (hb.cell (World.block_lt_of_cell? _ _ (hHeld.2.2.2.2.2.2.2.2.2))).trans (hHeld.2.2.2.2.2.2.2.2.2); refine ⟨_, rfl, ?_⟩; have n0_ := Aside0.mk (blk_below (blk_u <| BK109.out) hb); have n1_ := Aside0.mk (blk_below (blk_u <| BK111.out) hb); have n2_ := Aside0.mk (below_step (by repeat (first | (with_reducible first | exact HB.out | apply below_alloc | apply pw_below_drewN | apply below_drew1 | refine below_set ?_ GE109.out | refine below_set ?_ GE111.out) | exact HB.out)) hb); clear BK109 BK111 HB; have BK109 := n0_; have BK111 := n1_; have HB := n2_; clear n0_ n1_ n2_ hb; refine hK.out _ _ ⟨(blk_cell BK111.out 0).trans rfl, (blk_cell BK111.out 1).trans rfl, (blk_cell BK111.out 2).trans rfl, (blk_cell BK111.out 3).trans rfl, (blk_cell BK111.out 4).trans rfl, (blk_cell BK111.out 5).trans rfl, (blk_cell BK111.out 6).trans rfl, (blk_cell BK111.out 7).trans rfl, HS8_, HS9_⟩ (fun hHeld => ?_); clear hK K
            refine norm_ (a' := ?_) ?_ ?_
            rotate_left
            ·show Act.put _ (some 38) _ = _
             simp only [Act.put, List.setIfInBounds_toArray, List.set_cons_zero, List.set_cons_succ, i64_w, i32_w]
             rfl
            refine pure_ (i := 15) (N := some 39) (v := ?_) (a' := ?_) #[true, true, true, true, true, true, true, true, true, true, true, true, true, true, true, true, false, false] rfl rfl (any_of HT_.out (by kernel_rfl)) (fun _ _ _ h => h) (Or.inl ⟨by rfl, ?_⟩) ?_ ?_
            rotate_left
            ·intro w'
             go_simp
             with_reducible rfl
            rotate_left
            ·simp only [Act.put, List.setIfInBounds_toArray, List.set_cons_zero, List.set_cons_succ, i64_w, i32_w]
             rfl
            refine pure_ (i := 16) (N := some 40) (v := ?_) (a' := ?_) #[true, true, true, true, true, true, true, true, true, true, true, true, true, true, true, true, true, false] rfl rfl (any_of HT_.out (by kernel_rfl)) (fun _ _ _ h => h) (Or.inl ⟨by rfl, ?_⟩) ?_ ?_
            rotate_left
            ·intro w'
             go_simp
             with_reducible rfl
            rotate_left
            ·simp only [Act.put, List.setIfInBounds_toArray, List.set_cons_zero, List.set_cons_succ, i64_w, i32_w]
             rfl
            refine pure_ (i := 17) (N := some 41) (v := ?_) (a' := ?_) #[true, true, true, true, true, true, true, true, true, true, true, true, true, true, true, true, true, true] rfl rfl (any_of HT_.out (by kernel_rfl)) (fun _ _ _ h => h) (Or.inl ⟨by rfl, ?_⟩) ?_ ?_
            rotate_left
            ·intro w'
             go_simp
             with_reducible rfl
            rotate_left
            ·simp only [Act.put, List.setIfInBounds_toArray, List.set_cons_zero, List.set_cons_succ, i64_w, i32_w]
             rfl
            refine done_ (done_of HT_.out (by kernel_rfl)) ?_; have hcz1_0 : w35.cell? ⟨gb109, 0, none⟩ = some (.int .i64 ((rd_T30 l1 x12_1).f0.f0)) := (blk_cell BK109.out 0).trans rfl; have hcz1_1 : w35.cell? ⟨gb109, 1, none⟩ = some (.int .i64 ((rd_T30 l1 x12_1).f0.f1)) := (blk_cell BK109.out 1).trans rfl; have hcz1_2 : w35.cell? ⟨gb109, 2, none⟩ = some (.int .i64 ((rd_T30 l1 x12_1).f1)) := (blk_cell BK109.out 2).trans rfl; have hcz1_3 : w35.cell? ⟨gb109, 3, none⟩ = some (.int .i64 ((rd_T30 l1 x12_1).f2)) := (blk_cell BK109.out 3).trans rfl; have hcz1_4 : w35.cell? ⟨gb109, 4, none⟩ = some (.slice A108_4 ((rd_T30 l1 x12_1).f3).length c108_4) := (blk_cell BK109.out 4).trans rfl; have hcz1_5 : w35.cell? ⟨gb109, 5, none⟩ = some (.slice A108_5 ((rd_T30 l1 x12_1).f4).length c108_5) := (blk_cell BK109.out 5).trans rfl; have hcz1_6 : w35.cell? ⟨gb109, 6, none⟩ = some (.slice (some ad110) ((rd_T30 l1 x12_1).f5).length c108_6) := (blk_cell BK109.out 6).trans rfl; have hcz1_7 : w35.cell? ⟨gb109, 7, none⟩ = some (.slice A108_7 ((rd_T30 l1 x12_1).f6).length c108_7) := (blk_cell BK109.out 7).trans rfl; have hfz1_0 := blk_frozen BK109.out 0; have hfz1_1 := blk_frozen BK109.out 1; have hfz1_2 := blk_frozen BK109.out 2; have hfz1_3 := blk_frozen BK109.out 3; have hfz1_4 := blk_frozen BK109.out 4; have hfz1_5 := blk_frozen BK109.out 5; have hfz1_6 := blk_frozen BK109.out 6; have hfz1_7 := blk_frozen BK109.out 7
            go_wp2
            go_roundg k2
            case measure => have := HK1.out; have := HK2.out; omega
            case rel => exact ⟨some (rd_T45 ((rd_T30 l1 x12_1).f5) x19_2), (wrap64 (x19_2 + 1)), (by first | rfl | (simp; done) | (simp [*]; done)), HN, H', ⟨by have := HK1.out; have := HK2.out; omega⟩, ⟨blk_u <| BK109.out⟩, ⟨by repeat (first | (with_reducible first | exact HB.out | apply below_alloc | apply pw_below_drewN | apply below_drew1 | refine below_set ?_ GE109.out | refine below_set ?_ GE111.out) | exact HB.out)⟩⟩
           ·rw [if_neg c27] at htu
            obtain rfl := Option.some.inj htu; have c27b0 : decide (tc > 0) = false := decide_eq_false c27; clear htu c27; have H' := Aside0.mk H; clear H
            refine start_ (n := 18) (S := fun w' => w'.cell? ⟨gb111, 0, none⟩ = some (.int .i64 (rd_T45 ((rd_T30 l1 x12_1).f5) x19_2).f0) ∧ w'.cell? ⟨gb111, 1, none⟩ = some (.int .i64 (rd_T45 ((rd_T30 l1 x12_1).f5) x19_2).f1.f0) ∧ w'.cell? ⟨gb111, 2, none⟩ = some (.int .i64 (rd_T45 ((rd_T30 l1 x12_1).f5) x19_2).f1.f1) ∧ w'.cell? ⟨gb111, 3, none⟩ = some (.int .i64 (rd_T45 ((rd_T30 l1 x12_1).f5) x19_2).f2.f0) ∧ w'.cell? ⟨gb111, 4, none⟩ = some (.int .i64 (rd_T45 ((rd_T30 l1 x12_1).f5) x19_2).f2.f1) ∧ w'.cell? ⟨gb111, 5, none⟩ = some (.slice A110_5 (rd_T45 ((rd_T30 l1 x12_1).f5) x19_2).f2.f2.length c110_5) ∧ w'.cell? ⟨gb111, 6, none⟩ = some (.slice A110_6 (rd_T45 ((rd_T30 l1 x12_1).f5) x19_2).f2.f3.length c110_6) ∧ w'.cell? ⟨gb111, 7, none⟩ = some (.slice A110_7 (rd_T45 ((rd_T30 l1 x12_1).f5) x19_2).f3.length c110_7) ∧ w'.cell? ⟨adq.block, adq.off + 1, none⟩ = some (.int .i64 q.f1.f0) ∧ w'.cell? ⟨adq.block, adq.off + 2, none⟩ = some (.int .i64 q.f1.f1)) (ds := []) #[false, false, false, false, false, false, false, false, false, false, false, false, false, false, false, false, false, false] (by kernel_rfl) rfl rfl ⟨(blk_cell BK111.out 0).trans rfl, (blk_cell BK111.out 1).trans rfl, (blk_cell BK111.out 2).trans rfl, (blk_cell BK111.out 3).trans rfl, (blk_cell BK111.out 4).trans rfl, (blk_cell BK111.out 5).trans rfl, (blk_cell BK111.out 6).trans rfl, (blk_cell BK111.out 7).trans rfl, HQ1.out, HQ2.out⟩ (fun hHeld => ?_); refine with_tabW choose_best.tab8 choose_best.bits8 (fun HT_ HW_ => ?_)
            generalize w28.drew = w29 at BK109 BK111 HB hHeld ⊢
            refine pure_ (i := 0) (N := some 24) (v := ?_) (a' := ?_) #[true, false, false, false, false, false, false, false, false, false, false, false, false, false, false, false, false, false] rfl rfl (any_of HT_.out (by kernel_rfl)) (fun _ _ _ h => h) (Or.inl ⟨by rfl, ?_⟩) ?_ ?_
            rotate_left
            ·intro w'
             go_simp
             with_reducible rfl
            rotate_left
            ·simp only [Act.put, List.setIfInBounds_toArray, List.set_cons_zero, List.set_cons_succ, i64_w, i32_w]
             rfl
            refine pure_ (i := 2) (N := some 26) (v := ?_) (a' := ?_) #[true, false, true, false, false, false, false, false, false, false, false, false, false, false, false, false, false, false] rfl rfl (any_of HT_.out (by kernel_rfl)) (fun _ _ _ h => h) (Or.inl ⟨by rfl, ?_⟩) ?_ ?_
            rotate_left
            ·intro w'
             go_simp
             with_reducible rfl
            rotate_left
            ·simp only [Act.put, List.setIfInBounds_toArray, List.set_cons_zero, List.set_cons_succ, i64_w, i32_w]
             rfl
            refine take_ (i := 1) (N := some 25) (v := ?_) (a' := ?_) #[true, true, true, false, false, false, false, false, false, false, false, false, false, false, false, false, false, false] rfl rfl (take_ofW HT_.out HW_.out (by kernel_rfl)) (fun _ _ _ h => h) (Or.inl ⟨by rfl, ?_⟩) hHeld ?_ ?_
            rotate_left
            ·rintro w' ⟨s0, s1, s2, s3, s4, s5, s6, s7, s8, s9⟩
             go_simp
             with_reducible rfl
            rotate_left
            ·simp only [Act.put, List.setIfInBounds_toArray, List.set_cons_zero, List.set_cons_succ, i64_w, i32_w]
             rfl
            refine pure_ (i := 3) (N := some 27) (v := ?_) (a' := ?_) #[true, true, true, true, false, false, false, false, false, false, false, false, false, false, false, false, false, false] rfl rfl (any_of HT_.out (by kernel_rfl)) (fun _ _ _ h => h) (Or.inl ⟨by rfl, ?_⟩) ?_ ?_
            rotate_left
            ·intro w'
             go_simp
             with_reducible rfl
            rotate_left
            ·simp only [Act.put, List.setIfInBounds_toArray, List.set_cons_zero, List.set_cons_succ, i64_w, i32_w]
             rfl
            refine pure_ (i := 4) (N := some 28) (v := ?_) (a' := ?_) #[true, true, true, true, true, false, false, false, false, false, false, false, false, false, false, false, false, false] rfl rfl (any_of HT_.out (by kernel_rfl)) (fun _ _ _ h => h) (Or.inl ⟨by rfl, ?_⟩) ?_ ?_
            rotate_left
            ·intro w'
             go_simp
             with_reducible rfl
            rotate_left
            ·simp only [Act.put, List.setIfInBounds_toArray, List.set_cons_zero, List.set_cons_succ, i64_w, i32_w]
             rfl
            refine pure_ (i := 5) (N := some 29) (v := ?_) (a' := ?_) #[true, true, true, true, true, true, false, false, false, false, false, false, false, false, false, false, false, false] rfl rfl (any_of HT_.out (by kernel_rfl)) (fun _ _ _ h => h) (Or.inl ⟨by rfl, ?_⟩) ?_ ?_
            rotate_left
            ·intro w'
             go_simp
             with_reducible rfl
            rotate_left
            ·simp only [Act.put, List.setIfInBounds_toArray, List.set_cons_zero, List.set_cons_succ, i64_w, i32_w]
             rfl
            refine pure_ (i := 6) (N := some 30) (v := ?_) (a' := ?_) #[true, true, true, true, true, true, true, false, false, false, false, false, false, false, false, false, false, false] rfl rfl (any_of HT_.out (by kernel_rfl)) (fun _ _ _ h => h) (Or.inl ⟨by rfl, ?_⟩) ?_ ?_
            rotate_left
            ·intro w'
             go_simp
             with_reducible rfl
            rotate_left
            ·simp only [Act.put, List.setIfInBounds_toArray, List.set_cons_zero, List.set_cons_succ, i64_w, i32_w]
             rfl
            refine pure_ (i := 7) (N := some 31) (v := ?_) (a' := ?_) #[true, true, true, true, true, true, true, true, false, false, false, false, false, false, false, false, false, false] rfl rfl (any_of HT_.out (by kernel_rfl)) (fun _ _ _ h => h) (Or.inl ⟨by rfl, ?_⟩) ?_ ?_
            rotate_left
            ·intro w'
             go_simp
             with_reducible rfl
            rotate_left
            ·simp only [Act.put, List.setIfInBounds_toArray, List.set_cons_zero, List.set_cons_succ, i64_w, i32_w]
             rfl
            refine pure_ (i := 8) (N := some 32) (v := ?_) (a' := ?_) #[true, true, true, true, true, true, true, true, true, false, false, false, false, false, false, false, false, false] rfl rfl (any_of HT_.out (by kernel_rfl)) (fun _ _ _ h => h) (Or.inl ⟨by rfl, ?_⟩) ?_ ?_
            rotate_left
            ·intro w'
             go_simp
             with_reducible rfl
            rotate_left
            ·simp only [Act.put, List.setIfInBounds_toArray, List.set_cons_zero, List.set_cons_succ, i64_w, i32_w]
             rfl
            refine pure_ (i := 10) (N := some 34) (v := ?_) (a' := ?_) #[true, true, true, true, true, true, true, true, true, false, true, false, false, false, false, false, false, false] rfl rfl (any_of HT_.out (by kernel_rfl)) (fun _ _ _ h => h) (Or.inl ⟨by rfl, ?_⟩) ?_ ?_
            rotate_left
            ·intro w'
             go_simp
             with_reducible rfl
            rotate_left
            ·simp only [Act.put, List.setIfInBounds_toArray, List.set_cons_zero, List.set_cons_succ, i64_w, i32_w]
             rfl
            refine pure_ (i := 11) (N := some 35) (v := ?_) (a' := ?_) #[true, true, true, true, true, true, true, true, true, false, true, true, false, false, false, false, false, false] rfl rfl (any_of HT_.out (by kernel_rfl)) (fun _ _ _ h => h) (Or.inl ⟨by rfl, ?_⟩) ?_ ?_
            rotate_left
            ·intro w'
             go_simp
             with_reducible rfl
            rotate_left
            ·simp only [Act.put, List.setIfInBounds_toArray, List.set_cons_zero, List.set_cons_succ, i64_w, i32_w]
             rfl
            refine pure_ (i := 12) (N := some 36) (v := ?_) (a' := ?_) #[true, true, true, true, true, true, true, true, true, false, true, true, true, false, false, false, false, false] rfl rfl (any_of HT_.out (by kernel_rfl)) (fun _ _ _ h => h) (Or.inl ⟨by rfl, ?_⟩) ?_ ?_
            rotate_left
            ·intro w'
             go_simp
             with_reducible rfl
            rotate_left
            ·simp only [Act.put, List.setIfInBounds_toArray, List.set_cons_zero, List.set_cons_succ, i64_w, i32_w]
             rfl
            refine take_ (i := 9) (N := some 33) (v := ?_) (a' := ?_) #[true, true, true, true, true, true, true, true, true, true, true, true, true, false, false, false, false, false] rfl rfl (take_ofW HT_.out HW_.out (by kernel_rfl)) (fun _ _ _ h => h) (Or.inl ⟨by rfl, ?_⟩) hHeld ?_ ?_
            rotate_left
            ·rintro w' ⟨s0, s1, s2, s3, s4, s5, s6, s7, s8, s9⟩
             go_simp
             with_reducible rfl
            rotate_left
            ·simp only [Act.put, List.setIfInBounds_toArray, List.set_cons_zero, List.set_cons_succ, i64_w, i32_w]
             rfl
            refine take_ (i := 13) (N := some 37) (v := ?_) (a' := ?_) #[true, true, true, true, true, true, true, true, true, true, true, true, true, true, false, false, false, false] rfl rfl (take_ofW HT_.out HW_.out (by kernel_rfl)) (fun _ _ _ h => h) (Or.inl ⟨by rfl, ?_⟩) hHeld ?_ ?_
            rotate_left
            ·rintro w' ⟨s0, s1, s2, s3, s4, s5, s6, s7, s8, s9⟩
             go_simp
             with_reducible rfl
            rotate_left
            ·simp only [Act.put, List.setIfInBounds_toArray, List.set_cons_zero, List.set_cons_succ, i64_w, i32_w]
             rfl
            refine one_ (i := 14) (N := some 38) #[true, true, true, true, true, true, true, true, true, true, true, true, true, true, true, false, false, false] rfl rfl (one_of HT_.out (by kernel_rfl)) (by decide) (fun K hK => ?_); refine goes_ Try.func17 (by kernel_rfl) rfl #[.agg #[.int .i64 (rd_T45 ((rd_T30 l1 x12_1).f5) x19_2).f1.f0, .int .i64 (rd_T45 ((rd_T30 l1 x12_1).f5) x19_2).f1.f1], .agg #[.int .i64 q.f1.f0, .int .i64 q.f1.f1]] (by rfl) rfl rfl (by (try simp only [List.map_toArray, List.map_cons, List.map_nil]); first | done | rfl | (simp only [List.length_drop, List.length_take]; rfl)) ?_
            with_reducible refine (ballot_Compare.calls k2 (rd_T45 ((rd_T30 l1 x12_1).f5) x19_2).f1.f0 (rd_T45 ((rd_T30 l1 x12_1).f5) x19_2).f1.f1 q.f1.f0 q.f1.f1 tc _ HTC.out).mono ?_
            rintro e w35 ⟨rfl, hb⟩; have HS8_ := (hb.cell (World.block_lt_of_cell? _ _ (hHeld.2.2.2.2.2.2.2.2.1))).trans (hHeld.2.2.2.2.2.2.2.2.1); have HS9_ := (hb.cell (World.block_lt_of_cell? _ _ (hHeld.2.2.2.2.2.2.2.2.2))).trans (hHeld.2.2.2.2.2.2.2.2.2); refine ⟨_, rfl, ?_⟩; have n0_ := Aside0.mk (blk_below (blk_u <| BK109.out) hb); have n1_ := Aside0.mk (blk_below (blk_u <| BK111.out) hb); have n2_ := Aside0.mk (below_step (by repeat (first | (with_reducible first | exact HB.out | apply below_alloc | apply pw_below_drewN | apply below_drew1 | refine below_set ?_ GE109.out | refine below_set ?_ GE111.out) | exact HB.out)) hb); clear BK109 BK111 HB; have BK109 := n0_; have BK111 := n1_; have HB := n2_; clear n0_ n1_ n2_ hb; refine hK.out _ _ ⟨(blk_cell BK111.out 0).trans rfl, (blk_cell BK111.out 1).trans rfl, (blk_cell BK111.out 2).trans rfl, (blk_cell BK111.out 3).trans rfl, (blk_cell BK111.out 4).trans rfl, (blk_cell BK111.out 5).trans rfl, (blk_cell BK111.out 6).trans rfl, (blk_cell BK111.out 7).trans rfl, HS8_, HS9_⟩ (fun hHeld => ?_); clear hK K
            refine norm_ (a' := ?_) ?_ ?_
            rotate_left
            ·show Act.put _ (some 38) _ = _
             simp only [Act.put, List.setIfInBounds_toArray, List.set_cons_zero, List.set_cons_succ, i64_w, i32_w]
             rfl
            refine pure_ (i := 15) (N := some 39) (v := ?_) (a' := ?_) #[true, true, true, true, true, true, true, true, true, true, true, true, true, true, true, true, false, false] rfl rfl (any_of HT_.out (by kernel_rfl)) (fun _ _ _ h => h) (Or.inl ⟨by rfl, ?_⟩) ?_ ?_
            rotate_left
            ·intro w'
             go_simp
             with_reducible rfl
            rotate_left
            ·simp only [Act.put, List.setIfInBounds_toArray, List.set_cons_zero, List.set_cons_succ, i64_w, i32_w]
             rfl
            refine pure_ (i := 16) (N := some 40) (v := ?_) (a' := ?_) #[true, true, true, true, true, true, true, true, true, true, true, true, true, true, true, true, true, false] rfl rfl (any_of HT_.out (by kernel_rfl)) (fun _ _ _ h => h) (Or.inl ⟨by rfl, ?_⟩) ?_ ?_
            rotate_left
            ·intro w'
             go_simp
             with_reducible rfl
            rotate_left
            ·simp only [Act.put, List.setIfInBounds_toArray, List.set_cons_zero, List.set_cons_succ, i64_w, i32_w]
             rfl
            refine pure_ (i := 17) (N := some 41) (v := ?_) (a' := ?_) #[true, true, true, true, true, true, true, true, true, true, true, true, true, true, true, true, true, true] rfl rfl (any_of HT_.out (by kernel_rfl)) (fun _ _ _ h => h) (Or.inl ⟨by rfl, ?_⟩) ?_ ?_
            rotate_left
            ·intro w'
             go_simp
             with_reducible rfl
            rotate_left
            ·simp only [Act.put, List.setIfInBounds_toArray, List.set_cons_zero, List.set_cons_succ, i64_w, i32_w]
             rfl
            refine done_ (done_of HT_.out (by kernel_rfl)) ?_
            go_wp2
            go_roundg k2
            case measure => have := HK1.out; have := HK2.out; omega
            case rel => exact ⟨some q, (wrap64 (x19_2 + 1)), (by first | rfl | (simp; done) | (simp [*]; done)), HP, H', ⟨by have := HK1.out; have := HK2.out; omega⟩, ⟨blk_u <| BK109.out⟩, ⟨by repeat (first | (with_reducible first | exact HB.out | apply below_alloc | apply pw_below_drewN | apply below_drew1 | refine below_set ?_ GE109.out | refine below_set ?_ GE111.out) | exact HB.out)⟩⟩
         ·rw [if_neg c26] at H
          have c26b0 : ((rd_T45 ((rd_T30 l1 x12_1).f5) x19_2).f0 == a0) = false := beq_eq_false_iff_ne.mpr c26; clear c26; have H' := Aside0.mk H; clear H
          refine start_ (n := 18) (S := fun w' => w'.cell? ⟨gb111, 0, none⟩ = some (.int .i64 (rd_T45 ((rd_T30 l1 x12_1).f5) x19_2).f0) ∧ w'.cell? ⟨gb111, 1, none⟩ = some (.int .i64 (rd_T45 ((rd_T30 l1 x12_1).f5) x19_2).f1.f0) ∧ w'.cell? ⟨gb111, 2, none⟩ = some (.int .i64 (rd_T45 ((rd_T30 l1 x12_1).f5) x19_2).f1.f1) ∧ w'.cell? ⟨gb111, 3, none⟩ = some (.int .i64 (rd_T45 ((rd_T30 l1 x12_1).f5) x19_2).f2.f0) ∧ w'.cell? ⟨gb111, 4, none⟩ = some (.int .i64 (rd_T45 ((rd_T30 l1 x12_1).f5) x19_2).f2.f1) ∧ w'.cell? ⟨gb111, 5, none⟩ = some (.slice A110_5 (rd_T45 ((rd_T30 l1 x12_1).f5) x19_2).f2.f2.length c110_5) ∧ w'.cell? ⟨gb111, 6, none⟩ = some (.slice A110_6 (rd_T45 ((rd_T30 l1 x12_1).f5) x19_2).f2.f3.length c110_6) ∧ w'.cell? ⟨gb111, 7, none⟩ = some (.slice A110_7 (rd_T45 ((rd_T30 l1 x12_1).f5) x19_2).f3.length c110_7)) (ds := []) #[false, false, false, false, false, false, false, false, false, false, false, false, false, false, false, false, false, false] (by kernel_rfl) rfl rfl ⟨(blk_cell BK111.out 0).trans rfl, (blk_cell BK111.out 1).trans rfl, (blk_cell BK111.out 2).trans rfl, (blk_cell BK111.out 3).trans rfl, (blk_cell BK111.out 4).trans rfl, (blk_cell BK111.out 5).trans rfl, (blk_cell BK111.out 6).trans rfl, (blk_cell BK111.out 7).trans rfl⟩ (fun hHeld => ?_); refine with_tabW choose_best.tab8 choose_best.bits8 (fun HT_ HW_ => ?_)
          generalize w28.drew = w29 at BK109 BK111 HB hHeld ⊢
          refine pure_ (i := 0) (N := some 24) (v := ?_) (a' := ?_) #[true, false, false, false, false, false, false, false, false, false, false, false, false, false, false, false, false, false] rfl rfl (any_of HT_.out (by kernel_rfl)) (fun _ _ _ h => h) (Or.inl ⟨by rfl, ?_⟩) ?_ ?_
          rotate_left
          ·intro w'
           go_simp
           with_reducible rfl
          rotate_left
          ·simp only [Act.put, List.setIfInBounds_toArray, List.set_cons_zero, List.set_cons_succ, i64_w, i32_w]
           rfl
          refine pure_ (i := 2) (N := some 26) (v := ?_) (a' := ?_) #[true, false, true, false, false, false, false, false, false, false, false, false, false, false, false, false, false, false] rfl rfl (any_of HT_.out (by kernel_rfl)) (fun _ _ _ h => h) (Or.inl ⟨by rfl, ?_⟩) ?_ ?_
          rotate_left
          ·intro w'
           go_simp
           with_reducible rfl
          rotate_left
          ·simp only [Act.put, List.setIfInBounds_toArray, List.set_cons_zero, List.set_cons_succ, i64_w, i32_w]
           rfl
          refine take_ (i := 1) (N := some 25) (v := ?_) (a' := ?_) #[true, true, true, false, false, false, false, false, false, false, false, false, false, false, false, false, false, false] rfl rfl (take_ofW HT_.out HW_.out (by kernel_rfl)) (fun _ _ _ h => h) (Or.inl ⟨by rfl, ?_⟩) hHeld ?_ ?_
          rotate_left
          ·rintro w' ⟨s0, s1, s2, s3, s4, s5, s6, s7⟩
           go_simp
           with_reducible rfl
          rotate_left
          ·simp only [Act.put, List.setIfInBounds_toArray, List.set_cons_zero, List.set_cons_succ, i64_w, i32_w]
           rfl
          refine pure_ (i := 3) (N := some 27) (v := ?_) (a' := ?_) #[true, true, true, true, false, false, false, false, false, false, false, false, false, false, false, false, false, false] rfl rfl (any_of HT_.out (by kernel_rfl)) (fun _ _ _ h => h) (Or.inl ⟨by rfl, ?_⟩) ?_ ?_
          rotate_left
          ·intro w'
           go_simp
           with_reducible rfl
          rotate_left
          ·simp only [Act.put, List.setIfInBounds_toArray, List.set_cons_zero, List.set_cons_succ, i64_w, i32_w]
           rfl
          refine pure_ (i := 4) (N := some 28) (v := ?_) (a' := ?_) #[true, true, true, true, true, false, false, false, false, false, false, false, false, false, false, false, false, false] rfl rfl (any_of HT_.out (by kernel_rfl)) (fun _ _ _ h => h) (Or.inl ⟨by rfl, ?_⟩) ?_ ?_
          rotate_left
          ·intro w'
           go_simp
           with_reducible rfl
          rotate_left
          ·simp only [Act.put, List.setIfInBounds_toArray, List.set_cons_zero, List.set_cons_succ, i64_w, i32_w]
           rfl
          refine pure_ (i := 5) (N := some 29) (v := undef) (a' := ?_) #[true, true, true, true, true, true, false, false, false, false, false, false, false, false, false, false, false, false] rfl rfl (any_of HT_.out (by kernel_rfl)) (fun _ _ _ h => h) (Or.inr ⟨by rfl, rfl⟩) ?_ ?_
          rotate_left
          ·simp only [Act.put, List.setIfInBounds_toArray, List.set_cons_zero, List.set_cons_succ, i64_w, i32_w]
           rfl
          refine pure_ (i := 6) (N := some 30) (v := undef) (a' := ?_) #[true, true, true, true, true, true, true, false, false, false, false, false, false, false, false, false, false, false] rfl rfl (any_of HT_.out (by kernel_rfl)) (fun _ _ _ h => h) (Or.inr ⟨by rfl, rfl⟩) ?_ ?_
          rotate_left
          ·simp only [Act.put, List.setIfInBounds_toArray, List.set_cons_zero, List.set_cons_succ, i64_w, i32_w]
           rfl
          refine pure_ (i := 7) (N := some 31) (v := undef) (a' := ?_) #[true, true, true, true, true, true, true, true, false, false, false, false, false, false, false, false, false, false] rfl rfl (any_of HT_.out (by kernel_rfl)) (fun _ _ _ h => h) (Or.inr ⟨by rfl, rfl⟩) ?_ ?_
          rotate_left
          ·simp only [Act.put, List.setIfInBounds_toArray, List.set_cons_zero, List.set_cons_succ, i64_w, i32_w]
           rfl
          refine pure_ (i := 8) (N := some 32) (v := undef) (a' := ?_) #[true, true, true, true, true, true, true, true, true, false, false, false, false, false, false, false, false, false] rfl rfl (any_of HT_.out (by kernel_rfl)) (fun _ _ _ h => h) (Or.inr ⟨by rfl, rfl⟩) ?_ ?_
          rotate_left
          ·simp only [Act.put, List.setIfInBounds_toArray, List.set_cons_zero, List.set_cons_succ, i64_w, i32_w]
           rfl
          refine pure_ (i := 9) (N := some 33) (v := undef) (a' := ?_) #[true, true, true, true, true, true, true, true, true, true, false, false, false, false, false, false, false, false] rfl rfl (any_of HT_.out (by kernel_rfl)) (fun _ _ _ h => h) (Or.inr ⟨by rfl, rfl⟩) ?_ ?_
          rotate_left
          ·simp only [Act.put, List.setIfInBounds_toArray, List.set_cons_zero, List.set_cons_succ, i64_w, i32_w]
           rfl
          refine pure_ (i := 10) (N := some 34) (v := undef) (a' := ?_) #[true, true, true, true, true, true, true, true, true, true, true, false, false, false, false, false, false, false] rfl rfl (any_of HT_.out (by kernel_rfl)) (fun _ _ _ h => h) (Or.inr ⟨by rfl, rfl⟩) ?_ ?_
          rotate_left
          ·simp only [Act.put, List.setIfInBounds_toArray, List.set_cons_zero, List.set_cons_succ, i64_w, i32_w]
           rfl
          refine pure_ (i := 11) (N := some 35) (v := undef) (a' := ?_) #[true, true, true, true, true, true, true, true, true, true, true, true, false, false, false, false, false, false] rfl rfl (any_of HT_.out (by kernel_rfl)) (fun _ _ _ h => h) (Or.inr ⟨by rfl, rfl⟩) ?_ ?_
          rotate_left
          ·simp only [Act.put, List.setIfInBounds_toArray, List.set_cons_zero, List.set_cons_succ, i64_w, i32_w]
           rfl
          refine pure_ (i := 12) (N := some 36) (v := undef) (a' := ?_) #[true, true, true, true, true, true, true, true, true, true, true, true, true, false, false, false, false, false] rfl rfl (any_of HT_.out (by kernel_rfl)) (fun _ _ _ h => h) (Or.inr ⟨by rfl, rfl⟩) ?_ ?_
          rotate_left
          ·simp only [Act.put, List.setIfInBounds_toArray, List.set_cons_zero, List.set_cons_succ, i64_w, i32_w]
           rfl
          refine pure_ (i := 13) (N := some 37) (v := undef) (a' := ?_) #[true, true, true, true, true, true, true, true, true, true, true, true, true, true, false, false, false, false] rfl rfl (any_of HT_.out (by kernel_rfl)) (fun _ _ _ h => h) (Or.inr ⟨by rfl, rfl⟩) ?_ ?_
          rotate_left
          ·simp only [Act.put, List.setIfInBounds_toArray, List.set_cons_zero, List.set_cons_succ, i64_w, i32_w]
           rfl
          refine pure_ (i := 14) (N := some 38) (v := undef) (a' := ?_) #[true, true, true, true, true, true, true, true, true, true, true, true, true, true, true, false, false, false] rfl rfl (any_of HT_.out (by kernel_rfl)) (fun _ _ _ h => h) (Or.inr ⟨by rfl, rfl⟩) ?_ ?_
          rotate_left
          ·simp only [Act.put, List.setIfInBounds_toArray, List.set_cons_zero, List.set_cons_succ, i64_w, i32_w]
           rfl
          refine pure_ (i := 15) (N := some 39) (v := undef) (a' := ?_) #[true, true, true, true, true, true, true, true, true, true, true, true, true, true, true, true, false, false] rfl rfl (any_of HT_.out (by kernel_rfl)) (fun _ _ _ h => h) (Or.inr ⟨by rfl, rfl⟩) ?_ ?_
          rotate_left
          ·simp only [Act.put, List.setIfInBounds_toArray, List.set_cons_zero, List.set_cons_succ, i64_w, i32_w]
           rfl
          refine pure_ (i := 16) (N := some 40) (v := undef) (a' := ?_) #[true, true, true, true, true, true, true, true, true, true, true, true, true, true, true, true, true, false] rfl rfl (any_of HT_.out (by kernel_rfl)) (fun _ _ _ h => h) (Or.inr ⟨by rfl, rfl⟩) ?_ ?_
          rotate_left
          ·simp only [Act.put, List.setIfInBounds_toArray, List.set_cons_zero, List.set_cons_succ, i64_w, i32_w]
           rfl
          refine pure_ (i := 17) (N := some 41) (v := ?_) (a' := ?_) #[true, true, true, true, true, true, true, true, true, true, true, true, true, true, true, true, true, true] rfl rfl (any_of HT_.out (by kernel_rfl)) (fun _ _ _ h => h) (Or.inl ⟨by rfl, ?_⟩) ?_ ?_
          rotate_left
          ·intro w'
           go_simp
           with_reducible rfl
          rotate_left
          ·simp only [Act.put, List.setIfInBounds_toArray, List.set_cons_zero, List.set_cons_succ, i64_w, i32_w]
           rfl
          refine done_ (done_of HT_.out (by kernel_rfl)) ?_
          go_wp2
          go_roundg k2
          case measure => have := HK1.out; have := HK2.out; omega
          case rel => exact ⟨x5_2, (wrap64 (x19_2 + 1)), (by first | rfl | (simp; done) | (simp [*]; done)), HP, H', ⟨by have := HK1.out; have := HK2.out; omega⟩, ⟨blk_u <| BK109.out⟩, ⟨by repeat (first | (with_reducible first | exact HB.out | apply below_alloc | apply pw_below_drewN | apply below_drew1 | refine below_set ?_ GE109.out | refine below_set ?_ GE111.out) | exact HB.out)⟩⟩
        ·rw [if_neg c10] at H
         exact absurd H (by simp)
       ·rw [if_neg c9] at H
        have c9b0 : decide (x19_2 < (((rd_T30 l1 x12_1).f5).length : Int)) = false := decide_eq_false c9; clear c9; have H' := Aside0.mk H; clear H
        go_wp2
        go_roundg k2
        case measure => have := HK1.out; have := HK2.out; omega
        case rel => exact ⟨x5_2, (wrap64 (x12_1 + 1)), (by first | rfl | (simp; done) | (simp [*]; done)), HP, H', ⟨by have := HK1.out; have := HK2.out; omega⟩, ⟨by repeat (first | (with_reducible first | exact HB.out | apply below_alloc | apply pw_below_drewN | apply below_drew1 | refine below_set ?_ GE109.out) | exact HB.out)⟩⟩
    ·rw [if_neg c5] at H
     exact absurd H (by simp)
   ·rw [if_neg c4] at H
    have c4b0 : decide (x12_1 < (l1.length : Int)) = false := decide_eq_false c4; clear c4; obtain rfl := Option.some.inj H
    go_wp2
    go_ret
    exact ⟨_, rfl, HP.out, below_u HB.out⟩

/-! ### choose_Pick: function 12 (given) -/
theorem PtrAt.below {w w' : World} {v : Value} {o : Option S45} (h : PtrAt w v o) (hb : Below w.heap.size w w') : PtrAt w' v o := by
 cases o with
 | none => exact h
 | some x =>
  obtain ⟨ad, A5, c5, A6, c6, A7, c7, e, x0, x1, x2, x3, x4, x5, x6, x7, l5, g5, l6, g6⟩ := h
  have t : ∀ {p : Addr} {u : Value}, w.cell? p = some u → w'.cell? p = some u := fun {p u} hx => (hb.cell (World.block_lt_of_cell? w _ hx)).trans hx
  exact ⟨ad, A5, c5, A6, c6, A7, c7, e, t x0, t x1, t x2, t x3, t x4, t x5, t x6, t x7, l5, Kd.C_below g5 hb, l6, Kd.C_below g6 hb⟩
def choose_Pick.T5 : Bool × List (List Nat × List Nat) := (true, [([], []), ([0], [0]), ([1], [1]), ([], []), ([3], [3]), ([4, 2], [4]), ([0, 1, 2, 3, 4], []), ([6, 2, 5, 0, 1, 2, 3, 4], [2, 6]), ([0, 1, 2, 3, 4, 5, 6, 7], []), ([8, 5, 7, 0, 1, 2, 3, 4, 5, 6, 7], [5, 8])])
def choose_Pick.B5 : List Nat := [0, 1, 3, 0, 8, 31, 31, 127, 255, 511]
theorem choose_Pick.tab5 : rtab .any (opsOf Try.f12 5) = choose_Pick.T5 := by kernel_rfl
theorem choose_Pick.bits5 : waitsOk choose_Pick.T5.2 choose_Pick.B5 = true := by kernel_rfl
def choose_Pick.g (o : Option S45) : Option (Int × Int × List Int × List Int) := match o with
 | none => some (0, 0, [], [])
 | some q => (slices_Clone_byte_byte.f q.f2.f2).bind fun y => (slices_Clone_byte_byte.f q.f2.f3).bind fun z => some (q.f2.f0, q.f2.f1, y, z)
def choose_Pick.f (k : Nat) (a0 : Int) (l1 : List (S30)) : Option (Int × Int × List Int × List Int) := (choose_best.f k a0 l1).bind fun o => choose_Pick.g o
theorem choose_Pick.mono : ∀ a0 a1 k, LeO (choose_Pick.f k a0 a1) (choose_Pick.f (k + 1) a0 a1) := fun _ _ _ => LeO.bind (choose_best.mono _ _ _) (fun _ => LeO.refl _)
set_option maxHeartbeats 8000000 in
set_option maxRecDepth 100000 in
theorem choose_Pick.calls (k : Nat) (a0 : Int) (A1 : Option Addr) (c1 : Nat) (l1 : List (S30)) (r1 : Int) (r2 : Int) (r3 : List Int) (r4 : List Int) (w : World) (hr1 : Kd.C k30 w A1 l1.length l1) (hc1 : l1.length ≤ c1) (h : choose_Pick.f k a0 l1 = some (r1, r2, r3, r4)) :
  Calls Try.prog 12 #[.int .i64 a0, .slice A1 l1.length c1] w fun e w' => ∃ v2_ v3_ : Value, e = .returned (.agg #[.int .i64 r1, .int .i64 r2, v2_, v3_]) ∧ Kd.R (Kd.int .u8) 5 w' w.heap.size (fun k_ => some k_ ≠ (v3_ : Value).ownBlock) v2_ r3 ∧ Kd.R (Kd.int .u8) 5 w' w.heap.size (fun k_ => some k_ ≠ (v2_ : Value).ownBlock) v3_ r4 ∧ Below w.heap.size w w' := by
 have hu36 := Try.underlying36; have hu45 := Try.underlying45; have HR1 := Aside0.mk hr1; have HC1 := Aside0.mk hc1; clear hr1 hc1; have HB := Aside0.mk (Below.refl w.heap.size w); obtain ⟨o, A20, H⟩ := Option.bind_eq_some_iff.mp (show (choose_best.f k a0 l1).bind (fun o => choose_Pick.g o) = some (r1, r2, r3, r4) from h); have A2 := Aside0.mk A20; have HG := Aside0.mk (show choose_Pick.g o = some (r1, r2, r3, r4) from H); clear A20 H h
 go_enter Try.func12, Try.ntmps12
 go_upto_region 2 with (first | ((with_reducible refine gate_dst (N := 4) rfl ?_); refine box_event ?hg (N := 4) ?hd (cs := #[.int .i64 0, .int .i64 0, .slice none 0 0, .slice none 0 0]) (t := 36) ?hr ?_; (case hd => rfl); (case hg => rfl); (case hr => first | (go_simp; done) | (go_simp; rfl)); intro gR hg w1 hbox hb; have n0_ := Aside0.mk (below_step (below_u HB.out) hb); have n1_ := Aside0.mk (hbox); have n2_ := Aside0.mk ((by rw [hg]; exact (below_size (below_u HB.out)) : w.heap.size ≤ gR)); clear HB; have HB := n0_; have BKR := n1_; have GR := n2_; clear n0_ n1_ n2_; clear hb hbox hg) | (go_at_call 21; (with_reducible refine (choose_best.calls k a0 _ _ l1 o _ ?side1 ?side2 A2.out).mono ?_); (case side1 => exact Kd.Cu (Kd.C_below HR1.out HB.out)); (case side2 => exact HC1.out); rintro e w3 ⟨v0, rfl, hp, hb⟩; have n0_ := Aside0.mk (PtrAt.below hp hb); have n1_ := Aside0.mk (blk_below (blk_u <| BKR.out) hb); have n2_ := Aside0.mk (below_step (by repeat (first | (with_reducible first | exact HB.out | apply below_alloc | apply pw_below_drewN | apply below_drew1 | refine below_set ?_ GR.out) | exact HB.out)) hb); clear BKR HB hp; have HP := n0_; have BKR := n1_; have HB := n2_; clear n0_ n1_ n2_ hb; have hczR_0 : w3.cell? ⟨gR, 0, none⟩ = some (.int .i64 0) := (blk_cell BKR.out 0).trans rfl; have hczR_1 : w3.cell? ⟨gR, 1, none⟩ = some (.int .i64 0) := (blk_cell BKR.out 1).trans rfl; have hczR_2 : w3.cell? ⟨gR, 2, none⟩ = some (.slice none 0 0) := (blk_cell BKR.out 2).trans rfl; have hczR_3 : w3.cell? ⟨gR, 3, none⟩ = some (.slice none 0 0) := (blk_cell BKR.out 3).trans rfl; have hfzR_0 := blk_frozen BKR.out 0; have hfzR_1 := blk_frozen BKR.out 1; have hfzR_2 := blk_frozen BKR.out 2; have hfzR_3 := blk_frozen BKR.out 3))
 cases o with
 | none =>
  have hv := HP.out; simp only [PtrAt] at hv; subst hv; have H := HG.out; simp only [choose_Pick.g, Option.some.injEq, Prod.mk.injEq] at H; obtain ⟨rfl, rfl, rfl, rfl⟩ := H; clear HP HG A2
  go_wp2
  refine bodyPost_ret (results_cell_row rfl _ _ gR 36 #[.int .i64 0, .int .i64 0, .slice none 0 0, .slice none 0 0] (0, 0) _ rfl (by (with_reducible repeat (first | refine blk_drewN ?_ _ | refine blk_drew ?_ | refine blk_alloc ?_ _)); refine blk_put (cs := #[.int .i64 0, .int .i64 0, .slice none 0 0, .slice none 0 0]) ?_ 3 _ rfl; (with_reducible repeat (first | refine blk_drewN ?_ _ | refine blk_drew ?_ | refine blk_alloc ?_ _)); refine blk_put (cs := #[.int .i64 0, .int .i64 0, .slice none 0 0, .slice none 0 0]) ?_ 2 _ rfl; (with_reducible repeat (first | refine blk_drewN ?_ _ | refine blk_drew ?_ | refine blk_alloc ?_ _)); refine blk_put (cs := #[.int .i64 0, .int .i64 0, .slice none 0 0, .slice none 0 0]) ?_ 1 _ rfl; (with_reducible repeat (first | refine blk_drewN ?_ _ | refine blk_drew ?_ | refine blk_alloc ?_ _)); refine blk_put (cs := #[.int .i64 0, .int .i64 0, .slice none 0 0, .slice none 0 0]) ?_ 0 _ rfl; (with_reducible repeat (first | refine blk_drewN ?_ _ | refine blk_drew ?_ | refine blk_alloc ?_ _)); exact BKR.out) Try.underlying36 rfl (by kernel_rfl)) rfl ?_; exact ⟨_, _, rfl, Kd.R_nil _ _ _ _ _, Kd.R_nil _ _ _ _ _, by repeat (first | (with_reducible first | exact HB.out | apply below_alloc | apply pw_below_drewN | apply below_drew1 | refine below_set ?_ GR.out) | exact HB.out)⟩
 | some q =>
  obtain ⟨adq, A5, c5, A6, c6, A7, c7, rfl, hq0, hq1, hq2, hq3, hq4, hq5, hq6, hq7, hl5, hi5, hl6, hi6⟩ := HP.out; clear HP hq0 hq1 hq2 hq7; have HL5 := Aside0.mk hl5; have HL6 := Aside0.mk hl6; have HI5 := Aside0.mk hi5; have HI6 := Aside0.mk hi6; clear hl5 hi5 hl6 hi6; obtain ⟨y, hy, H⟩ := Option.bind_eq_some_iff.mp (show (slices_Clone_byte_byte.f q.f2.f2).bind (fun y => (slices_Clone_byte_byte.f q.f2.f3).bind fun z => some (q.f2.f0, q.f2.f1, y, z)) = some (r1, r2, r3, r4) from HG.out); obtain ⟨z, hz, H⟩ := Option.bind_eq_some_iff.mp H; have HY := Aside0.mk hy; have HZ := Aside0.mk hz; simp only [Option.some.injEq, Prod.mk.injEq] at H; obtain ⟨rfl, rfl, rfl, rfl⟩ := H; clear hy hz HG A2
  try clear hv
  have HB3 := Aside0.mk (Below.refl w3.heap.size w3)
  go_upto_region 5 with (first | ((with_reducible refine gate_dst (N := 6) rfl ?_); refine box_event ?hg (N := 6) ?hd (cs := #[.int .i64 0, .int .i64 0, .slice none 0 0, .slice none 0 0]) (t := 36) ?hr ?_; (case hd => rfl); (case hg => rfl); (case hr => first | (go_simp; done) | (go_simp; rfl)); intro g6 hg w4 hbox hb; have n0_ := Aside0.mk (blk_below (blk_u <| BKR.out) hb); have n1_ := Aside0.mk (below_step (by repeat (first | (with_reducible first | exact HB.out | apply below_alloc | apply pw_below_drewN | apply below_drew1 | refine below_set ?_ GR.out) | exact HB.out)) hb); have n2_ := Aside0.mk (hbox); have n3_ := Aside0.mk ((by rw [hg]; exact (below_size (by repeat (first | (with_reducible first | exact HB.out | apply below_alloc | apply pw_below_drewN | apply below_drew1 | refine below_set ?_ GR.out) | exact HB.out))) : w.heap.size ≤ g6)); have n4_ := Aside0.mk ((by rw [hg]; exact Nat.ne_of_lt (blk_lt (blk_u <| BKR.out)) : gR ≠ g6)); have n5_ := Aside0.mk (below_step (by repeat (first | (with_reducible first | exact HB3.out | apply below_alloc | apply pw_below_drewN | apply below_drew1) | exact HB3.out)) hb); have n6_ := Aside0.mk ((by rw [hg]; exact (below_size (by repeat (first | (with_reducible first | exact HB3.out | apply below_alloc | apply pw_below_drewN | apply below_drew1) | exact HB3.out))) : w3.heap.size ≤ g6)); clear BKR HB HB3; have BKR := n0_; have HB := n1_; have BK6 := n2_; have G6 := n3_; have NR6 := n4_; have HB3 := n5_; have G63 := n6_; clear n0_ n1_ n2_ n3_ n4_ n5_ n6_; clear hb hbox hg; have hnb6 := NR6.out.symm; have hnc6 := NR6.out; have hcz6_0 : w4.cell? ⟨g6, 0, none⟩ = some (.int .i64 0) := (blk_cell BK6.out 0).trans rfl; have hcz6_1 : w4.cell? ⟨g6, 1, none⟩ = some (.int .i64 0) := (blk_cell BK6.out 1).trans rfl; have hcz6_2 : w4.cell? ⟨g6, 2, none⟩ = some (.slice none 0 0) := (blk_cell BK6.out 2).trans rfl; have hcz6_3 : w4.cell? ⟨g6, 3, none⟩ = some (.slice none 0 0) := (blk_cell BK6.out 3).trans rfl; have hfz6_0 := blk_frozen BK6.out 0; have hfz6_1 := blk_frozen BK6.out 1; have hfz6_2 := blk_frozen BK6.out 2; have hfz6_3 := blk_frozen BK6.out 3))
  (try simp only [Act.put, List.setIfInBounds_toArray, List.set_cons_zero, List.set_cons_succ])
  have n0_ : Aside0 ((((((w4.setCell ⟨g6, 0, none⟩ (.int .i64 q.f2.f0)).setCell ⟨g6, 1, none⟩ (.int .i64 q.f2.f1)).setCell ⟨g6, 2, none⟩ (.slice A5 q.f2.f2.length c5)).setCell ⟨g6, 3, none⟩ (.slice A6 q.f2.f3.length c6))).heap[gR]? = some (.cells #[.int .i64 0, .int .i64 0, .slice none 0 0, .slice none 0 0] 36 (0, 0))) := ⟨by (with_reducible repeat (first | refine blk_drewN ?_ _ | refine blk_drew ?_ | refine blk_alloc ?_ _)); refine blk_far ?_ NR6.out _; (with_reducible repeat (first | refine blk_drewN ?_ _ | refine blk_drew ?_ | refine blk_alloc ?_ _)); refine blk_far ?_ NR6.out _; (with_reducible repeat (first | refine blk_drewN ?_ _ | refine blk_drew ?_ | refine blk_alloc ?_ _)); refine blk_far ?_ NR6.out _; (with_reducible repeat (first | refine blk_drewN ?_ _ | refine blk_drew ?_ | refine blk_alloc ?_ _)); refine blk_far ?_ NR6.out _; exact BKR.out⟩; have n1_ : Aside0 ((((((w4.setCell ⟨g6, 0, none⟩ (.int .i64 q.f2.f0)).setCell ⟨g6, 1, none⟩ (.int .i64 q.f2.f1)).setCell ⟨g6, 2, none⟩ (.slice A5 q.f2.f2.length c5)).setCell ⟨g6, 3, none⟩ (.slice A6 q.f2.f3.length c6))).heap[g6]? = some (.cells #[.int .i64 q.f2.f0, .int .i64 q.f2.f1, .slice A5 q.f2.f2.length c5, .slice A6 q.f2.f3.length c6] 36 (0, 0))) := ⟨by (with_reducible repeat (first | refine blk_drewN ?_ _ | refine blk_drew ?_ | refine blk_alloc ?_ _)); refine blk_put (cs := #[.int .i64 q.f2.f0, .int .i64 q.f2.f1, .slice A5 q.f2.f2.length c5, .slice none 0 0]) ?_ 3 _ rfl; (with_reducible repeat (first | refine blk_drewN ?_ _ | refine blk_drew ?_ | refine blk_alloc ?_ _)); refine blk_put (cs := #[.int .i64 q.f2.f0, .int .i64 q.f2.f1, .slice none 0 0, .slice none 0 0]) ?_ 2 _ rfl; (with_reducible repeat (first | refine blk_drewN ?_ _ | refine blk_drew ?_ | refine blk_alloc ?_ _)); refine blk_put (cs := #[.int .i64 q.f2.f0, .int .i64 0, .slice none 0 0, .slice none 0 0]) ?_ 1 _ rfl; (with_reducible repeat (first | refine blk_drewN ?_ _ | refine blk_drew ?_ | refine blk_alloc ?_ _)); refine blk_put (cs := #[.int .i64 0, .int .i64 0, .slice none 0 0, .slice none 0 0]) ?_ 0 _ rfl; exact BK6.out⟩; have n2_ : Aside0 (Below w.heap.size w (((((w4.setCell ⟨g6, 0, none⟩ (.int .i64 q.f2.f0)).setCell ⟨g6, 1, none⟩ (.int .i64 q.f2.f1)).setCell ⟨g6, 2, none⟩ (.slice A5 q.f2.f2.length c5)).setCell ⟨g6, 3, none⟩ (.slice A6 q.f2.f3.length c6)))) := ⟨by repeat (first | (with_reducible first | exact HB.out | apply below_alloc | apply pw_below_drewN | apply below_drew1 | refine below_set ?_ GR.out | refine below_set ?_ G6.out) | exact HB.out)⟩; have n3_ : Aside0 (Below w3.heap.size w3 (((((w4.setCell ⟨g6, 0, none⟩ (.int .i64 q.f2.f0)).setCell ⟨g6, 1, none⟩ (.int .i64 q.f2.f1)).setCell ⟨g6, 2, none⟩ (.slice A5 q.f2.f2.length c5)).setCell ⟨g6, 3, none⟩ (.slice A6 q.f2.f3.length c6)))) := ⟨by repeat (first | (with_reducible first | exact HB3.out | apply below_alloc | apply pw_below_drewN | apply below_drew1 | refine below_set ?_ G63.out) | exact HB3.out)⟩; clear BKR BK6 HB HB3
  try clear hczR_0
  try clear hczR_1
  try clear hczR_2
  try clear hczR_3
  try clear hcz6_0
  try clear hcz6_1
  try clear hcz6_2
  try clear hcz6_3
  try clear hfzR_0
  try clear hfzR_1
  try clear hfzR_2
  try clear hfzR_3
  try clear hfz6_0
  try clear hfz6_1
  try clear hfz6_2
  try clear hfz6_3
  try clear hq0
  try clear hq1
  try clear hq2
  try clear hq3
  try clear hq4
  try clear hq5
  try clear hq6
  try clear hq7
  generalize ((((w4.setCell ⟨g6, 0, none⟩ (.int .i64 q.f2.f0)).setCell ⟨g6, 1, none⟩ (.int .i64 q.f2.f1)).setCell ⟨g6, 2, none⟩ (.slice A5 q.f2.f2.length c5)).setCell ⟨g6, 3, none⟩ (.slice A6 q.f2.f3.length c6)) = w28 at n0_ n1_ n2_ n3_ ⊢; have BKR := Aside0.mk (blk_drew n0_.out); have BK6 := Aside0.mk (blk_drew n1_.out); have HB := Aside0.mk (below_drew1 n2_.out); have HB3 := Aside0.mk (below_drew1 n3_.out); clear n0_ n1_ n2_ n3_
  refine start_ (n := 10) (S := fun w' => w'.cell? ⟨g6, 2, none⟩ = some (.slice A5 q.f2.f2.length c5) ∧ w'.cell? ⟨g6, 3, none⟩ = some (.slice A6 q.f2.f3.length c6)) (ds := [7, 9]) #[false, false, false, false, false, false, false, false, false, false] (by kernel_rfl) rfl rfl ⟨(blk_cell BK6.out 2).trans rfl, (blk_cell BK6.out 3).trans rfl⟩ (fun hHeld => ?_); refine with_tabW choose_Pick.tab5 choose_Pick.bits5 (fun HT_ HW_ => ?_)
  generalize w28.drew = w29 at BKR BK6 HB HB3 hHeld ⊢
  refine pure_ (i := 0) (N := some 17) (v := ?_) (a' := ?_) #[true, false, false, false, false, false, false, false, false, false] rfl rfl (any_of HT_.out (by kernel_rfl)) (fun _ _ _ h => h) (Or.inl ⟨by rfl, ?_⟩) ?_ ?_
  rotate_left
  ·intro w'
   go_simp
   with_reducible rfl
  rotate_left
  ·simp only [Act.put, List.setIfInBounds_toArray, List.set_cons_zero, List.set_cons_succ, i64_w, i32_w]
   rfl
  refine pure_ (i := 3) (N := some 20) (v := ?_) (a' := ?_) #[true, false, false, true, false, false, false, false, false, false] rfl rfl (any_of HT_.out (by kernel_rfl)) (fun _ _ _ h => h) (Or.inl ⟨by rfl, ?_⟩) ?_ ?_
  rotate_left
  ·intro w'
   go_simp
   with_reducible rfl
  rotate_left
  ·simp only [Act.put, List.setIfInBounds_toArray, List.set_cons_zero, List.set_cons_succ, i64_w, i32_w]
   rfl
  refine take_ (i := 1) (N := some 18) (v := ?_) (a' := ?_) #[true, true, false, true, false, false, false, false, false, false] rfl rfl (take_ofW HT_.out HW_.out (by kernel_rfl)) (fun _ _ _ h => h) (Or.inl ⟨by rfl, ?_⟩) hHeld ?_ ?_
  rotate_left
  ·rintro w' ⟨s0, s1⟩
   go_simp
   with_reducible rfl
  rotate_left
  ·simp only [Act.put, List.setIfInBounds_toArray, List.set_cons_zero, List.set_cons_succ, i64_w, i32_w]
   rfl
  refine take_ (i := 4) (N := some 21) (v := ?_) (a' := ?_) #[true, true, false, true, true, false, false, false, false, false] rfl rfl (take_ofW HT_.out HW_.out (by kernel_rfl)) (fun _ _ _ h => h) (Or.inl ⟨by rfl, ?_⟩) hHeld ?_ ?_
  rotate_left
  ·rintro w' ⟨s0, s1⟩
   go_simp
   with_reducible rfl
  rotate_left
  ·simp only [Act.put, List.setIfInBounds_toArray, List.set_cons_zero, List.set_cons_succ, i64_w, i32_w]
   rfl
  refine one_ (i := 2) (N := some 19) #[true, true, true, true, true, false, false, false, false, false] rfl rfl (one_of HT_.out (by kernel_rfl)) (by decide) (fun K hK => ?_); refine goes_ Try.func22 (by kernel_rfl) rfl #[.slice A5 q.f2.f2.length c5] (by rfl) rfl rfl (by (try simp only [List.map_toArray, List.map_cons, List.map_nil]); first | done | rfl | (simp only [List.length_drop, List.length_take]; rfl)) ?_
  with_reducible refine (slices_Clone_byte_byte.calls _ _ q.f2.f2 y _ ?side1 ?side2 HY.out).mono ?_
  case side1 => exact Kd.C_below HI5.out HB3.out
  case side2 => exact HL5.out
  rintro e w35 ⟨v1, rfl, ho0, hb⟩; refine ⟨_, rfl, ?_⟩; have n0_ := Aside0.mk (blk_below (blk_u <| BKR.out) hb); have n1_ := Aside0.mk (blk_below (blk_u <| BK6.out) hb); have n2_ := Aside0.mk (below_step (by repeat (first | (with_reducible first | exact HB.out | apply below_alloc | apply pw_below_drewN | apply below_drew1 | refine below_set ?_ GR.out | refine below_set ?_ G6.out) | exact HB.out)) hb); have n3_ := Aside0.mk (below_step (by repeat (first | (with_reducible first | exact HB3.out | apply below_alloc | apply pw_below_drewN | apply below_drew1 | refine below_set ?_ G63.out) | exact HB3.out)) hb); have n4_ := Aside0.mk (Kd.R_lower ho0 (below_size (by repeat (first | (with_reducible first | exact HB.out | apply below_alloc | apply pw_below_drewN | apply below_drew1 | refine below_set ?_ GR.out | refine below_set ?_ G6.out) | exact HB.out)))); clear BKR BK6 HB HB3; have BKR := n0_; have BK6 := n1_; have HB := n2_; have HB3 := n3_; have HO1 := n4_; clear n0_ n1_ n2_ n3_ n4_ ho0 hb; refine hK.out _ _ ⟨(blk_cell BK6.out 2).trans rfl, (blk_cell BK6.out 3).trans rfl⟩ (fun hHeld => ?_); clear hK K
  refine norm_ (a' := ?_) ?_ ?_
  rotate_left
  ·show Act.put _ (some 19) _ = _
   simp only [Act.put, List.setIfInBounds_toArray, List.set_cons_zero, List.set_cons_succ, i64_w, i32_w]
   rfl
  refine pure_ (i := 6) (N := some 23) (v := ?_) (a' := ?_) #[true, true, true, true, true, false, true, false, false, false] rfl rfl (any_of HT_.out (by kernel_rfl)) (fun _ _ _ h => h) (Or.inl ⟨by rfl, ?_⟩) ?_ ?_
  rotate_left
  ·intro w'
   go_simp
   with_reducible rfl
  rotate_left
  ·simp only [Act.put, List.setIfInBounds_toArray, List.set_cons_zero, List.set_cons_succ, i64_w, i32_w]
   rfl
  refine one_ (i := 5) (N := some 22) #[true, true, true, true, true, true, true, false, false, false] rfl rfl (one_of HT_.out (by kernel_rfl)) (by decide) (fun K hK => ?_); refine goes_ Try.func22 (by kernel_rfl) rfl #[.slice A6 q.f2.f3.length c6] (by rfl) rfl rfl (by (try simp only [List.map_toArray, List.map_cons, List.map_nil]); first | done | rfl | (simp only [List.length_drop, List.length_take]; rfl)) ?_
  with_reducible refine (slices_Clone_byte_byte.calls _ _ q.f2.f3 z _ ?side1 ?side2 HZ.out).mono ?_
  case side1 => exact Kd.C_below HI6.out HB3.out
  case side2 => exact HL6.out
  rintro e w36 ⟨v2, rfl, ho0, hb⟩; refine ⟨_, rfl, ?_⟩; have n0_ := Aside0.mk (blk_below (blk_u <| BKR.out) hb); have n1_ := Aside0.mk (blk_below (blk_u <| BK6.out) hb); have n2_ := Aside0.mk (below_step (by repeat (first | (with_reducible first | exact HB.out | apply below_alloc | apply pw_below_drewN | apply below_drew1 | refine below_set ?_ GR.out | refine below_set ?_ G6.out) | exact HB.out)) hb); have n3_ := Aside0.mk (below_step (by repeat (first | (with_reducible first | exact HB3.out | apply below_alloc | apply pw_below_drewN | apply below_drew1 | refine below_set ?_ G63.out) | exact HB3.out)) hb); have n4_ := Aside0.mk (Kd.R_elder' HO1.out (Kd.R_base ho0) hb); have n5_ := Aside0.mk (Kd.R_lower (Kd.R_new' ho0 (Kd.R_lt HO1.out)) (below_size (by repeat (first | (with_reducible first | exact HB.out | apply below_alloc | apply pw_below_drewN | apply below_drew1 | refine below_set ?_ GR.out | refine below_set ?_ G6.out) | exact HB.out)))); clear HO1; have HO2 := n5_; clear n5_; clear BKR BK6 HB HB3; have BKR := n0_; have BK6 := n1_; have HB := n2_; have HB3 := n3_; have HO1 := n4_; clear n0_ n1_ n2_ n3_ n4_ ho0 hb; refine hK.out _ _ ⟨(blk_cell BK6.out 2).trans rfl, (blk_cell BK6.out 3).trans rfl⟩ (fun hHeld => ?_); clear hK K
  refine norm_ (a' := ?_) ?_ ?_
  rotate_left
  ·show Act.put _ (some 22) _ = _
   simp only [Act.put, List.setIfInBounds_toArray, List.set_cons_zero, List.set_cons_succ, i64_w, i32_w]
   rfl
  obtain ⟨Ao1, co1, eo1⟩ := Kd.R_slice HO1.out; subst eo1; obtain ⟨Ao2, co2, eo2⟩ := Kd.R_slice HO2.out; subst eo2; refine last_ (i := 7) (N := none) #[true, true, true, true, true, true, true, true, false, false] rfl rfl (one_of HT_.out (by kernel_rfl)) (by decide) (fun K hK => ?_); have hs2 : w36.cell? ⟨g6, 2, none⟩ = some (.slice A5 q.f2.f2.length c5) := (blk_cell BK6.out 2).trans rfl; have hs2f := blk_frozen BK6.out 2
  refine skip_ (w1 := ?_) (by rfl) rfl ?_ ?_
  rotate_left
  ·go_simp
   rfl
  refine hK.out _ _ ?_; clear hK K
  refine pure_ (i := 8) (N := some 24) (v := ?_) (a' := ?_) #[true, true, true, true, true, true, true, true, true, false] rfl rfl (any_of HT_.out (by kernel_rfl)) (fun _ _ _ h => h) (Or.inl ⟨by rfl, ?_⟩) ?_ ?_
  rotate_left
  ·intro w'
   go_simp
   with_reducible rfl
  rotate_left
  ·simp only [Act.put, List.setIfInBounds_toArray, List.set_cons_zero, List.set_cons_succ, i64_w, i32_w]
   rfl
  refine last_ (i := 9) (N := none) #[true, true, true, true, true, true, true, true, true, true] rfl rfl (one_of HT_.out (by kernel_rfl)) (by decide) (fun K hK => ?_); have hs3 : w36.cell? ⟨g6, 3, none⟩ = some (.slice A6 q.f2.f3.length c6) := (blk_cell BK6.out 3).trans rfl; have hs3f := blk_frozen BK6.out 3
  refine skip_ (w1 := ?_) (by rfl) rfl ?_ ?_
  rotate_left
  ·go_simp
   rfl
  refine hK.out _ _ ?_; clear hK K; refine done_ (done_of HT_.out (by kernel_rfl)) ?_; have n0_ : Aside0 (((w36.setCell ⟨g6, 2, none⟩ (.slice Ao1 y.length co1)).setCell ⟨g6, 3, none⟩ (.slice Ao2 z.length co2)).heap[gR]? = some (.cells #[.int .i64 0, .int .i64 0, .slice none 0 0, .slice none 0 0] 36 (0, 0))) := ⟨by (with_reducible repeat (first | refine blk_drewN ?_ _ | refine blk_drew ?_ | refine blk_alloc ?_ _)); refine blk_far ?_ NR6.out _; (with_reducible repeat (first | refine blk_drewN ?_ _ | refine blk_drew ?_ | refine blk_alloc ?_ _)); refine blk_far ?_ NR6.out _; exact BKR.out⟩; have n1_ : Aside0 (((w36.setCell ⟨g6, 2, none⟩ (.slice Ao1 y.length co1)).setCell ⟨g6, 3, none⟩ (.slice Ao2 z.length co2)).heap[g6]? = some (.cells #[.int .i64 q.f2.f0, .int .i64 q.f2.f1, .slice Ao1 y.length co1, .slice Ao2 z.length co2] 36 (0, 0))) := ⟨by (with_reducible repeat (first | refine blk_drewN ?_ _ | refine blk_drew ?_ | refine blk_alloc ?_ _)); refine blk_put (cs := #[.int .i64 q.f2.f0, .int .i64 q.f2.f1, .slice Ao1 y.length co1, .slice A6 q.f2.f3.length c6]) ?_ 3 _ rfl; (with_reducible repeat (first | refine blk_drewN ?_ _ | refine blk_drew ?_ | refine blk_alloc ?_ _)); refine blk_put (cs := #[.int .i64 q.f2.f0, .int .i64 q.f2.f1, .slice A5 q.f2.f2.length c5, .slice A6 q.f2.f3.length c6]) ?_ 2 _ rfl; exact BK6.out⟩; have n2_ : Aside0 (Below w.heap.size w ((w36.setCell ⟨g6, 2, none⟩ (.slice Ao1 y.length co1)).setCell ⟨g6, 3, none⟩ (.slice Ao2 z.length co2))) := ⟨by repeat (first | (with_reducible first | exact HB.out | apply below_alloc | apply pw_below_drewN | apply below_drew1 | refine below_set ?_ GR.out | refine below_set ?_ G6.out) | exact HB.out)⟩; have n4_ : Aside0 (Kd.R (Kd.int .u8) 5 ((w36.setCell ⟨g6, 2, none⟩ (.slice Ao1 y.length co1)).setCell ⟨g6, 3, none⟩ (.slice Ao2 z.length co2)) w.heap.size (fun k_ => some k_ ≠ ((.slice Ao2 z.length co2) : Value).ownBlock ∧ k_ ≠ gR) (.slice Ao1 y.length co1) y) := ⟨Kd.R_mono (Kd.R_far (p := ⟨g6, 3, none⟩) (Kd.R_far (p := ⟨g6, 2, none⟩) (Kd.R_types (Kd.R_types HO1.out BKR.out (by decide)) BK6.out (by decide)) (fun _ hk => hk.2) (.slice Ao1 y.length co1)) (fun _ hk => hk.2) (.slice Ao2 z.length co2)) (fun _ hk => ⟨hk.1.1.2, hk.1.2⟩)⟩; have n5_ : Aside0 (Kd.R (Kd.int .u8) 5 ((w36.setCell ⟨g6, 2, none⟩ (.slice Ao1 y.length co1)).setCell ⟨g6, 3, none⟩ (.slice Ao2 z.length co2)) w.heap.size (fun k_ => some k_ ≠ ((.slice Ao1 y.length co1) : Value).ownBlock ∧ k_ ≠ gR) (.slice Ao2 z.length co2) z) := ⟨Kd.R_mono (Kd.R_far (p := ⟨g6, 3, none⟩) (Kd.R_far (p := ⟨g6, 2, none⟩) (Kd.R_types (Kd.R_types HO2.out BKR.out (by decide)) BK6.out (by decide)) (fun _ hk => hk.2) (.slice Ao1 y.length co1)) (fun _ hk => hk.2) (.slice Ao2 z.length co2)) (fun _ hk => ⟨hk.1.1.2, hk.1.2⟩)⟩; clear BKR BK6 HB HB3 HO1 HO2 hs2 hs3 hs2f hs3f hHeld; generalize ((w36.setCell ⟨g6, 2, none⟩ (.slice Ao1 y.length co1)).setCell ⟨g6, 3, none⟩ (.slice Ao2 z.length co2)) = w40 at n0_ n1_ n2_ n4_ n5_ ⊢; have BKR := n0_; have BK6 := n1_; have HB := n2_; have HO1 := n4_; have HO2 := n5_; clear n0_ n1_ n2_ n4_ n5_; have hczR_0 : w40.cell? ⟨gR, 0, none⟩ = some (.int .i64 0) := (blk_cell BKR.out 0).trans rfl; have hczR_1 : w40.cell? ⟨gR, 1, none⟩ = some (.int .i64 0) := (blk_cell BKR.out 1).trans rfl; have hczR_2 : w40.cell? ⟨gR, 2, none⟩ = some (.slice none 0 0) := (blk_cell BKR.out 2).trans rfl; have hczR_3 : w40.cell? ⟨gR, 3, none⟩ = some (.slice none 0 0) := (blk_cell BKR.out 3).trans rfl; have hfzR_0 := blk_frozen BKR.out 0; have hfzR_1 := blk_frozen BKR.out 1; have hfzR_2 := blk_frozen BKR.out 2; have hfzR_3 := blk_frozen BKR.out 3; have hcz6_0 : w40.cell? ⟨g6, 0, none⟩ = some (.int .i64 q.f2.f0) := (blk_cell BK6.out 0).trans rfl; have hcz6_1 : w40.cell? ⟨g6, 1, none⟩ = some (.int .i64 q.f2.f1) := (blk_cell BK6.out 1).trans rfl; have hcz6_2 : w40.cell? ⟨g6, 2, none⟩ = some (.slice Ao1 y.length co1) := (blk_cell BK6.out 2).trans rfl; have hcz6_3 : w40.cell? ⟨g6, 3, none⟩ = some (.slice Ao2 z.length co2) := (blk_cell BK6.out 3).trans rfl; have hfz6_0 := blk_frozen BK6.out 0; have hfz6_1 := blk_frozen BK6.out 1; have hfz6_2 := blk_frozen BK6.out 2; have hfz6_3 := blk_frozen BK6.out 3
  go_wp2
  refine bodyPost_ret (results_cell_row rfl _ _ gR 36 #[.int .i64 q.f2.f0, .int .i64 q.f2.f1, .slice Ao1 y.length co1, .slice Ao2 z.length co2] (0, 0) _ rfl (by (with_reducible repeat (first | refine blk_drewN ?_ _ | refine blk_drew ?_ | refine blk_alloc ?_ _)); refine blk_put (cs := #[.int .i64 q.f2.f0, .int .i64 q.f2.f1, .slice Ao1 y.length co1, .slice none 0 0]) ?_ 3 _ rfl; (with_reducible repeat (first | refine blk_drewN ?_ _ | refine blk_drew ?_ | refine blk_alloc ?_ _)); refine blk_put (cs := #[.int .i64 q.f2.f0, .int .i64 q.f2.f1, .slice none 0 0, .slice none 0 0]) ?_ 2 _ rfl; (with_reducible repeat (first | refine blk_drewN ?_ _ | refine blk_drew ?_ | refine blk_alloc ?_ _)); refine blk_put (cs := #[.int .i64 q.f2.f0, .int .i64 0, .slice none 0 0, .slice none 0 0]) ?_ 1 _ rfl; (with_reducible repeat (first | refine blk_drewN ?_ _ | refine blk_drew ?_ | refine blk_alloc ?_ _)); refine blk_put (cs := #[.int .i64 0, .int .i64 0, .slice none 0 0, .slice none 0 0]) ?_ 0 _ rfl; (with_reducible repeat (first | refine blk_drewN ?_ _ | refine blk_drew ?_ | refine blk_alloc ?_ _)); exact BKR.out) Try.underlying36 rfl (by kernel_rfl)) rfl ?_; exact ⟨_, _, rfl, Kd.Ru <| Kd.R_mono (Kd.R_far (p := ⟨gR, 3, none⟩) (Kd.R_far (p := ⟨gR, 2, none⟩) (Kd.R_far (p := ⟨gR, 1, none⟩) (Kd.R_far (p := ⟨gR, 0, none⟩) (HO1.out) (fun _ hk => hk.2) (.int .i64 q.f2.f0)) (fun _ hk => hk.2) (.int .i64 q.f2.f1)) (fun _ hk => hk.2) (.slice Ao1 y.length co1)) (fun _ hk => hk.2) (.slice Ao2 z.length co2)) (fun _ hk => hk.1), Kd.Ru <| Kd.R_mono (Kd.R_far (p := ⟨gR, 3, none⟩) (Kd.R_far (p := ⟨gR, 2, none⟩) (Kd.R_far (p := ⟨gR, 1, none⟩) (Kd.R_far (p := ⟨gR, 0, none⟩) (HO2.out) (fun _ hk => hk.2) (.int .i64 q.f2.f0)) (fun _ hk => hk.2) (.int .i64 q.f2.f1)) (fun _ hk => hk.2) (.slice Ao1 y.length co1)) (fun _ hk => hk.2) (.slice Ao2 z.length co2)) (fun _ hk => hk.1), by repeat (first | (with_reducible first | exact HB.out | apply below_alloc | apply pw_below_drewN | apply below_drew1 | refine below_set ?_ GR.out | refine below_set ?_ G6.out) | exact HB.out)⟩


end Go.Proofs.Ytllnbmmciejmoaa.PChoosePicks
