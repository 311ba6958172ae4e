-- Written by a program of this session's (an extension of the kit's print)
import Derived.Test.YtkomibcmpckflaaPLeaseDoesx0
import Derived.Test.YtkomibcmpckflaaPLeaseDoesx6
namespace Go.Proofs.Ytkomibcmpckflaa.PLeaseDoes
open Go.RowKit Go.Proofs.YtkomibcmpckflaaW.PrintWords Go.Proofs.YtkomibcmpckflaaW.PrintLast Go.Proofs.YtkomibcmpckflaaW.PrintMore
attribute [local go_sem] max2_int min2_int max_two min_two max_three min_three max_four min_four   -- for this text's walks alone
set_option linter.unusedVariables false
set_option linter.unusedSimpArgs false

/-! ### catenaryref08_Right: function 15 -/
mutual
def catenaryref08_Right.l0 : Nat → List (S40) → List (S40) → Int → Int → Option (Bool)
 | 0, _, _, _, _ => none
 | k + 1, x0, x8, x9, x10 => if x10 < x9 then (if 0 ≤ x10 then (if x10 < (x8.length : Int) then (if (((rd_T40 x8 x10).f0).length : Int) = 0 then (catenaryref08_Right.j1 k x0 x8 x9 x10 true) else (if (((rd_T40 x8 x10).f0).length : Int) > 16 then (catenaryref08_Right.j1 k x0 x8 x9 x10 true) else (if ((rd_T40 x8 x10).f1) < 1 then (catenaryref08_Right.j1 k x0 x8 x9 x10 true) else (if ((rd_T40 x8 x10).f1) > 4 then (catenaryref08_Right.j1 k x0 x8 x9 x10 true) else (if ((rd_T40 x8 x10).f2) < 1 then (catenaryref08_Right.j1 k x0 x8 x9 x10 true) else (if ((rd_T40 x8 x10).f2) > 2147483647 then (catenaryref08_Right.j1 k x0 x8 x9 x10 true) else (if x10 > 0 then (if 0 ≤ (wrap64 (x10 - 1)) then (if (wrap64 (x10 - 1)) < (x0.length : Int) then ((catenaryref07_Less.f ((rd_T40 x0 (wrap64 (x10 - 1))).f0) ((rd_T40 x8 x10).f0)).bind fun t300 => (catenaryref08_Right.j1 k x0 x8 x9 x10 (!t300))) else (none)) else (none)) else (catenaryref08_Right.j1 k x0 x8 x9 x10 false)))))))) else (none)) else (none)) else (some true)
def catenaryref08_Right.j1 : Nat → List (S40) → List (S40) → Int → Int → Bool → Option (Bool)
 | 0, _, _, _, _, _ => none
 | k + 1, x0, x8, x9, x10, x60 => if x60 = true then (some false) else (catenaryref08_Right.l0 k x0 x8 x9 (wrap64 (x10 + 1)))
end
def catenaryref08_Right.f (k : Nat) (l0 : List (S40)) : Option (Bool) := if (l0.length : Int) > 16 then (some false) else (catenaryref08_Right.l0 k l0 l0 (l0.length : Int) 0)
theorem catenaryref08_Right.mono_l : ∀ k, (∀ y0 y1 y2 y3, LeO (catenaryref08_Right.l0 k y0 y1 y2 y3) (catenaryref08_Right.l0 (k + 1) y0 y1 y2 y3)) ∧ (∀ y0 y1 y2 y3 y4, LeO (catenaryref08_Right.j1 k y0 y1 y2 y3 y4) (catenaryref08_Right.j1 (k + 1) y0 y1 y2 y3 y4))
 | 0 => ⟨fun _ _ _ _ r h => by simp [catenaryref08_Right.l0] at h, fun _ _ _ _ _ r h => by simp [catenaryref08_Right.j1] at h⟩
 | k + 1 => by
  obtain ⟨ih0, ih1⟩ := catenaryref08_Right.mono_l k; refine ⟨?_, ?_⟩
  ·intro y0 y1 y2 y3
   unfold catenaryref08_Right.l0
   repeat' first
   | (with_reducible exact ih0 _ _ _ _)
   | (with_reducible exact ih1 _ _ _ _ _)
   | (with_reducible exact LeO.refl _)
   | (with_reducible exact LeO.none _)
   | (with_reducible refine LeO.ite ?_ ?_)
   | (with_reducible refine LeO.bind ?_ (fun _ => ?_))
   | exact ih0 _ _ _ _
   | exact ih1 _ _ _ _ _
   | exact LeO.none _
   | refine LeO.ite ?_ ?_
   | refine LeO.bind ?_ (fun _ => ?_)
  ·intro y0 y1 y2 y3 y4
   unfold catenaryref08_Right.j1
   repeat' first
   | (with_reducible exact ih0 _ _ _ _)
   | (with_reducible exact ih1 _ _ _ _ _)
   | (with_reducible exact LeO.refl _)
   | (with_reducible exact LeO.none _)
   | (with_reducible refine LeO.ite ?_ ?_)
   | (with_reducible refine LeO.bind ?_ (fun _ => ?_))
   | exact ih0 _ _ _ _
   | exact ih1 _ _ _ _ _
   | exact LeO.none _
   | refine LeO.ite ?_ ?_
   | refine LeO.bind ?_ (fun _ => ?_)
theorem catenaryref08_Right.mono : ∀ a0 k, LeO (catenaryref08_Right.f k a0) (catenaryref08_Right.f (k + 1) a0) := by
 intro a0 k; obtain ⟨ih0, ih1⟩ := catenaryref08_Right.mono_l k
 unfold catenaryref08_Right.f
 repeat' first
   | (with_reducible exact ih0 _ _ _ _)
   | (with_reducible exact ih1 _ _ _ _ _)
   | (with_reducible exact LeO.refl _)
   | (with_reducible exact LeO.none _)
   | (with_reducible refine LeO.ite ?_ ?_)
   | (with_reducible refine LeO.bind ?_ (fun _ => ?_))
   | exact ih0 _ _ _ _
   | exact ih1 _ _ _ _ _
   | exact LeO.none _
   | refine LeO.ite ?_ ?_
   | refine LeO.bind ?_ (fun _ => ?_)
set_option maxHeartbeats 8000000 in
set_option maxRecDepth 100000 in
theorem catenaryref08_Right.calls (k : Nat) (A0 : Option Addr) (c0 : Nat) (l0 : List (S40)) (r : Bool) (w : World) (hr0 : Kd.C k40 w A0 l0.length l0) (hc0 : l0.length ≤ c0) (h : catenaryref08_Right.f k l0 = some r) :
  Calls Try.prog 15 #[.slice A0 l0.length c0] w fun e w' => e = .returned (.bool r) ∧ Below w.heap.size w w' := by
 have hu40 := Try.underlying40; have HR0 := Aside0.mk hr0; have HC0 := Aside0.mk hc0; clear hr0 hc0; have HB := Aside0.mk (Below.refl w.heap.size w); have H : (if (l0.length : Int) > 16 then (some false) else (catenaryref08_Right.l0 k l0 l0 (l0.length : Int) 0)) = some r := h; clear h
 by_cases c2 : (l0.length : Int) > 16
 ·rw [if_pos c2] at H
  have c2b0 : decide (16 < (l0.length : Int)) = true := decide_eq_true c2; have c2b1 : decide (16 < l0.length) = true := decide_eq_true (by omega); clear c2; obtain rfl := Option.some.inj H
  go_enter Try.func15, Try.ntmps15
  go_wp2
  repeat (go_quiet (fail); try go_wp2)
  go_ret
  exact ⟨by first | rfl | (simp [errW_none, errW_some] <;> rfl) | (simp [*, errW_none, errW_some] <;> rfl), below_v HB.out⟩
 ·rw [if_neg c2] at H
  have c2b0 : decide (16 < (l0.length : Int)) = false := decide_eq_false c2; have c2b1 : decide (16 < l0.length) = false := decide_eq_false (by omega); clear c2; have H' := Aside0.mk H; clear H
  go_enter Try.func15, Try.ntmps15
  go_wp2
  repeat (go_quiet (fail); try go_wp2)
  go_loopg [10] k (fun kq v10 w' => ∃ (x10_1 : Int), v10 = .int .i64 x10_1 ∧ Aside0 (catenaryref08_Right.l0 kq l0 l0 (l0.length : Int) x10_1 = some r) ∧ Aside0 (kq ≤ k) ∧ Aside0 (Below w.heap.size w w'))
  case atStart => exact ⟨(0), (by first | rfl | (simp; done) | (simp [*]; done)), H', ⟨Nat.le_refl _⟩, ⟨below_v HB.out⟩⟩
  case round =>
   clear H'
   try clear c2
   try clear c2b0
   try clear c2b1
   obtain ⟨x10_1, rfl, HA, HK1, HB⟩ := hrel
   cases gk with
   | zero => exact absurd HA.out (by simp [catenaryref08_Right.l0])
   | succ k1 =>
    have H := HA.out; clear HA; simp only [catenaryref08_Right.l0] at H
    by_cases c3 : x10_1 < (l0.length : Int)
    ·rw [if_pos c3] at H
     have c3b0 : decide (x10_1 < (l0.length : Int)) = true := decide_eq_true c3; clear c3
     by_cases c4 : 0 ≤ x10_1
     ·rw [if_pos c4] at H
      have c4b0 : decide (0 ≤ x10_1) = true := decide_eq_true c4; clear c4
      by_cases c5 : x10_1 < (l0.length : Int)
      ·rw [if_pos c5] at H
       have c5b0 : decide (x10_1 < (l0.length : Int)) = true := decide_eq_true c5; clear c5; have HC6 := Aside0.mk H; clear H; have p297 : 0 ≤ (x10_1 : Int) := of_decide_eq_true (by first | (with_reducible assumption) | assumption); have q297 : x10_1 < (l0.length : Int) := of_decide_eq_true (by first | (with_reducible assumption) | assumption); obtain ⟨ad297, A297_0, c297_0, e297, hx297_0, hx297_1, hx297_2, hl297_0, hi297_0⟩ := at_T40 HR0.out x10_1 p297 q297
       cases e297
       replace hx297_0 := (HB.out.cell (World.block_lt_of_cell? w _ hx297_0)).trans hx297_0; replace hx297_1 := (HB.out.cell (World.block_lt_of_cell? w _ hx297_1)).trans hx297_1; replace hx297_2 := (HB.out.cell (World.block_lt_of_cell? w _ hx297_2)).trans hx297_2; have HR297_0 := Aside0.mk hi297_0; have HC297_0 := Aside0.mk hl297_0; clear hi297_0 hl297_0; replace p297 := eq_true p297; replace q297 := eq_true q297
       go_upto_region 6 with (first | ((with_reducible refine gate_dst (N := 4) rfl ?_); (try (refine gate_guard (by rfl) ?_; dsimp only)); refine box_event ?hg (N := 4) ?hd (cs := #[.slice none 0 0, .int .i64 0, .int .i64 0]) (t := 40) ?hr ?_; (case hd => rfl); (case hg => rfl); (case hr => first | (go_simp; done) | (go_simp; rfl)); intro gb298 hg w7 hbox hb; have n0_ := Aside0.mk (below_step (below_v HB.out) hb); have n1_ := Aside0.mk (hbox); have n2_ := Aside0.mk ((by rw [hg]; exact (below_size (below_v HB.out)) : w.heap.size ≤ gb298)); have n3_ := Aside0.mk ((by rw [hg]; exact (below_size (below_v HB.out)) : w.heap.size ≤ gb298)); clear HB; have HB := n0_; have BK298 := n1_; have GW298 := n2_; have GE298 : GeB _ _ := ⟨⟨n3_.out⟩⟩; clear n0_ n1_ n2_ n3_; clear hb hbox hg; have hcz8_0 : w7.cell? ⟨gb298, 0, none⟩ = some (.slice none 0 0) := (blk_cell BK298.out 0).trans rfl; have hcz8_1 : w7.cell? ⟨gb298, 1, none⟩ = some (.int .i64 0) := (blk_cell BK298.out 1).trans rfl; have hcz8_2 : w7.cell? ⟨gb298, 2, none⟩ = some (.int .i64 0) := (blk_cell BK298.out 2).trans rfl; have hfz8_0 := blk_frozen BK298.out; have hfz8_2 := blk_frozen BK298.out 2))
       repeat (go_quiet (first | ((with_reducible refine gate_dst (N := 4) rfl ?_); (try (refine gate_guard (by rfl) ?_; dsimp only)); refine box_event ?hg (N := 4) ?hd (cs := #[.slice none 0 0, .int .i64 0, .int .i64 0]) (t := 40) ?hr ?_; (case hd => rfl); (case hg => rfl); (case hr => first | (go_simp; done) | (go_simp; rfl)); intro gb298 hg w7 hbox hb; have n0_ := Aside0.mk (below_step (below_v HB.out) hb); have n1_ := Aside0.mk (hbox); have n2_ := Aside0.mk ((by rw [hg]; exact (below_size (below_v HB.out)) : w.heap.size ≤ gb298)); have n3_ := Aside0.mk ((by rw [hg]; exact (below_size (below_v HB.out)) : w.heap.size ≤ gb298)); clear HB; have HB := n0_; have BK298 := n1_; have GW298 := n2_; have GE298 : GeB _ _ := ⟨⟨n3_.out⟩⟩; clear n0_ n1_ n2_ n3_; clear hb hbox hg; have hcz8_0 : w7.cell? ⟨gb298, 0, none⟩ = some (.slice none 0 0) := (blk_cell BK298.out 0).trans rfl; have hcz8_1 : w7.cell? ⟨gb298, 1, none⟩ = some (.int .i64 0) := (blk_cell BK298.out 1).trans rfl; have hcz8_2 : w7.cell? ⟨gb298, 2, none⟩ = some (.int .i64 0) := (blk_cell BK298.out 2).trans rfl; have hfz8_0 := blk_frozen BK298.out; have hfz8_2 := blk_frozen BK298.out 2)); go_upto_region 6 with (first | ((with_reducible refine gate_dst (N := 4) rfl ?_); (try (refine gate_guard (by rfl) ?_; dsimp only)); refine box_event ?hg (N := 4) ?hd (cs := #[.slice none 0 0, .int .i64 0, .int .i64 0]) (t := 40) ?hr ?_; (case hd => rfl); (case hg => rfl); (case hr => first | (go_simp; done) | (go_simp; rfl)); intro gb298 hg w7 hbox hb; have n0_ := Aside0.mk (below_step (below_v HB.out) hb); have n1_ := Aside0.mk (hbox); have n2_ := Aside0.mk ((by rw [hg]; exact (below_size (below_v HB.out)) : w.heap.size ≤ gb298)); have n3_ := Aside0.mk ((by rw [hg]; exact (below_size (below_v HB.out)) : w.heap.size ≤ gb298)); clear HB; have HB := n0_; have BK298 := n1_; have GW298 := n2_; have GE298 : GeB _ _ := ⟨⟨n3_.out⟩⟩; clear n0_ n1_ n2_ n3_; clear hb hbox hg; have hcz8_0 : w7.cell? ⟨gb298, 0, none⟩ = some (.slice none 0 0) := (blk_cell BK298.out 0).trans rfl; have hcz8_1 : w7.cell? ⟨gb298, 1, none⟩ = some (.int .i64 0) := (blk_cell BK298.out 1).trans rfl; have hcz8_2 : w7.cell? ⟨gb298, 2, none⟩ = some (.int .i64 0) := (blk_cell BK298.out 2).trans rfl; have hfz8_2 := blk_frozen BK298.out 2)))
       (try simp only [Act.put, List.setIfInBounds_toArray, List.set_cons_zero, List.set_cons_succ])
       go_cut [60] (fun v60 wc => ∃ (kq : Nat) (x60_5 : Bool), v60 = .bool x60_5 ∧ Aside0 (catenaryref08_Right.j1 kq l0 l0 (l0.length : Int) x10_1 x60_5 = some r) ∧ Aside0 (kq ≤ k1) ∧ Aside0 (wc.heap[gb298]? = some (.cells #[(.slice A297_0 ((rd_T40 l0 x10_1).f0).length c297_0), .int .i64 ((rd_T40 l0 x10_1).f1), .int .i64 ((rd_T40 l0 x10_1).f2)] 40 (0, 0))) ∧ Aside0 (Below w.heap.size w wc))
       case first =>
        have H := HC6.out; clear HC6
        by_cases c9 : (((rd_T40 l0 x10_1).f0).length : Int) = 0
        ·rw [if_pos c9] at H
         have c9b0 : ((((rd_T40 l0 x10_1).f0).length : Int) == 0) = true := beq_iff_eq.mpr c9; have c9b1 : ((((rd_T40 l0 x10_1).f0).length : Int) != 0) = false := bne_eq_false_iff_eq.mpr c9; clear c9
         (first | rw [c9b0] | (simp only [i64_w, i32_w]; rw [c9b0]) | skip)
         have H' := Aside0.mk H; clear H; have hcz10_0 : w7.cell? ⟨gb298, 0, none⟩ = some (.slice none 0 0) := (blk_cell BK298.out 0).trans rfl; have hcz10_1 : w7.cell? ⟨gb298, 1, none⟩ = some (.int .i64 0) := (blk_cell BK298.out 1).trans rfl; have hcz10_2 : w7.cell? ⟨gb298, 2, none⟩ = some (.int .i64 0) := (blk_cell BK298.out 2).trans rfl; have hfz10_0 := blk_frozen BK298.out
         go_wp2
         repeat (go_quiet (fail); try go_wp2)
         go_meet
         case rel => exact ⟨_, (true), (by first | rfl | (simp; done) | (simp [*]; done)), H', ⟨by have := HK1.out; first | omega | exact Nat.le_refl _⟩, ⟨by (with_reducible repeat (first | refine blk_drewN ?_ _ | refine blk_drew ?_ | refine blk_alloc ?_ _)); refine blk_p3 (blk_u <| BK298.out) rfl⟩, ⟨below_v HB.out⟩⟩
        ·rw [if_neg c9] at H
         have c9b0 : ((((rd_T40 l0 x10_1).f0).length : Int) == 0) = false := beq_eq_false_iff_ne.mpr c9; have c9b1 : ((((rd_T40 l0 x10_1).f0).length : Int) != 0) = true := bne_iff_ne.mpr c9
         have c9b2 : ¬ (((rd_T40 l0 x10_1).f0) = []) := fun h_ => c9 (by rw [h_]; rfl)
         (first | rw [c9b0] | (simp only [i64_w, i32_w]; rw [c9b0]) | skip)
         by_cases c11 : (((rd_T40 l0 x10_1).f0).length : Int) > 16
         ·rw [if_pos c11] at H
          have c11b0 : decide (16 < (((rd_T40 l0 x10_1).f0).length : Int)) = true := decide_eq_true c11; have c11b1 : decide (16 < ((rd_T40 l0 x10_1).f0).length) = true := decide_eq_true (by omega); clear c11; have H' := Aside0.mk H; clear H; have hcz12_0 : w7.cell? ⟨gb298, 0, none⟩ = some (.slice none 0 0) := (blk_cell BK298.out 0).trans rfl; have hcz12_1 : w7.cell? ⟨gb298, 1, none⟩ = some (.int .i64 0) := (blk_cell BK298.out 1).trans rfl; have hcz12_2 : w7.cell? ⟨gb298, 2, none⟩ = some (.int .i64 0) := (blk_cell BK298.out 2).trans rfl; have hfz12_0 := blk_frozen BK298.out
          go_wp2
          repeat (go_quiet (fail); try go_wp2)
          go_meet
          case rel => exact ⟨_, (true), (by first | rfl | (simp; done) | (simp [*]; done)), H', ⟨by have := HK1.out; first | omega | exact Nat.le_refl _⟩, ⟨by (with_reducible repeat (first | refine blk_drewN ?_ _ | refine blk_drew ?_ | refine blk_alloc ?_ _)); refine blk_p3 (blk_u <| BK298.out) rfl⟩, ⟨below_v HB.out⟩⟩
         ·rw [if_neg c11] at H
          have c11b0 : decide (16 < (((rd_T40 l0 x10_1).f0).length : Int)) = false := decide_eq_false c11; have c11b1 : decide (16 < ((rd_T40 l0 x10_1).f0).length) = false := decide_eq_false (by omega); clear c11
          by_cases c13 : ((rd_T40 l0 x10_1).f1) < 1
          ·rw [if_pos c13] at H
           have c13b0 : decide (((rd_T40 l0 x10_1).f1) < 1) = true := decide_eq_true c13; clear c13; have H' := Aside0.mk H; clear H; have hcz14_0 : w7.cell? ⟨gb298, 0, none⟩ = some (.slice none 0 0) := (blk_cell BK298.out 0).trans rfl; have hcz14_1 : w7.cell? ⟨gb298, 1, none⟩ = some (.int .i64 0) := (blk_cell BK298.out 1).trans rfl; have hcz14_2 : w7.cell? ⟨gb298, 2, none⟩ = some (.int .i64 0) := (blk_cell BK298.out 2).trans rfl; have hfz14_0 := blk_frozen BK298.out
           go_wp2
           repeat (go_quiet (fail); try go_wp2)
           go_meet
           case rel => exact ⟨_, (true), (by first | rfl | (simp; done) | (simp [*]; done)), H', ⟨by have := HK1.out; first | omega | exact Nat.le_refl _⟩, ⟨by (with_reducible repeat (first | refine blk_drewN ?_ _ | refine blk_drew ?_ | refine blk_alloc ?_ _)); refine blk_p3 (blk_u <| BK298.out) rfl⟩, ⟨below_v HB.out⟩⟩
          ·rw [if_neg c13] at H
           have c13b0 : decide (((rd_T40 l0 x10_1).f1) < 1) = false := decide_eq_false c13; clear c13
           by_cases c15 : ((rd_T40 l0 x10_1).f1) > 4
           ·rw [if_pos c15] at H
            have c15b0 : decide (4 < ((rd_T40 l0 x10_1).f1)) = true := decide_eq_true c15; clear c15; have H' := Aside0.mk H; clear H; have hcz16_0 : w7.cell? ⟨gb298, 0, none⟩ = some (.slice none 0 0) := (blk_cell BK298.out 0).trans rfl; have hcz16_1 : w7.cell? ⟨gb298, 1, none⟩ = some (.int .i64 0) := (blk_cell BK298.out 1).trans rfl; have hcz16_2 : w7.cell? ⟨gb298, 2, none⟩ = some (.int .i64 0) := (blk_cell BK298.out 2).trans rfl; have hfz16_0 := blk_frozen BK298.out
            go_wp2
            repeat (go_quiet (fail); try go_wp2)
            go_meet
            case rel => exact ⟨_, (true), (by first | rfl | (simp; done) | (simp [*]; done)), H', ⟨by have := HK1.out; first | omega | exact Nat.le_refl _⟩, ⟨by (with_reducible repeat (first | refine blk_drewN ?_ _ | refine blk_drew ?_ | refine blk_alloc ?_ _)); refine blk_p3 (blk_u <| BK298.out) rfl⟩, ⟨below_v HB.out⟩⟩
           ·rw [if_neg c15] at H
            have c15b0 : decide (4 < ((rd_T40 l0 x10_1).f1)) = false := decide_eq_false c15; clear c15
            by_cases c17 : ((rd_T40 l0 x10_1).f2) < 1
            ·rw [if_pos c17] at H
             have c17b0 : decide (((rd_T40 l0 x10_1).f2) < 1) = true := decide_eq_true c17; clear c17; have H' := Aside0.mk H; clear H; have hcz18_0 : w7.cell? ⟨gb298, 0, none⟩ = some (.slice none 0 0) := (blk_cell BK298.out 0).trans rfl; have hcz18_1 : w7.cell? ⟨gb298, 1, none⟩ = some (.int .i64 0) := (blk_cell BK298.out 1).trans rfl; have hcz18_2 : w7.cell? ⟨gb298, 2, none⟩ = some (.int .i64 0) := (blk_cell BK298.out 2).trans rfl; have hfz18_0 := blk_frozen BK298.out
             go_wp2
             repeat (go_quiet (fail); try go_wp2)
             go_meet
             case rel => exact ⟨_, (true), (by first | rfl | (simp; done) | (simp [*]; done)), H', ⟨by have := HK1.out; first | omega | exact Nat.le_refl _⟩, ⟨by (with_reducible repeat (first | refine blk_drewN ?_ _ | refine blk_drew ?_ | refine blk_alloc ?_ _)); refine blk_p3 (blk_u <| BK298.out) rfl⟩, ⟨below_v HB.out⟩⟩
            ·rw [if_neg c17] at H
             have c17b0 : decide (((rd_T40 l0 x10_1).f2) < 1) = false := decide_eq_false c17; clear c17
             by_cases c19 : ((rd_T40 l0 x10_1).f2) > 2147483647
             ·rw [if_pos c19] at H
              have c19b0 : decide (2147483647 < ((rd_T40 l0 x10_1).f2)) = true := decide_eq_true c19; clear c19; have H' := Aside0.mk H; clear H; have hcz20_0 : w7.cell? ⟨gb298, 0, none⟩ = some (.slice none 0 0) := (blk_cell BK298.out 0).trans rfl; have hcz20_1 : w7.cell? ⟨gb298, 1, none⟩ = some (.int .i64 0) := (blk_cell BK298.out 1).trans rfl; have hcz20_2 : w7.cell? ⟨gb298, 2, none⟩ = some (.int .i64 0) := (blk_cell BK298.out 2).trans rfl; have hfz20_0 := blk_frozen BK298.out
              go_wp2
              repeat (go_quiet (fail); try go_wp2)
              go_meet
              case rel => exact ⟨_, (true), (by first | rfl | (simp; done) | (simp [*]; done)), H', ⟨by have := HK1.out; first | omega | exact Nat.le_refl _⟩, ⟨by (with_reducible repeat (first | refine blk_drewN ?_ _ | refine blk_drew ?_ | refine blk_alloc ?_ _)); refine blk_p3 (blk_u <| BK298.out) rfl⟩, ⟨below_v HB.out⟩⟩
             ·rw [if_neg c19] at H
              have c19b0 : decide (2147483647 < ((rd_T40 l0 x10_1).f2)) = false := decide_eq_false c19; clear c19
              by_cases c21 : x10_1 > 0
              ·rw [if_pos c21] at H
               have c21b0 : decide (0 < x10_1) = true := decide_eq_true c21; clear c21; obtain ⟨ji22, hji22⟩ : ∃ j_ : Int, (wrap64 (x10_1 - 1)) = j_ := ⟨_, rfl⟩
               replace H : (if 0 ≤ (ji22) then (if (ji22) < (l0.length : Int) then ((catenaryref07_Less.f ((rd_T40 l0 (ji22)).f0) ((rd_T40 l0 x10_1).f0)).bind fun t300 => (catenaryref08_Right.j1 k1 l0 l0 (l0.length : Int) x10_1 (!t300))) else (none)) else (none)) = some r := by first | (rw [hji22] at H; exact H) | (simp only [hji22] at H ⊢; exact H)
               have hji22w : (IntKind.i64.wrap (x10_1 - 1)) = ji22 := (i64_w _).trans hji22
               by_cases c23 : 0 ≤ (ji22)
               ·rw [if_pos c23] at H
                have c23b0 : decide (0 ≤ (ji22)) = true := decide_eq_true c23; clear c23
                by_cases c24 : (ji22) < (l0.length : Int)
                ·rw [if_pos c24] at H
                 have c24b0 : decide ((ji22) < (l0.length : Int)) = true := decide_eq_true c24; clear c24; replace H := Option.bind_eq_some_iff.mp H; obtain ⟨t300, A250, H⟩ := H; replace H : (catenaryref08_Right.j1 k1 l0 l0 (l0.length : Int) x10_1 (!t300)) = some r := H; have A25 := Aside0.mk A250; clear A250; have H' := Aside0.mk H; clear H; have hcz26_0 : w7.cell? ⟨gb298, 0, none⟩ = some (.slice none 0 0) := (blk_cell BK298.out 0).trans rfl; have hcz26_1 : w7.cell? ⟨gb298, 1, none⟩ = some (.int .i64 0) := (blk_cell BK298.out 1).trans rfl; have hcz26_2 : w7.cell? ⟨gb298, 2, none⟩ = some (.int .i64 0) := (blk_cell BK298.out 2).trans rfl; have hfz26_0 := blk_frozen BK298.out; have p299 : 0 ≤ ((ji22) : Int) := of_decide_eq_true (by first | (with_reducible assumption) | assumption); have q299 : (ji22) < (l0.length : Int) := of_decide_eq_true (by first | (with_reducible assumption) | assumption); obtain ⟨ad299, A299_0, c299_0, e299, hx299_0, hx299_1, hx299_2, hl299_0, hi299_0⟩ := at_T40 HR0.out (ji22) p299 q299; obtain rfl : ad297 = ad299 := (by injection e299); have hn299_0 : ad297.block ≠ gb298 := Nat.ne_of_lt (Nat.lt_of_lt_of_le (by have := World.block_lt_of_cell? _ _ hx299_0; first | rwa [add_block] at this | exact this) GW298.out); have hn299_1 : ad297.block ≠ gb298 := Nat.ne_of_lt (Nat.lt_of_lt_of_le (by have := World.block_lt_of_cell? _ _ hx299_0; first | rwa [add_block] at this | exact this) GW298.out); have hn299_2 : ad297.block ≠ gb298 := Nat.ne_of_lt (Nat.lt_of_lt_of_le (by have := World.block_lt_of_cell? _ _ hx299_0; first | rwa [add_block] at this | exact this) GW298.out); replace hx299_0 := (HB.out.cell (World.block_lt_of_cell? w _ hx299_0)).trans hx299_0; replace hx299_1 := (HB.out.cell (World.block_lt_of_cell? w _ hx299_1)).trans hx299_1; replace hx299_2 := (HB.out.cell (World.block_lt_of_cell? w _ hx299_2)).trans hx299_2; have HR299_0 := Aside0.mk hi299_0; have HC299_0 := Aside0.mk hl299_0; clear hi299_0 hl299_0; replace hx299_0 := (cell_far (p := ⟨gb298, 0, none⟩) (by first | (rw [add_block]; exact hn299_0) | (show (Addr.add _ _).block ≠ _; rw [add_block]; exact hn299_0) | exact hn299_0) (.slice A297_0 ((rd_T40 l0 x10_1).f0).length c297_0)).trans hx299_0; replace hx299_1 := (cell_far (p := ⟨gb298, 0, none⟩) (by first | (rw [add_block]; exact hn299_0) | (show (Addr.add _ _).block ≠ _; rw [add_block]; exact hn299_0) | exact hn299_0) (.slice A297_0 ((rd_T40 l0 x10_1).f0).length c297_0)).trans hx299_1; replace hx299_2 := (cell_far (p := ⟨gb298, 0, none⟩) (by first | (rw [add_block]; exact hn299_0) | (show (Addr.add _ _).block ≠ _; rw [add_block]; exact hn299_0) | exact hn299_0) (.slice A297_0 ((rd_T40 l0 x10_1).f0).length c297_0)).trans hx299_2; replace hx299_0 := (cell_far (p := ⟨gb298, 1, none⟩) (by first | (rw [add_block]; exact hn299_1) | (show (Addr.add _ _).block ≠ _; rw [add_block]; exact hn299_1) | exact hn299_1) (.int .i64 ((rd_T40 l0 x10_1).f1))).trans hx299_0; replace hx299_1 := (cell_far (p := ⟨gb298, 1, none⟩) (by first | (rw [add_block]; exact hn299_1) | (show (Addr.add _ _).block ≠ _; rw [add_block]; exact hn299_1) | exact hn299_1) (.int .i64 ((rd_T40 l0 x10_1).f1))).trans hx299_1; replace hx299_2 := (cell_far (p := ⟨gb298, 1, none⟩) (by first | (rw [add_block]; exact hn299_1) | (show (Addr.add _ _).block ≠ _; rw [add_block]; exact hn299_1) | exact hn299_1) (.int .i64 ((rd_T40 l0 x10_1).f1))).trans hx299_2; replace hx299_0 := (cell_far (p := ⟨gb298, 2, none⟩) (by first | (rw [add_block]; exact hn299_2) | (show (Addr.add _ _).block ≠ _; rw [add_block]; exact hn299_2) | exact hn299_2) (.int .i64 ((rd_T40 l0 x10_1).f2))).trans hx299_0; replace hx299_1 := (cell_far (p := ⟨gb298, 2, none⟩) (by first | (rw [add_block]; exact hn299_2) | (show (Addr.add _ _).block ≠ _; rw [add_block]; exact hn299_2) | exact hn299_2) (.int .i64 ((rd_T40 l0 x10_1).f2))).trans hx299_1; replace hx299_2 := (cell_far (p := ⟨gb298, 2, none⟩) (by first | (rw [add_block]; exact hn299_2) | (show (Addr.add _ _).block ≠ _; rw [add_block]; exact hn299_2) | exact hn299_2) (.int .i64 ((rd_T40 l0 x10_1).f2))).trans hx299_2
                 (try have hy299_0 := fun (n_ : Nat) => (show (((((w7.drewN n_).setCell ⟨gb298, 0, none⟩ (.slice A297_0 ((rd_T40 l0 x10_1).f0).length c297_0)).setCell ⟨gb298, 1, none⟩ (.int .i64 ((rd_T40 l0 x10_1).f1))).setCell ⟨gb298, 2, none⟩ (.int .i64 ((rd_T40 l0 x10_1).f2)))).cell? _ = some _ from hx299_0))
                 (try have hy299_1 := fun (n_ : Nat) => (show (((((w7.drewN n_).setCell ⟨gb298, 0, none⟩ (.slice A297_0 ((rd_T40 l0 x10_1).f0).length c297_0)).setCell ⟨gb298, 1, none⟩ (.int .i64 ((rd_T40 l0 x10_1).f1))).setCell ⟨gb298, 2, none⟩ (.int .i64 ((rd_T40 l0 x10_1).f2)))).cell? _ = some _ from hx299_1))
                 (try have hy299_2 := fun (n_ : Nat) => (show (((((w7.drewN n_).setCell ⟨gb298, 0, none⟩ (.slice A297_0 ((rd_T40 l0 x10_1).f0).length c297_0)).setCell ⟨gb298, 1, none⟩ (.int .i64 ((rd_T40 l0 x10_1).f1))).setCell ⟨gb298, 2, none⟩ (.int .i64 ((rd_T40 l0 x10_1).f2)))).cell? _ = some _ from hx299_2))
                 clear hn299_0; clear hn299_1; clear hn299_2; replace p299 := eq_true p299; replace q299 := eq_true q299
                 go_wp2_with (first | (go_at_call 34; (with_reducible refine (catenaryref07_Less.calls _ _ ((rd_T40 l0 (ji22)).f0) _ _ ((rd_T40 l0 x10_1).f0) t300 _ ?side1 ?side2 ?side3 ?side4 A25.out).mono ?_); (case side1 => exact Kd.C_below HR299_0.out (below_v HB.out)); (case side2 => exact HC299_0.out); (case side3 => exact Kd.C_below HR297_0.out (below_v HB.out)); (case side4 => exact HC297_0.out); rintro e w' ⟨rfl, ⟨nd, rfl⟩⟩; (try first | exact ⟨rfl, _, World.drewN_drewN _ _ _⟩ | exact ⟨rfl, _, Eq.trans (World.drewN_drewN _ _ _) (congrArg (World.drewN _) (Nat.add_assoc _ _ _))⟩)))
                 repeat (go_quiet (first | (go_at_call 34; (with_reducible refine (catenaryref07_Less.calls _ _ ((rd_T40 l0 (ji22)).f0) _ _ ((rd_T40 l0 x10_1).f0) t300 _ ?side1 ?side2 ?side3 ?side4 A25.out).mono ?_); (case side1 => exact Kd.C_below HR299_0.out (below_v HB.out)); (case side2 => exact HC299_0.out); (case side3 => exact Kd.C_below HR297_0.out (below_v HB.out)); (case side4 => exact HC297_0.out); rintro e w' ⟨rfl, ⟨nd, rfl⟩⟩; (try first | exact ⟨rfl, _, World.drewN_drewN _ _ _⟩ | exact ⟨rfl, _, Eq.trans (World.drewN_drewN _ _ _) (congrArg (World.drewN _) (Nat.add_assoc _ _ _))⟩))); try go_wp2_with (first | (go_at_call 34; (with_reducible refine (catenaryref07_Less.calls _ _ ((rd_T40 l0 (ji22)).f0) _ _ ((rd_T40 l0 x10_1).f0) t300 _ ?side1 ?side2 ?side3 ?side4 A25.out).mono ?_); (case side1 => exact Kd.C_below HR299_0.out (below_v HB.out)); (case side2 => exact HC299_0.out); (case side3 => exact Kd.C_below HR297_0.out (below_v HB.out)); (case side4 => exact HC297_0.out); rintro e w' ⟨rfl, ⟨nd, rfl⟩⟩; (try first | exact ⟨rfl, _, World.drewN_drewN _ _ _⟩ | exact ⟨rfl, _, Eq.trans (World.drewN_drewN _ _ _) (congrArg (World.drewN _) (Nat.add_assoc _ _ _))⟩))))
                 go_meet
                 case rel => exact ⟨_, (!t300), (by first | rfl | (simp; done) | (simp [*]; done)), H', ⟨by have := HK1.out; first | omega | exact Nat.le_refl _⟩, ⟨by (with_reducible repeat (first | refine blk_drewN ?_ _ | refine blk_drew ?_ | refine blk_alloc ?_ _)); refine blk_p3 (blk_u <| BK298.out) rfl⟩, ⟨below_v HB.out⟩⟩
                ·rw [if_neg c24] at H
                 exact absurd H (by simp)
               ·rw [if_neg c23] at H
                exact absurd H (by simp)
              ·rw [if_neg c21] at H
               have c21b0 : decide (0 < x10_1) = false := decide_eq_false c21; clear c21; have H' := Aside0.mk H; clear H; have hcz27_0 : w7.cell? ⟨gb298, 0, none⟩ = some (.slice none 0 0) := (blk_cell BK298.out 0).trans rfl; have hcz27_1 : w7.cell? ⟨gb298, 1, none⟩ = some (.int .i64 0) := (blk_cell BK298.out 1).trans rfl; have hcz27_2 : w7.cell? ⟨gb298, 2, none⟩ = some (.int .i64 0) := (blk_cell BK298.out 2).trans rfl; have hfz27_0 := blk_frozen BK298.out
               go_wp2
               repeat (go_quiet (fail); try go_wp2)
               go_meet
               case rel => exact ⟨_, (false), (by first | rfl | (simp; done) | (simp [*]; done)), H', ⟨by have := HK1.out; first | omega | exact Nat.le_refl _⟩, ⟨by (with_reducible repeat (first | refine blk_drewN ?_ _ | refine blk_drew ?_ | refine blk_alloc ?_ _)); refine blk_p3 (blk_u <| BK298.out) rfl⟩, ⟨below_v HB.out⟩⟩
       case rest =>
        clear HC6
        try clear c3
        try clear c3b0
        try clear c4
        try clear c4b0
        try clear c5
        try clear c5b0
        try clear hcz8_0
        try clear hcz8_1
        try clear hcz8_2
        try clear hfz8_0
        try clear hfz8_2
        try clear hx297_0
        try clear hx297_1
        try clear hx297_2
        try clear p297
        try clear q297
        obtain ⟨kq, x60_5, rfl, HA, HJ5, BK298, HB⟩ := hcut
        cases kq with
        | zero => exact absurd HA.out (by simp [catenaryref08_Right.j1])
        | succ kj5 =>
         have H := HA.out; clear HA; simp only [catenaryref08_Right.j1] at H
         by_cases c28 : x60_5 = true
         ·subst c28
          have H1 : (some false) = some r := by rw [if_pos rfl] at H; exact H
          clear H; have H := H1; clear H1; obtain rfl := Option.some.inj H
          go_wp2
          repeat (go_quiet (fail); try go_wp2)
          go_ret
          exact ⟨by first | rfl | (simp [errW_none, errW_some] <;> rfl) | (simp [*, errW_none, errW_some] <;> rfl), below_v HB.out⟩
         ·replace c28 := Bool.eq_false_iff.mpr c28
          subst c28
          have H1 : (catenaryref08_Right.l0 kj5 l0 l0 (l0.length : Int) (wrap64 (x10_1 + 1))) = some r := by rw [if_neg (show ¬ (false = true) by decide)] at H; exact H
          clear H; have H := H1; clear H1; have H' := Aside0.mk H; clear H
          go_wp2
          repeat (go_quiet (fail); try go_wp2)
          go_roundg kj5
          case measure => have := HK1.out; have := HJ5.out; omega
          case rel => exact ⟨(wrap64 (x10_1 + 1)), (by first | rfl | (simp; done) | (simp [*]; done)), H', ⟨by have := HK1.out; have := HJ5.out; omega⟩, ⟨below_v HB.out⟩⟩
      ·rw [if_neg c5] at H
       exact absurd H (by simp)
     ·rw [if_neg c4] at H
      exact absurd H (by simp)
    ·rw [if_neg c3] at H
     have c3b0 : decide (x10_1 < (l0.length : Int)) = false := decide_eq_false c3; clear c3; obtain rfl := Option.some.inj H
     go_wp2
     repeat (go_quiet (fail); try go_wp2)
     go_ret
     exact ⟨by first | rfl | (simp [errW_none, errW_some] <;> rfl) | (simp [*, errW_none, errW_some] <;> rfl), below_v HB.out⟩

end Go.Proofs.Ytkomibcmpckflaa.PLeaseDoes
