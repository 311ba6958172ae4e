-- Written by a program of this session's (an extension of the kit's print)
import Derived.Test.YtkomibcmpckflaaPLeaseDoesx0
namespace Go.Proofs.Ytkomibcmpckflaa.PLeaseDoes
open Go.RowKit Go.Proofs.YtkomibcmpckflaaW.PrintWords Go.Proofs.YtkomibcmpckflaaW.PrintLast Go.Proofs.YtkomibcmpckflaaW.PrintMore
attribute [local go_sem] max2_int min2_int max_two min_two max_three min_three max_four min_four   -- for this text's walks alone
set_option linter.unusedVariables false
set_option linter.unusedSimpArgs false

/-! ### catenaryref07_RightOp: function 31 -/
mutual
def catenaryref07_RightOp.j0 : Nat → Bool → Int → List Int → List Int → List Int → Int → Option (Bool)
 | 0, _, _, _, _, _, _ => none
 | k + 1, x34, x302000, x302001, x302002, x302003, x302004 => if x34 = true then (some false) else (if x302000 = 2 then (if (x302003.length : Int) = 0 then (some (x302004 == 0)) else (some false)) else (if x302000 = 3 then (some (x302004 == 0)) else (if x302000 = 5 then (catenaryref07_RightOp.j1 k (x302000 == 5) x302000 x302001 x302002 x302003 x302004) else (catenaryref07_RightOp.j1 k (x302000 == 6) x302000 x302001 x302002 x302003 x302004))))
def catenaryref07_RightOp.j1 : Nat → Bool → Int → List Int → List Int → List Int → Int → Option (Bool)
 | 0, _, _, _, _, _, _ => none
 | k + 1, x53, x302000, x302001, x302002, x302003, x302004 => if x53 = true then (if (x302002.length : Int) = 0 then (if (x302003.length : Int) = 0 then (if x302004 ≥ 1 then (some (decide (x302004 ≤ 1000))) else (some false)) else (some false)) else (some false)) else (if (x302002.length : Int) = 0 then (if (x302003.length : Int) = 0 then (some (x302004 == 0)) else (some false)) else (some false))
end
def catenaryref07_RightOp.f (k : Nat) (a0_0 : Int) (l0_1 : List Int) (l0_2 : List Int) (l0_3 : List Int) (a0_4 : Int) : Option (Bool) := if a0_0 < 1 then (catenaryref07_RightOp.j0 k true a0_0 l0_1 l0_2 l0_3 a0_4) else (if a0_0 > 8 then (catenaryref07_RightOp.j0 k true a0_0 l0_1 l0_2 l0_3 a0_4) else (if (l0_1.length : Int) = 0 then (catenaryref07_RightOp.j0 k true a0_0 l0_1 l0_2 l0_3 a0_4) else (if (l0_1.length : Int) > 16 then (catenaryref07_RightOp.j0 k true a0_0 l0_1 l0_2 l0_3 a0_4) else (if (l0_2.length : Int) > 64 then (catenaryref07_RightOp.j0 k true a0_0 l0_1 l0_2 l0_3 a0_4) else (catenaryref07_RightOp.j0 k (decide ((l0_3.length : Int) > 64)) a0_0 l0_1 l0_2 l0_3 a0_4)))))
theorem catenaryref07_RightOp.mono_l : ∀ k, (∀ y0 y1 y2 y3 y4 y5, LeO (catenaryref07_RightOp.j0 k y0 y1 y2 y3 y4 y5) (catenaryref07_RightOp.j0 (k + 1) y0 y1 y2 y3 y4 y5)) ∧ (∀ y0 y1 y2 y3 y4 y5, LeO (catenaryref07_RightOp.j1 k y0 y1 y2 y3 y4 y5) (catenaryref07_RightOp.j1 (k + 1) y0 y1 y2 y3 y4 y5))
 | 0 => ⟨fun _ _ _ _ _ _ r h => by simp [catenaryref07_RightOp.j0] at h, fun _ _ _ _ _ _ r h => by simp [catenaryref07_RightOp.j1] at h⟩
 | k + 1 => by
  obtain ⟨ih0, ih1⟩ := catenaryref07_RightOp.mono_l k; refine ⟨?_, ?_⟩
  ·intro y0 y1 y2 y3 y4 y5
   unfold catenaryref07_RightOp.j0
   repeat' first
   | (with_reducible exact ih0 _ _ _ _ _ _)
   | (with_reducible exact ih1 _ _ _ _ _ _)
   | (with_reducible exact LeO.refl _)
   | (with_reducible exact LeO.none _)
   | (with_reducible refine LeO.ite ?_ ?_)
   | (with_reducible refine LeO.bind ?_ (fun _ => ?_))
   | exact ih0 _ _ _ _ _ _
   | exact ih1 _ _ _ _ _ _
   | exact LeO.none _
   | refine LeO.ite ?_ ?_
   | refine LeO.bind ?_ (fun _ => ?_)
  ·intro y0 y1 y2 y3 y4 y5
   unfold catenaryref07_RightOp.j1
   repeat' first
   | (with_reducible exact ih0 _ _ _ _ _ _)
   | (with_reducible exact ih1 _ _ _ _ _ _)
   | (with_reducible exact LeO.refl _)
   | (with_reducible exact LeO.none _)
   | (with_reducible refine LeO.ite ?_ ?_)
   | (with_reducible refine LeO.bind ?_ (fun _ => ?_))
   | exact ih0 _ _ _ _ _ _
   | exact ih1 _ _ _ _ _ _
   | exact LeO.none _
   | refine LeO.ite ?_ ?_
   | refine LeO.bind ?_ (fun _ => ?_)
theorem catenaryref07_RightOp.mono : ∀ a0 a1 a2 a3 a4 k, LeO (catenaryref07_RightOp.f k a0 a1 a2 a3 a4) (catenaryref07_RightOp.f (k + 1) a0 a1 a2 a3 a4) := by
 intro a0 a1 a2 a3 a4 k; obtain ⟨ih0, ih1⟩ := catenaryref07_RightOp.mono_l k
 unfold catenaryref07_RightOp.f
 repeat' first
   | (with_reducible exact ih0 _ _ _ _ _ _)
   | (with_reducible exact ih1 _ _ _ _ _ _)
   | (with_reducible exact LeO.refl _)
   | (with_reducible exact LeO.none _)
   | (with_reducible refine LeO.ite ?_ ?_)
   | (with_reducible refine LeO.bind ?_ (fun _ => ?_))
   | exact ih0 _ _ _ _ _ _
   | exact ih1 _ _ _ _ _ _
   | exact LeO.none _
   | refine LeO.ite ?_ ?_
   | refine LeO.bind ?_ (fun _ => ?_)
set_option maxHeartbeats 8000000 in
set_option maxRecDepth 100000 in
theorem catenaryref07_RightOp.calls (k : Nat) (a0_0 : Int) (A0_1 : Option Addr) (c0_1 : Nat) (l0_1 : List Int) (A0_2 : Option Addr) (c0_2 : Nat) (l0_2 : List Int) (A0_3 : Option Addr) (c0_3 : Nat) (l0_3 : List Int) (a0_4 : Int) (r : Bool) (w : World) (hr0_1 : Kd.C (Kd.int .u8) w A0_1 l0_1.length l0_1) (hc0_1 : l0_1.length ≤ c0_1) (hr0_2 : Kd.C (Kd.int .u8) w A0_2 l0_2.length l0_2) (hc0_2 : l0_2.length ≤ c0_2) (hr0_3 : Kd.C (Kd.int .u8) w A0_3 l0_3.length l0_3) (hc0_3 : l0_3.length ≤ c0_3) (h : catenaryref07_RightOp.f k a0_0 l0_1 l0_2 l0_3 a0_4 = some r) :
  Calls Try.prog 31 #[.agg #[.int .i64 a0_0, .slice A0_1 l0_1.length c0_1, .slice A0_2 l0_2.length c0_2, .slice A0_3 l0_3.length c0_3, .int .i64 a0_4]] w fun e w' => e = .returned (.bool r) ∧ Below w.heap.size w w' := by
 have hu28 := Try.underlying28; have HR0_1 := Aside0.mk hr0_1; have HC0_1 := Aside0.mk hc0_1; clear hr0_1 hc0_1; have HR0_2 := Aside0.mk hr0_2; have HC0_2 := Aside0.mk hc0_2; clear hr0_2 hc0_2; have HR0_3 := Aside0.mk hr0_3; have HC0_3 := Aside0.mk hc0_3; clear hr0_3 hc0_3; have HB := Aside0.mk (Below.refl w.heap.size w); have H : (if a0_0 < 1 then (catenaryref07_RightOp.j0 k true a0_0 l0_1 l0_2 l0_3 a0_4) else (if a0_0 > 8 then (catenaryref07_RightOp.j0 k true a0_0 l0_1 l0_2 l0_3 a0_4) else (if (l0_1.length : Int) = 0 then (catenaryref07_RightOp.j0 k true a0_0 l0_1 l0_2 l0_3 a0_4) else (if (l0_1.length : Int) > 16 then (catenaryref07_RightOp.j0 k true a0_0 l0_1 l0_2 l0_3 a0_4) else (if (l0_2.length : Int) > 64 then (catenaryref07_RightOp.j0 k true a0_0 l0_1 l0_2 l0_3 a0_4) else (catenaryref07_RightOp.j0 k (decide ((l0_3.length : Int) > 64)) a0_0 l0_1 l0_2 l0_3 a0_4)))))) = some r := h; clear h; have HC2 := Aside0.mk H; clear H
 go_enter Try.func31, Try.ntmps31
 go_upto_region 1 with (first | ((with_reducible refine gate_dst (N := 1) rfl ?_); (try (refine gate_guard (by rfl) ?_; dsimp only)); refine box_event ?hg (N := 1) ?hd (cs := #[.int .i64 a0_0, .slice A0_1 l0_1.length c0_1, .slice A0_2 l0_2.length c0_2, .slice A0_3 l0_3.length c0_3, .int .i64 a0_4]) (t := 28) ?hr ?_; (case hd => rfl); (case hg => rfl); (case hr => first | (go_simp; done) | (go_simp; rfl)); intro gb301 hg w3 hbox hb; have n0_ := Aside0.mk (below_step (below_v HB.out) hb); have n1_ := Aside0.mk (hbox); have n2_ := Aside0.mk ((by rw [hg]; exact (below_size (below_v HB.out)) : w.heap.size ≤ gb301)); have n3_ := Aside0.mk ((by rw [hg]; exact (below_size (below_v HB.out)) : w.heap.size ≤ gb301)); clear HB; have HB := n0_; have BK301 := n1_; have GW301 := n2_; have GE301 : GeB _ _ := ⟨⟨n3_.out⟩⟩; clear n0_ n1_ n2_ n3_; clear hb hbox hg))
 (try simp only [Act.put, List.setIfInBounds_toArray, List.set_cons_zero, List.set_cons_succ])
 go_cut [34] (fun v34 wc => ∃ (kq : Nat) (x34_1 : Bool), v34 = .bool x34_1 ∧ Aside0 (catenaryref07_RightOp.j0 kq x34_1 a0_0 l0_1 l0_2 l0_3 a0_4 = some r) ∧ Aside0 (kq ≤ k) ∧ Aside0 (wc.heap[gb301]? = some (.cells #[.int .i64 a0_0, (.slice A0_1 l0_1.length c0_1), (.slice A0_2 l0_2.length c0_2), (.slice A0_3 l0_3.length c0_3), .int .i64 a0_4] 28 (0, 0))) ∧ Aside0 (Below w.heap.size w wc))
 case first =>
  have H := HC2.out; clear HC2
  by_cases c4 : a0_0 < 1
  ·rw [if_pos c4] at H
   have c4b0 : decide (a0_0 < 1) = true := decide_eq_true c4; clear c4
   (first | rw [c4b0] | (simp only [i64_w, i32_w]; rw [c4b0]) | skip)
   have H' := Aside0.mk H; clear H; have hcz5_0 : w3.cell? ⟨gb301, 0, none⟩ = some (.int .i64 a0_0) := (blk_cell BK301.out 0).trans rfl; have hcz5_1 : w3.cell? ⟨gb301, 1, none⟩ = some (.slice A0_1 l0_1.length c0_1) := (blk_cell BK301.out 1).trans rfl; have hcz5_2 : w3.cell? ⟨gb301, 2, none⟩ = some (.slice A0_2 l0_2.length c0_2) := (blk_cell BK301.out 2).trans rfl; have hcz5_3 : w3.cell? ⟨gb301, 3, none⟩ = some (.slice A0_3 l0_3.length c0_3) := (blk_cell BK301.out 3).trans rfl; have hcz5_4 : w3.cell? ⟨gb301, 4, none⟩ = some (.int .i64 a0_4) := (blk_cell BK301.out 4).trans rfl; have hfz5_0 := blk_frozen BK301.out
   go_wp2
   go_meet
   case rel => exact ⟨_, (true), (by first | rfl | (simp; done) | (simp [*]; done)), H', ⟨by first | omega | exact Nat.le_refl _⟩, ⟨blk_u <| BK301.out⟩, ⟨below_v HB.out⟩⟩
  ·rw [if_neg c4] at H
   have c4b0 : decide (a0_0 < 1) = false := decide_eq_false c4; clear c4
   (first | rw [c4b0] | (simp only [i64_w, i32_w]; rw [c4b0]) | skip)
   by_cases c6 : a0_0 > 8
   ·rw [if_pos c6] at H
    have c6b0 : decide (8 < a0_0) = true := decide_eq_true c6; clear c6; have H' := Aside0.mk H; clear H; have hcz7_0 : w3.cell? ⟨gb301, 0, none⟩ = some (.int .i64 a0_0) := (blk_cell BK301.out 0).trans rfl; have hcz7_1 : w3.cell? ⟨gb301, 1, none⟩ = some (.slice A0_1 l0_1.length c0_1) := (blk_cell BK301.out 1).trans rfl; have hcz7_2 : w3.cell? ⟨gb301, 2, none⟩ = some (.slice A0_2 l0_2.length c0_2) := (blk_cell BK301.out 2).trans rfl; have hcz7_3 : w3.cell? ⟨gb301, 3, none⟩ = some (.slice A0_3 l0_3.length c0_3) := (blk_cell BK301.out 3).trans rfl; have hcz7_4 : w3.cell? ⟨gb301, 4, none⟩ = some (.int .i64 a0_4) := (blk_cell BK301.out 4).trans rfl; have hfz7_0 := blk_frozen BK301.out
    go_wp2
    go_meet
    case rel => exact ⟨_, (true), (by first | rfl | (simp; done) | (simp [*]; done)), H', ⟨by first | omega | exact Nat.le_refl _⟩, ⟨blk_u <| BK301.out⟩, ⟨below_v HB.out⟩⟩
   ·rw [if_neg c6] at H
    have c6b0 : decide (8 < a0_0) = false := decide_eq_false c6; clear c6
    by_cases c8 : (l0_1.length : Int) = 0
    ·rw [if_pos c8] at H
     have c8b0 : ((l0_1.length : Int) == 0) = true := beq_iff_eq.mpr c8; have c8b1 : ((l0_1.length : Int) != 0) = false := bne_eq_false_iff_eq.mpr c8; clear c8; have H' := Aside0.mk H; clear H; have hcz9_0 : w3.cell? ⟨gb301, 0, none⟩ = some (.int .i64 a0_0) := (blk_cell BK301.out 0).trans rfl; have hcz9_1 : w3.cell? ⟨gb301, 1, none⟩ = some (.slice A0_1 l0_1.length c0_1) := (blk_cell BK301.out 1).trans rfl; have hcz9_2 : w3.cell? ⟨gb301, 2, none⟩ = some (.slice A0_2 l0_2.length c0_2) := (blk_cell BK301.out 2).trans rfl; have hcz9_3 : w3.cell? ⟨gb301, 3, none⟩ = some (.slice A0_3 l0_3.length c0_3) := (blk_cell BK301.out 3).trans rfl; have hcz9_4 : w3.cell? ⟨gb301, 4, none⟩ = some (.int .i64 a0_4) := (blk_cell BK301.out 4).trans rfl; have hfz9_0 := blk_frozen BK301.out
     go_wp2
     go_meet
     case rel => exact ⟨_, (true), (by first | rfl | (simp; done) | (simp [*]; done)), H', ⟨by first | omega | exact Nat.le_refl _⟩, ⟨blk_u <| BK301.out⟩, ⟨below_v HB.out⟩⟩
    ·rw [if_neg c8] at H
     have c8b0 : ((l0_1.length : Int) == 0) = false := beq_eq_false_iff_ne.mpr c8; have c8b1 : ((l0_1.length : Int) != 0) = true := bne_iff_ne.mpr c8
     have c8b2 : ¬ (l0_1 = []) := fun h_ => c8 (by rw [h_]; rfl)
     by_cases c10 : (l0_1.length : Int) > 16
     ·rw [if_pos c10] at H
      have c10b0 : decide (16 < (l0_1.length : Int)) = true := decide_eq_true c10; have c10b1 : decide (16 < l0_1.length) = true := decide_eq_true (by omega); clear c10; have H' := Aside0.mk H; clear H; have hcz11_0 : w3.cell? ⟨gb301, 0, none⟩ = some (.int .i64 a0_0) := (blk_cell BK301.out 0).trans rfl; have hcz11_1 : w3.cell? ⟨gb301, 1, none⟩ = some (.slice A0_1 l0_1.length c0_1) := (blk_cell BK301.out 1).trans rfl; have hcz11_2 : w3.cell? ⟨gb301, 2, none⟩ = some (.slice A0_2 l0_2.length c0_2) := (blk_cell BK301.out 2).trans rfl; have hcz11_3 : w3.cell? ⟨gb301, 3, none⟩ = some (.slice A0_3 l0_3.length c0_3) := (blk_cell BK301.out 3).trans rfl; have hcz11_4 : w3.cell? ⟨gb301, 4, none⟩ = some (.int .i64 a0_4) := (blk_cell BK301.out 4).trans rfl; have hfz11_0 := blk_frozen BK301.out
      go_wp2
      go_meet
      case rel => exact ⟨_, (true), (by first | rfl | (simp; done) | (simp [*]; done)), H', ⟨by first | omega | exact Nat.le_refl _⟩, ⟨blk_u <| BK301.out⟩, ⟨below_v HB.out⟩⟩
     ·rw [if_neg c10] at H
      have c10b0 : decide (16 < (l0_1.length : Int)) = false := decide_eq_false c10; have c10b1 : decide (16 < l0_1.length) = false := decide_eq_false (by omega); clear c10
      by_cases c12 : (l0_2.length : Int) > 64
      ·rw [if_pos c12] at H
       have c12b0 : decide (64 < (l0_2.length : Int)) = true := decide_eq_true c12; have c12b1 : decide (64 < l0_2.length) = true := decide_eq_true (by omega); clear c12; have H' := Aside0.mk H; clear H; have hcz13_0 : w3.cell? ⟨gb301, 0, none⟩ = some (.int .i64 a0_0) := (blk_cell BK301.out 0).trans rfl; have hcz13_1 : w3.cell? ⟨gb301, 1, none⟩ = some (.slice A0_1 l0_1.length c0_1) := (blk_cell BK301.out 1).trans rfl; have hcz13_2 : w3.cell? ⟨gb301, 2, none⟩ = some (.slice A0_2 l0_2.length c0_2) := (blk_cell BK301.out 2).trans rfl; have hcz13_3 : w3.cell? ⟨gb301, 3, none⟩ = some (.slice A0_3 l0_3.length c0_3) := (blk_cell BK301.out 3).trans rfl; have hcz13_4 : w3.cell? ⟨gb301, 4, none⟩ = some (.int .i64 a0_4) := (blk_cell BK301.out 4).trans rfl; have hfz13_0 := blk_frozen BK301.out
       go_wp2
       go_meet
       case rel => exact ⟨_, (true), (by first | rfl | (simp; done) | (simp [*]; done)), H', ⟨by first | omega | exact Nat.le_refl _⟩, ⟨blk_u <| BK301.out⟩, ⟨below_v HB.out⟩⟩
      ·rw [if_neg c12] at H
       have c12b0 : decide (64 < (l0_2.length : Int)) = false := decide_eq_false c12; have c12b1 : decide (64 < l0_2.length) = false := decide_eq_false (by omega); clear c12; have H' := Aside0.mk H; clear H; have hcz14_0 : w3.cell? ⟨gb301, 0, none⟩ = some (.int .i64 a0_0) := (blk_cell BK301.out 0).trans rfl; have hcz14_1 : w3.cell? ⟨gb301, 1, none⟩ = some (.slice A0_1 l0_1.length c0_1) := (blk_cell BK301.out 1).trans rfl; have hcz14_2 : w3.cell? ⟨gb301, 2, none⟩ = some (.slice A0_2 l0_2.length c0_2) := (blk_cell BK301.out 2).trans rfl; have hcz14_3 : w3.cell? ⟨gb301, 3, none⟩ = some (.slice A0_3 l0_3.length c0_3) := (blk_cell BK301.out 3).trans rfl; have hcz14_4 : w3.cell? ⟨gb301, 4, none⟩ = some (.int .i64 a0_4) := (blk_cell BK301.out 4).trans rfl; have hfz14_0 := blk_frozen BK301.out
       go_wp2
       go_meet
       case rel => exact ⟨_, (decide ((l0_3.length : Int) > 64)), (by first | rfl | (simp; done) | (simp [*]; done)), H', ⟨by first | omega | exact Nat.le_refl _⟩, ⟨blk_u <| BK301.out⟩, ⟨below_v HB.out⟩⟩
 case rest =>
  clear HC2; obtain ⟨kq, x34_1, rfl, HA, HJ1, BK301, HB⟩ := hcut
  cases kq with
  | zero => exact absurd HA.out (by simp [catenaryref07_RightOp.j0])
  | succ kj1 =>
   have H := HA.out; clear HA; simp only [catenaryref07_RightOp.j0] at H
   by_cases c15 : x34_1 = true
   ·subst c15
    have H1 : (some false) = some r := by rw [if_pos rfl] at H; exact H
    clear H; have H := H1; clear H1; obtain rfl := Option.some.inj H
    go_wp2
    go_ret
    exact ⟨by first | rfl | (simp [errW_none, errW_some] <;> rfl) | (simp [*, errW_none, errW_some] <;> rfl), below_v HB.out⟩
   ·replace c15 := Bool.eq_false_iff.mpr c15
    subst c15
    have H1 : (if a0_0 = 2 then (if (l0_3.length : Int) = 0 then (some (a0_4 == 0)) else (some false)) else (if a0_0 = 3 then (some (a0_4 == 0)) else (if a0_0 = 5 then (catenaryref07_RightOp.j1 kj1 (a0_0 == 5) a0_0 l0_1 l0_2 l0_3 a0_4) else (catenaryref07_RightOp.j1 kj1 (a0_0 == 6) a0_0 l0_1 l0_2 l0_3 a0_4)))) = some r := by rw [if_neg (show ¬ (false = true) by decide)] at H; exact H
    clear H; have H := H1; clear H1
    by_cases c16 : a0_0 = 2
    ·rw [if_pos c16] at H
     have c16b0 : (a0_0 == 2) = true := beq_iff_eq.mpr c16; have c16b1 : (a0_0 != 2) = false := bne_eq_false_iff_eq.mpr c16; clear c16
     by_cases c17 : (l0_3.length : Int) = 0
     ·rw [if_pos c17] at H
      have c17b0 : ((l0_3.length : Int) == 0) = true := beq_iff_eq.mpr c17; have c17b1 : ((l0_3.length : Int) != 0) = false := bne_eq_false_iff_eq.mpr c17; clear c17; obtain rfl := Option.some.inj H; have hcz18_0 : wc.cell? ⟨gb301, 0, none⟩ = some (.int .i64 a0_0) := (blk_cell BK301.out 0).trans rfl; have hcz18_1 : wc.cell? ⟨gb301, 1, none⟩ = some (.slice A0_1 l0_1.length c0_1) := (blk_cell BK301.out 1).trans rfl; have hcz18_2 : wc.cell? ⟨gb301, 2, none⟩ = some (.slice A0_2 l0_2.length c0_2) := (blk_cell BK301.out 2).trans rfl; have hcz18_3 : wc.cell? ⟨gb301, 3, none⟩ = some (.slice A0_3 l0_3.length c0_3) := (blk_cell BK301.out 3).trans rfl; have hcz18_4 : wc.cell? ⟨gb301, 4, none⟩ = some (.int .i64 a0_4) := (blk_cell BK301.out 4).trans rfl; have hfz18_0 := blk_frozen BK301.out
      go_wp2
      go_ret
      exact ⟨by first | rfl | (simp [errW_none, errW_some] <;> rfl) | (simp [*, errW_none, errW_some] <;> rfl), below_v HB.out⟩
     ·rw [if_neg c17] at H
      have c17b0 : ((l0_3.length : Int) == 0) = false := beq_eq_false_iff_ne.mpr c17; have c17b1 : ((l0_3.length : Int) != 0) = true := bne_iff_ne.mpr c17
      have c17b2 : ¬ (l0_3 = []) := fun h_ => c17 (by rw [h_]; rfl)
      obtain rfl := Option.some.inj H; have hcz19_0 : wc.cell? ⟨gb301, 0, none⟩ = some (.int .i64 a0_0) := (blk_cell BK301.out 0).trans rfl; have hcz19_1 : wc.cell? ⟨gb301, 1, none⟩ = some (.slice A0_1 l0_1.length c0_1) := (blk_cell BK301.out 1).trans rfl; have hcz19_2 : wc.cell? ⟨gb301, 2, none⟩ = some (.slice A0_2 l0_2.length c0_2) := (blk_cell BK301.out 2).trans rfl; have hcz19_3 : wc.cell? ⟨gb301, 3, none⟩ = some (.slice A0_3 l0_3.length c0_3) := (blk_cell BK301.out 3).trans rfl; have hcz19_4 : wc.cell? ⟨gb301, 4, none⟩ = some (.int .i64 a0_4) := (blk_cell BK301.out 4).trans rfl; have hfz19_0 := blk_frozen BK301.out
      go_wp2
      go_ret
      exact ⟨by first | rfl | (simp [errW_none, errW_some] <;> rfl) | (simp [*, errW_none, errW_some] <;> rfl), below_v HB.out⟩
    ·rw [if_neg c16] at H
     have c16b0 : (a0_0 == 2) = false := beq_eq_false_iff_ne.mpr c16; have c16b1 : (a0_0 != 2) = true := bne_iff_ne.mpr c16
     by_cases c20 : a0_0 = 3
     ·rw [if_pos c20] at H
      have c20b0 : (a0_0 == 3) = true := beq_iff_eq.mpr c20; have c20b1 : (a0_0 != 3) = false := bne_eq_false_iff_eq.mpr c20; clear c20; obtain rfl := Option.some.inj H; have hcz21_0 : wc.cell? ⟨gb301, 0, none⟩ = some (.int .i64 a0_0) := (blk_cell BK301.out 0).trans rfl; have hcz21_1 : wc.cell? ⟨gb301, 1, none⟩ = some (.slice A0_1 l0_1.length c0_1) := (blk_cell BK301.out 1).trans rfl; have hcz21_2 : wc.cell? ⟨gb301, 2, none⟩ = some (.slice A0_2 l0_2.length c0_2) := (blk_cell BK301.out 2).trans rfl; have hcz21_3 : wc.cell? ⟨gb301, 3, none⟩ = some (.slice A0_3 l0_3.length c0_3) := (blk_cell BK301.out 3).trans rfl; have hcz21_4 : wc.cell? ⟨gb301, 4, none⟩ = some (.int .i64 a0_4) := (blk_cell BK301.out 4).trans rfl; have hfz21_0 := blk_frozen BK301.out
      go_wp2
      go_ret
      exact ⟨by first | rfl | (simp [errW_none, errW_some] <;> rfl) | (simp [*, errW_none, errW_some] <;> rfl), below_v HB.out⟩
     ·rw [if_neg c20] at H
      have c20b0 : (a0_0 == 3) = false := beq_eq_false_iff_ne.mpr c20; have c20b1 : (a0_0 != 3) = true := bne_iff_ne.mpr c20; have HC22 := Aside0.mk H; clear H; have hcz23_0 : wc.cell? ⟨gb301, 0, none⟩ = some (.int .i64 a0_0) := (blk_cell BK301.out 0).trans rfl; have hcz23_1 : wc.cell? ⟨gb301, 1, none⟩ = some (.slice A0_1 l0_1.length c0_1) := (blk_cell BK301.out 1).trans rfl; have hcz23_2 : wc.cell? ⟨gb301, 2, none⟩ = some (.slice A0_2 l0_2.length c0_2) := (blk_cell BK301.out 2).trans rfl; have hcz23_3 : wc.cell? ⟨gb301, 3, none⟩ = some (.slice A0_3 l0_3.length c0_3) := (blk_cell BK301.out 3).trans rfl; have hcz23_4 : wc.cell? ⟨gb301, 4, none⟩ = some (.int .i64 a0_4) := (blk_cell BK301.out 4).trans rfl; have hfz23_0 := blk_frozen BK301.out
      go_upto_if 53 with (fail)
      go_cut [53] (fun v53 wc => ∃ (kq : Nat) (x53_21 : Bool), v53 = .bool x53_21 ∧ Aside0 (catenaryref07_RightOp.j1 kq x53_21 a0_0 l0_1 l0_2 l0_3 a0_4 = some r) ∧ Aside0 (kq ≤ kj1) ∧ Aside0 (wc.heap[gb301]? = some (.cells #[.int .i64 a0_0, (.slice A0_1 l0_1.length c0_1), (.slice A0_2 l0_2.length c0_2), (.slice A0_3 l0_3.length c0_3), .int .i64 a0_4] 28 (0, 0))) ∧ Aside0 (Below w.heap.size w wc))
      case first =>
       have H := HC22.out; clear HC22
       by_cases c24 : a0_0 = 5
       ·rw [if_pos c24] at H
        have c24b0 : (a0_0 == 5) = true := beq_iff_eq.mpr c24; have c24b1 : (a0_0 != 5) = false := bne_eq_false_iff_eq.mpr c24; clear c24
        (first | rw [c24b0] | (simp only [i64_w, i32_w]; rw [c24b0]) | skip)
        have H' := Aside0.mk H; clear H
        go_wp2
        go_meet
        case rel => exact ⟨_, ((a0_0 == 5)), (by first | rfl | (simp; done) | (simp [*]; done)), H', ⟨by have := HJ1.out; first | omega | exact Nat.le_refl _⟩, ⟨blk_u <| BK301.out⟩, ⟨below_v HB.out⟩⟩
       ·rw [if_neg c24] at H
        have c24b0 : (a0_0 == 5) = false := beq_eq_false_iff_ne.mpr c24; have c24b1 : (a0_0 != 5) = true := bne_iff_ne.mpr c24
        (first | rw [c24b0] | (simp only [i64_w, i32_w]; rw [c24b0]) | skip)
        have H' := Aside0.mk H; clear H
        go_wp2
        go_meet
        case rel => exact ⟨_, ((a0_0 == 6)), (by first | rfl | (simp; done) | (simp [*]; done)), H', ⟨by have := HJ1.out; first | omega | exact Nat.le_refl _⟩, ⟨blk_u <| BK301.out⟩, ⟨below_v HB.out⟩⟩
      case rest =>
       clear HC22
       try clear c15
       try clear c16
       try clear c16b0
       try clear c16b1
       try clear c20
       try clear c20b0
       try clear c20b1
       try clear hcz23_0
       try clear hcz23_1
       try clear hcz23_2
       try clear hcz23_3
       try clear hcz23_4
       try clear hfz23_0
       obtain ⟨kq, x53_21, rfl, HA, HJ21, BK301, HB⟩ := hcut
       cases kq with
       | zero => exact absurd HA.out (by simp [catenaryref07_RightOp.j1])
       | succ kj21 =>
        have H := HA.out; clear HA; simp only [catenaryref07_RightOp.j1] at H
        by_cases c25 : x53_21 = true
        ·subst c25
         have H1 : (if (l0_2.length : Int) = 0 then (if (l0_3.length : Int) = 0 then (if a0_4 ≥ 1 then (some (decide (a0_4 ≤ 1000))) else (some false)) else (some false)) else (some false)) = some r := by rw [if_pos rfl] at H; exact H
         clear H; have H := H1; clear H1
         by_cases c26 : (l0_2.length : Int) = 0
         ·rw [if_pos c26] at H
          have c26b0 : ((l0_2.length : Int) == 0) = true := beq_iff_eq.mpr c26; have c26b1 : ((l0_2.length : Int) != 0) = false := bne_eq_false_iff_eq.mpr c26; clear c26
          by_cases c27 : (l0_3.length : Int) = 0
          ·rw [if_pos c27] at H
           have c27b0 : ((l0_3.length : Int) == 0) = true := beq_iff_eq.mpr c27; have c27b1 : ((l0_3.length : Int) != 0) = false := bne_eq_false_iff_eq.mpr c27; clear c27
           by_cases c28 : a0_4 ≥ 1
           ·rw [if_pos c28] at H
            have c28b0 : decide (1 ≤ a0_4) = true := decide_eq_true c28; clear c28; obtain rfl := Option.some.inj H; have hcz29_0 : wc.cell? ⟨gb301, 0, none⟩ = some (.int .i64 a0_0) := (blk_cell BK301.out 0).trans rfl; have hcz29_1 : wc.cell? ⟨gb301, 1, none⟩ = some (.slice A0_1 l0_1.length c0_1) := (blk_cell BK301.out 1).trans rfl; have hcz29_2 : wc.cell? ⟨gb301, 2, none⟩ = some (.slice A0_2 l0_2.length c0_2) := (blk_cell BK301.out 2).trans rfl; have hcz29_3 : wc.cell? ⟨gb301, 3, none⟩ = some (.slice A0_3 l0_3.length c0_3) := (blk_cell BK301.out 3).trans rfl; have hcz29_4 : wc.cell? ⟨gb301, 4, none⟩ = some (.int .i64 a0_4) := (blk_cell BK301.out 4).trans rfl; have hfz29_0 := blk_frozen BK301.out
            go_wp2
            go_ret
            exact ⟨by first | rfl | (simp [errW_none, errW_some] <;> rfl) | (simp [*, errW_none, errW_some] <;> rfl), below_v HB.out⟩
           ·rw [if_neg c28] at H
            have c28b0 : decide (1 ≤ a0_4) = false := decide_eq_false c28; clear c28; obtain rfl := Option.some.inj H; have hcz30_0 : wc.cell? ⟨gb301, 0, none⟩ = some (.int .i64 a0_0) := (blk_cell BK301.out 0).trans rfl; have hcz30_1 : wc.cell? ⟨gb301, 1, none⟩ = some (.slice A0_1 l0_1.length c0_1) := (blk_cell BK301.out 1).trans rfl; have hcz30_2 : wc.cell? ⟨gb301, 2, none⟩ = some (.slice A0_2 l0_2.length c0_2) := (blk_cell BK301.out 2).trans rfl; have hcz30_3 : wc.cell? ⟨gb301, 3, none⟩ = some (.slice A0_3 l0_3.length c0_3) := (blk_cell BK301.out 3).trans rfl; have hcz30_4 : wc.cell? ⟨gb301, 4, none⟩ = some (.int .i64 a0_4) := (blk_cell BK301.out 4).trans rfl; have hfz30_0 := blk_frozen BK301.out
            go_wp2
            go_ret
            exact ⟨by first | rfl | (simp [errW_none, errW_some] <;> rfl) | (simp [*, errW_none, errW_some] <;> rfl), below_v HB.out⟩
          ·rw [if_neg c27] at H
           have c27b0 : ((l0_3.length : Int) == 0) = false := beq_eq_false_iff_ne.mpr c27; have c27b1 : ((l0_3.length : Int) != 0) = true := bne_iff_ne.mpr c27
           have c27b2 : ¬ (l0_3 = []) := fun h_ => c27 (by rw [h_]; rfl)
           obtain rfl := Option.some.inj H; have hcz31_0 : wc.cell? ⟨gb301, 0, none⟩ = some (.int .i64 a0_0) := (blk_cell BK301.out 0).trans rfl; have hcz31_1 : wc.cell? ⟨gb301, 1, none⟩ = some (.slice A0_1 l0_1.length c0_1) := (blk_cell BK301.out 1).trans rfl; have hcz31_2 : wc.cell? ⟨gb301, 2, none⟩ = some (.slice A0_2 l0_2.length c0_2) := (blk_cell BK301.out 2).trans rfl; have hcz31_3 : wc.cell? ⟨gb301, 3, none⟩ = some (.slice A0_3 l0_3.length c0_3) := (blk_cell BK301.out 3).trans rfl; have hcz31_4 : wc.cell? ⟨gb301, 4, none⟩ = some (.int .i64 a0_4) := (blk_cell BK301.out 4).trans rfl; have hfz31_0 := blk_frozen BK301.out
           go_wp2
           go_ret
           exact ⟨by first | rfl | (simp [errW_none, errW_some] <;> rfl) | (simp [*, errW_none, errW_some] <;> rfl), below_v HB.out⟩
         ·rw [if_neg c26] at H
          have c26b0 : ((l0_2.length : Int) == 0) = false := beq_eq_false_iff_ne.mpr c26; have c26b1 : ((l0_2.length : Int) != 0) = true := bne_iff_ne.mpr c26
          have c26b2 : ¬ (l0_2 = []) := fun h_ => c26 (by rw [h_]; rfl)
          obtain rfl := Option.some.inj H; have hcz32_0 : wc.cell? ⟨gb301, 0, none⟩ = some (.int .i64 a0_0) := (blk_cell BK301.out 0).trans rfl; have hcz32_1 : wc.cell? ⟨gb301, 1, none⟩ = some (.slice A0_1 l0_1.length c0_1) := (blk_cell BK301.out 1).trans rfl; have hcz32_2 : wc.cell? ⟨gb301, 2, none⟩ = some (.slice A0_2 l0_2.length c0_2) := (blk_cell BK301.out 2).trans rfl; have hcz32_3 : wc.cell? ⟨gb301, 3, none⟩ = some (.slice A0_3 l0_3.length c0_3) := (blk_cell BK301.out 3).trans rfl; have hcz32_4 : wc.cell? ⟨gb301, 4, none⟩ = some (.int .i64 a0_4) := (blk_cell BK301.out 4).trans rfl; have hfz32_0 := blk_frozen BK301.out
          go_wp2
          go_ret
          exact ⟨by first | rfl | (simp [errW_none, errW_some] <;> rfl) | (simp [*, errW_none, errW_some] <;> rfl), below_v HB.out⟩
        ·replace c25 := Bool.eq_false_iff.mpr c25
         subst c25
         have H1 : (if (l0_2.length : Int) = 0 then (if (l0_3.length : Int) = 0 then (some (a0_4 == 0)) else (some false)) else (some false)) = some r := by rw [if_neg (show ¬ (false = true) by decide)] at H; exact H
         clear H; have H := H1; clear H1
         by_cases c33 : (l0_2.length : Int) = 0
         ·rw [if_pos c33] at H
          have c33b0 : ((l0_2.length : Int) == 0) = true := beq_iff_eq.mpr c33; have c33b1 : ((l0_2.length : Int) != 0) = false := bne_eq_false_iff_eq.mpr c33; clear c33
          by_cases c34 : (l0_3.length : Int) = 0
          ·rw [if_pos c34] at H
           have c34b0 : ((l0_3.length : Int) == 0) = true := beq_iff_eq.mpr c34; have c34b1 : ((l0_3.length : Int) != 0) = false := bne_eq_false_iff_eq.mpr c34; clear c34; obtain rfl := Option.some.inj H; have hcz35_0 : wc.cell? ⟨gb301, 0, none⟩ = some (.int .i64 a0_0) := (blk_cell BK301.out 0).trans rfl; have hcz35_1 : wc.cell? ⟨gb301, 1, none⟩ = some (.slice A0_1 l0_1.length c0_1) := (blk_cell BK301.out 1).trans rfl; have hcz35_2 : wc.cell? ⟨gb301, 2, none⟩ = some (.slice A0_2 l0_2.length c0_2) := (blk_cell BK301.out 2).trans rfl; have hcz35_3 : wc.cell? ⟨gb301, 3, none⟩ = some (.slice A0_3 l0_3.length c0_3) := (blk_cell BK301.out 3).trans rfl; have hcz35_4 : wc.cell? ⟨gb301, 4, none⟩ = some (.int .i64 a0_4) := (blk_cell BK301.out 4).trans rfl; have hfz35_0 := blk_frozen BK301.out
           go_wp2
           go_ret
           exact ⟨by first | rfl | (simp [errW_none, errW_some] <;> rfl) | (simp [*, errW_none, errW_some] <;> rfl), below_v HB.out⟩
          ·rw [if_neg c34] at H
           have c34b0 : ((l0_3.length : Int) == 0) = false := beq_eq_false_iff_ne.mpr c34; have c34b1 : ((l0_3.length : Int) != 0) = true := bne_iff_ne.mpr c34
           have c34b2 : ¬ (l0_3 = []) := fun h_ => c34 (by rw [h_]; rfl)
           obtain rfl := Option.some.inj H; have hcz36_0 : wc.cell? ⟨gb301, 0, none⟩ = some (.int .i64 a0_0) := (blk_cell BK301.out 0).trans rfl; have hcz36_1 : wc.cell? ⟨gb301, 1, none⟩ = some (.slice A0_1 l0_1.length c0_1) := (blk_cell BK301.out 1).trans rfl; have hcz36_2 : wc.cell? ⟨gb301, 2, none⟩ = some (.slice A0_2 l0_2.length c0_2) := (blk_cell BK301.out 2).trans rfl; have hcz36_3 : wc.cell? ⟨gb301, 3, none⟩ = some (.slice A0_3 l0_3.length c0_3) := (blk_cell BK301.out 3).trans rfl; have hcz36_4 : wc.cell? ⟨gb301, 4, none⟩ = some (.int .i64 a0_4) := (blk_cell BK301.out 4).trans rfl; have hfz36_0 := blk_frozen BK301.out
           go_wp2
           go_ret
           exact ⟨by first | rfl | (simp [errW_none, errW_some] <;> rfl) | (simp [*, errW_none, errW_some] <;> rfl), below_v HB.out⟩
         ·rw [if_neg c33] at H
          have c33b0 : ((l0_2.length : Int) == 0) = false := beq_eq_false_iff_ne.mpr c33; have c33b1 : ((l0_2.length : Int) != 0) = true := bne_iff_ne.mpr c33
          have c33b2 : ¬ (l0_2 = []) := fun h_ => c33 (by rw [h_]; rfl)
          obtain rfl := Option.some.inj H; have hcz37_0 : wc.cell? ⟨gb301, 0, none⟩ = some (.int .i64 a0_0) := (blk_cell BK301.out 0).trans rfl; have hcz37_1 : wc.cell? ⟨gb301, 1, none⟩ = some (.slice A0_1 l0_1.length c0_1) := (blk_cell BK301.out 1).trans rfl; have hcz37_2 : wc.cell? ⟨gb301, 2, none⟩ = some (.slice A0_2 l0_2.length c0_2) := (blk_cell BK301.out 2).trans rfl; have hcz37_3 : wc.cell? ⟨gb301, 3, none⟩ = some (.slice A0_3 l0_3.length c0_3) := (blk_cell BK301.out 3).trans rfl; have hcz37_4 : wc.cell? ⟨gb301, 4, none⟩ = some (.int .i64 a0_4) := (blk_cell BK301.out 4).trans rfl; have hfz37_0 := blk_frozen BK301.out
          go_wp2
          go_ret
          exact ⟨by first | rfl | (simp [errW_none, errW_some] <;> rfl) | (simp [*, errW_none, errW_some] <;> rfl), below_v HB.out⟩

/-! ### catenaryref01_Int: function 42 -/
mutual
def catenaryref01_Int.j0 : Nat → Int → Bool → Option (List Int × Int)
 | 0, _, _ => none
 | k + 1, x0, x11 => if x11 = true then (some (([] : List Int), 14)) else (if x0 < 128 then (some ((([(x0) % 256] : List Int)), 0)) else ((catenaryref01_Int.f k (wrap64 (Int.tdiv x0 128))).bind fun bt305 => ((some (([(wrap64 ((Int.tmod x0 128) + 128)) % 256] : List Int) : List Int)).bind fun y309 => (if y309.length + bt305.1.length < 140737488355328 then (some ((y309 ++ bt305.1), 0)) else (none)))))
def catenaryref01_Int.f : Nat → Int → Option (List Int × Int)
 | 0, _ => none
 | k + 1, a0 => if a0 < 0 then (catenaryref01_Int.j0 k a0 true) else (catenaryref01_Int.j0 k a0 (decide (a0 > 2147483647)))
end
theorem catenaryref01_Int.mono_l : ∀ k, (∀ y0, LeO (catenaryref01_Int.f k y0) (catenaryref01_Int.f (k + 1) y0)) ∧ (∀ y0 y1, LeO (catenaryref01_Int.j0 k y0 y1) (catenaryref01_Int.j0 (k + 1) y0 y1))
 | 0 => ⟨fun _ r h => by simp [catenaryref01_Int.f] at h, fun _ _ r h => by simp [catenaryref01_Int.j0] at h⟩
 | k + 1 => by
  obtain ⟨ih0, ih1⟩ := catenaryref01_Int.mono_l k; refine ⟨?_, ?_⟩
  ·intro y0
   unfold catenaryref01_Int.f
   repeat' first
   | (with_reducible exact ih0 _)
   | (with_reducible exact ih1 _ _)
   | (with_reducible exact LeO.refl _)
   | (with_reducible exact LeO.none _)
   | (with_reducible refine LeO.ite ?_ ?_)
   | (with_reducible refine LeO.bind ?_ (fun _ => ?_))
   | exact ih0 _
   | exact ih1 _ _
   | exact LeO.none _
   | refine LeO.ite ?_ ?_
   | refine LeO.bind ?_ (fun _ => ?_)
  ·intro y0 y1
   unfold catenaryref01_Int.j0
   repeat' first
   | (with_reducible exact ih0 _)
   | (with_reducible exact ih1 _ _)
   | (with_reducible exact LeO.refl _)
   | (with_reducible exact LeO.none _)
   | (with_reducible refine LeO.ite ?_ ?_)
   | (with_reducible refine LeO.bind ?_ (fun _ => ?_))
   | exact ih0 _
   | exact ih1 _ _
   | exact LeO.none _
   | refine LeO.ite ?_ ?_
   | refine LeO.bind ?_ (fun _ => ?_)
theorem catenaryref01_Int.mono : ∀ a0 k, LeO (catenaryref01_Int.f k a0) (catenaryref01_Int.f (k + 1) a0) := by
 intro a0 k; obtain ⟨ih0, ih1⟩ := catenaryref01_Int.mono_l k; exact ih0 a0
set_option maxHeartbeats 8000000 in
set_option maxRecDepth 100000 in
theorem catenaryref01_Int.calls (k : Nat) : ∀ (a0 : Int) (r1 : List Int) (r2 : Int) (w : World) (h : catenaryref01_Int.f k a0 = some (r1, r2)),
  Calls Try.prog 42 #[.int .i64 a0] w fun e w' => ∃ v0_ : Value, e = .returned (.tuple #[v0_, .int .i64 r2]) ∧ Kd.R (Kd.int .u8) 5 w' w.heap.size (fun _ => True) v0_ r1 ∧ Below w.heap.size w w' := by
 induction k using Nat.strongRecOn with
 | _ k ih =>
 intro a0 r1 r2 w h
 cases k with
 | zero => exact absurd h (by simp [catenaryref01_Int.f])
 | succ k =>
 simp only [catenaryref01_Int.f] at h; have HB := Aside0.mk (Below.refl w.heap.size w); have H : (if a0 < 0 then (catenaryref01_Int.j0 k a0 true) else (catenaryref01_Int.j0 k a0 (decide (a0 > 2147483647)))) = some (r1, r2) := h; clear h; have HC2 := Aside0.mk H; clear H
 go_enter Try.func42, Try.ntmps42
 go_upto_region 1 with (fail)
 go_cut [11] (fun v11 wc => ∃ (kq : Nat) (x11_1 : Bool), v11 = .bool x11_1 ∧ Aside0 (catenaryref01_Int.j0 kq a0 x11_1 = some (r1, r2)) ∧ Aside0 (kq ≤ k) ∧ Aside0 (Below w.heap.size w wc))
 case first =>
  have H := HC2.out; clear HC2
  by_cases c3 : a0 < 0
  ·rw [if_pos c3] at H
   have c3b0 : decide (a0 < 0) = true := decide_eq_true c3; clear c3
   (first | rw [c3b0] | (simp only [i64_w, i32_w]; rw [c3b0]) | skip)
   have H' := Aside0.mk H; clear H
   go_wp2
   go_meet
   case rel => exact ⟨_, (true), (by first | rfl | (simp; done) | (simp [*]; done)), H', ⟨by first | omega | exact Nat.le_refl _⟩, ⟨below_v HB.out⟩⟩
  ·rw [if_neg c3] at H
   have c3b0 : decide (a0 < 0) = false := decide_eq_false c3; clear c3
   (first | rw [c3b0] | (simp only [i64_w, i32_w]; rw [c3b0]) | skip)
   have H' := Aside0.mk H; clear H
   go_wp2
   go_meet
   case rel => exact ⟨_, (decide (a0 > 2147483647)), (by first | rfl | (simp; done) | (simp [*]; done)), H', ⟨by first | omega | exact Nat.le_refl _⟩, ⟨below_v HB.out⟩⟩
 case rest =>
  clear HC2; obtain ⟨kq, x11_1, rfl, HA, HJ1, HB⟩ := hcut
  cases kq with
  | zero => exact absurd HA.out (by simp [catenaryref01_Int.j0])
  | succ kj1 =>
   have H := HA.out; clear HA; simp only [catenaryref01_Int.j0] at H
   by_cases c4 : x11_1 = true
   ·subst c4
    have H1 : (some (([] : List Int), 14)) = some (r1, r2) := by rw [if_pos rfl] at H; exact H
    clear H; have H := H1; clear H1; simp only [Option.some.injEq, Prod.mk.injEq] at H; obtain ⟨rfl, rfl⟩ := H
    go_wp2
    go_ret2
    exact ⟨_, by first | rfl | (simp [errW_none, errW_some] <;> rfl) | (simp [*, errW_none, errW_some] <;> rfl), by first | exact Kd.R_nil _ _ _ _ _ | exact Kd.N_nil _ _ _ _ _ | exact Kd.V_nil _ _ _ _ _ | exact Kd.Q_nil _ _ _ _ _ | exact Kd.S_nil _ _ _ _ _, below_v HB.out⟩
   ·replace c4 := Bool.eq_false_iff.mpr c4
    subst c4
    have H1 : (if a0 < 128 then (some ((([(a0) % 256] : List Int)), 0)) else ((catenaryref01_Int.f kj1 (wrap64 (Int.tdiv a0 128))).bind fun bt305 => ((some (([(wrap64 ((Int.tmod a0 128) + 128)) % 256] : List Int) : List Int)).bind fun y309 => (if y309.length + bt305.1.length < 140737488355328 then (some ((y309 ++ bt305.1), 0)) else (none))))) = some (r1, r2) := by rw [if_neg (show ¬ (false = true) by decide)] at H; exact H
    clear H; have H := H1; clear H1
    by_cases c5 : a0 < 128
    ·rw [if_pos c5] at H
     have c5b0 : decide (a0 < 128) = true := decide_eq_true c5; clear c5; obtain ⟨y302, hy302⟩ : ∃ y_ : List Int, y_ = (([(a0) % 256] : List Int)) := ⟨_, rfl⟩
     replace H : (some (y302, 0)) = some (r1, r2) := by first | (rw [hy302]; with_reducible exact H) | (have H2_ := (Option.bind_some _ _).symm.trans H; rw [hy302]; with_reducible exact H2_) | (have H2_ := (Option.bind_some _ _).symm.trans H; with_reducible exact H2_) | with_reducible exact H | (rw [hy302]; exact H) | exact H
     have Ny302 := Aside0.mk hy302; clear hy302; simp only [Option.some.injEq, Prod.mk.injEq] at H; obtain ⟨rfl, rfl⟩ := H
     go_wp2_with (first | ((with_reducible refine gate_dst (N := 16) rfl ?_); refine Kd.R_lit (Kd.int .u8) _ 5 ?hg (N := 16) ?hd (xs := ([(a0) % 256] : List Int)) (inner := [.int .u8 ((a0) % 256)]) (ok := fun _ => True) (okp := fun _ => True) ?hr ?hp (fun _ hk => hk) trivial (Below.refl _ _) (Nat.le_refl _) (by simp) ?_; (case hd => rfl); (case hg => rfl); (case hr => first | (go_simp; done) | (go_simp; rfl)); (case hp => exact (Reps.one (show Kd.M (Kd.int .u8) _ _ _ ((a0) % 256) [.int .u8 ((a0) % 256)] from rfl) (Reps.none _ _))); intro v303 w6 ho7 hb hg_ hnew_; clear hg_ hnew_; (first | rw [← Ny302.out] at ho7 | (simp only [Int.reduceToNat] at ho7; rw [← Ny302.out] at ho7)); have n0_ := Aside0.mk (Kd.R_lower ho7 (below_size (below_v HB.out))); have n1_ := Aside0.mk (below_step (below_v HB.out) hb); clear HB; have HO304 := n0_; have HB := n1_; clear n0_ n1_; clear hb ho7))
     go_ret2
     exact ⟨_, by first | rfl | (simp [errW_none, errW_some] <;> rfl) | (simp [*, errW_none, errW_some] <;> rfl), Kd.Ru <| HO304.out, below_v HB.out⟩
    ·rw [if_neg c5] at H
     have c5b0 : decide (a0 < 128) = false := decide_eq_false c5; clear c5; replace H := Option.bind_eq_some_iff.mp H; obtain ⟨⟨t305, t306⟩, A80, H⟩ := H; replace H : ((some (([(wrap64 ((Int.tmod a0 128) + 128)) % 256] : List Int) : List Int)).bind fun y309 => (if y309.length + t305.length < 140737488355328 then (some ((y309 ++ t305), 0)) else (none))) = some (r1, r2) := H; have A8 := Aside0.mk A80; clear A80; obtain ⟨y309, hy309⟩ : ∃ y_ : List Int, y_ = (([(wrap64 ((Int.tmod a0 128) + 128)) % 256] : List Int)) := ⟨_, rfl⟩
     replace H : (if y309.length + t305.length < 140737488355328 then (some ((y309 ++ t305), 0)) else (none)) = some (r1, r2) := by first | (rw [hy309]; with_reducible exact H) | (have H2_ := (Option.bind_some _ _).symm.trans H; rw [hy309]; with_reducible exact H2_) | (have H2_ := (Option.bind_some _ _).symm.trans H; with_reducible exact H2_) | with_reducible exact H | (rw [hy309]; exact H) | exact H
     have Ny309 := Aside0.mk hy309; clear hy309
     by_cases c9 : y309.length + t305.length < 140737488355328
     ·rw [if_pos c9] at H
      have LMc9 := Aside0.mk c9; clear c9; obtain ⟨y312, hy312⟩ : ∃ y_ : List Int, y_ = (y309 ++ t305) := ⟨_, rfl⟩
      replace H : (some (y312, 0)) = some (r1, r2) := by first | (rw [hy312]; with_reducible exact H) | (have H2_ := (Option.bind_some _ _).symm.trans H; rw [hy312]; with_reducible exact H2_) | (have H2_ := (Option.bind_some _ _).symm.trans H; with_reducible exact H2_) | with_reducible exact H | (rw [hy312]; exact H) | exact H
      have Ny312 := Aside0.mk hy312; clear hy312; simp only [Option.some.injEq, Prod.mk.injEq] at H; obtain ⟨rfl, rfl⟩ := H
      go_wp2_with (first | ((with_reducible refine gate_callee (f := 42) rfl ?_); refine goesL_ (some 20) rfl rfl Try.func42 (by kernel_rfl) rfl #[.int .i64 (wrap64 (Int.tdiv a0 128))] rfl (by (try simp only [List.map_toArray, List.map_cons, List.map_nil]); first | done | rfl | (simp only [List.length_drop, List.length_take]; rfl)) ?_; (with_reducible refine (ih kj1 (by have := HJ1.out; omega) (wrap64 (Int.tdiv a0 128)) t305 t306 _ A8.out).mono ?_); rintro e w10 ⟨v307, rfl, ho0, hb⟩; refine ⟨_, rfl, ?_⟩; have n0_ := Aside0.mk (Kd.R_lower ho0 (below_size (below_v HB.out))); have n1_ := Aside0.mk (below_step (below_v HB.out) hb); clear HB; have HO308 := n0_; have HB := n1_; clear n0_ n1_; (try clear hb); (try clear hb2); (try clear hk); (try clear hi); (try clear ho0)) | ((with_reducible refine gate_dst (N := 27) rfl ?_); refine Kd.R_lit (Kd.int .u8) _ 5 ?hg (N := 27) ?hd (xs := ([(wrap64 ((Int.tmod a0 128) + 128)) % 256] : List Int)) (inner := [.int .u8 ((wrap64 ((Int.tmod a0 128) + 128)) % 256)]) (ok := fun _ => True) (okp := fun _ => True) ?hr ?hp (fun _ hk => hk) trivial (Below.refl _ _) (Nat.le_refl _) (by simp) ?_; (case hd => rfl); (case hg => rfl); (case hr => first | (go_simp; done) | (go_simp; rfl)); (case hp => exact (Reps.one (show Kd.M (Kd.int .u8) _ _ _ ((wrap64 ((Int.tmod a0 128) + 128)) % 256) [.int .u8 ((wrap64 ((Int.tmod a0 128) + 128)) % 256)] from rfl) (Reps.none _ _))); intro v310 w11 ho12 hb hg_ hnew_; clear hg_ hnew_; (first | rw [← Ny309.out] at ho12 | (simp only [Int.reduceToNat] at ho12; rw [← Ny309.out] at ho12)); have n0_ := Aside0.mk (Kd.R_elder' (Kd.Ru <| HO308.out) (Kd.R_base ho12) hb); have n1_ := Aside0.mk (Kd.R_lower (Kd.R_new' ho12 (Kd.R_lt (Kd.Ru <| HO308.out))) (below_size (below_v HB.out))); have n2_ := Aside0.mk (below_step (below_v HB.out) hb); clear HO308; clear HB; have HO308 := n0_; have HO311 := n1_; have HB := n2_; clear n0_ n1_ n2_; clear hb ho12; obtain ⟨Ao14, co14, eo14⟩ := Kd.R_slice HO308.out; subst eo14) | ((with_reducible refine gate_builtin (b := .append) (xs := #[.tmp 27, .tmp 28]) rfl ?_); at_builtin; refine Kd.R_append_rows (Kd.int .u8) (w0 := w) w.heap.size rfl (.tmp 27) (.tmp 28) 24 5 (.int .u8 0) 1 rfl Try.underlying24 info5 rfl (by decide) (by omega) v310 y309 t305 _ _ _ (fun k_ => some k_ ≠ (.slice Ao14 t305.length co14 : Value).ownBlock) (fun _ => False) rfl rfl ?aO ?aR (fun _ _ h => h) (fun _ h => h.elim) ?aF ?aB ?aS ?aL ?_; (case aR => exact Kd.Cu (Kd.R_reads' HO308.out).2.2); (case aB => exact (below_v HB.out)); (case aF => exact (fun k_ hk => Kd.fresh' (Kd.R_lt (Kd.Ru <| HO308.out)) k_ hk)); (case aO => exact (Kd.Ru <| Kd.R_mono HO311.out (fun _ hk => hk.2))); (case aS => exact (below_size (below_v HB.out))); (case aL => have := LMc9.out; omega); intro v313 w13 ho hb hg hat; rw [← Ny312.out] at ho; have n0_ := Aside0.mk (Kd.R_after (ok := (fun _ => True)) (Kd.Ru <| HO308.out) hg hat); have n1_ := Aside0.mk (hb); have n2_ := Aside0.mk (ho); clear HO308; clear HB; clear HO311; have HO308 := n0_; have HB := n1_; have HO314 := n2_; clear n0_ n1_ n2_; clear ho hb hg hat))
      go_ret2
      exact ⟨_, by first | rfl | (simp [errW_none, errW_some] <;> rfl) | (simp [*, errW_none, errW_some] <;> rfl), Kd.Ru <| Kd.R_mono HO314.out (fun _ hk => trivial), below_v HB.out⟩
     ·rw [if_neg c9] at H
      exact absurd H (by simp)

end Go.Proofs.Ytkomibcmpckflaa.PLeaseDoes
