-- Written by a program of this session's (an extension of the kit's print)
import Derived.Test.YtkomibcmpckflaaPLeaseDoesx0
import Derived.Test.YtkomibcmpckflaaPLeaseDoesx3
namespace Go.Proofs.Ytkomibcmpckflaa.PLeaseDoes
open Go.RowKit Go.Proofs.YtkomibcmpckflaaW.PrintWords Go.Proofs.YtkomibcmpckflaaW.PrintLast Go.Proofs.YtkomibcmpckflaaW.PrintMore
attribute [local go_sem] max2_int min2_int max_two min_two max_three min_three max_four min_four   -- for this text's walks alone
set_option linter.unusedVariables false
set_option linter.unusedSimpArgs false

/-! ### api_Lease_byte: function 24 -/
def api_Lease_byte.l0 : Nat → List (S40) → List Int → Int → Int → Int → Option (Int × Bool)
 | 0, _, _, _, _, _ => none
 | k + 1, x0, x1, x8, x9, x10 => if x9 < x10 then (if 0 ≤ (wrap64 ((IntKind.u64.wrap (wrap64 (x9 + x10))) / 2)) then (if (wrap64 ((IntKind.u64.wrap (wrap64 (x9 + x10))) / 2)) < (x0.length : Int) then ((lease_Do_1.f ((rd_T40 x0 (wrap64 ((IntKind.u64.wrap (wrap64 (x9 + x10))) / 2))).f0) ((rd_T40 x0 (wrap64 ((IntKind.u64.wrap (wrap64 (x9 + x10))) / 2))).f1) ((rd_T40 x0 (wrap64 ((IntKind.u64.wrap (wrap64 (x9 + x10))) / 2))).f2) x1).bind fun t171 => (if t171 < 0 then (api_Lease_byte.l0 k x0 x1 x8 (wrap64 ((wrap64 ((IntKind.u64.wrap (wrap64 (x9 + x10))) / 2)) + 1)) x10) else (api_Lease_byte.l0 k x0 x1 x8 x9 (wrap64 ((IntKind.u64.wrap (wrap64 (x9 + x10))) / 2))))) else (none)) else (none)) else (if x9 < x8 then (if 0 ≤ x9 then (if x9 < (x0.length : Int) then ((lease_Do_1.f ((rd_T40 x0 x9).f0) ((rd_T40 x0 x9).f1) ((rd_T40 x0 x9).f2) x1).bind fun t173 => (some (x9, (t173 == 0)))) else (none)) else (none)) else (some (x9, false)))
def api_Lease_byte.f (k : Nat) (l0 : List (S40)) (l1 : List Int) (a2 : Unit) : Option (Int × Bool) := api_Lease_byte.l0 k l0 l1 (l0.length : Int) 0 (l0.length : Int)
theorem api_Lease_byte.mono_l : ∀ k, (∀ y0 y1 y2 y3 y4, LeO (api_Lease_byte.l0 k y0 y1 y2 y3 y4) (api_Lease_byte.l0 (k + 1) y0 y1 y2 y3 y4))
 | 0 => fun _ _ _ _ _ r h => by simp [api_Lease_byte.l0] at h
 | k + 1 => by
  have ih0 := api_Lease_byte.mono_l k
  ·intro y0 y1 y2 y3 y4
   unfold api_Lease_byte.l0
   repeat' first
   | (with_reducible exact ih0 _ _ _ _ _)
   | (with_reducible exact LeO.refl _)
   | (with_reducible exact LeO.none _)
   | (with_reducible refine LeO.ite ?_ ?_)
   | (with_reducible refine LeO.bind ?_ (fun _ => ?_))
   | exact ih0 _ _ _ _ _
   | exact LeO.none _
   | refine LeO.ite ?_ ?_
   | refine LeO.bind ?_ (fun _ => ?_)
theorem api_Lease_byte.mono : ∀ a0 a1 a2 k, LeO (api_Lease_byte.f k a0 a1 a2) (api_Lease_byte.f (k + 1) a0 a1 a2) := by
 intro a0 a1 a2 k; have ih0 := api_Lease_byte.mono_l k
 unfold api_Lease_byte.f
 repeat' first
   | (with_reducible exact ih0 _ _ _ _ _)
   | (with_reducible exact LeO.refl _)
   | (with_reducible exact LeO.none _)
   | (with_reducible refine LeO.ite ?_ ?_)
   | (with_reducible refine LeO.bind ?_ (fun _ => ?_))
   | exact ih0 _ _ _ _ _
   | exact LeO.none _
   | refine LeO.ite ?_ ?_
   | refine LeO.bind ?_ (fun _ => ?_)
set_option maxHeartbeats 8000000 in
set_option maxRecDepth 100000 in
theorem api_Lease_byte.calls (k : Nat) (A0 : Option Addr) (c0 : Nat) (l0 : List (S40)) (A1 : Option Addr) (c1 : Nat) (l1 : List Int) (a2 : Unit) (r1 : Int) (r2 : Bool) (w : World) (hr0 : Kd.C k40 w A0 l0.length l0) (hc0 : l0.length ≤ c0) (hr1 : Kd.C (Kd.int .u8) w A1 l1.length l1) (hc1 : l1.length ≤ c1) (h : api_Lease_byte.f k l0 l1 a2 = some (r1, r2)) :
  Calls Try.prog 24 #[.slice A0 l0.length c0, .slice A1 l1.length c1, .func (.func 25) #[] #[]] w fun e w' => e = .returned (.tuple #[.int .i64 r1, .bool r2]) ∧ Below w.heap.size w w' := by
 have hu40 := Try.underlying40; have HR0 := Aside0.mk hr0; have HC0 := Aside0.mk hc0; clear hr0 hc0; have HR1 := Aside0.mk hr1; have HC1 := Aside0.mk hc1; clear hr1 hc1; have HB := Aside0.mk (Below.refl w.heap.size w); have H : (api_Lease_byte.l0 k l0 l1 (l0.length : Int) 0 (l0.length : Int)) = some (r1, r2) := h; clear h; have H' := Aside0.mk H; clear H
 go_enter Try.func24, Try.ntmps24
 go_wp2
 go_loopg [9, 10] k (fun kq v9 v10 w' => ∃ (x9_1 : Int) (x10_1 : Int), v9 = .int .i64 x9_1 ∧ v10 = .int .i64 x10_1 ∧ Aside0 (api_Lease_byte.l0 kq l0 l1 (l0.length : Int) x9_1 x10_1 = some (r1, r2)) ∧ Aside0 (kq ≤ k) ∧ Aside0 (Below w.heap.size w w'))
 case atStart => exact ⟨(0), ((l0.length : Int)), (by first | rfl | (simp; done) | (simp [*]; done)), (by first | rfl | (simp; done) | (simp [*]; done)), H', ⟨Nat.le_refl _⟩, ⟨below_v HB.out⟩⟩
 case round =>
  clear H'; obtain ⟨x9_1, x10_1, rfl, rfl, HA, HK1, HB⟩ := hrel
  cases gk with
  | zero => exact absurd HA.out (by simp [api_Lease_byte.l0])
  | succ k1 =>
   have H := HA.out; clear HA; simp only [api_Lease_byte.l0] at H
   by_cases c4 : x9_1 < x10_1
   ·rw [if_pos c4] at H
    have c4b0 : decide (x9_1 < x10_1) = true := decide_eq_true c4; clear c4; obtain ⟨ji5, hji5⟩ : ∃ j_ : Int, (wrap64 ((IntKind.u64.wrap (wrap64 (x9_1 + x10_1))) / 2)) = j_ := ⟨_, rfl⟩
    replace H : (if 0 ≤ (ji5) then (if (ji5) < (l0.length : Int) then ((lease_Do_1.f ((rd_T40 l0 (ji5)).f0) ((rd_T40 l0 (ji5)).f1) ((rd_T40 l0 (ji5)).f2) l1).bind fun t171 => (if t171 < 0 then (api_Lease_byte.l0 k1 l0 l1 (l0.length : Int) (wrap64 ((ji5) + 1)) x10_1) else (api_Lease_byte.l0 k1 l0 l1 (l0.length : Int) x9_1 ji5))) else (none)) else (none)) = some (r1, r2) := by first | (rw [hji5] at H; exact H) | (simp only [hji5] at H ⊢; exact H)
    have hji5w : (IntKind.i64.wrap ((IntKind.u64.wrap (wrap64 (x9_1 + x10_1))) / 2)) = ji5 := (i64_w _).trans hji5
    by_cases c6 : 0 ≤ (ji5)
    ·rw [if_pos c6] at H
     have c6b0 : decide (0 ≤ (ji5)) = true := decide_eq_true c6; clear c6
     by_cases c7 : (ji5) < (l0.length : Int)
     ·rw [if_pos c7] at H
      have c7b0 : decide ((ji5) < (l0.length : Int)) = true := decide_eq_true c7; clear c7; replace H := Option.bind_eq_some_iff.mp H; obtain ⟨t171, A80, H⟩ := H; replace H : (if t171 < 0 then (api_Lease_byte.l0 k1 l0 l1 (l0.length : Int) (wrap64 ((ji5) + 1)) x10_1) else (api_Lease_byte.l0 k1 l0 l1 (l0.length : Int) x9_1 ji5)) = some (r1, r2) := H; have A8 := Aside0.mk A80; clear A80
      by_cases c9 : t171 < 0
      ·rw [if_pos c9] at H
       have c9b0 : decide (t171 < 0) = true := decide_eq_true c9; clear c9; have H' := Aside0.mk H; clear H; have p170 : 0 ≤ ((ji5) : Int) := of_decide_eq_true (by first | (with_reducible assumption) | assumption); have q170 : (ji5) < (l0.length : Int) := of_decide_eq_true (by first | (with_reducible assumption) | assumption); obtain ⟨ad170, A170_0, c170_0, e170, hx170_0, hx170_1, hx170_2, hl170_0, hi170_0⟩ := at_T40 HR0.out (ji5) p170 q170
       cases e170
       replace hx170_0 := (HB.out.cell (World.block_lt_of_cell? w _ hx170_0)).trans hx170_0; replace hx170_1 := (HB.out.cell (World.block_lt_of_cell? w _ hx170_1)).trans hx170_1; replace hx170_2 := (HB.out.cell (World.block_lt_of_cell? w _ hx170_2)).trans hx170_2; have HR170_0 := Aside0.mk hi170_0; have HC170_0 := Aside0.mk hl170_0; clear hi170_0 hl170_0; replace p170 := eq_true p170; replace q170 := eq_true q170
       go_wp2_with (first | (go_at_call 25; (with_reducible refine (lease_Do_1.calls _ _ ((rd_T40 l0 (ji5)).f0) ((rd_T40 l0 (ji5)).f1) ((rd_T40 l0 (ji5)).f2) _ _ l1 t171 _ ?side1 ?side2 ?side3 ?side4 A8.out).mono ?_); (case side1 => exact Kd.Cu (Kd.C_below HR170_0.out HB.out)); (case side2 => exact HC170_0.out); (case side3 => exact Kd.Cu (Kd.C_below HR1.out HB.out)); (case side4 => exact HC1.out); rintro e w10 ⟨rfl, hb⟩; have n0_ := Aside0.mk (below_step (below_v HB.out) hb); clear HB; have HB := n0_; clear n0_; (try clear hb); (try clear hb2); (try clear hk); (try clear hi)))
       go_roundg k1
       case measure => have := HK1.out; omega
       case rel => exact ⟨(wrap64 ((ji5) + 1)), (x10_1), (by first | rfl | (simp; done) | (simp only [← hji5] <;> (first | rfl | simp)) | (simp [*]; done)), (by first | rfl | (simp; done) | (simp [*]; done)), H', ⟨by have := HK1.out; omega⟩, ⟨below_v HB.out⟩⟩
      ·rw [if_neg c9] at H
       have c9b0 : decide (t171 < 0) = false := decide_eq_false c9; clear c9; have H' := Aside0.mk H; clear H; have p170 : 0 ≤ ((ji5) : Int) := of_decide_eq_true (by first | (with_reducible assumption) | assumption); have q170 : (ji5) < (l0.length : Int) := of_decide_eq_true (by first | (with_reducible assumption) | assumption); obtain ⟨ad170, A170_0, c170_0, e170, hx170_0, hx170_1, hx170_2, hl170_0, hi170_0⟩ := at_T40 HR0.out (ji5) p170 q170
       cases e170
       replace hx170_0 := (HB.out.cell (World.block_lt_of_cell? w _ hx170_0)).trans hx170_0; replace hx170_1 := (HB.out.cell (World.block_lt_of_cell? w _ hx170_1)).trans hx170_1; replace hx170_2 := (HB.out.cell (World.block_lt_of_cell? w _ hx170_2)).trans hx170_2; have HR170_0 := Aside0.mk hi170_0; have HC170_0 := Aside0.mk hl170_0; clear hi170_0 hl170_0; replace p170 := eq_true p170; replace q170 := eq_true q170
       go_wp2_with (first | (go_at_call 25; (with_reducible refine (lease_Do_1.calls _ _ ((rd_T40 l0 (ji5)).f0) ((rd_T40 l0 (ji5)).f1) ((rd_T40 l0 (ji5)).f2) _ _ l1 t171 _ ?side1 ?side2 ?side3 ?side4 A8.out).mono ?_); (case side1 => exact Kd.Cu (Kd.C_below HR170_0.out HB.out)); (case side2 => exact HC170_0.out); (case side3 => exact Kd.Cu (Kd.C_below HR1.out HB.out)); (case side4 => exact HC1.out); rintro e w11 ⟨rfl, hb⟩; have n0_ := Aside0.mk (below_step (below_v HB.out) hb); clear HB; have HB := n0_; clear n0_; (try clear hb); (try clear hb2); (try clear hk); (try clear hi)))
       go_roundg k1
       case measure => have := HK1.out; omega
       case rel => exact ⟨(x9_1), (ji5), (by first | rfl | (simp; done) | (simp [*]; done)), (by first | rfl | (simp; done) | (simp only [← hji5] <;> (first | rfl | simp)) | (simp [*]; done)), H', ⟨by have := HK1.out; omega⟩, ⟨below_v HB.out⟩⟩
     ·rw [if_neg c7] at H
      exact absurd H (by simp)
    ·rw [if_neg c6] at H
     exact absurd H (by simp)
   ·rw [if_neg c4] at H
    have c4b0 : decide (x9_1 < x10_1) = false := decide_eq_false c4; clear c4
    by_cases c12 : x9_1 < (l0.length : Int)
    ·rw [if_pos c12] at H
     have c12b0 : decide (x9_1 < (l0.length : Int)) = true := decide_eq_true c12; clear c12
     by_cases c13 : 0 ≤ x9_1
     ·rw [if_pos c13] at H
      have c13b0 : decide (0 ≤ x9_1) = true := decide_eq_true c13; clear c13
      by_cases c14 : x9_1 < (l0.length : Int)
      ·rw [if_pos c14] at H
       have c14b0 : decide (x9_1 < (l0.length : Int)) = true := decide_eq_true c14; clear c14; replace H := Option.bind_eq_some_iff.mp H; obtain ⟨t173, A150, H⟩ := H; replace H : (some (x9_1, (t173 == 0))) = some (r1, r2) := H; have A15 := Aside0.mk A150; clear A150; simp only [Option.some.injEq, Prod.mk.injEq] at H; obtain ⟨rfl, rfl⟩ := H; have p172 : 0 ≤ (x9_1 : Int) := of_decide_eq_true (by first | (with_reducible assumption) | assumption); have q172 : x9_1 < (l0.length : Int) := of_decide_eq_true (by first | (with_reducible assumption) | assumption); obtain ⟨ad172, A172_0, c172_0, e172, hx172_0, hx172_1, hx172_2, hl172_0, hi172_0⟩ := at_T40 HR0.out x9_1 p172 q172
       cases e172
       replace hx172_0 := (HB.out.cell (World.block_lt_of_cell? w _ hx172_0)).trans hx172_0; replace hx172_1 := (HB.out.cell (World.block_lt_of_cell? w _ hx172_1)).trans hx172_1; replace hx172_2 := (HB.out.cell (World.block_lt_of_cell? w _ hx172_2)).trans hx172_2; have HR172_0 := Aside0.mk hi172_0; have HC172_0 := Aside0.mk hl172_0; clear hi172_0 hl172_0; replace p172 := eq_true p172; replace q172 := eq_true q172
       go_wp2_with (first | (go_at_call 25; (with_reducible refine (lease_Do_1.calls _ _ ((rd_T40 l0 x9_1).f0) ((rd_T40 l0 x9_1).f1) ((rd_T40 l0 x9_1).f2) _ _ l1 t173 _ ?side1 ?side2 ?side3 ?side4 A15.out).mono ?_); (case side1 => exact Kd.Cu (Kd.C_below HR172_0.out HB.out)); (case side2 => exact HC172_0.out); (case side3 => exact Kd.Cu (Kd.C_below HR1.out HB.out)); (case side4 => exact HC1.out); rintro e w16 ⟨rfl, hb⟩; have n0_ := Aside0.mk (below_step (below_v HB.out) hb); clear HB; have HB := n0_; clear n0_; (try clear hb); (try clear hb2); (try clear hk); (try clear hi)))
       go_ret2
       exact ⟨by first | rfl | (simp [errW_none, errW_some] <;> rfl) | (simp [*, errW_none, errW_some] <;> rfl), below_v HB.out⟩
      ·rw [if_neg c14] at H
       exact absurd H (by simp)
     ·rw [if_neg c13] at H
      exact absurd H (by simp)
    ·rw [if_neg c12] at H
     have c12b0 : decide (x9_1 < (l0.length : Int)) = false := decide_eq_false c12; clear c12; simp only [Option.some.injEq, Prod.mk.injEq] at H; obtain ⟨rfl, rfl⟩ := H
     go_wp2
     go_ret2
     exact ⟨by first | rfl | (simp [errW_none, errW_some] <;> rfl) | (simp [*, errW_none, errW_some] <;> rfl), below_v HB.out⟩

/-! ### api_Lease_27: function 27 (given) -/
theorem api_Lease_27.info : (Try.prog.info? 40).map (fun i => (i.zero, i.size, i.bytes)) = some (some (.agg #[(.slice none 0 0), (.int .i64 0), (.int .i64 0)]), 3, 40) := by kernel_rfl
set_option maxHeartbeats 800000 in
theorem api_Lease_27.at_end (base : Nat) (v : Value) (n : Nat) (inner c : List Value) (W : World) (hown : W.ownsRow base 40 3 v n inner)
  (hc : c.length = 3) (h1 : ∀ u ∈ c, u.oneCell' = true) (hl : (n + 1) * 40 ≤ 140737488355328) (hbase : base ≤ W.heap.size) :
  Calls Try.prog 27 #[v, .int .i64 (n : Int), .slice (some ⟨W.heap.size, 0, none⟩) 1 1] (W.alloc (.cells c.toArray 40)) fun e w' => ∃ v', e = .returned v' ∧ w'.ownsRow base 40 3 v' (n + 1) (inner ++ c) ∧ W.grownBy w' v.ownBlock ∧ (v'.ownBlock = v.ownBlock ∨ ∃ b, v'.ownBlock = some b ∧ W.heap.size ≤ b) := by
 obtain ⟨A, cap, hv, hnc, hcm⟩ : ∃ A cap, v = .slice A n cap ∧ n ≤ cap ∧ cap ≤ 9223372036854775807 := by
  rcases hown.2 with ⟨rfl, rfl⟩ | ⟨g, cap, cur, rfl, _, _, h3, h4, _⟩
  ·exact ⟨none, 0, rfl, Nat.le_refl _, by omega⟩
  ·unfold maxLen at h4
   exact ⟨_, cap, rfl, h3, by omega⟩
 subst hv; have HO := Aside0.mk hown; have HC := Aside0.mk hc; have H1 := Aside0.mk h1; clear hown hc h1
 go_enter Try.func27, Try.ntmps27
 go_wp2_with (at_builtin; refine print_append_cells (w0 := W) base rfl (.tmp 23) (.tmp 24) 26 40 (.agg #[(.slice none 0 0), (.int .i64 0), (.int .i64 0)]) 3 40 rfl Try.underlying26 api_Lease_27.info rfl (by decide) (by decide) (.slice A n cap) n inner c rfl rfl HC.out H1.out HO.out (Below.refl _ _) hbase hl ?_; intro v' w' hown' _ hgrow hat; have HO' := Aside0.mk hown'; have HG' : Aside0 (W.grownBy w' (Value.slice A n cap).ownBlock) := ⟨hgrow⟩; have HAT := Aside0.mk hat; clear hown' hgrow hat)
 all_goals
  (try subst_vars)
  go_ret
  exact ⟨_, rfl, HO'.out, HG'.out, HAT.out⟩
set_option maxHeartbeats 800000 in
set_option maxRecDepth 100000 in
/-- Room: in place. -/
theorem api_Lease_27.room (base g n i cap : Nat) (inner c : List Value) (cx gx : Nat) (curx : Array Value) (w : World) (hown : w.ownsRow base 40 3 (.slice (some ⟨g, 0, none⟩) n cap) n inner)
  (hx : w.heap[gx]? = some (.cells curx 40 (0, 0))) (hcx : curx.toList = c) (hc : c.length = 3) (h1 : ∀ u ∈ c, u.oneCell' = true) (hgx : gx ≠ g) (hin : i < n) (hroom : n + 1 ≤ cap) (hone : ∀ u ∈ inner, u.oneCell' = true) :
  Calls Try.prog 27 #[.slice (some ⟨g, 0, none⟩) n cap, .int .i64 (i : Int), .slice (some ⟨gx, 0, none⟩) 1 cx] w fun e w' => ∃ v', e = .returned v' ∧ w'.ownsRow base 40 3 v' (n + 1) (inner.take (i * 3) ++ c ++ inner.drop (i * 3)) ∧ w.grownBy w' (some g) ∧ v'.ownBlock = some g := by
 obtain ⟨hil, hown⟩ := hown
 rcases hown with ⟨he, _⟩ | ⟨g', cap', cur, he, hb, hh, hnc, hcm, hcs, ht⟩
 ·cases he
 injection he with e1 e2 e3
 injection e1 with e1
 injection e1 with e1
 subst e1; subst e3; clear e2
 have hcm' : cap ≤ 9223372036854775807 := by unfold maxLen at hcm; omega
 have hsz : ∀ w, (sizeOf 40).run Try.prog w = .ok 3 w := fun w => by kernel_rfl
 have hmv : (inner.drop (i * 3)) <+: cur.toList.drop (i * 3) := by
  rw [← ht, List.drop_take]; exact List.take_prefix _ _
 have hov : (callFunc 40 #[.slice (some ⟨gx, 0, none⟩) 1 cx, .slice (some ⟨g, (i + 1) * 3, none⟩) (n - i) (cap - (i + 1))]).run Try.prog w = .ok (.value (.bool false)) w := by
  rw [run_callFunc_extern (P := Try.prog) (f := 40) Try.func40 (by kernel_rfl) (by kernel_rfl) (by kernel_rfl) (e := Extern.SlicesOverlaps.overlaps Try.f40.params Try.f40.resultTypes) (by kernel_rfl)]; rw [show Try.f40.params = #[26, 26] from by kernel_rfl, show Try.f40.resultTypes = #[4] from by kernel_rfl]; rw [Lib.run_overlaps_apart w 26 4 40 Try.underlying26 3 hsz ⟨gx, 0, none⟩ ⟨g, (i + 1) * 3, none⟩ 1 cx (n - i) (cap - (i + 1)) hgx 40 40 curx.size cur.size (by simp [World.shape?, hx]) (by simp [World.shape?, hh]) (by omega) (blk_frozen hx _) (blk_frozen hx _)]
  rfl
 have hc1 : ∀ ty, (Builtin.copy_ #[26, 26] ty #[.slice (some ⟨g, (i + 1) * 3, none⟩) (n - i) (cap - (i + 1)), .slice (some ⟨g, i * 3, none⟩) (n + 1 - i) (cap - i)]).run Try.prog w.drew = .ok (.int .i64 ((n - i : Nat) : Int)) (w.drew.setCells g ((i + 1) * 3) (inner.drop (i * 3))) := fun ty =>
  run_copy_any w.drew 26 26 ty 40 3 Try.underlying26 hsz g ((i + 1) * 3) (n - i) (cap - (i + 1)) ⟨g, i * 3, none⟩ (n + 1 - i) (cap - i) (n - i) (Nat.min_eq_right (by omega)) (inner.drop (i * 3)) (by rw [List.length_drop, hil]; omega) (cells_of_block (w := w) hh (i * 3) _ hmv) cur 40 hh (by rw [List.length_drop, hil, hcs]; omega) (fun u hu => hone u (List.mem_of_mem_drop hu))
 obtain ⟨cur1, e1, e2, _⟩ := setCells_row (inner.drop (i * 3)) ((i + 1) * 3) w.drew cur hh (by rw [List.length_drop, hil, hcs]; omega)
 have hx1 : (w.drew.setCells g ((i + 1) * 3) (inner.drop (i * 3))).heap[gx]? = some (.cells curx 40 (0, 0)) := by rw [setCells_far _ _ gx hgx]; exact hx
 have hc2 : ∀ ty, (Builtin.copy_ #[26, 26] ty #[.slice (some ⟨g, i * 3, none⟩) (n + 1 - i) (cap - i), .slice (some ⟨gx, 0, none⟩) 1 cx]).run Try.prog (w.drew.setCells g ((i + 1) * 3) (inner.drop (i * 3))) = .ok (.int .i64 ((1 : Nat) : Int)) ((w.drew.setCells g ((i + 1) * 3) (inner.drop (i * 3))).setCells g (i * 3) c) := fun ty =>
  run_copy_any _ 26 26 ty 40 3 Try.underlying26 hsz g (i * 3) (n + 1 - i) (cap - i) ⟨gx, 0, none⟩ 1 cx 1 (Nat.min_eq_left (by omega)) c (by rw [hc]) (cells_of_block (w := w.drew.setCells g ((i + 1) * 3) (inner.drop (i * 3))) hx1 0 c (by rw [List.drop_zero, ← hcx]; exact List.prefix_rfl)) cur1 40 e1 (by rw [hc, e2, hcs]; omega) h1
 have HF := Aside0.mk (row_insert (w := w.drew) (base := base) (sz := 3) hb hh hcm hcs hil ht (Nat.le_of_lt hin) hroom hc)
 have hi1 : i ≤ n := by omega
 have hi2 : i ≤ n + 1 := by omega
 have hi3 : i + 1 ≤ n + 1 := by omega
 have h01 : 0 ≤ (i : Int) + 1 := by omega
 have h02 : (i : Int) + 1 ≤ (n : Int) + 1 := by omega
 have hd : decide ((cap : Int) < (n : Int) + 1) = false := by simp; omega
 clear hil hcs ht hcx hc e1 e2 hx1 hx hmv hone h1 hsz
 go_enter Try.func27, Try.ntmps27
 go_wp2_with fail
 go_region
 all_goals
  go_wp2_with fail
  go_ret
  have hf := HF.out; exact ⟨_, rfl, hf.1, grown_drew hf.2, rfl⟩
set_option maxHeartbeats 800000 in
set_option maxRecDepth 100000 in
/-- No room: a new row. -/
theorem api_Lease_27.grow (base g n i : Nat) (inner c : List Value) (cx gx : Nat) (curx : Array Value) (w : World) (hown : w.ownsRow base 40 3 (.slice (some ⟨g, 0, none⟩) n n) n inner)
  (hx : w.heap[gx]? = some (.cells curx 40 (0, 0))) (hcx : curx.toList = c) (hc : c.length = 3) (h1 : ∀ u ∈ c, u.oneCell' = true) (hin : i < n) (hone : ∀ u ∈ inner, u.oneCell' = true) (hl : (n + 1) * 40 ≤ 140737488355328) (hbase : base ≤ w.heap.size) :
  Calls Try.prog 27 #[.slice (some ⟨g, 0, none⟩) n n, .int .i64 (i : Int), .slice (some ⟨gx, 0, none⟩) 1 cx] w fun e w' => ∃ v', e = .returned v' ∧ w'.ownsRow base 40 3 v' (n + 1) (inner.take (i * 3) ++ c ++ inner.drop (i * 3)) ∧ w.grownBy w' (some g) ∧ v'.ownBlock = some w.heap.size := by
 obtain ⟨hil, hown⟩ := hown
 rcases hown with ⟨he, _⟩ | ⟨g', cap', cur, he, hb, hh, hnc, hcm, hcs, ht⟩
 ·cases he
 injection he with e1 e2 e3
 injection e1 with e1
 injection e1 with e1
 subst e1; subst e3; clear e2
 have hcm' : n ≤ 9223372036854775807 := by unfold maxLen at hcm; omega
 have hsz : ∀ w, (sizeOf 40).run Try.prog w = .ok 3 w := fun w => by kernel_rfl
 have hglt : g < w.heap.size := blk_lt hh; obtain ⟨i0, hi, hz0, hz1, hz2⟩ := info_parts api_Lease_27.info
 have hi1 : i ≤ n := by omega
 have hd : decide ((n : Int) < (n : Int) + 1) = true := by simp; omega
 have hne : ((i : Int) == (n : Int)) = false := by rw [beq_eq_false_iff_ne]; omega
 have h01 : 0 ≤ (n : Int) + 1 - (i : Int) := by omega
 have hsub : (n : Int) + 1 - (i : Int) = ((n + 1 - i : Nat) : Int) := by omega
 have hneed : i + (n + 1 - i) = n + 1 := by omega
 obtain ⟨cap, zs, hrun, hcap, hcapm, hzl⟩ : ∃ (cap : Nat) (zs : List Value), (∀ ty, (Builtin.append_ #[26, 3] ty #[.slice (some ⟨g, 0, none⟩) i n, .int .i64 ((n + 1 - i : Nat) : Int)]).run Try.prog w = .ok (.slice (some ⟨w.heap.size, 0, none⟩) (n + 1) cap) (w.alloc (.cells (inner.take (i * 3) ++ zs).toArray 40)).drew) ∧ n + 1 ≤ cap ∧ cap ≤ maxLen ∧ (inner.take (i * 3) ++ zs).length = cap * 3 := by
  refine ⟨grownCap w (i + (n + 1 - i)) n 40, (Builtin.zeroCells ((.agg #[(.slice none 0 0), (.int .i64 0), (.int .i64 0)]) : Value).cells (n + 1 - i)).toList ++ (Builtin.zeroCells ((.agg #[(.slice none 0 0), (.int .i64 0), (.int .i64 0)]) : Value).cells (grownCap w (i + (n + 1 - i)) n 40 - (i + (n + 1 - i)))).toList, fun ty => ?_, ?_, ?_, ?_⟩
  ·have h := Lib.run_append_grow_zeros (P := Try.prog) w 26 3 ty 40 i0 (.agg #[(.slice none 0 0), (.int .i64 0), (.int .i64 0)]) .i64 .i64 Try.underlying26 Try.underlying3 hi hz0 (some ⟨g, 0, none⟩) i n (inner.take (i * 3)) (by
    rw [hz1]
    exact run_firstCells_some (P := Try.prog) w.drew 3 i ⟨g, 0, none⟩ i n (inner.take (i * 3)) (by rw [List.length_take, hil]; omega) (cells_of_block (w := w) hh 0 _ (by rw [List.drop_zero, ← ht, List.take_take]; exact List.take_prefix _ _))) (n + 1 - i) (by omega) (by rw [hz1]; decide) (by omega) (by omega) (by rw [hz2]; omega) (by rw [hz2, hneed]; exact growslice_fits (by omega) hl)
   rw [h, hneed]
   congr 3
   show (World.alloc w _).drew = _
   congr 3
   apply Array.ext'
   simp [Value.cells]
  ·rw [hneed]; exact grownCap_ge _ _ _ _
  ·exact grownCap_le_maxLen _ _ _ _ (by rw [hneed]; unfold maxLen; omega)
  ·have := grownCap_ge w (i + (n + 1 - i)) n 40
   simp [Builtin.zeroCells, Value.cells, hil]
   omega
 have hmv : (inner.drop (i * 3)) <+: cur.toList.drop (i * 3) := by
  rw [← ht, List.drop_take]; exact List.take_prefix _ _
 obtain ⟨W1, hW1⟩ : ∃ W1 : World, W1 = (w.alloc (.cells (inner.take (i * 3) ++ zs).toArray 40)).drew := ⟨_, rfl⟩
 have hh1 : W1.heap[w.heap.size]? = some (.cells (inner.take (i * 3) ++ zs).toArray 40 (0, 0)) := by
  rw [hW1]
  show (w.heap.push _)[w.heap.size]? = _
  simp
 have hold : ∀ k, k < w.heap.size → W1.heap[k]? = w.heap[k]? := fun k hk => by rw [hW1]; exact Below.heap_alloc w _ k hk
 have hgxlt : gx < w.heap.size := blk_lt hx
 have hzs : (inner.take (i * 3) ++ zs).toArray.size = cap * 3 := by simpa using hzl
 have hcA : ∀ ty, (Builtin.copy_ #[26, 26] ty #[.slice (some ⟨w.heap.size, i * 3, none⟩) (n + 1 - i) (cap - i), .slice (some ⟨gx, 0, none⟩) 1 cx]).run Try.prog W1 = .ok (.int .i64 ((1 : Nat) : Int)) (W1.setCells w.heap.size (i * 3) c) := fun ty =>
  run_copy_any W1 26 26 ty 40 3 Try.underlying26 hsz w.heap.size (i * 3) (n + 1 - i) (cap - i) ⟨gx, 0, none⟩ 1 cx 1 (Nat.min_eq_left (by omega)) c (by rw [hc]) (cells_of_block ((hold gx hgxlt).trans hx) 0 c (by rw [List.drop_zero, ← hcx]; exact List.prefix_rfl)) _ 40 hh1 (by rw [hc, hzs]; omega) h1
 obtain ⟨cur1, e1, e2, _⟩ := setCells_row c (i * 3) W1 _ hh1 (by rw [hc, hzs]; omega)
 have hcB : ∀ ty, (Builtin.copy_ #[26, 26] ty #[.slice (some ⟨w.heap.size, (i + 1) * 3, none⟩) (n - i) (cap - (i + 1)), .slice (some ⟨g, i * 3, none⟩) (n - i) (n - i)]).run Try.prog (W1.setCells w.heap.size (i * 3) c).drew = .ok (.int .i64 ((n - i : Nat) : Int)) ((W1.setCells w.heap.size (i * 3) c).drew.setCells w.heap.size ((i + 1) * 3) (inner.drop (i * 3))) := fun ty =>
  run_copy_any _ 26 26 ty 40 3 Try.underlying26 hsz w.heap.size ((i + 1) * 3) (n - i) (cap - (i + 1)) ⟨g, i * 3, none⟩ (n - i) (n - i) (n - i) (Nat.min_self _) (inner.drop (i * 3)) (by rw [List.length_drop, hil]; omega) (cells_of_block (w := (W1.setCells w.heap.size (i * 3) c).drew) (show (W1.setCells w.heap.size (i * 3) c).heap[g]? = _ by rw [setCells_far _ _ g (by omega), hold g hglt]; exact hh) (i * 3) _ hmv) cur1 40 e1 (by rw [List.length_drop, hil, e2, hzs]; omega) (fun u hu => hone u (List.mem_of_mem_drop hu))
 have HF := Aside0.mk (row_insert_new (w := w) (base := base) (sz := 3) (e := 40) (n := n) (i := i) (cap := cap) (inner := inner) (c := c) (zs := zs) hbase hcapm hil hi1 hcap hc hzl); have HW1 := Aside0.mk hW1; have HRUN : Aside0 (∀ ty, (Builtin.append_ #[26, 3] ty #[.slice (some ⟨g, 0, none⟩) i n, .int .i64 ((n + 1 - i : Nat) : Int)]).run Try.prog w = .ok (.slice (some ⟨w.heap.size, 0, none⟩) (n + 1) cap) W1) := ⟨fun ty => by rw [hrun, hW1]⟩
 have hi2 : i ≤ n + 1 := by omega
 have hi3 : i + 1 ≤ n + 1 := by omega
 have h02 : 0 ≤ (i : Int) + 1 := by omega
 have h03 : (i : Int) + 1 ≤ (n : Int) + 1 := by omega
 have hne1 : cap ≠ i := by omega
 have hne2 : cap ≠ i + 1 := by omega
 clear hrun hW1 hh1 hold hzs e1 e2 hmv hil hcs ht hcx hc h1 hone hx hh hzl hsz
 go_enter Try.func27, Try.ntmps27
 go_wp2_with (at_builtin; refine Lib.wpList_append_run _ rfl (.tmp 34) (.tmp 39) 26 3 rfl (.slice (some ⟨g, 0, none⟩) i n) (.int .i64 ((n + 1 - i : Nat) : Int)) rfl rfl _ _ (HRUN.out _) ?_)
 go_region
 all_goals
  go_wp2_with fail
  go_ret
  have hf := HF.out; rw [HW1.out, setCells_drew, setCells_drew, setCells_drew]; exact ⟨_, rfl, owns_drew (owns_drew hf.1), grown_to_drew (grown_to_drew (hf.2 _)), rfl⟩

theorem api_Lease_27.ins : Kd.InsCall Try.prog 27 40 3 40 := by
 intro base v n i inner c W hown hc h1 hone hi hl hbase; have hx : (W.alloc (.cells c.toArray 40)).heap[W.heap.size]? = some (.cells c.toArray 40 (0, 0)) := blk_new W _; have ho' := hown.alloc (.cells c.toArray 40)
 have hb' : base ≤ (W.alloc (.cells c.toArray 40)).heap.size := by simp; omega
 rcases Nat.eq_or_lt_of_le hi with rfl | hlt
 ·refine (api_Lease_27.at_end base v i inner c W hown hc h1 hl hbase).mono ?_
  rintro e w' ⟨v', rfl, ho, hg, hat⟩; refine ⟨v', rfl, ?_, hg, hat⟩; have hl2 : inner.length = i * 3 := hown.1; rw [List.take_of_length_le (by omega), List.drop_eq_nil_of_le (by omega), List.append_nil]; exact ho
 ·rcases hown.2 with ⟨_, h0⟩ | ⟨g, cap, cur, rfl, _, hh, hnc, _⟩
  ·omega
  ·have hgx : W.heap.size ≠ g := by have := blk_lt hh; omega
   by_cases hroom : n + 1 ≤ cap
   ·refine (api_Lease_27.room base g n i cap inner c 1 W.heap.size c.toArray _ ho' hx (by simp) hc h1 hgx hlt hroom hone).mono ?_
    rintro e w' ⟨v', rfl, ho, hg, hat⟩; exact ⟨v', rfl, ho, grown_trans (World.grownBy_alloc W _ _) hg, .inl hat⟩
   ·obtain rfl : cap = n := by omega
    refine (api_Lease_27.grow base g cap i inner c 1 W.heap.size c.toArray _ ho' hx (by simp) hc h1 hlt hone hl hb').mono ?_; rintro e w' ⟨v', rfl, ho, hg, hat⟩; exact ⟨v', rfl, ho, grown_trans (World.grownBy_alloc W _ _) hg, .inr ⟨_, hat, by simp⟩⟩

/-! ### lease_told: function 29 -/
def lease_told.f (k : Nat) (a0 : Int) (a1 : Int) : Option (List Int) := (octet_Int.f k a0).bind fun bt174 => ((octet_Int.f k a1).bind fun bt178 => (if bt174.1.length + bt178.1.length < 140737488355328 then (some (bt174.1 ++ bt178.1)) else (none)))
theorem lease_told.mono : ∀ a0 a1 k, LeO (lease_told.f k a0 a1) (lease_told.f (k + 1) a0 a1) := by
 intro a0 a1 k
 unfold lease_told.f
 repeat' first
   | (with_reducible exact octet_Int.mono _ _)
   | (with_reducible exact LeO.refl _)
   | (with_reducible exact LeO.none _)
   | (with_reducible refine LeO.ite ?_ ?_)
   | (with_reducible refine LeO.bind ?_ (fun _ => ?_))
   | exact octet_Int.mono _ _
   | exact LeO.none _
   | refine LeO.ite ?_ ?_
   | refine LeO.bind ?_ (fun _ => ?_)
set_option maxHeartbeats 8000000 in
set_option maxRecDepth 100000 in
theorem lease_told.calls (k : Nat) (a0 : Int) (a1 : Int) (r : List Int) (w : World) (h : lease_told.f k a0 a1 = some r) :
  Calls Try.prog 29 #[.int .i64 a0, .int .i64 a1] w fun e w' => ∃ v0_ : Value, e = .returned (v0_) ∧ Kd.R (Kd.int .u8) 5 w' w.heap.size (fun _ => True) v0_ r ∧ Below w.heap.size w w' := by
 have HB := Aside0.mk (Below.refl w.heap.size w); have H : ((octet_Int.f k a0).bind fun bt174 => ((octet_Int.f k a1).bind fun bt178 => (if bt174.1.length + bt178.1.length < 140737488355328 then (some (bt174.1 ++ bt178.1)) else (none)))) = some r := h; clear h; replace H := Option.bind_eq_some_iff.mp H; obtain ⟨⟨t174, t175⟩, A30, H⟩ := H; replace H : ((octet_Int.f k a1).bind fun bt178 => (if t174.length + bt178.1.length < 140737488355328 then (some (t174 ++ bt178.1)) else (none))) = some r := H; have A3 := Aside0.mk A30; clear A30; replace H := Option.bind_eq_some_iff.mp H; obtain ⟨⟨t178, t179⟩, A40, H⟩ := H; replace H : (if t174.length + t178.length < 140737488355328 then (some (t174 ++ t178)) else (none)) = some r := H; have A4 := Aside0.mk A40; clear A40
 by_cases c5 : t174.length + t178.length < 140737488355328
 ·rw [if_pos c5] at H
  have LMc5 := Aside0.mk c5; clear c5; obtain ⟨y182, hy182⟩ : ∃ y_ : List Int, y_ = (t174 ++ t178) := ⟨_, rfl⟩
  replace H : (some y182) = some r := by first | (rw [hy182]; with_reducible exact H) | (have H2_ := (Option.bind_some _ _).symm.trans H; rw [hy182]; with_reducible exact H2_) | (have H2_ := (Option.bind_some _ _).symm.trans H; with_reducible exact H2_) | with_reducible exact H | (rw [hy182]; exact H) | exact H
  have Ny182 := Aside0.mk hy182; clear hy182; obtain rfl := Option.some.inj H
  go_enter Try.func29, Try.ntmps29
  go_wp2_with (first | ((with_reducible refine gate_callee (f := 36) rfl ?_); refine goesL_ (some 11) rfl rfl Try.func36 (by kernel_rfl) rfl #[.int .i64 a0] rfl (by (try simp only [List.map_toArray, List.map_cons, List.map_nil]); first | done | rfl | (simp only [List.length_drop, List.length_take]; rfl)) ?_; (with_reducible refine (octet_Int.calls k a0 t174 t175 _ A3.out).mono ?_); rintro e w6 ⟨v176, rfl, ho0, hb⟩; refine ⟨_, rfl, ?_⟩; have n0_ := Aside0.mk (Kd.R_lower ho0 (below_size (below_v HB.out))); have n1_ := Aside0.mk (below_step (below_v HB.out) hb); clear HB; have HO177 := n0_; have HB := n1_; clear n0_ n1_; (try clear hb); (try clear hb2); (try clear hk); (try clear hi); (try clear ho0)) | ((with_reducible refine gate_callee (f := 36) rfl ?_); refine goesL_ (some 16) rfl rfl Try.func36 (by kernel_rfl) rfl #[.int .i64 a1] rfl (by (try simp only [List.map_toArray, List.map_cons, List.map_nil]); first | done | rfl | (simp only [List.length_drop, List.length_take]; rfl)) ?_; (with_reducible refine (octet_Int.calls k a1 t178 t179 _ A4.out).mono ?_); rintro e w7 ⟨v180, rfl, ho0, hb⟩; refine ⟨_, rfl, ?_⟩; have n0_ := Aside0.mk (Kd.R_elder' (Kd.Ru <| HO177.out) (Kd.R_base ho0) hb); have n1_ := Aside0.mk (Kd.R_lower (Kd.R_new' ho0 (Kd.R_lt (Kd.Ru <| HO177.out))) (below_size (below_v HB.out))); have n2_ := Aside0.mk (below_step (below_v HB.out) hb); clear HO177; clear HB; have HO177 := n0_; have HO181 := n1_; have HB := n2_; clear n0_ n1_ n2_; (try clear hb); (try clear hb2); (try clear hk); (try clear hi); (try clear ho0); obtain ⟨Ao9, co9, eo9⟩ := Kd.R_slice HO181.out; subst eo9) | ((with_reducible refine gate_builtin (b := .append) (xs := #[.tmp 19, .tmp 20]) rfl ?_); at_builtin; refine Kd.R_append_rows (Kd.int .u8) (w0 := w) w.heap.size rfl (.tmp 19) (.tmp 20) 24 5 (.int .u8 0) 1 rfl Try.underlying24 info5 rfl (by decide) (by omega) v176 t174 t178 _ _ _ (fun k_ => some k_ ≠ (.slice Ao9 t178.length co9 : Value).ownBlock) (fun _ => False) rfl rfl ?aO ?aR (fun _ _ h => h) (fun _ h => h.elim) ?aF ?aB ?aS ?aL ?_; (case aR => exact Kd.Cu (Kd.R_reads' HO181.out).2.2); (case aB => exact (below_v HB.out)); (case aF => exact (fun k_ hk => Kd.fresh' (Kd.R_lt (Kd.Ru <| HO181.out)) k_ hk)); (case aO => exact (Kd.Ru <| Kd.R_mono HO177.out (fun _ hk => hk.2))); (case aS => exact (below_size (below_v HB.out))); (case aL => have := LMc5.out; omega); intro v183 w8 ho hb hg hat; rw [← Ny182.out] at ho; have n0_ := Aside0.mk (Kd.R_after (ok := (fun _ => True)) (Kd.Ru <| HO181.out) hg hat); have n1_ := Aside0.mk (hb); have n2_ := Aside0.mk (ho); clear HO181; clear HB; clear HO177; have HO181 := n0_; have HB := n1_; have HO184 := n2_; clear n0_ n1_ n2_; clear ho hb hg hat))
  go_ret
  exact ⟨_, by first | rfl | (simp [errW_none, errW_some] <;> rfl) | (simp [*, errW_none, errW_some] <;> rfl), Kd.Ru <| Kd.R_mono HO184.out (fun _ hk => trivial), below_v HB.out⟩
 ·rw [if_neg c5] at H
  exact absurd H (by simp)

/-! ### api_Lease_30: function 30 (given) -/
set_option maxHeartbeats 800000 in
set_option maxRecDepth 100000 in
theorem api_Lease_30.del : Kd.DelCall Try.prog 30 40 3 := by
 intro β d hd base ok v xs i w h hi hbase; obtain ⟨g, c, rfl, hg, hgl, cells, hcells⟩ := Kd.R_form h (by omega); obtain ⟨_, hnc, _⟩ := Kd.R_reads' h
 have hcm : c ≤ 9223372036854775807 := by
  obtain ⟨inner, ho⟩ := Kd.R_own h
  rcases ho.2 with ⟨he, _⟩ | ⟨g', cap, cur, he, _, _, _, hm, _⟩
  ·cases he
  ·injection he with _ _ h3
   subst h3
   unfold maxLen at hm
   omega
 have hne : ((i : Int) == (i : Int) + 1) = false := by rw [beq_eq_false_iff_ne]; omega
 have hic : i ≤ c := by omega
 have hin : i + 1 ≤ xs.length := by omega
 have hic2 : i + 1 ≤ c := by omega
 have h01 : 0 ≤ (i : Int) + 1 := by omega
 have h02 : (i : Int) + 1 ≤ (xs.length : Int) := by omega
 have HR := Aside0.mk h; have HD := Aside0.mk hd
 have HA := Aside0.mk (show (if c = i + 1 then some (⟨g, 0, none⟩ : Addr) else some ⟨g, (i + 1) * 3, none⟩) = if c = i + 1 then some ⟨g, 0, none⟩ else (some (⟨g, 0, none⟩ : Addr)).map (·.add ((i + 1) * d.sz)) from by
  rw [hd]
  split
  ·rfl
  ·simp [Addr.add])
 have HI := Aside0.mk (show (Try.prog.info? 40).map (·.size) = some d.sz from by rw [hd]; kernel_rfl); clear h hcells hd
 go_enter Try.func30, Try.ntmps30
 go_wp2_with fail
 go_region_law ((refine Kd.R_delete_step d (w0 := w) base rfl (.tmp 22) (.tmp 25) 26 40 rfl Try.underlying26 HI.out (g := g) (n := xs.length) (c := c) (k := i) (m := xs.length - (i + 1)) (c2 := c - (i + 1)) (A := if c = i + 1 then some ⟨g, 0, none⟩ else some ⟨g, (i + 1) * 3, none⟩) (by simp [Act.eval, Act.put]) (by simp [Act.eval, Act.put]) HA.out rfl (Kd.R_drew HR.out) hi (below_drew1 (Below.refl _ _)) hbase ?_); intro w1 hr1 hb1 hg1)
 have hz : ∀ w, (zeroValue 40).run Try.prog w = .ok (.agg #[(.slice none 0 0), (.int .i64 0), (.int .i64 0)]) w := fun w => by kernel_rfl
 obtain ⟨cur, hcur, hcs, hnn, _, _, _⟩ := Kd.R_room hr1; rw [HD.out] at hcs; have hclr := run_clear_cells (P := Try.prog) w1 26 40 0 (.agg #[(.slice none 0 0), (.int .i64 0), (.int .i64 0)]) Try.underlying26 hz g ((xs.length - 1) * 3) (xs.length - (xs.length - 1)) (c - (xs.length - 1)) cur 40 hcur (by omega) (by simp [Value.cells]; omega) (by simp [Value.cells, Value.oneCell']); have hsp := Aside0.mk (Kd.R_spare hr1 ((.agg #[(.slice none 0 0), (.int .i64 0), (.int .i64 0)]) : Value).cells.toList ((xs.length - 1) * 3) (by rw [HD.out]; exact Nat.le_refl _) (by rw [HD.out]; simp [Value.cells]; omega)); have HG := Aside0.mk hg1
 have hi2 : xs.length - 1 ≤ xs.length := by omega
 have hi3 : xs.length ≤ c := hnc; clear hcs hnn hcur hr1 hb1 hg1
 go_wp2
 all_goals
  (try subst_vars)
  go_ret
  exact ⟨_, rfl, hsp.out.1, grown_trans (grown_drew HG.out) hsp.out.2, rfl⟩

end Go.Proofs.Ytkomibcmpckflaa.PLeaseDoes
