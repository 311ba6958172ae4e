-- Written by a program of this session's (an extension of the kit's print)
import Derived.Test.YtlafaiacbebfnaaPKvDoesx0
import Derived.Test.YtlafaiacbebfnaaPKvDoesx1
namespace Go.Proofs.Ytlafaiacbebfnaa.PKvDoes
open Go.RowKit Go.Proofs.YtlafaiacbebfnaaW.PrintWords Go.Proofs.YtlafaiacbebfnaaW.PrintLast Go.Proofs.YtlafaiacbebfnaaW.PrintMore
attribute [local go_sem] max2_int min2_int max_two min_two max_three min_three max_four min_four   -- for this text's walks alone
set_option linter.unusedVariables false
set_option linter.unusedSimpArgs false

/-! ### kv_Do_1: function 28 -/
def kv_Do_1.f (l0_0 : List Int) (l0_1 : List Int) (l1 : List Int) : Option (Int) := (bytes_Compare.f l0_0 l1).bind fun t118 => (some t118)
set_option maxHeartbeats 8000000 in
set_option maxRecDepth 100000 in
theorem kv_Do_1.calls (A0_0 : Option Addr) (c0_0 : Nat) (l0_0 : List Int) (A0_1 : Option Addr) (c0_1 : Nat) (l0_1 : List Int) (A1 : Option Addr) (c1 : Nat) (l1 : List Int) (r : Int) (w : World) (hr0_0 : Kd.C (Kd.int .u8) w A0_0 l0_0.length l0_0) (hc0_0 : l0_0.length ≤ c0_0) (hr0_1 : Kd.C (Kd.int .u8) w A0_1 l0_1.length l0_1) (hc0_1 : l0_1.length ≤ c0_1) (hr1 : Kd.C (Kd.int .u8) w A1 l1.length l1) (hc1 : l1.length ≤ c1) (h : kv_Do_1.f l0_0 l0_1 l1 = some r) :
  Calls Try.prog 28 #[.agg #[.slice A0_0 l0_0.length c0_0, .slice A0_1 l0_1.length c0_1], .slice A1 l1.length c1] w fun e w' => e = .returned (.int .i64 r) ∧ Below w.heap.size w w' := by
 have hu37 := Try.underlying37; have HR0_0 := Aside0.mk hr0_0; have HC0_0 := Aside0.mk hc0_0; clear hr0_0 hc0_0; have HR0_1 := Aside0.mk hr0_1; have HC0_1 := Aside0.mk hc0_1; clear hr0_1 hc0_1; have HR1 := Aside0.mk hr1; have HC1 := Aside0.mk hc1; clear hr1 hc1; have HB := Aside0.mk (Below.refl w.heap.size w); have H : ((bytes_Compare.f l0_0 l1).bind fun t118 => (some t118)) = some r := h; clear h; replace H := Option.bind_eq_some_iff.mp H; obtain ⟨t118, A30, H⟩ := H; replace H : (some t118) = some r := H; have A3 := Aside0.mk A30; clear A30; obtain rfl := Option.some.inj H
 go_enter Try.func28, Try.ntmps28
 go_wp2_with (first | ((with_reducible refine gate_dst (N := 2) rfl ?_); refine box_event ?hg (N := 2) ?hd (cs := #[.slice A0_0 l0_0.length c0_0, .slice A0_1 l0_1.length c0_1]) (t := 37) ?hr ?_; (case hd => rfl); (case hg => rfl); (case hr => first | (go_simp; done) | (go_simp; rfl)); intro gb117 hg w4 hbox hb; have n0_ := Aside0.mk (below_step (below_u HB.out) hb); have n1_ := Aside0.mk (hbox); have n2_ := Aside0.mk ((by rw [hg]; exact (below_size (below_u HB.out)) : w.heap.size ≤ gb117)); have n3_ := Aside0.mk ((by rw [hg]; exact (below_size (below_u HB.out)) : w.heap.size ≤ gb117)); clear HB; have HB := n0_; have BK117 := n1_; have GW117 := n2_; have GE117 := n3_; clear n0_ n1_ n2_ n3_; clear hb hbox hg; have hcz5_0 : w4.cell? ⟨gb117, 0, none⟩ = some (.slice A0_0 l0_0.length c0_0) := (blk_cell BK117.out 0).trans rfl; have hcz5_1 : w4.cell? ⟨gb117, 1, none⟩ = some (.slice A0_1 l0_1.length c0_1) := (blk_cell BK117.out 1).trans rfl; have hfz5_0 := blk_frozen BK117.out 0; have hfz5_1 := blk_frozen BK117.out 1) | ((with_reducible refine gate_callee (f := 29) rfl ?_); refine goesL_ (some 8) rfl rfl Try.func29 (by kernel_rfl) rfl #[.slice A0_0 l0_0.length c0_0, .slice A1 l1.length c1] rfl (by (try simp only [List.map_toArray, List.map_cons, List.map_nil]); first | done | rfl | (simp only [List.length_drop, List.length_take]; rfl)) ?_; (with_reducible refine (bytes_Compare.calls _ _ l0_0 _ _ l1 t118 _ ?side1 ?side2 ?side3 ?side4 A3.out).mono ?_); (case side1 => exact Kd.Cu (Kd.C_below HR0_0.out HB.out)); (case side2 => exact HC0_0.out); (case side3 => exact Kd.Cu (Kd.C_below HR1.out HB.out)); (case side4 => exact HC1.out); rintro e w' ⟨rfl, ⟨nd, rfl⟩⟩; refine ⟨_, rfl, ?_⟩))
 go_ret
 exact ⟨by first | rfl | (simp [errW_none, errW_some] <;> rfl) | (simp [*, errW_none, errW_some] <;> rfl), by repeat (first | (with_reducible first | exact HB.out | apply below_alloc | apply pw_below_drewN | apply below_drew1 | refine below_set ?_ GE117.out) | exact HB.out)⟩

/-! ### api_Entry_byte: function 27 -/
def api_Entry_byte.l0 : Nat → List (S37) → List Int → Int → Int → Int → Option (Int × Bool)
 | 0, _, _, _, _, _ => none
 | k + 1, x0, x1, x8, x9, x10 => if x9 < x10 then (if 0 ≤ (wrap64 ((IntKind.u64.wrap (wrap64 (x9 + x10))) / 2)) then (if (wrap64 ((IntKind.u64.wrap (wrap64 (x9 + x10))) / 2)) < (x0.length : Int) then ((kv_Do_1.f ((rd_T37 x0 (wrap64 ((IntKind.u64.wrap (wrap64 (x9 + x10))) / 2))).f0) ((rd_T37 x0 (wrap64 ((IntKind.u64.wrap (wrap64 (x9 + x10))) / 2))).f1) x1).bind fun t120 => (if t120 < 0 then (api_Entry_byte.l0 k x0 x1 x8 (wrap64 ((wrap64 ((IntKind.u64.wrap (wrap64 (x9 + x10))) / 2)) + 1)) x10) else (api_Entry_byte.l0 k x0 x1 x8 x9 (wrap64 ((IntKind.u64.wrap (wrap64 (x9 + x10))) / 2))))) else (none)) else (none)) else (if x9 < x8 then (if 0 ≤ x9 then (if x9 < (x0.length : Int) then ((kv_Do_1.f ((rd_T37 x0 x9).f0) ((rd_T37 x0 x9).f1) x1).bind fun t122 => (some (x9, (t122 == 0)))) else (none)) else (none)) else (some (x9, false)))
def api_Entry_byte.f (k : Nat) (l0 : List (S37)) (l1 : List Int) (a2 : Unit) : Option (Int × Bool) := api_Entry_byte.l0 k l0 l1 (l0.length : Int) 0 (l0.length : Int)
theorem api_Entry_byte.mono_l : ∀ k, (∀ y0 y1 y2 y3 y4, LeO (api_Entry_byte.l0 k y0 y1 y2 y3 y4) (api_Entry_byte.l0 (k + 1) y0 y1 y2 y3 y4))
 | 0 => fun _ _ _ _ _ r h => by simp [api_Entry_byte.l0] at h
 | k + 1 => by
  have ih0 := api_Entry_byte.mono_l k
  ·intro y0 y1 y2 y3 y4
   unfold api_Entry_byte.l0
   repeat' first
   | (with_reducible exact ih0 _ _ _ _ _)
   | (with_reducible exact LeO.refl _)
   | (with_reducible exact LeO.none _)
   | (with_reducible refine LeO.ite ?_ ?_)
   | (with_reducible refine LeO.bind ?_ (fun _ => ?_))
   | exact ih0 _ _ _ _ _
   | exact LeO.none _
   | refine LeO.ite ?_ ?_
   | refine LeO.bind ?_ (fun _ => ?_)
theorem api_Entry_byte.mono : ∀ a0 a1 a2 k, LeO (api_Entry_byte.f k a0 a1 a2) (api_Entry_byte.f (k + 1) a0 a1 a2) := by
 intro a0 a1 a2 k; have ih0 := api_Entry_byte.mono_l k
 unfold api_Entry_byte.f
 repeat' first
   | (with_reducible exact ih0 _ _ _ _ _)
   | (with_reducible exact LeO.refl _)
   | (with_reducible exact LeO.none _)
   | (with_reducible refine LeO.ite ?_ ?_)
   | (with_reducible refine LeO.bind ?_ (fun _ => ?_))
   | exact ih0 _ _ _ _ _
   | exact LeO.none _
   | refine LeO.ite ?_ ?_
   | refine LeO.bind ?_ (fun _ => ?_)
set_option maxHeartbeats 8000000 in
set_option maxRecDepth 100000 in
theorem api_Entry_byte.calls (k : Nat) (A0 : Option Addr) (c0 : Nat) (l0 : List (S37)) (A1 : Option Addr) (c1 : Nat) (l1 : List Int) (a2 : Unit) (r1 : Int) (r2 : Bool) (w : World) (hr0 : Kd.C k37 w A0 l0.length l0) (hc0 : l0.length ≤ c0) (hr1 : Kd.C (Kd.int .u8) w A1 l1.length l1) (hc1 : l1.length ≤ c1) (h : api_Entry_byte.f k l0 l1 a2 = some (r1, r2)) :
  Calls Try.prog 27 #[.slice A0 l0.length c0, .slice A1 l1.length c1, .func (.func 28) #[] #[]] w fun e w' => e = .returned (.tuple #[.int .i64 r1, .bool r2]) ∧ Below w.heap.size w w' := by
 have hu37 := Try.underlying37; have HR0 := Aside0.mk hr0; have HC0 := Aside0.mk hc0; clear hr0 hc0; have HR1 := Aside0.mk hr1; have HC1 := Aside0.mk hc1; clear hr1 hc1; have HB := Aside0.mk (Below.refl w.heap.size w); have H : (api_Entry_byte.l0 k l0 l1 (l0.length : Int) 0 (l0.length : Int)) = some (r1, r2) := h; clear h; have H' := Aside0.mk H; clear H
 go_enter Try.func27, Try.ntmps27
 go_wp2
 go_loopg [9, 10] k (fun kq v9 v10 w' => ∃ (x9_1 : Int) (x10_1 : Int), v9 = .int .i64 x9_1 ∧ v10 = .int .i64 x10_1 ∧ Aside0 (api_Entry_byte.l0 kq l0 l1 (l0.length : Int) x9_1 x10_1 = some (r1, r2)) ∧ Aside0 (kq ≤ k) ∧ Aside0 (Below w.heap.size w w'))
 case atStart => exact ⟨(0), ((l0.length : Int)), (by first | rfl | (simp; done) | (simp [*]; done)), (by first | rfl | (simp; done) | (simp [*]; done)), H', ⟨Nat.le_refl _⟩, ⟨below_u HB.out⟩⟩
 case round =>
  clear H'
  try clear c1
  try clear c2
  try clear p2
  obtain ⟨x9_1, x10_1, rfl, rfl, HA, HK1, HB⟩ := hrel
  cases gk with
  | zero => exact absurd HA.out (by simp [api_Entry_byte.l0])
  | succ k1 =>
   have H := HA.out; clear HA; simp only [api_Entry_byte.l0] at H
   by_cases c4 : x9_1 < x10_1
   ·rw [if_pos c4] at H
    have c4b0 : decide (x9_1 < x10_1) = true := decide_eq_true c4; clear c4; obtain ⟨ji5, hji5⟩ : ∃ j_ : Int, (wrap64 ((IntKind.u64.wrap (wrap64 (x9_1 + x10_1))) / 2)) = j_ := ⟨_, rfl⟩
    replace H : (if 0 ≤ (ji5) then (if (ji5) < (l0.length : Int) then ((kv_Do_1.f ((rd_T37 l0 (ji5)).f0) ((rd_T37 l0 (ji5)).f1) l1).bind fun t120 => (if t120 < 0 then (api_Entry_byte.l0 k1 l0 l1 (l0.length : Int) (wrap64 ((ji5) + 1)) x10_1) else (api_Entry_byte.l0 k1 l0 l1 (l0.length : Int) x9_1 ji5))) else (none)) else (none)) = some (r1, r2) := by first | (rw [hji5] at H; exact H) | (simp only [hji5] at H ⊢; exact H)
    have hji5w : (IntKind.i64.wrap ((IntKind.u64.wrap (wrap64 (x9_1 + x10_1))) / 2)) = ji5 := (i64_w _).trans hji5
    by_cases c6 : 0 ≤ (ji5)
    ·rw [if_pos c6] at H
     have c6b0 : decide (0 ≤ (ji5)) = true := decide_eq_true c6; clear c6
     by_cases c7 : (ji5) < (l0.length : Int)
     ·rw [if_pos c7] at H
      have c7b0 : decide ((ji5) < (l0.length : Int)) = true := decide_eq_true c7; clear c7; replace H := Option.bind_eq_some_iff.mp H; obtain ⟨t120, A80, H⟩ := H; replace H : (if t120 < 0 then (api_Entry_byte.l0 k1 l0 l1 (l0.length : Int) (wrap64 ((ji5) + 1)) x10_1) else (api_Entry_byte.l0 k1 l0 l1 (l0.length : Int) x9_1 ji5)) = some (r1, r2) := H; have A8 := Aside0.mk A80; clear A80
      by_cases c9 : t120 < 0
      ·rw [if_pos c9] at H
       have c9b0 : decide (t120 < 0) = true := decide_eq_true c9; clear c9; have H' := Aside0.mk H; clear H; have p119 : 0 ≤ ((ji5) : Int) := of_decide_eq_true (by first | (with_reducible assumption) | assumption); have q119 : (ji5) < (l0.length : Int) := of_decide_eq_true (by first | (with_reducible assumption) | assumption); obtain ⟨ad119, A119_0, c119_0, A119_1, c119_1, e119, hx119_0, hx119_1, hl119_0, hi119_0, hl119_1, hi119_1⟩ := at_T37 HR0.out (ji5) p119 q119
       cases e119
       replace hx119_0 := (HB.out.cell (World.block_lt_of_cell? w _ hx119_0)).trans hx119_0; replace hx119_1 := (HB.out.cell (World.block_lt_of_cell? w _ hx119_1)).trans hx119_1; have HR119_0 := Aside0.mk hi119_0; have HC119_0 := Aside0.mk hl119_0; clear hi119_0 hl119_0; have HR119_1 := Aside0.mk hi119_1; have HC119_1 := Aside0.mk hl119_1; clear hi119_1 hl119_1; replace p119 := eq_true p119; replace q119 := eq_true q119
       go_wp2_with (first | (go_at_call 28; (with_reducible refine (kv_Do_1.calls _ _ ((rd_T37 l0 (ji5)).f0) _ _ ((rd_T37 l0 (ji5)).f1) _ _ l1 t120 _ ?side1 ?side2 ?side3 ?side4 ?side5 ?side6 A8.out).mono ?_); (case side1 => exact Kd.Cu (Kd.C_below HR119_0.out HB.out)); (case side2 => exact HC119_0.out); (case side3 => exact Kd.Cu (Kd.C_below HR119_1.out HB.out)); (case side4 => exact HC119_1.out); (case side5 => exact Kd.Cu (Kd.C_below HR1.out HB.out)); (case side6 => exact HC1.out); rintro e w10 ⟨rfl, hb⟩; have n0_ := Aside0.mk (below_step (below_u HB.out) hb); clear HB; have HB := n0_; clear n0_; (try clear hb); (try clear hb2); (try clear hk); (try clear hi)))
       go_roundg k1
       case measure => have := HK1.out; omega
       case rel => exact ⟨(wrap64 ((ji5) + 1)), (x10_1), (by first | rfl | (simp; done) | (simp only [← hji5] <;> (first | rfl | simp)) | (simp [*]; done)), (by first | rfl | (simp; done) | (simp [*]; done)), H', ⟨by have := HK1.out; omega⟩, ⟨below_u HB.out⟩⟩
      ·rw [if_neg c9] at H
       have c9b0 : decide (t120 < 0) = false := decide_eq_false c9; clear c9; have H' := Aside0.mk H; clear H; have p119 : 0 ≤ ((ji5) : Int) := of_decide_eq_true (by first | (with_reducible assumption) | assumption); have q119 : (ji5) < (l0.length : Int) := of_decide_eq_true (by first | (with_reducible assumption) | assumption); obtain ⟨ad119, A119_0, c119_0, A119_1, c119_1, e119, hx119_0, hx119_1, hl119_0, hi119_0, hl119_1, hi119_1⟩ := at_T37 HR0.out (ji5) p119 q119
       cases e119
       replace hx119_0 := (HB.out.cell (World.block_lt_of_cell? w _ hx119_0)).trans hx119_0; replace hx119_1 := (HB.out.cell (World.block_lt_of_cell? w _ hx119_1)).trans hx119_1; have HR119_0 := Aside0.mk hi119_0; have HC119_0 := Aside0.mk hl119_0; clear hi119_0 hl119_0; have HR119_1 := Aside0.mk hi119_1; have HC119_1 := Aside0.mk hl119_1; clear hi119_1 hl119_1; replace p119 := eq_true p119; replace q119 := eq_true q119
       go_wp2_with (first | (go_at_call 28; (with_reducible refine (kv_Do_1.calls _ _ ((rd_T37 l0 (ji5)).f0) _ _ ((rd_T37 l0 (ji5)).f1) _ _ l1 t120 _ ?side1 ?side2 ?side3 ?side4 ?side5 ?side6 A8.out).mono ?_); (case side1 => exact Kd.Cu (Kd.C_below HR119_0.out HB.out)); (case side2 => exact HC119_0.out); (case side3 => exact Kd.Cu (Kd.C_below HR119_1.out HB.out)); (case side4 => exact HC119_1.out); (case side5 => exact Kd.Cu (Kd.C_below HR1.out HB.out)); (case side6 => exact HC1.out); rintro e w11 ⟨rfl, hb⟩; have n0_ := Aside0.mk (below_step (below_u HB.out) hb); clear HB; have HB := n0_; clear n0_; (try clear hb); (try clear hb2); (try clear hk); (try clear hi)))
       go_roundg k1
       case measure => have := HK1.out; omega
       case rel => exact ⟨(x9_1), (ji5), (by first | rfl | (simp; done) | (simp [*]; done)), (by first | rfl | (simp; done) | (simp only [← hji5] <;> (first | rfl | simp)) | (simp [*]; done)), H', ⟨by have := HK1.out; omega⟩, ⟨below_u HB.out⟩⟩
     ·rw [if_neg c7] at H
      exact absurd H (by simp)
    ·rw [if_neg c6] at H
     exact absurd H (by simp)
   ·rw [if_neg c4] at H
    have c4b0 : decide (x9_1 < x10_1) = false := decide_eq_false c4; clear c4
    by_cases c12 : x9_1 < (l0.length : Int)
    ·rw [if_pos c12] at H
     have c12b0 : decide (x9_1 < (l0.length : Int)) = true := decide_eq_true c12; clear c12
     by_cases c13 : 0 ≤ x9_1
     ·rw [if_pos c13] at H
      have c13b0 : decide (0 ≤ x9_1) = true := decide_eq_true c13; clear c13
      by_cases c14 : x9_1 < (l0.length : Int)
      ·rw [if_pos c14] at H
       have c14b0 : decide (x9_1 < (l0.length : Int)) = true := decide_eq_true c14; clear c14; replace H := Option.bind_eq_some_iff.mp H; obtain ⟨t122, A150, H⟩ := H; replace H : (some (x9_1, (t122 == 0))) = some (r1, r2) := H; have A15 := Aside0.mk A150; clear A150; simp only [Option.some.injEq, Prod.mk.injEq] at H; obtain ⟨rfl, rfl⟩ := H; have p121 : 0 ≤ (x9_1 : Int) := of_decide_eq_true (by first | (with_reducible assumption) | assumption); have q121 : x9_1 < (l0.length : Int) := of_decide_eq_true (by first | (with_reducible assumption) | assumption); obtain ⟨ad121, A121_0, c121_0, A121_1, c121_1, e121, hx121_0, hx121_1, hl121_0, hi121_0, hl121_1, hi121_1⟩ := at_T37 HR0.out x9_1 p121 q121
       cases e121
       replace hx121_0 := (HB.out.cell (World.block_lt_of_cell? w _ hx121_0)).trans hx121_0; replace hx121_1 := (HB.out.cell (World.block_lt_of_cell? w _ hx121_1)).trans hx121_1; have HR121_0 := Aside0.mk hi121_0; have HC121_0 := Aside0.mk hl121_0; clear hi121_0 hl121_0; have HR121_1 := Aside0.mk hi121_1; have HC121_1 := Aside0.mk hl121_1; clear hi121_1 hl121_1; replace p121 := eq_true p121; replace q121 := eq_true q121
       go_wp2_with (first | (go_at_call 28; (with_reducible refine (kv_Do_1.calls _ _ ((rd_T37 l0 x9_1).f0) _ _ ((rd_T37 l0 x9_1).f1) _ _ l1 t122 _ ?side1 ?side2 ?side3 ?side4 ?side5 ?side6 A15.out).mono ?_); (case side1 => exact Kd.Cu (Kd.C_below HR121_0.out HB.out)); (case side2 => exact HC121_0.out); (case side3 => exact Kd.Cu (Kd.C_below HR121_1.out HB.out)); (case side4 => exact HC121_1.out); (case side5 => exact Kd.Cu (Kd.C_below HR1.out HB.out)); (case side6 => exact HC1.out); rintro e w16 ⟨rfl, hb⟩; have n0_ := Aside0.mk (below_step (below_u HB.out) hb); clear HB; have HB := n0_; clear n0_; (try clear hb); (try clear hb2); (try clear hk); (try clear hi)))
       go_ret2
       exact ⟨by first | rfl | (simp [errW_none, errW_some] <;> rfl) | (simp [*, errW_none, errW_some] <;> rfl), below_u HB.out⟩
      ·rw [if_neg c14] at H
       exact absurd H (by simp)
     ·rw [if_neg c13] at H
      exact absurd H (by simp)
    ·rw [if_neg c12] at H
     have c12b0 : decide (x9_1 < (l0.length : Int)) = false := decide_eq_false c12; clear c12; simp only [Option.some.injEq, Prod.mk.injEq] at H; obtain ⟨rfl, rfl⟩ := H
     go_wp2
     go_ret2
     exact ⟨by first | rfl | (simp [errW_none, errW_some] <;> rfl) | (simp [*, errW_none, errW_some] <;> rfl), below_u HB.out⟩

/-! ### api_Entry_31: function 31 (given) -/
theorem api_Entry_31.info : (Try.prog.info? 37).map (fun i => (i.zero, i.size, i.bytes)) = some (some (.agg #[(.slice none 0 0), (.slice none 0 0)]), 2, 48) := by kernel_rfl
set_option maxHeartbeats 800000 in
theorem api_Entry_31.at_end (base : Nat) (v : Value) (n : Nat) (inner c : List Value) (W : World) (hown : W.ownsRow base 37 2 v n inner)
  (hc : c.length = 2) (h1 : ∀ u ∈ c, u.oneCell' = true) (hl : (n + 1) * 48 ≤ 140737488355328) (hbase : base ≤ W.heap.size) :
  Calls Try.prog 31 #[v, .int .i64 (n : Int), .slice (some ⟨W.heap.size, 0, none⟩) 1 1] (W.alloc (.cells c.toArray 37)) fun e w' => ∃ v', e = .returned v' ∧ w'.ownsRow base 37 2 v' (n + 1) (inner ++ c) ∧ W.grownBy w' v.ownBlock ∧ (v'.ownBlock = v.ownBlock ∨ ∃ b, v'.ownBlock = some b ∧ W.heap.size ≤ b) := by
 obtain ⟨A, cap, hv, hnc, hcm⟩ : ∃ A cap, v = .slice A n cap ∧ n ≤ cap ∧ cap ≤ 9223372036854775807 := by
  rcases hown.2 with ⟨rfl, rfl⟩ | ⟨g, cap, cur, rfl, _, _, h3, h4, _⟩
  ·exact ⟨none, 0, rfl, Nat.le_refl _, by omega⟩
  ·unfold maxLen at h4
   exact ⟨_, cap, rfl, h3, by omega⟩
 subst hv; have HO := Aside0.mk hown; have HC := Aside0.mk hc; have H1 := Aside0.mk h1; clear hown hc h1
 go_enter Try.func31, Try.ntmps31
 go_wp2_with (at_builtin; refine print_append_cells (w0 := W) base rfl (.tmp 23) (.tmp 24) 23 37 (.agg #[(.slice none 0 0), (.slice none 0 0)]) 2 48 rfl Try.underlying23 api_Entry_31.info rfl (by decide) (by decide) (.slice A n cap) n inner c rfl rfl HC.out H1.out HO.out (Below.refl _ _) hbase hl ?_; intro v' w' hown' _ hgrow hat; have HO' := Aside0.mk hown'; have HG' : Aside0 (W.grownBy w' (Value.slice A n cap).ownBlock) := ⟨hgrow⟩; have HAT := Aside0.mk hat; clear hown' hgrow hat)
 all_goals
  (try subst_vars)
  go_ret
  exact ⟨_, rfl, HO'.out, HG'.out, HAT.out⟩
set_option maxHeartbeats 800000 in
set_option maxRecDepth 100000 in
/-- Room: in place. -/
theorem api_Entry_31.room (base g n i cap : Nat) (inner c : List Value) (cx gx : Nat) (curx : Array Value) (w : World) (hown : w.ownsRow base 37 2 (.slice (some ⟨g, 0, none⟩) n cap) n inner)
  (hx : w.heap[gx]? = some (.cells curx 37 (0, 0))) (hcx : curx.toList = c) (hc : c.length = 2) (h1 : ∀ u ∈ c, u.oneCell' = true) (hgx : gx ≠ g) (hin : i < n) (hroom : n + 1 ≤ cap) (hone : ∀ u ∈ inner, u.oneCell' = true) :
  Calls Try.prog 31 #[.slice (some ⟨g, 0, none⟩) n cap, .int .i64 (i : Int), .slice (some ⟨gx, 0, none⟩) 1 cx] w fun e w' => ∃ v', e = .returned v' ∧ w'.ownsRow base 37 2 v' (n + 1) (inner.take (i * 2) ++ c ++ inner.drop (i * 2)) ∧ w.grownBy w' (some g) ∧ v'.ownBlock = some g := by
 obtain ⟨hil, hown⟩ := hown
 rcases hown with ⟨he, _⟩ | ⟨g', cap', cur, he, hb, hh, hnc, hcm, hcs, ht⟩
 ·cases he
 injection he with e1 e2 e3
 injection e1 with e1
 injection e1 with e1
 subst e1; subst e3; clear e2
 have hcm' : cap ≤ 9223372036854775807 := by unfold maxLen at hcm; omega
 have hsz : ∀ w, (sizeOf 37).run Try.prog w = .ok 2 w := fun w => by kernel_rfl
 have hmv : (inner.drop (i * 2)) <+: cur.toList.drop (i * 2) := by
  rw [← ht, List.drop_take]; exact List.take_prefix _ _
 have hov : (callFunc 47 #[.slice (some ⟨gx, 0, none⟩) 1 cx, .slice (some ⟨g, (i + 1) * 2, none⟩) (n - i) (cap - (i + 1))]).run Try.prog w = .ok (.value (.bool false)) w := by
  rw [run_callFunc_extern (P := Try.prog) (f := 47) Try.func47 (by kernel_rfl) (by kernel_rfl) (by kernel_rfl) (e := Extern.SlicesOverlaps.overlaps Try.f47.params Try.f47.resultTypes) (by kernel_rfl)]; rw [show Try.f47.params = #[23, 23] from by kernel_rfl, show Try.f47.resultTypes = #[4] from by kernel_rfl]; rw [Lib.run_overlaps_apart w 23 4 37 Try.underlying23 2 hsz ⟨gx, 0, none⟩ ⟨g, (i + 1) * 2, none⟩ 1 cx (n - i) (cap - (i + 1)) hgx 37 37 curx.size cur.size (by simp [World.shape?, hx]) (by simp [World.shape?, hh]) (by omega) (blk_frozen hx _) (blk_frozen hx _)]
  rfl
 have hc1 : ∀ ty, (Builtin.copy_ #[23, 23] ty #[.slice (some ⟨g, (i + 1) * 2, none⟩) (n - i) (cap - (i + 1)), .slice (some ⟨g, i * 2, none⟩) (n + 1 - i) (cap - i)]).run Try.prog w.drew = .ok (.int .i64 ((n - i : Nat) : Int)) (w.drew.setCells g ((i + 1) * 2) (inner.drop (i * 2))) := fun ty =>
  run_copy_any w.drew 23 23 ty 37 2 Try.underlying23 hsz g ((i + 1) * 2) (n - i) (cap - (i + 1)) ⟨g, i * 2, none⟩ (n + 1 - i) (cap - i) (n - i) (Nat.min_eq_right (by omega)) (inner.drop (i * 2)) (by rw [List.length_drop, hil]; omega) (cells_of_block (w := w) hh (i * 2) _ hmv) cur 37 hh (by rw [List.length_drop, hil, hcs]; omega) (fun u hu => hone u (List.mem_of_mem_drop hu))
 obtain ⟨cur1, e1, e2, _⟩ := setCells_row (inner.drop (i * 2)) ((i + 1) * 2) w.drew cur hh (by rw [List.length_drop, hil, hcs]; omega)
 have hx1 : (w.drew.setCells g ((i + 1) * 2) (inner.drop (i * 2))).heap[gx]? = some (.cells curx 37 (0, 0)) := by rw [setCells_far _ _ gx hgx]; exact hx
 have hc2 : ∀ ty, (Builtin.copy_ #[23, 23] ty #[.slice (some ⟨g, i * 2, none⟩) (n + 1 - i) (cap - i), .slice (some ⟨gx, 0, none⟩) 1 cx]).run Try.prog (w.drew.setCells g ((i + 1) * 2) (inner.drop (i * 2))) = .ok (.int .i64 ((1 : Nat) : Int)) ((w.drew.setCells g ((i + 1) * 2) (inner.drop (i * 2))).setCells g (i * 2) c) := fun ty =>
  run_copy_any _ 23 23 ty 37 2 Try.underlying23 hsz g (i * 2) (n + 1 - i) (cap - i) ⟨gx, 0, none⟩ 1 cx 1 (Nat.min_eq_left (by omega)) c (by rw [hc]) (cells_of_block (w := w.drew.setCells g ((i + 1) * 2) (inner.drop (i * 2))) hx1 0 c (by rw [List.drop_zero, ← hcx]; exact List.prefix_rfl)) cur1 37 e1 (by rw [hc, e2, hcs]; omega) h1
 have HF := Aside0.mk (row_insert (w := w.drew) (base := base) (sz := 2) hb hh hcm hcs hil ht (Nat.le_of_lt hin) hroom hc)
 have hi1 : i ≤ n := by omega
 have hi2 : i ≤ n + 1 := by omega
 have hi3 : i + 1 ≤ n + 1 := by omega
 have h01 : 0 ≤ (i : Int) + 1 := by omega
 have h02 : (i : Int) + 1 ≤ (n : Int) + 1 := by omega
 have hd : decide ((cap : Int) < (n : Int) + 1) = false := by simp; omega
 clear hil hcs ht hcx hc e1 e2 hx1 hx hmv hone h1 hsz
 go_enter Try.func31, Try.ntmps31
 go_wp2_with fail
 go_region
 all_goals
  go_wp2_with fail
  go_ret
  have hf := HF.out; exact ⟨_, rfl, hf.1, grown_drew hf.2, rfl⟩
set_option maxHeartbeats 800000 in
set_option maxRecDepth 100000 in
/-- No room: a new row. -/
theorem api_Entry_31.grow (base g n i : Nat) (inner c : List Value) (cx gx : Nat) (curx : Array Value) (w : World) (hown : w.ownsRow base 37 2 (.slice (some ⟨g, 0, none⟩) n n) n inner)
  (hx : w.heap[gx]? = some (.cells curx 37 (0, 0))) (hcx : curx.toList = c) (hc : c.length = 2) (h1 : ∀ u ∈ c, u.oneCell' = true) (hin : i < n) (hone : ∀ u ∈ inner, u.oneCell' = true) (hl : (n + 1) * 48 ≤ 140737488355328) (hbase : base ≤ w.heap.size) :
  Calls Try.prog 31 #[.slice (some ⟨g, 0, none⟩) n n, .int .i64 (i : Int), .slice (some ⟨gx, 0, none⟩) 1 cx] w fun e w' => ∃ v', e = .returned v' ∧ w'.ownsRow base 37 2 v' (n + 1) (inner.take (i * 2) ++ c ++ inner.drop (i * 2)) ∧ w.grownBy w' (some g) ∧ v'.ownBlock = some w.heap.size := by
 obtain ⟨hil, hown⟩ := hown
 rcases hown with ⟨he, _⟩ | ⟨g', cap', cur, he, hb, hh, hnc, hcm, hcs, ht⟩
 ·cases he
 injection he with e1 e2 e3
 injection e1 with e1
 injection e1 with e1
 subst e1; subst e3; clear e2
 have hcm' : n ≤ 9223372036854775807 := by unfold maxLen at hcm; omega
 have hsz : ∀ w, (sizeOf 37).run Try.prog w = .ok 2 w := fun w => by kernel_rfl
 have hglt : g < w.heap.size := blk_lt hh; obtain ⟨i0, hi, hz0, hz1, hz2⟩ := info_parts api_Entry_31.info
 have hi1 : i ≤ n := by omega
 have hd : decide ((n : Int) < (n : Int) + 1) = true := by simp; omega
 have hne : ((i : Int) == (n : Int)) = false := by rw [beq_eq_false_iff_ne]; omega
 have h01 : 0 ≤ (n : Int) + 1 - (i : Int) := by omega
 have hsub : (n : Int) + 1 - (i : Int) = ((n + 1 - i : Nat) : Int) := by omega
 have hneed : i + (n + 1 - i) = n + 1 := by omega
 obtain ⟨cap, zs, hrun, hcap, hcapm, hzl⟩ : ∃ (cap : Nat) (zs : List Value), (∀ ty, (Builtin.append_ #[23, 3] ty #[.slice (some ⟨g, 0, none⟩) i n, .int .i64 ((n + 1 - i : Nat) : Int)]).run Try.prog w = .ok (.slice (some ⟨w.heap.size, 0, none⟩) (n + 1) cap) (w.alloc (.cells (inner.take (i * 2) ++ zs).toArray 37)).drew) ∧ n + 1 ≤ cap ∧ cap ≤ maxLen ∧ (inner.take (i * 2) ++ zs).length = cap * 2 := by
  refine ⟨grownCap w (i + (n + 1 - i)) n 37, (Builtin.zeroCells ((.agg #[(.slice none 0 0), (.slice none 0 0)]) : Value).cells (n + 1 - i)).toList ++ (Builtin.zeroCells ((.agg #[(.slice none 0 0), (.slice none 0 0)]) : Value).cells (grownCap w (i + (n + 1 - i)) n 37 - (i + (n + 1 - i)))).toList, fun ty => ?_, ?_, ?_, ?_⟩
  ·have h := Lib.run_append_grow_zeros (P := Try.prog) w 23 3 ty 37 i0 (.agg #[(.slice none 0 0), (.slice none 0 0)]) .i64 .i64 Try.underlying23 Try.underlying3 hi hz0 (some ⟨g, 0, none⟩) i n (inner.take (i * 2)) (by
    rw [hz1]
    exact run_firstCells_some (P := Try.prog) w.drew 2 i ⟨g, 0, none⟩ i n (inner.take (i * 2)) (by rw [List.length_take, hil]; omega) (cells_of_block (w := w) hh 0 _ (by rw [List.drop_zero, ← ht, List.take_take]; exact List.take_prefix _ _))) (n + 1 - i) (by omega) (by rw [hz1]; decide) (by omega) (by omega) (by rw [hz2]; omega) (by rw [hz2, hneed]; exact growslice_fits (by omega) hl)
   rw [h, hneed]
   congr 3
   show (World.alloc w _).drew = _
   congr 3
   apply Array.ext'
   simp [Value.cells]
  ·rw [hneed]; exact grownCap_ge _ _ _ _
  ·exact grownCap_le_maxLen _ _ _ _ (by rw [hneed]; unfold maxLen; omega)
  ·have := grownCap_ge w (i + (n + 1 - i)) n 37
   simp [Builtin.zeroCells, Value.cells, hil]
   omega
 have hmv : (inner.drop (i * 2)) <+: cur.toList.drop (i * 2) := by
  rw [← ht, List.drop_take]; exact List.take_prefix _ _
 obtain ⟨W1, hW1⟩ : ∃ W1 : World, W1 = (w.alloc (.cells (inner.take (i * 2) ++ zs).toArray 37)).drew := ⟨_, rfl⟩
 have hh1 : W1.heap[w.heap.size]? = some (.cells (inner.take (i * 2) ++ zs).toArray 37 (0, 0)) := by
  rw [hW1]
  show (w.heap.push _)[w.heap.size]? = _
  simp
 have hold : ∀ k, k < w.heap.size → W1.heap[k]? = w.heap[k]? := fun k hk => by rw [hW1]; exact Below.heap_alloc w _ k hk
 have hgxlt : gx < w.heap.size := blk_lt hx
 have hzs : (inner.take (i * 2) ++ zs).toArray.size = cap * 2 := by simpa using hzl
 have hcA : ∀ ty, (Builtin.copy_ #[23, 23] ty #[.slice (some ⟨w.heap.size, i * 2, none⟩) (n + 1 - i) (cap - i), .slice (some ⟨gx, 0, none⟩) 1 cx]).run Try.prog W1 = .ok (.int .i64 ((1 : Nat) : Int)) (W1.setCells w.heap.size (i * 2) c) := fun ty =>
  run_copy_any W1 23 23 ty 37 2 Try.underlying23 hsz w.heap.size (i * 2) (n + 1 - i) (cap - i) ⟨gx, 0, none⟩ 1 cx 1 (Nat.min_eq_left (by omega)) c (by rw [hc]) (cells_of_block ((hold gx hgxlt).trans hx) 0 c (by rw [List.drop_zero, ← hcx]; exact List.prefix_rfl)) _ 37 hh1 (by rw [hc, hzs]; omega) h1
 obtain ⟨cur1, e1, e2, _⟩ := setCells_row c (i * 2) W1 _ hh1 (by rw [hc, hzs]; omega)
 have hcB : ∀ ty, (Builtin.copy_ #[23, 23] ty #[.slice (some ⟨w.heap.size, (i + 1) * 2, none⟩) (n - i) (cap - (i + 1)), .slice (some ⟨g, i * 2, none⟩) (n - i) (n - i)]).run Try.prog (W1.setCells w.heap.size (i * 2) c).drew = .ok (.int .i64 ((n - i : Nat) : Int)) ((W1.setCells w.heap.size (i * 2) c).drew.setCells w.heap.size ((i + 1) * 2) (inner.drop (i * 2))) := fun ty =>
  run_copy_any _ 23 23 ty 37 2 Try.underlying23 hsz w.heap.size ((i + 1) * 2) (n - i) (cap - (i + 1)) ⟨g, i * 2, none⟩ (n - i) (n - i) (n - i) (Nat.min_self _) (inner.drop (i * 2)) (by rw [List.length_drop, hil]; omega) (cells_of_block (w := (W1.setCells w.heap.size (i * 2) c).drew) (show (W1.setCells w.heap.size (i * 2) c).heap[g]? = _ by rw [setCells_far _ _ g (by omega), hold g hglt]; exact hh) (i * 2) _ hmv) cur1 37 e1 (by rw [List.length_drop, hil, e2, hzs]; omega) (fun u hu => hone u (List.mem_of_mem_drop hu))
 have HF := Aside0.mk (row_insert_new (w := w) (base := base) (sz := 2) (e := 37) (n := n) (i := i) (cap := cap) (inner := inner) (c := c) (zs := zs) hbase hcapm hil hi1 hcap hc hzl); have HW1 := Aside0.mk hW1; have HRUN : Aside0 (∀ ty, (Builtin.append_ #[23, 3] ty #[.slice (some ⟨g, 0, none⟩) i n, .int .i64 ((n + 1 - i : Nat) : Int)]).run Try.prog w = .ok (.slice (some ⟨w.heap.size, 0, none⟩) (n + 1) cap) W1) := ⟨fun ty => by rw [hrun, hW1]⟩
 have hi2 : i ≤ n + 1 := by omega
 have hi3 : i + 1 ≤ n + 1 := by omega
 have h02 : 0 ≤ (i : Int) + 1 := by omega
 have h03 : (i : Int) + 1 ≤ (n : Int) + 1 := by omega
 have hne1 : cap ≠ i := by omega
 have hne2 : cap ≠ i + 1 := by omega
 clear hrun hW1 hh1 hold hzs e1 e2 hmv hil hcs ht hcx hc h1 hone hx hh hzl hsz
 go_enter Try.func31, Try.ntmps31
 go_wp2_with (at_builtin; refine Lib.wpList_append_run _ rfl (.tmp 34) (.tmp 39) 23 3 rfl (.slice (some ⟨g, 0, none⟩) i n) (.int .i64 ((n + 1 - i : Nat) : Int)) rfl rfl _ _ (HRUN.out _) ?_)
 go_region
 all_goals
  go_wp2_with fail
  go_ret
  have hf := HF.out; rw [HW1.out, setCells_drew, setCells_drew, setCells_drew]; exact ⟨_, rfl, owns_drew (owns_drew hf.1), grown_to_drew (grown_to_drew (hf.2 _)), rfl⟩

theorem api_Entry_31.ins : Kd.InsCall Try.prog 31 37 2 48 := by
 intro base v n i inner c W hown hc h1 hone hi hl hbase; have hx : (W.alloc (.cells c.toArray 37)).heap[W.heap.size]? = some (.cells c.toArray 37 (0, 0)) := blk_new W _; have ho' := hown.alloc (.cells c.toArray 37)
 have hb' : base ≤ (W.alloc (.cells c.toArray 37)).heap.size := by simp; omega
 rcases Nat.eq_or_lt_of_le hi with rfl | hlt
 ·refine (api_Entry_31.at_end base v i inner c W hown hc h1 hl hbase).mono ?_
  rintro e w' ⟨v', rfl, ho, hg, hat⟩; refine ⟨v', rfl, ?_, hg, hat⟩; have hl2 : inner.length = i * 2 := hown.1; rw [List.take_of_length_le (by omega), List.drop_eq_nil_of_le (by omega), List.append_nil]; exact ho
 ·rcases hown.2 with ⟨_, h0⟩ | ⟨g, cap, cur, rfl, _, hh, hnc, _⟩
  ·omega
  ·have hgx : W.heap.size ≠ g := by have := blk_lt hh; omega
   by_cases hroom : n + 1 ≤ cap
   ·refine (api_Entry_31.room base g n i cap inner c 1 W.heap.size c.toArray _ ho' hx (by simp) hc h1 hgx hlt hroom hone).mono ?_
    rintro e w' ⟨v', rfl, ho, hg, hat⟩; exact ⟨v', rfl, ho, grown_trans (World.grownBy_alloc W _ _) hg, .inl hat⟩
   ·obtain rfl : cap = n := by omega
    refine (api_Entry_31.grow base g cap i inner c 1 W.heap.size c.toArray _ ho' hx (by simp) hc h1 hlt hone hl hb').mono ?_; rintro e w' ⟨v', rfl, ho, hg, hat⟩; exact ⟨v', rfl, ho, grown_trans (World.grownBy_alloc W _ _) hg, .inr ⟨_, hat, by simp⟩⟩

/-! ### bytes_Equal: function 32 -/
def bytes_Equal.f (l0 : List Int) (l1 : List Int) : Option (Bool) := some ((strOfNums l0).toList == (strOfNums l1).toList)
set_option maxHeartbeats 8000000 in
set_option maxRecDepth 100000 in
theorem bytes_Equal.calls (A0 : Option Addr) (c0 : Nat) (l0 : List Int) (A1 : Option Addr) (c1 : Nat) (l1 : List Int) (r : Bool) (w : World) (hr0 : Kd.C (Kd.int .u8) w A0 l0.length l0) (hc0 : l0.length ≤ c0) (hr1 : Kd.C (Kd.int .u8) w A1 l1.length l1) (hc1 : l1.length ≤ c1) (h : bytes_Equal.f l0 l1 = some r) :
  Calls Try.prog 32 #[.slice A0 l0.length c0, .slice A1 l1.length c1] w fun e w' => e = .returned (.bool r) ∧ Drawn0 w w' := by
 have HR0 := Aside0.mk hr0; have HC0 := Aside0.mk hc0; clear hr0 hc0; have HR1 := Aside0.mk hr1; have HC1 := Aside0.mk hc1; clear hr1 hc1; have H : (some ((strOfNums l0).toList == (strOfNums l1).toList)) = some r := h; clear h; obtain rfl := Option.some.inj H; have hcv3 := Kd.C_string (P := Try.prog) (A := A0) (c := c0) Try.underlying24 Try.underlying5 Try.underlying9 HR0.out; have hcv4 := Kd.C_string (P := Try.prog) (A := A1) (c := c1) Try.underlying24 Try.underlying5 Try.underlying9 HR1.out
 go_enter Try.func32, Try.ntmps32
 go_wp2
 go_ret
 exact ⟨by first | rfl | (simp; done) | (simp [*]; done), by repeat (first | exact Drawn0.refl _ | apply Drawn0.step)⟩

/-! ### api_Entry_33: function 33 (given) -/
set_option maxHeartbeats 800000 in
set_option maxRecDepth 100000 in
theorem api_Entry_33.del : Kd.DelCall Try.prog 33 37 2 := by
 intro β d hd base ok v xs i w h hi hbase; obtain ⟨g, c, rfl, hg, hgl, cells, hcells⟩ := Kd.R_form h (by omega); obtain ⟨_, hnc, _⟩ := Kd.R_reads' h
 have hcm : c ≤ 9223372036854775807 := by
  obtain ⟨inner, ho⟩ := Kd.R_own h
  rcases ho.2 with ⟨he, _⟩ | ⟨g', cap, cur, he, _, _, _, hm, _⟩
  ·cases he
  ·injection he with _ _ h3
   subst h3
   unfold maxLen at hm
   omega
 have hne : ((i : Int) == (i : Int) + 1) = false := by rw [beq_eq_false_iff_ne]; omega
 have hic : i ≤ c := by omega
 have hin : i + 1 ≤ xs.length := by omega
 have hic2 : i + 1 ≤ c := by omega
 have h01 : 0 ≤ (i : Int) + 1 := by omega
 have h02 : (i : Int) + 1 ≤ (xs.length : Int) := by omega
 have HR := Aside0.mk h; have HD := Aside0.mk hd
 have HA := Aside0.mk (show (if c = i + 1 then some (⟨g, 0, none⟩ : Addr) else some ⟨g, (i + 1) * 2, none⟩) = if c = i + 1 then some ⟨g, 0, none⟩ else (some (⟨g, 0, none⟩ : Addr)).map (·.add ((i + 1) * d.sz)) from by
  rw [hd]
  split
  ·rfl
  ·simp [Addr.add])
 have HI := Aside0.mk (show (Try.prog.info? 37).map (·.size) = some d.sz from by rw [hd]; kernel_rfl); clear h hcells hd
 go_enter Try.func33, Try.ntmps33
 go_wp2_with fail
 go_region_law ((refine Kd.R_delete_step d (w0 := w) base rfl (.tmp 22) (.tmp 25) 23 37 rfl Try.underlying23 HI.out (g := g) (n := xs.length) (c := c) (k := i) (m := xs.length - (i + 1)) (c2 := c - (i + 1)) (A := if c = i + 1 then some ⟨g, 0, none⟩ else some ⟨g, (i + 1) * 2, none⟩) (by simp [Act.eval, Act.put]) (by simp [Act.eval, Act.put]) HA.out rfl (Kd.R_drew HR.out) hi (below_drew1 (Below.refl _ _)) hbase ?_); intro w1 hr1 hb1 hg1)
 have hz : ∀ w, (zeroValue 37).run Try.prog w = .ok (.agg #[(.slice none 0 0), (.slice none 0 0)]) w := fun w => by kernel_rfl
 obtain ⟨cur, hcur, hcs, hnn, _, _, _⟩ := Kd.R_room hr1; rw [HD.out] at hcs; have hclr := run_clear_cells (P := Try.prog) w1 23 37 0 (.agg #[(.slice none 0 0), (.slice none 0 0)]) Try.underlying23 hz g ((xs.length - 1) * 2) (xs.length - (xs.length - 1)) (c - (xs.length - 1)) cur 37 hcur (by omega) (by simp [Value.cells]; omega) (by simp [Value.cells, Value.oneCell']); have hsp := Aside0.mk (Kd.R_spare hr1 ((.agg #[(.slice none 0 0), (.slice none 0 0)]) : Value).cells.toList ((xs.length - 1) * 2) (by rw [HD.out]; exact Nat.le_refl _) (by rw [HD.out]; simp [Value.cells]; omega)); have HG := Aside0.mk hg1
 have hi2 : xs.length - 1 ≤ xs.length := by omega
 have hi3 : xs.length ≤ c := hnc; clear hcs hnn hcur hr1 hb1 hg1
 go_wp2
 all_goals
  (try subst_vars)
  go_ret
  exact ⟨_, rfl, hsp.out.1, grown_trans (grown_drew HG.out) hsp.out.2, rfl⟩

end Go.Proofs.Ytlafaiacbebfnaa.PKvDoes
