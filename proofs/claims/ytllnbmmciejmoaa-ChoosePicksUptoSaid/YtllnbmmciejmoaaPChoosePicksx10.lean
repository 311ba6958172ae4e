-- Written by a program of this session's (an extension of the kit's print)
import Derived.Test.YtllnbmmciejmoaaPChoosePicksx0
import Derived.Test.YtllnbmmciejmoaaPChoosePicksx1
import Derived.Test.YtllnbmmciejmoaaPChoosePicksx2
import Derived.Test.YtllnbmmciejmoaaPChoosePicksx9
namespace Go.Proofs.Ytllnbmmciejmoaa.PChoosePicks
open Go.RowKit Go.Proofs.YtllnbmmciejmoaaW.PrintWords Go.Proofs.YtllnbmmciejmoaaW.PrintLast Go.Proofs.YtllnbmmciejmoaaW.PrintMore
attribute [local go_sem] max2_int min2_int max_two min_two max_three min_three max_four min_four   -- for this text's walks alone
set_option linter.unusedVariables false
set_option linter.unusedSimpArgs false

attribute [local go_sem high] eqA25
/-! ### catenaryref05_SameReport: function 16 -/
mutual
def catenaryref05_SameReport.j0 : Nat → Bool → Int → Int → Int → Int → List Int → List (S57) → List (S45) → List Int → Int → Int → Int → Int → List Int → List (S57) → List (S45) → List Int → Option (Bool)
 | 0, _, _, _, _, _, _, _, _, _, _, _, _, _, _, _, _, _ => none
 | k + 1, x59, x258000, x258001, x258002, x258003, x258004, x258005, x258006, x258007, x259000, x259001, x259002, x259003, x259004, x259005, x259006, x259007 => if x59 = true then (some false) else (catenaryref05_SameReport.l0 k x258006 (x258006.length : Int) 0 x259000 x259001 x259002 x259003 x259004 x259005 x259006 x259007)
def catenaryref05_SameReport.l0 : Nat → List (S45) → Int → Int → Int → Int → Int → Int → List Int → List (S57) → List (S45) → List Int → Option (Bool)
 | 0, _, _, _, _, _, _, _, _, _, _, _ => none
 | k + 1, x61, x62, x63, x259000, x259001, x259002, x259003, x259004, x259005, x259006, x259007 => if x63 < x62 then (if 0 ≤ x63 then (if x63 < (x61.length : Int) then (if x63 < (x259006.length : Int) then (if ((rd_T45 x61 x63).f0) = ((rd_T45 x259006 x63).f0) then (if (!(((rd_T45 x61 x63).f1.f0) == ((rd_T45 x259006 x63).f1.f0)) || (!(((rd_T45 x61 x63).f1.f1) == ((rd_T45 x259006 x63).f1.f1)))) = true then (catenaryref05_SameReport.j2 k x61 x62 x63 true x259000 x259001 x259002 x259003 x259004 x259005 x259006 x259007) else ((catenaryref05_SameReq.f ((rd_T45 x61 x63).f2.f0) ((rd_T45 x61 x63).f2.f1) ((rd_T45 x61 x63).f2.f2) ((rd_T45 x61 x63).f2.f3) ((rd_T45 x259006 x63).f2.f0) ((rd_T45 x259006 x63).f2.f1) ((rd_T45 x259006 x63).f2.f2) ((rd_T45 x259006 x63).f2.f3)).bind fun t266 => (if t266 = true then ((catenaryref05_SameVotes.f k ((rd_T45 x61 x63).f3) ((rd_T45 x259006 x63).f3)).bind fun t267 => (catenaryref05_SameReport.j2 k x61 x62 x63 (!t267) x259000 x259001 x259002 x259003 x259004 x259005 x259006 x259007)) else (catenaryref05_SameReport.j2 k x61 x62 x63 true x259000 x259001 x259002 x259003 x259004 x259005 x259006 x259007)))) else (catenaryref05_SameReport.j2 k x61 x62 x63 true x259000 x259001 x259002 x259003 x259004 x259005 x259006 x259007)) else (none)) else (none)) else (none)) else (some true)
def catenaryref05_SameReport.j2 : Nat → List (S45) → Int → Int → Bool → Int → Int → Int → Int → List Int → List (S57) → List (S45) → List Int → Option (Bool)
 | 0, _, _, _, _, _, _, _, _, _, _, _, _ => none
 | k + 1, x61, x62, x63, x100, x259000, x259001, x259002, x259003, x259004, x259005, x259006, x259007 => if x100 = true then (some false) else (catenaryref05_SameReport.l0 k x61 x62 (wrap64 (x63 + 1)) x259000 x259001 x259002 x259003 x259004 x259005 x259006 x259007)
end
def catenaryref05_SameReport.f (k : Nat) (a0_0 : Int) (a0_1 : Int) (a0_2 : Int) (a0_3 : Int) (l0_4 : List Int) (l0_5 : List (S57)) (l0_6 : List (S45)) (l0_7 : List Int) (a1_0 : Int) (a1_1 : Int) (a1_2 : Int) (a1_3 : Int) (l1_4 : List Int) (l1_5 : List (S57)) (l1_6 : List (S45)) (l1_7 : List Int) : Option (Bool) := if (!(a0_0 == a1_0) || (!(a0_1 == a1_1))) = true then (catenaryref05_SameReport.j0 k true a0_0 a0_1 a0_2 a0_3 l0_4 l0_5 l0_6 l0_7 a1_0 a1_1 a1_2 a1_3 l1_4 l1_5 l1_6 l1_7) else (if a0_2 = a1_2 then (if a0_3 = a1_3 then ((catenaryref01_Same.f l0_4 l1_4).bind fun t259 => (if t259 = true then ((catenaryref05_SameVotes.f k l0_5 l1_5).bind fun t260 => (if t260 = true then (if (l0_6.length : Int) = (l1_6.length : Int) then ((catenaryref01_Same.f l0_7 l1_7).bind fun t261 => (catenaryref05_SameReport.j0 k (!t261) a0_0 a0_1 a0_2 a0_3 l0_4 l0_5 l0_6 l0_7 a1_0 a1_1 a1_2 a1_3 l1_4 l1_5 l1_6 l1_7)) else (catenaryref05_SameReport.j0 k true a0_0 a0_1 a0_2 a0_3 l0_4 l0_5 l0_6 l0_7 a1_0 a1_1 a1_2 a1_3 l1_4 l1_5 l1_6 l1_7)) else (catenaryref05_SameReport.j0 k true a0_0 a0_1 a0_2 a0_3 l0_4 l0_5 l0_6 l0_7 a1_0 a1_1 a1_2 a1_3 l1_4 l1_5 l1_6 l1_7))) else (catenaryref05_SameReport.j0 k true a0_0 a0_1 a0_2 a0_3 l0_4 l0_5 l0_6 l0_7 a1_0 a1_1 a1_2 a1_3 l1_4 l1_5 l1_6 l1_7))) else (catenaryref05_SameReport.j0 k true a0_0 a0_1 a0_2 a0_3 l0_4 l0_5 l0_6 l0_7 a1_0 a1_1 a1_2 a1_3 l1_4 l1_5 l1_6 l1_7)) else (catenaryref05_SameReport.j0 k true a0_0 a0_1 a0_2 a0_3 l0_4 l0_5 l0_6 l0_7 a1_0 a1_1 a1_2 a1_3 l1_4 l1_5 l1_6 l1_7))
theorem catenaryref05_SameReport.mono_l : ∀ k, (∀ y0 y1 y2 y3 y4 y5 y6 y7 y8 y9 y10 y11 y12 y13 y14 y15 y16, LeO (catenaryref05_SameReport.j0 k y0 y1 y2 y3 y4 y5 y6 y7 y8 y9 y10 y11 y12 y13 y14 y15 y16) (catenaryref05_SameReport.j0 (k + 1) y0 y1 y2 y3 y4 y5 y6 y7 y8 y9 y10 y11 y12 y13 y14 y15 y16)) ∧ (∀ y0 y1 y2 y3 y4 y5 y6 y7 y8 y9 y10, LeO (catenaryref05_SameReport.l0 k y0 y1 y2 y3 y4 y5 y6 y7 y8 y9 y10) (catenaryref05_SameReport.l0 (k + 1) y0 y1 y2 y3 y4 y5 y6 y7 y8 y9 y10)) ∧ (∀ y0 y1 y2 y3 y4 y5 y6 y7 y8 y9 y10 y11, LeO (catenaryref05_SameReport.j2 k y0 y1 y2 y3 y4 y5 y6 y7 y8 y9 y10 y11) (catenaryref05_SameReport.j2 (k + 1) y0 y1 y2 y3 y4 y5 y6 y7 y8 y9 y10 y11))
 | 0 => ⟨fun _ _ _ _ _ _ _ _ _ _ _ _ _ _ _ _ _ r h => by simp [catenaryref05_SameReport.j0] at h, fun _ _ _ _ _ _ _ _ _ _ _ r h => by simp [catenaryref05_SameReport.l0] at h, fun _ _ _ _ _ _ _ _ _ _ _ _ r h => by simp [catenaryref05_SameReport.j2] at h⟩
 | k + 1 => by
  obtain ⟨ih0, ih1, ih2⟩ := catenaryref05_SameReport.mono_l k; refine ⟨?_, ?_, ?_⟩
  ·intro y0 y1 y2 y3 y4 y5 y6 y7 y8 y9 y10 y11 y12 y13 y14 y15 y16
   unfold catenaryref05_SameReport.j0
   repeat' first
   | (with_reducible exact ih0 _ _ _ _ _ _ _ _ _ _ _ _ _ _ _ _ _)
   | (with_reducible exact ih1 _ _ _ _ _ _ _ _ _ _ _)
   | (with_reducible exact ih2 _ _ _ _ _ _ _ _ _ _ _ _)
   | (with_reducible exact catenaryref05_SameVotes.mono _ _ _)
   | (with_reducible exact LeO.refl _)
   | (with_reducible exact LeO.none _)
   | (with_reducible refine LeO.ite ?_ ?_)
   | (with_reducible refine LeO.bind ?_ (fun _ => ?_))
   | exact ih0 _ _ _ _ _ _ _ _ _ _ _ _ _ _ _ _ _
   | exact ih1 _ _ _ _ _ _ _ _ _ _ _
   | exact ih2 _ _ _ _ _ _ _ _ _ _ _ _
   | exact catenaryref05_SameVotes.mono _ _ _
   | exact LeO.none _
   | refine LeO.ite ?_ ?_
   | refine LeO.bind ?_ (fun _ => ?_)
  ·intro y0 y1 y2 y3 y4 y5 y6 y7 y8 y9 y10
   unfold catenaryref05_SameReport.l0
   repeat' first
   | (with_reducible exact ih0 _ _ _ _ _ _ _ _ _ _ _ _ _ _ _ _ _)
   | (with_reducible exact ih1 _ _ _ _ _ _ _ _ _ _ _)
   | (with_reducible exact ih2 _ _ _ _ _ _ _ _ _ _ _ _)
   | (with_reducible exact catenaryref05_SameVotes.mono _ _ _)
   | (with_reducible exact LeO.refl _)
   | (with_reducible exact LeO.none _)
   | (with_reducible refine LeO.ite ?_ ?_)
   | (with_reducible refine LeO.bind ?_ (fun _ => ?_))
   | exact ih0 _ _ _ _ _ _ _ _ _ _ _ _ _ _ _ _ _
   | exact ih1 _ _ _ _ _ _ _ _ _ _ _
   | exact ih2 _ _ _ _ _ _ _ _ _ _ _ _
   | exact catenaryref05_SameVotes.mono _ _ _
   | exact LeO.none _
   | refine LeO.ite ?_ ?_
   | refine LeO.bind ?_ (fun _ => ?_)
  ·intro y0 y1 y2 y3 y4 y5 y6 y7 y8 y9 y10 y11
   unfold catenaryref05_SameReport.j2
   repeat' first
   | (with_reducible exact ih0 _ _ _ _ _ _ _ _ _ _ _ _ _ _ _ _ _)
   | (with_reducible exact ih1 _ _ _ _ _ _ _ _ _ _ _)
   | (with_reducible exact ih2 _ _ _ _ _ _ _ _ _ _ _ _)
   | (with_reducible exact catenaryref05_SameVotes.mono _ _ _)
   | (with_reducible exact LeO.refl _)
   | (with_reducible exact LeO.none _)
   | (with_reducible refine LeO.ite ?_ ?_)
   | (with_reducible refine LeO.bind ?_ (fun _ => ?_))
   | exact ih0 _ _ _ _ _ _ _ _ _ _ _ _ _ _ _ _ _
   | exact ih1 _ _ _ _ _ _ _ _ _ _ _
   | exact ih2 _ _ _ _ _ _ _ _ _ _ _ _
   | exact catenaryref05_SameVotes.mono _ _ _
   | exact LeO.none _
   | refine LeO.ite ?_ ?_
   | refine LeO.bind ?_ (fun _ => ?_)
theorem catenaryref05_SameReport.mono : ∀ a0 a1 a2 a3 a4 a5 a6 a7 a8 a9 a10 a11 a12 a13 a14 a15 k, LeO (catenaryref05_SameReport.f k a0 a1 a2 a3 a4 a5 a6 a7 a8 a9 a10 a11 a12 a13 a14 a15) (catenaryref05_SameReport.f (k + 1) a0 a1 a2 a3 a4 a5 a6 a7 a8 a9 a10 a11 a12 a13 a14 a15) := by
 intro a0 a1 a2 a3 a4 a5 a6 a7 a8 a9 a10 a11 a12 a13 a14 a15 k; obtain ⟨ih0, ih1, ih2⟩ := catenaryref05_SameReport.mono_l k
 unfold catenaryref05_SameReport.f
 repeat' first
   | (with_reducible exact ih0 _ _ _ _ _ _ _ _ _ _ _ _ _ _ _ _ _)
   | (with_reducible exact ih1 _ _ _ _ _ _ _ _ _ _ _)
   | (with_reducible exact ih2 _ _ _ _ _ _ _ _ _ _ _ _)
   | (with_reducible exact catenaryref05_SameVotes.mono _ _ _)
   | (with_reducible exact LeO.refl _)
   | (with_reducible exact LeO.none _)
   | (with_reducible refine LeO.ite ?_ ?_)
   | (with_reducible refine LeO.bind ?_ (fun _ => ?_))
   | exact ih0 _ _ _ _ _ _ _ _ _ _ _ _ _ _ _ _ _
   | exact ih1 _ _ _ _ _ _ _ _ _ _ _
   | exact ih2 _ _ _ _ _ _ _ _ _ _ _ _
   | exact catenaryref05_SameVotes.mono _ _ _
   | exact LeO.none _
   | refine LeO.ite ?_ ?_
   | refine LeO.bind ?_ (fun _ => ?_)
set_option maxHeartbeats 8000000 in
set_option maxRecDepth 100000 in
theorem catenaryref05_SameReport.calls (k : Nat) (a0_0 : Int) (a0_1 : Int) (a0_2 : Int) (a0_3 : Int) (A0_4 : Option Addr) (c0_4 : Nat) (l0_4 : List Int) (A0_5 : Option Addr) (c0_5 : Nat) (l0_5 : List (S57)) (A0_6 : Option Addr) (c0_6 : Nat) (l0_6 : List (S45)) (A0_7 : Option Addr) (c0_7 : Nat) (l0_7 : List Int) (a1_0 : Int) (a1_1 : Int) (a1_2 : Int) (a1_3 : Int) (A1_4 : Option Addr) (c1_4 : Nat) (l1_4 : List Int) (A1_5 : Option Addr) (c1_5 : Nat) (l1_5 : List (S57)) (A1_6 : Option Addr) (c1_6 : Nat) (l1_6 : List (S45)) (A1_7 : Option Addr) (c1_7 : Nat) (l1_7 : List Int) (r : Bool) (w : World) (hr0_4 : Kd.C (Kd.int .u8) w A0_4 l0_4.length l0_4) (hc0_4 : l0_4.length ≤ c0_4) (hr0_5 : Kd.C k57 w A0_5 l0_5.length l0_5) (hc0_5 : l0_5.length ≤ c0_5) (hr0_6 : Kd.C k45 w A0_6 l0_6.length l0_6) (hc0_6 : l0_6.length ≤ c0_6) (hr0_7 : Kd.C (Kd.int .u8) w A0_7 l0_7.length l0_7) (hc0_7 : l0_7.length ≤ c0_7) (hr1_4 : Kd.C (Kd.int .u8) w A1_4 l1_4.length l1_4) (hc1_4 : l1_4.length ≤ c1_4) (hr1_5 : Kd.C k57 w A1_5 l1_5.length l1_5) (hc1_5 : l1_5.length ≤ c1_5) (hr1_6 : Kd.C k45 w A1_6 l1_6.length l1_6) (hc1_6 : l1_6.length ≤ c1_6) (hr1_7 : Kd.C (Kd.int .u8) w A1_7 l1_7.length l1_7) (hc1_7 : l1_7.length ≤ c1_7) (h : catenaryref05_SameReport.f k a0_0 a0_1 a0_2 a0_3 l0_4 l0_5 l0_6 l0_7 a1_0 a1_1 a1_2 a1_3 l1_4 l1_5 l1_6 l1_7 = some r) :
  Calls Try.prog 16 #[.agg #[.int .i64 a0_0, .int .i64 a0_1, .int .i64 a0_2, .int .i64 a0_3, .slice A0_4 l0_4.length c0_4, .slice A0_5 l0_5.length c0_5, .slice A0_6 l0_6.length c0_6, .slice A0_7 l0_7.length c0_7], .agg #[.int .i64 a1_0, .int .i64 a1_1, .int .i64 a1_2, .int .i64 a1_3, .slice A1_4 l1_4.length c1_4, .slice A1_5 l1_5.length c1_5, .slice A1_6 l1_6.length c1_6, .slice A1_7 l1_7.length c1_7]] w fun e w' => e = .returned (.bool r) ∧ Below w.heap.size w w' := by
 have hu30 := Try.underlying30; have hu25 := Try.underlying25; have hu45 := Try.underlying45; have hu36 := Try.underlying36; have HR0_4 := Aside0.mk hr0_4; have HC0_4 := Aside0.mk hc0_4; clear hr0_4 hc0_4; have HR0_5 := Aside0.mk hr0_5; have HC0_5 := Aside0.mk hc0_5; clear hr0_5 hc0_5; have HR0_6 := Aside0.mk hr0_6; have HC0_6 := Aside0.mk hc0_6; clear hr0_6 hc0_6; have HR0_7 := Aside0.mk hr0_7; have HC0_7 := Aside0.mk hc0_7; clear hr0_7 hc0_7; have HR1_4 := Aside0.mk hr1_4; have HC1_4 := Aside0.mk hc1_4; clear hr1_4 hc1_4; have HR1_5 := Aside0.mk hr1_5; have HC1_5 := Aside0.mk hc1_5; clear hr1_5 hc1_5; have HR1_6 := Aside0.mk hr1_6; have HC1_6 := Aside0.mk hc1_6; clear hr1_6 hc1_6; have HR1_7 := Aside0.mk hr1_7; have HC1_7 := Aside0.mk hc1_7; clear hr1_7 hc1_7; have HB := Aside0.mk (Below.refl w.heap.size w); have H : (if (!(a0_0 == a1_0) || (!(a0_1 == a1_1))) = true then (catenaryref05_SameReport.j0 k true a0_0 a0_1 a0_2 a0_3 l0_4 l0_5 l0_6 l0_7 a1_0 a1_1 a1_2 a1_3 l1_4 l1_5 l1_6 l1_7) else (if a0_2 = a1_2 then (if a0_3 = a1_3 then ((catenaryref01_Same.f l0_4 l1_4).bind fun t259 => (if t259 = true then ((catenaryref05_SameVotes.f k l0_5 l1_5).bind fun t260 => (if t260 = true then (if (l0_6.length : Int) = (l1_6.length : Int) then ((catenaryref01_Same.f l0_7 l1_7).bind fun t261 => (catenaryref05_SameReport.j0 k (!t261) a0_0 a0_1 a0_2 a0_3 l0_4 l0_5 l0_6 l0_7 a1_0 a1_1 a1_2 a1_3 l1_4 l1_5 l1_6 l1_7)) else (catenaryref05_SameReport.j0 k true a0_0 a0_1 a0_2 a0_3 l0_4 l0_5 l0_6 l0_7 a1_0 a1_1 a1_2 a1_3 l1_4 l1_5 l1_6 l1_7)) else (catenaryref05_SameReport.j0 k true a0_0 a0_1 a0_2 a0_3 l0_4 l0_5 l0_6 l0_7 a1_0 a1_1 a1_2 a1_3 l1_4 l1_5 l1_6 l1_7))) else (catenaryref05_SameReport.j0 k true a0_0 a0_1 a0_2 a0_3 l0_4 l0_5 l0_6 l0_7 a1_0 a1_1 a1_2 a1_3 l1_4 l1_5 l1_6 l1_7))) else (catenaryref05_SameReport.j0 k true a0_0 a0_1 a0_2 a0_3 l0_4 l0_5 l0_6 l0_7 a1_0 a1_1 a1_2 a1_3 l1_4 l1_5 l1_6 l1_7)) else (catenaryref05_SameReport.j0 k true a0_0 a0_1 a0_2 a0_3 l0_4 l0_5 l0_6 l0_7 a1_0 a1_1 a1_2 a1_3 l1_4 l1_5 l1_6 l1_7))) = some r := h; clear h; have HC3 := Aside0.mk H; clear H
 go_enter Try.func16, Try.ntmps16
 go_upto_region 1 with (first | ((with_reducible refine gate_dst (N := 2) rfl ?_); (try (refine gate_guard (by rfl) ?_; dsimp only)); refine box_event ?hg (N := 2) ?hd (cs := #[.int .i64 a0_0, .int .i64 a0_1, .int .i64 a0_2, .int .i64 a0_3, .slice A0_4 l0_4.length c0_4, .slice A0_5 l0_5.length c0_5, .slice A0_6 l0_6.length c0_6, .slice A0_7 l0_7.length c0_7]) (t := 30) ?hr ?_; (case hd => rfl); (case hg => rfl); (case hr => first | (go_simp; done) | (go_simp; rfl)); intro gb257 hg w4 hbox hb; have n0_ := Aside0.mk (below_step (below_u HB.out) hb); have n1_ := Aside0.mk (hbox); have n2_ := Aside0.mk ((by rw [hg]; exact (below_size (below_u HB.out)) : w.heap.size ≤ gb257)); have n3_ := Aside0.mk ((by rw [hg]; exact (below_size (below_u HB.out)) : w.heap.size ≤ gb257)); clear HB; have HB := n0_; have BK257 := n1_; have GW257 := n2_; have GE257 := n3_; clear n0_ n1_ n2_ n3_; clear hb hbox hg) | ((with_reducible refine gate_dst (N := 3) rfl ?_); (try (refine gate_guard (by rfl) ?_; dsimp only)); refine box_event ?hg (N := 3) ?hd (cs := #[.int .i64 a1_0, .int .i64 a1_1, .int .i64 a1_2, .int .i64 a1_3, .slice A1_4 l1_4.length c1_4, .slice A1_5 l1_5.length c1_5, .slice A1_6 l1_6.length c1_6, .slice A1_7 l1_7.length c1_7]) (t := 30) ?hr ?_; (case hd => rfl); (case hg => rfl); (case hr => first | (go_simp; done) | (go_simp; rfl)); intro gb258 hg w5 hbox hb; have n0_ := Aside0.mk (blk_below (blk_u <| BK257.out) hb); have n1_ := Aside0.mk (below_step (by repeat (first | (with_reducible first | exact HB.out | apply below_alloc | apply pw_below_drewN | apply below_drew1 | refine below_set ?_ GE257.out) | exact HB.out)) hb); have n2_ := Aside0.mk (hbox); have n3_ := Aside0.mk ((by rw [hg]; exact (below_size (by repeat (first | (with_reducible first | exact HB.out | apply below_alloc | apply pw_below_drewN | apply below_drew1 | refine below_set ?_ GE257.out) | exact HB.out))) : w.heap.size ≤ gb258)); have n4_ := Aside0.mk ((by rw [hg]; exact (below_size (by repeat (first | (with_reducible first | exact HB.out | apply below_alloc | apply pw_below_drewN | apply below_drew1 | refine below_set ?_ GE257.out) | exact HB.out))) : w.heap.size ≤ gb258)); have n5_ := Aside0.mk ((by rw [hg]; exact Nat.ne_of_lt (blk_lt (blk_u <| BK257.out)) : gb257 ≠ gb258)); have n6_ := Aside0.mk ((by rw [hg]; exact Nat.ne_of_gt (blk_lt (blk_u <| BK257.out)) : gb258 ≠ gb257)); clear BK257; clear HB; have BK257 := n0_; have HB := n1_; have BK258 := n2_; have GW258 := n3_; have GE258 := n4_; have NB257_258 := n5_; have NB258_257 := n6_; clear n0_ n1_ n2_ n3_ n4_ n5_ n6_; clear hb hbox hg))
 (try simp only [Act.put, List.setIfInBounds_toArray, List.set_cons_zero, List.set_cons_succ])
 go_cut [59] (fun v59 wc => ∃ (kq : Nat) (x59_2 : Bool), v59 = .bool x59_2 ∧ Aside0 (catenaryref05_SameReport.j0 kq x59_2 a0_0 a0_1 a0_2 a0_3 l0_4 l0_5 l0_6 l0_7 a1_0 a1_1 a1_2 a1_3 l1_4 l1_5 l1_6 l1_7 = some r) ∧ Aside0 (kq ≤ k) ∧ Aside0 (wc.heap[gb257]? = some (.cells #[.int .i64 a0_0, .int .i64 a0_1, .int .i64 a0_2, .int .i64 a0_3, (.slice A0_4 l0_4.length c0_4), (.slice A0_5 l0_5.length c0_5), (.slice A0_6 l0_6.length c0_6), (.slice A0_7 l0_7.length c0_7)] 30 (0, 0))) ∧ Aside0 (wc.heap[gb258]? = some (.cells #[.int .i64 a1_0, .int .i64 a1_1, .int .i64 a1_2, .int .i64 a1_3, (.slice A1_4 l1_4.length c1_4), (.slice A1_5 l1_5.length c1_5), (.slice A1_6 l1_6.length c1_6), (.slice A1_7 l1_7.length c1_7)] 30 (0, 0))) ∧ Aside0 (Below w.heap.size w wc))
 case first =>
  have H := HC3.out; clear HC3
  by_cases c6 : (!(a0_0 == a1_0) || (!(a0_1 == a1_1))) = true
  ·rw [if_pos c6] at H
   have c6b0 : (!(a0_0 == a1_0) || (!(a0_1 == a1_1))) = true := c6; clear c6
   (first | rw [c6b0] | (simp only [i64_w, i32_w]; rw [c6b0]) | skip)
   have H' := Aside0.mk H; clear H; have hnb7 := NB257_258.out; have hnc7 := NB258_257.out; have hcz8_0 : w5.cell? ⟨gb257, 0, none⟩ = some (.int .i64 a0_0) := (blk_cell BK257.out 0).trans rfl; have hcz8_1 : w5.cell? ⟨gb257, 1, none⟩ = some (.int .i64 a0_1) := (blk_cell BK257.out 1).trans rfl; have hcz8_2 : w5.cell? ⟨gb257, 2, none⟩ = some (.int .i64 a0_2) := (blk_cell BK257.out 2).trans rfl; have hcz8_3 : w5.cell? ⟨gb257, 3, none⟩ = some (.int .i64 a0_3) := (blk_cell BK257.out 3).trans rfl; have hcz8_4 : w5.cell? ⟨gb257, 4, none⟩ = some (.slice A0_4 l0_4.length c0_4) := (blk_cell BK257.out 4).trans rfl; have hcz8_5 : w5.cell? ⟨gb257, 5, none⟩ = some (.slice A0_5 l0_5.length c0_5) := (blk_cell BK257.out 5).trans rfl; have hcz8_6 : w5.cell? ⟨gb257, 6, none⟩ = some (.slice A0_6 l0_6.length c0_6) := (blk_cell BK257.out 6).trans rfl; have hcz8_7 : w5.cell? ⟨gb257, 7, none⟩ = some (.slice A0_7 l0_7.length c0_7) := (blk_cell BK257.out 7).trans rfl; have hfz8_0 := blk_frozen BK257.out 0; have hfz8_1 := blk_frozen BK257.out 1; have hfz8_2 := blk_frozen BK257.out 2; have hfz8_3 := blk_frozen BK257.out 3; have hfz8_4 := blk_frozen BK257.out 4; have hfz8_5 := blk_frozen BK257.out 5; have hfz8_6 := blk_frozen BK257.out 6; have hfz8_7 := blk_frozen BK257.out 7; have hcz9_0 : w5.cell? ⟨gb258, 0, none⟩ = some (.int .i64 a1_0) := (blk_cell BK258.out 0).trans rfl; have hcz9_1 : w5.cell? ⟨gb258, 1, none⟩ = some (.int .i64 a1_1) := (blk_cell BK258.out 1).trans rfl; have hcz9_2 : w5.cell? ⟨gb258, 2, none⟩ = some (.int .i64 a1_2) := (blk_cell BK258.out 2).trans rfl; have hcz9_3 : w5.cell? ⟨gb258, 3, none⟩ = some (.int .i64 a1_3) := (blk_cell BK258.out 3).trans rfl; have hcz9_4 : w5.cell? ⟨gb258, 4, none⟩ = some (.slice A1_4 l1_4.length c1_4) := (blk_cell BK258.out 4).trans rfl; have hcz9_5 : w5.cell? ⟨gb258, 5, none⟩ = some (.slice A1_5 l1_5.length c1_5) := (blk_cell BK258.out 5).trans rfl; have hcz9_6 : w5.cell? ⟨gb258, 6, none⟩ = some (.slice A1_6 l1_6.length c1_6) := (blk_cell BK258.out 6).trans rfl; have hcz9_7 : w5.cell? ⟨gb258, 7, none⟩ = some (.slice A1_7 l1_7.length c1_7) := (blk_cell BK258.out 7).trans rfl; have hfz9_0 := blk_frozen BK258.out 0; have hfz9_1 := blk_frozen BK258.out 1; have hfz9_2 := blk_frozen BK258.out 2; have hfz9_3 := blk_frozen BK258.out 3; have hfz9_4 := blk_frozen BK258.out 4; have hfz9_5 := blk_frozen BK258.out 5; have hfz9_6 := blk_frozen BK258.out 6; have hfz9_7 := blk_frozen BK258.out 7
   go_wp2
   go_meet
   case rel => exact ⟨_, (true), (by first | rfl | (simp; done) | (simp [*]; done)), H', ⟨by first | omega | exact Nat.le_refl _⟩, ⟨blk_u <| BK257.out⟩, ⟨blk_u <| BK258.out⟩, ⟨by repeat (first | (with_reducible first | exact HB.out | apply below_alloc | apply pw_below_drewN | apply below_drew1 | refine below_set ?_ GE257.out | refine below_set ?_ GE258.out) | exact HB.out)⟩⟩
  ·rw [if_neg c6] at H
   have c6b0 : (!(a0_0 == a1_0) || (!(a0_1 == a1_1))) = false := by simpa using c6
   clear c6
   (first | rw [c6b0] | (simp only [i64_w, i32_w]; rw [c6b0]) | skip)
   by_cases c10 : a0_2 = a1_2
   ·rw [if_pos c10] at H
    have c10b0 : (a0_2 == a1_2) = true := beq_iff_eq.mpr c10; have c10b1 : (a0_2 != a1_2) = false := bne_eq_false_iff_eq.mpr c10; clear c10
    by_cases c11 : a0_3 = a1_3
    ·rw [if_pos c11] at H
     have c11b0 : (a0_3 == a1_3) = true := beq_iff_eq.mpr c11; have c11b1 : (a0_3 != a1_3) = false := bne_eq_false_iff_eq.mpr c11; clear c11; replace H := Option.bind_eq_some_iff.mp H; obtain ⟨t259, A120, H⟩ := H; replace H : (if t259 = true then ((catenaryref05_SameVotes.f k l0_5 l1_5).bind fun t260 => (if t260 = true then (if (l0_6.length : Int) = (l1_6.length : Int) then ((catenaryref01_Same.f l0_7 l1_7).bind fun t261 => (catenaryref05_SameReport.j0 k (!t261) a0_0 a0_1 a0_2 a0_3 l0_4 l0_5 l0_6 l0_7 a1_0 a1_1 a1_2 a1_3 l1_4 l1_5 l1_6 l1_7)) else (catenaryref05_SameReport.j0 k true a0_0 a0_1 a0_2 a0_3 l0_4 l0_5 l0_6 l0_7 a1_0 a1_1 a1_2 a1_3 l1_4 l1_5 l1_6 l1_7)) else (catenaryref05_SameReport.j0 k true a0_0 a0_1 a0_2 a0_3 l0_4 l0_5 l0_6 l0_7 a1_0 a1_1 a1_2 a1_3 l1_4 l1_5 l1_6 l1_7))) else (catenaryref05_SameReport.j0 k true a0_0 a0_1 a0_2 a0_3 l0_4 l0_5 l0_6 l0_7 a1_0 a1_1 a1_2 a1_3 l1_4 l1_5 l1_6 l1_7)) = some r := H; have A12 := Aside0.mk A120; clear A120
     by_cases c13 : t259 = true
     ·subst c13
      have H1 : ((catenaryref05_SameVotes.f k l0_5 l1_5).bind fun t260 => (if t260 = true then (if (l0_6.length : Int) = (l1_6.length : Int) then ((catenaryref01_Same.f l0_7 l1_7).bind fun t261 => (catenaryref05_SameReport.j0 k (!t261) a0_0 a0_1 a0_2 a0_3 l0_4 l0_5 l0_6 l0_7 a1_0 a1_1 a1_2 a1_3 l1_4 l1_5 l1_6 l1_7)) else (catenaryref05_SameReport.j0 k true a0_0 a0_1 a0_2 a0_3 l0_4 l0_5 l0_6 l0_7 a1_0 a1_1 a1_2 a1_3 l1_4 l1_5 l1_6 l1_7)) else (catenaryref05_SameReport.j0 k true a0_0 a0_1 a0_2 a0_3 l0_4 l0_5 l0_6 l0_7 a1_0 a1_1 a1_2 a1_3 l1_4 l1_5 l1_6 l1_7))) = some r := by rw [if_pos rfl] at H; exact H
      clear H; have H := H1; clear H1; replace H := Option.bind_eq_some_iff.mp H; obtain ⟨t260, A140, H⟩ := H; replace H : (if t260 = true then (if (l0_6.length : Int) = (l1_6.length : Int) then ((catenaryref01_Same.f l0_7 l1_7).bind fun t261 => (catenaryref05_SameReport.j0 k (!t261) a0_0 a0_1 a0_2 a0_3 l0_4 l0_5 l0_6 l0_7 a1_0 a1_1 a1_2 a1_3 l1_4 l1_5 l1_6 l1_7)) else (catenaryref05_SameReport.j0 k true a0_0 a0_1 a0_2 a0_3 l0_4 l0_5 l0_6 l0_7 a1_0 a1_1 a1_2 a1_3 l1_4 l1_5 l1_6 l1_7)) else (catenaryref05_SameReport.j0 k true a0_0 a0_1 a0_2 a0_3 l0_4 l0_5 l0_6 l0_7 a1_0 a1_1 a1_2 a1_3 l1_4 l1_5 l1_6 l1_7)) = some r := H; have A14 := Aside0.mk A140; clear A140
      by_cases c15 : t260 = true
      ·subst c15
       have H1 : (if (l0_6.length : Int) = (l1_6.length : Int) then ((catenaryref01_Same.f l0_7 l1_7).bind fun t261 => (catenaryref05_SameReport.j0 k (!t261) a0_0 a0_1 a0_2 a0_3 l0_4 l0_5 l0_6 l0_7 a1_0 a1_1 a1_2 a1_3 l1_4 l1_5 l1_6 l1_7)) else (catenaryref05_SameReport.j0 k true a0_0 a0_1 a0_2 a0_3 l0_4 l0_5 l0_6 l0_7 a1_0 a1_1 a1_2 a1_3 l1_4 l1_5 l1_6 l1_7)) = some r := by rw [if_pos rfl] at H; exact H
       clear H; have H := H1; clear H1
       by_cases c16 : (l0_6.length : Int) = (l1_6.length : Int)
       ·rw [if_pos c16] at H
        have c16b0 : ((l0_6.length : Int) == (l1_6.length : Int)) = true := beq_iff_eq.mpr c16; have c16b1 : ((l0_6.length : Int) != (l1_6.length : Int)) = false := bne_eq_false_iff_eq.mpr c16
        have c16b2 : (l0_6.length == l1_6.length) = true := by first | simpa using c16 | (simp at c16 ⊢; omega)
        clear c16; replace H := Option.bind_eq_some_iff.mp H; obtain ⟨t261, A170, H⟩ := H; replace H : (catenaryref05_SameReport.j0 k (!t261) a0_0 a0_1 a0_2 a0_3 l0_4 l0_5 l0_6 l0_7 a1_0 a1_1 a1_2 a1_3 l1_4 l1_5 l1_6 l1_7) = some r := H; have A17 := Aside0.mk A170; clear A170; have H' := Aside0.mk H; clear H; have hnb18 := NB257_258.out; have hnc18 := NB258_257.out; have hcz19_0 : w5.cell? ⟨gb257, 0, none⟩ = some (.int .i64 a0_0) := (blk_cell BK257.out 0).trans rfl; have hcz19_1 : w5.cell? ⟨gb257, 1, none⟩ = some (.int .i64 a0_1) := (blk_cell BK257.out 1).trans rfl; have hcz19_2 : w5.cell? ⟨gb257, 2, none⟩ = some (.int .i64 a0_2) := (blk_cell BK257.out 2).trans rfl; have hcz19_3 : w5.cell? ⟨gb257, 3, none⟩ = some (.int .i64 a0_3) := (blk_cell BK257.out 3).trans rfl; have hcz19_4 : w5.cell? ⟨gb257, 4, none⟩ = some (.slice A0_4 l0_4.length c0_4) := (blk_cell BK257.out 4).trans rfl; have hcz19_5 : w5.cell? ⟨gb257, 5, none⟩ = some (.slice A0_5 l0_5.length c0_5) := (blk_cell BK257.out 5).trans rfl; have hcz19_6 : w5.cell? ⟨gb257, 6, none⟩ = some (.slice A0_6 l0_6.length c0_6) := (blk_cell BK257.out 6).trans rfl; have hcz19_7 : w5.cell? ⟨gb257, 7, none⟩ = some (.slice A0_7 l0_7.length c0_7) := (blk_cell BK257.out 7).trans rfl; have hfz19_0 := blk_frozen BK257.out 0; have hfz19_1 := blk_frozen BK257.out 1; have hfz19_2 := blk_frozen BK257.out 2; have hfz19_3 := blk_frozen BK257.out 3; have hfz19_4 := blk_frozen BK257.out 4; have hfz19_5 := blk_frozen BK257.out 5; have hfz19_6 := blk_frozen BK257.out 6; have hfz19_7 := blk_frozen BK257.out 7; have hcz20_0 : w5.cell? ⟨gb258, 0, none⟩ = some (.int .i64 a1_0) := (blk_cell BK258.out 0).trans rfl; have hcz20_1 : w5.cell? ⟨gb258, 1, none⟩ = some (.int .i64 a1_1) := (blk_cell BK258.out 1).trans rfl; have hcz20_2 : w5.cell? ⟨gb258, 2, none⟩ = some (.int .i64 a1_2) := (blk_cell BK258.out 2).trans rfl; have hcz20_3 : w5.cell? ⟨gb258, 3, none⟩ = some (.int .i64 a1_3) := (blk_cell BK258.out 3).trans rfl; have hcz20_4 : w5.cell? ⟨gb258, 4, none⟩ = some (.slice A1_4 l1_4.length c1_4) := (blk_cell BK258.out 4).trans rfl; have hcz20_5 : w5.cell? ⟨gb258, 5, none⟩ = some (.slice A1_5 l1_5.length c1_5) := (blk_cell BK258.out 5).trans rfl; have hcz20_6 : w5.cell? ⟨gb258, 6, none⟩ = some (.slice A1_6 l1_6.length c1_6) := (blk_cell BK258.out 6).trans rfl; have hcz20_7 : w5.cell? ⟨gb258, 7, none⟩ = some (.slice A1_7 l1_7.length c1_7) := (blk_cell BK258.out 7).trans rfl; have hfz20_0 := blk_frozen BK258.out 0; have hfz20_1 := blk_frozen BK258.out 1; have hfz20_2 := blk_frozen BK258.out 2; have hfz20_3 := blk_frozen BK258.out 3; have hfz20_4 := blk_frozen BK258.out 4; have hfz20_5 := blk_frozen BK258.out 5; have hfz20_6 := blk_frozen BK258.out 6; have hfz20_7 := blk_frozen BK258.out 7
        go_wp2_with (first | (go_at_call 20; (with_reducible refine (catenaryref01_Same.calls _ _ l0_4 _ _ l1_4 true _ ?side1 ?side2 ?side3 ?side4 A12.out).mono ?_); (case side1 => exact Kd.Cu (Kd.C_below HR0_4.out HB.out)); (case side2 => exact HC0_4.out); (case side3 => exact Kd.Cu (Kd.C_below HR1_4.out HB.out)); (case side4 => exact HC1_4.out); rintro e w' ⟨rfl, ⟨nd, rfl⟩⟩) | (go_at_call 24; (with_reducible refine (catenaryref05_SameVotes.calls k _ _ l0_5 _ _ l1_5 true _ ?side1 ?side2 ?side3 ?side4 A14.out).mono ?_); (case side1 => repeat (first | exact (Kd.C_below HR0_5.out (by repeat (first | (with_reducible first | exact HB.out | apply below_alloc | apply pw_below_drewN | apply below_drew1 | refine below_set ?_ GE257.out | refine below_set ?_ GE258.out) | exact HB.out))) | (with_reducible refine Kd.C_alloc ?_ _) | (with_reducible refine Kd.C_drewN ?_ _) | (with_reducible refine Kd.C_drew ?_))); (case side2 => exact HC0_5.out); (case side3 => repeat (first | exact (Kd.C_below HR1_5.out (by repeat (first | (with_reducible first | exact HB.out | apply below_alloc | apply pw_below_drewN | apply below_drew1 | refine below_set ?_ GE257.out | refine below_set ?_ GE258.out) | exact HB.out))) | (with_reducible refine Kd.C_alloc ?_ _) | (with_reducible refine Kd.C_drewN ?_ _) | (with_reducible refine Kd.C_drew ?_))); (case side4 => exact HC1_5.out); rintro e w' ⟨rfl, ⟨nd, rfl⟩⟩) | (go_at_call 20; (with_reducible refine (catenaryref01_Same.calls _ _ l0_7 _ _ l1_7 t261 _ ?side1 ?side2 ?side3 ?side4 A17.out).mono ?_); (case side1 => repeat (first | exact (Kd.C_below HR0_7.out (by repeat (first | (with_reducible first | exact HB.out | apply below_alloc | apply pw_below_drewN | apply below_drew1 | refine below_set ?_ GE257.out | refine below_set ?_ GE258.out) | exact HB.out))) | (with_reducible refine Kd.C_alloc ?_ _) | (with_reducible refine Kd.C_drewN ?_ _) | (with_reducible refine Kd.C_drew ?_))); (case side2 => exact HC0_7.out); (case side3 => repeat (first | exact (Kd.C_below HR1_7.out (by repeat (first | (with_reducible first | exact HB.out | apply below_alloc | apply pw_below_drewN | apply below_drew1 | refine below_set ?_ GE257.out | refine below_set ?_ GE258.out) | exact HB.out))) | (with_reducible refine Kd.C_alloc ?_ _) | (with_reducible refine Kd.C_drewN ?_ _) | (with_reducible refine Kd.C_drew ?_))); (case side4 => exact HC1_7.out); rintro e w' ⟨rfl, ⟨nd, rfl⟩⟩))
        go_meet
        case rel => exact ⟨_, (!t261), (by first | rfl | (simp; done) | (simp [*]; done)), H', ⟨by first | omega | exact Nat.le_refl _⟩, ⟨blk_u <| BK257.out⟩, ⟨blk_u <| BK258.out⟩, ⟨by repeat (first | (with_reducible first | exact HB.out | apply below_alloc | apply pw_below_drewN | apply below_drew1 | refine below_set ?_ GE257.out | refine below_set ?_ GE258.out) | exact HB.out)⟩⟩
       ·rw [if_neg c16] at H
        have c16b0 : ((l0_6.length : Int) == (l1_6.length : Int)) = false := beq_eq_false_iff_ne.mpr c16; have c16b1 : ((l0_6.length : Int) != (l1_6.length : Int)) = true := bne_iff_ne.mpr c16
        have c16b2 : (l0_6.length == l1_6.length) = false := by first | simpa using c16 | (simp at c16 ⊢; omega)
        have H' := Aside0.mk H; clear H; have hnb21 := NB257_258.out; have hnc21 := NB258_257.out; have hcz22_0 : w5.cell? ⟨gb257, 0, none⟩ = some (.int .i64 a0_0) := (blk_cell BK257.out 0).trans rfl; have hcz22_1 : w5.cell? ⟨gb257, 1, none⟩ = some (.int .i64 a0_1) := (blk_cell BK257.out 1).trans rfl; have hcz22_2 : w5.cell? ⟨gb257, 2, none⟩ = some (.int .i64 a0_2) := (blk_cell BK257.out 2).trans rfl; have hcz22_3 : w5.cell? ⟨gb257, 3, none⟩ = some (.int .i64 a0_3) := (blk_cell BK257.out 3).trans rfl; have hcz22_4 : w5.cell? ⟨gb257, 4, none⟩ = some (.slice A0_4 l0_4.length c0_4) := (blk_cell BK257.out 4).trans rfl; have hcz22_5 : w5.cell? ⟨gb257, 5, none⟩ = some (.slice A0_5 l0_5.length c0_5) := (blk_cell BK257.out 5).trans rfl; have hcz22_6 : w5.cell? ⟨gb257, 6, none⟩ = some (.slice A0_6 l0_6.length c0_6) := (blk_cell BK257.out 6).trans rfl; have hcz22_7 : w5.cell? ⟨gb257, 7, none⟩ = some (.slice A0_7 l0_7.length c0_7) := (blk_cell BK257.out 7).trans rfl; have hfz22_0 := blk_frozen BK257.out 0; have hfz22_1 := blk_frozen BK257.out 1; have hfz22_2 := blk_frozen BK257.out 2; have hfz22_3 := blk_frozen BK257.out 3; have hfz22_4 := blk_frozen BK257.out 4; have hfz22_5 := blk_frozen BK257.out 5; have hfz22_6 := blk_frozen BK257.out 6; have hfz22_7 := blk_frozen BK257.out 7; have hcz23_0 : w5.cell? ⟨gb258, 0, none⟩ = some (.int .i64 a1_0) := (blk_cell BK258.out 0).trans rfl; have hcz23_1 : w5.cell? ⟨gb258, 1, none⟩ = some (.int .i64 a1_1) := (blk_cell BK258.out 1).trans rfl; have hcz23_2 : w5.cell? ⟨gb258, 2, none⟩ = some (.int .i64 a1_2) := (blk_cell BK258.out 2).trans rfl; have hcz23_3 : w5.cell? ⟨gb258, 3, none⟩ = some (.int .i64 a1_3) := (blk_cell BK258.out 3).trans rfl; have hcz23_4 : w5.cell? ⟨gb258, 4, none⟩ = some (.slice A1_4 l1_4.length c1_4) := (blk_cell BK258.out 4).trans rfl; have hcz23_5 : w5.cell? ⟨gb258, 5, none⟩ = some (.slice A1_5 l1_5.length c1_5) := (blk_cell BK258.out 5).trans rfl; have hcz23_6 : w5.cell? ⟨gb258, 6, none⟩ = some (.slice A1_6 l1_6.length c1_6) := (blk_cell BK258.out 6).trans rfl; have hcz23_7 : w5.cell? ⟨gb258, 7, none⟩ = some (.slice A1_7 l1_7.length c1_7) := (blk_cell BK258.out 7).trans rfl; have hfz23_0 := blk_frozen BK258.out 0; have hfz23_1 := blk_frozen BK258.out 1; have hfz23_2 := blk_frozen BK258.out 2; have hfz23_3 := blk_frozen BK258.out 3; have hfz23_4 := blk_frozen BK258.out 4; have hfz23_5 := blk_frozen BK258.out 5; have hfz23_6 := blk_frozen BK258.out 6; have hfz23_7 := blk_frozen BK258.out 7
        go_wp2_with (first | (go_at_call 20; (with_reducible refine (catenaryref01_Same.calls _ _ l0_4 _ _ l1_4 true _ ?side1 ?side2 ?side3 ?side4 A12.out).mono ?_); (case side1 => exact Kd.Cu (Kd.C_below HR0_4.out HB.out)); (case side2 => exact HC0_4.out); (case side3 => exact Kd.Cu (Kd.C_below HR1_4.out HB.out)); (case side4 => exact HC1_4.out); rintro e w' ⟨rfl, ⟨nd, rfl⟩⟩) | (go_at_call 24; (with_reducible refine (catenaryref05_SameVotes.calls k _ _ l0_5 _ _ l1_5 true _ ?side1 ?side2 ?side3 ?side4 A14.out).mono ?_); (case side1 => repeat (first | exact (Kd.C_below HR0_5.out (by repeat (first | (with_reducible first | exact HB.out | apply below_alloc | apply pw_below_drewN | apply below_drew1 | refine below_set ?_ GE257.out | refine below_set ?_ GE258.out) | exact HB.out))) | (with_reducible refine Kd.C_alloc ?_ _) | (with_reducible refine Kd.C_drewN ?_ _) | (with_reducible refine Kd.C_drew ?_))); (case side2 => exact HC0_5.out); (case side3 => repeat (first | exact (Kd.C_below HR1_5.out (by repeat (first | (with_reducible first | exact HB.out | apply below_alloc | apply pw_below_drewN | apply below_drew1 | refine below_set ?_ GE257.out | refine below_set ?_ GE258.out) | exact HB.out))) | (with_reducible refine Kd.C_alloc ?_ _) | (with_reducible refine Kd.C_drewN ?_ _) | (with_reducible refine Kd.C_drew ?_))); (case side4 => exact HC1_5.out); rintro e w' ⟨rfl, ⟨nd, rfl⟩⟩))
        go_meet
        case rel => exact ⟨_, (true), (by first | rfl | (simp; done) | (simp [*]; done)), H', ⟨by first | omega | exact Nat.le_refl _⟩, ⟨blk_u <| BK257.out⟩, ⟨blk_u <| BK258.out⟩, ⟨by repeat (first | (with_reducible first | exact HB.out | apply below_alloc | apply pw_below_drewN | apply below_drew1 | refine below_set ?_ GE257.out | refine below_set ?_ GE258.out) | exact HB.out)⟩⟩
      ·replace c15 := Bool.eq_false_iff.mpr c15
       subst c15
       have H1 : (catenaryref05_SameReport.j0 k true a0_0 a0_1 a0_2 a0_3 l0_4 l0_5 l0_6 l0_7 a1_0 a1_1 a1_2 a1_3 l1_4 l1_5 l1_6 l1_7) = some r := by rw [if_neg (show ¬ (false = true) by decide)] at H; exact H
       clear H; have H := H1; clear H1; have H' := Aside0.mk H; clear H; have hnb24 := NB257_258.out; have hnc24 := NB258_257.out; have hcz25_0 : w5.cell? ⟨gb257, 0, none⟩ = some (.int .i64 a0_0) := (blk_cell BK257.out 0).trans rfl; have hcz25_1 : w5.cell? ⟨gb257, 1, none⟩ = some (.int .i64 a0_1) := (blk_cell BK257.out 1).trans rfl; have hcz25_2 : w5.cell? ⟨gb257, 2, none⟩ = some (.int .i64 a0_2) := (blk_cell BK257.out 2).trans rfl; have hcz25_3 : w5.cell? ⟨gb257, 3, none⟩ = some (.int .i64 a0_3) := (blk_cell BK257.out 3).trans rfl; have hcz25_4 : w5.cell? ⟨gb257, 4, none⟩ = some (.slice A0_4 l0_4.length c0_4) := (blk_cell BK257.out 4).trans rfl; have hcz25_5 : w5.cell? ⟨gb257, 5, none⟩ = some (.slice A0_5 l0_5.length c0_5) := (blk_cell BK257.out 5).trans rfl; have hcz25_6 : w5.cell? ⟨gb257, 6, none⟩ = some (.slice A0_6 l0_6.length c0_6) := (blk_cell BK257.out 6).trans rfl; have hcz25_7 : w5.cell? ⟨gb257, 7, none⟩ = some (.slice A0_7 l0_7.length c0_7) := (blk_cell BK257.out 7).trans rfl; have hfz25_0 := blk_frozen BK257.out 0; have hfz25_1 := blk_frozen BK257.out 1; have hfz25_2 := blk_frozen BK257.out 2; have hfz25_3 := blk_frozen BK257.out 3; have hfz25_4 := blk_frozen BK257.out 4; have hfz25_5 := blk_frozen BK257.out 5; have hfz25_6 := blk_frozen BK257.out 6; have hfz25_7 := blk_frozen BK257.out 7; have hcz26_0 : w5.cell? ⟨gb258, 0, none⟩ = some (.int .i64 a1_0) := (blk_cell BK258.out 0).trans rfl; have hcz26_1 : w5.cell? ⟨gb258, 1, none⟩ = some (.int .i64 a1_1) := (blk_cell BK258.out 1).trans rfl; have hcz26_2 : w5.cell? ⟨gb258, 2, none⟩ = some (.int .i64 a1_2) := (blk_cell BK258.out 2).trans rfl; have hcz26_3 : w5.cell? ⟨gb258, 3, none⟩ = some (.int .i64 a1_3) := (blk_cell BK258.out 3).trans rfl; have hcz26_4 : w5.cell? ⟨gb258, 4, none⟩ = some (.slice A1_4 l1_4.length c1_4) := (blk_cell BK258.out 4).trans rfl; have hcz26_5 : w5.cell? ⟨gb258, 5, none⟩ = some (.slice A1_5 l1_5.length c1_5) := (blk_cell BK258.out 5).trans rfl; have hcz26_6 : w5.cell? ⟨gb258, 6, none⟩ = some (.slice A1_6 l1_6.length c1_6) := (blk_cell BK258.out 6).trans rfl; have hcz26_7 : w5.cell? ⟨gb258, 7, none⟩ = some (.slice A1_7 l1_7.length c1_7) := (blk_cell BK258.out 7).trans rfl; have hfz26_0 := blk_frozen BK258.out 0; have hfz26_1 := blk_frozen BK258.out 1; have hfz26_2 := blk_frozen BK258.out 2; have hfz26_3 := blk_frozen BK258.out 3; have hfz26_4 := blk_frozen BK258.out 4; have hfz26_5 := blk_frozen BK258.out 5; have hfz26_6 := blk_frozen BK258.out 6; have hfz26_7 := blk_frozen BK258.out 7
       go_wp2_with (first | (go_at_call 20; (with_reducible refine (catenaryref01_Same.calls _ _ l0_4 _ _ l1_4 true _ ?side1 ?side2 ?side3 ?side4 A12.out).mono ?_); (case side1 => exact Kd.Cu (Kd.C_below HR0_4.out HB.out)); (case side2 => exact HC0_4.out); (case side3 => exact Kd.Cu (Kd.C_below HR1_4.out HB.out)); (case side4 => exact HC1_4.out); rintro e w' ⟨rfl, ⟨nd, rfl⟩⟩) | (go_at_call 24; (with_reducible refine (catenaryref05_SameVotes.calls k _ _ l0_5 _ _ l1_5 false _ ?side1 ?side2 ?side3 ?side4 A14.out).mono ?_); (case side1 => repeat (first | exact (Kd.C_below HR0_5.out (by repeat (first | (with_reducible first | exact HB.out | apply below_alloc | apply pw_below_drewN | apply below_drew1 | refine below_set ?_ GE257.out | refine below_set ?_ GE258.out) | exact HB.out))) | (with_reducible refine Kd.C_alloc ?_ _) | (with_reducible refine Kd.C_drewN ?_ _) | (with_reducible refine Kd.C_drew ?_))); (case side2 => exact HC0_5.out); (case side3 => repeat (first | exact (Kd.C_below HR1_5.out (by repeat (first | (with_reducible first | exact HB.out | apply below_alloc | apply pw_below_drewN | apply below_drew1 | refine below_set ?_ GE257.out | refine below_set ?_ GE258.out) | exact HB.out))) | (with_reducible refine Kd.C_alloc ?_ _) | (with_reducible refine Kd.C_drewN ?_ _) | (with_reducible refine Kd.C_drew ?_))); (case side4 => exact HC1_5.out); rintro e w' ⟨rfl, ⟨nd, rfl⟩⟩))
       go_meet
       case rel => exact ⟨_, (true), (by first | rfl | (simp; done) | (simp [*]; done)), H', ⟨by first | omega | exact Nat.le_refl _⟩, ⟨blk_u <| BK257.out⟩, ⟨blk_u <| BK258.out⟩, ⟨by repeat (first | (with_reducible first | exact HB.out | apply below_alloc | apply pw_below_drewN | apply below_drew1 | refine below_set ?_ GE257.out | refine below_set ?_ GE258.out) | exact HB.out)⟩⟩
     ·replace c13 := Bool.eq_false_iff.mpr c13
      subst c13
      have H1 : (catenaryref05_SameReport.j0 k true a0_0 a0_1 a0_2 a0_3 l0_4 l0_5 l0_6 l0_7 a1_0 a1_1 a1_2 a1_3 l1_4 l1_5 l1_6 l1_7) = some r := by rw [if_neg (show ¬ (false = true) by decide)] at H; exact H
      clear H; have H := H1; clear H1; have H' := Aside0.mk H; clear H; have hnb27 := NB257_258.out; have hnc27 := NB258_257.out; have hcz28_0 : w5.cell? ⟨gb257, 0, none⟩ = some (.int .i64 a0_0) := (blk_cell BK257.out 0).trans rfl; have hcz28_1 : w5.cell? ⟨gb257, 1, none⟩ = some (.int .i64 a0_1) := (blk_cell BK257.out 1).trans rfl; have hcz28_2 : w5.cell? ⟨gb257, 2, none⟩ = some (.int .i64 a0_2) := (blk_cell BK257.out 2).trans rfl; have hcz28_3 : w5.cell? ⟨gb257, 3, none⟩ = some (.int .i64 a0_3) := (blk_cell BK257.out 3).trans rfl; have hcz28_4 : w5.cell? ⟨gb257, 4, none⟩ = some (.slice A0_4 l0_4.length c0_4) := (blk_cell BK257.out 4).trans rfl; have hcz28_5 : w5.cell? ⟨gb257, 5, none⟩ = some (.slice A0_5 l0_5.length c0_5) := (blk_cell BK257.out 5).trans rfl; have hcz28_6 : w5.cell? ⟨gb257, 6, none⟩ = some (.slice A0_6 l0_6.length c0_6) := (blk_cell BK257.out 6).trans rfl; have hcz28_7 : w5.cell? ⟨gb257, 7, none⟩ = some (.slice A0_7 l0_7.length c0_7) := (blk_cell BK257.out 7).trans rfl; have hfz28_0 := blk_frozen BK257.out 0; have hfz28_1 := blk_frozen BK257.out 1; have hfz28_2 := blk_frozen BK257.out 2; have hfz28_3 := blk_frozen BK257.out 3; have hfz28_4 := blk_frozen BK257.out 4; have hfz28_5 := blk_frozen BK257.out 5; have hfz28_6 := blk_frozen BK257.out 6; have hfz28_7 := blk_frozen BK257.out 7; have hcz29_0 : w5.cell? ⟨gb258, 0, none⟩ = some (.int .i64 a1_0) := (blk_cell BK258.out 0).trans rfl; have hcz29_1 : w5.cell? ⟨gb258, 1, none⟩ = some (.int .i64 a1_1) := (blk_cell BK258.out 1).trans rfl; have hcz29_2 : w5.cell? ⟨gb258, 2, none⟩ = some (.int .i64 a1_2) := (blk_cell BK258.out 2).trans rfl; have hcz29_3 : w5.cell? ⟨gb258, 3, none⟩ = some (.int .i64 a1_3) := (blk_cell BK258.out 3).trans rfl; have hcz29_4 : w5.cell? ⟨gb258, 4, none⟩ = some (.slice A1_4 l1_4.length c1_4) := (blk_cell BK258.out 4).trans rfl; have hcz29_5 : w5.cell? ⟨gb258, 5, none⟩ = some (.slice A1_5 l1_5.length c1_5) := (blk_cell BK258.out 5).trans rfl; have hcz29_6 : w5.cell? ⟨gb258, 6, none⟩ = some (.slice A1_6 l1_6.length c1_6) := (blk_cell BK258.out 6).trans rfl; have hcz29_7 : w5.cell? ⟨gb258, 7, none⟩ = some (.slice A1_7 l1_7.length c1_7) := (blk_cell BK258.out 7).trans rfl; have hfz29_0 := blk_frozen BK258.out 0; have hfz29_1 := blk_frozen BK258.out 1; have hfz29_2 := blk_frozen BK258.out 2; have hfz29_3 := blk_frozen BK258.out 3; have hfz29_4 := blk_frozen BK258.out 4; have hfz29_5 := blk_frozen BK258.out 5; have hfz29_6 := blk_frozen BK258.out 6; have hfz29_7 := blk_frozen BK258.out 7
      go_wp2_with (first | (go_at_call 20; (with_reducible refine (catenaryref01_Same.calls _ _ l0_4 _ _ l1_4 false _ ?side1 ?side2 ?side3 ?side4 A12.out).mono ?_); (case side1 => exact Kd.Cu (Kd.C_below HR0_4.out HB.out)); (case side2 => exact HC0_4.out); (case side3 => exact Kd.Cu (Kd.C_below HR1_4.out HB.out)); (case side4 => exact HC1_4.out); rintro e w' ⟨rfl, ⟨nd, rfl⟩⟩))
      go_meet
      case rel => exact ⟨_, (true), (by first | rfl | (simp; done) | (simp [*]; done)), H', ⟨by first | omega | exact Nat.le_refl _⟩, ⟨blk_u <| BK257.out⟩, ⟨blk_u <| BK258.out⟩, ⟨by repeat (first | (with_reducible first | exact HB.out | apply below_alloc | apply pw_below_drewN | apply below_drew1 | refine below_set ?_ GE257.out | refine below_set ?_ GE258.out) | exact HB.out)⟩⟩
    ·rw [if_neg c11] at H
     have c11b0 : (a0_3 == a1_3) = false := beq_eq_false_iff_ne.mpr c11; have c11b1 : (a0_3 != a1_3) = true := bne_iff_ne.mpr c11; have H' := Aside0.mk H; clear H; have hnb30 := NB257_258.out; have hnc30 := NB258_257.out; have hcz31_0 : w5.cell? ⟨gb257, 0, none⟩ = some (.int .i64 a0_0) := (blk_cell BK257.out 0).trans rfl; have hcz31_1 : w5.cell? ⟨gb257, 1, none⟩ = some (.int .i64 a0_1) := (blk_cell BK257.out 1).trans rfl; have hcz31_2 : w5.cell? ⟨gb257, 2, none⟩ = some (.int .i64 a0_2) := (blk_cell BK257.out 2).trans rfl; have hcz31_3 : w5.cell? ⟨gb257, 3, none⟩ = some (.int .i64 a0_3) := (blk_cell BK257.out 3).trans rfl; have hcz31_4 : w5.cell? ⟨gb257, 4, none⟩ = some (.slice A0_4 l0_4.length c0_4) := (blk_cell BK257.out 4).trans rfl; have hcz31_5 : w5.cell? ⟨gb257, 5, none⟩ = some (.slice A0_5 l0_5.length c0_5) := (blk_cell BK257.out 5).trans rfl; have hcz31_6 : w5.cell? ⟨gb257, 6, none⟩ = some (.slice A0_6 l0_6.length c0_6) := (blk_cell BK257.out 6).trans rfl; have hcz31_7 : w5.cell? ⟨gb257, 7, none⟩ = some (.slice A0_7 l0_7.length c0_7) := (blk_cell BK257.out 7).trans rfl; have hfz31_0 := blk_frozen BK257.out 0; have hfz31_1 := blk_frozen BK257.out 1; have hfz31_2 := blk_frozen BK257.out 2; have hfz31_3 := blk_frozen BK257.out 3; have hfz31_4 := blk_frozen BK257.out 4; have hfz31_5 := blk_frozen BK257.out 5; have hfz31_6 := blk_frozen BK257.out 6; have hfz31_7 := blk_frozen BK257.out 7; have hcz32_0 : w5.cell? ⟨gb258, 0, none⟩ = some (.int .i64 a1_0) := (blk_cell BK258.out 0).trans rfl; have hcz32_1 : w5.cell? ⟨gb258, 1, none⟩ = some (.int .i64 a1_1) := (blk_cell BK258.out 1).trans rfl; have hcz32_2 : w5.cell? ⟨gb258, 2, none⟩ = some (.int .i64 a1_2) := (blk_cell BK258.out 2).trans rfl; have hcz32_3 : w5.cell? ⟨gb258, 3, none⟩ = some (.int .i64 a1_3) := (blk_cell BK258.out 3).trans rfl; have hcz32_4 : w5.cell? ⟨gb258, 4, none⟩ = some (.slice A1_4 l1_4.length c1_4) := (blk_cell BK258.out 4).trans rfl; have hcz32_5 : w5.cell? ⟨gb258, 5, none⟩ = some (.slice A1_5 l1_5.length c1_5) := (blk_cell BK258.out 5).trans rfl; have hcz32_6 : w5.cell? ⟨gb258, 6, none⟩ = some (.slice A1_6 l1_6.length c1_6) := (blk_cell BK258.out 6).trans rfl; have hcz32_7 : w5.cell? ⟨gb258, 7, none⟩ = some (.slice A1_7 l1_7.length c1_7) := (blk_cell BK258.out 7).trans rfl; have hfz32_0 := blk_frozen BK258.out 0; have hfz32_1 := blk_frozen BK258.out 1; have hfz32_2 := blk_frozen BK258.out 2; have hfz32_3 := blk_frozen BK258.out 3; have hfz32_4 := blk_frozen BK258.out 4; have hfz32_5 := blk_frozen BK258.out 5; have hfz32_6 := blk_frozen BK258.out 6; have hfz32_7 := blk_frozen BK258.out 7
     go_wp2
     go_meet
     case rel => exact ⟨_, (true), (by first | rfl | (simp; done) | (simp [*]; done)), H', ⟨by first | omega | exact Nat.le_refl _⟩, ⟨blk_u <| BK257.out⟩, ⟨blk_u <| BK258.out⟩, ⟨by repeat (first | (with_reducible first | exact HB.out | apply below_alloc | apply pw_below_drewN | apply below_drew1 | refine below_set ?_ GE257.out | refine below_set ?_ GE258.out) | exact HB.out)⟩⟩
   ·rw [if_neg c10] at H
    have c10b0 : (a0_2 == a1_2) = false := beq_eq_false_iff_ne.mpr c10; have c10b1 : (a0_2 != a1_2) = true := bne_iff_ne.mpr c10; have H' := Aside0.mk H; clear H; have hnb33 := NB257_258.out; have hnc33 := NB258_257.out; have hcz34_0 : w5.cell? ⟨gb257, 0, none⟩ = some (.int .i64 a0_0) := (blk_cell BK257.out 0).trans rfl; have hcz34_1 : w5.cell? ⟨gb257, 1, none⟩ = some (.int .i64 a0_1) := (blk_cell BK257.out 1).trans rfl; have hcz34_2 : w5.cell? ⟨gb257, 2, none⟩ = some (.int .i64 a0_2) := (blk_cell BK257.out 2).trans rfl; have hcz34_3 : w5.cell? ⟨gb257, 3, none⟩ = some (.int .i64 a0_3) := (blk_cell BK257.out 3).trans rfl; have hcz34_4 : w5.cell? ⟨gb257, 4, none⟩ = some (.slice A0_4 l0_4.length c0_4) := (blk_cell BK257.out 4).trans rfl; have hcz34_5 : w5.cell? ⟨gb257, 5, none⟩ = some (.slice A0_5 l0_5.length c0_5) := (blk_cell BK257.out 5).trans rfl; have hcz34_6 : w5.cell? ⟨gb257, 6, none⟩ = some (.slice A0_6 l0_6.length c0_6) := (blk_cell BK257.out 6).trans rfl; have hcz34_7 : w5.cell? ⟨gb257, 7, none⟩ = some (.slice A0_7 l0_7.length c0_7) := (blk_cell BK257.out 7).trans rfl; have hfz34_0 := blk_frozen BK257.out 0; have hfz34_1 := blk_frozen BK257.out 1; have hfz34_2 := blk_frozen BK257.out 2; have hfz34_3 := blk_frozen BK257.out 3; have hfz34_4 := blk_frozen BK257.out 4; have hfz34_5 := blk_frozen BK257.out 5; have hfz34_6 := blk_frozen BK257.out 6; have hfz34_7 := blk_frozen BK257.out 7; have hcz35_0 : w5.cell? ⟨gb258, 0, none⟩ = some (.int .i64 a1_0) := (blk_cell BK258.out 0).trans rfl; have hcz35_1 : w5.cell? ⟨gb258, 1, none⟩ = some (.int .i64 a1_1) := (blk_cell BK258.out 1).trans rfl; have hcz35_2 : w5.cell? ⟨gb258, 2, none⟩ = some (.int .i64 a1_2) := (blk_cell BK258.out 2).trans rfl; have hcz35_3 : w5.cell? ⟨gb258, 3, none⟩ = some (.int .i64 a1_3) := (blk_cell BK258.out 3).trans rfl; have hcz35_4 : w5.cell? ⟨gb258, 4, none⟩ = some (.slice A1_4 l1_4.length c1_4) := (blk_cell BK258.out 4).trans rfl; have hcz35_5 : w5.cell? ⟨gb258, 5, none⟩ = some (.slice A1_5 l1_5.length c1_5) := (blk_cell BK258.out 5).trans rfl; have hcz35_6 : w5.cell? ⟨gb258, 6, none⟩ = some (.slice A1_6 l1_6.length c1_6) := (blk_cell BK258.out 6).trans rfl; have hcz35_7 : w5.cell? ⟨gb258, 7, none⟩ = some (.slice A1_7 l1_7.length c1_7) := (blk_cell BK258.out 7).trans rfl; have hfz35_0 := blk_frozen BK258.out 0; have hfz35_1 := blk_frozen BK258.out 1; have hfz35_2 := blk_frozen BK258.out 2; have hfz35_3 := blk_frozen BK258.out 3; have hfz35_4 := blk_frozen BK258.out 4; have hfz35_5 := blk_frozen BK258.out 5; have hfz35_6 := blk_frozen BK258.out 6; have hfz35_7 := blk_frozen BK258.out 7
    go_wp2
    go_meet
    case rel => exact ⟨_, (true), (by first | rfl | (simp; done) | (simp [*]; done)), H', ⟨by first | omega | exact Nat.le_refl _⟩, ⟨blk_u <| BK257.out⟩, ⟨blk_u <| BK258.out⟩, ⟨by repeat (first | (with_reducible first | exact HB.out | apply below_alloc | apply pw_below_drewN | apply below_drew1 | refine below_set ?_ GE257.out | refine below_set ?_ GE258.out) | exact HB.out)⟩⟩
 case rest =>
  clear HC3
  try clear c1
  try clear c2
  try clear p2
  try clear c3
  try clear c6
  try clear c6b0
  try clear c7
  try clear c10
  try clear c10b0
  try clear c10b1
  try clear c11
  try clear c11b0
  try clear c11b1
  try clear c13
  try clear c15
  try clear c16
  try clear c16b0
  try clear c16b1
  try clear c16b2
  try clear c18
  try clear c21
  try clear c24
  try clear c27
  try clear c30
  try clear c33
  try clear hcz19_0
  try clear hcz19_1
  try clear hcz19_2
  try clear hcz19_3
  try clear hcz19_4
  try clear hcz19_5
  try clear hcz19_6
  try clear hcz19_7
  try clear hcz20_0
  try clear hcz20_1
  try clear hcz20_2
  try clear hcz20_3
  try clear hcz20_4
  try clear hcz20_5
  try clear hcz20_6
  try clear hcz20_7
  try clear hcz22_0
  try clear hcz22_1
  try clear hcz22_2
  try clear hcz22_3
  try clear hcz22_4
  try clear hcz22_5
  try clear hcz22_6
  try clear hcz22_7
  try clear hcz23_0
  try clear hcz23_1
  try clear hcz23_2
  try clear hcz23_3
  try clear hcz23_4
  try clear hcz23_5
  try clear hcz23_6
  try clear hcz23_7
  try clear hcz25_0
  try clear hcz25_1
  try clear hcz25_2
  try clear hcz25_3
  try clear hcz25_4
  try clear hcz25_5
  try clear hcz25_6
  try clear hcz25_7
  try clear hcz26_0
  try clear hcz26_1
  try clear hcz26_2
  try clear hcz26_3
  try clear hcz26_4
  try clear hcz26_5
  try clear hcz26_6
  try clear hcz26_7
  try clear hcz28_0
  try clear hcz28_1
  try clear hcz28_2
  try clear hcz28_3
  try clear hcz28_4
  try clear hcz28_5
  try clear hcz28_6
  try clear hcz28_7
  try clear hcz29_0
  try clear hcz29_1
  try clear hcz29_2
  try clear hcz29_3
  try clear hcz29_4
  try clear hcz29_5
  try clear hcz29_6
  try clear hcz29_7
  try clear hcz31_0
  try clear hcz31_1
  try clear hcz31_2
  try clear hcz31_3
  try clear hcz31_4
  try clear hcz31_5
  try clear hcz31_6
  try clear hcz31_7
  try clear hcz32_0
  try clear hcz32_1
  try clear hcz32_2
  try clear hcz32_3
  try clear hcz32_4
  try clear hcz32_5
  try clear hcz32_6
  try clear hcz32_7
  try clear hcz34_0
  try clear hcz34_1
  try clear hcz34_2
  try clear hcz34_3
  try clear hcz34_4
  try clear hcz34_5
  try clear hcz34_6
  try clear hcz34_7
  try clear hcz35_0
  try clear hcz35_1
  try clear hcz35_2
  try clear hcz35_3
  try clear hcz35_4
  try clear hcz35_5
  try clear hcz35_6
  try clear hcz35_7
  try clear hcz8_0
  try clear hcz8_1
  try clear hcz8_2
  try clear hcz8_3
  try clear hcz8_4
  try clear hcz8_5
  try clear hcz8_6
  try clear hcz8_7
  try clear hcz9_0
  try clear hcz9_1
  try clear hcz9_2
  try clear hcz9_3
  try clear hcz9_4
  try clear hcz9_5
  try clear hcz9_6
  try clear hcz9_7
  try clear hfz19_0
  try clear hfz19_1
  try clear hfz19_2
  try clear hfz19_3
  try clear hfz19_4
  try clear hfz19_5
  try clear hfz19_6
  try clear hfz19_7
  try clear hfz20_0
  try clear hfz20_1
  try clear hfz20_2
  try clear hfz20_3
  try clear hfz20_4
  try clear hfz20_5
  try clear hfz20_6
  try clear hfz20_7
  try clear hfz22_0
  try clear hfz22_1
  try clear hfz22_2
  try clear hfz22_3
  try clear hfz22_4
  try clear hfz22_5
  try clear hfz22_6
  try clear hfz22_7
  try clear hfz23_0
  try clear hfz23_1
  try clear hfz23_2
  try clear hfz23_3
  try clear hfz23_4
  try clear hfz23_5
  try clear hfz23_6
  try clear hfz23_7
  try clear hfz25_0
  try clear hfz25_1
  try clear hfz25_2
  try clear hfz25_3
  try clear hfz25_4
  try clear hfz25_5
  try clear hfz25_6
  try clear hfz25_7
  try clear hfz26_0
  try clear hfz26_1
  try clear hfz26_2
  try clear hfz26_3
  try clear hfz26_4
  try clear hfz26_5
  try clear hfz26_6
  try clear hfz26_7
  try clear hfz28_0
  try clear hfz28_1
  try clear hfz28_2
  try clear hfz28_3
  try clear hfz28_4
  try clear hfz28_5
  try clear hfz28_6
  try clear hfz28_7
  try clear hfz29_0
  try clear hfz29_1
  try clear hfz29_2
  try clear hfz29_3
  try clear hfz29_4
  try clear hfz29_5
  try clear hfz29_6
  try clear hfz29_7
  try clear hfz31_0
  try clear hfz31_1
  try clear hfz31_2
  try clear hfz31_3
  try clear hfz31_4
  try clear hfz31_5
  try clear hfz31_6
  try clear hfz31_7
  try clear hfz32_0
  try clear hfz32_1
  try clear hfz32_2
  try clear hfz32_3
  try clear hfz32_4
  try clear hfz32_5
  try clear hfz32_6
  try clear hfz32_7
  try clear hfz34_0
  try clear hfz34_1
  try clear hfz34_2
  try clear hfz34_3
  try clear hfz34_4
  try clear hfz34_5
  try clear hfz34_6
  try clear hfz34_7
  try clear hfz35_0
  try clear hfz35_1
  try clear hfz35_2
  try clear hfz35_3
  try clear hfz35_4
  try clear hfz35_5
  try clear hfz35_6
  try clear hfz35_7
  try clear hfz8_0
  try clear hfz8_1
  try clear hfz8_2
  try clear hfz8_3
  try clear hfz8_4
  try clear hfz8_5
  try clear hfz8_6
  try clear hfz8_7
  try clear hfz9_0
  try clear hfz9_1
  try clear hfz9_2
  try clear hfz9_3
  try clear hfz9_4
  try clear hfz9_5
  try clear hfz9_6
  try clear hfz9_7
  obtain ⟨kq, x59_2, rfl, HA, HJ2, BK257, BK258, HB⟩ := hcut
  cases kq with
  | zero => exact absurd HA.out (by simp [catenaryref05_SameReport.j0])
  | succ kj2 =>
   have H := HA.out; clear HA; simp only [catenaryref05_SameReport.j0] at H
   by_cases c36 : x59_2 = true
   ·subst c36
    have H1 : (some false) = some r := by rw [if_pos rfl] at H; exact H
    clear H; have H := H1; clear H1; obtain rfl := Option.some.inj H
    go_wp2
    go_ret
    exact ⟨by first | rfl | (simp [errW_none, errW_some] <;> rfl) | (simp [*, errW_none, errW_some] <;> rfl), by repeat (first | (with_reducible first | exact HB.out | apply below_alloc | apply pw_below_drewN | apply below_drew1 | refine below_set ?_ GE257.out | refine below_set ?_ GE258.out) | exact HB.out)⟩
   ·replace c36 := Bool.eq_false_iff.mpr c36
    subst c36
    have H1 : (catenaryref05_SameReport.l0 kj2 l0_6 (l0_6.length : Int) 0 a1_0 a1_1 a1_2 a1_3 l1_4 l1_5 l1_6 l1_7) = some r := by rw [if_neg (show ¬ (false = true) by decide)] at H; exact H
    clear H; have H := H1; clear H1; have H' := Aside0.mk H; clear H; have hnb37 := NB257_258.out; have hnc37 := NB258_257.out; have hcz38_0 : wc.cell? ⟨gb257, 0, none⟩ = some (.int .i64 a0_0) := (blk_cell BK257.out 0).trans rfl; have hcz38_1 : wc.cell? ⟨gb257, 1, none⟩ = some (.int .i64 a0_1) := (blk_cell BK257.out 1).trans rfl; have hcz38_2 : wc.cell? ⟨gb257, 2, none⟩ = some (.int .i64 a0_2) := (blk_cell BK257.out 2).trans rfl; have hcz38_3 : wc.cell? ⟨gb257, 3, none⟩ = some (.int .i64 a0_3) := (blk_cell BK257.out 3).trans rfl; have hcz38_4 : wc.cell? ⟨gb257, 4, none⟩ = some (.slice A0_4 l0_4.length c0_4) := (blk_cell BK257.out 4).trans rfl; have hcz38_5 : wc.cell? ⟨gb257, 5, none⟩ = some (.slice A0_5 l0_5.length c0_5) := (blk_cell BK257.out 5).trans rfl; have hcz38_6 : wc.cell? ⟨gb257, 6, none⟩ = some (.slice A0_6 l0_6.length c0_6) := (blk_cell BK257.out 6).trans rfl; have hcz38_7 : wc.cell? ⟨gb257, 7, none⟩ = some (.slice A0_7 l0_7.length c0_7) := (blk_cell BK257.out 7).trans rfl; have hfz38_0 := blk_frozen BK257.out 0; have hfz38_1 := blk_frozen BK257.out 1; have hfz38_2 := blk_frozen BK257.out 2; have hfz38_3 := blk_frozen BK257.out 3; have hfz38_4 := blk_frozen BK257.out 4; have hfz38_5 := blk_frozen BK257.out 5; have hfz38_6 := blk_frozen BK257.out 6; have hfz38_7 := blk_frozen BK257.out 7
    go_wp2
    go_loopg [63] kj2 (fun kq v63 w' => ∃ (x63_2 : Int), v63 = .int .i64 x63_2 ∧ Aside0 (catenaryref05_SameReport.l0 kq l0_6 (l0_6.length : Int) x63_2 a1_0 a1_1 a1_2 a1_3 l1_4 l1_5 l1_6 l1_7 = some r) ∧ Aside0 (kq ≤ kj2) ∧ Aside0 (w'.heap[gb257]? = some (.cells #[.int .i64 a0_0, .int .i64 a0_1, .int .i64 a0_2, .int .i64 a0_3, (.slice A0_4 l0_4.length c0_4), (.slice A0_5 l0_5.length c0_5), (.slice A0_6 l0_6.length c0_6), (.slice A0_7 l0_7.length c0_7)] 30 (0, 0))) ∧ Aside0 (w'.heap[gb258]? = some (.cells #[.int .i64 a1_0, .int .i64 a1_1, .int .i64 a1_2, .int .i64 a1_3, (.slice A1_4 l1_4.length c1_4), (.slice A1_5 l1_5.length c1_5), (.slice A1_6 l1_6.length c1_6), (.slice A1_7 l1_7.length c1_7)] 30 (0, 0))) ∧ Aside0 (Below w.heap.size w w'))
    case atStart => exact ⟨(0), (by first | rfl | (simp; done) | (simp [*]; done)), H', ⟨Nat.le_refl _⟩, ⟨blk_u <| BK257.out⟩, ⟨blk_u <| BK258.out⟩, ⟨by repeat (first | (with_reducible first | exact HB.out | apply below_alloc | apply pw_below_drewN | apply below_drew1 | refine below_set ?_ GE257.out | refine below_set ?_ GE258.out) | exact HB.out)⟩⟩
    case round =>
     clear H'
     try clear c1
     try clear c2
     try clear p2
     try clear c3
     try clear c6
     try clear c6b0
     try clear c7
     try clear c10
     try clear c10b0
     try clear c10b1
     try clear c11
     try clear c11b0
     try clear c11b1
     try clear c13
     try clear c15
     try clear c16
     try clear c16b0
     try clear c16b1
     try clear c16b2
     try clear c18
     try clear c21
     try clear c24
     try clear c27
     try clear c30
     try clear c33
     try clear c36
     try clear c37
     try clear hcz19_0
     try clear hcz19_1
     try clear hcz19_2
     try clear hcz19_3
     try clear hcz19_4
     try clear hcz19_5
     try clear hcz19_6
     try clear hcz19_7
     try clear hcz20_0
     try clear hcz20_1
     try clear hcz20_2
     try clear hcz20_3
     try clear hcz20_4
     try clear hcz20_5
     try clear hcz20_6
     try clear hcz20_7
     try clear hcz22_0
     try clear hcz22_1
     try clear hcz22_2
     try clear hcz22_3
     try clear hcz22_4
     try clear hcz22_5
     try clear hcz22_6
     try clear hcz22_7
     try clear hcz23_0
     try clear hcz23_1
     try clear hcz23_2
     try clear hcz23_3
     try clear hcz23_4
     try clear hcz23_5
     try clear hcz23_6
     try clear hcz23_7
     try clear hcz25_0
     try clear hcz25_1
     try clear hcz25_2
     try clear hcz25_3
     try clear hcz25_4
     try clear hcz25_5
     try clear hcz25_6
     try clear hcz25_7
     try clear hcz26_0
     try clear hcz26_1
     try clear hcz26_2
     try clear hcz26_3
     try clear hcz26_4
     try clear hcz26_5
     try clear hcz26_6
     try clear hcz26_7
     try clear hcz28_0
     try clear hcz28_1
     try clear hcz28_2
     try clear hcz28_3
     try clear hcz28_4
     try clear hcz28_5
     try clear hcz28_6
     try clear hcz28_7
     try clear hcz29_0
     try clear hcz29_1
     try clear hcz29_2
     try clear hcz29_3
     try clear hcz29_4
     try clear hcz29_5
     try clear hcz29_6
     try clear hcz29_7
     try clear hcz31_0
     try clear hcz31_1
     try clear hcz31_2
     try clear hcz31_3
     try clear hcz31_4
     try clear hcz31_5
     try clear hcz31_6
     try clear hcz31_7
     try clear hcz32_0
     try clear hcz32_1
     try clear hcz32_2
     try clear hcz32_3
     try clear hcz32_4
     try clear hcz32_5
     try clear hcz32_6
     try clear hcz32_7
     try clear hcz34_0
     try clear hcz34_1
     try clear hcz34_2
     try clear hcz34_3
     try clear hcz34_4
     try clear hcz34_5
     try clear hcz34_6
     try clear hcz34_7
     try clear hcz35_0
     try clear hcz35_1
     try clear hcz35_2
     try clear hcz35_3
     try clear hcz35_4
     try clear hcz35_5
     try clear hcz35_6
     try clear hcz35_7
     try clear hcz38_0
     try clear hcz38_1
     try clear hcz38_2
     try clear hcz38_3
     try clear hcz38_4
     try clear hcz38_5
     try clear hcz38_6
     try clear hcz38_7
     try clear hcz8_0
     try clear hcz8_1
     try clear hcz8_2
     try clear hcz8_3
     try clear hcz8_4
     try clear hcz8_5
     try clear hcz8_6
     try clear hcz8_7
     try clear hcz9_0
     try clear hcz9_1
     try clear hcz9_2
     try clear hcz9_3
     try clear hcz9_4
     try clear hcz9_5
     try clear hcz9_6
     try clear hcz9_7
     try clear hfz19_0
     try clear hfz19_1
     try clear hfz19_2
     try clear hfz19_3
     try clear hfz19_4
     try clear hfz19_5
     try clear hfz19_6
     try clear hfz19_7
     try clear hfz20_0
     try clear hfz20_1
     try clear hfz20_2
     try clear hfz20_3
     try clear hfz20_4
     try clear hfz20_5
     try clear hfz20_6
     try clear hfz20_7
     try clear hfz22_0
     try clear hfz22_1
     try clear hfz22_2
     try clear hfz22_3
     try clear hfz22_4
     try clear hfz22_5
     try clear hfz22_6
     try clear hfz22_7
     try clear hfz23_0
     try clear hfz23_1
     try clear hfz23_2
     try clear hfz23_3
     try clear hfz23_4
     try clear hfz23_5
     try clear hfz23_6
     try clear hfz23_7
     try clear hfz25_0
     try clear hfz25_1
     try clear hfz25_2
     try clear hfz25_3
     try clear hfz25_4
     try clear hfz25_5
     try clear hfz25_6
     try clear hfz25_7
     try clear hfz26_0
     try clear hfz26_1
     try clear hfz26_2
     try clear hfz26_3
     try clear hfz26_4
     try clear hfz26_5
     try clear hfz26_6
     try clear hfz26_7
     try clear hfz28_0
     try clear hfz28_1
     try clear hfz28_2
     try clear hfz28_3
     try clear hfz28_4
     try clear hfz28_5
     try clear hfz28_6
     try clear hfz28_7
     try clear hfz29_0
     try clear hfz29_1
     try clear hfz29_2
     try clear hfz29_3
     try clear hfz29_4
     try clear hfz29_5
     try clear hfz29_6
     try clear hfz29_7
     try clear hfz31_0
     try clear hfz31_1
     try clear hfz31_2
     try clear hfz31_3
     try clear hfz31_4
     try clear hfz31_5
     try clear hfz31_6
     try clear hfz31_7
     try clear hfz32_0
     try clear hfz32_1
     try clear hfz32_2
     try clear hfz32_3
     try clear hfz32_4
     try clear hfz32_5
     try clear hfz32_6
     try clear hfz32_7
     try clear hfz34_0
     try clear hfz34_1
     try clear hfz34_2
     try clear hfz34_3
     try clear hfz34_4
     try clear hfz34_5
     try clear hfz34_6
     try clear hfz34_7
     try clear hfz35_0
     try clear hfz35_1
     try clear hfz35_2
     try clear hfz35_3
     try clear hfz35_4
     try clear hfz35_5
     try clear hfz35_6
     try clear hfz35_7
     try clear hfz38_0
     try clear hfz38_1
     try clear hfz38_2
     try clear hfz38_3
     try clear hfz38_4
     try clear hfz38_5
     try clear hfz38_6
     try clear hfz38_7
     try clear hfz8_0
     try clear hfz8_1
     try clear hfz8_2
     try clear hfz8_3
     try clear hfz8_4
     try clear hfz8_5
     try clear hfz8_6
     try clear hfz8_7
     try clear hfz9_0
     try clear hfz9_1
     try clear hfz9_2
     try clear hfz9_3
     try clear hfz9_4
     try clear hfz9_5
     try clear hfz9_6
     try clear hfz9_7
     try clear p2
     obtain ⟨x63_2, rfl, HA, HK2, BK257, BK258, HB⟩ := hrel
     cases gk with
     | zero => exact absurd HA.out (by simp [catenaryref05_SameReport.l0])
     | succ k2 =>
      have H := HA.out; clear HA; simp only [catenaryref05_SameReport.l0] at H
      by_cases c39 : x63_2 < (l0_6.length : Int)
      ·rw [if_pos c39] at H
       have c39b0 : decide (x63_2 < (l0_6.length : Int)) = true := decide_eq_true c39; clear c39
       by_cases c40 : 0 ≤ x63_2
       ·rw [if_pos c40] at H
        have c40b0 : decide (0 ≤ x63_2) = true := decide_eq_true c40; clear c40
        by_cases c41 : x63_2 < (l0_6.length : Int)
        ·rw [if_pos c41] at H
         have c41b0 : decide (x63_2 < (l0_6.length : Int)) = true := decide_eq_true c41; clear c41
         by_cases c42 : x63_2 < (l1_6.length : Int)
         ·rw [if_pos c42] at H
          have c42b0 : decide (x63_2 < (l1_6.length : Int)) = true := decide_eq_true c42; clear c42; have HC43 := Aside0.mk H; clear H; have p262 : 0 ≤ (x63_2 : Int) := of_decide_eq_true (by first | (with_reducible assumption) | assumption); have q262 : x63_2 < (l0_6.length : Int) := of_decide_eq_true (by first | (with_reducible assumption) | assumption); obtain ⟨ad262, A262_5, c262_5, A262_6, c262_6, A262_7, c262_7, e262, hx262_0, hx262_1, hx262_2, hx262_3, hx262_4, hx262_5, hx262_6, hx262_7, hl262_5, hi262_5, hl262_6, hi262_6, hl262_7, hi262_7⟩ := at_T45 HR0_6.out x63_2 p262 q262
          cases e262
          replace hx262_0 := (HB.out.cell (World.block_lt_of_cell? w _ hx262_0)).trans hx262_0; replace hx262_1 := (HB.out.cell (World.block_lt_of_cell? w _ hx262_1)).trans hx262_1; replace hx262_2 := (HB.out.cell (World.block_lt_of_cell? w _ hx262_2)).trans hx262_2; replace hx262_3 := (HB.out.cell (World.block_lt_of_cell? w _ hx262_3)).trans hx262_3; replace hx262_4 := (HB.out.cell (World.block_lt_of_cell? w _ hx262_4)).trans hx262_4; replace hx262_5 := (HB.out.cell (World.block_lt_of_cell? w _ hx262_5)).trans hx262_5; replace hx262_6 := (HB.out.cell (World.block_lt_of_cell? w _ hx262_6)).trans hx262_6; replace hx262_7 := (HB.out.cell (World.block_lt_of_cell? w _ hx262_7)).trans hx262_7; have HR262_5 := Aside0.mk hi262_5; have HC262_5 := Aside0.mk hl262_5; clear hi262_5 hl262_5; have HR262_6 := Aside0.mk hi262_6; have HC262_6 := Aside0.mk hl262_6; clear hi262_6 hl262_6; have HR262_7 := Aside0.mk hi262_7; have HC262_7 := Aside0.mk hl262_7; clear hi262_7 hl262_7; replace p262 := eq_true p262; replace q262 := eq_true q262
          go_upto_region 7 with (first | ((with_reducible refine gate_dst (N := 6) rfl ?_); (try (refine gate_guard (by rfl) ?_; dsimp only)); refine box_event ?hg (N := 6) ?hd (cs := #[.int .i64 0, .int .i64 0, .int .i64 0, .int .i64 0, .int .i64 0, .slice none 0 0, .slice none 0 0, .slice none 0 0]) (t := 45) ?hr ?_; (case hd => rfl); (case hg => rfl); (case hr => first | (go_simp; done) | (go_simp; rfl)); intro gb263 hg w44 hbox hb; have n0_ := Aside0.mk (blk_below (blk_u <| BK257.out) hb); have n1_ := Aside0.mk (blk_below (blk_u <| BK258.out) hb); have n2_ := Aside0.mk (below_step (by repeat (first | (with_reducible first | exact HB.out | apply below_alloc | apply pw_below_drewN | apply below_drew1 | refine below_set ?_ GE257.out | refine below_set ?_ GE258.out) | exact HB.out)) hb); have n3_ := Aside0.mk (hbox); have n4_ := Aside0.mk ((by rw [hg]; exact (below_size (by repeat (first | (with_reducible first | exact HB.out | apply below_alloc | apply pw_below_drewN | apply below_drew1 | refine below_set ?_ GE257.out | refine below_set ?_ GE258.out) | exact HB.out))) : w.heap.size ≤ gb263)); have n5_ := Aside0.mk ((by rw [hg]; exact (below_size (by repeat (first | (with_reducible first | exact HB.out | apply below_alloc | apply pw_below_drewN | apply below_drew1 | refine below_set ?_ GE257.out | refine below_set ?_ GE258.out) | exact HB.out))) : w.heap.size ≤ gb263)); have n6_ := Aside0.mk ((by rw [hg]; exact Nat.ne_of_lt (blk_lt (blk_u <| BK257.out)) : gb257 ≠ gb263)); have n7_ := Aside0.mk ((by rw [hg]; exact Nat.ne_of_gt (blk_lt (blk_u <| BK257.out)) : gb263 ≠ gb257)); have n8_ := Aside0.mk ((by rw [hg]; exact Nat.ne_of_lt (blk_lt (blk_u <| BK258.out)) : gb258 ≠ gb263)); have n9_ := Aside0.mk ((by rw [hg]; exact Nat.ne_of_gt (blk_lt (blk_u <| BK258.out)) : gb263 ≠ gb258)); clear BK257; clear BK258; clear HB; have BK257 := n0_; have BK258 := n1_; have HB := n2_; have BK263 := n3_; have GW263 := n4_; have GE263 := n5_; have NB257_263 := n6_; have NB263_257 := n7_; have NB258_263 := n8_; have NB263_258 := n9_; clear n0_ n1_ n2_ n3_ n4_ n5_ n6_ n7_ n8_ n9_; clear hb hbox hg; have hnb45 := NB263_257.out; have hnc45 := NB257_263.out; have hnb46 := NB263_258.out; have hnc46 := NB258_263.out; have hcz47_0 : w44.cell? ⟨gb263, 0, none⟩ = some (.int .i64 0) := (blk_cell BK263.out 0).trans rfl; have hcz47_1 : w44.cell? ⟨gb263, 1, none⟩ = some (.int .i64 0) := (blk_cell BK263.out 1).trans rfl; have hcz47_2 : w44.cell? ⟨gb263, 2, none⟩ = some (.int .i64 0) := (blk_cell BK263.out 2).trans rfl; have hcz47_3 : w44.cell? ⟨gb263, 3, none⟩ = some (.int .i64 0) := (blk_cell BK263.out 3).trans rfl; have hcz47_4 : w44.cell? ⟨gb263, 4, none⟩ = some (.int .i64 0) := (blk_cell BK263.out 4).trans rfl; have hcz47_5 : w44.cell? ⟨gb263, 5, none⟩ = some (.slice none 0 0) := (blk_cell BK263.out 5).trans rfl; have hcz47_6 : w44.cell? ⟨gb263, 6, none⟩ = some (.slice none 0 0) := (blk_cell BK263.out 6).trans rfl; have hcz47_7 : w44.cell? ⟨gb263, 7, none⟩ = some (.slice none 0 0) := (blk_cell BK263.out 7).trans rfl; have hfz47_0 := blk_frozen BK263.out 0; have hfz47_1 := blk_frozen BK263.out 1; have hfz47_2 := blk_frozen BK263.out 2; have hfz47_3 := blk_frozen BK263.out 3; have hfz47_4 := blk_frozen BK263.out 4; have hfz47_5 := blk_frozen BK263.out 5; have hfz47_6 := blk_frozen BK263.out 6; have hfz47_7 := blk_frozen BK263.out 7; have hnb48 := NB258_257.out; have hnc48 := NB257_258.out; have hcz49_0 : w44.cell? ⟨gb258, 0, none⟩ = some (.int .i64 a1_0) := (blk_cell BK258.out 0).trans rfl; have hcz49_1 : w44.cell? ⟨gb258, 1, none⟩ = some (.int .i64 a1_1) := (blk_cell BK258.out 1).trans rfl; have hcz49_2 : w44.cell? ⟨gb258, 2, none⟩ = some (.int .i64 a1_2) := (blk_cell BK258.out 2).trans rfl; have hcz49_3 : w44.cell? ⟨gb258, 3, none⟩ = some (.int .i64 a1_3) := (blk_cell BK258.out 3).trans rfl; have hcz49_4 : w44.cell? ⟨gb258, 4, none⟩ = some (.slice A1_4 l1_4.length c1_4) := (blk_cell BK258.out 4).trans rfl; have hcz49_5 : w44.cell? ⟨gb258, 5, none⟩ = some (.slice A1_5 l1_5.length c1_5) := (blk_cell BK258.out 5).trans rfl; have hcz49_6 : w44.cell? ⟨gb258, 6, none⟩ = some (.slice A1_6 l1_6.length c1_6) := (blk_cell BK258.out 6).trans rfl; have hcz49_7 : w44.cell? ⟨gb258, 7, none⟩ = some (.slice A1_7 l1_7.length c1_7) := (blk_cell BK258.out 7).trans rfl; have hfz49_0 := blk_frozen BK258.out 0; have hfz49_1 := blk_frozen BK258.out 1; have hfz49_2 := blk_frozen BK258.out 2; have hfz49_3 := blk_frozen BK258.out 3; have hfz49_4 := blk_frozen BK258.out 4; have hfz49_5 := blk_frozen BK258.out 5; have hfz49_6 := blk_frozen BK258.out 6; have hfz49_7 := blk_frozen BK258.out 7; have p264 : 0 ≤ (x63_2 : Int) := of_decide_eq_true (by first | (with_reducible assumption) | assumption); have q264 : x63_2 < (l1_6.length : Int) := of_decide_eq_true (by first | (with_reducible assumption) | assumption); obtain ⟨ad264, A264_5, c264_5, A264_6, c264_6, A264_7, c264_7, e264, hx264_0, hx264_1, hx264_2, hx264_3, hx264_4, hx264_5, hx264_6, hx264_7, hl264_5, hi264_5, hl264_6, hi264_6, hl264_7, hi264_7⟩ := at_T45 HR1_6.out x63_2 p264 q264; cases e264; have hn264_0 : ad264.block ≠ gb263 := Nat.ne_of_lt (Nat.lt_of_lt_of_le (by have := World.block_lt_of_cell? _ _ hx264_0; first | rwa [add_block] at this | exact this) GW263.out); have hn264_1 : ad264.block ≠ gb263 := Nat.ne_of_lt (Nat.lt_of_lt_of_le (by have := World.block_lt_of_cell? _ _ hx264_0; first | rwa [add_block] at this | exact this) GW263.out); have hn264_2 : ad264.block ≠ gb263 := Nat.ne_of_lt (Nat.lt_of_lt_of_le (by have := World.block_lt_of_cell? _ _ hx264_0; first | rwa [add_block] at this | exact this) GW263.out); have hn264_3 : ad264.block ≠ gb263 := Nat.ne_of_lt (Nat.lt_of_lt_of_le (by have := World.block_lt_of_cell? _ _ hx264_0; first | rwa [add_block] at this | exact this) GW263.out); have hn264_4 : ad264.block ≠ gb263 := Nat.ne_of_lt (Nat.lt_of_lt_of_le (by have := World.block_lt_of_cell? _ _ hx264_0; first | rwa [add_block] at this | exact this) GW263.out); have hn264_5 : ad264.block ≠ gb263 := Nat.ne_of_lt (Nat.lt_of_lt_of_le (by have := World.block_lt_of_cell? _ _ hx264_0; first | rwa [add_block] at this | exact this) GW263.out); have hn264_6 : ad264.block ≠ gb263 := Nat.ne_of_lt (Nat.lt_of_lt_of_le (by have := World.block_lt_of_cell? _ _ hx264_0; first | rwa [add_block] at this | exact this) GW263.out); have hn264_7 : ad264.block ≠ gb263 := Nat.ne_of_lt (Nat.lt_of_lt_of_le (by have := World.block_lt_of_cell? _ _ hx264_0; first | rwa [add_block] at this | exact this) GW263.out); replace hx264_0 := (HB.out.cell (World.block_lt_of_cell? w _ hx264_0)).trans hx264_0; replace hx264_1 := (HB.out.cell (World.block_lt_of_cell? w _ hx264_1)).trans hx264_1; replace hx264_2 := (HB.out.cell (World.block_lt_of_cell? w _ hx264_2)).trans hx264_2; replace hx264_3 := (HB.out.cell (World.block_lt_of_cell? w _ hx264_3)).trans hx264_3; replace hx264_4 := (HB.out.cell (World.block_lt_of_cell? w _ hx264_4)).trans hx264_4; replace hx264_5 := (HB.out.cell (World.block_lt_of_cell? w _ hx264_5)).trans hx264_5; replace hx264_6 := (HB.out.cell (World.block_lt_of_cell? w _ hx264_6)).trans hx264_6; replace hx264_7 := (HB.out.cell (World.block_lt_of_cell? w _ hx264_7)).trans hx264_7; have HR264_5 := Aside0.mk hi264_5; have HC264_5 := Aside0.mk hl264_5; clear hi264_5 hl264_5; have HR264_6 := Aside0.mk hi264_6; have HC264_6 := Aside0.mk hl264_6; clear hi264_6 hl264_6; have HR264_7 := Aside0.mk hi264_7; have HC264_7 := Aside0.mk hl264_7; clear hi264_7 hl264_7; replace hx264_0 := (cell_far (p := ⟨gb263, 0, none⟩) (by first | (rw [add_block]; exact hn264_0) | (show (Addr.add _ _).block ≠ _; rw [add_block]; exact hn264_0) | exact hn264_0) (.int .i64 ((rd_T45 l0_6 x63_2).f0))).trans hx264_0; replace hx264_1 := (cell_far (p := ⟨gb263, 0, none⟩) (by first | (rw [add_block]; exact hn264_0) | (show (Addr.add _ _).block ≠ _; rw [add_block]; exact hn264_0) | exact hn264_0) (.int .i64 ((rd_T45 l0_6 x63_2).f0))).trans hx264_1; replace hx264_2 := (cell_far (p := ⟨gb263, 0, none⟩) (by first | (rw [add_block]; exact hn264_0) | (show (Addr.add _ _).block ≠ _; rw [add_block]; exact hn264_0) | exact hn264_0) (.int .i64 ((rd_T45 l0_6 x63_2).f0))).trans hx264_2; replace hx264_3 := (cell_far (p := ⟨gb263, 0, none⟩) (by first | (rw [add_block]; exact hn264_0) | (show (Addr.add _ _).block ≠ _; rw [add_block]; exact hn264_0) | exact hn264_0) (.int .i64 ((rd_T45 l0_6 x63_2).f0))).trans hx264_3; replace hx264_4 := (cell_far (p := ⟨gb263, 0, none⟩) (by first | (rw [add_block]; exact hn264_0) | (show (Addr.add _ _).block ≠ _; rw [add_block]; exact hn264_0) | exact hn264_0) (.int .i64 ((rd_T45 l0_6 x63_2).f0))).trans hx264_4; replace hx264_5 := (cell_far (p := ⟨gb263, 0, none⟩) (by first | (rw [add_block]; exact hn264_0) | (show (Addr.add _ _).block ≠ _; rw [add_block]; exact hn264_0) | exact hn264_0) (.int .i64 ((rd_T45 l0_6 x63_2).f0))).trans hx264_5; replace hx264_6 := (cell_far (p := ⟨gb263, 0, none⟩) (by first | (rw [add_block]; exact hn264_0) | (show (Addr.add _ _).block ≠ _; rw [add_block]; exact hn264_0) | exact hn264_0) (.int .i64 ((rd_T45 l0_6 x63_2).f0))).trans hx264_6; replace hx264_7 := (cell_far (p := ⟨gb263, 0, none⟩) (by first | (rw [add_block]; exact hn264_0) | (show (Addr.add _ _).block ≠ _; rw [add_block]; exact hn264_0) | exact hn264_0) (.int .i64 ((rd_T45 l0_6 x63_2).f0))).trans hx264_7; replace hx264_0 := (cell_far (p := ⟨gb263, 1, none⟩) (by first | (rw [add_block]; exact hn264_1) | (show (Addr.add _ _).block ≠ _; rw [add_block]; exact hn264_1) | exact hn264_1) (.int .i64 ((rd_T45 l0_6 x63_2).f1.f0))).trans hx264_0; replace hx264_1 := (cell_far (p := ⟨gb263, 1, none⟩) (by first | (rw [add_block]; exact hn264_1) | (show (Addr.add _ _).block ≠ _; rw [add_block]; exact hn264_1) | exact hn264_1) (.int .i64 ((rd_T45 l0_6 x63_2).f1.f0))).trans hx264_1; replace hx264_2 := (cell_far (p := ⟨gb263, 1, none⟩) (by first | (rw [add_block]; exact hn264_1) | (show (Addr.add _ _).block ≠ _; rw [add_block]; exact hn264_1) | exact hn264_1) (.int .i64 ((rd_T45 l0_6 x63_2).f1.f0))).trans hx264_2; replace hx264_3 := (cell_far (p := ⟨gb263, 1, none⟩) (by first | (rw [add_block]; exact hn264_1) | (show (Addr.add _ _).block ≠ _; rw [add_block]; exact hn264_1) | exact hn264_1) (.int .i64 ((rd_T45 l0_6 x63_2).f1.f0))).trans hx264_3; replace hx264_4 := (cell_far (p := ⟨gb263, 1, none⟩) (by first | (rw [add_block]; exact hn264_1) | (show (Addr.add _ _).block ≠ _; rw [add_block]; exact hn264_1) | exact hn264_1) (.int .i64 ((rd_T45 l0_6 x63_2).f1.f0))).trans hx264_4; replace hx264_5 := (cell_far (p := ⟨gb263, 1, none⟩) (by first | (rw [add_block]; exact hn264_1) | (show (Addr.add _ _).block ≠ _; rw [add_block]; exact hn264_1) | exact hn264_1) (.int .i64 ((rd_T45 l0_6 x63_2).f1.f0))).trans hx264_5; replace hx264_6 := (cell_far (p := ⟨gb263, 1, none⟩) (by first | (rw [add_block]; exact hn264_1) | (show (Addr.add _ _).block ≠ _; rw [add_block]; exact hn264_1) | exact hn264_1) (.int .i64 ((rd_T45 l0_6 x63_2).f1.f0))).trans hx264_6; replace hx264_7 := (cell_far (p := ⟨gb263, 1, none⟩) (by first | (rw [add_block]; exact hn264_1) | (show (Addr.add _ _).block ≠ _; rw [add_block]; exact hn264_1) | exact hn264_1) (.int .i64 ((rd_T45 l0_6 x63_2).f1.f0))).trans hx264_7; replace hx264_0 := (cell_far (p := ⟨gb263, 2, none⟩) (by first | (rw [add_block]; exact hn264_2) | (show (Addr.add _ _).block ≠ _; rw [add_block]; exact hn264_2) | exact hn264_2) (.int .i64 ((rd_T45 l0_6 x63_2).f1.f1))).trans hx264_0; replace hx264_1 := (cell_far (p := ⟨gb263, 2, none⟩) (by first | (rw [add_block]; exact hn264_2) | (show (Addr.add _ _).block ≠ _; rw [add_block]; exact hn264_2) | exact hn264_2) (.int .i64 ((rd_T45 l0_6 x63_2).f1.f1))).trans hx264_1; replace hx264_2 := (cell_far (p := ⟨gb263, 2, none⟩) (by first | (rw [add_block]; exact hn264_2) | (show (Addr.add _ _).block ≠ _; rw [add_block]; exact hn264_2) | exact hn264_2) (.int .i64 ((rd_T45 l0_6 x63_2).f1.f1))).trans hx264_2; replace hx264_3 := (cell_far (p := ⟨gb263, 2, none⟩) (by first | (rw [add_block]; exact hn264_2) | (show (Addr.add _ _).block ≠ _; rw [add_block]; exact hn264_2) | exact hn264_2) (.int .i64 ((rd_T45 l0_6 x63_2).f1.f1))).trans hx264_3; replace hx264_4 := (cell_far (p := ⟨gb263, 2, none⟩) (by first | (rw [add_block]; exact hn264_2) | (show (Addr.add _ _).block ≠ _; rw [add_block]; exact hn264_2) | exact hn264_2) (.int .i64 ((rd_T45 l0_6 x63_2).f1.f1))).trans hx264_4; replace hx264_5 := (cell_far (p := ⟨gb263, 2, none⟩) (by first | (rw [add_block]; exact hn264_2) | (show (Addr.add _ _).block ≠ _; rw [add_block]; exact hn264_2) | exact hn264_2) (.int .i64 ((rd_T45 l0_6 x63_2).f1.f1))).trans hx264_5; replace hx264_6 := (cell_far (p := ⟨gb263, 2, none⟩) (by first | (rw [add_block]; exact hn264_2) | (show (Addr.add _ _).block ≠ _; rw [add_block]; exact hn264_2) | exact hn264_2) (.int .i64 ((rd_T45 l0_6 x63_2).f1.f1))).trans hx264_6; replace hx264_7 := (cell_far (p := ⟨gb263, 2, none⟩) (by first | (rw [add_block]; exact hn264_2) | (show (Addr.add _ _).block ≠ _; rw [add_block]; exact hn264_2) | exact hn264_2) (.int .i64 ((rd_T45 l0_6 x63_2).f1.f1))).trans hx264_7; replace hx264_0 := (cell_far (p := ⟨gb263, 3, none⟩) (by first | (rw [add_block]; exact hn264_3) | (show (Addr.add _ _).block ≠ _; rw [add_block]; exact hn264_3) | exact hn264_3) (.int .i64 ((rd_T45 l0_6 x63_2).f2.f0))).trans hx264_0; replace hx264_1 := (cell_far (p := ⟨gb263, 3, none⟩) (by first | (rw [add_block]; exact hn264_3) | (show (Addr.add _ _).block ≠ _; rw [add_block]; exact hn264_3) | exact hn264_3) (.int .i64 ((rd_T45 l0_6 x63_2).f2.f0))).trans hx264_1; replace hx264_2 := (cell_far (p := ⟨gb263, 3, none⟩) (by first | (rw [add_block]; exact hn264_3) | (show (Addr.add _ _).block ≠ _; rw [add_block]; exact hn264_3) | exact hn264_3) (.int .i64 ((rd_T45 l0_6 x63_2).f2.f0))).trans hx264_2; replace hx264_3 := (cell_far (p := ⟨gb263, 3, none⟩) (by first | (rw [add_block]; exact hn264_3) | (show (Addr.add _ _).block ≠ _; rw [add_block]; exact hn264_3) | exact hn264_3) (.int .i64 ((rd_T45 l0_6 x63_2).f2.f0))).trans hx264_3; replace hx264_4 := (cell_far (p := ⟨gb263, 3, none⟩) (by first | (rw [add_block]; exact hn264_3) | (show (Addr.add _ _).block ≠ _; rw [add_block]; exact hn264_3) | exact hn264_3) (.int .i64 ((rd_T45 l0_6 x63_2).f2.f0))).trans hx264_4; replace hx264_5 := (cell_far (p := ⟨gb263, 3, none⟩) (by first | (rw [add_block]; exact hn264_3) | (show (Addr.add _ _).block ≠ _; rw [add_block]; exact hn264_3) | exact hn264_3) (.int .i64 ((rd_T45 l0_6 x63_2).f2.f0))).trans hx264_5; replace hx264_6 := (cell_far (p := ⟨gb263, 3, none⟩) (by first | (rw [add_block]; exact hn264_3) | (show (Addr.add _ _).block ≠ _; rw [add_block]; exact hn264_3) | exact hn264_3) (.int .i64 ((rd_T45 l0_6 x63_2).f2.f0))).trans hx264_6; replace hx264_7 := (cell_far (p := ⟨gb263, 3, none⟩) (by first | (rw [add_block]; exact hn264_3) | (show (Addr.add _ _).block ≠ _; rw [add_block]; exact hn264_3) | exact hn264_3) (.int .i64 ((rd_T45 l0_6 x63_2).f2.f0))).trans hx264_7; replace hx264_0 := (cell_far (p := ⟨gb263, 4, none⟩) (by first | (rw [add_block]; exact hn264_4) | (show (Addr.add _ _).block ≠ _; rw [add_block]; exact hn264_4) | exact hn264_4) (.int .i64 ((rd_T45 l0_6 x63_2).f2.f1))).trans hx264_0; replace hx264_1 := (cell_far (p := ⟨gb263, 4, none⟩) (by first | (rw [add_block]; exact hn264_4) | (show (Addr.add _ _).block ≠ _; rw [add_block]; exact hn264_4) | exact hn264_4) (.int .i64 ((rd_T45 l0_6 x63_2).f2.f1))).trans hx264_1; replace hx264_2 := (cell_far (p := ⟨gb263, 4, none⟩) (by first | (rw [add_block]; exact hn264_4) | (show (Addr.add _ _).block ≠ _; rw [add_block]; exact hn264_4) | exact hn264_4) (.int .i64 ((rd_T45 l0_6 x63_2).f2.f1))).trans hx264_2; replace hx264_3 := (cell_far (p := ⟨gb263, 4, none⟩) (by first | (rw [add_block]; exact hn264_4) | (show (Addr.add _ _).block ≠ _; rw [add_block]; exact hn264_4) | exact hn264_4) (.int .i64 ((rd_T45 l0_6 x63_2).f2.f1))).trans hx264_3; replace hx264_4 := (cell_far (p := ⟨gb263, 4, none⟩) (by first | (rw [add_block]; exact hn264_4) | (show (Addr.add _ _).block ≠ _; rw [add_block]; exact hn264_4) | exact hn264_4) (.int .i64 ((rd_T45 l0_6 x63_2).f2.f1))).trans hx264_4; replace hx264_5 := (cell_far (p := ⟨gb263, 4, none⟩) (by first | (rw [add_block]; exact hn264_4) | (show (Addr.add _ _).block ≠ _; rw [add_block]; exact hn264_4) | exact hn264_4) (.int .i64 ((rd_T45 l0_6 x63_2).f2.f1))).trans hx264_5; replace hx264_6 := (cell_far (p := ⟨gb263, 4, none⟩) (by first | (rw [add_block]; exact hn264_4) | (show (Addr.add _ _).block ≠ _; rw [add_block]; exact hn264_4) | exact hn264_4) (.int .i64 ((rd_T45 l0_6 x63_2).f2.f1))).trans hx264_6; replace hx264_7 := (cell_far (p := ⟨gb263, 4, none⟩) (by first | (rw [add_block]; exact hn264_4) | (show (Addr.add _ _).block ≠ _; rw [add_block]; exact hn264_4) | exact hn264_4) (.int .i64 ((rd_T45 l0_6 x63_2).f2.f1))).trans hx264_7; replace hx264_0 := (cell_far (p := ⟨gb263, 5, none⟩) (by first | (rw [add_block]; exact hn264_5) | (show (Addr.add _ _).block ≠ _; rw [add_block]; exact hn264_5) | exact hn264_5) (.slice A262_5 ((rd_T45 l0_6 x63_2).f2.f2).length c262_5)).trans hx264_0; replace hx264_1 := (cell_far (p := ⟨gb263, 5, none⟩) (by first | (rw [add_block]; exact hn264_5) | (show (Addr.add _ _).block ≠ _; rw [add_block]; exact hn264_5) | exact hn264_5) (.slice A262_5 ((rd_T45 l0_6 x63_2).f2.f2).length c262_5)).trans hx264_1; replace hx264_2 := (cell_far (p := ⟨gb263, 5, none⟩) (by first | (rw [add_block]; exact hn264_5) | (show (Addr.add _ _).block ≠ _; rw [add_block]; exact hn264_5) | exact hn264_5) (.slice A262_5 ((rd_T45 l0_6 x63_2).f2.f2).length c262_5)).trans hx264_2; replace hx264_3 := (cell_far (p := ⟨gb263, 5, none⟩) (by first | (rw [add_block]; exact hn264_5) | (show (Addr.add _ _).block ≠ _; rw [add_block]; exact hn264_5) | exact hn264_5) (.slice A262_5 ((rd_T45 l0_6 x63_2).f2.f2).length c262_5)).trans hx264_3; replace hx264_4 := (cell_far (p := ⟨gb263, 5, none⟩) (by first | (rw [add_block]; exact hn264_5) | (show (Addr.add _ _).block ≠ _; rw [add_block]; exact hn264_5) | exact hn264_5) (.slice A262_5 ((rd_T45 l0_6 x63_2).f2.f2).length c262_5)).trans hx264_4; replace hx264_5 := (cell_far (p := ⟨gb263, 5, none⟩) (by first | (rw [add_block]; exact hn264_5) | (show (Addr.add _ _).block ≠ _; rw [add_block]; exact hn264_5) | exact hn264_5) (.slice A262_5 ((rd_T45 l0_6 x63_2).f2.f2).length c262_5)).trans hx264_5; replace hx264_6 := (cell_far (p := ⟨gb263, 5, none⟩) (by first | (rw [add_block]; exact hn264_5) | (show (Addr.add _ _).block ≠ _; rw [add_block]; exact hn264_5) | exact hn264_5) (.slice A262_5 ((rd_T45 l0_6 x63_2).f2.f2).length c262_5)).trans hx264_6; replace hx264_7 := (cell_far (p := ⟨gb263, 5, none⟩) (by first | (rw [add_block]; exact hn264_5) | (show (Addr.add _ _).block ≠ _; rw [add_block]; exact hn264_5) | exact hn264_5) (.slice A262_5 ((rd_T45 l0_6 x63_2).f2.f2).length c262_5)).trans hx264_7; replace hx264_0 := (cell_far (p := ⟨gb263, 6, none⟩) (by first | (rw [add_block]; exact hn264_6) | (show (Addr.add _ _).block ≠ _; rw [add_block]; exact hn264_6) | exact hn264_6) (.slice A262_6 ((rd_T45 l0_6 x63_2).f2.f3).length c262_6)).trans hx264_0; replace hx264_1 := (cell_far (p := ⟨gb263, 6, none⟩) (by first | (rw [add_block]; exact hn264_6) | (show (Addr.add _ _).block ≠ _; rw [add_block]; exact hn264_6) | exact hn264_6) (.slice A262_6 ((rd_T45 l0_6 x63_2).f2.f3).length c262_6)).trans hx264_1; replace hx264_2 := (cell_far (p := ⟨gb263, 6, none⟩) (by first | (rw [add_block]; exact hn264_6) | (show (Addr.add _ _).block ≠ _; rw [add_block]; exact hn264_6) | exact hn264_6) (.slice A262_6 ((rd_T45 l0_6 x63_2).f2.f3).length c262_6)).trans hx264_2; replace hx264_3 := (cell_far (p := ⟨gb263, 6, none⟩) (by first | (rw [add_block]; exact hn264_6) | (show (Addr.add _ _).block ≠ _; rw [add_block]; exact hn264_6) | exact hn264_6) (.slice A262_6 ((rd_T45 l0_6 x63_2).f2.f3).length c262_6)).trans hx264_3; replace hx264_4 := (cell_far (p := ⟨gb263, 6, none⟩) (by first | (rw [add_block]; exact hn264_6) | (show (Addr.add _ _).block ≠ _; rw [add_block]; exact hn264_6) | exact hn264_6) (.slice A262_6 ((rd_T45 l0_6 x63_2).f2.f3).length c262_6)).trans hx264_4; replace hx264_5 := (cell_far (p := ⟨gb263, 6, none⟩) (by first | (rw [add_block]; exact hn264_6) | (show (Addr.add _ _).block ≠ _; rw [add_block]; exact hn264_6) | exact hn264_6) (.slice A262_6 ((rd_T45 l0_6 x63_2).f2.f3).length c262_6)).trans hx264_5; replace hx264_6 := (cell_far (p := ⟨gb263, 6, none⟩) (by first | (rw [add_block]; exact hn264_6) | (show (Addr.add _ _).block ≠ _; rw [add_block]; exact hn264_6) | exact hn264_6) (.slice A262_6 ((rd_T45 l0_6 x63_2).f2.f3).length c262_6)).trans hx264_6; replace hx264_7 := (cell_far (p := ⟨gb263, 6, none⟩) (by first | (rw [add_block]; exact hn264_6) | (show (Addr.add _ _).block ≠ _; rw [add_block]; exact hn264_6) | exact hn264_6) (.slice A262_6 ((rd_T45 l0_6 x63_2).f2.f3).length c262_6)).trans hx264_7; replace hx264_0 := (cell_far (p := ⟨gb263, 7, none⟩) (by first | (rw [add_block]; exact hn264_7) | (show (Addr.add _ _).block ≠ _; rw [add_block]; exact hn264_7) | exact hn264_7) (.slice A262_7 ((rd_T45 l0_6 x63_2).f3).length c262_7)).trans hx264_0; replace hx264_1 := (cell_far (p := ⟨gb263, 7, none⟩) (by first | (rw [add_block]; exact hn264_7) | (show (Addr.add _ _).block ≠ _; rw [add_block]; exact hn264_7) | exact hn264_7) (.slice A262_7 ((rd_T45 l0_6 x63_2).f3).length c262_7)).trans hx264_1; replace hx264_2 := (cell_far (p := ⟨gb263, 7, none⟩) (by first | (rw [add_block]; exact hn264_7) | (show (Addr.add _ _).block ≠ _; rw [add_block]; exact hn264_7) | exact hn264_7) (.slice A262_7 ((rd_T45 l0_6 x63_2).f3).length c262_7)).trans hx264_2; replace hx264_3 := (cell_far (p := ⟨gb263, 7, none⟩) (by first | (rw [add_block]; exact hn264_7) | (show (Addr.add _ _).block ≠ _; rw [add_block]; exact hn264_7) | exact hn264_7) (.slice A262_7 ((rd_T45 l0_6 x63_2).f3).length c262_7)).trans hx264_3; replace hx264_4 := (cell_far (p := ⟨gb263, 7, none⟩) (by first | (rw [add_block]; exact hn264_7) | (show (Addr.add _ _).block ≠ _; rw [add_block]; exact hn264_7) | exact hn264_7) (.slice A262_7 ((rd_T45 l0_6 x63_2).f3).length c262_7)).trans hx264_4; replace hx264_5 := (cell_far (p := ⟨gb263, 7, none⟩) (by first | (rw [add_block]; exact hn264_7) | (show (Addr.add _ _).block ≠ _; rw [add_block]; exact hn264_7) | exact hn264_7) (.slice A262_7 ((rd_T45 l0_6 x63_2).f3).length c262_7)).trans hx264_5; replace hx264_6 := (cell_far (p := ⟨gb263, 7, none⟩) (by first | (rw [add_block]; exact hn264_7) | (show (Addr.add _ _).block ≠ _; rw [add_block]; exact hn264_7) | exact hn264_7) (.slice A262_7 ((rd_T45 l0_6 x63_2).f3).length c262_7)).trans hx264_6; replace hx264_7 := (cell_far (p := ⟨gb263, 7, none⟩) (by first | (rw [add_block]; exact hn264_7) | (show (Addr.add _ _).block ≠ _; rw [add_block]; exact hn264_7) | exact hn264_7) (.slice A262_7 ((rd_T45 l0_6 x63_2).f3).length c262_7)).trans hx264_7; clear hn264_0; clear hn264_1; clear hn264_2; clear hn264_3; clear hn264_4; clear hn264_5; clear hn264_6; clear hn264_7; replace p264 := eq_true p264; replace q264 := eq_true q264) | ((with_reducible refine gate_dst (N := 7) rfl ?_); (try (refine gate_guard (by rfl) ?_; dsimp only)); refine box_event ?hg (N := 7) ?hd (cs := #[.int .i64 0, .int .i64 0, .int .i64 0, .int .i64 0, .int .i64 0, .slice none 0 0, .slice none 0 0, .slice none 0 0]) (t := 45) ?hr ?_; (case hd => rfl); (case hg => rfl); (case hr => first | (go_simp; done) | (go_simp; rfl)); intro gb265 hg w50 hbox hb; have n0_ := Aside0.mk (blk_below (g := gb257) (o := .cells #[.int .i64 a0_0, .int .i64 a0_1, .int .i64 a0_2, .int .i64 a0_3, .slice A0_4 l0_4.length c0_4, .slice A0_5 l0_5.length c0_5, .slice (some ad262) l0_6.length c0_6, .slice A0_7 l0_7.length c0_7] 30 (0, 0)) (by (with_reducible repeat (first | refine blk_drewN ?_ _ | refine blk_drew ?_ | refine blk_alloc ?_ _)); refine blk_far ?_ NB257_263.out _; (with_reducible repeat (first | refine blk_drewN ?_ _ | refine blk_drew ?_ | refine blk_alloc ?_ _)); refine blk_far ?_ NB257_263.out _; (with_reducible repeat (first | refine blk_drewN ?_ _ | refine blk_drew ?_ | refine blk_alloc ?_ _)); refine blk_far ?_ NB257_263.out _; (with_reducible repeat (first | refine blk_drewN ?_ _ | refine blk_drew ?_ | refine blk_alloc ?_ _)); refine blk_far ?_ NB257_263.out _; (with_reducible repeat (first | refine blk_drewN ?_ _ | refine blk_drew ?_ | refine blk_alloc ?_ _)); refine blk_far ?_ NB257_263.out _; (with_reducible repeat (first | refine blk_drewN ?_ _ | refine blk_drew ?_ | refine blk_alloc ?_ _)); refine blk_far ?_ NB257_263.out _; (with_reducible repeat (first | refine blk_drewN ?_ _ | refine blk_drew ?_ | refine blk_alloc ?_ _)); refine blk_far ?_ NB257_263.out _; (with_reducible repeat (first | refine blk_drewN ?_ _ | refine blk_drew ?_ | refine blk_alloc ?_ _)); refine blk_far ?_ NB257_263.out _; (with_reducible repeat (first | refine blk_drewN ?_ _ | refine blk_drew ?_ | refine blk_alloc ?_ _)); exact BK257.out) hb); have n1_ := Aside0.mk (blk_below (g := gb258) (o := .cells #[.int .i64 a1_0, .int .i64 a1_1, .int .i64 a1_2, .int .i64 a1_3, .slice A1_4 l1_4.length c1_4, .slice A1_5 l1_5.length c1_5, .slice (some ad264) l1_6.length c1_6, .slice A1_7 l1_7.length c1_7] 30 (0, 0)) (by (with_reducible repeat (first | refine blk_drewN ?_ _ | refine blk_drew ?_ | refine blk_alloc ?_ _)); refine blk_far ?_ NB258_263.out _; (with_reducible repeat (first | refine blk_drewN ?_ _ | refine blk_drew ?_ | refine blk_alloc ?_ _)); refine blk_far ?_ NB258_263.out _; (with_reducible repeat (first | refine blk_drewN ?_ _ | refine blk_drew ?_ | refine blk_alloc ?_ _)); refine blk_far ?_ NB258_263.out _; (with_reducible repeat (first | refine blk_drewN ?_ _ | refine blk_drew ?_ | refine blk_alloc ?_ _)); refine blk_far ?_ NB258_263.out _; (with_reducible repeat (first | refine blk_drewN ?_ _ | refine blk_drew ?_ | refine blk_alloc ?_ _)); refine blk_far ?_ NB258_263.out _; (with_reducible repeat (first | refine blk_drewN ?_ _ | refine blk_drew ?_ | refine blk_alloc ?_ _)); refine blk_far ?_ NB258_263.out _; (with_reducible repeat (first | refine blk_drewN ?_ _ | refine blk_drew ?_ | refine blk_alloc ?_ _)); refine blk_far ?_ NB258_263.out _; (with_reducible repeat (first | refine blk_drewN ?_ _ | refine blk_drew ?_ | refine blk_alloc ?_ _)); refine blk_far ?_ NB258_263.out _; (with_reducible repeat (first | refine blk_drewN ?_ _ | refine blk_drew ?_ | refine blk_alloc ?_ _)); exact BK258.out) hb); have n2_ := Aside0.mk (blk_below (g := gb263) (o := .cells #[.int .i64 ((rd_T45 l0_6 x63_2).f0), .int .i64 ((rd_T45 l0_6 x63_2).f1.f0), .int .i64 ((rd_T45 l0_6 x63_2).f1.f1), .int .i64 ((rd_T45 l0_6 x63_2).f2.f0), .int .i64 ((rd_T45 l0_6 x63_2).f2.f1), .slice A262_5 ((rd_T45 l0_6 x63_2).f2.f2).length c262_5, .slice A262_6 ((rd_T45 l0_6 x63_2).f2.f3).length c262_6, .slice A262_7 ((rd_T45 l0_6 x63_2).f3).length c262_7] 45 (0, 0)) (by (with_reducible repeat (first | refine blk_drewN ?_ _ | refine blk_drew ?_ | refine blk_alloc ?_ _)); refine blk_put (cs := #[.int .i64 ((rd_T45 l0_6 x63_2).f0), .int .i64 ((rd_T45 l0_6 x63_2).f1.f0), .int .i64 ((rd_T45 l0_6 x63_2).f1.f1), .int .i64 ((rd_T45 l0_6 x63_2).f2.f0), .int .i64 ((rd_T45 l0_6 x63_2).f2.f1), .slice A262_5 ((rd_T45 l0_6 x63_2).f2.f2).length c262_5, .slice A262_6 ((rd_T45 l0_6 x63_2).f2.f3).length c262_6, .slice none 0 0]) ?_ 7 _ rfl; (with_reducible repeat (first | refine blk_drewN ?_ _ | refine blk_drew ?_ | refine blk_alloc ?_ _)); refine blk_put (cs := #[.int .i64 ((rd_T45 l0_6 x63_2).f0), .int .i64 ((rd_T45 l0_6 x63_2).f1.f0), .int .i64 ((rd_T45 l0_6 x63_2).f1.f1), .int .i64 ((rd_T45 l0_6 x63_2).f2.f0), .int .i64 ((rd_T45 l0_6 x63_2).f2.f1), .slice A262_5 ((rd_T45 l0_6 x63_2).f2.f2).length c262_5, .slice none 0 0, .slice none 0 0]) ?_ 6 _ rfl; (with_reducible repeat (first | refine blk_drewN ?_ _ | refine blk_drew ?_ | refine blk_alloc ?_ _)); refine blk_put (cs := #[.int .i64 ((rd_T45 l0_6 x63_2).f0), .int .i64 ((rd_T45 l0_6 x63_2).f1.f0), .int .i64 ((rd_T45 l0_6 x63_2).f1.f1), .int .i64 ((rd_T45 l0_6 x63_2).f2.f0), .int .i64 ((rd_T45 l0_6 x63_2).f2.f1), .slice none 0 0, .slice none 0 0, .slice none 0 0]) ?_ 5 _ rfl; (with_reducible repeat (first | refine blk_drewN ?_ _ | refine blk_drew ?_ | refine blk_alloc ?_ _)); refine blk_put (cs := #[.int .i64 ((rd_T45 l0_6 x63_2).f0), .int .i64 ((rd_T45 l0_6 x63_2).f1.f0), .int .i64 ((rd_T45 l0_6 x63_2).f1.f1), .int .i64 ((rd_T45 l0_6 x63_2).f2.f0), .int .i64 0, .slice none 0 0, .slice none 0 0, .slice none 0 0]) ?_ 4 _ rfl; (with_reducible repeat (first | refine blk_drewN ?_ _ | refine blk_drew ?_ | refine blk_alloc ?_ _)); refine blk_put (cs := #[.int .i64 ((rd_T45 l0_6 x63_2).f0), .int .i64 ((rd_T45 l0_6 x63_2).f1.f0), .int .i64 ((rd_T45 l0_6 x63_2).f1.f1), .int .i64 0, .int .i64 0, .slice none 0 0, .slice none 0 0, .slice none 0 0]) ?_ 3 _ rfl; (with_reducible repeat (first | refine blk_drewN ?_ _ | refine blk_drew ?_ | refine blk_alloc ?_ _)); refine blk_put (cs := #[.int .i64 ((rd_T45 l0_6 x63_2).f0), .int .i64 ((rd_T45 l0_6 x63_2).f1.f0), .int .i64 0, .int .i64 0, .int .i64 0, .slice none 0 0, .slice none 0 0, .slice none 0 0]) ?_ 2 _ rfl; (with_reducible repeat (first | refine blk_drewN ?_ _ | refine blk_drew ?_ | refine blk_alloc ?_ _)); refine blk_put (cs := #[.int .i64 ((rd_T45 l0_6 x63_2).f0), .int .i64 0, .int .i64 0, .int .i64 0, .int .i64 0, .slice none 0 0, .slice none 0 0, .slice none 0 0]) ?_ 1 _ rfl; (with_reducible repeat (first | refine blk_drewN ?_ _ | refine blk_drew ?_ | refine blk_alloc ?_ _)); refine blk_put (cs := #[.int .i64 0, .int .i64 0, .int .i64 0, .int .i64 0, .int .i64 0, .slice none 0 0, .slice none 0 0, .slice none 0 0]) ?_ 0 _ rfl; (with_reducible repeat (first | refine blk_drewN ?_ _ | refine blk_drew ?_ | refine blk_alloc ?_ _)); exact BK263.out) hb); have n3_ := Aside0.mk (below_step (by repeat (first | (with_reducible first | exact HB.out | apply below_alloc | apply pw_below_drewN | apply below_drew1 | refine below_set ?_ GE257.out | refine below_set ?_ GE258.out | refine below_set ?_ GE263.out) | exact HB.out)) hb); have n4_ := Aside0.mk (hbox); have n5_ := Aside0.mk ((by rw [hg]; exact (below_size (by repeat (first | (with_reducible first | exact HB.out | apply below_alloc | apply pw_below_drewN | apply below_drew1 | refine below_set ?_ GE257.out | refine below_set ?_ GE258.out | refine below_set ?_ GE263.out) | exact HB.out))) : w.heap.size ≤ gb265)); have n6_ := Aside0.mk ((by rw [hg]; exact (below_size (by repeat (first | (with_reducible first | exact HB.out | apply below_alloc | apply pw_below_drewN | apply below_drew1 | refine below_set ?_ GE257.out | refine below_set ?_ GE258.out | refine below_set ?_ GE263.out) | exact HB.out))) : w.heap.size ≤ gb265)); have n7_ := Aside0.mk ((by rw [hg]; exact Nat.ne_of_lt (blk_lt (g := gb257) (o := .cells #[.int .i64 a0_0, .int .i64 a0_1, .int .i64 a0_2, .int .i64 a0_3, .slice A0_4 l0_4.length c0_4, .slice A0_5 l0_5.length c0_5, .slice (some ad262) l0_6.length c0_6, .slice A0_7 l0_7.length c0_7] 30 (0, 0)) (by (with_reducible repeat (first | refine blk_drewN ?_ _ | refine blk_drew ?_ | refine blk_alloc ?_ _)); refine blk_far ?_ NB257_263.out _; (with_reducible repeat (first | refine blk_drewN ?_ _ | refine blk_drew ?_ | refine blk_alloc ?_ _)); refine blk_far ?_ NB257_263.out _; (with_reducible repeat (first | refine blk_drewN ?_ _ | refine blk_drew ?_ | refine blk_alloc ?_ _)); refine blk_far ?_ NB257_263.out _; (with_reducible repeat (first | refine blk_drewN ?_ _ | refine blk_drew ?_ | refine blk_alloc ?_ _)); refine blk_far ?_ NB257_263.out _; (with_reducible repeat (first | refine blk_drewN ?_ _ | refine blk_drew ?_ | refine blk_alloc ?_ _)); refine blk_far ?_ NB257_263.out _; (with_reducible repeat (first | refine blk_drewN ?_ _ | refine blk_drew ?_ | refine blk_alloc ?_ _)); refine blk_far ?_ NB257_263.out _; (with_reducible repeat (first | refine blk_drewN ?_ _ | refine blk_drew ?_ | refine blk_alloc ?_ _)); refine blk_far ?_ NB257_263.out _; (with_reducible repeat (first | refine blk_drewN ?_ _ | refine blk_drew ?_ | refine blk_alloc ?_ _)); refine blk_far ?_ NB257_263.out _; (with_reducible repeat (first | refine blk_drewN ?_ _ | refine blk_drew ?_ | refine blk_alloc ?_ _)); exact BK257.out)) : gb257 ≠ gb265)); have n8_ := Aside0.mk ((by rw [hg]; exact Nat.ne_of_gt (blk_lt (g := gb257) (o := .cells #[.int .i64 a0_0, .int .i64 a0_1, .int .i64 a0_2, .int .i64 a0_3, .slice A0_4 l0_4.length c0_4, .slice A0_5 l0_5.length c0_5, .slice (some ad262) l0_6.length c0_6, .slice A0_7 l0_7.length c0_7] 30 (0, 0)) (by (with_reducible repeat (first | refine blk_drewN ?_ _ | refine blk_drew ?_ | refine blk_alloc ?_ _)); refine blk_far ?_ NB257_263.out _; (with_reducible repeat (first | refine blk_drewN ?_ _ | refine blk_drew ?_ | refine blk_alloc ?_ _)); refine blk_far ?_ NB257_263.out _; (with_reducible repeat (first | refine blk_drewN ?_ _ | refine blk_drew ?_ | refine blk_alloc ?_ _)); refine blk_far ?_ NB257_263.out _; (with_reducible repeat (first | refine blk_drewN ?_ _ | refine blk_drew ?_ | refine blk_alloc ?_ _)); refine blk_far ?_ NB257_263.out _; (with_reducible repeat (first | refine blk_drewN ?_ _ | refine blk_drew ?_ | refine blk_alloc ?_ _)); refine blk_far ?_ NB257_263.out _; (with_reducible repeat (first | refine blk_drewN ?_ _ | refine blk_drew ?_ | refine blk_alloc ?_ _)); refine blk_far ?_ NB257_263.out _; (with_reducible repeat (first | refine blk_drewN ?_ _ | refine blk_drew ?_ | refine blk_alloc ?_ _)); refine blk_far ?_ NB257_263.out _; (with_reducible repeat (first | refine blk_drewN ?_ _ | refine blk_drew ?_ | refine blk_alloc ?_ _)); refine blk_far ?_ NB257_263.out _; (with_reducible repeat (first | refine blk_drewN ?_ _ | refine blk_drew ?_ | refine blk_alloc ?_ _)); exact BK257.out)) : gb265 ≠ gb257)); have n9_ := Aside0.mk ((by rw [hg]; exact Nat.ne_of_lt (blk_lt (g := gb258) (o := .cells #[.int .i64 a1_0, .int .i64 a1_1, .int .i64 a1_2, .int .i64 a1_3, .slice A1_4 l1_4.length c1_4, .slice A1_5 l1_5.length c1_5, .slice (some ad264) l1_6.length c1_6, .slice A1_7 l1_7.length c1_7] 30 (0, 0)) (by (with_reducible repeat (first | refine blk_drewN ?_ _ | refine blk_drew ?_ | refine blk_alloc ?_ _)); refine blk_far ?_ NB258_263.out _; (with_reducible repeat (first | refine blk_drewN ?_ _ | refine blk_drew ?_ | refine blk_alloc ?_ _)); refine blk_far ?_ NB258_263.out _; (with_reducible repeat (first | refine blk_drewN ?_ _ | refine blk_drew ?_ | refine blk_alloc ?_ _)); refine blk_far ?_ NB258_263.out _; (with_reducible repeat (first | refine blk_drewN ?_ _ | refine blk_drew ?_ | refine blk_alloc ?_ _)); refine blk_far ?_ NB258_263.out _; (with_reducible repeat (first | refine blk_drewN ?_ _ | refine blk_drew ?_ | refine blk_alloc ?_ _)); refine blk_far ?_ NB258_263.out _; (with_reducible repeat (first | refine blk_drewN ?_ _ | refine blk_drew ?_ | refine blk_alloc ?_ _)); refine blk_far ?_ NB258_263.out _; (with_reducible repeat (first | refine blk_drewN ?_ _ | refine blk_drew ?_ | refine blk_alloc ?_ _)); refine blk_far ?_ NB258_263.out _; (with_reducible repeat (first | refine blk_drewN ?_ _ | refine blk_drew ?_ | refine blk_alloc ?_ _)); refine blk_far ?_ NB258_263.out _; (with_reducible repeat (first | refine blk_drewN ?_ _ | refine blk_drew ?_ | refine blk_alloc ?_ _)); exact BK258.out)) : gb258 ≠ gb265)); have n10_ := Aside0.mk ((by rw [hg]; exact Nat.ne_of_gt (blk_lt (g := gb258) (o := .cells #[.int .i64 a1_0, .int .i64 a1_1, .int .i64 a1_2, .int .i64 a1_3, .slice A1_4 l1_4.length c1_4, .slice A1_5 l1_5.length c1_5, .slice (some ad264) l1_6.length c1_6, .slice A1_7 l1_7.length c1_7] 30 (0, 0)) (by (with_reducible repeat (first | refine blk_drewN ?_ _ | refine blk_drew ?_ | refine blk_alloc ?_ _)); refine blk_far ?_ NB258_263.out _; (with_reducible repeat (first | refine blk_drewN ?_ _ | refine blk_drew ?_ | refine blk_alloc ?_ _)); refine blk_far ?_ NB258_263.out _; (with_reducible repeat (first | refine blk_drewN ?_ _ | refine blk_drew ?_ | refine blk_alloc ?_ _)); refine blk_far ?_ NB258_263.out _; (with_reducible repeat (first | refine blk_drewN ?_ _ | refine blk_drew ?_ | refine blk_alloc ?_ _)); refine blk_far ?_ NB258_263.out _; (with_reducible repeat (first | refine blk_drewN ?_ _ | refine blk_drew ?_ | refine blk_alloc ?_ _)); refine blk_far ?_ NB258_263.out _; (with_reducible repeat (first | refine blk_drewN ?_ _ | refine blk_drew ?_ | refine blk_alloc ?_ _)); refine blk_far ?_ NB258_263.out _; (with_reducible repeat (first | refine blk_drewN ?_ _ | refine blk_drew ?_ | refine blk_alloc ?_ _)); refine blk_far ?_ NB258_263.out _; (with_reducible repeat (first | refine blk_drewN ?_ _ | refine blk_drew ?_ | refine blk_alloc ?_ _)); refine blk_far ?_ NB258_263.out _; (with_reducible repeat (first | refine blk_drewN ?_ _ | refine blk_drew ?_ | refine blk_alloc ?_ _)); exact BK258.out)) : gb265 ≠ gb258)); have n11_ := Aside0.mk ((by rw [hg]; exact Nat.ne_of_lt (blk_lt (g := gb263) (o := .cells #[.int .i64 ((rd_T45 l0_6 x63_2).f0), .int .i64 ((rd_T45 l0_6 x63_2).f1.f0), .int .i64 ((rd_T45 l0_6 x63_2).f1.f1), .int .i64 ((rd_T45 l0_6 x63_2).f2.f0), .int .i64 ((rd_T45 l0_6 x63_2).f2.f1), .slice A262_5 ((rd_T45 l0_6 x63_2).f2.f2).length c262_5, .slice A262_6 ((rd_T45 l0_6 x63_2).f2.f3).length c262_6, .slice A262_7 ((rd_T45 l0_6 x63_2).f3).length c262_7] 45 (0, 0)) (by (with_reducible repeat (first | refine blk_drewN ?_ _ | refine blk_drew ?_ | refine blk_alloc ?_ _)); refine blk_put (cs := #[.int .i64 ((rd_T45 l0_6 x63_2).f0), .int .i64 ((rd_T45 l0_6 x63_2).f1.f0), .int .i64 ((rd_T45 l0_6 x63_2).f1.f1), .int .i64 ((rd_T45 l0_6 x63_2).f2.f0), .int .i64 ((rd_T45 l0_6 x63_2).f2.f1), .slice A262_5 ((rd_T45 l0_6 x63_2).f2.f2).length c262_5, .slice A262_6 ((rd_T45 l0_6 x63_2).f2.f3).length c262_6, .slice none 0 0]) ?_ 7 _ rfl; (with_reducible repeat (first | refine blk_drewN ?_ _ | refine blk_drew ?_ | refine blk_alloc ?_ _)); refine blk_put (cs := #[.int .i64 ((rd_T45 l0_6 x63_2).f0), .int .i64 ((rd_T45 l0_6 x63_2).f1.f0), .int .i64 ((rd_T45 l0_6 x63_2).f1.f1), .int .i64 ((rd_T45 l0_6 x63_2).f2.f0), .int .i64 ((rd_T45 l0_6 x63_2).f2.f1), .slice A262_5 ((rd_T45 l0_6 x63_2).f2.f2).length c262_5, .slice none 0 0, .slice none 0 0]) ?_ 6 _ rfl; (with_reducible repeat (first | refine blk_drewN ?_ _ | refine blk_drew ?_ | refine blk_alloc ?_ _)); refine blk_put (cs := #[.int .i64 ((rd_T45 l0_6 x63_2).f0), .int .i64 ((rd_T45 l0_6 x63_2).f1.f0), .int .i64 ((rd_T45 l0_6 x63_2).f1.f1), .int .i64 ((rd_T45 l0_6 x63_2).f2.f0), .int .i64 ((rd_T45 l0_6 x63_2).f2.f1), .slice none 0 0, .slice none 0 0, .slice none 0 0]) ?_ 5 _ rfl; (with_reducible repeat (first | refine blk_drewN ?_ _ | refine blk_drew ?_ | refine blk_alloc ?_ _)); refine blk_put (cs := #[.int .i64 ((rd_T45 l0_6 x63_2).f0), .int .i64 ((rd_T45 l0_6 x63_2).f1.f0), .int .i64 ((rd_T45 l0_6 x63_2).f1.f1), .int .i64 ((rd_T45 l0_6 x63_2).f2.f0), .int .i64 0, .slice none 0 0, .slice none 0 0, .slice none 0 0]) ?_ 4 _ rfl; (with_reducible repeat (first | refine blk_drewN ?_ _ | refine blk_drew ?_ | refine blk_alloc ?_ _)); refine blk_put (cs := #[.int .i64 ((rd_T45 l0_6 x63_2).f0), .int .i64 ((rd_T45 l0_6 x63_2).f1.f0), .int .i64 ((rd_T45 l0_6 x63_2).f1.f1), .int .i64 0, .int .i64 0, .slice none 0 0, .slice none 0 0, .slice none 0 0]) ?_ 3 _ rfl; (with_reducible repeat (first | refine blk_drewN ?_ _ | refine blk_drew ?_ | refine blk_alloc ?_ _)); refine blk_put (cs := #[.int .i64 ((rd_T45 l0_6 x63_2).f0), .int .i64 ((rd_T45 l0_6 x63_2).f1.f0), .int .i64 0, .int .i64 0, .int .i64 0, .slice none 0 0, .slice none 0 0, .slice none 0 0]) ?_ 2 _ rfl; (with_reducible repeat (first | refine blk_drewN ?_ _ | refine blk_drew ?_ | refine blk_alloc ?_ _)); refine blk_put (cs := #[.int .i64 ((rd_T45 l0_6 x63_2).f0), .int .i64 0, .int .i64 0, .int .i64 0, .int .i64 0, .slice none 0 0, .slice none 0 0, .slice none 0 0]) ?_ 1 _ rfl; (with_reducible repeat (first | refine blk_drewN ?_ _ | refine blk_drew ?_ | refine blk_alloc ?_ _)); refine blk_put (cs := #[.int .i64 0, .int .i64 0, .int .i64 0, .int .i64 0, .int .i64 0, .slice none 0 0, .slice none 0 0, .slice none 0 0]) ?_ 0 _ rfl; (with_reducible repeat (first | refine blk_drewN ?_ _ | refine blk_drew ?_ | refine blk_alloc ?_ _)); exact BK263.out)) : gb263 ≠ gb265)); have n12_ := Aside0.mk ((by rw [hg]; exact Nat.ne_of_gt (blk_lt (g := gb263) (o := .cells #[.int .i64 ((rd_T45 l0_6 x63_2).f0), .int .i64 ((rd_T45 l0_6 x63_2).f1.f0), .int .i64 ((rd_T45 l0_6 x63_2).f1.f1), .int .i64 ((rd_T45 l0_6 x63_2).f2.f0), .int .i64 ((rd_T45 l0_6 x63_2).f2.f1), .slice A262_5 ((rd_T45 l0_6 x63_2).f2.f2).length c262_5, .slice A262_6 ((rd_T45 l0_6 x63_2).f2.f3).length c262_6, .slice A262_7 ((rd_T45 l0_6 x63_2).f3).length c262_7] 45 (0, 0)) (by (with_reducible repeat (first | refine blk_drewN ?_ _ | refine blk_drew ?_ | refine blk_alloc ?_ _)); refine blk_put (cs := #[.int .i64 ((rd_T45 l0_6 x63_2).f0), .int .i64 ((rd_T45 l0_6 x63_2).f1.f0), .int .i64 ((rd_T45 l0_6 x63_2).f1.f1), .int .i64 ((rd_T45 l0_6 x63_2).f2.f0), .int .i64 ((rd_T45 l0_6 x63_2).f2.f1), .slice A262_5 ((rd_T45 l0_6 x63_2).f2.f2).length c262_5, .slice A262_6 ((rd_T45 l0_6 x63_2).f2.f3).length c262_6, .slice none 0 0]) ?_ 7 _ rfl; (with_reducible repeat (first | refine blk_drewN ?_ _ | refine blk_drew ?_ | refine blk_alloc ?_ _)); refine blk_put (cs := #[.int .i64 ((rd_T45 l0_6 x63_2).f0), .int .i64 ((rd_T45 l0_6 x63_2).f1.f0), .int .i64 ((rd_T45 l0_6 x63_2).f1.f1), .int .i64 ((rd_T45 l0_6 x63_2).f2.f0), .int .i64 ((rd_T45 l0_6 x63_2).f2.f1), .slice A262_5 ((rd_T45 l0_6 x63_2).f2.f2).length c262_5, .slice none 0 0, .slice none 0 0]) ?_ 6 _ rfl; (with_reducible repeat (first | refine blk_drewN ?_ _ | refine blk_drew ?_ | refine blk_alloc ?_ _)); refine blk_put (cs := #[.int .i64 ((rd_T45 l0_6 x63_2).f0), .int .i64 ((rd_T45 l0_6 x63_2).f1.f0), .int .i64 ((rd_T45 l0_6 x63_2).f1.f1), .int .i64 ((rd_T45 l0_6 x63_2).f2.f0), .int .i64 ((rd_T45 l0_6 x63_2).f2.f1), .slice none 0 0, .slice none 0 0, .slice none 0 0]) ?_ 5 _ rfl; (with_reducible repeat (first | refine blk_drewN ?_ _ | refine blk_drew ?_ | refine blk_alloc ?_ _)); refine blk_put (cs := #[.int .i64 ((rd_T45 l0_6 x63_2).f0), .int .i64 ((rd_T45 l0_6 x63_2).f1.f0), .int .i64 ((rd_T45 l0_6 x63_2).f1.f1), .int .i64 ((rd_T45 l0_6 x63_2).f2.f0), .int .i64 0, .slice none 0 0, .slice none 0 0, .slice none 0 0]) ?_ 4 _ rfl; (with_reducible repeat (first | refine blk_drewN ?_ _ | refine blk_drew ?_ | refine blk_alloc ?_ _)); refine blk_put (cs := #[.int .i64 ((rd_T45 l0_6 x63_2).f0), .int .i64 ((rd_T45 l0_6 x63_2).f1.f0), .int .i64 ((rd_T45 l0_6 x63_2).f1.f1), .int .i64 0, .int .i64 0, .slice none 0 0, .slice none 0 0, .slice none 0 0]) ?_ 3 _ rfl; (with_reducible repeat (first | refine blk_drewN ?_ _ | refine blk_drew ?_ | refine blk_alloc ?_ _)); refine blk_put (cs := #[.int .i64 ((rd_T45 l0_6 x63_2).f0), .int .i64 ((rd_T45 l0_6 x63_2).f1.f0), .int .i64 0, .int .i64 0, .int .i64 0, .slice none 0 0, .slice none 0 0, .slice none 0 0]) ?_ 2 _ rfl; (with_reducible repeat (first | refine blk_drewN ?_ _ | refine blk_drew ?_ | refine blk_alloc ?_ _)); refine blk_put (cs := #[.int .i64 ((rd_T45 l0_6 x63_2).f0), .int .i64 0, .int .i64 0, .int .i64 0, .int .i64 0, .slice none 0 0, .slice none 0 0, .slice none 0 0]) ?_ 1 _ rfl; (with_reducible repeat (first | refine blk_drewN ?_ _ | refine blk_drew ?_ | refine blk_alloc ?_ _)); refine blk_put (cs := #[.int .i64 0, .int .i64 0, .int .i64 0, .int .i64 0, .int .i64 0, .slice none 0 0, .slice none 0 0, .slice none 0 0]) ?_ 0 _ rfl; (with_reducible repeat (first | refine blk_drewN ?_ _ | refine blk_drew ?_ | refine blk_alloc ?_ _)); exact BK263.out)) : gb265 ≠ gb263)); clear BK257; clear BK258; clear BK263; clear HB; have BK257 := n0_; have BK258 := n1_; have BK263 := n2_; have HB := n3_; have BK265 := n4_; have GW265 := n5_; have GE265 := n6_; have NB257_265 := n7_; have NB265_257 := n8_; have NB258_265 := n9_; have NB265_258 := n10_; have NB263_265 := n11_; have NB265_263 := n12_; clear n0_ n1_ n2_ n3_ n4_ n5_ n6_ n7_ n8_ n9_ n10_ n11_ n12_; clear hb hbox hg; have hnb51 := NB265_257.out; have hnc51 := NB257_265.out; have hnb52 := NB265_258.out; have hnc52 := NB258_265.out; have hnb53 := NB265_263.out; have hnc53 := NB263_265.out; have hcz54_0 : w50.cell? ⟨gb265, 0, none⟩ = some (.int .i64 0) := (blk_cell BK265.out 0).trans rfl; have hcz54_1 : w50.cell? ⟨gb265, 1, none⟩ = some (.int .i64 0) := (blk_cell BK265.out 1).trans rfl; have hcz54_2 : w50.cell? ⟨gb265, 2, none⟩ = some (.int .i64 0) := (blk_cell BK265.out 2).trans rfl; have hcz54_3 : w50.cell? ⟨gb265, 3, none⟩ = some (.int .i64 0) := (blk_cell BK265.out 3).trans rfl; have hcz54_4 : w50.cell? ⟨gb265, 4, none⟩ = some (.int .i64 0) := (blk_cell BK265.out 4).trans rfl; have hcz54_5 : w50.cell? ⟨gb265, 5, none⟩ = some (.slice none 0 0) := (blk_cell BK265.out 5).trans rfl; have hcz54_6 : w50.cell? ⟨gb265, 6, none⟩ = some (.slice none 0 0) := (blk_cell BK265.out 6).trans rfl; have hcz54_7 : w50.cell? ⟨gb265, 7, none⟩ = some (.slice none 0 0) := (blk_cell BK265.out 7).trans rfl; have hfz54_0 := blk_frozen BK265.out 0; have hfz54_1 := blk_frozen BK265.out 1; have hfz54_2 := blk_frozen BK265.out 2; have hfz54_3 := blk_frozen BK265.out 3; have hfz54_4 := blk_frozen BK265.out 4; have hfz54_5 := blk_frozen BK265.out 5; have hfz54_6 := blk_frozen BK265.out 6; have hfz54_7 := blk_frozen BK265.out 7))
          (try simp only [Act.put, List.setIfInBounds_toArray, List.set_cons_zero, List.set_cons_succ])
          go_cut [100] (fun v100 wc => ∃ (kq : Nat) (x100_42 : Bool), v100 = .bool x100_42 ∧ Aside0 (catenaryref05_SameReport.j2 kq l0_6 (l0_6.length : Int) x63_2 x100_42 a1_0 a1_1 a1_2 a1_3 l1_4 l1_5 l1_6 l1_7 = some r) ∧ Aside0 (kq ≤ k2) ∧ Aside0 (wc.heap[gb257]? = some (.cells #[.int .i64 a0_0, .int .i64 a0_1, .int .i64 a0_2, .int .i64 a0_3, (.slice A0_4 l0_4.length c0_4), (.slice A0_5 l0_5.length c0_5), (.slice (some ad262) l0_6.length c0_6), (.slice A0_7 l0_7.length c0_7)] 30 (0, 0))) ∧ Aside0 (wc.heap[gb258]? = some (.cells #[.int .i64 a1_0, .int .i64 a1_1, .int .i64 a1_2, .int .i64 a1_3, (.slice A1_4 l1_4.length c1_4), (.slice A1_5 l1_5.length c1_5), (.slice (some ad264) l1_6.length c1_6), (.slice A1_7 l1_7.length c1_7)] 30 (0, 0))) ∧ Aside0 (wc.heap[gb263]? = some (.cells #[.int .i64 ((rd_T45 l0_6 x63_2).f0), .int .i64 ((rd_T45 l0_6 x63_2).f1.f0), .int .i64 ((rd_T45 l0_6 x63_2).f1.f1), .int .i64 ((rd_T45 l0_6 x63_2).f2.f0), .int .i64 ((rd_T45 l0_6 x63_2).f2.f1), (.slice A262_5 ((rd_T45 l0_6 x63_2).f2.f2).length c262_5), (.slice A262_6 ((rd_T45 l0_6 x63_2).f2.f3).length c262_6), (.slice A262_7 ((rd_T45 l0_6 x63_2).f3).length c262_7)] 45 (0, 0))) ∧ Aside0 (wc.heap[gb265]? = some (.cells #[.int .i64 ((rd_T45 l1_6 x63_2).f0), .int .i64 ((rd_T45 l1_6 x63_2).f1.f0), .int .i64 ((rd_T45 l1_6 x63_2).f1.f1), .int .i64 ((rd_T45 l1_6 x63_2).f2.f0), .int .i64 ((rd_T45 l1_6 x63_2).f2.f1), (.slice A264_5 ((rd_T45 l1_6 x63_2).f2.f2).length c264_5), (.slice A264_6 ((rd_T45 l1_6 x63_2).f2.f3).length c264_6), (.slice A264_7 ((rd_T45 l1_6 x63_2).f3).length c264_7)] 45 (0, 0))) ∧ Aside0 (Below w.heap.size w wc))
          case first =>
           have H := HC43.out; clear HC43
           by_cases c55 : ((rd_T45 l0_6 x63_2).f0) = ((rd_T45 l1_6 x63_2).f0)
           ·rw [if_pos c55] at H
            have c55b0 : (((rd_T45 l0_6 x63_2).f0) == ((rd_T45 l1_6 x63_2).f0)) = true := beq_iff_eq.mpr c55; have c55b1 : (((rd_T45 l0_6 x63_2).f0) != ((rd_T45 l1_6 x63_2).f0)) = false := bne_eq_false_iff_eq.mpr c55; clear c55
            (first | rw [c55b0] | (simp only [i64_w, i32_w]; rw [c55b0]) | skip)
            by_cases c56 : (!(((rd_T45 l0_6 x63_2).f1.f0) == ((rd_T45 l1_6 x63_2).f1.f0)) || (!(((rd_T45 l0_6 x63_2).f1.f1) == ((rd_T45 l1_6 x63_2).f1.f1)))) = true
            ·rw [if_pos c56] at H
             have c56b0 : (!(((rd_T45 l0_6 x63_2).f1.f0) == ((rd_T45 l1_6 x63_2).f1.f0)) || (!(((rd_T45 l0_6 x63_2).f1.f1) == ((rd_T45 l1_6 x63_2).f1.f1)))) = true := c56; clear c56; have H' := Aside0.mk H; clear H; have hnb57 := NB263_257.out; have hnc57 := NB257_263.out; have hnb58 := NB263_258.out; have hnc58 := NB258_263.out; have hnb59 := NB263_265.out; have hnc59 := NB265_263.out; have hcz60_0 : w50.cell? ⟨gb263, 0, none⟩ = some (.int .i64 ((rd_T45 l0_6 x63_2).f0)) := (blk_cell BK263.out 0).trans rfl; have hcz60_1 : w50.cell? ⟨gb263, 1, none⟩ = some (.int .i64 ((rd_T45 l0_6 x63_2).f1.f0)) := (blk_cell BK263.out 1).trans rfl; have hcz60_2 : w50.cell? ⟨gb263, 2, none⟩ = some (.int .i64 ((rd_T45 l0_6 x63_2).f1.f1)) := (blk_cell BK263.out 2).trans rfl; have hcz60_3 : w50.cell? ⟨gb263, 3, none⟩ = some (.int .i64 ((rd_T45 l0_6 x63_2).f2.f0)) := (blk_cell BK263.out 3).trans rfl; have hcz60_4 : w50.cell? ⟨gb263, 4, none⟩ = some (.int .i64 ((rd_T45 l0_6 x63_2).f2.f1)) := (blk_cell BK263.out 4).trans rfl; have hcz60_5 : w50.cell? ⟨gb263, 5, none⟩ = some (.slice A262_5 ((rd_T45 l0_6 x63_2).f2.f2).length c262_5) := (blk_cell BK263.out 5).trans rfl; have hcz60_6 : w50.cell? ⟨gb263, 6, none⟩ = some (.slice A262_6 ((rd_T45 l0_6 x63_2).f2.f3).length c262_6) := (blk_cell BK263.out 6).trans rfl; have hcz60_7 : w50.cell? ⟨gb263, 7, none⟩ = some (.slice A262_7 ((rd_T45 l0_6 x63_2).f3).length c262_7) := (blk_cell BK263.out 7).trans rfl; have hfz60_0 := blk_frozen BK263.out 0; have hfz60_1 := blk_frozen BK263.out 1; have hfz60_2 := blk_frozen BK263.out 2; have hfz60_3 := blk_frozen BK263.out 3; have hfz60_4 := blk_frozen BK263.out 4; have hfz60_5 := blk_frozen BK263.out 5; have hfz60_6 := blk_frozen BK263.out 6; have hfz60_7 := blk_frozen BK263.out 7; have hnb61 := NB265_257.out; have hnc61 := NB257_265.out; have hnb62 := NB265_258.out; have hnc62 := NB258_265.out; have hcz63_0 : w50.cell? ⟨gb265, 0, none⟩ = some (.int .i64 0) := (blk_cell BK265.out 0).trans rfl; have hcz63_1 : w50.cell? ⟨gb265, 1, none⟩ = some (.int .i64 0) := (blk_cell BK265.out 1).trans rfl; have hcz63_2 : w50.cell? ⟨gb265, 2, none⟩ = some (.int .i64 0) := (blk_cell BK265.out 2).trans rfl; have hcz63_3 : w50.cell? ⟨gb265, 3, none⟩ = some (.int .i64 0) := (blk_cell BK265.out 3).trans rfl; have hcz63_4 : w50.cell? ⟨gb265, 4, none⟩ = some (.int .i64 0) := (blk_cell BK265.out 4).trans rfl; have hcz63_5 : w50.cell? ⟨gb265, 5, none⟩ = some (.slice none 0 0) := (blk_cell BK265.out 5).trans rfl; have hcz63_6 : w50.cell? ⟨gb265, 6, none⟩ = some (.slice none 0 0) := (blk_cell BK265.out 6).trans rfl; have hcz63_7 : w50.cell? ⟨gb265, 7, none⟩ = some (.slice none 0 0) := (blk_cell BK265.out 7).trans rfl; have hfz63_0 := blk_frozen BK265.out 0; have hfz63_1 := blk_frozen BK265.out 1; have hfz63_2 := blk_frozen BK265.out 2; have hfz63_3 := blk_frozen BK265.out 3; have hfz63_4 := blk_frozen BK265.out 4; have hfz63_5 := blk_frozen BK265.out 5; have hfz63_6 := blk_frozen BK265.out 6; have hfz63_7 := blk_frozen BK265.out 7
             go_wp2
             go_meet
             case rel => exact ⟨_, (true), (by first | rfl | (simp; done) | (simp [*]; done)), H', ⟨by have := HJ2.out; have := HK2.out; first | omega | exact Nat.le_refl _⟩, ⟨by (with_reducible repeat (first | refine blk_drewN ?_ _ | refine blk_drew ?_ | refine blk_alloc ?_ _)); refine blk_far ?_ NB257_265.out _; (with_reducible repeat (first | refine blk_drewN ?_ _ | refine blk_drew ?_ | refine blk_alloc ?_ _)); refine blk_far ?_ NB257_265.out _; (with_reducible repeat (first | refine blk_drewN ?_ _ | refine blk_drew ?_ | refine blk_alloc ?_ _)); refine blk_far ?_ NB257_265.out _; (with_reducible repeat (first | refine blk_drewN ?_ _ | refine blk_drew ?_ | refine blk_alloc ?_ _)); refine blk_far ?_ NB257_265.out _; (with_reducible repeat (first | refine blk_drewN ?_ _ | refine blk_drew ?_ | refine blk_alloc ?_ _)); refine blk_far ?_ NB257_265.out _; (with_reducible repeat (first | refine blk_drewN ?_ _ | refine blk_drew ?_ | refine blk_alloc ?_ _)); refine blk_far ?_ NB257_265.out _; (with_reducible repeat (first | refine blk_drewN ?_ _ | refine blk_drew ?_ | refine blk_alloc ?_ _)); refine blk_far ?_ NB257_265.out _; (with_reducible repeat (first | refine blk_drewN ?_ _ | refine blk_drew ?_ | refine blk_alloc ?_ _)); refine blk_far ?_ NB257_265.out _; (with_reducible repeat (first | refine blk_drewN ?_ _ | refine blk_drew ?_ | refine blk_alloc ?_ _)); exact BK257.out⟩, ⟨by (with_reducible repeat (first | refine blk_drewN ?_ _ | refine blk_drew ?_ | refine blk_alloc ?_ _)); refine blk_far ?_ NB258_265.out _; (with_reducible repeat (first | refine blk_drewN ?_ _ | refine blk_drew ?_ | refine blk_alloc ?_ _)); refine blk_far ?_ NB258_265.out _; (with_reducible repeat (first | refine blk_drewN ?_ _ | refine blk_drew ?_ | refine blk_alloc ?_ _)); refine blk_far ?_ NB258_265.out _; (with_reducible repeat (first | refine blk_drewN ?_ _ | refine blk_drew ?_ | refine blk_alloc ?_ _)); refine blk_far ?_ NB258_265.out _; (with_reducible repeat (first | refine blk_drewN ?_ _ | refine blk_drew ?_ | refine blk_alloc ?_ _)); refine blk_far ?_ NB258_265.out _; (with_reducible repeat (first | refine blk_drewN ?_ _ | refine blk_drew ?_ | refine blk_alloc ?_ _)); refine blk_far ?_ NB258_265.out _; (with_reducible repeat (first | refine blk_drewN ?_ _ | refine blk_drew ?_ | refine blk_alloc ?_ _)); refine blk_far ?_ NB258_265.out _; (with_reducible repeat (first | refine blk_drewN ?_ _ | refine blk_drew ?_ | refine blk_alloc ?_ _)); refine blk_far ?_ NB258_265.out _; (with_reducible repeat (first | refine blk_drewN ?_ _ | refine blk_drew ?_ | refine blk_alloc ?_ _)); exact BK258.out⟩, ⟨by (with_reducible repeat (first | refine blk_drewN ?_ _ | refine blk_drew ?_ | refine blk_alloc ?_ _)); refine blk_far ?_ NB263_265.out _; (with_reducible repeat (first | refine blk_drewN ?_ _ | refine blk_drew ?_ | refine blk_alloc ?_ _)); refine blk_far ?_ NB263_265.out _; (with_reducible repeat (first | refine blk_drewN ?_ _ | refine blk_drew ?_ | refine blk_alloc ?_ _)); refine blk_far ?_ NB263_265.out _; (with_reducible repeat (first | refine blk_drewN ?_ _ | refine blk_drew ?_ | refine blk_alloc ?_ _)); refine blk_far ?_ NB263_265.out _; (with_reducible repeat (first | refine blk_drewN ?_ _ | refine blk_drew ?_ | refine blk_alloc ?_ _)); refine blk_far ?_ NB263_265.out _; (with_reducible repeat (first | refine blk_drewN ?_ _ | refine blk_drew ?_ | refine blk_alloc ?_ _)); refine blk_far ?_ NB263_265.out _; (with_reducible repeat (first | refine blk_drewN ?_ _ | refine blk_drew ?_ | refine blk_alloc ?_ _)); refine blk_far ?_ NB263_265.out _; (with_reducible repeat (first | refine blk_drewN ?_ _ | refine blk_drew ?_ | refine blk_alloc ?_ _)); refine blk_far ?_ NB263_265.out _; (with_reducible repeat (first | refine blk_drewN ?_ _ | refine blk_drew ?_ | refine blk_alloc ?_ _)); exact BK263.out⟩, ⟨by (with_reducible repeat (first | refine blk_drewN ?_ _ | refine blk_drew ?_ | refine blk_alloc ?_ _)); refine blk_put (cs := #[.int .i64 ((rd_T45 l1_6 x63_2).f0), .int .i64 ((rd_T45 l1_6 x63_2).f1.f0), .int .i64 ((rd_T45 l1_6 x63_2).f1.f1), .int .i64 ((rd_T45 l1_6 x63_2).f2.f0), .int .i64 ((rd_T45 l1_6 x63_2).f2.f1), .slice A264_5 ((rd_T45 l1_6 x63_2).f2.f2).length c264_5, .slice A264_6 ((rd_T45 l1_6 x63_2).f2.f3).length c264_6, .slice none 0 0]) ?_ 7 _ rfl; (with_reducible repeat (first | refine blk_drewN ?_ _ | refine blk_drew ?_ | refine blk_alloc ?_ _)); refine blk_put (cs := #[.int .i64 ((rd_T45 l1_6 x63_2).f0), .int .i64 ((rd_T45 l1_6 x63_2).f1.f0), .int .i64 ((rd_T45 l1_6 x63_2).f1.f1), .int .i64 ((rd_T45 l1_6 x63_2).f2.f0), .int .i64 ((rd_T45 l1_6 x63_2).f2.f1), .slice A264_5 ((rd_T45 l1_6 x63_2).f2.f2).length c264_5, .slice none 0 0, .slice none 0 0]) ?_ 6 _ rfl; (with_reducible repeat (first | refine blk_drewN ?_ _ | refine blk_drew ?_ | refine blk_alloc ?_ _)); refine blk_put (cs := #[.int .i64 ((rd_T45 l1_6 x63_2).f0), .int .i64 ((rd_T45 l1_6 x63_2).f1.f0), .int .i64 ((rd_T45 l1_6 x63_2).f1.f1), .int .i64 ((rd_T45 l1_6 x63_2).f2.f0), .int .i64 ((rd_T45 l1_6 x63_2).f2.f1), .slice none 0 0, .slice none 0 0, .slice none 0 0]) ?_ 5 _ rfl; (with_reducible repeat (first | refine blk_drewN ?_ _ | refine blk_drew ?_ | refine blk_alloc ?_ _)); refine blk_put (cs := #[.int .i64 ((rd_T45 l1_6 x63_2).f0), .int .i64 ((rd_T45 l1_6 x63_2).f1.f0), .int .i64 ((rd_T45 l1_6 x63_2).f1.f1), .int .i64 ((rd_T45 l1_6 x63_2).f2.f0), .int .i64 0, .slice none 0 0, .slice none 0 0, .slice none 0 0]) ?_ 4 _ rfl; (with_reducible repeat (first | refine blk_drewN ?_ _ | refine blk_drew ?_ | refine blk_alloc ?_ _)); refine blk_put (cs := #[.int .i64 ((rd_T45 l1_6 x63_2).f0), .int .i64 ((rd_T45 l1_6 x63_2).f1.f0), .int .i64 ((rd_T45 l1_6 x63_2).f1.f1), .int .i64 0, .int .i64 0, .slice none 0 0, .slice none 0 0, .slice none 0 0]) ?_ 3 _ rfl; (with_reducible repeat (first | refine blk_drewN ?_ _ | refine blk_drew ?_ | refine blk_alloc ?_ _)); refine blk_put (cs := #[.int .i64 ((rd_T45 l1_6 x63_2).f0), .int .i64 ((rd_T45 l1_6 x63_2).f1.f0), .int .i64 0, .int .i64 0, .int .i64 0, .slice none 0 0, .slice none 0 0, .slice none 0 0]) ?_ 2 _ rfl; (with_reducible repeat (first | refine blk_drewN ?_ _ | refine blk_drew ?_ | refine blk_alloc ?_ _)); refine blk_put (cs := #[.int .i64 ((rd_T45 l1_6 x63_2).f0), .int .i64 0, .int .i64 0, .int .i64 0, .int .i64 0, .slice none 0 0, .slice none 0 0, .slice none 0 0]) ?_ 1 _ rfl; (with_reducible repeat (first | refine blk_drewN ?_ _ | refine blk_drew ?_ | refine blk_alloc ?_ _)); refine blk_put (cs := #[.int .i64 0, .int .i64 0, .int .i64 0, .int .i64 0, .int .i64 0, .slice none 0 0, .slice none 0 0, .slice none 0 0]) ?_ 0 _ rfl; (with_reducible repeat (first | refine blk_drewN ?_ _ | refine blk_drew ?_ | refine blk_alloc ?_ _)); exact BK265.out⟩, ⟨by repeat (first | (with_reducible first | exact HB.out | apply below_alloc | apply pw_below_drewN | apply below_drew1 | refine below_set ?_ GE257.out | refine below_set ?_ GE258.out | refine below_set ?_ GE263.out | refine below_set ?_ GE265.out) | exact HB.out)⟩⟩
            ·rw [if_neg c56] at H
             have c56b0 : (!(((rd_T45 l0_6 x63_2).f1.f0) == ((rd_T45 l1_6 x63_2).f1.f0)) || (!(((rd_T45 l0_6 x63_2).f1.f1) == ((rd_T45 l1_6 x63_2).f1.f1)))) = false := by simpa using c56
             clear c56; replace H := Option.bind_eq_some_iff.mp H; obtain ⟨t266, A640, H⟩ := H; replace H : (if t266 = true then ((catenaryref05_SameVotes.f k2 ((rd_T45 l0_6 x63_2).f3) ((rd_T45 l1_6 x63_2).f3)).bind fun t267 => (catenaryref05_SameReport.j2 k2 l0_6 (l0_6.length : Int) x63_2 (!t267) a1_0 a1_1 a1_2 a1_3 l1_4 l1_5 l1_6 l1_7)) else (catenaryref05_SameReport.j2 k2 l0_6 (l0_6.length : Int) x63_2 true a1_0 a1_1 a1_2 a1_3 l1_4 l1_5 l1_6 l1_7)) = some r := H; have A64 := Aside0.mk A640; clear A640
             by_cases c65 : t266 = true
             ·subst c65
              have H1 : ((catenaryref05_SameVotes.f k2 ((rd_T45 l0_6 x63_2).f3) ((rd_T45 l1_6 x63_2).f3)).bind fun t267 => (catenaryref05_SameReport.j2 k2 l0_6 (l0_6.length : Int) x63_2 (!t267) a1_0 a1_1 a1_2 a1_3 l1_4 l1_5 l1_6 l1_7)) = some r := by rw [if_pos rfl] at H; exact H
              clear H; have H := H1; clear H1; replace H := Option.bind_eq_some_iff.mp H; obtain ⟨t267, A660, H⟩ := H; replace H : (catenaryref05_SameReport.j2 k2 l0_6 (l0_6.length : Int) x63_2 (!t267) a1_0 a1_1 a1_2 a1_3 l1_4 l1_5 l1_6 l1_7) = some r := H; have A66 := Aside0.mk A660; clear A660; have H' := Aside0.mk H; clear H; have hnb67 := NB263_257.out; have hnc67 := NB257_263.out; have hnb68 := NB263_258.out; have hnc68 := NB258_263.out; have hnb69 := NB263_265.out; have hnc69 := NB265_263.out; have hcz70_0 : w50.cell? ⟨gb263, 0, none⟩ = some (.int .i64 ((rd_T45 l0_6 x63_2).f0)) := (blk_cell BK263.out 0).trans rfl; have hcz70_1 : w50.cell? ⟨gb263, 1, none⟩ = some (.int .i64 ((rd_T45 l0_6 x63_2).f1.f0)) := (blk_cell BK263.out 1).trans rfl; have hcz70_2 : w50.cell? ⟨gb263, 2, none⟩ = some (.int .i64 ((rd_T45 l0_6 x63_2).f1.f1)) := (blk_cell BK263.out 2).trans rfl; have hcz70_3 : w50.cell? ⟨gb263, 3, none⟩ = some (.int .i64 ((rd_T45 l0_6 x63_2).f2.f0)) := (blk_cell BK263.out 3).trans rfl; have hcz70_4 : w50.cell? ⟨gb263, 4, none⟩ = some (.int .i64 ((rd_T45 l0_6 x63_2).f2.f1)) := (blk_cell BK263.out 4).trans rfl; have hcz70_5 : w50.cell? ⟨gb263, 5, none⟩ = some (.slice A262_5 ((rd_T45 l0_6 x63_2).f2.f2).length c262_5) := (blk_cell BK263.out 5).trans rfl; have hcz70_6 : w50.cell? ⟨gb263, 6, none⟩ = some (.slice A262_6 ((rd_T45 l0_6 x63_2).f2.f3).length c262_6) := (blk_cell BK263.out 6).trans rfl; have hcz70_7 : w50.cell? ⟨gb263, 7, none⟩ = some (.slice A262_7 ((rd_T45 l0_6 x63_2).f3).length c262_7) := (blk_cell BK263.out 7).trans rfl; have hfz70_0 := blk_frozen BK263.out 0; have hfz70_1 := blk_frozen BK263.out 1; have hfz70_2 := blk_frozen BK263.out 2; have hfz70_3 := blk_frozen BK263.out 3; have hfz70_4 := blk_frozen BK263.out 4; have hfz70_5 := blk_frozen BK263.out 5; have hfz70_6 := blk_frozen BK263.out 6; have hfz70_7 := blk_frozen BK263.out 7; have hnb71 := NB265_257.out; have hnc71 := NB257_265.out; have hnb72 := NB265_258.out; have hnc72 := NB258_265.out; have hcz73_0 : w50.cell? ⟨gb265, 0, none⟩ = some (.int .i64 0) := (blk_cell BK265.out 0).trans rfl; have hcz73_1 : w50.cell? ⟨gb265, 1, none⟩ = some (.int .i64 0) := (blk_cell BK265.out 1).trans rfl; have hcz73_2 : w50.cell? ⟨gb265, 2, none⟩ = some (.int .i64 0) := (blk_cell BK265.out 2).trans rfl; have hcz73_3 : w50.cell? ⟨gb265, 3, none⟩ = some (.int .i64 0) := (blk_cell BK265.out 3).trans rfl; have hcz73_4 : w50.cell? ⟨gb265, 4, none⟩ = some (.int .i64 0) := (blk_cell BK265.out 4).trans rfl; have hcz73_5 : w50.cell? ⟨gb265, 5, none⟩ = some (.slice none 0 0) := (blk_cell BK265.out 5).trans rfl; have hcz73_6 : w50.cell? ⟨gb265, 6, none⟩ = some (.slice none 0 0) := (blk_cell BK265.out 6).trans rfl; have hcz73_7 : w50.cell? ⟨gb265, 7, none⟩ = some (.slice none 0 0) := (blk_cell BK265.out 7).trans rfl; have hfz73_0 := blk_frozen BK265.out 0; have hfz73_1 := blk_frozen BK265.out 1; have hfz73_2 := blk_frozen BK265.out 2; have hfz73_3 := blk_frozen BK265.out 3; have hfz73_4 := blk_frozen BK265.out 4; have hfz73_5 := blk_frozen BK265.out 5; have hfz73_6 := blk_frozen BK265.out 6; have hfz73_7 := blk_frozen BK265.out 7
              go_wp2_with (first | (go_at_call 11; (with_reducible refine (catenaryref05_SameReq.calls ((rd_T45 l0_6 x63_2).f2.f0) ((rd_T45 l0_6 x63_2).f2.f1) _ _ ((rd_T45 l0_6 x63_2).f2.f2) _ _ ((rd_T45 l0_6 x63_2).f2.f3) ((rd_T45 l1_6 x63_2).f2.f0) ((rd_T45 l1_6 x63_2).f2.f1) _ _ ((rd_T45 l1_6 x63_2).f2.f2) _ _ ((rd_T45 l1_6 x63_2).f2.f3) true _ ?side1 ?side2 ?side3 ?side4 ?side5 ?side6 ?side7 ?side8 A64.out).mono ?_); (case side1 => exact Kd.C_below HR262_5.out (by repeat (first | (with_reducible first | exact HB.out | apply below_alloc | apply pw_below_drewN | apply below_drew1 | refine below_set ?_ GE257.out | refine below_set ?_ GE258.out | refine below_set ?_ GE263.out | refine below_set ?_ GE265.out) | exact HB.out))); (case side2 => exact HC262_5.out); (case side3 => exact Kd.C_below HR262_6.out (by repeat (first | (with_reducible first | exact HB.out | apply below_alloc | apply pw_below_drewN | apply below_drew1 | refine below_set ?_ GE257.out | refine below_set ?_ GE258.out | refine below_set ?_ GE263.out | refine below_set ?_ GE265.out) | exact HB.out))); (case side4 => exact HC262_6.out); (case side5 => exact Kd.C_below HR264_5.out (by repeat (first | (with_reducible first | exact HB.out | apply below_alloc | apply pw_below_drewN | apply below_drew1 | refine below_set ?_ GE257.out | refine below_set ?_ GE258.out | refine below_set ?_ GE263.out | refine below_set ?_ GE265.out) | exact HB.out))); (case side6 => exact HC264_5.out); (case side7 => exact Kd.C_below HR264_6.out (by repeat (first | (with_reducible first | exact HB.out | apply below_alloc | apply pw_below_drewN | apply below_drew1 | refine below_set ?_ GE257.out | refine below_set ?_ GE258.out | refine below_set ?_ GE263.out | refine below_set ?_ GE265.out) | exact HB.out))); (case side8 => exact HC264_6.out); rintro e w74 ⟨rfl, hb⟩; have n0_ := Aside0.mk (blk_below (g := gb257) (o := .cells #[.int .i64 a0_0, .int .i64 a0_1, .int .i64 a0_2, .int .i64 a0_3, .slice A0_4 l0_4.length c0_4, .slice A0_5 l0_5.length c0_5, .slice (some ad262) l0_6.length c0_6, .slice A0_7 l0_7.length c0_7] 30 (0, 0)) (by (with_reducible repeat (first | refine blk_drewN ?_ _ | refine blk_drew ?_ | refine blk_alloc ?_ _)); refine blk_far ?_ NB257_265.out _; (with_reducible repeat (first | refine blk_drewN ?_ _ | refine blk_drew ?_ | refine blk_alloc ?_ _)); refine blk_far ?_ NB257_265.out _; (with_reducible repeat (first | refine blk_drewN ?_ _ | refine blk_drew ?_ | refine blk_alloc ?_ _)); refine blk_far ?_ NB257_265.out _; (with_reducible repeat (first | refine blk_drewN ?_ _ | refine blk_drew ?_ | refine blk_alloc ?_ _)); refine blk_far ?_ NB257_265.out _; (with_reducible repeat (first | refine blk_drewN ?_ _ | refine blk_drew ?_ | refine blk_alloc ?_ _)); refine blk_far ?_ NB257_265.out _; (with_reducible repeat (first | refine blk_drewN ?_ _ | refine blk_drew ?_ | refine blk_alloc ?_ _)); refine blk_far ?_ NB257_265.out _; (with_reducible repeat (first | refine blk_drewN ?_ _ | refine blk_drew ?_ | refine blk_alloc ?_ _)); refine blk_far ?_ NB257_265.out _; (with_reducible repeat (first | refine blk_drewN ?_ _ | refine blk_drew ?_ | refine blk_alloc ?_ _)); refine blk_far ?_ NB257_265.out _; (with_reducible repeat (first | refine blk_drewN ?_ _ | refine blk_drew ?_ | refine blk_alloc ?_ _)); exact BK257.out) hb); have n1_ := Aside0.mk (blk_below (g := gb258) (o := .cells #[.int .i64 a1_0, .int .i64 a1_1, .int .i64 a1_2, .int .i64 a1_3, .slice A1_4 l1_4.length c1_4, .slice A1_5 l1_5.length c1_5, .slice (some ad264) l1_6.length c1_6, .slice A1_7 l1_7.length c1_7] 30 (0, 0)) (by (with_reducible repeat (first | refine blk_drewN ?_ _ | refine blk_drew ?_ | refine blk_alloc ?_ _)); refine blk_far ?_ NB258_265.out _; (with_reducible repeat (first | refine blk_drewN ?_ _ | refine blk_drew ?_ | refine blk_alloc ?_ _)); refine blk_far ?_ NB258_265.out _; (with_reducible repeat (first | refine blk_drewN ?_ _ | refine blk_drew ?_ | refine blk_alloc ?_ _)); refine blk_far ?_ NB258_265.out _; (with_reducible repeat (first | refine blk_drewN ?_ _ | refine blk_drew ?_ | refine blk_alloc ?_ _)); refine blk_far ?_ NB258_265.out _; (with_reducible repeat (first | refine blk_drewN ?_ _ | refine blk_drew ?_ | refine blk_alloc ?_ _)); refine blk_far ?_ NB258_265.out _; (with_reducible repeat (first | refine blk_drewN ?_ _ | refine blk_drew ?_ | refine blk_alloc ?_ _)); refine blk_far ?_ NB258_265.out _; (with_reducible repeat (first | refine blk_drewN ?_ _ | refine blk_drew ?_ | refine blk_alloc ?_ _)); refine blk_far ?_ NB258_265.out _; (with_reducible repeat (first | refine blk_drewN ?_ _ | refine blk_drew ?_ | refine blk_alloc ?_ _)); refine blk_far ?_ NB258_265.out _; (with_reducible repeat (first | refine blk_drewN ?_ _ | refine blk_drew ?_ | refine blk_alloc ?_ _)); exact BK258.out) hb); have n2_ := Aside0.mk (blk_below (g := gb263) (o := .cells #[.int .i64 ((rd_T45 l0_6 x63_2).f0), .int .i64 ((rd_T45 l0_6 x63_2).f1.f0), .int .i64 ((rd_T45 l0_6 x63_2).f1.f1), .int .i64 ((rd_T45 l0_6 x63_2).f2.f0), .int .i64 ((rd_T45 l0_6 x63_2).f2.f1), .slice A262_5 ((rd_T45 l0_6 x63_2).f2.f2).length c262_5, .slice A262_6 ((rd_T45 l0_6 x63_2).f2.f3).length c262_6, .slice A262_7 ((rd_T45 l0_6 x63_2).f3).length c262_7] 45 (0, 0)) (by (with_reducible repeat (first | refine blk_drewN ?_ _ | refine blk_drew ?_ | refine blk_alloc ?_ _)); refine blk_far ?_ NB263_265.out _; (with_reducible repeat (first | refine blk_drewN ?_ _ | refine blk_drew ?_ | refine blk_alloc ?_ _)); refine blk_far ?_ NB263_265.out _; (with_reducible repeat (first | refine blk_drewN ?_ _ | refine blk_drew ?_ | refine blk_alloc ?_ _)); refine blk_far ?_ NB263_265.out _; (with_reducible repeat (first | refine blk_drewN ?_ _ | refine blk_drew ?_ | refine blk_alloc ?_ _)); refine blk_far ?_ NB263_265.out _; (with_reducible repeat (first | refine blk_drewN ?_ _ | refine blk_drew ?_ | refine blk_alloc ?_ _)); refine blk_far ?_ NB263_265.out _; (with_reducible repeat (first | refine blk_drewN ?_ _ | refine blk_drew ?_ | refine blk_alloc ?_ _)); refine blk_far ?_ NB263_265.out _; (with_reducible repeat (first | refine blk_drewN ?_ _ | refine blk_drew ?_ | refine blk_alloc ?_ _)); refine blk_far ?_ NB263_265.out _; (with_reducible repeat (first | refine blk_drewN ?_ _ | refine blk_drew ?_ | refine blk_alloc ?_ _)); refine blk_far ?_ NB263_265.out _; (with_reducible repeat (first | refine blk_drewN ?_ _ | refine blk_drew ?_ | refine blk_alloc ?_ _)); exact BK263.out) hb); have n3_ := Aside0.mk (blk_below (g := gb265) (o := .cells #[.int .i64 ((rd_T45 l1_6 x63_2).f0), .int .i64 ((rd_T45 l1_6 x63_2).f1.f0), .int .i64 ((rd_T45 l1_6 x63_2).f1.f1), .int .i64 ((rd_T45 l1_6 x63_2).f2.f0), .int .i64 ((rd_T45 l1_6 x63_2).f2.f1), .slice A264_5 ((rd_T45 l1_6 x63_2).f2.f2).length c264_5, .slice A264_6 ((rd_T45 l1_6 x63_2).f2.f3).length c264_6, .slice A264_7 ((rd_T45 l1_6 x63_2).f3).length c264_7] 45 (0, 0)) (by (with_reducible repeat (first | refine blk_drewN ?_ _ | refine blk_drew ?_ | refine blk_alloc ?_ _)); refine blk_put (cs := #[.int .i64 ((rd_T45 l1_6 x63_2).f0), .int .i64 ((rd_T45 l1_6 x63_2).f1.f0), .int .i64 ((rd_T45 l1_6 x63_2).f1.f1), .int .i64 ((rd_T45 l1_6 x63_2).f2.f0), .int .i64 ((rd_T45 l1_6 x63_2).f2.f1), .slice A264_5 ((rd_T45 l1_6 x63_2).f2.f2).length c264_5, .slice A264_6 ((rd_T45 l1_6 x63_2).f2.f3).length c264_6, .slice none 0 0]) ?_ 7 _ rfl; (with_reducible repeat (first | refine blk_drewN ?_ _ | refine blk_drew ?_ | refine blk_alloc ?_ _)); refine blk_put (cs := #[.int .i64 ((rd_T45 l1_6 x63_2).f0), .int .i64 ((rd_T45 l1_6 x63_2).f1.f0), .int .i64 ((rd_T45 l1_6 x63_2).f1.f1), .int .i64 ((rd_T45 l1_6 x63_2).f2.f0), .int .i64 ((rd_T45 l1_6 x63_2).f2.f1), .slice A264_5 ((rd_T45 l1_6 x63_2).f2.f2).length c264_5, .slice none 0 0, .slice none 0 0]) ?_ 6 _ rfl; (with_reducible repeat (first | refine blk_drewN ?_ _ | refine blk_drew ?_ | refine blk_alloc ?_ _)); refine blk_put (cs := #[.int .i64 ((rd_T45 l1_6 x63_2).f0), .int .i64 ((rd_T45 l1_6 x63_2).f1.f0), .int .i64 ((rd_T45 l1_6 x63_2).f1.f1), .int .i64 ((rd_T45 l1_6 x63_2).f2.f0), .int .i64 ((rd_T45 l1_6 x63_2).f2.f1), .slice none 0 0, .slice none 0 0, .slice none 0 0]) ?_ 5 _ rfl; (with_reducible repeat (first | refine blk_drewN ?_ _ | refine blk_drew ?_ | refine blk_alloc ?_ _)); refine blk_put (cs := #[.int .i64 ((rd_T45 l1_6 x63_2).f0), .int .i64 ((rd_T45 l1_6 x63_2).f1.f0), .int .i64 ((rd_T45 l1_6 x63_2).f1.f1), .int .i64 ((rd_T45 l1_6 x63_2).f2.f0), .int .i64 0, .slice none 0 0, .slice none 0 0, .slice none 0 0]) ?_ 4 _ rfl; (with_reducible repeat (first | refine blk_drewN ?_ _ | refine blk_drew ?_ | refine blk_alloc ?_ _)); refine blk_put (cs := #[.int .i64 ((rd_T45 l1_6 x63_2).f0), .int .i64 ((rd_T45 l1_6 x63_2).f1.f0), .int .i64 ((rd_T45 l1_6 x63_2).f1.f1), .int .i64 0, .int .i64 0, .slice none 0 0, .slice none 0 0, .slice none 0 0]) ?_ 3 _ rfl; (with_reducible repeat (first | refine blk_drewN ?_ _ | refine blk_drew ?_ | refine blk_alloc ?_ _)); refine blk_put (cs := #[.int .i64 ((rd_T45 l1_6 x63_2).f0), .int .i64 ((rd_T45 l1_6 x63_2).f1.f0), .int .i64 0, .int .i64 0, .int .i64 0, .slice none 0 0, .slice none 0 0, .slice none 0 0]) ?_ 2 _ rfl; (with_reducible repeat (first | refine blk_drewN ?_ _ | refine blk_drew ?_ | refine blk_alloc ?_ _)); refine blk_put (cs := #[.int .i64 ((rd_T45 l1_6 x63_2).f0), .int .i64 0, .int .i64 0, .int .i64 0, .int .i64 0, .slice none 0 0, .slice none 0 0, .slice none 0 0]) ?_ 1 _ rfl; (with_reducible repeat (first | refine blk_drewN ?_ _ | refine blk_drew ?_ | refine blk_alloc ?_ _)); refine blk_put (cs := #[.int .i64 0, .int .i64 0, .int .i64 0, .int .i64 0, .int .i64 0, .slice none 0 0, .slice none 0 0, .slice none 0 0]) ?_ 0 _ rfl; (with_reducible repeat (first | refine blk_drewN ?_ _ | refine blk_drew ?_ | refine blk_alloc ?_ _)); exact BK265.out) hb); have n4_ := Aside0.mk (below_step (by repeat (first | (with_reducible first | exact HB.out | apply below_alloc | apply pw_below_drewN | apply below_drew1 | refine below_set ?_ GE257.out | refine below_set ?_ GE258.out | refine below_set ?_ GE263.out | refine below_set ?_ GE265.out) | exact HB.out)) hb); clear BK257; clear BK258; clear BK263; clear BK265; clear HB; have BK257 := n0_; have BK258 := n1_; have BK263 := n2_; have BK265 := n3_; have HB := n4_; clear n0_ n1_ n2_ n3_ n4_; (try clear hb); (try clear hb2); (try clear hk); (try clear hi); have hcz75_0 : w74.cell? ⟨gb263, 0, none⟩ = some (.int .i64 ((rd_T45 l0_6 x63_2).f0)) := (blk_cell BK263.out 0).trans rfl; have hcz75_1 : w74.cell? ⟨gb263, 1, none⟩ = some (.int .i64 ((rd_T45 l0_6 x63_2).f1.f0)) := (blk_cell BK263.out 1).trans rfl; have hcz75_2 : w74.cell? ⟨gb263, 2, none⟩ = some (.int .i64 ((rd_T45 l0_6 x63_2).f1.f1)) := (blk_cell BK263.out 2).trans rfl; have hcz75_3 : w74.cell? ⟨gb263, 3, none⟩ = some (.int .i64 ((rd_T45 l0_6 x63_2).f2.f0)) := (blk_cell BK263.out 3).trans rfl; have hcz75_4 : w74.cell? ⟨gb263, 4, none⟩ = some (.int .i64 ((rd_T45 l0_6 x63_2).f2.f1)) := (blk_cell BK263.out 4).trans rfl; have hcz75_5 : w74.cell? ⟨gb263, 5, none⟩ = some (.slice A262_5 ((rd_T45 l0_6 x63_2).f2.f2).length c262_5) := (blk_cell BK263.out 5).trans rfl; have hcz75_6 : w74.cell? ⟨gb263, 6, none⟩ = some (.slice A262_6 ((rd_T45 l0_6 x63_2).f2.f3).length c262_6) := (blk_cell BK263.out 6).trans rfl; have hcz75_7 : w74.cell? ⟨gb263, 7, none⟩ = some (.slice A262_7 ((rd_T45 l0_6 x63_2).f3).length c262_7) := (blk_cell BK263.out 7).trans rfl; have hfz75_0 := blk_frozen BK263.out 0; have hfz75_1 := blk_frozen BK263.out 1; have hfz75_2 := blk_frozen BK263.out 2; have hfz75_3 := blk_frozen BK263.out 3; have hfz75_4 := blk_frozen BK263.out 4; have hfz75_5 := blk_frozen BK263.out 5; have hfz75_6 := blk_frozen BK263.out 6; have hfz75_7 := blk_frozen BK263.out 7; have hcz76_0 : w74.cell? ⟨gb265, 0, none⟩ = some (.int .i64 ((rd_T45 l1_6 x63_2).f0)) := (blk_cell BK265.out 0).trans rfl; have hcz76_1 : w74.cell? ⟨gb265, 1, none⟩ = some (.int .i64 ((rd_T45 l1_6 x63_2).f1.f0)) := (blk_cell BK265.out 1).trans rfl; have hcz76_2 : w74.cell? ⟨gb265, 2, none⟩ = some (.int .i64 ((rd_T45 l1_6 x63_2).f1.f1)) := (blk_cell BK265.out 2).trans rfl; have hcz76_3 : w74.cell? ⟨gb265, 3, none⟩ = some (.int .i64 ((rd_T45 l1_6 x63_2).f2.f0)) := (blk_cell BK265.out 3).trans rfl; have hcz76_4 : w74.cell? ⟨gb265, 4, none⟩ = some (.int .i64 ((rd_T45 l1_6 x63_2).f2.f1)) := (blk_cell BK265.out 4).trans rfl; have hcz76_5 : w74.cell? ⟨gb265, 5, none⟩ = some (.slice A264_5 ((rd_T45 l1_6 x63_2).f2.f2).length c264_5) := (blk_cell BK265.out 5).trans rfl; have hcz76_6 : w74.cell? ⟨gb265, 6, none⟩ = some (.slice A264_6 ((rd_T45 l1_6 x63_2).f2.f3).length c264_6) := (blk_cell BK265.out 6).trans rfl; have hcz76_7 : w74.cell? ⟨gb265, 7, none⟩ = some (.slice A264_7 ((rd_T45 l1_6 x63_2).f3).length c264_7) := (blk_cell BK265.out 7).trans rfl; have hfz76_0 := blk_frozen BK265.out 0; have hfz76_1 := blk_frozen BK265.out 1; have hfz76_2 := blk_frozen BK265.out 2; have hfz76_3 := blk_frozen BK265.out 3; have hfz76_4 := blk_frozen BK265.out 4; have hfz76_5 := blk_frozen BK265.out 5; have hfz76_6 := blk_frozen BK265.out 6; have hfz76_7 := blk_frozen BK265.out 7) | (go_at_call 24; (with_reducible refine (catenaryref05_SameVotes.calls k2 _ _ ((rd_T45 l0_6 x63_2).f3) _ _ ((rd_T45 l1_6 x63_2).f3) t267 _ ?side1 ?side2 ?side3 ?side4 A66.out).mono ?_); (case side1 => exact Kd.Cu (Kd.C_below HR262_7.out HB.out)); (case side2 => exact HC262_7.out); (case side3 => exact Kd.Cu (Kd.C_below HR264_7.out HB.out)); (case side4 => exact HC264_7.out); rintro e w' ⟨rfl, ⟨nd, rfl⟩⟩))
              go_meet
              case rel => exact ⟨_, (!t267), (by first | rfl | (simp; done) | (simp [*]; done)), H', ⟨by have := HJ2.out; have := HK2.out; first | omega | exact Nat.le_refl _⟩, ⟨blk_u <| BK257.out⟩, ⟨blk_u <| BK258.out⟩, ⟨blk_u <| BK263.out⟩, ⟨blk_u <| BK265.out⟩, ⟨by repeat (first | (with_reducible first | exact HB.out | apply below_alloc | apply pw_below_drewN | apply below_drew1 | refine below_set ?_ GE257.out | refine below_set ?_ GE258.out | refine below_set ?_ GE263.out | refine below_set ?_ GE265.out) | exact HB.out)⟩⟩
             ·replace c65 := Bool.eq_false_iff.mpr c65
              subst c65
              have H1 : (catenaryref05_SameReport.j2 k2 l0_6 (l0_6.length : Int) x63_2 true a1_0 a1_1 a1_2 a1_3 l1_4 l1_5 l1_6 l1_7) = some r := by rw [if_neg (show ¬ (false = true) by decide)] at H; exact H
              clear H; have H := H1; clear H1; have H' := Aside0.mk H; clear H; have hnb77 := NB263_257.out; have hnc77 := NB257_263.out; have hnb78 := NB263_258.out; have hnc78 := NB258_263.out; have hnb79 := NB263_265.out; have hnc79 := NB265_263.out; have hcz80_0 : w50.cell? ⟨gb263, 0, none⟩ = some (.int .i64 ((rd_T45 l0_6 x63_2).f0)) := (blk_cell BK263.out 0).trans rfl; have hcz80_1 : w50.cell? ⟨gb263, 1, none⟩ = some (.int .i64 ((rd_T45 l0_6 x63_2).f1.f0)) := (blk_cell BK263.out 1).trans rfl; have hcz80_2 : w50.cell? ⟨gb263, 2, none⟩ = some (.int .i64 ((rd_T45 l0_6 x63_2).f1.f1)) := (blk_cell BK263.out 2).trans rfl; have hcz80_3 : w50.cell? ⟨gb263, 3, none⟩ = some (.int .i64 ((rd_T45 l0_6 x63_2).f2.f0)) := (blk_cell BK263.out 3).trans rfl; have hcz80_4 : w50.cell? ⟨gb263, 4, none⟩ = some (.int .i64 ((rd_T45 l0_6 x63_2).f2.f1)) := (blk_cell BK263.out 4).trans rfl; have hcz80_5 : w50.cell? ⟨gb263, 5, none⟩ = some (.slice A262_5 ((rd_T45 l0_6 x63_2).f2.f2).length c262_5) := (blk_cell BK263.out 5).trans rfl; have hcz80_6 : w50.cell? ⟨gb263, 6, none⟩ = some (.slice A262_6 ((rd_T45 l0_6 x63_2).f2.f3).length c262_6) := (blk_cell BK263.out 6).trans rfl; have hcz80_7 : w50.cell? ⟨gb263, 7, none⟩ = some (.slice A262_7 ((rd_T45 l0_6 x63_2).f3).length c262_7) := (blk_cell BK263.out 7).trans rfl; have hfz80_0 := blk_frozen BK263.out 0; have hfz80_1 := blk_frozen BK263.out 1; have hfz80_2 := blk_frozen BK263.out 2; have hfz80_3 := blk_frozen BK263.out 3; have hfz80_4 := blk_frozen BK263.out 4; have hfz80_5 := blk_frozen BK263.out 5; have hfz80_6 := blk_frozen BK263.out 6; have hfz80_7 := blk_frozen BK263.out 7; have hnb81 := NB265_257.out; have hnc81 := NB257_265.out; have hnb82 := NB265_258.out; have hnc82 := NB258_265.out; have hcz83_0 : w50.cell? ⟨gb265, 0, none⟩ = some (.int .i64 0) := (blk_cell BK265.out 0).trans rfl; have hcz83_1 : w50.cell? ⟨gb265, 1, none⟩ = some (.int .i64 0) := (blk_cell BK265.out 1).trans rfl; have hcz83_2 : w50.cell? ⟨gb265, 2, none⟩ = some (.int .i64 0) := (blk_cell BK265.out 2).trans rfl; have hcz83_3 : w50.cell? ⟨gb265, 3, none⟩ = some (.int .i64 0) := (blk_cell BK265.out 3).trans rfl; have hcz83_4 : w50.cell? ⟨gb265, 4, none⟩ = some (.int .i64 0) := (blk_cell BK265.out 4).trans rfl; have hcz83_5 : w50.cell? ⟨gb265, 5, none⟩ = some (.slice none 0 0) := (blk_cell BK265.out 5).trans rfl; have hcz83_6 : w50.cell? ⟨gb265, 6, none⟩ = some (.slice none 0 0) := (blk_cell BK265.out 6).trans rfl; have hcz83_7 : w50.cell? ⟨gb265, 7, none⟩ = some (.slice none 0 0) := (blk_cell BK265.out 7).trans rfl; have hfz83_0 := blk_frozen BK265.out 0; have hfz83_1 := blk_frozen BK265.out 1; have hfz83_2 := blk_frozen BK265.out 2; have hfz83_3 := blk_frozen BK265.out 3; have hfz83_4 := blk_frozen BK265.out 4; have hfz83_5 := blk_frozen BK265.out 5; have hfz83_6 := blk_frozen BK265.out 6; have hfz83_7 := blk_frozen BK265.out 7
              go_wp2_with (first | (go_at_call 11; (with_reducible refine (catenaryref05_SameReq.calls ((rd_T45 l0_6 x63_2).f2.f0) ((rd_T45 l0_6 x63_2).f2.f1) _ _ ((rd_T45 l0_6 x63_2).f2.f2) _ _ ((rd_T45 l0_6 x63_2).f2.f3) ((rd_T45 l1_6 x63_2).f2.f0) ((rd_T45 l1_6 x63_2).f2.f1) _ _ ((rd_T45 l1_6 x63_2).f2.f2) _ _ ((rd_T45 l1_6 x63_2).f2.f3) false _ ?side1 ?side2 ?side3 ?side4 ?side5 ?side6 ?side7 ?side8 A64.out).mono ?_); (case side1 => exact Kd.C_below HR262_5.out (by repeat (first | (with_reducible first | exact HB.out | apply below_alloc | apply pw_below_drewN | apply below_drew1 | refine below_set ?_ GE257.out | refine below_set ?_ GE258.out | refine below_set ?_ GE263.out | refine below_set ?_ GE265.out) | exact HB.out))); (case side2 => exact HC262_5.out); (case side3 => exact Kd.C_below HR262_6.out (by repeat (first | (with_reducible first | exact HB.out | apply below_alloc | apply pw_below_drewN | apply below_drew1 | refine below_set ?_ GE257.out | refine below_set ?_ GE258.out | refine below_set ?_ GE263.out | refine below_set ?_ GE265.out) | exact HB.out))); (case side4 => exact HC262_6.out); (case side5 => exact Kd.C_below HR264_5.out (by repeat (first | (with_reducible first | exact HB.out | apply below_alloc | apply pw_below_drewN | apply below_drew1 | refine below_set ?_ GE257.out | refine below_set ?_ GE258.out | refine below_set ?_ GE263.out | refine below_set ?_ GE265.out) | exact HB.out))); (case side6 => exact HC264_5.out); (case side7 => exact Kd.C_below HR264_6.out (by repeat (first | (with_reducible first | exact HB.out | apply below_alloc | apply pw_below_drewN | apply below_drew1 | refine below_set ?_ GE257.out | refine below_set ?_ GE258.out | refine below_set ?_ GE263.out | refine below_set ?_ GE265.out) | exact HB.out))); (case side8 => exact HC264_6.out); rintro e w84 ⟨rfl, hb⟩; have n0_ := Aside0.mk (blk_below (g := gb257) (o := .cells #[.int .i64 a0_0, .int .i64 a0_1, .int .i64 a0_2, .int .i64 a0_3, .slice A0_4 l0_4.length c0_4, .slice A0_5 l0_5.length c0_5, .slice (some ad262) l0_6.length c0_6, .slice A0_7 l0_7.length c0_7] 30 (0, 0)) (by (with_reducible repeat (first | refine blk_drewN ?_ _ | refine blk_drew ?_ | refine blk_alloc ?_ _)); refine blk_far ?_ NB257_265.out _; (with_reducible repeat (first | refine blk_drewN ?_ _ | refine blk_drew ?_ | refine blk_alloc ?_ _)); refine blk_far ?_ NB257_265.out _; (with_reducible repeat (first | refine blk_drewN ?_ _ | refine blk_drew ?_ | refine blk_alloc ?_ _)); refine blk_far ?_ NB257_265.out _; (with_reducible repeat (first | refine blk_drewN ?_ _ | refine blk_drew ?_ | refine blk_alloc ?_ _)); refine blk_far ?_ NB257_265.out _; (with_reducible repeat (first | refine blk_drewN ?_ _ | refine blk_drew ?_ | refine blk_alloc ?_ _)); refine blk_far ?_ NB257_265.out _; (with_reducible repeat (first | refine blk_drewN ?_ _ | refine blk_drew ?_ | refine blk_alloc ?_ _)); refine blk_far ?_ NB257_265.out _; (with_reducible repeat (first | refine blk_drewN ?_ _ | refine blk_drew ?_ | refine blk_alloc ?_ _)); refine blk_far ?_ NB257_265.out _; (with_reducible repeat (first | refine blk_drewN ?_ _ | refine blk_drew ?_ | refine blk_alloc ?_ _)); refine blk_far ?_ NB257_265.out _; (with_reducible repeat (first | refine blk_drewN ?_ _ | refine blk_drew ?_ | refine blk_alloc ?_ _)); exact BK257.out) hb); have n1_ := Aside0.mk (blk_below (g := gb258) (o := .cells #[.int .i64 a1_0, .int .i64 a1_1, .int .i64 a1_2, .int .i64 a1_3, .slice A1_4 l1_4.length c1_4, .slice A1_5 l1_5.length c1_5, .slice (some ad264) l1_6.length c1_6, .slice A1_7 l1_7.length c1_7] 30 (0, 0)) (by (with_reducible repeat (first | refine blk_drewN ?_ _ | refine blk_drew ?_ | refine blk_alloc ?_ _)); refine blk_far ?_ NB258_265.out _; (with_reducible repeat (first | refine blk_drewN ?_ _ | refine blk_drew ?_ | refine blk_alloc ?_ _)); refine blk_far ?_ NB258_265.out _; (with_reducible repeat (first | refine blk_drewN ?_ _ | refine blk_drew ?_ | refine blk_alloc ?_ _)); refine blk_far ?_ NB258_265.out _; (with_reducible repeat (first | refine blk_drewN ?_ _ | refine blk_drew ?_ | refine blk_alloc ?_ _)); refine blk_far ?_ NB258_265.out _; (with_reducible repeat (first | refine blk_drewN ?_ _ | refine blk_drew ?_ | refine blk_alloc ?_ _)); refine blk_far ?_ NB258_265.out _; (with_reducible repeat (first | refine blk_drewN ?_ _ | refine blk_drew ?_ | refine blk_alloc ?_ _)); refine blk_far ?_ NB258_265.out _; (with_reducible repeat (first | refine blk_drewN ?_ _ | refine blk_drew ?_ | refine blk_alloc ?_ _)); refine blk_far ?_ NB258_265.out _; (with_reducible repeat (first | refine blk_drewN ?_ _ | refine blk_drew ?_ | refine blk_alloc ?_ _)); refine blk_far ?_ NB258_265.out _; (with_reducible repeat (first | refine blk_drewN ?_ _ | refine blk_drew ?_ | refine blk_alloc ?_ _)); exact BK258.out) hb); have n2_ := Aside0.mk (blk_below (g := gb263) (o := .cells #[.int .i64 ((rd_T45 l0_6 x63_2).f0), .int .i64 ((rd_T45 l0_6 x63_2).f1.f0), .int .i64 ((rd_T45 l0_6 x63_2).f1.f1), .int .i64 ((rd_T45 l0_6 x63_2).f2.f0), .int .i64 ((rd_T45 l0_6 x63_2).f2.f1), .slice A262_5 ((rd_T45 l0_6 x63_2).f2.f2).length c262_5, .slice A262_6 ((rd_T45 l0_6 x63_2).f2.f3).length c262_6, .slice A262_7 ((rd_T45 l0_6 x63_2).f3).length c262_7] 45 (0, 0)) (by (with_reducible repeat (first | refine blk_drewN ?_ _ | refine blk_drew ?_ | refine blk_alloc ?_ _)); refine blk_far ?_ NB263_265.out _; (with_reducible repeat (first | refine blk_drewN ?_ _ | refine blk_drew ?_ | refine blk_alloc ?_ _)); refine blk_far ?_ NB263_265.out _; (with_reducible repeat (first | refine blk_drewN ?_ _ | refine blk_drew ?_ | refine blk_alloc ?_ _)); refine blk_far ?_ NB263_265.out _; (with_reducible repeat (first | refine blk_drewN ?_ _ | refine blk_drew ?_ | refine blk_alloc ?_ _)); refine blk_far ?_ NB263_265.out _; (with_reducible repeat (first | refine blk_drewN ?_ _ | refine blk_drew ?_ | refine blk_alloc ?_ _)); refine blk_far ?_ NB263_265.out _; (with_reducible repeat (first | refine blk_drewN ?_ _ | refine blk_drew ?_ | refine blk_alloc ?_ _)); refine blk_far ?_ NB263_265.out _; (with_reducible repeat (first | refine blk_drewN ?_ _ | refine blk_drew ?_ | refine blk_alloc ?_ _)); refine blk_far ?_ NB263_265.out _; (with_reducible repeat (first | refine blk_drewN ?_ _ | refine blk_drew ?_ | refine blk_alloc ?_ _)); refine blk_far ?_ NB263_265.out _; (with_reducible repeat (first | refine blk_drewN ?_ _ | refine blk_drew ?_ | refine blk_alloc ?_ _)); exact BK263.out) hb); have n3_ := Aside0.mk (blk_below (g := gb265) (o := .cells #[.int .i64 ((rd_T45 l1_6 x63_2).f0), .int .i64 ((rd_T45 l1_6 x63_2).f1.f0), .int .i64 ((rd_T45 l1_6 x63_2).f1.f1), .int .i64 ((rd_T45 l1_6 x63_2).f2.f0), .int .i64 ((rd_T45 l1_6 x63_2).f2.f1), .slice A264_5 ((rd_T45 l1_6 x63_2).f2.f2).length c264_5, .slice A264_6 ((rd_T45 l1_6 x63_2).f2.f3).length c264_6, .slice A264_7 ((rd_T45 l1_6 x63_2).f3).length c264_7] 45 (0, 0)) (by (with_reducible repeat (first | refine blk_drewN ?_ _ | refine blk_drew ?_ | refine blk_alloc ?_ _)); refine blk_put (cs := #[.int .i64 ((rd_T45 l1_6 x63_2).f0), .int .i64 ((rd_T45 l1_6 x63_2).f1.f0), .int .i64 ((rd_T45 l1_6 x63_2).f1.f1), .int .i64 ((rd_T45 l1_6 x63_2).f2.f0), .int .i64 ((rd_T45 l1_6 x63_2).f2.f1), .slice A264_5 ((rd_T45 l1_6 x63_2).f2.f2).length c264_5, .slice A264_6 ((rd_T45 l1_6 x63_2).f2.f3).length c264_6, .slice none 0 0]) ?_ 7 _ rfl; (with_reducible repeat (first | refine blk_drewN ?_ _ | refine blk_drew ?_ | refine blk_alloc ?_ _)); refine blk_put (cs := #[.int .i64 ((rd_T45 l1_6 x63_2).f0), .int .i64 ((rd_T45 l1_6 x63_2).f1.f0), .int .i64 ((rd_T45 l1_6 x63_2).f1.f1), .int .i64 ((rd_T45 l1_6 x63_2).f2.f0), .int .i64 ((rd_T45 l1_6 x63_2).f2.f1), .slice A264_5 ((rd_T45 l1_6 x63_2).f2.f2).length c264_5, .slice none 0 0, .slice none 0 0]) ?_ 6 _ rfl; (with_reducible repeat (first | refine blk_drewN ?_ _ | refine blk_drew ?_ | refine blk_alloc ?_ _)); refine blk_put (cs := #[.int .i64 ((rd_T45 l1_6 x63_2).f0), .int .i64 ((rd_T45 l1_6 x63_2).f1.f0), .int .i64 ((rd_T45 l1_6 x63_2).f1.f1), .int .i64 ((rd_T45 l1_6 x63_2).f2.f0), .int .i64 ((rd_T45 l1_6 x63_2).f2.f1), .slice none 0 0, .slice none 0 0, .slice none 0 0]) ?_ 5 _ rfl; (with_reducible repeat (first | refine blk_drewN ?_ _ | refine blk_drew ?_ | refine blk_alloc ?_ _)); refine blk_put (cs := #[.int .i64 ((rd_T45 l1_6 x63_2).f0), .int .i64 ((rd_T45 l1_6 x63_2).f1.f0), .int .i64 ((rd_T45 l1_6 x63_2).f1.f1), .int .i64 ((rd_T45 l1_6 x63_2).f2.f0), .int .i64 0, .slice none 0 0, .slice none 0 0, .slice none 0 0]) ?_ 4 _ rfl; (with_reducible repeat (first | refine blk_drewN ?_ _ | refine blk_drew ?_ | refine blk_alloc ?_ _)); refine blk_put (cs := #[.int .i64 ((rd_T45 l1_6 x63_2).f0), .int .i64 ((rd_T45 l1_6 x63_2).f1.f0), .int .i64 ((rd_T45 l1_6 x63_2).f1.f1), .int .i64 0, .int .i64 0, .slice none 0 0, .slice none 0 0, .slice none 0 0]) ?_ 3 _ rfl; (with_reducible repeat (first | refine blk_drewN ?_ _ | refine blk_drew ?_ | refine blk_alloc ?_ _)); refine blk_put (cs := #[.int .i64 ((rd_T45 l1_6 x63_2).f0), .int .i64 ((rd_T45 l1_6 x63_2).f1.f0), .int .i64 0, .int .i64 0, .int .i64 0, .slice none 0 0, .slice none 0 0, .slice none 0 0]) ?_ 2 _ rfl; (with_reducible repeat (first | refine blk_drewN ?_ _ | refine blk_drew ?_ | refine blk_alloc ?_ _)); refine blk_put (cs := #[.int .i64 ((rd_T45 l1_6 x63_2).f0), .int .i64 0, .int .i64 0, .int .i64 0, .int .i64 0, .slice none 0 0, .slice none 0 0, .slice none 0 0]) ?_ 1 _ rfl; (with_reducible repeat (first | refine blk_drewN ?_ _ | refine blk_drew ?_ | refine blk_alloc ?_ _)); refine blk_put (cs := #[.int .i64 0, .int .i64 0, .int .i64 0, .int .i64 0, .int .i64 0, .slice none 0 0, .slice none 0 0, .slice none 0 0]) ?_ 0 _ rfl; (with_reducible repeat (first | refine blk_drewN ?_ _ | refine blk_drew ?_ | refine blk_alloc ?_ _)); exact BK265.out) hb); have n4_ := Aside0.mk (below_step (by repeat (first | (with_reducible first | exact HB.out | apply below_alloc | apply pw_below_drewN | apply below_drew1 | refine below_set ?_ GE257.out | refine below_set ?_ GE258.out | refine below_set ?_ GE263.out | refine below_set ?_ GE265.out) | exact HB.out)) hb); clear BK257; clear BK258; clear BK263; clear BK265; clear HB; have BK257 := n0_; have BK258 := n1_; have BK263 := n2_; have BK265 := n3_; have HB := n4_; clear n0_ n1_ n2_ n3_ n4_; (try clear hb); (try clear hb2); (try clear hk); (try clear hi)))
              go_meet
              case rel => exact ⟨_, (true), (by first | rfl | (simp; done) | (simp [*]; done)), H', ⟨by have := HJ2.out; have := HK2.out; first | omega | exact Nat.le_refl _⟩, ⟨blk_u <| BK257.out⟩, ⟨blk_u <| BK258.out⟩, ⟨blk_u <| BK263.out⟩, ⟨blk_u <| BK265.out⟩, ⟨by repeat (first | (with_reducible first | exact HB.out | apply below_alloc | apply pw_below_drewN | apply below_drew1 | refine below_set ?_ GE257.out | refine below_set ?_ GE258.out | refine below_set ?_ GE263.out | refine below_set ?_ GE265.out) | exact HB.out)⟩⟩
           ·rw [if_neg c55] at H
            have c55b0 : (((rd_T45 l0_6 x63_2).f0) == ((rd_T45 l1_6 x63_2).f0)) = false := beq_eq_false_iff_ne.mpr c55; have c55b1 : (((rd_T45 l0_6 x63_2).f0) != ((rd_T45 l1_6 x63_2).f0)) = true := bne_iff_ne.mpr c55
            (first | rw [c55b0] | (simp only [i64_w, i32_w]; rw [c55b0]) | skip)
            have H' := Aside0.mk H; clear H; have hnb85 := NB263_257.out; have hnc85 := NB257_263.out; have hnb86 := NB263_258.out; have hnc86 := NB258_263.out; have hnb87 := NB263_265.out; have hnc87 := NB265_263.out; have hcz88_0 : w50.cell? ⟨gb263, 0, none⟩ = some (.int .i64 ((rd_T45 l0_6 x63_2).f0)) := (blk_cell BK263.out 0).trans rfl; have hcz88_1 : w50.cell? ⟨gb263, 1, none⟩ = some (.int .i64 ((rd_T45 l0_6 x63_2).f1.f0)) := (blk_cell BK263.out 1).trans rfl; have hcz88_2 : w50.cell? ⟨gb263, 2, none⟩ = some (.int .i64 ((rd_T45 l0_6 x63_2).f1.f1)) := (blk_cell BK263.out 2).trans rfl; have hcz88_3 : w50.cell? ⟨gb263, 3, none⟩ = some (.int .i64 ((rd_T45 l0_6 x63_2).f2.f0)) := (blk_cell BK263.out 3).trans rfl; have hcz88_4 : w50.cell? ⟨gb263, 4, none⟩ = some (.int .i64 ((rd_T45 l0_6 x63_2).f2.f1)) := (blk_cell BK263.out 4).trans rfl; have hcz88_5 : w50.cell? ⟨gb263, 5, none⟩ = some (.slice A262_5 ((rd_T45 l0_6 x63_2).f2.f2).length c262_5) := (blk_cell BK263.out 5).trans rfl; have hcz88_6 : w50.cell? ⟨gb263, 6, none⟩ = some (.slice A262_6 ((rd_T45 l0_6 x63_2).f2.f3).length c262_6) := (blk_cell BK263.out 6).trans rfl; have hcz88_7 : w50.cell? ⟨gb263, 7, none⟩ = some (.slice A262_7 ((rd_T45 l0_6 x63_2).f3).length c262_7) := (blk_cell BK263.out 7).trans rfl; have hfz88_0 := blk_frozen BK263.out 0; have hfz88_1 := blk_frozen BK263.out 1; have hfz88_2 := blk_frozen BK263.out 2; have hfz88_3 := blk_frozen BK263.out 3; have hfz88_4 := blk_frozen BK263.out 4; have hfz88_5 := blk_frozen BK263.out 5; have hfz88_6 := blk_frozen BK263.out 6; have hfz88_7 := blk_frozen BK263.out 7; have hnb89 := NB265_257.out; have hnc89 := NB257_265.out; have hnb90 := NB265_258.out; have hnc90 := NB258_265.out; have hcz91_0 : w50.cell? ⟨gb265, 0, none⟩ = some (.int .i64 0) := (blk_cell BK265.out 0).trans rfl; have hcz91_1 : w50.cell? ⟨gb265, 1, none⟩ = some (.int .i64 0) := (blk_cell BK265.out 1).trans rfl; have hcz91_2 : w50.cell? ⟨gb265, 2, none⟩ = some (.int .i64 0) := (blk_cell BK265.out 2).trans rfl; have hcz91_3 : w50.cell? ⟨gb265, 3, none⟩ = some (.int .i64 0) := (blk_cell BK265.out 3).trans rfl; have hcz91_4 : w50.cell? ⟨gb265, 4, none⟩ = some (.int .i64 0) := (blk_cell BK265.out 4).trans rfl; have hcz91_5 : w50.cell? ⟨gb265, 5, none⟩ = some (.slice none 0 0) := (blk_cell BK265.out 5).trans rfl; have hcz91_6 : w50.cell? ⟨gb265, 6, none⟩ = some (.slice none 0 0) := (blk_cell BK265.out 6).trans rfl; have hcz91_7 : w50.cell? ⟨gb265, 7, none⟩ = some (.slice none 0 0) := (blk_cell BK265.out 7).trans rfl; have hfz91_0 := blk_frozen BK265.out 0; have hfz91_1 := blk_frozen BK265.out 1; have hfz91_2 := blk_frozen BK265.out 2; have hfz91_3 := blk_frozen BK265.out 3; have hfz91_4 := blk_frozen BK265.out 4; have hfz91_5 := blk_frozen BK265.out 5; have hfz91_6 := blk_frozen BK265.out 6; have hfz91_7 := blk_frozen BK265.out 7
            go_wp2
            go_meet
            case rel => exact ⟨_, (true), (by first | rfl | (simp; done) | (simp [*]; done)), H', ⟨by have := HJ2.out; have := HK2.out; first | omega | exact Nat.le_refl _⟩, ⟨by (with_reducible repeat (first | refine blk_drewN ?_ _ | refine blk_drew ?_ | refine blk_alloc ?_ _)); refine blk_far ?_ NB257_265.out _; (with_reducible repeat (first | refine blk_drewN ?_ _ | refine blk_drew ?_ | refine blk_alloc ?_ _)); refine blk_far ?_ NB257_265.out _; (with_reducible repeat (first | refine blk_drewN ?_ _ | refine blk_drew ?_ | refine blk_alloc ?_ _)); refine blk_far ?_ NB257_265.out _; (with_reducible repeat (first | refine blk_drewN ?_ _ | refine blk_drew ?_ | refine blk_alloc ?_ _)); refine blk_far ?_ NB257_265.out _; (with_reducible repeat (first | refine blk_drewN ?_ _ | refine blk_drew ?_ | refine blk_alloc ?_ _)); refine blk_far ?_ NB257_265.out _; (with_reducible repeat (first | refine blk_drewN ?_ _ | refine blk_drew ?_ | refine blk_alloc ?_ _)); refine blk_far ?_ NB257_265.out _; (with_reducible repeat (first | refine blk_drewN ?_ _ | refine blk_drew ?_ | refine blk_alloc ?_ _)); refine blk_far ?_ NB257_265.out _; (with_reducible repeat (first | refine blk_drewN ?_ _ | refine blk_drew ?_ | refine blk_alloc ?_ _)); refine blk_far ?_ NB257_265.out _; (with_reducible repeat (first | refine blk_drewN ?_ _ | refine blk_drew ?_ | refine blk_alloc ?_ _)); exact BK257.out⟩, ⟨by (with_reducible repeat (first | refine blk_drewN ?_ _ | refine blk_drew ?_ | refine blk_alloc ?_ _)); refine blk_far ?_ NB258_265.out _; (with_reducible repeat (first | refine blk_drewN ?_ _ | refine blk_drew ?_ | refine blk_alloc ?_ _)); refine blk_far ?_ NB258_265.out _; (with_reducible repeat (first | refine blk_drewN ?_ _ | refine blk_drew ?_ | refine blk_alloc ?_ _)); refine blk_far ?_ NB258_265.out _; (with_reducible repeat (first | refine blk_drewN ?_ _ | refine blk_drew ?_ | refine blk_alloc ?_ _)); refine blk_far ?_ NB258_265.out _; (with_reducible repeat (first | refine blk_drewN ?_ _ | refine blk_drew ?_ | refine blk_alloc ?_ _)); refine blk_far ?_ NB258_265.out _; (with_reducible repeat (first | refine blk_drewN ?_ _ | refine blk_drew ?_ | refine blk_alloc ?_ _)); refine blk_far ?_ NB258_265.out _; (with_reducible repeat (first | refine blk_drewN ?_ _ | refine blk_drew ?_ | refine blk_alloc ?_ _)); refine blk_far ?_ NB258_265.out _; (with_reducible repeat (first | refine blk_drewN ?_ _ | refine blk_drew ?_ | refine blk_alloc ?_ _)); refine blk_far ?_ NB258_265.out _; (with_reducible repeat (first | refine blk_drewN ?_ _ | refine blk_drew ?_ | refine blk_alloc ?_ _)); exact BK258.out⟩, ⟨by (with_reducible repeat (first | refine blk_drewN ?_ _ | refine blk_drew ?_ | refine blk_alloc ?_ _)); refine blk_far ?_ NB263_265.out _; (with_reducible repeat (first | refine blk_drewN ?_ _ | refine blk_drew ?_ | refine blk_alloc ?_ _)); refine blk_far ?_ NB263_265.out _; (with_reducible repeat (first | refine blk_drewN ?_ _ | refine blk_drew ?_ | refine blk_alloc ?_ _)); refine blk_far ?_ NB263_265.out _; (with_reducible repeat (first | refine blk_drewN ?_ _ | refine blk_drew ?_ | refine blk_alloc ?_ _)); refine blk_far ?_ NB263_265.out _; (with_reducible repeat (first | refine blk_drewN ?_ _ | refine blk_drew ?_ | refine blk_alloc ?_ _)); refine blk_far ?_ NB263_265.out _; (with_reducible repeat (first | refine blk_drewN ?_ _ | refine blk_drew ?_ | refine blk_alloc ?_ _)); refine blk_far ?_ NB263_265.out _; (with_reducible repeat (first | refine blk_drewN ?_ _ | refine blk_drew ?_ | refine blk_alloc ?_ _)); refine blk_far ?_ NB263_265.out _; (with_reducible repeat (first | refine blk_drewN ?_ _ | refine blk_drew ?_ | refine blk_alloc ?_ _)); refine blk_far ?_ NB263_265.out _; (with_reducible repeat (first | refine blk_drewN ?_ _ | refine blk_drew ?_ | refine blk_alloc ?_ _)); exact BK263.out⟩, ⟨by (with_reducible repeat (first | refine blk_drewN ?_ _ | refine blk_drew ?_ | refine blk_alloc ?_ _)); refine blk_put (cs := #[.int .i64 ((rd_T45 l1_6 x63_2).f0), .int .i64 ((rd_T45 l1_6 x63_2).f1.f0), .int .i64 ((rd_T45 l1_6 x63_2).f1.f1), .int .i64 ((rd_T45 l1_6 x63_2).f2.f0), .int .i64 ((rd_T45 l1_6 x63_2).f2.f1), .slice A264_5 ((rd_T45 l1_6 x63_2).f2.f2).length c264_5, .slice A264_6 ((rd_T45 l1_6 x63_2).f2.f3).length c264_6, .slice none 0 0]) ?_ 7 _ rfl; (with_reducible repeat (first | refine blk_drewN ?_ _ | refine blk_drew ?_ | refine blk_alloc ?_ _)); refine blk_put (cs := #[.int .i64 ((rd_T45 l1_6 x63_2).f0), .int .i64 ((rd_T45 l1_6 x63_2).f1.f0), .int .i64 ((rd_T45 l1_6 x63_2).f1.f1), .int .i64 ((rd_T45 l1_6 x63_2).f2.f0), .int .i64 ((rd_T45 l1_6 x63_2).f2.f1), .slice A264_5 ((rd_T45 l1_6 x63_2).f2.f2).length c264_5, .slice none 0 0, .slice none 0 0]) ?_ 6 _ rfl; (with_reducible repeat (first | refine blk_drewN ?_ _ | refine blk_drew ?_ | refine blk_alloc ?_ _)); refine blk_put (cs := #[.int .i64 ((rd_T45 l1_6 x63_2).f0), .int .i64 ((rd_T45 l1_6 x63_2).f1.f0), .int .i64 ((rd_T45 l1_6 x63_2).f1.f1), .int .i64 ((rd_T45 l1_6 x63_2).f2.f0), .int .i64 ((rd_T45 l1_6 x63_2).f2.f1), .slice none 0 0, .slice none 0 0, .slice none 0 0]) ?_ 5 _ rfl; (with_reducible repeat (first | refine blk_drewN ?_ _ | refine blk_drew ?_ | refine blk_alloc ?_ _)); refine blk_put (cs := #[.int .i64 ((rd_T45 l1_6 x63_2).f0), .int .i64 ((rd_T45 l1_6 x63_2).f1.f0), .int .i64 ((rd_T45 l1_6 x63_2).f1.f1), .int .i64 ((rd_T45 l1_6 x63_2).f2.f0), .int .i64 0, .slice none 0 0, .slice none 0 0, .slice none 0 0]) ?_ 4 _ rfl; (with_reducible repeat (first | refine blk_drewN ?_ _ | refine blk_drew ?_ | refine blk_alloc ?_ _)); refine blk_put (cs := #[.int .i64 ((rd_T45 l1_6 x63_2).f0), .int .i64 ((rd_T45 l1_6 x63_2).f1.f0), .int .i64 ((rd_T45 l1_6 x63_2).f1.f1), .int .i64 0, .int .i64 0, .slice none 0 0, .slice none 0 0, .slice none 0 0]) ?_ 3 _ rfl; (with_reducible repeat (first | refine blk_drewN ?_ _ | refine blk_drew ?_ | refine blk_alloc ?_ _)); refine blk_put (cs := #[.int .i64 ((rd_T45 l1_6 x63_2).f0), .int .i64 ((rd_T45 l1_6 x63_2).f1.f0), .int .i64 0, .int .i64 0, .int .i64 0, .slice none 0 0, .slice none 0 0, .slice none 0 0]) ?_ 2 _ rfl; (with_reducible repeat (first | refine blk_drewN ?_ _ | refine blk_drew ?_ | refine blk_alloc ?_ _)); refine blk_put (cs := #[.int .i64 ((rd_T45 l1_6 x63_2).f0), .int .i64 0, .int .i64 0, .int .i64 0, .int .i64 0, .slice none 0 0, .slice none 0 0, .slice none 0 0]) ?_ 1 _ rfl; (with_reducible repeat (first | refine blk_drewN ?_ _ | refine blk_drew ?_ | refine blk_alloc ?_ _)); refine blk_put (cs := #[.int .i64 0, .int .i64 0, .int .i64 0, .int .i64 0, .int .i64 0, .slice none 0 0, .slice none 0 0, .slice none 0 0]) ?_ 0 _ rfl; (with_reducible repeat (first | refine blk_drewN ?_ _ | refine blk_drew ?_ | refine blk_alloc ?_ _)); exact BK265.out⟩, ⟨by repeat (first | (with_reducible first | exact HB.out | apply below_alloc | apply pw_below_drewN | apply below_drew1 | refine below_set ?_ GE257.out | refine below_set ?_ GE258.out | refine below_set ?_ GE263.out | refine below_set ?_ GE265.out) | exact HB.out)⟩⟩
          case rest =>
           clear HC43
           try clear c1
           try clear c2
           try clear p2
           try clear q2
           try clear hx2
           try clear c3
           try clear c4
           try clear c5
           try clear c6
           try clear c6b0
           try clear c7
           try clear c8
           try clear c9
           try clear c10
           try clear c10b0
           try clear c10b1
           try clear c11
           try clear c11b0
           try clear c11b1
           try clear c13
           try clear c15
           try clear c16
           try clear c16b0
           try clear c16b1
           try clear c16b2
           try clear c18
           try clear c21
           try clear c24
           try clear c26
           try clear p26
           try clear q26
           try clear hx26
           try clear c27
           try clear c30
           try clear c33
           try clear c36
           try clear c37
           try clear c39
           try clear c39b0
           try clear c40
           try clear c40b0
           try clear c41
           try clear c41b0
           try clear c42
           try clear c42b0
           try clear c45
           try clear c46
           try clear c48
           try clear c51
           try clear c52
           try clear c53
           try clear c55
           try clear c55b0
           try clear c55b1
           try clear c56
           try clear c56b0
           try clear c57
           try clear c58
           try clear c59
           try clear c61
           try clear c62
           try clear c65
           try clear c67
           try clear c68
           try clear c69
           try clear c71
           try clear c72
           try clear c77
           try clear c78
           try clear c79
           try clear c81
           try clear c82
           try clear c85
           try clear c86
           try clear c87
           try clear c89
           try clear c90
           try clear hcz19_0
           try clear hcz19_1
           try clear hcz19_2
           try clear hcz19_3
           try clear hcz19_4
           try clear hcz19_5
           try clear hcz19_6
           try clear hcz19_7
           try clear hcz20_0
           try clear hcz20_1
           try clear hcz20_2
           try clear hcz20_3
           try clear hcz20_4
           try clear hcz20_5
           try clear hcz20_6
           try clear hcz20_7
           try clear hcz22_0
           try clear hcz22_1
           try clear hcz22_2
           try clear hcz22_3
           try clear hcz22_4
           try clear hcz22_5
           try clear hcz22_6
           try clear hcz22_7
           try clear hcz23_0
           try clear hcz23_1
           try clear hcz23_2
           try clear hcz23_3
           try clear hcz23_4
           try clear hcz23_5
           try clear hcz23_6
           try clear hcz23_7
           try clear hcz25_0
           try clear hcz25_1
           try clear hcz25_2
           try clear hcz25_3
           try clear hcz25_4
           try clear hcz25_5
           try clear hcz25_6
           try clear hcz25_7
           try clear hcz26_0
           try clear hcz26_1
           try clear hcz26_2
           try clear hcz26_3
           try clear hcz26_4
           try clear hcz26_5
           try clear hcz26_6
           try clear hcz26_7
           try clear hcz28_0
           try clear hcz28_1
           try clear hcz28_2
           try clear hcz28_3
           try clear hcz28_4
           try clear hcz28_5
           try clear hcz28_6
           try clear hcz28_7
           try clear hcz29_0
           try clear hcz29_1
           try clear hcz29_2
           try clear hcz29_3
           try clear hcz29_4
           try clear hcz29_5
           try clear hcz29_6
           try clear hcz29_7
           try clear hcz31_0
           try clear hcz31_1
           try clear hcz31_2
           try clear hcz31_3
           try clear hcz31_4
           try clear hcz31_5
           try clear hcz31_6
           try clear hcz31_7
           try clear hcz32_0
           try clear hcz32_1
           try clear hcz32_2
           try clear hcz32_3
           try clear hcz32_4
           try clear hcz32_5
           try clear hcz32_6
           try clear hcz32_7
           try clear hcz34_0
           try clear hcz34_1
           try clear hcz34_2
           try clear hcz34_3
           try clear hcz34_4
           try clear hcz34_5
           try clear hcz34_6
           try clear hcz34_7
           try clear hcz35_0
           try clear hcz35_1
           try clear hcz35_2
           try clear hcz35_3
           try clear hcz35_4
           try clear hcz35_5
           try clear hcz35_6
           try clear hcz35_7
           try clear hcz38_0
           try clear hcz38_1
           try clear hcz38_2
           try clear hcz38_3
           try clear hcz38_4
           try clear hcz38_5
           try clear hcz38_6
           try clear hcz38_7
           try clear hcz47_0
           try clear hcz47_1
           try clear hcz47_2
           try clear hcz47_3
           try clear hcz47_4
           try clear hcz47_5
           try clear hcz47_6
           try clear hcz47_7
           try clear hcz49_0
           try clear hcz49_1
           try clear hcz49_2
           try clear hcz49_3
           try clear hcz49_4
           try clear hcz49_5
           try clear hcz49_6
           try clear hcz49_7
           try clear hcz54_0
           try clear hcz54_1
           try clear hcz54_2
           try clear hcz54_3
           try clear hcz54_4
           try clear hcz54_5
           try clear hcz54_6
           try clear hcz54_7
           try clear hcz60_0
           try clear hcz60_1
           try clear hcz60_2
           try clear hcz60_3
           try clear hcz60_4
           try clear hcz60_5
           try clear hcz60_6
           try clear hcz60_7
           try clear hcz63_0
           try clear hcz63_1
           try clear hcz63_2
           try clear hcz63_3
           try clear hcz63_4
           try clear hcz63_5
           try clear hcz63_6
           try clear hcz63_7
           try clear hcz70_0
           try clear hcz70_1
           try clear hcz70_2
           try clear hcz70_3
           try clear hcz70_4
           try clear hcz70_5
           try clear hcz70_6
           try clear hcz70_7
           try clear hcz73_0
           try clear hcz73_1
           try clear hcz73_2
           try clear hcz73_3
           try clear hcz73_4
           try clear hcz73_5
           try clear hcz73_6
           try clear hcz73_7
           try clear hcz75_0
           try clear hcz75_1
           try clear hcz75_2
           try clear hcz75_3
           try clear hcz75_4
           try clear hcz75_5
           try clear hcz75_6
           try clear hcz75_7
           try clear hcz76_0
           try clear hcz76_1
           try clear hcz76_2
           try clear hcz76_3
           try clear hcz76_4
           try clear hcz76_5
           try clear hcz76_6
           try clear hcz76_7
           try clear hcz80_0
           try clear hcz80_1
           try clear hcz80_2
           try clear hcz80_3
           try clear hcz80_4
           try clear hcz80_5
           try clear hcz80_6
           try clear hcz80_7
           try clear hcz83_0
           try clear hcz83_1
           try clear hcz83_2
           try clear hcz83_3
           try clear hcz83_4
           try clear hcz83_5
           try clear hcz83_6
           try clear hcz83_7
           try clear hcz88_0
           try clear hcz88_1
           try clear hcz88_2
           try clear hcz88_3
           try clear hcz88_4
           try clear hcz88_5
           try clear hcz88_6
           try clear hcz88_7
           try clear hcz8_0
           try clear hcz8_1
           try clear hcz8_2
           try clear hcz8_3
           try clear hcz8_4
           try clear hcz8_5
           try clear hcz8_6
           try clear hcz8_7
           try clear hcz91_0
           try clear hcz91_1
           try clear hcz91_2
           try clear hcz91_3
           try clear hcz91_4
           try clear hcz91_5
           try clear hcz91_6
           try clear hcz91_7
           try clear hcz9_0
           try clear hcz9_1
           try clear hcz9_2
           try clear hcz9_3
           try clear hcz9_4
           try clear hcz9_5
           try clear hcz9_6
           try clear hcz9_7
           try clear hfz19_0
           try clear hfz19_1
           try clear hfz19_2
           try clear hfz19_3
           try clear hfz19_4
           try clear hfz19_5
           try clear hfz19_6
           try clear hfz19_7
           try clear hfz20_0
           try clear hfz20_1
           try clear hfz20_2
           try clear hfz20_3
           try clear hfz20_4
           try clear hfz20_5
           try clear hfz20_6
           try clear hfz20_7
           try clear hfz22_0
           try clear hfz22_1
           try clear hfz22_2
           try clear hfz22_3
           try clear hfz22_4
           try clear hfz22_5
           try clear hfz22_6
           try clear hfz22_7
           try clear hfz23_0
           try clear hfz23_1
           try clear hfz23_2
           try clear hfz23_3
           try clear hfz23_4
           try clear hfz23_5
           try clear hfz23_6
           try clear hfz23_7
           try clear hfz25_0
           try clear hfz25_1
           try clear hfz25_2
           try clear hfz25_3
           try clear hfz25_4
           try clear hfz25_5
           try clear hfz25_6
           try clear hfz25_7
           try clear hfz26_0
           try clear hfz26_1
           try clear hfz26_2
           try clear hfz26_3
           try clear hfz26_4
           try clear hfz26_5
           try clear hfz26_6
           try clear hfz26_7
           try clear hfz28_0
           try clear hfz28_1
           try clear hfz28_2
           try clear hfz28_3
           try clear hfz28_4
           try clear hfz28_5
           try clear hfz28_6
           try clear hfz28_7
           try clear hfz29_0
           try clear hfz29_1
           try clear hfz29_2
           try clear hfz29_3
           try clear hfz29_4
           try clear hfz29_5
           try clear hfz29_6
           try clear hfz29_7
           try clear hfz31_0
           try clear hfz31_1
           try clear hfz31_2
           try clear hfz31_3
           try clear hfz31_4
           try clear hfz31_5
           try clear hfz31_6
           try clear hfz31_7
           try clear hfz32_0
           try clear hfz32_1
           try clear hfz32_2
           try clear hfz32_3
           try clear hfz32_4
           try clear hfz32_5
           try clear hfz32_6
           try clear hfz32_7
           try clear hfz34_0
           try clear hfz34_1
           try clear hfz34_2
           try clear hfz34_3
           try clear hfz34_4
           try clear hfz34_5
           try clear hfz34_6
           try clear hfz34_7
           try clear hfz35_0
           try clear hfz35_1
           try clear hfz35_2
           try clear hfz35_3
           try clear hfz35_4
           try clear hfz35_5
           try clear hfz35_6
           try clear hfz35_7
           try clear hfz38_0
           try clear hfz38_1
           try clear hfz38_2
           try clear hfz38_3
           try clear hfz38_4
           try clear hfz38_5
           try clear hfz38_6
           try clear hfz38_7
           try clear hfz47_0
           try clear hfz47_1
           try clear hfz47_2
           try clear hfz47_3
           try clear hfz47_4
           try clear hfz47_5
           try clear hfz47_6
           try clear hfz47_7
           try clear hfz49_0
           try clear hfz49_1
           try clear hfz49_2
           try clear hfz49_3
           try clear hfz49_4
           try clear hfz49_5
           try clear hfz49_6
           try clear hfz49_7
           try clear hfz54_0
           try clear hfz54_1
           try clear hfz54_2
           try clear hfz54_3
           try clear hfz54_4
           try clear hfz54_5
           try clear hfz54_6
           try clear hfz54_7
           try clear hfz60_0
           try clear hfz60_1
           try clear hfz60_2
           try clear hfz60_3
           try clear hfz60_4
           try clear hfz60_5
           try clear hfz60_6
           try clear hfz60_7
           try clear hfz63_0
           try clear hfz63_1
           try clear hfz63_2
           try clear hfz63_3
           try clear hfz63_4
           try clear hfz63_5
           try clear hfz63_6
           try clear hfz63_7
           try clear hfz70_0
           try clear hfz70_1
           try clear hfz70_2
           try clear hfz70_3
           try clear hfz70_4
           try clear hfz70_5
           try clear hfz70_6
           try clear hfz70_7
           try clear hfz73_0
           try clear hfz73_1
           try clear hfz73_2
           try clear hfz73_3
           try clear hfz73_4
           try clear hfz73_5
           try clear hfz73_6
           try clear hfz73_7
           try clear hfz75_0
           try clear hfz75_1
           try clear hfz75_2
           try clear hfz75_3
           try clear hfz75_4
           try clear hfz75_5
           try clear hfz75_6
           try clear hfz75_7
           try clear hfz76_0
           try clear hfz76_1
           try clear hfz76_2
           try clear hfz76_3
           try clear hfz76_4
           try clear hfz76_5
           try clear hfz76_6
           try clear hfz76_7
           try clear hfz80_0
           try clear hfz80_1
           try clear hfz80_2
           try clear hfz80_3
           try clear hfz80_4
           try clear hfz80_5
           try clear hfz80_6
           try clear hfz80_7
           try clear hfz83_0
           try clear hfz83_1
           try clear hfz83_2
           try clear hfz83_3
           try clear hfz83_4
           try clear hfz83_5
           try clear hfz83_6
           try clear hfz83_7
           try clear hfz88_0
           try clear hfz88_1
           try clear hfz88_2
           try clear hfz88_3
           try clear hfz88_4
           try clear hfz88_5
           try clear hfz88_6
           try clear hfz88_7
           try clear hfz8_0
           try clear hfz8_1
           try clear hfz8_2
           try clear hfz8_3
           try clear hfz8_4
           try clear hfz8_5
           try clear hfz8_6
           try clear hfz8_7
           try clear hfz91_0
           try clear hfz91_1
           try clear hfz91_2
           try clear hfz91_3
           try clear hfz91_4
           try clear hfz91_5
           try clear hfz91_6
           try clear hfz91_7
           try clear hfz9_0
           try clear hfz9_1
           try clear hfz9_2
           try clear hfz9_3
           try clear hfz9_4
           try clear hfz9_5
           try clear hfz9_6
           try clear hfz9_7
           try clear hx262_0
           try clear hx262_1
           try clear hx262_2
           try clear hx262_3
           try clear hx262_4
           try clear hx262_5
           try clear hx262_6
           try clear hx262_7
           try clear hx264_0
           try clear hx264_1
           try clear hx264_2
           try clear hx264_3
           try clear hx264_4
           try clear hx264_5
           try clear hx264_6
           try clear hx264_7
           try clear p2
           try clear p262
           try clear p264
           try clear q262
           try clear q264
           obtain ⟨kq, x100_42, rfl, HA, HJ42, BK257, BK258, BK263, BK265, HB⟩ := hcut
           cases kq with
           | zero => exact absurd HA.out (by simp [catenaryref05_SameReport.j2])
           | succ kj42 =>
            have H := HA.out; clear HA; simp only [catenaryref05_SameReport.j2] at H
            by_cases c92 : x100_42 = true
            ·subst c92
             have H1 : (some false) = some r := by rw [if_pos rfl] at H; exact H
             clear H; have H := H1; clear H1; obtain rfl := Option.some.inj H
             go_wp2
             go_ret
             exact ⟨by first | rfl | (simp [errW_none, errW_some] <;> rfl) | (simp [*, errW_none, errW_some] <;> rfl), by repeat (first | (with_reducible first | exact HB.out | apply below_alloc | apply pw_below_drewN | apply below_drew1 | refine below_set ?_ GE257.out | refine below_set ?_ GE258.out | refine below_set ?_ GE263.out | refine below_set ?_ GE265.out) | exact HB.out)⟩
            ·replace c92 := Bool.eq_false_iff.mpr c92
             subst c92
             have H1 : (catenaryref05_SameReport.l0 kj42 l0_6 (l0_6.length : Int) (wrap64 (x63_2 + 1)) a1_0 a1_1 a1_2 a1_3 l1_4 l1_5 l1_6 l1_7) = some r := by rw [if_neg (show ¬ (false = true) by decide)] at H; exact H
             clear H; have H := H1; clear H1; have H' := Aside0.mk H; clear H
             go_wp2
             go_roundg kj42
             case measure => have := HJ2.out; have := HK2.out; have := HJ42.out; omega
             case rel => exact ⟨(wrap64 (x63_2 + 1)), (by first | rfl | (simp; done) | (simp [*]; done)), H', ⟨by have := HJ2.out; have := HK2.out; have := HJ42.out; omega⟩, ⟨blk_u <| BK257.out⟩, ⟨blk_u <| BK258.out⟩, ⟨by repeat (first | (with_reducible first | exact HB.out | apply below_alloc | apply pw_below_drewN | apply below_drew1 | refine below_set ?_ GE257.out | refine below_set ?_ GE258.out | refine below_set ?_ GE263.out | refine below_set ?_ GE265.out) | exact HB.out)⟩⟩
         ·rw [if_neg c42] at H
          exact absurd H (by simp)
        ·rw [if_neg c41] at H
         exact absurd H (by simp)
       ·rw [if_neg c40] at H
        exact absurd H (by simp)
      ·rw [if_neg c39] at H
       have c39b0 : decide (x63_2 < (l0_6.length : Int)) = false := decide_eq_false c39; clear c39; obtain rfl := Option.some.inj H
       go_wp2
       go_ret
       exact ⟨by first | rfl | (simp [errW_none, errW_some] <;> rfl) | (simp [*, errW_none, errW_some] <;> rfl), by repeat (first | (with_reducible first | exact HB.out | apply below_alloc | apply pw_below_drewN | apply below_drew1 | refine below_set ?_ GE257.out | refine below_set ?_ GE258.out) | exact HB.out)⟩

end Go.Proofs.Ytllnbmmciejmoaa.PChoosePicks
