-- Written by a program of this session's (an extension of the kit's print)
import Derived.Test.YtllnbmmciejmoaaPChooseKeepsx0
import Derived.Test.YtllnbmmciejmoaaPChooseKeepsx1
import Derived.Test.YtllnbmmciejmoaaPChooseKeepsx2
import Derived.Test.YtllnbmmciejmoaaPChooseKeepsx3
import Derived.Test.YtllnbmmciejmoaaPChooseKeepsx4
import Derived.Test.YtllnbmmciejmoaaPChooseKeepsx5
namespace Go.Proofs.Ytllnbmmciejmoaa.PChooseKeeps
open Go.RowKit Go.Proofs.YtllnbmmciejmoaaW.PrintWords Go.Proofs.YtllnbmmciejmoaaW.PrintLast Go.Proofs.YtllnbmmciejmoaaW.PrintMore
attribute [local go_sem] max2_int min2_int max_two min_two max_three min_three max_four min_four   -- for this text's walks alone
set_option linter.unusedVariables false
set_option linter.unusedSimpArgs false

/-! ### catenarylaw18_ChooseKeeps: function 4 -/
mutual
def catenarylaw18_ChooseKeeps.l0 : Nat → List (S30) → Int → List (S30) → List (S30) → Int → Int → Option (Bool)
  | 0, _, _, _, _, _, _ => none
  | k + 1, x0, x1, x5, x23, x24, x25 => if x25 < x24 then (if 0 ≤ x25 then (if x25 < (x23.length : Int) then ((catenaryref05_CopyReport.f k ((rd_T30 x23 x25).f0.f0) ((rd_T30 x23 x25).f0.f1) ((rd_T30 x23 x25).f1) ((rd_T30 x23 x25).f2) ((rd_T30 x23 x25).f3) ((rd_T30 x23 x25).f4) ((rd_T30 x23 x25).f5) ((rd_T30 x23 x25).f6)).bind fun bt219 => (if x5.length < 1099511627776 then (catenarylaw18_ChooseKeeps.l0 k x0 x1 (x5 ++ [(⟨(⟨bt219.1, bt219.2.1⟩ : S25), bt219.2.2.1, bt219.2.2.2.1, bt219.2.2.2.2.1, bt219.2.2.2.2.2.1, bt219.2.2.2.2.2.2.1, bt219.2.2.2.2.2.2.2⟩ : S30)]) x23 x24 (wrap64 (x25 + 1))) else (none))) else (none)) else (none)) else ((choose_Pick.f k x1 x5).bind fun bt238 => (catenarylaw18_ChooseKeeps.l1 k x0 x1 false false x0 (x0.length : Int) 0 bt238.1 bt238.2.1 bt238.2.2.1 bt238.2.2.2))
def catenarylaw18_ChooseKeeps.l1 : Nat → List (S30) → Int → Bool → Bool → List (S30) → Int → Int → Int → Int → List Int → List Int → Option (Bool)
  | 0, _, _, _, _, _, _, _, _, _, _, _ => none
  | k + 1, x0, x1, x9, x10, x38, x39, x40, x247000, x247001, x247002, x247003 => if x40 < x39 then (if 0 ≤ x40 then (if x40 < (x38.length : Int) then (catenarylaw18_ChooseKeeps.l2 k x0 x1 x9 x10 x38 x39 x40 ((rd_T30 x38 x40).f5) (((rd_T30 x38 x40).f5).length : Int) 0 x247000 x247001 x247002 x247003) else (none)) else (none)) else (if x10 = true then (some x9) else ((catenaryref05_SameReq.f x247000 x247001 x247002 x247003 0 0 ([] : List Int) ([] : List Int)).bind fun t257 => (some t257)))
def catenarylaw18_ChooseKeeps.l2 : Nat → List (S30) → Int → Bool → Bool → List (S30) → Int → Int → List (S45) → Int → Int → Int → Int → List Int → List Int → Option (Bool)
  | 0, _, _, _, _, _, _, _, _, _, _, _, _, _, _ => none
  | k + 1, x0, x1, x9, x10, x38, x39, x40, x45, x46, x47, x247000, x247001, x247002, x247003 => if x47 < x46 then (if 0 ≤ x47 then (if x47 < (x45.length : Int) then (if ((rd_T45 x45 x47).f0) = x1 then (catenarylaw18_ChooseKeeps.l3 k x0 x1 x9 true true x38 x39 x40 x45 x46 x47 x0 (x0.length : Int) 0 x247000 x247001 x247002 x247003 ((rd_T45 x45 x47).f0) ((rd_T45 x45 x47).f1.f0) ((rd_T45 x45 x47).f1.f1) ((rd_T45 x45 x47).f2.f0) ((rd_T45 x45 x47).f2.f1) ((rd_T45 x45 x47).f2.f2) ((rd_T45 x45 x47).f2.f3) ((rd_T45 x45 x47).f3)) else (catenarylaw18_ChooseKeeps.l2 k x0 x1 x9 x10 x38 x39 x40 x45 x46 (wrap64 (x47 + 1)) x247000 x247001 x247002 x247003)) else (none)) else (none)) else (catenarylaw18_ChooseKeeps.l1 k x0 x1 x9 x10 x38 x39 (wrap64 (x40 + 1)) x247000 x247001 x247002 x247003)
def catenarylaw18_ChooseKeeps.l3 : Nat → List (S30) → Int → Bool → Bool → Bool → List (S30) → Int → Int → List (S45) → Int → Int → List (S30) → Int → Int → Int → Int → List Int → List Int → Int → Int → Int → Int → Int → List Int → List Int → List (S57) → Option (Bool)
  | 0, _, _, _, _, _, _, _, _, _, _, _, _, _, _, _, _, _, _, _, _, _, _, _, _, _, _ => none
  | k + 1, x0, x1, x9, x10, x15, x38, x39, x40, x45, x46, x47, x55, x56, x57, x247000, x247001, x247002, x247003, x251000, x251001, x251002, x251003, x251004, x251005, x251006, x251007 => if x57 < x56 then (if 0 ≤ x57 then (if x57 < (x55.length : Int) then (catenarylaw18_ChooseKeeps.l4 k x0 x1 x9 x10 x15 x38 x39 x40 x45 x46 x47 x55 x56 x57 ((rd_T30 x55 x57).f5) (((rd_T30 x55 x57).f5).length : Int) 0 x247000 x247001 x247002 x247003 x251000 x251001 x251002 x251003 x251004 x251005 x251006 x251007) else (none)) else (none)) else (if x9 = true then (catenarylaw18_ChooseKeeps.l2 k x0 x1 true x10 x38 x39 x40 x45 x46 (wrap64 (x47 + 1)) x247000 x247001 x247002 x247003) else (if x15 = true then ((catenaryref05_SameReq.f x247000 x247001 x247002 x247003 x251003 x251004 x251005 x251006).bind fun t256 => (catenarylaw18_ChooseKeeps.l2 k x0 x1 t256 x10 x38 x39 x40 x45 x46 (wrap64 (x47 + 1)) x247000 x247001 x247002 x247003)) else (catenarylaw18_ChooseKeeps.l2 k x0 x1 false x10 x38 x39 x40 x45 x46 (wrap64 (x47 + 1)) x247000 x247001 x247002 x247003)))
def catenarylaw18_ChooseKeeps.l4 : Nat → List (S30) → Int → Bool → Bool → Bool → List (S30) → Int → Int → List (S45) → Int → Int → List (S30) → Int → Int → List (S45) → Int → Int → Int → Int → List Int → List Int → Int → Int → Int → Int → Int → List Int → List Int → List (S57) → Option (Bool)
  | 0, _, _, _, _, _, _, _, _, _, _, _, _, _, _, _, _, _, _, _, _, _, _, _, _, _, _, _, _, _ => none
  | k + 1, x0, x1, x9, x10, x15, x38, x39, x40, x45, x46, x47, x55, x56, x57, x62, x63, x64, x247000, x247001, x247002, x247003, x251000, x251001, x251002, x251003, x251004, x251005, x251006, x251007 => if x64 < x63 then (if 0 ≤ x64 then (if x64 < (x62.length : Int) then (if ((rd_T45 x62 x64).f0) = x1 then ((ballot_Compare.f k ((rd_T45 x62 x64).f1.f0) ((rd_T45 x62 x64).f1.f1) x251001 x251002).bind fun t255 => (catenarylaw18_ChooseKeeps.j5 k x0 x1 x9 x10 x15 x38 x39 x40 x45 x46 x47 x55 x56 x57 x62 x63 x64 (decide (t255 > 0)) x247000 x247001 x247002 x247003 x251000 x251001 x251002 x251003 x251004 x251005 x251006 x251007)) else (catenarylaw18_ChooseKeeps.j5 k x0 x1 x9 x10 x15 x38 x39 x40 x45 x46 x47 x55 x56 x57 x62 x63 x64 false x247000 x247001 x247002 x247003 x251000 x251001 x251002 x251003 x251004 x251005 x251006 x251007)) else (none)) else (none)) else (catenarylaw18_ChooseKeeps.l3 k x0 x1 x9 x10 x15 x38 x39 x40 x45 x46 x47 x55 x56 (wrap64 (x57 + 1)) x247000 x247001 x247002 x247003 x251000 x251001 x251002 x251003 x251004 x251005 x251006 x251007)
def catenarylaw18_ChooseKeeps.j5 : Nat → List (S30) → Int → Bool → Bool → Bool → List (S30) → Int → Int → List (S45) → Int → Int → List (S30) → Int → Int → List (S45) → Int → Int → Bool → Int → Int → List Int → List Int → Int → Int → Int → Int → Int → List Int → List Int → List (S57) → Option (Bool)
  | 0, _, _, _, _, _, _, _, _, _, _, _, _, _, _, _, _, _, _, _, _, _, _, _, _, _, _, _, _, _, _ => none
  | k + 1, x0, x1, x9, x10, x15, x38, x39, x40, x45, x46, x47, x55, x56, x57, x62, x63, x64, x79, x247000, x247001, x247002, x247003, x251000, x251001, x251002, x251003, x251004, x251005, x251006, x251007 => if x79 = true then (catenarylaw18_ChooseKeeps.l4 k x0 x1 x9 x10 false x38 x39 x40 x45 x46 x47 x55 x56 x57 x62 x63 (wrap64 (x64 + 1)) x247000 x247001 x247002 x247003 x251000 x251001 x251002 x251003 x251004 x251005 x251006 x251007) else (catenarylaw18_ChooseKeeps.l4 k x0 x1 x9 x10 x15 x38 x39 x40 x45 x46 x47 x55 x56 x57 x62 x63 (wrap64 (x64 + 1)) x247000 x247001 x247002 x247003 x251000 x251001 x251002 x251003 x251004 x251005 x251006 x251007)
end
def catenarylaw18_ChooseKeeps.f (k : Nat) (l0 : List (S30)) (a1 : Int) : Option (Bool) := (catenarylaw18_chooseAlive.f k).bind fun t213 => (if t213 = true then (catenarylaw18_ChooseKeeps.l0 k l0 a1 (([] : List (S30))) l0 (l0.length : Int) 0) else (none))
theorem catenarylaw18_ChooseKeeps.mono_l : ∀ k, (∀ y0 y1 y2 y3 y4 y5, LeO (catenarylaw18_ChooseKeeps.l0 k y0 y1 y2 y3 y4 y5) (catenarylaw18_ChooseKeeps.l0 (k + 1) y0 y1 y2 y3 y4 y5)) ∧ (∀ y0 y1 y2 y3 y4 y5 y6 y7 y8 y9 y10, LeO (catenarylaw18_ChooseKeeps.l1 k y0 y1 y2 y3 y4 y5 y6 y7 y8 y9 y10) (catenarylaw18_ChooseKeeps.l1 (k + 1) y0 y1 y2 y3 y4 y5 y6 y7 y8 y9 y10)) ∧ (∀ y0 y1 y2 y3 y4 y5 y6 y7 y8 y9 y10 y11 y12 y13, LeO (catenarylaw18_ChooseKeeps.l2 k y0 y1 y2 y3 y4 y5 y6 y7 y8 y9 y10 y11 y12 y13) (catenarylaw18_ChooseKeeps.l2 (k + 1) y0 y1 y2 y3 y4 y5 y6 y7 y8 y9 y10 y11 y12 y13)) ∧ (∀ y0 y1 y2 y3 y4 y5 y6 y7 y8 y9 y10 y11 y12 y13 y14 y15 y16 y17 y18 y19 y20 y21 y22 y23 y24 y25, LeO (catenarylaw18_ChooseKeeps.l3 k y0 y1 y2 y3 y4 y5 y6 y7 y8 y9 y10 y11 y12 y13 y14 y15 y16 y17 y18 y19 y20 y21 y22 y23 y24 y25) (catenarylaw18_ChooseKeeps.l3 (k + 1) y0 y1 y2 y3 y4 y5 y6 y7 y8 y9 y10 y11 y12 y13 y14 y15 y16 y17 y18 y19 y20 y21 y22 y23 y24 y25)) ∧ (∀ y0 y1 y2 y3 y4 y5 y6 y7 y8 y9 y10 y11 y12 y13 y14 y15 y16 y17 y18 y19 y20 y21 y22 y23 y24 y25 y26 y27 y28, LeO (catenarylaw18_ChooseKeeps.l4 k y0 y1 y2 y3 y4 y5 y6 y7 y8 y9 y10 y11 y12 y13 y14 y15 y16 y17 y18 y19 y20 y21 y22 y23 y24 y25 y26 y27 y28) (catenarylaw18_ChooseKeeps.l4 (k + 1) y0 y1 y2 y3 y4 y5 y6 y7 y8 y9 y10 y11 y12 y13 y14 y15 y16 y17 y18 y19 y20 y21 y22 y23 y24 y25 y26 y27 y28)) ∧ (∀ y0 y1 y2 y3 y4 y5 y6 y7 y8 y9 y10 y11 y12 y13 y14 y15 y16 y17 y18 y19 y20 y21 y22 y23 y24 y25 y26 y27 y28 y29, LeO (catenarylaw18_ChooseKeeps.j5 k y0 y1 y2 y3 y4 y5 y6 y7 y8 y9 y10 y11 y12 y13 y14 y15 y16 y17 y18 y19 y20 y21 y22 y23 y24 y25 y26 y27 y28 y29) (catenarylaw18_ChooseKeeps.j5 (k + 1) y0 y1 y2 y3 y4 y5 y6 y7 y8 y9 y10 y11 y12 y13 y14 y15 y16 y17 y18 y19 y20 y21 y22 y23 y24 y25 y26 y27 y28 y29))
  | 0 => ⟨fun _ _ _ _ _ _ r h => by simp [catenarylaw18_ChooseKeeps.l0] at h, fun _ _ _ _ _ _ _ _ _ _ _ r h => by simp [catenarylaw18_ChooseKeeps.l1] at h, fun _ _ _ _ _ _ _ _ _ _ _ _ _ _ r h => by simp [catenarylaw18_ChooseKeeps.l2] at h, fun _ _ _ _ _ _ _ _ _ _ _ _ _ _ _ _ _ _ _ _ _ _ _ _ _ _ r h => by simp [catenarylaw18_ChooseKeeps.l3] at h, fun _ _ _ _ _ _ _ _ _ _ _ _ _ _ _ _ _ _ _ _ _ _ _ _ _ _ _ _ _ r h => by simp [catenarylaw18_ChooseKeeps.l4] at h, fun _ _ _ _ _ _ _ _ _ _ _ _ _ _ _ _ _ _ _ _ _ _ _ _ _ _ _ _ _ _ r h => by simp [catenarylaw18_ChooseKeeps.j5] at h⟩
  | k + 1 => by
    obtain ⟨ih0, ih1, ih2, ih3, ih4, ih5⟩ := catenarylaw18_ChooseKeeps.mono_l k
    refine ⟨?_, ?_, ?_, ?_, ?_, ?_⟩
    · intro y0 y1 y2 y3 y4 y5
      unfold catenarylaw18_ChooseKeeps.l0
      repeat' first
      | (with_reducible exact ih0 _ _ _ _ _ _)
      | (with_reducible exact ih1 _ _ _ _ _ _ _ _ _ _ _)
      | (with_reducible exact ih2 _ _ _ _ _ _ _ _ _ _ _ _ _ _)
      | (with_reducible exact ih3 _ _ _ _ _ _ _ _ _ _ _ _ _ _ _ _ _ _ _ _ _ _ _ _ _ _)
      | (with_reducible exact ih4 _ _ _ _ _ _ _ _ _ _ _ _ _ _ _ _ _ _ _ _ _ _ _ _ _ _ _ _ _)
      | (with_reducible exact ih5 _ _ _ _ _ _ _ _ _ _ _ _ _ _ _ _ _ _ _ _ _ _ _ _ _ _ _ _ _ _)
      | (with_reducible exact ballot_Compare.mono _ _ _ _ _)
      | (with_reducible exact catenarylaw18_chooseAlive.mono _)
      | (with_reducible exact catenaryref05_CopyReport.mono _ _ _ _ _ _ _ _ _)
      | (with_reducible exact choose_Pick.mono _ _ _)
      | (with_reducible exact LeO.refl _)
      | (with_reducible exact LeO.none _)
      | (with_reducible refine LeO.ite ?_ ?_)
      | (with_reducible refine LeO.bind ?_ (fun _ => ?_))
      | exact ih0 _ _ _ _ _ _
      | exact ih1 _ _ _ _ _ _ _ _ _ _ _
      | exact ih2 _ _ _ _ _ _ _ _ _ _ _ _ _ _
      | exact ih3 _ _ _ _ _ _ _ _ _ _ _ _ _ _ _ _ _ _ _ _ _ _ _ _ _ _
      | exact ih4 _ _ _ _ _ _ _ _ _ _ _ _ _ _ _ _ _ _ _ _ _ _ _ _ _ _ _ _ _
      | exact ih5 _ _ _ _ _ _ _ _ _ _ _ _ _ _ _ _ _ _ _ _ _ _ _ _ _ _ _ _ _ _
      | exact ballot_Compare.mono _ _ _ _ _
      | exact catenarylaw18_chooseAlive.mono _
      | exact catenaryref05_CopyReport.mono _ _ _ _ _ _ _ _ _
      | exact choose_Pick.mono _ _ _
      | exact LeO.none _
      | refine LeO.ite ?_ ?_
      | refine LeO.bind ?_ (fun _ => ?_)
    · intro y0 y1 y2 y3 y4 y5 y6 y7 y8 y9 y10
      unfold catenarylaw18_ChooseKeeps.l1
      repeat' first
      | (with_reducible exact ih0 _ _ _ _ _ _)
      | (with_reducible exact ih1 _ _ _ _ _ _ _ _ _ _ _)
      | (with_reducible exact ih2 _ _ _ _ _ _ _ _ _ _ _ _ _ _)
      | (with_reducible exact ih3 _ _ _ _ _ _ _ _ _ _ _ _ _ _ _ _ _ _ _ _ _ _ _ _ _ _)
      | (with_reducible exact ih4 _ _ _ _ _ _ _ _ _ _ _ _ _ _ _ _ _ _ _ _ _ _ _ _ _ _ _ _ _)
      | (with_reducible exact ih5 _ _ _ _ _ _ _ _ _ _ _ _ _ _ _ _ _ _ _ _ _ _ _ _ _ _ _ _ _ _)
      | (with_reducible exact ballot_Compare.mono _ _ _ _ _)
      | (with_reducible exact catenarylaw18_chooseAlive.mono _)
      | (with_reducible exact catenaryref05_CopyReport.mono _ _ _ _ _ _ _ _ _)
      | (with_reducible exact choose_Pick.mono _ _ _)
      | (with_reducible exact LeO.refl _)
      | (with_reducible exact LeO.none _)
      | (with_reducible refine LeO.ite ?_ ?_)
      | (with_reducible refine LeO.bind ?_ (fun _ => ?_))
      | exact ih0 _ _ _ _ _ _
      | exact ih1 _ _ _ _ _ _ _ _ _ _ _
      | exact ih2 _ _ _ _ _ _ _ _ _ _ _ _ _ _
      | exact ih3 _ _ _ _ _ _ _ _ _ _ _ _ _ _ _ _ _ _ _ _ _ _ _ _ _ _
      | exact ih4 _ _ _ _ _ _ _ _ _ _ _ _ _ _ _ _ _ _ _ _ _ _ _ _ _ _ _ _ _
      | exact ih5 _ _ _ _ _ _ _ _ _ _ _ _ _ _ _ _ _ _ _ _ _ _ _ _ _ _ _ _ _ _
      | exact ballot_Compare.mono _ _ _ _ _
      | exact catenarylaw18_chooseAlive.mono _
      | exact catenaryref05_CopyReport.mono _ _ _ _ _ _ _ _ _
      | exact choose_Pick.mono _ _ _
      | exact LeO.none _
      | refine LeO.ite ?_ ?_
      | refine LeO.bind ?_ (fun _ => ?_)
    · intro y0 y1 y2 y3 y4 y5 y6 y7 y8 y9 y10 y11 y12 y13
      unfold catenarylaw18_ChooseKeeps.l2
      repeat' first
      | (with_reducible exact ih0 _ _ _ _ _ _)
      | (with_reducible exact ih1 _ _ _ _ _ _ _ _ _ _ _)
      | (with_reducible exact ih2 _ _ _ _ _ _ _ _ _ _ _ _ _ _)
      | (with_reducible exact ih3 _ _ _ _ _ _ _ _ _ _ _ _ _ _ _ _ _ _ _ _ _ _ _ _ _ _)
      | (with_reducible exact ih4 _ _ _ _ _ _ _ _ _ _ _ _ _ _ _ _ _ _ _ _ _ _ _ _ _ _ _ _ _)
      | (with_reducible exact ih5 _ _ _ _ _ _ _ _ _ _ _ _ _ _ _ _ _ _ _ _ _ _ _ _ _ _ _ _ _ _)
      | (with_reducible exact ballot_Compare.mono _ _ _ _ _)
      | (with_reducible exact catenarylaw18_chooseAlive.mono _)
      | (with_reducible exact catenaryref05_CopyReport.mono _ _ _ _ _ _ _ _ _)
      | (with_reducible exact choose_Pick.mono _ _ _)
      | (with_reducible exact LeO.refl _)
      | (with_reducible exact LeO.none _)
      | (with_reducible refine LeO.ite ?_ ?_)
      | (with_reducible refine LeO.bind ?_ (fun _ => ?_))
      | exact ih0 _ _ _ _ _ _
      | exact ih1 _ _ _ _ _ _ _ _ _ _ _
      | exact ih2 _ _ _ _ _ _ _ _ _ _ _ _ _ _
      | exact ih3 _ _ _ _ _ _ _ _ _ _ _ _ _ _ _ _ _ _ _ _ _ _ _ _ _ _
      | exact ih4 _ _ _ _ _ _ _ _ _ _ _ _ _ _ _ _ _ _ _ _ _ _ _ _ _ _ _ _ _
      | exact ih5 _ _ _ _ _ _ _ _ _ _ _ _ _ _ _ _ _ _ _ _ _ _ _ _ _ _ _ _ _ _
      | exact ballot_Compare.mono _ _ _ _ _
      | exact catenarylaw18_chooseAlive.mono _
      | exact catenaryref05_CopyReport.mono _ _ _ _ _ _ _ _ _
      | exact choose_Pick.mono _ _ _
      | exact LeO.none _
      | refine LeO.ite ?_ ?_
      | refine LeO.bind ?_ (fun _ => ?_)
    · intro y0 y1 y2 y3 y4 y5 y6 y7 y8 y9 y10 y11 y12 y13 y14 y15 y16 y17 y18 y19 y20 y21 y22 y23 y24 y25
      unfold catenarylaw18_ChooseKeeps.l3
      repeat' first
      | (with_reducible exact ih0 _ _ _ _ _ _)
      | (with_reducible exact ih1 _ _ _ _ _ _ _ _ _ _ _)
      | (with_reducible exact ih2 _ _ _ _ _ _ _ _ _ _ _ _ _ _)
      | (with_reducible exact ih3 _ _ _ _ _ _ _ _ _ _ _ _ _ _ _ _ _ _ _ _ _ _ _ _ _ _)
      | (with_reducible exact ih4 _ _ _ _ _ _ _ _ _ _ _ _ _ _ _ _ _ _ _ _ _ _ _ _ _ _ _ _ _)
      | (with_reducible exact ih5 _ _ _ _ _ _ _ _ _ _ _ _ _ _ _ _ _ _ _ _ _ _ _ _ _ _ _ _ _ _)
      | (with_reducible exact ballot_Compare.mono _ _ _ _ _)
      | (with_reducible exact catenarylaw18_chooseAlive.mono _)
      | (with_reducible exact catenaryref05_CopyReport.mono _ _ _ _ _ _ _ _ _)
      | (with_reducible exact choose_Pick.mono _ _ _)
      | (with_reducible exact LeO.refl _)
      | (with_reducible exact LeO.none _)
      | (with_reducible refine LeO.ite ?_ ?_)
      | (with_reducible refine LeO.bind ?_ (fun _ => ?_))
      | exact ih0 _ _ _ _ _ _
      | exact ih1 _ _ _ _ _ _ _ _ _ _ _
      | exact ih2 _ _ _ _ _ _ _ _ _ _ _ _ _ _
      | exact ih3 _ _ _ _ _ _ _ _ _ _ _ _ _ _ _ _ _ _ _ _ _ _ _ _ _ _
      | exact ih4 _ _ _ _ _ _ _ _ _ _ _ _ _ _ _ _ _ _ _ _ _ _ _ _ _ _ _ _ _
      | exact ih5 _ _ _ _ _ _ _ _ _ _ _ _ _ _ _ _ _ _ _ _ _ _ _ _ _ _ _ _ _ _
      | exact ballot_Compare.mono _ _ _ _ _
      | exact catenarylaw18_chooseAlive.mono _
      | exact catenaryref05_CopyReport.mono _ _ _ _ _ _ _ _ _
      | exact choose_Pick.mono _ _ _
      | exact LeO.none _
      | refine LeO.ite ?_ ?_
      | refine LeO.bind ?_ (fun _ => ?_)
    · intro y0 y1 y2 y3 y4 y5 y6 y7 y8 y9 y10 y11 y12 y13 y14 y15 y16 y17 y18 y19 y20 y21 y22 y23 y24 y25 y26 y27 y28
      unfold catenarylaw18_ChooseKeeps.l4
      repeat' first
      | (with_reducible exact ih0 _ _ _ _ _ _)
      | (with_reducible exact ih1 _ _ _ _ _ _ _ _ _ _ _)
      | (with_reducible exact ih2 _ _ _ _ _ _ _ _ _ _ _ _ _ _)
      | (with_reducible exact ih3 _ _ _ _ _ _ _ _ _ _ _ _ _ _ _ _ _ _ _ _ _ _ _ _ _ _)
      | (with_reducible exact ih4 _ _ _ _ _ _ _ _ _ _ _ _ _ _ _ _ _ _ _ _ _ _ _ _ _ _ _ _ _)
      | (with_reducible exact ih5 _ _ _ _ _ _ _ _ _ _ _ _ _ _ _ _ _ _ _ _ _ _ _ _ _ _ _ _ _ _)
      | (with_reducible exact ballot_Compare.mono _ _ _ _ _)
      | (with_reducible exact catenarylaw18_chooseAlive.mono _)
      | (with_reducible exact catenaryref05_CopyReport.mono _ _ _ _ _ _ _ _ _)
      | (with_reducible exact choose_Pick.mono _ _ _)
      | (with_reducible exact LeO.refl _)
      | (with_reducible exact LeO.none _)
      | (with_reducible refine LeO.ite ?_ ?_)
      | (with_reducible refine LeO.bind ?_ (fun _ => ?_))
      | exact ih0 _ _ _ _ _ _
      | exact ih1 _ _ _ _ _ _ _ _ _ _ _
      | exact ih2 _ _ _ _ _ _ _ _ _ _ _ _ _ _
      | exact ih3 _ _ _ _ _ _ _ _ _ _ _ _ _ _ _ _ _ _ _ _ _ _ _ _ _ _
      | exact ih4 _ _ _ _ _ _ _ _ _ _ _ _ _ _ _ _ _ _ _ _ _ _ _ _ _ _ _ _ _
      | exact ih5 _ _ _ _ _ _ _ _ _ _ _ _ _ _ _ _ _ _ _ _ _ _ _ _ _ _ _ _ _ _
      | exact ballot_Compare.mono _ _ _ _ _
      | exact catenarylaw18_chooseAlive.mono _
      | exact catenaryref05_CopyReport.mono _ _ _ _ _ _ _ _ _
      | exact choose_Pick.mono _ _ _
      | exact LeO.none _
      | refine LeO.ite ?_ ?_
      | refine LeO.bind ?_ (fun _ => ?_)
    · intro y0 y1 y2 y3 y4 y5 y6 y7 y8 y9 y10 y11 y12 y13 y14 y15 y16 y17 y18 y19 y20 y21 y22 y23 y24 y25 y26 y27 y28 y29
      unfold catenarylaw18_ChooseKeeps.j5
      repeat' first
      | (with_reducible exact ih0 _ _ _ _ _ _)
      | (with_reducible exact ih1 _ _ _ _ _ _ _ _ _ _ _)
      | (with_reducible exact ih2 _ _ _ _ _ _ _ _ _ _ _ _ _ _)
      | (with_reducible exact ih3 _ _ _ _ _ _ _ _ _ _ _ _ _ _ _ _ _ _ _ _ _ _ _ _ _ _)
      | (with_reducible exact ih4 _ _ _ _ _ _ _ _ _ _ _ _ _ _ _ _ _ _ _ _ _ _ _ _ _ _ _ _ _)
      | (with_reducible exact ih5 _ _ _ _ _ _ _ _ _ _ _ _ _ _ _ _ _ _ _ _ _ _ _ _ _ _ _ _ _ _)
      | (with_reducible exact ballot_Compare.mono _ _ _ _ _)
      | (with_reducible exact catenarylaw18_chooseAlive.mono _)
      | (with_reducible exact catenaryref05_CopyReport.mono _ _ _ _ _ _ _ _ _)
      | (with_reducible exact choose_Pick.mono _ _ _)
      | (with_reducible exact LeO.refl _)
      | (with_reducible exact LeO.none _)
      | (with_reducible refine LeO.ite ?_ ?_)
      | (with_reducible refine LeO.bind ?_ (fun _ => ?_))
      | exact ih0 _ _ _ _ _ _
      | exact ih1 _ _ _ _ _ _ _ _ _ _ _
      | exact ih2 _ _ _ _ _ _ _ _ _ _ _ _ _ _
      | exact ih3 _ _ _ _ _ _ _ _ _ _ _ _ _ _ _ _ _ _ _ _ _ _ _ _ _ _
      | exact ih4 _ _ _ _ _ _ _ _ _ _ _ _ _ _ _ _ _ _ _ _ _ _ _ _ _ _ _ _ _
      | exact ih5 _ _ _ _ _ _ _ _ _ _ _ _ _ _ _ _ _ _ _ _ _ _ _ _ _ _ _ _ _ _
      | exact ballot_Compare.mono _ _ _ _ _
      | exact catenarylaw18_chooseAlive.mono _
      | exact catenaryref05_CopyReport.mono _ _ _ _ _ _ _ _ _
      | exact choose_Pick.mono _ _ _
      | exact LeO.none _
      | refine LeO.ite ?_ ?_
      | refine LeO.bind ?_ (fun _ => ?_)
theorem catenarylaw18_ChooseKeeps.mono : ∀ a0 a1 k, LeO (catenarylaw18_ChooseKeeps.f k a0 a1) (catenarylaw18_ChooseKeeps.f (k + 1) a0 a1) := by
  intro a0 a1 k
  obtain ⟨ih0, ih1, ih2, ih3, ih4, ih5⟩ := catenarylaw18_ChooseKeeps.mono_l k
  unfold catenarylaw18_ChooseKeeps.f
  repeat' first
      | (with_reducible exact ih0 _ _ _ _ _ _)
      | (with_reducible exact ih1 _ _ _ _ _ _ _ _ _ _ _)
      | (with_reducible exact ih2 _ _ _ _ _ _ _ _ _ _ _ _ _ _)
      | (with_reducible exact ih3 _ _ _ _ _ _ _ _ _ _ _ _ _ _ _ _ _ _ _ _ _ _ _ _ _ _)
      | (with_reducible exact ih4 _ _ _ _ _ _ _ _ _ _ _ _ _ _ _ _ _ _ _ _ _ _ _ _ _ _ _ _ _)
      | (with_reducible exact ih5 _ _ _ _ _ _ _ _ _ _ _ _ _ _ _ _ _ _ _ _ _ _ _ _ _ _ _ _ _ _)
      | (with_reducible exact ballot_Compare.mono _ _ _ _ _)
      | (with_reducible exact catenarylaw18_chooseAlive.mono _)
      | (with_reducible exact catenaryref05_CopyReport.mono _ _ _ _ _ _ _ _ _)
      | (with_reducible exact choose_Pick.mono _ _ _)
      | (with_reducible exact LeO.refl _)
      | (with_reducible exact LeO.none _)
      | (with_reducible refine LeO.ite ?_ ?_)
      | (with_reducible refine LeO.bind ?_ (fun _ => ?_))
      | exact ih0 _ _ _ _ _ _
      | exact ih1 _ _ _ _ _ _ _ _ _ _ _
      | exact ih2 _ _ _ _ _ _ _ _ _ _ _ _ _ _
      | exact ih3 _ _ _ _ _ _ _ _ _ _ _ _ _ _ _ _ _ _ _ _ _ _ _ _ _ _
      | exact ih4 _ _ _ _ _ _ _ _ _ _ _ _ _ _ _ _ _ _ _ _ _ _ _ _ _ _ _ _ _
      | exact ih5 _ _ _ _ _ _ _ _ _ _ _ _ _ _ _ _ _ _ _ _ _ _ _ _ _ _ _ _ _ _
      | exact ballot_Compare.mono _ _ _ _ _
      | exact catenarylaw18_chooseAlive.mono _
      | exact catenaryref05_CopyReport.mono _ _ _ _ _ _ _ _ _
      | exact choose_Pick.mono _ _ _
      | exact LeO.none _
      | refine LeO.ite ?_ ?_
      | refine LeO.bind ?_ (fun _ => ?_)
set_option maxHeartbeats 8000000 in
set_option maxRecDepth 100000 in
theorem catenarylaw18_ChooseKeeps.calls (k : Nat) (A0 : Option Addr) (c0 : Nat) (l0 : List (S30)) (a1 : Int) (r : Bool) (w : World) (hr0 : Kd.C k30 w A0 l0.length l0) (hc0 : l0.length ≤ c0) (h : catenarylaw18_ChooseKeeps.f k l0 a1 = some r) :
    Calls Try.prog 4 #[.slice A0 l0.length c0, .int .i64 a1] w fun e w' => e = .returned (.bool r) ∧ Below w.heap.size w w' := by
  have hu30 := Try.underlying30
  have hu36 := Try.underlying36
  have hu45 := Try.underlying45
  have hu25 := Try.underlying25
  have HR0 := Aside0.mk hr0
  have HC0 := Aside0.mk hc0
  clear hr0 hc0
  have HB := Aside0.mk (Below.refl w.heap.size w)
  have H : ((catenarylaw18_chooseAlive.f k).bind fun t213 => (if t213 = true then (catenarylaw18_ChooseKeeps.l0 k l0 a1 (([] : List (S30))) l0 (l0.length : Int) 0) else (none))) = some r := h
  clear h
  replace H := Option.bind_eq_some_iff.mp H
  obtain ⟨t213, A30, H⟩ := H
  replace H : (if t213 = true then (catenarylaw18_ChooseKeeps.l0 k l0 a1 (([] : List (S30))) l0 (l0.length : Int) 0) else (none)) = some r := H
  have A3 := Aside0.mk A30
  clear A30
  by_cases c4 : t213 = true
  · subst c4
    have H1 : (catenarylaw18_ChooseKeeps.l0 k l0 a1 (([] : List (S30))) l0 (l0.length : Int) 0) = some r := by rw [if_pos rfl] at H; exact H
    clear H
    have H := H1
    clear H1
    obtain ⟨y214, hy214⟩ : ∃ y_ : List (S30), y_ = (([] : List (S30))) := ⟨_, rfl⟩
    replace H : (catenarylaw18_ChooseKeeps.l0 k l0 a1 y214 l0 (l0.length : Int) 0) = some r := by first | (rw [hy214]; with_reducible exact H) | (have H2_ := (Option.bind_some _ _).symm.trans H; rw [hy214]; with_reducible exact H2_) | (have H2_ := (Option.bind_some _ _).symm.trans H; with_reducible exact H2_) | with_reducible exact H | (rw [hy214]; exact H) | exact H
    have Ny214 := Aside0.mk hy214
    clear hy214
    have H' := Aside0.mk H
    clear H
    go_enter Try.func4, Try.ntmps4
    go_wp2_with (first | ((with_reducible refine gate_callee (f := 5) rfl ?_); refine goesL_ (some 20) rfl rfl Try.func5 (by kernel_rfl) rfl #[] rfl (by (try simp only [List.map_toArray, List.map_cons, List.map_nil]); first | done | rfl | (simp only [List.length_drop, List.length_take]; rfl)) ?_; (with_reducible refine (catenarylaw18_chooseAlive.calls k  true _ A3.out).mono ?_); rintro e w5 ⟨rfl, hb⟩; refine ⟨_, rfl, ?_⟩; have n0_ := Aside0.mk (below_step (by repeat (first | (with_reducible first | exact HB.out | apply below_alloc | apply pw_below_drewN | apply below_drew1) | exact HB.out)) hb); clear HB; have HB := n0_; clear n0_; (try clear hb); (try clear hb2); (try clear hk); (try clear hi)) | ((with_reducible refine gate_dst (N := 22) rfl ?_); refine Kd.R_lit k30 _ 30 ?hg (N := 22) ?hd (xs := ([] : List (S30))) (inner := []) (ok := fun _ => True) (okp := fun _ => True) ?hr ?hp (fun _ hk => hk) trivial (Below.refl _ _) (Nat.le_refl _) (by simp) ?_; (case hd => rfl); (case hg => rfl); (case hr => first | (go_simp; done) | (go_simp; rfl)); (case hp => exact (Reps.none _ _)); intro v215 w6 ho7 hb hg_ hnew_; clear hg_ hnew_; (first | rw [← Ny214.out] at ho7 | (simp only [Int.reduceToNat] at ho7; rw [← Ny214.out] at ho7)); have n0_ := Aside0.mk (Kd.R_lower ho7 (below_size (by repeat (first | (with_reducible first | exact HB.out | apply below_alloc | apply pw_below_drewN | apply below_drew1) | exact HB.out)))); have n1_ := Aside0.mk (below_step (by repeat (first | (with_reducible first | exact HB.out | apply below_alloc | apply pw_below_drewN | apply below_drew1) | exact HB.out)) hb); clear HB; have HO216 := n0_; have HB := n1_; clear n0_ n1_; clear hb ho7))
    go_loopg [5, 25] k (fun kq v5 v25 w' => ∃ (x5_1 : List (S30)) (x25_1 : Int), v25 = .int .i64 x25_1 ∧ Aside0 (catenarylaw18_ChooseKeeps.l0 kq l0 a1 x5_1 l0 (l0.length : Int) x25_1 = some r) ∧ Aside0 (kq ≤ k) ∧ Aside0 (Kd.R k30 30 w' w.heap.size (fun _ => True) v5 x5_1) ∧ Aside0 (Below w.heap.size w w'))
    case atStart => exact ⟨(y214), (0), (by first | rfl | (simp; done) | (simp [*]; done)), H', ⟨Nat.le_refl _⟩, ⟨by (with_reducible repeat (first | apply Kd.R_alloc | apply Kd.R_drewN | apply Kd.R_drew)); exact HO216.out⟩, ⟨by repeat (first | (with_reducible first | exact HB.out | apply below_alloc | apply pw_below_drewN | apply below_drew1) | exact HB.out)⟩⟩
    case round =>
      clear H'
      try clear p2
      try clear c4
      try clear c5
      obtain ⟨x5_1, x25_1, rfl, HA, HK1, HO_5, HB⟩ := hrel
      cases gk with
      | zero => exact absurd HA.out (by simp [catenarylaw18_ChooseKeeps.l0])
      | succ k1 =>
        have H := HA.out
        clear HA
        simp only [catenarylaw18_ChooseKeeps.l0] at H
        by_cases c8 : x25_1 < (l0.length : Int)
        · rw [if_pos c8] at H
          have c8b0 : decide (x25_1 < (l0.length : Int)) = true := decide_eq_true c8
          clear c8
          by_cases c9 : 0 ≤ x25_1
          · rw [if_pos c9] at H
            have c9b0 : decide (0 ≤ x25_1) = true := decide_eq_true c9
            clear c9
            by_cases c10 : x25_1 < (l0.length : Int)
            · rw [if_pos c10] at H
              have c10b0 : decide (x25_1 < (l0.length : Int)) = true := decide_eq_true c10
              clear c10
              replace H := Option.bind_eq_some_iff.mp H
              obtain ⟨⟨t219, t220, t221, t222, t223, t226, t229, t232⟩, A110, H⟩ := H
              replace H : (if x5_1.length < 1099511627776 then (catenarylaw18_ChooseKeeps.l0 k1 l0 a1 (x5_1 ++ [(⟨(⟨t219, t220⟩ : S25), t221, t222, t223, t226, t229, t232⟩ : S30)]) l0 (l0.length : Int) (wrap64 (x25_1 + 1))) else (none)) = some r := H
              have A11 := Aside0.mk A110
              clear A110
              by_cases c12 : x5_1.length < 1099511627776
              · rw [if_pos c12] at H
                have LMc12 := Aside0.mk c12
                clear c12
                obtain ⟨y235, hy235⟩ : ∃ y_ : List (S30), y_ = (x5_1 ++ [(⟨(⟨t219, t220⟩ : S25), t221, t222, t223, t226, t229, t232⟩ : S30)]) := ⟨_, rfl⟩
                replace H : (catenarylaw18_ChooseKeeps.l0 k1 l0 a1 y235 l0 (l0.length : Int) (wrap64 (x25_1 + 1))) = some r := by first | (rw [hy235]; with_reducible exact H) | (have H2_ := (Option.bind_some _ _).symm.trans H; rw [hy235]; with_reducible exact H2_) | (have H2_ := (Option.bind_some _ _).symm.trans H; with_reducible exact H2_) | with_reducible exact H | (rw [hy235]; exact H) | exact H
                have Ny235 := Aside0.mk hy235
                clear hy235
                have H' := Aside0.mk H
                clear H
                have p217 : 0 ≤ (x25_1 : Int) := of_decide_eq_true (by first | (with_reducible assumption) | assumption)
                have q217 : x25_1 < (l0.length : Int) := of_decide_eq_true (by first | (with_reducible assumption) | assumption)
                obtain ⟨ad217, A217_4, c217_4, A217_5, c217_5, A217_6, c217_6, A217_7, c217_7, e217, hx217_0, hx217_1, hx217_2, hx217_3, hx217_4, hx217_5, hx217_6, hx217_7, hl217_4, hi217_4, hl217_5, hi217_5, hl217_6, hi217_6, hl217_7, hi217_7⟩ := at_T30 HR0.out x25_1 p217 q217
                cases e217
                replace hx217_0 := (HB.out.cell (World.block_lt_of_cell? w _ hx217_0)).trans hx217_0
                replace hx217_1 := (HB.out.cell (World.block_lt_of_cell? w _ hx217_1)).trans hx217_1
                replace hx217_2 := (HB.out.cell (World.block_lt_of_cell? w _ hx217_2)).trans hx217_2
                replace hx217_3 := (HB.out.cell (World.block_lt_of_cell? w _ hx217_3)).trans hx217_3
                replace hx217_4 := (HB.out.cell (World.block_lt_of_cell? w _ hx217_4)).trans hx217_4
                replace hx217_5 := (HB.out.cell (World.block_lt_of_cell? w _ hx217_5)).trans hx217_5
                replace hx217_6 := (HB.out.cell (World.block_lt_of_cell? w _ hx217_6)).trans hx217_6
                replace hx217_7 := (HB.out.cell (World.block_lt_of_cell? w _ hx217_7)).trans hx217_7
                have HR217_4 := Aside0.mk hi217_4
                have HC217_4 := Aside0.mk hl217_4
                clear hi217_4 hl217_4
                have HR217_5 := Aside0.mk hi217_5
                have HC217_5 := Aside0.mk hl217_5
                clear hi217_5 hl217_5
                have HR217_6 := Aside0.mk hi217_6
                have HC217_6 := Aside0.mk hl217_6
                clear hi217_6 hl217_6
                have HR217_7 := Aside0.mk hi217_7
                have HC217_7 := Aside0.mk hl217_7
                clear hi217_7 hl217_7
                replace p217 := eq_true p217
                replace q217 := eq_true q217
                go_wp2_with (first | ((with_reducible refine gate_dst (N := 7) rfl ?_); refine box_event ?hg (N := 7) ?hd (cs := #[.int .i64 0, .int .i64 0, .int .i64 0, .int .i64 0, .slice none 0 0, .slice none 0 0, .slice none 0 0, .slice none 0 0]) (t := 30) ?hr ?_; (case hd => rfl); (case hg => rfl); (case hr => first | (go_simp; done) | (go_simp; rfl)); intro gb218 hg w13 hbox hb; have n0_ := Aside0.mk (Kd.R_below (Kd.R_elderB (by (with_reducible repeat (first | apply Kd.R_alloc | apply Kd.R_drewN | apply Kd.R_drew)); exact HO_5.out) gb218 (Nat.le_of_eq hg.symm)) hb); have n1_ := Aside0.mk (below_step (by repeat (first | (with_reducible first | exact HB.out | apply below_alloc | apply pw_below_drewN | apply below_drew1) | exact HB.out)) hb); have n2_ := Aside0.mk (hbox); have n3_ := Aside0.mk ((by rw [hg]; exact (below_size (by repeat (first | (with_reducible first | exact HB.out | apply below_alloc | apply pw_below_drewN | apply below_drew1) | exact HB.out))) : w.heap.size ≤ gb218)); have n4_ := Aside0.mk ((by rw [hg]; exact (below_size (by repeat (first | (with_reducible first | exact HB.out | apply below_alloc | apply pw_below_drewN | apply below_drew1) | exact HB.out))) : w.heap.size ≤ gb218)); clear HO_5; clear HB; have HO_5 := n0_; have HB := n1_; have BK218 := n2_; have GW218 := n3_; have GE218 := n4_; clear n0_ n1_ n2_ n3_ n4_; clear hb hbox hg; have hcz14_0 : w13.cell? ⟨gb218, 0, none⟩ = some (.int .i64 0) := (blk_cell BK218.out 0).trans rfl; have hcz14_1 : w13.cell? ⟨gb218, 1, none⟩ = some (.int .i64 0) := (blk_cell BK218.out 1).trans rfl; have hcz14_2 : w13.cell? ⟨gb218, 2, none⟩ = some (.int .i64 0) := (blk_cell BK218.out 2).trans rfl; have hcz14_3 : w13.cell? ⟨gb218, 3, none⟩ = some (.int .i64 0) := (blk_cell BK218.out 3).trans rfl; have hcz14_4 : w13.cell? ⟨gb218, 4, none⟩ = some (.slice none 0 0) := (blk_cell BK218.out 4).trans rfl; have hcz14_5 : w13.cell? ⟨gb218, 5, none⟩ = some (.slice none 0 0) := (blk_cell BK218.out 5).trans rfl; have hcz14_6 : w13.cell? ⟨gb218, 6, none⟩ = some (.slice none 0 0) := (blk_cell BK218.out 6).trans rfl; have hcz14_7 : w13.cell? ⟨gb218, 7, none⟩ = some (.slice none 0 0) := (blk_cell BK218.out 7).trans rfl; have hfz14_0 := blk_frozen BK218.out 0; have hfz14_1 := blk_frozen BK218.out 1; have hfz14_2 := blk_frozen BK218.out 2; have hfz14_3 := blk_frozen BK218.out 3; have hfz14_4 := blk_frozen BK218.out 4; have hfz14_5 := blk_frozen BK218.out 5; have hfz14_6 := blk_frozen BK218.out 6; have hfz14_7 := blk_frozen BK218.out 7) | ((with_reducible refine gate_callee (f := 6) rfl ?_); refine goesL_ (some 31) rfl rfl Try.func6 (by kernel_rfl) rfl #[.agg #[.int .i64 ((rd_T30 l0 x25_1).f0.f0), .int .i64 ((rd_T30 l0 x25_1).f0.f1), .int .i64 ((rd_T30 l0 x25_1).f1), .int .i64 ((rd_T30 l0 x25_1).f2), .slice A217_4 ((rd_T30 l0 x25_1).f3).length c217_4, .slice A217_5 ((rd_T30 l0 x25_1).f4).length c217_5, .slice A217_6 ((rd_T30 l0 x25_1).f5).length c217_6, .slice A217_7 ((rd_T30 l0 x25_1).f6).length c217_7]] rfl (by (try simp only [List.map_toArray, List.map_cons, List.map_nil]); first | done | rfl | (simp only [List.length_drop, List.length_take]; rfl)) ?_; (with_reducible refine (catenaryref05_CopyReport.calls k1 ((rd_T30 l0 x25_1).f0.f0) ((rd_T30 l0 x25_1).f0.f1) ((rd_T30 l0 x25_1).f1) ((rd_T30 l0 x25_1).f2) _ _ ((rd_T30 l0 x25_1).f3) _ _ ((rd_T30 l0 x25_1).f4) _ _ ((rd_T30 l0 x25_1).f5) _ _ ((rd_T30 l0 x25_1).f6) t219 t220 t221 t222 t223 t226 t229 t232 _ ?side1 ?side2 ?side3 ?side4 ?side5 ?side6 ?side7 ?side8 A11.out).mono ?_); (case side1 => exact Kd.C_below HR217_4.out (by repeat (first | (with_reducible first | exact HB.out | apply below_alloc | apply pw_below_drewN | apply below_drew1 | refine below_set ?_ GE218.out) | exact HB.out))); (case side2 => exact HC217_4.out); (case side3 => exact Kd.C_below HR217_5.out (by repeat (first | (with_reducible first | exact HB.out | apply below_alloc | apply pw_below_drewN | apply below_drew1 | refine below_set ?_ GE218.out) | exact HB.out))); (case side4 => exact HC217_5.out); (case side5 => exact Kd.C_below HR217_6.out (by repeat (first | (with_reducible first | exact HB.out | apply below_alloc | apply pw_below_drewN | apply below_drew1 | refine below_set ?_ GE218.out) | exact HB.out))); (case side6 => exact HC217_6.out); (case side7 => exact Kd.C_below HR217_7.out (by repeat (first | (with_reducible first | exact HB.out | apply below_alloc | apply pw_below_drewN | apply below_drew1 | refine below_set ?_ GE218.out) | exact HB.out))); (case side8 => exact HC217_7.out); rintro e w15 ⟨v224, v227, v230, v233, rfl, ho0, ho1, ho2, ho3, hb⟩; refine ⟨_, rfl, ?_⟩; have n0_ := Aside0.mk (Kd.R_mono (Kd.R_told (Kd.R_told (Kd.R_told (Kd.R_told (Kd.R_old (by (with_reducible repeat (first | apply Kd.R_alloc | apply Kd.R_drewN | apply Kd.R_drew)); exact (Kd.R_mono (Kd.R_far (p := ⟨gb218, 7, none⟩) (Kd.R_far (p := ⟨gb218, 6, none⟩) (Kd.R_far (p := ⟨gb218, 5, none⟩) (Kd.R_far (p := ⟨gb218, 4, none⟩) (Kd.R_far (p := ⟨gb218, 3, none⟩) (Kd.R_far (p := ⟨gb218, 2, none⟩) (Kd.R_far (p := ⟨gb218, 1, none⟩) (Kd.R_far (p := ⟨gb218, 0, none⟩) (Kd.R_mono HO_5.out (fun k_ hk => (⟨hk, hk.2⟩ : _ ∧ k_ ≠ gb218))) (fun _ hk => hk.2) (.int .i64 ((rd_T30 l0 x25_1).f0.f0))) (fun _ hk => hk.2) (.int .i64 ((rd_T30 l0 x25_1).f0.f1))) (fun _ hk => hk.2) (.int .i64 ((rd_T30 l0 x25_1).f1))) (fun _ hk => hk.2) (.int .i64 ((rd_T30 l0 x25_1).f2))) (fun _ hk => hk.2) (.slice A217_4 ((rd_T30 l0 x25_1).f3).length c217_4)) (fun _ hk => hk.2) (.slice A217_5 ((rd_T30 l0 x25_1).f4).length c217_5)) (fun _ hk => hk.2) (.slice A217_6 ((rd_T30 l0 x25_1).f5).length c217_6)) (fun _ hk => hk.2) (.slice A217_7 ((rd_T30 l0 x25_1).f6).length c217_7)) (fun _ h_ => h_.1))) hb) (Kd.R_base ho0)) (Kd.S_base ho1)) (Kd.R_base ho2)) (Kd.R_base ho3)) (fun _ h_ => h_.1)); have n1_ := Aside0.mk (Kd.R_lower ho0 (below_size (by repeat (first | (with_reducible first | exact HB.out | apply below_alloc | apply pw_below_drewN | apply below_drew1 | refine below_set ?_ GE218.out) | exact HB.out)))); have n2_ := Aside0.mk (Kd.S_lower ho1 (below_size (by repeat (first | (with_reducible first | exact HB.out | apply below_alloc | apply pw_below_drewN | apply below_drew1 | refine below_set ?_ GE218.out) | exact HB.out)))); have n3_ := Aside0.mk (Kd.R_lower ho2 (below_size (by repeat (first | (with_reducible first | exact HB.out | apply below_alloc | apply pw_below_drewN | apply below_drew1 | refine below_set ?_ GE218.out) | exact HB.out)))); have n4_ := Aside0.mk (Kd.R_lower ho3 (below_size (by repeat (first | (with_reducible first | exact HB.out | apply below_alloc | apply pw_below_drewN | apply below_drew1 | refine below_set ?_ GE218.out) | exact HB.out)))); have n5_ := Aside0.mk (blk_below (g := gb218) (o := .cells #[.int .i64 ((rd_T30 l0 x25_1).f0.f0), .int .i64 ((rd_T30 l0 x25_1).f0.f1), .int .i64 ((rd_T30 l0 x25_1).f1), .int .i64 ((rd_T30 l0 x25_1).f2), .slice A217_4 ((rd_T30 l0 x25_1).f3).length c217_4, .slice A217_5 ((rd_T30 l0 x25_1).f4).length c217_5, .slice A217_6 ((rd_T30 l0 x25_1).f5).length c217_6, .slice A217_7 ((rd_T30 l0 x25_1).f6).length c217_7] 30 (0, 0)) (by (with_reducible repeat (first | refine blk_drewN ?_ _ | refine blk_drew ?_ | refine blk_alloc ?_ _)); refine blk_put (cs := #[.int .i64 ((rd_T30 l0 x25_1).f0.f0), .int .i64 ((rd_T30 l0 x25_1).f0.f1), .int .i64 ((rd_T30 l0 x25_1).f1), .int .i64 ((rd_T30 l0 x25_1).f2), .slice A217_4 ((rd_T30 l0 x25_1).f3).length c217_4, .slice A217_5 ((rd_T30 l0 x25_1).f4).length c217_5, .slice A217_6 ((rd_T30 l0 x25_1).f5).length c217_6, .slice none 0 0]) ?_ 7 _ rfl; (with_reducible repeat (first | refine blk_drewN ?_ _ | refine blk_drew ?_ | refine blk_alloc ?_ _)); refine blk_put (cs := #[.int .i64 ((rd_T30 l0 x25_1).f0.f0), .int .i64 ((rd_T30 l0 x25_1).f0.f1), .int .i64 ((rd_T30 l0 x25_1).f1), .int .i64 ((rd_T30 l0 x25_1).f2), .slice A217_4 ((rd_T30 l0 x25_1).f3).length c217_4, .slice A217_5 ((rd_T30 l0 x25_1).f4).length c217_5, .slice none 0 0, .slice none 0 0]) ?_ 6 _ rfl; (with_reducible repeat (first | refine blk_drewN ?_ _ | refine blk_drew ?_ | refine blk_alloc ?_ _)); refine blk_put (cs := #[.int .i64 ((rd_T30 l0 x25_1).f0.f0), .int .i64 ((rd_T30 l0 x25_1).f0.f1), .int .i64 ((rd_T30 l0 x25_1).f1), .int .i64 ((rd_T30 l0 x25_1).f2), .slice A217_4 ((rd_T30 l0 x25_1).f3).length c217_4, .slice none 0 0, .slice none 0 0, .slice none 0 0]) ?_ 5 _ rfl; (with_reducible repeat (first | refine blk_drewN ?_ _ | refine blk_drew ?_ | refine blk_alloc ?_ _)); refine blk_put (cs := #[.int .i64 ((rd_T30 l0 x25_1).f0.f0), .int .i64 ((rd_T30 l0 x25_1).f0.f1), .int .i64 ((rd_T30 l0 x25_1).f1), .int .i64 ((rd_T30 l0 x25_1).f2), .slice none 0 0, .slice none 0 0, .slice none 0 0, .slice none 0 0]) ?_ 4 _ rfl; (with_reducible repeat (first | refine blk_drewN ?_ _ | refine blk_drew ?_ | refine blk_alloc ?_ _)); refine blk_put (cs := #[.int .i64 ((rd_T30 l0 x25_1).f0.f0), .int .i64 ((rd_T30 l0 x25_1).f0.f1), .int .i64 ((rd_T30 l0 x25_1).f1), .int .i64 0, .slice none 0 0, .slice none 0 0, .slice none 0 0, .slice none 0 0]) ?_ 3 _ rfl; (with_reducible repeat (first | refine blk_drewN ?_ _ | refine blk_drew ?_ | refine blk_alloc ?_ _)); refine blk_put (cs := #[.int .i64 ((rd_T30 l0 x25_1).f0.f0), .int .i64 ((rd_T30 l0 x25_1).f0.f1), .int .i64 0, .int .i64 0, .slice none 0 0, .slice none 0 0, .slice none 0 0, .slice none 0 0]) ?_ 2 _ rfl; (with_reducible repeat (first | refine blk_drewN ?_ _ | refine blk_drew ?_ | refine blk_alloc ?_ _)); refine blk_put (cs := #[.int .i64 ((rd_T30 l0 x25_1).f0.f0), .int .i64 0, .int .i64 0, .int .i64 0, .slice none 0 0, .slice none 0 0, .slice none 0 0, .slice none 0 0]) ?_ 1 _ rfl; (with_reducible repeat (first | refine blk_drewN ?_ _ | refine blk_drew ?_ | refine blk_alloc ?_ _)); refine blk_put (cs := #[.int .i64 0, .int .i64 0, .int .i64 0, .int .i64 0, .slice none 0 0, .slice none 0 0, .slice none 0 0, .slice none 0 0]) ?_ 0 _ rfl; (with_reducible repeat (first | refine blk_drewN ?_ _ | refine blk_drew ?_ | refine blk_alloc ?_ _)); exact BK218.out) hb); have n6_ := Aside0.mk (below_step (by repeat (first | (with_reducible first | exact HB.out | apply below_alloc | apply pw_below_drewN | apply below_drew1 | refine below_set ?_ GE218.out) | exact HB.out)) hb); clear HO_5; clear BK218; clear HB; have HO_5 := n0_; have HO225 := n1_; have HO228 := n2_; have HO231 := n3_; have HO234 := n4_; have BK218 := n5_; have HB := n6_; clear n0_ n1_ n2_ n3_ n4_ n5_ n6_; (try clear hb); (try clear hb2); (try clear hk); (try clear hi); (try clear ho0); (try clear ho1); (try clear ho2); (try clear ho3); obtain ⟨Ao17, co17, eo17⟩ := Kd.R_slice HO225.out; subst eo17; obtain ⟨Ao18, co18, eo18⟩ := Kd.S_slice HO228.out; subst eo18; obtain ⟨Ao19, co19, eo19⟩ := Kd.R_slice HO231.out; subst eo19; obtain ⟨Ao20, co20, eo20⟩ := Kd.R_slice HO234.out; subst eo20) | ((with_reducible refine gate_builtin (b := .append) (xs := #[.tmp 29, .tmp 32]) rfl ?_); at_builtin; refine Kd.R_append k30 (w0 := w) w.heap.size rfl (.tmp 29) (.tmp 32) 22 30 (.agg #[(.int .i64 0), (.int .i64 0), (.int .i64 0), (.int .i64 0), (.slice none 0 0), (.slice none 0 0), (.slice none 0 0), (.slice none 0 0)]) 128 rfl Try.underlying22 info30 rfl (by decide) (by omega) u5 x5_1 (⟨(⟨t219, t220⟩ : S25), t221, t222, t223, t226, t229, t232⟩ : S30) [.int .i64 t219, .int .i64 t220, .int .i64 t221, .int .i64 t222, .slice Ao17 t223.length co17, .slice Ao18 t226.length co18, .slice Ao19 t229.length co19, .slice Ao20 t232.length co20] (fun k_ => k_ ≠ gb218) (fun k_ => ((fun k_ => k_ ≠ gb218)) k_ ∧ some k_ ≠ (u5 : Value).ownBlock) rfl rfl ?aP (fun _ hk => hk) ?aF ?aO ?aB ?aS ?aL ?_; (case aP => exact k30_mkM _ _ _ (⟨(⟨t219, t220⟩ : S25), t221, t222, t223, t226, t229, t232⟩ : S30) (Kd.R_mono (Kd.R_types (Kd.R_apart' (HO225.out) (Kd.R_typed HO_5.out) (by decide)) BK218.out (by decide)) (fun k_ hk => ⟨hk.2, hk.1.2⟩)) (Kd.R_mono (Kd.R_types (Kd.R_apart' ((Kd.S_R HO228.out)) (Kd.R_typed HO_5.out) (by decide)) BK218.out (by decide)) (fun k_ hk => ⟨hk.2, hk.1.2⟩)) (Kd.R_mono (Kd.R_types (Kd.R_apart' (HO231.out) (Kd.R_typed HO_5.out) (by decide)) BK218.out (by decide)) (fun k_ hk => ⟨hk.2, hk.1.2⟩)) (Kd.R_mono (Kd.R_types (Kd.R_apart' (HO234.out) (Kd.R_typed HO_5.out) (by decide)) BK218.out (by decide)) (fun k_ hk => ⟨hk.2, hk.1.2⟩))); (case aB => exact (by repeat (first | (with_reducible first | exact HB.out | apply below_alloc | apply pw_below_drewN | apply below_drew1 | refine below_set ?_ GE218.out) | exact HB.out))); (case aF => exact (fun k_ hk => Kd.freshB (g := gb218) (o := .cells #[.int .i64 ((rd_T30 l0 x25_1).f0.f0), .int .i64 ((rd_T30 l0 x25_1).f0.f1), .int .i64 ((rd_T30 l0 x25_1).f1), .int .i64 ((rd_T30 l0 x25_1).f2), .slice A217_4 ((rd_T30 l0 x25_1).f3).length c217_4, .slice A217_5 ((rd_T30 l0 x25_1).f4).length c217_5, .slice A217_6 ((rd_T30 l0 x25_1).f5).length c217_6, .slice A217_7 ((rd_T30 l0 x25_1).f6).length c217_7] 30 (0, 0)) (by (with_reducible repeat (first | refine blk_drewN ?_ _ | refine blk_drew ?_ | refine blk_alloc ?_ _)); exact BK218.out) k_ hk)); (case aO => exact (by (with_reducible repeat (first | apply Kd.R_alloc | apply Kd.R_drewN | apply Kd.R_drew)); exact Kd.R_mono HO_5.out (fun _ hk => hk.1.1.1.1.2))); (case aS => exact (below_size (by repeat (first | (with_reducible first | exact HB.out | apply below_alloc | apply pw_below_drewN | apply below_drew1 | refine below_set ?_ GE218.out) | exact HB.out)))); (case aL => have := LMc12.out; omega); intro v236 w16 ho hb hg hat; rw [← Ny235.out] at ho; have n0_ := Aside0.mk (blk_grown (g := gb218) (o := .cells #[.int .i64 ((rd_T30 l0 x25_1).f0.f0), .int .i64 ((rd_T30 l0 x25_1).f0.f1), .int .i64 ((rd_T30 l0 x25_1).f1), .int .i64 ((rd_T30 l0 x25_1).f2), .slice A217_4 ((rd_T30 l0 x25_1).f3).length c217_4, .slice A217_5 ((rd_T30 l0 x25_1).f4).length c217_5, .slice A217_6 ((rd_T30 l0 x25_1).f5).length c217_6, .slice A217_7 ((rd_T30 l0 x25_1).f6).length c217_7] 30 (0, 0)) (by (with_reducible repeat (first | refine blk_drewN ?_ _ | refine blk_drew ?_ | refine blk_alloc ?_ _)); exact BK218.out) hg (Kd.R_away HO_5.out (fun _ hk => hk.1.1.1.1.2))); have n1_ := Aside0.mk (hb); have n2_ := Aside0.mk (ho); clear BK218; clear HB; clear HO_5; clear HO225; clear HO228; clear HO231; clear HO234; have BK218 := n0_; have HB := n1_; have HO237 := n2_; clear n0_ n1_ n2_; clear ho hb hg hat))
                go_roundg k1
                case measure => have := HK1.out; omega
                case rel => exact ⟨(y235), (wrap64 (x25_1 + 1)), (by first | rfl | (simp; done) | (simp [*]; done)), H', ⟨by have := HK1.out; omega⟩, ⟨by (with_reducible repeat (first | apply Kd.R_alloc | apply Kd.R_drewN | apply Kd.R_drew)); exact Kd.R_mono HO237.out (fun _ hk => trivial)⟩, ⟨by repeat (first | (with_reducible first | exact HB.out | apply below_alloc | apply pw_below_drewN | apply below_drew1 | refine below_set ?_ GE218.out) | exact HB.out)⟩⟩
              · rw [if_neg c12] at H
                exact absurd H (by simp)
            · rw [if_neg c10] at H
              exact absurd H (by simp)
          · rw [if_neg c9] at H
            exact absurd H (by simp)
        · rw [if_neg c8] at H
          have c8b0 : decide (x25_1 < (l0.length : Int)) = false := decide_eq_false c8
          clear c8
          replace H := Option.bind_eq_some_iff.mp H
          obtain ⟨⟨t238, t239, t240, t243⟩, A210, H⟩ := H
          replace H : (catenarylaw18_ChooseKeeps.l1 k1 l0 a1 false false l0 (l0.length : Int) 0 t238 t239 t240 t243) = some r := H
          have A21 := Aside0.mk A210
          clear A210
          have H' := Aside0.mk H
          clear H
          obtain ⟨Ao22, co22, eo22⟩ := Kd.R_slice HO_5.out
          subst eo22
          go_wp2_with (first | ((with_reducible refine gate_callee (f := 12) rfl ?_); refine goesL_ (some 37) rfl rfl Try.func12 (by kernel_rfl) rfl #[.int .i64 a1, .slice Ao22 x5_1.length co22] rfl (by (try simp only [List.map_toArray, List.map_cons, List.map_nil]); first | done | rfl | (simp only [List.length_drop, List.length_take]; rfl)) ?_; (with_reducible refine (choose_Pick.calls k1 a1 _ _ x5_1 t238 t239 t240 t243 _ ?side1 ?side2 A21.out).mono ?_); (case side1 => repeat (first | exact (Kd.R_reads' HO_5.out).2.2 | (with_reducible refine Kd.C_alloc ?_ _) | (with_reducible refine Kd.C_drewN ?_ _) | (with_reducible refine Kd.C_drew ?_))); (case side2 => exact (Kd.R_reads' HO_5.out).2.1); rintro e w23 ⟨v241, v244, rfl, ho0, ho1, hb⟩; refine ⟨_, rfl, ?_⟩; have n0_ := Aside0.mk (Kd.R_mono (Kd.R_told (Kd.R_told (Kd.R_old (by (with_reducible repeat (first | apply Kd.R_alloc | apply Kd.R_drewN | apply Kd.R_drew)); exact HO_5.out) hb) (Kd.R_base ho0)) (Kd.R_base ho1)) (fun _ h_ => h_.1)); have n1_ := Aside0.mk (Kd.R_lower ho0 (below_size (by repeat (first | (with_reducible first | exact HB.out | apply below_alloc | apply pw_below_drewN | apply below_drew1) | exact HB.out)))); have n2_ := Aside0.mk (Kd.R_lower ho1 (below_size (by repeat (first | (with_reducible first | exact HB.out | apply below_alloc | apply pw_below_drewN | apply below_drew1) | exact HB.out)))); have n3_ := Aside0.mk (below_step (by repeat (first | (with_reducible first | exact HB.out | apply below_alloc | apply pw_below_drewN | apply below_drew1) | exact HB.out)) hb); clear HO_5; clear HB; have HO_5 := n0_; have HO242 := n1_; have HO245 := n2_; have HB := n3_; clear n0_ n1_ n2_ n3_; (try clear hb); (try clear hb2); (try clear hk); (try clear hi); (try clear ho0); (try clear ho1)) | ((with_reducible refine gate_dst (N := 8) rfl ?_); refine box_event ?hg (N := 8) ?hd (cs := #[.int .i64 0, .int .i64 0, .slice none 0 0, .slice none 0 0]) (t := 36) ?hr ?_; (case hd => rfl); (case hg => rfl); (case hr => first | (go_simp; done) | (go_simp; rfl)); intro gb246 hg w24 hbox hb; have n0_ := Aside0.mk (Kd.R_below (by (with_reducible repeat (first | apply Kd.R_alloc | apply Kd.R_drewN | apply Kd.R_drew)); exact HO_5.out) hb); have n1_ := Aside0.mk (Kd.R_below (by (with_reducible repeat (first | apply Kd.R_alloc | apply Kd.R_drewN | apply Kd.R_drew)); exact HO242.out) hb); have n2_ := Aside0.mk (Kd.R_below (by (with_reducible repeat (first | apply Kd.R_alloc | apply Kd.R_drewN | apply Kd.R_drew)); exact HO245.out) hb); have n3_ := Aside0.mk (below_step (by repeat (first | (with_reducible first | exact HB.out | apply below_alloc | apply pw_below_drewN | apply below_drew1) | exact HB.out)) hb); have n4_ := Aside0.mk (hbox); have n5_ := Aside0.mk ((by rw [hg]; exact (below_size (by repeat (first | (with_reducible first | exact HB.out | apply below_alloc | apply pw_below_drewN | apply below_drew1) | exact HB.out))) : w.heap.size ≤ gb246)); have n6_ := Aside0.mk ((by rw [hg]; exact (below_size (by repeat (first | (with_reducible first | exact HB.out | apply below_alloc | apply pw_below_drewN | apply below_drew1) | exact HB.out))) : w.heap.size ≤ gb246)); clear HO_5; clear HO242; clear HO245; clear HB; have HO_5 := n0_; have HO242 := n1_; have HO245 := n2_; have HB := n3_; have BK246 := n4_; have GW246 := n5_; have GE246 := n6_; clear n0_ n1_ n2_ n3_ n4_ n5_ n6_; clear hb hbox hg; have hcz25_0 : w24.cell? ⟨gb246, 0, none⟩ = some (.int .i64 0) := (blk_cell BK246.out 0).trans rfl; have hcz25_1 : w24.cell? ⟨gb246, 1, none⟩ = some (.int .i64 0) := (blk_cell BK246.out 1).trans rfl; have hcz25_2 : w24.cell? ⟨gb246, 2, none⟩ = some (.slice none 0 0) := (blk_cell BK246.out 2).trans rfl; have hcz25_3 : w24.cell? ⟨gb246, 3, none⟩ = some (.slice none 0 0) := (blk_cell BK246.out 3).trans rfl; have hfz25_0 := blk_frozen BK246.out 0; have hfz25_1 := blk_frozen BK246.out 1; have hfz25_2 := blk_frozen BK246.out 2; have hfz25_3 := blk_frozen BK246.out 3; obtain ⟨Ao26, co26, eo26⟩ := Kd.R_slice HO242.out; subst eo26; obtain ⟨Ao27, co27, eo27⟩ := Kd.R_slice HO245.out; subst eo27))
          go_loopg [9, 10, 40] k1 (fun kq v9 v10 v40 w' => ∃ (x9_2 : Bool) (x10_2 : Bool) (x40_2 : Int), v9 = .bool x9_2 ∧ v10 = .bool x10_2 ∧ v40 = .int .i64 x40_2 ∧ Aside0 (catenarylaw18_ChooseKeeps.l1 kq l0 a1 x9_2 x10_2 l0 (l0.length : Int) x40_2 t238 t239 t240 t243 = some r) ∧ Aside0 (kq ≤ k1) ∧ Aside0 (Kd.R (Kd.int .u8) 5 w' w.heap.size (fun k_ => some k_ ≠ ((.slice Ao27 t243.length co27) : Value).ownBlock) (.slice Ao26 t240.length co26) t240) ∧ Aside0 (Kd.R (Kd.int .u8) 5 w' w.heap.size (fun k_ => some k_ ≠ ((.slice Ao26 t240.length co26) : Value).ownBlock) (.slice Ao27 t243.length co27) t243) ∧ Aside0 (w'.heap[gb246]? = some (.cells #[.int .i64 t238, .int .i64 t239, (.slice Ao26 t240.length co26), (.slice Ao27 t243.length co27)] 36 (0, 0))) ∧ Aside0 (Below w.heap.size w w'))
          case atStart => exact ⟨(false), (false), (0), (by first | rfl | (simp; done) | (simp [*]; done)), (by first | rfl | (simp; done) | (simp [*]; done)), (by first | rfl | (simp; done) | (simp [*]; done)), H', ⟨Nat.le_refl _⟩, ⟨by (with_reducible repeat (first | apply Kd.R_alloc | apply Kd.R_drewN | apply Kd.R_drew)); exact Kd.R_mono (Kd.R_far (p := ⟨gb246, 3, none⟩) (Kd.R_far (p := ⟨gb246, 2, none⟩) (Kd.R_far (p := ⟨gb246, 1, none⟩) (Kd.R_far (p := ⟨gb246, 0, none⟩) (Kd.R_types HO242.out BK246.out (by decide)) (fun _ hk => hk.2) (.int .i64 t238)) (fun _ hk => hk.2) (.int .i64 t239)) (fun _ hk => hk.2) (.slice Ao26 t240.length co26)) (fun _ hk => hk.2) (.slice Ao27 t243.length co27)) (fun _ hk => hk.1)⟩, ⟨by (with_reducible repeat (first | apply Kd.R_alloc | apply Kd.R_drewN | apply Kd.R_drew)); exact Kd.R_mono (Kd.R_far (p := ⟨gb246, 3, none⟩) (Kd.R_far (p := ⟨gb246, 2, none⟩) (Kd.R_far (p := ⟨gb246, 1, none⟩) (Kd.R_far (p := ⟨gb246, 0, none⟩) (Kd.R_types HO245.out BK246.out (by decide)) (fun _ hk => hk.2) (.int .i64 t238)) (fun _ hk => hk.2) (.int .i64 t239)) (fun _ hk => hk.2) (.slice Ao26 t240.length co26)) (fun _ hk => hk.2) (.slice Ao27 t243.length co27)) (fun _ hk => hk.1)⟩, ⟨by (with_reducible repeat (first | refine blk_drewN ?_ _ | refine blk_drew ?_ | refine blk_alloc ?_ _)); refine blk_put (cs := #[.int .i64 t238, .int .i64 t239, .slice Ao26 t240.length co26, .slice none 0 0]) ?_ 3 _ rfl; (with_reducible repeat (first | refine blk_drewN ?_ _ | refine blk_drew ?_ | refine blk_alloc ?_ _)); refine blk_put (cs := #[.int .i64 t238, .int .i64 t239, .slice none 0 0, .slice none 0 0]) ?_ 2 _ rfl; (with_reducible repeat (first | refine blk_drewN ?_ _ | refine blk_drew ?_ | refine blk_alloc ?_ _)); refine blk_put (cs := #[.int .i64 t238, .int .i64 0, .slice none 0 0, .slice none 0 0]) ?_ 1 _ rfl; (with_reducible repeat (first | refine blk_drewN ?_ _ | refine blk_drew ?_ | refine blk_alloc ?_ _)); refine blk_put (cs := #[.int .i64 0, .int .i64 0, .slice none 0 0, .slice none 0 0]) ?_ 0 _ rfl; (with_reducible repeat (first | refine blk_drewN ?_ _ | refine blk_drew ?_ | refine blk_alloc ?_ _)); exact BK246.out⟩, ⟨by repeat (first | (with_reducible first | exact HB.out | apply below_alloc | apply pw_below_drewN | apply below_drew1 | refine below_set ?_ GE246.out) | exact HB.out)⟩⟩
          case round =>
            clear H'
            try clear c1
            try clear c2
            try clear p2
            try clear q2
            try clear hx2
            try clear c4
            try clear c5
            try clear c6
            try clear p6
            try clear c8
            try clear c8b0
            try clear c9
            try clear c9b0
            try clear c10
            try clear c10b0
            try clear c12
            try clear c21
            try clear p21
            try clear q21
            try clear hx21
            try clear hcz14_0
            try clear hcz14_1
            try clear hcz14_2
            try clear hcz14_3
            try clear hcz14_4
            try clear hcz14_5
            try clear hcz14_6
            try clear hcz14_7
            try clear hcz25_0
            try clear hcz25_1
            try clear hcz25_2
            try clear hcz25_3
            try clear hfz14_0
            try clear hfz14_1
            try clear hfz14_2
            try clear hfz14_3
            try clear hfz14_4
            try clear hfz14_5
            try clear hfz14_6
            try clear hfz14_7
            try clear hfz25_0
            try clear hfz25_1
            try clear hfz25_2
            try clear hfz25_3
            try clear hx217_0
            try clear hx217_1
            try clear hx217_2
            try clear hx217_3
            try clear hx217_4
            try clear hx217_5
            try clear hx217_6
            try clear hx217_7
            try clear p2
            try clear p217
            try clear q217
            obtain ⟨x9_2, x10_2, x40_2, rfl, rfl, rfl, HA, HK2, HO_247002, HO_247003, BK246, HB⟩ := hrel
            cases gk with
            | zero => exact absurd HA.out (by simp [catenarylaw18_ChooseKeeps.l1])
            | succ k2 =>
              have H := HA.out
              clear HA
              simp only [catenarylaw18_ChooseKeeps.l1] at H
              by_cases c28 : x40_2 < (l0.length : Int)
              · rw [if_pos c28] at H
                have c28b0 : decide (x40_2 < (l0.length : Int)) = true := decide_eq_true c28
                clear c28
                by_cases c29 : 0 ≤ x40_2
                · rw [if_pos c29] at H
                  have c29b0 : decide (0 ≤ x40_2) = true := decide_eq_true c29
                  clear c29
                  by_cases c30 : x40_2 < (l0.length : Int)
                  · rw [if_pos c30] at H
                    have c30b0 : decide (x40_2 < (l0.length : Int)) = true := decide_eq_true c30
                    clear c30
                    have H' := Aside0.mk H
                    clear H
                    have p247 : 0 ≤ (x40_2 : Int) := of_decide_eq_true (by first | (with_reducible assumption) | assumption)
                    have q247 : x40_2 < (l0.length : Int) := of_decide_eq_true (by first | (with_reducible assumption) | assumption)
                    obtain ⟨ad247, A247_4, c247_4, A247_5, c247_5, A247_6, c247_6, A247_7, c247_7, e247, hx247_0, hx247_1, hx247_2, hx247_3, hx247_4, hx247_5, hx247_6, hx247_7, hl247_4, hi247_4, hl247_5, hi247_5, hl247_6, hi247_6, hl247_7, hi247_7⟩ := at_T30 HR0.out x40_2 p247 q247
                    cases e247
                    replace hx247_0 := (HB.out.cell (World.block_lt_of_cell? w _ hx247_0)).trans hx247_0
                    replace hx247_1 := (HB.out.cell (World.block_lt_of_cell? w _ hx247_1)).trans hx247_1
                    replace hx247_2 := (HB.out.cell (World.block_lt_of_cell? w _ hx247_2)).trans hx247_2
                    replace hx247_3 := (HB.out.cell (World.block_lt_of_cell? w _ hx247_3)).trans hx247_3
                    replace hx247_4 := (HB.out.cell (World.block_lt_of_cell? w _ hx247_4)).trans hx247_4
                    replace hx247_5 := (HB.out.cell (World.block_lt_of_cell? w _ hx247_5)).trans hx247_5
                    replace hx247_6 := (HB.out.cell (World.block_lt_of_cell? w _ hx247_6)).trans hx247_6
                    replace hx247_7 := (HB.out.cell (World.block_lt_of_cell? w _ hx247_7)).trans hx247_7
                    have HR247_4 := Aside0.mk hi247_4
                    have HC247_4 := Aside0.mk hl247_4
                    clear hi247_4 hl247_4
                    have HR247_5 := Aside0.mk hi247_5
                    have HC247_5 := Aside0.mk hl247_5
                    clear hi247_5 hl247_5
                    have HR247_6 := Aside0.mk hi247_6
                    have HC247_6 := Aside0.mk hl247_6
                    clear hi247_6 hl247_6
                    have HR247_7 := Aside0.mk hi247_7
                    have HC247_7 := Aside0.mk hl247_7
                    clear hi247_7 hl247_7
                    replace p247 := eq_true p247
                    replace q247 := eq_true q247
                    go_wp2_with (first | ((with_reducible refine gate_dst (N := 12) rfl ?_); refine box_event ?hg (N := 12) ?hd (cs := #[.int .i64 0, .int .i64 0, .int .i64 0, .int .i64 0, .slice none 0 0, .slice none 0 0, .slice none 0 0, .slice none 0 0]) (t := 30) ?hr ?_; (case hd => rfl); (case hg => rfl); (case hr => first | (go_simp; done) | (go_simp; rfl)); intro gb248 hg w31 hbox hb; have n0_ := Aside0.mk (Kd.R_below (by (with_reducible repeat (first | apply Kd.R_alloc | apply Kd.R_drewN | apply Kd.R_drew)); exact HO_247002.out) hb); have n1_ := Aside0.mk (Kd.R_below (by (with_reducible repeat (first | apply Kd.R_alloc | apply Kd.R_drewN | apply Kd.R_drew)); exact HO_247003.out) hb); have n2_ := Aside0.mk (blk_below (g := gb246) (o := .cells #[.int .i64 t238, .int .i64 t239, .slice Ao26 t240.length co26, .slice Ao27 t243.length co27] 36 (0, 0)) (by (with_reducible repeat (first | refine blk_drewN ?_ _ | refine blk_drew ?_ | refine blk_alloc ?_ _)); exact BK246.out) hb); have n3_ := Aside0.mk (below_step (by repeat (first | (with_reducible first | exact HB.out | apply below_alloc | apply pw_below_drewN | apply below_drew1 | refine below_set ?_ GE246.out) | exact HB.out)) hb); have n4_ := Aside0.mk (hbox); have n5_ := Aside0.mk ((by rw [hg]; exact (below_size (by repeat (first | (with_reducible first | exact HB.out | apply below_alloc | apply pw_below_drewN | apply below_drew1 | refine below_set ?_ GE246.out) | exact HB.out))) : w.heap.size ≤ gb248)); have n6_ := Aside0.mk ((by rw [hg]; exact (below_size (by repeat (first | (with_reducible first | exact HB.out | apply below_alloc | apply pw_below_drewN | apply below_drew1 | refine below_set ?_ GE246.out) | exact HB.out))) : w.heap.size ≤ gb248)); have n7_ := Aside0.mk ((by rw [hg]; exact Nat.ne_of_lt (blk_lt (g := gb246) (o := .cells #[.int .i64 t238, .int .i64 t239, .slice Ao26 t240.length co26, .slice Ao27 t243.length co27] 36 (0, 0)) (by (with_reducible repeat (first | refine blk_drewN ?_ _ | refine blk_drew ?_ | refine blk_alloc ?_ _)); exact BK246.out)) : gb246 ≠ gb248)); have n8_ := Aside0.mk ((by rw [hg]; exact Nat.ne_of_gt (blk_lt (g := gb246) (o := .cells #[.int .i64 t238, .int .i64 t239, .slice Ao26 t240.length co26, .slice Ao27 t243.length co27] 36 (0, 0)) (by (with_reducible repeat (first | refine blk_drewN ?_ _ | refine blk_drew ?_ | refine blk_alloc ?_ _)); exact BK246.out)) : gb248 ≠ gb246)); clear HO_247002; clear HO_247003; clear BK246; clear HB; have HO_247002 := n0_; have HO_247003 := n1_; have BK246 := n2_; have HB := n3_; have BK248 := n4_; have GW248 := n5_; have GE248 := n6_; have NB246_248 := n7_; have NB248_246 := n8_; clear n0_ n1_ n2_ n3_ n4_ n5_ n6_ n7_ n8_; clear hb hbox hg; have hnb32 := NB248_246.out; have hnc32 := NB246_248.out; have hcz33_0 : w31.cell? ⟨gb248, 0, none⟩ = some (.int .i64 0) := (blk_cell BK248.out 0).trans rfl; have hcz33_1 : w31.cell? ⟨gb248, 1, none⟩ = some (.int .i64 0) := (blk_cell BK248.out 1).trans rfl; have hcz33_2 : w31.cell? ⟨gb248, 2, none⟩ = some (.int .i64 0) := (blk_cell BK248.out 2).trans rfl; have hcz33_3 : w31.cell? ⟨gb248, 3, none⟩ = some (.int .i64 0) := (blk_cell BK248.out 3).trans rfl; have hcz33_4 : w31.cell? ⟨gb248, 4, none⟩ = some (.slice none 0 0) := (blk_cell BK248.out 4).trans rfl; have hcz33_5 : w31.cell? ⟨gb248, 5, none⟩ = some (.slice none 0 0) := (blk_cell BK248.out 5).trans rfl; have hcz33_6 : w31.cell? ⟨gb248, 6, none⟩ = some (.slice none 0 0) := (blk_cell BK248.out 6).trans rfl; have hcz33_7 : w31.cell? ⟨gb248, 7, none⟩ = some (.slice none 0 0) := (blk_cell BK248.out 7).trans rfl; have hfz33_0 := blk_frozen BK248.out 0; have hfz33_1 := blk_frozen BK248.out 1; have hfz33_2 := blk_frozen BK248.out 2; have hfz33_3 := blk_frozen BK248.out 3; have hfz33_4 := blk_frozen BK248.out 4; have hfz33_5 := blk_frozen BK248.out 5; have hfz33_6 := blk_frozen BK248.out 6; have hfz33_7 := blk_frozen BK248.out 7))
                    go_loopg [9, 10, 47] k2 (fun kq v9 v10 v47 w' => ∃ (x9_3 : Bool) (x10_3 : Bool) (x47_3 : Int), v9 = .bool x9_3 ∧ v10 = .bool x10_3 ∧ v47 = .int .i64 x47_3 ∧ Aside0 (catenarylaw18_ChooseKeeps.l2 kq l0 a1 x9_3 x10_3 l0 (l0.length : Int) x40_2 ((rd_T30 l0 x40_2).f5) (((rd_T30 l0 x40_2).f5).length : Int) x47_3 t238 t239 t240 t243 = some r) ∧ Aside0 (kq ≤ k2) ∧ Aside0 (Kd.R (Kd.int .u8) 5 w' w.heap.size (fun k_ => some k_ ≠ ((.slice Ao27 t243.length co27) : Value).ownBlock) (.slice Ao26 t240.length co26) t240) ∧ Aside0 (Kd.R (Kd.int .u8) 5 w' w.heap.size (fun k_ => some k_ ≠ ((.slice Ao26 t240.length co26) : Value).ownBlock) (.slice Ao27 t243.length co27) t243) ∧ Aside0 (w'.heap[gb246]? = some (.cells #[.int .i64 t238, .int .i64 t239, (.slice Ao26 t240.length co26), (.slice Ao27 t243.length co27)] 36 (0, 0))) ∧ Aside0 (w'.heap[gb248]? = some (.cells #[.int .i64 ((rd_T30 l0 x40_2).f0.f0), .int .i64 ((rd_T30 l0 x40_2).f0.f1), .int .i64 ((rd_T30 l0 x40_2).f1), .int .i64 ((rd_T30 l0 x40_2).f2), (.slice A247_4 ((rd_T30 l0 x40_2).f3).length c247_4), (.slice A247_5 ((rd_T30 l0 x40_2).f4).length c247_5), (.slice A247_6 ((rd_T30 l0 x40_2).f5).length c247_6), (.slice A247_7 ((rd_T30 l0 x40_2).f6).length c247_7)] 30 (0, 0))) ∧ Aside0 (Below w.heap.size w w'))
                    case atStart => exact ⟨(x9_2), (x10_2), (0), (by first | rfl | (simp; done) | (simp [*]; done)), (by first | rfl | (simp; done) | (simp [*]; done)), (by first | rfl | (simp; done) | (simp [*]; done)), H', ⟨Nat.le_refl _⟩, ⟨by (with_reducible repeat (first | apply Kd.R_alloc | apply Kd.R_drewN | apply Kd.R_drew)); exact Kd.R_mono (Kd.R_far (p := ⟨gb248, 7, none⟩) (Kd.R_far (p := ⟨gb248, 6, none⟩) (Kd.R_far (p := ⟨gb248, 5, none⟩) (Kd.R_far (p := ⟨gb248, 4, none⟩) (Kd.R_far (p := ⟨gb248, 3, none⟩) (Kd.R_far (p := ⟨gb248, 2, none⟩) (Kd.R_far (p := ⟨gb248, 1, none⟩) (Kd.R_far (p := ⟨gb248, 0, none⟩) (Kd.R_types HO_247002.out BK248.out (by decide)) (fun _ hk => hk.2) (.int .i64 ((rd_T30 l0 x40_2).f0.f0))) (fun _ hk => hk.2) (.int .i64 ((rd_T30 l0 x40_2).f0.f1))) (fun _ hk => hk.2) (.int .i64 ((rd_T30 l0 x40_2).f1))) (fun _ hk => hk.2) (.int .i64 ((rd_T30 l0 x40_2).f2))) (fun _ hk => hk.2) (.slice A247_4 ((rd_T30 l0 x40_2).f3).length c247_4)) (fun _ hk => hk.2) (.slice A247_5 ((rd_T30 l0 x40_2).f4).length c247_5)) (fun _ hk => hk.2) (.slice A247_6 ((rd_T30 l0 x40_2).f5).length c247_6)) (fun _ hk => hk.2) (.slice A247_7 ((rd_T30 l0 x40_2).f6).length c247_7)) (fun _ hk => hk.1)⟩, ⟨by (with_reducible repeat (first | apply Kd.R_alloc | apply Kd.R_drewN | apply Kd.R_drew)); exact Kd.R_mono (Kd.R_far (p := ⟨gb248, 7, none⟩) (Kd.R_far (p := ⟨gb248, 6, none⟩) (Kd.R_far (p := ⟨gb248, 5, none⟩) (Kd.R_far (p := ⟨gb248, 4, none⟩) (Kd.R_far (p := ⟨gb248, 3, none⟩) (Kd.R_far (p := ⟨gb248, 2, none⟩) (Kd.R_far (p := ⟨gb248, 1, none⟩) (Kd.R_far (p := ⟨gb248, 0, none⟩) (Kd.R_types HO_247003.out BK248.out (by decide)) (fun _ hk => hk.2) (.int .i64 ((rd_T30 l0 x40_2).f0.f0))) (fun _ hk => hk.2) (.int .i64 ((rd_T30 l0 x40_2).f0.f1))) (fun _ hk => hk.2) (.int .i64 ((rd_T30 l0 x40_2).f1))) (fun _ hk => hk.2) (.int .i64 ((rd_T30 l0 x40_2).f2))) (fun _ hk => hk.2) (.slice A247_4 ((rd_T30 l0 x40_2).f3).length c247_4)) (fun _ hk => hk.2) (.slice A247_5 ((rd_T30 l0 x40_2).f4).length c247_5)) (fun _ hk => hk.2) (.slice A247_6 ((rd_T30 l0 x40_2).f5).length c247_6)) (fun _ hk => hk.2) (.slice A247_7 ((rd_T30 l0 x40_2).f6).length c247_7)) (fun _ hk => hk.1)⟩, ⟨by (with_reducible repeat (first | refine blk_drewN ?_ _ | refine blk_drew ?_ | refine blk_alloc ?_ _)); refine blk_far ?_ NB246_248.out _; (with_reducible repeat (first | refine blk_drewN ?_ _ | refine blk_drew ?_ | refine blk_alloc ?_ _)); refine blk_far ?_ NB246_248.out _; (with_reducible repeat (first | refine blk_drewN ?_ _ | refine blk_drew ?_ | refine blk_alloc ?_ _)); refine blk_far ?_ NB246_248.out _; (with_reducible repeat (first | refine blk_drewN ?_ _ | refine blk_drew ?_ | refine blk_alloc ?_ _)); refine blk_far ?_ NB246_248.out _; (with_reducible repeat (first | refine blk_drewN ?_ _ | refine blk_drew ?_ | refine blk_alloc ?_ _)); refine blk_far ?_ NB246_248.out _; (with_reducible repeat (first | refine blk_drewN ?_ _ | refine blk_drew ?_ | refine blk_alloc ?_ _)); refine blk_far ?_ NB246_248.out _; (with_reducible repeat (first | refine blk_drewN ?_ _ | refine blk_drew ?_ | refine blk_alloc ?_ _)); refine blk_far ?_ NB246_248.out _; (with_reducible repeat (first | refine blk_drewN ?_ _ | refine blk_drew ?_ | refine blk_alloc ?_ _)); refine blk_far ?_ NB246_248.out _; (with_reducible repeat (first | refine blk_drewN ?_ _ | refine blk_drew ?_ | refine blk_alloc ?_ _)); exact BK246.out⟩, ⟨by (with_reducible repeat (first | refine blk_drewN ?_ _ | refine blk_drew ?_ | refine blk_alloc ?_ _)); refine blk_put (cs := #[.int .i64 ((rd_T30 l0 x40_2).f0.f0), .int .i64 ((rd_T30 l0 x40_2).f0.f1), .int .i64 ((rd_T30 l0 x40_2).f1), .int .i64 ((rd_T30 l0 x40_2).f2), .slice A247_4 ((rd_T30 l0 x40_2).f3).length c247_4, .slice A247_5 ((rd_T30 l0 x40_2).f4).length c247_5, .slice A247_6 ((rd_T30 l0 x40_2).f5).length c247_6, .slice none 0 0]) ?_ 7 _ rfl; (with_reducible repeat (first | refine blk_drewN ?_ _ | refine blk_drew ?_ | refine blk_alloc ?_ _)); refine blk_put (cs := #[.int .i64 ((rd_T30 l0 x40_2).f0.f0), .int .i64 ((rd_T30 l0 x40_2).f0.f1), .int .i64 ((rd_T30 l0 x40_2).f1), .int .i64 ((rd_T30 l0 x40_2).f2), .slice A247_4 ((rd_T30 l0 x40_2).f3).length c247_4, .slice A247_5 ((rd_T30 l0 x40_2).f4).length c247_5, .slice none 0 0, .slice none 0 0]) ?_ 6 _ rfl; (with_reducible repeat (first | refine blk_drewN ?_ _ | refine blk_drew ?_ | refine blk_alloc ?_ _)); refine blk_put (cs := #[.int .i64 ((rd_T30 l0 x40_2).f0.f0), .int .i64 ((rd_T30 l0 x40_2).f0.f1), .int .i64 ((rd_T30 l0 x40_2).f1), .int .i64 ((rd_T30 l0 x40_2).f2), .slice A247_4 ((rd_T30 l0 x40_2).f3).length c247_4, .slice none 0 0, .slice none 0 0, .slice none 0 0]) ?_ 5 _ rfl; (with_reducible repeat (first | refine blk_drewN ?_ _ | refine blk_drew ?_ | refine blk_alloc ?_ _)); refine blk_put (cs := #[.int .i64 ((rd_T30 l0 x40_2).f0.f0), .int .i64 ((rd_T30 l0 x40_2).f0.f1), .int .i64 ((rd_T30 l0 x40_2).f1), .int .i64 ((rd_T30 l0 x40_2).f2), .slice none 0 0, .slice none 0 0, .slice none 0 0, .slice none 0 0]) ?_ 4 _ rfl; (with_reducible repeat (first | refine blk_drewN ?_ _ | refine blk_drew ?_ | refine blk_alloc ?_ _)); refine blk_put (cs := #[.int .i64 ((rd_T30 l0 x40_2).f0.f0), .int .i64 ((rd_T30 l0 x40_2).f0.f1), .int .i64 ((rd_T30 l0 x40_2).f1), .int .i64 0, .slice none 0 0, .slice none 0 0, .slice none 0 0, .slice none 0 0]) ?_ 3 _ rfl; (with_reducible repeat (first | refine blk_drewN ?_ _ | refine blk_drew ?_ | refine blk_alloc ?_ _)); refine blk_put (cs := #[.int .i64 ((rd_T30 l0 x40_2).f0.f0), .int .i64 ((rd_T30 l0 x40_2).f0.f1), .int .i64 0, .int .i64 0, .slice none 0 0, .slice none 0 0, .slice none 0 0, .slice none 0 0]) ?_ 2 _ rfl; (with_reducible repeat (first | refine blk_drewN ?_ _ | refine blk_drew ?_ | refine blk_alloc ?_ _)); refine blk_put (cs := #[.int .i64 ((rd_T30 l0 x40_2).f0.f0), .int .i64 0, .int .i64 0, .int .i64 0, .slice none 0 0, .slice none 0 0, .slice none 0 0, .slice none 0 0]) ?_ 1 _ rfl; (with_reducible repeat (first | refine blk_drewN ?_ _ | refine blk_drew ?_ | refine blk_alloc ?_ _)); refine blk_put (cs := #[.int .i64 0, .int .i64 0, .int .i64 0, .int .i64 0, .slice none 0 0, .slice none 0 0, .slice none 0 0, .slice none 0 0]) ?_ 0 _ rfl; (with_reducible repeat (first | refine blk_drewN ?_ _ | refine blk_drew ?_ | refine blk_alloc ?_ _)); exact BK248.out⟩, ⟨by repeat (first | (with_reducible first | exact HB.out | apply below_alloc | apply pw_below_drewN | apply below_drew1 | refine below_set ?_ GE246.out | refine below_set ?_ GE248.out) | exact HB.out)⟩⟩
                    case round =>
                      clear H'
                      try clear c1
                      try clear c2
                      try clear p2
                      try clear q2
                      try clear hx2
                      try clear c3
                      try clear c4
                      try clear c5
                      try clear c6
                      try clear p6
                      try clear c8
                      try clear c8b0
                      try clear c9
                      try clear c9b0
                      try clear c10
                      try clear c10b0
                      try clear c12
                      try clear c21
                      try clear p21
                      try clear q21
                      try clear hx21
                      try clear c24
                      try clear p24
                      try clear q24
                      try clear hx24
                      try clear c28
                      try clear c28b0
                      try clear c29
                      try clear c29b0
                      try clear c30
                      try clear c30b0
                      try clear c32
                      try clear hcz14_0
                      try clear hcz14_1
                      try clear hcz14_2
                      try clear hcz14_3
                      try clear hcz14_4
                      try clear hcz14_5
                      try clear hcz14_6
                      try clear hcz14_7
                      try clear hcz25_0
                      try clear hcz25_1
                      try clear hcz25_2
                      try clear hcz25_3
                      try clear hcz33_0
                      try clear hcz33_1
                      try clear hcz33_2
                      try clear hcz33_3
                      try clear hcz33_4
                      try clear hcz33_5
                      try clear hcz33_6
                      try clear hcz33_7
                      try clear hfz14_0
                      try clear hfz14_1
                      try clear hfz14_2
                      try clear hfz14_3
                      try clear hfz14_4
                      try clear hfz14_5
                      try clear hfz14_6
                      try clear hfz14_7
                      try clear hfz25_0
                      try clear hfz25_1
                      try clear hfz25_2
                      try clear hfz25_3
                      try clear hfz33_0
                      try clear hfz33_1
                      try clear hfz33_2
                      try clear hfz33_3
                      try clear hfz33_4
                      try clear hfz33_5
                      try clear hfz33_6
                      try clear hfz33_7
                      try clear hx217_0
                      try clear hx217_1
                      try clear hx217_2
                      try clear hx217_3
                      try clear hx217_4
                      try clear hx217_5
                      try clear hx217_6
                      try clear hx217_7
                      try clear hx247_0
                      try clear hx247_1
                      try clear hx247_2
                      try clear hx247_3
                      try clear hx247_4
                      try clear hx247_5
                      try clear hx247_6
                      try clear hx247_7
                      try clear p2
                      try clear p21
                      try clear p217
                      try clear p247
                      try clear p6
                      try clear q2
                      try clear q21
                      try clear q217
                      try clear q247
                      obtain ⟨x9_3, x10_3, x47_3, rfl, rfl, rfl, HA, HK3, HO_247002, HO_247003, BK246, BK248, HB⟩ := hrel
                      cases gk with
                      | zero => exact absurd HA.out (by simp [catenarylaw18_ChooseKeeps.l2])
                      | succ k3 =>
                        have H := HA.out
                        clear HA
                        simp only [catenarylaw18_ChooseKeeps.l2] at H
                        by_cases c34 : x47_3 < (((rd_T30 l0 x40_2).f5).length : Int)
                        · rw [if_pos c34] at H
                          have c34b0 : decide (x47_3 < (((rd_T30 l0 x40_2).f5).length : Int)) = true := decide_eq_true c34
                          clear c34
                          by_cases c35 : 0 ≤ x47_3
                          · rw [if_pos c35] at H
                            have c35b0 : decide (0 ≤ x47_3) = true := decide_eq_true c35
                            clear c35
                            by_cases c36 : x47_3 < (((rd_T30 l0 x40_2).f5).length : Int)
                            · rw [if_pos c36] at H
                              have c36b0 : decide (x47_3 < (((rd_T30 l0 x40_2).f5).length : Int)) = true := decide_eq_true c36
                              clear c36
                              by_cases c37 : ((rd_T45 ((rd_T30 l0 x40_2).f5) x47_3).f0) = a1
                              · rw [if_pos c37] at H
                                have c37b0 : (((rd_T45 ((rd_T30 l0 x40_2).f5) x47_3).f0) == a1) = true := beq_iff_eq.mpr c37
                                have c37b1 : (((rd_T45 ((rd_T30 l0 x40_2).f5) x47_3).f0) != a1) = false := bne_eq_false_iff_eq.mpr c37
                                clear c37
                                have H' := Aside0.mk H
                                clear H
                                have p249 : 0 ≤ (x47_3 : Int) := of_decide_eq_true (by first | (with_reducible assumption) | assumption)
                                have q249 : x47_3 < (((rd_T30 l0 x40_2).f5).length : Int) := of_decide_eq_true (by first | (with_reducible assumption) | assumption)
                                obtain ⟨ad249, A249_5, c249_5, A249_6, c249_6, A249_7, c249_7, e249, hx249_0, hx249_1, hx249_2, hx249_3, hx249_4, hx249_5, hx249_6, hx249_7, hl249_5, hi249_5, hl249_6, hi249_6, hl249_7, hi249_7⟩ := at_T45 HR247_6.out x47_3 p249 q249
                                cases e249
                                replace hx249_0 := (HB.out.cell (World.block_lt_of_cell? w _ hx249_0)).trans hx249_0
                                replace hx249_1 := (HB.out.cell (World.block_lt_of_cell? w _ hx249_1)).trans hx249_1
                                replace hx249_2 := (HB.out.cell (World.block_lt_of_cell? w _ hx249_2)).trans hx249_2
                                replace hx249_3 := (HB.out.cell (World.block_lt_of_cell? w _ hx249_3)).trans hx249_3
                                replace hx249_4 := (HB.out.cell (World.block_lt_of_cell? w _ hx249_4)).trans hx249_4
                                replace hx249_5 := (HB.out.cell (World.block_lt_of_cell? w _ hx249_5)).trans hx249_5
                                replace hx249_6 := (HB.out.cell (World.block_lt_of_cell? w _ hx249_6)).trans hx249_6
                                replace hx249_7 := (HB.out.cell (World.block_lt_of_cell? w _ hx249_7)).trans hx249_7
                                have HR249_5 := Aside0.mk hi249_5
                                have HC249_5 := Aside0.mk hl249_5
                                clear hi249_5 hl249_5
                                have HR249_6 := Aside0.mk hi249_6
                                have HC249_6 := Aside0.mk hl249_6
                                clear hi249_6 hl249_6
                                have HR249_7 := Aside0.mk hi249_7
                                have HC249_7 := Aside0.mk hl249_7
                                clear hi249_7 hl249_7
                                replace p249 := eq_true p249
                                replace q249 := eq_true q249
                                go_wp2_with (first | ((with_reducible refine gate_dst (N := 14) rfl ?_); refine box_event ?hg (N := 14) ?hd (cs := #[.int .i64 0, .int .i64 0, .int .i64 0, .int .i64 0, .int .i64 0, .slice none 0 0, .slice none 0 0, .slice none 0 0]) (t := 45) ?hr ?_; (case hd => rfl); (case hg => rfl); (case hr => first | (go_simp; done) | (go_simp; rfl)); intro gb250 hg w38 hbox hb; have n0_ := Aside0.mk (Kd.R_below (by (with_reducible repeat (first | apply Kd.R_alloc | apply Kd.R_drewN | apply Kd.R_drew)); exact HO_247002.out) hb); have n1_ := Aside0.mk (Kd.R_below (by (with_reducible repeat (first | apply Kd.R_alloc | apply Kd.R_drewN | apply Kd.R_drew)); exact HO_247003.out) hb); have n2_ := Aside0.mk (blk_below (g := gb246) (o := .cells #[.int .i64 t238, .int .i64 t239, .slice Ao26 t240.length co26, .slice Ao27 t243.length co27] 36 (0, 0)) (by (with_reducible repeat (first | refine blk_drewN ?_ _ | refine blk_drew ?_ | refine blk_alloc ?_ _)); exact BK246.out) hb); have n3_ := Aside0.mk (blk_below (g := gb248) (o := .cells #[.int .i64 ((rd_T30 l0 x40_2).f0.f0), .int .i64 ((rd_T30 l0 x40_2).f0.f1), .int .i64 ((rd_T30 l0 x40_2).f1), .int .i64 ((rd_T30 l0 x40_2).f2), .slice A247_4 ((rd_T30 l0 x40_2).f3).length c247_4, .slice A247_5 ((rd_T30 l0 x40_2).f4).length c247_5, .slice (some ad249) ((rd_T30 l0 x40_2).f5).length c247_6, .slice A247_7 ((rd_T30 l0 x40_2).f6).length c247_7] 30 (0, 0)) (by (with_reducible repeat (first | refine blk_drewN ?_ _ | refine blk_drew ?_ | refine blk_alloc ?_ _)); exact BK248.out) hb); have n4_ := Aside0.mk (below_step (by repeat (first | (with_reducible first | exact HB.out | apply below_alloc | apply pw_below_drewN | apply below_drew1 | refine below_set ?_ GE246.out | refine below_set ?_ GE248.out) | exact HB.out)) hb); have n5_ := Aside0.mk (hbox); have n6_ := Aside0.mk ((by rw [hg]; exact (below_size (by repeat (first | (with_reducible first | exact HB.out | apply below_alloc | apply pw_below_drewN | apply below_drew1 | refine below_set ?_ GE246.out | refine below_set ?_ GE248.out) | exact HB.out))) : w.heap.size ≤ gb250)); have n7_ := Aside0.mk ((by rw [hg]; exact (below_size (by repeat (first | (with_reducible first | exact HB.out | apply below_alloc | apply pw_below_drewN | apply below_drew1 | refine below_set ?_ GE246.out | refine below_set ?_ GE248.out) | exact HB.out))) : w.heap.size ≤ gb250)); have n8_ := Aside0.mk ((by rw [hg]; exact Nat.ne_of_lt (blk_lt (g := gb246) (o := .cells #[.int .i64 t238, .int .i64 t239, .slice Ao26 t240.length co26, .slice Ao27 t243.length co27] 36 (0, 0)) (by (with_reducible repeat (first | refine blk_drewN ?_ _ | refine blk_drew ?_ | refine blk_alloc ?_ _)); exact BK246.out)) : gb246 ≠ gb250)); have n9_ := Aside0.mk ((by rw [hg]; exact Nat.ne_of_gt (blk_lt (g := gb246) (o := .cells #[.int .i64 t238, .int .i64 t239, .slice Ao26 t240.length co26, .slice Ao27 t243.length co27] 36 (0, 0)) (by (with_reducible repeat (first | refine blk_drewN ?_ _ | refine blk_drew ?_ | refine blk_alloc ?_ _)); exact BK246.out)) : gb250 ≠ gb246)); have n10_ := Aside0.mk ((by rw [hg]; exact Nat.ne_of_lt (blk_lt (g := gb248) (o := .cells #[.int .i64 ((rd_T30 l0 x40_2).f0.f0), .int .i64 ((rd_T30 l0 x40_2).f0.f1), .int .i64 ((rd_T30 l0 x40_2).f1), .int .i64 ((rd_T30 l0 x40_2).f2), .slice A247_4 ((rd_T30 l0 x40_2).f3).length c247_4, .slice A247_5 ((rd_T30 l0 x40_2).f4).length c247_5, .slice (some ad249) ((rd_T30 l0 x40_2).f5).length c247_6, .slice A247_7 ((rd_T30 l0 x40_2).f6).length c247_7] 30 (0, 0)) (by (with_reducible repeat (first | refine blk_drewN ?_ _ | refine blk_drew ?_ | refine blk_alloc ?_ _)); exact BK248.out)) : gb248 ≠ gb250)); have n11_ := Aside0.mk ((by rw [hg]; exact Nat.ne_of_gt (blk_lt (g := gb248) (o := .cells #[.int .i64 ((rd_T30 l0 x40_2).f0.f0), .int .i64 ((rd_T30 l0 x40_2).f0.f1), .int .i64 ((rd_T30 l0 x40_2).f1), .int .i64 ((rd_T30 l0 x40_2).f2), .slice A247_4 ((rd_T30 l0 x40_2).f3).length c247_4, .slice A247_5 ((rd_T30 l0 x40_2).f4).length c247_5, .slice (some ad249) ((rd_T30 l0 x40_2).f5).length c247_6, .slice A247_7 ((rd_T30 l0 x40_2).f6).length c247_7] 30 (0, 0)) (by (with_reducible repeat (first | refine blk_drewN ?_ _ | refine blk_drew ?_ | refine blk_alloc ?_ _)); exact BK248.out)) : gb250 ≠ gb248)); clear HO_247002; clear HO_247003; clear BK246; clear BK248; clear HB; have HO_247002 := n0_; have HO_247003 := n1_; have BK246 := n2_; have BK248 := n3_; have HB := n4_; have BK250 := n5_; have GW250 := n6_; have GE250 := n7_; have NB246_250 := n8_; have NB250_246 := n9_; have NB248_250 := n10_; have NB250_248 := n11_; clear n0_ n1_ n2_ n3_ n4_ n5_ n6_ n7_ n8_ n9_ n10_ n11_; clear hb hbox hg; have hnb39 := NB250_246.out; have hnc39 := NB246_250.out; have hnb40 := NB250_248.out; have hnc40 := NB248_250.out; have hcz41_0 : w38.cell? ⟨gb250, 0, none⟩ = some (.int .i64 0) := (blk_cell BK250.out 0).trans rfl; have hcz41_1 : w38.cell? ⟨gb250, 1, none⟩ = some (.int .i64 0) := (blk_cell BK250.out 1).trans rfl; have hcz41_2 : w38.cell? ⟨gb250, 2, none⟩ = some (.int .i64 0) := (blk_cell BK250.out 2).trans rfl; have hcz41_3 : w38.cell? ⟨gb250, 3, none⟩ = some (.int .i64 0) := (blk_cell BK250.out 3).trans rfl; have hcz41_4 : w38.cell? ⟨gb250, 4, none⟩ = some (.int .i64 0) := (blk_cell BK250.out 4).trans rfl; have hcz41_5 : w38.cell? ⟨gb250, 5, none⟩ = some (.slice none 0 0) := (blk_cell BK250.out 5).trans rfl; have hcz41_6 : w38.cell? ⟨gb250, 6, none⟩ = some (.slice none 0 0) := (blk_cell BK250.out 6).trans rfl; have hcz41_7 : w38.cell? ⟨gb250, 7, none⟩ = some (.slice none 0 0) := (blk_cell BK250.out 7).trans rfl; have hfz41_0 := blk_frozen BK250.out 0; have hfz41_1 := blk_frozen BK250.out 1; have hfz41_2 := blk_frozen BK250.out 2; have hfz41_3 := blk_frozen BK250.out 3; have hfz41_4 := blk_frozen BK250.out 4; have hfz41_5 := blk_frozen BK250.out 5; have hfz41_6 := blk_frozen BK250.out 6; have hfz41_7 := blk_frozen BK250.out 7))
                                go_loopg [15, 57] k3 (fun kq v15 v57 w' => ∃ (x15_4 : Bool) (x57_4 : Int), v15 = .bool x15_4 ∧ v57 = .int .i64 x57_4 ∧ Aside0 (catenarylaw18_ChooseKeeps.l3 kq l0 a1 x9_3 true x15_4 l0 (l0.length : Int) x40_2 ((rd_T30 l0 x40_2).f5) (((rd_T30 l0 x40_2).f5).length : Int) x47_3 l0 (l0.length : Int) x57_4 t238 t239 t240 t243 ((rd_T45 ((rd_T30 l0 x40_2).f5) x47_3).f0) ((rd_T45 ((rd_T30 l0 x40_2).f5) x47_3).f1.f0) ((rd_T45 ((rd_T30 l0 x40_2).f5) x47_3).f1.f1) ((rd_T45 ((rd_T30 l0 x40_2).f5) x47_3).f2.f0) ((rd_T45 ((rd_T30 l0 x40_2).f5) x47_3).f2.f1) ((rd_T45 ((rd_T30 l0 x40_2).f5) x47_3).f2.f2) ((rd_T45 ((rd_T30 l0 x40_2).f5) x47_3).f2.f3) ((rd_T45 ((rd_T30 l0 x40_2).f5) x47_3).f3) = some r) ∧ Aside0 (kq ≤ k3) ∧ Aside0 (Kd.R (Kd.int .u8) 5 w' w.heap.size (fun k_ => some k_ ≠ ((.slice Ao27 t243.length co27) : Value).ownBlock) (.slice Ao26 t240.length co26) t240) ∧ Aside0 (Kd.R (Kd.int .u8) 5 w' w.heap.size (fun k_ => some k_ ≠ ((.slice Ao26 t240.length co26) : Value).ownBlock) (.slice Ao27 t243.length co27) t243) ∧ Aside0 (w'.heap[gb246]? = some (.cells #[.int .i64 t238, .int .i64 t239, (.slice Ao26 t240.length co26), (.slice Ao27 t243.length co27)] 36 (0, 0))) ∧ Aside0 (w'.heap[gb248]? = some (.cells #[.int .i64 ((rd_T30 l0 x40_2).f0.f0), .int .i64 ((rd_T30 l0 x40_2).f0.f1), .int .i64 ((rd_T30 l0 x40_2).f1), .int .i64 ((rd_T30 l0 x40_2).f2), (.slice A247_4 ((rd_T30 l0 x40_2).f3).length c247_4), (.slice A247_5 ((rd_T30 l0 x40_2).f4).length c247_5), (.slice (some ad249) ((rd_T30 l0 x40_2).f5).length c247_6), (.slice A247_7 ((rd_T30 l0 x40_2).f6).length c247_7)] 30 (0, 0))) ∧ Aside0 (w'.heap[gb250]? = some (.cells #[.int .i64 ((rd_T45 ((rd_T30 l0 x40_2).f5) x47_3).f0), .int .i64 ((rd_T45 ((rd_T30 l0 x40_2).f5) x47_3).f1.f0), .int .i64 ((rd_T45 ((rd_T30 l0 x40_2).f5) x47_3).f1.f1), .int .i64 ((rd_T45 ((rd_T30 l0 x40_2).f5) x47_3).f2.f0), .int .i64 ((rd_T45 ((rd_T30 l0 x40_2).f5) x47_3).f2.f1), (.slice A249_5 ((rd_T45 ((rd_T30 l0 x40_2).f5) x47_3).f2.f2).length c249_5), (.slice A249_6 ((rd_T45 ((rd_T30 l0 x40_2).f5) x47_3).f2.f3).length c249_6), (.slice A249_7 ((rd_T45 ((rd_T30 l0 x40_2).f5) x47_3).f3).length c249_7)] 45 (0, 0))) ∧ Aside0 (Below w.heap.size w w'))
                                case atStart => exact ⟨(true), (0), (by first | rfl | (simp; done) | (simp [*]; done)), (by first | rfl | (simp; done) | (simp [*]; done)), H', ⟨Nat.le_refl _⟩, ⟨by (with_reducible repeat (first | apply Kd.R_alloc | apply Kd.R_drewN | apply Kd.R_drew)); exact Kd.R_mono (Kd.R_far (p := ⟨gb250, 7, none⟩) (Kd.R_far (p := ⟨gb250, 6, none⟩) (Kd.R_far (p := ⟨gb250, 5, none⟩) (Kd.R_far (p := ⟨gb250, 4, none⟩) (Kd.R_far (p := ⟨gb250, 3, none⟩) (Kd.R_far (p := ⟨gb250, 2, none⟩) (Kd.R_far (p := ⟨gb250, 1, none⟩) (Kd.R_far (p := ⟨gb250, 0, none⟩) (Kd.R_types HO_247002.out BK250.out (by decide)) (fun _ hk => hk.2) (.int .i64 ((rd_T45 ((rd_T30 l0 x40_2).f5) x47_3).f0))) (fun _ hk => hk.2) (.int .i64 ((rd_T45 ((rd_T30 l0 x40_2).f5) x47_3).f1.f0))) (fun _ hk => hk.2) (.int .i64 ((rd_T45 ((rd_T30 l0 x40_2).f5) x47_3).f1.f1))) (fun _ hk => hk.2) (.int .i64 ((rd_T45 ((rd_T30 l0 x40_2).f5) x47_3).f2.f0))) (fun _ hk => hk.2) (.int .i64 ((rd_T45 ((rd_T30 l0 x40_2).f5) x47_3).f2.f1))) (fun _ hk => hk.2) (.slice A249_5 ((rd_T45 ((rd_T30 l0 x40_2).f5) x47_3).f2.f2).length c249_5)) (fun _ hk => hk.2) (.slice A249_6 ((rd_T45 ((rd_T30 l0 x40_2).f5) x47_3).f2.f3).length c249_6)) (fun _ hk => hk.2) (.slice A249_7 ((rd_T45 ((rd_T30 l0 x40_2).f5) x47_3).f3).length c249_7)) (fun _ hk => hk.1)⟩, ⟨by (with_reducible repeat (first | apply Kd.R_alloc | apply Kd.R_drewN | apply Kd.R_drew)); exact Kd.R_mono (Kd.R_far (p := ⟨gb250, 7, none⟩) (Kd.R_far (p := ⟨gb250, 6, none⟩) (Kd.R_far (p := ⟨gb250, 5, none⟩) (Kd.R_far (p := ⟨gb250, 4, none⟩) (Kd.R_far (p := ⟨gb250, 3, none⟩) (Kd.R_far (p := ⟨gb250, 2, none⟩) (Kd.R_far (p := ⟨gb250, 1, none⟩) (Kd.R_far (p := ⟨gb250, 0, none⟩) (Kd.R_types HO_247003.out BK250.out (by decide)) (fun _ hk => hk.2) (.int .i64 ((rd_T45 ((rd_T30 l0 x40_2).f5) x47_3).f0))) (fun _ hk => hk.2) (.int .i64 ((rd_T45 ((rd_T30 l0 x40_2).f5) x47_3).f1.f0))) (fun _ hk => hk.2) (.int .i64 ((rd_T45 ((rd_T30 l0 x40_2).f5) x47_3).f1.f1))) (fun _ hk => hk.2) (.int .i64 ((rd_T45 ((rd_T30 l0 x40_2).f5) x47_3).f2.f0))) (fun _ hk => hk.2) (.int .i64 ((rd_T45 ((rd_T30 l0 x40_2).f5) x47_3).f2.f1))) (fun _ hk => hk.2) (.slice A249_5 ((rd_T45 ((rd_T30 l0 x40_2).f5) x47_3).f2.f2).length c249_5)) (fun _ hk => hk.2) (.slice A249_6 ((rd_T45 ((rd_T30 l0 x40_2).f5) x47_3).f2.f3).length c249_6)) (fun _ hk => hk.2) (.slice A249_7 ((rd_T45 ((rd_T30 l0 x40_2).f5) x47_3).f3).length c249_7)) (fun _ hk => hk.1)⟩, ⟨by (with_reducible repeat (first | refine blk_drewN ?_ _ | refine blk_drew ?_ | refine blk_alloc ?_ _)); refine blk_far ?_ NB246_250.out _; (with_reducible repeat (first | refine blk_drewN ?_ _ | refine blk_drew ?_ | refine blk_alloc ?_ _)); refine blk_far ?_ NB246_250.out _; (with_reducible repeat (first | refine blk_drewN ?_ _ | refine blk_drew ?_ | refine blk_alloc ?_ _)); refine blk_far ?_ NB246_250.out _; (with_reducible repeat (first | refine blk_drewN ?_ _ | refine blk_drew ?_ | refine blk_alloc ?_ _)); refine blk_far ?_ NB246_250.out _; (with_reducible repeat (first | refine blk_drewN ?_ _ | refine blk_drew ?_ | refine blk_alloc ?_ _)); refine blk_far ?_ NB246_250.out _; (with_reducible repeat (first | refine blk_drewN ?_ _ | refine blk_drew ?_ | refine blk_alloc ?_ _)); refine blk_far ?_ NB246_250.out _; (with_reducible repeat (first | refine blk_drewN ?_ _ | refine blk_drew ?_ | refine blk_alloc ?_ _)); refine blk_far ?_ NB246_250.out _; (with_reducible repeat (first | refine blk_drewN ?_ _ | refine blk_drew ?_ | refine blk_alloc ?_ _)); refine blk_far ?_ NB246_250.out _; (with_reducible repeat (first | refine blk_drewN ?_ _ | refine blk_drew ?_ | refine blk_alloc ?_ _)); exact BK246.out⟩, ⟨by (with_reducible repeat (first | refine blk_drewN ?_ _ | refine blk_drew ?_ | refine blk_alloc ?_ _)); refine blk_far ?_ NB248_250.out _; (with_reducible repeat (first | refine blk_drewN ?_ _ | refine blk_drew ?_ | refine blk_alloc ?_ _)); refine blk_far ?_ NB248_250.out _; (with_reducible repeat (first | refine blk_drewN ?_ _ | refine blk_drew ?_ | refine blk_alloc ?_ _)); refine blk_far ?_ NB248_250.out _; (with_reducible repeat (first | refine blk_drewN ?_ _ | refine blk_drew ?_ | refine blk_alloc ?_ _)); refine blk_far ?_ NB248_250.out _; (with_reducible repeat (first | refine blk_drewN ?_ _ | refine blk_drew ?_ | refine blk_alloc ?_ _)); refine blk_far ?_ NB248_250.out _; (with_reducible repeat (first | refine blk_drewN ?_ _ | refine blk_drew ?_ | refine blk_alloc ?_ _)); refine blk_far ?_ NB248_250.out _; (with_reducible repeat (first | refine blk_drewN ?_ _ | refine blk_drew ?_ | refine blk_alloc ?_ _)); refine blk_far ?_ NB248_250.out _; (with_reducible repeat (first | refine blk_drewN ?_ _ | refine blk_drew ?_ | refine blk_alloc ?_ _)); refine blk_far ?_ NB248_250.out _; (with_reducible repeat (first | refine blk_drewN ?_ _ | refine blk_drew ?_ | refine blk_alloc ?_ _)); exact BK248.out⟩, ⟨by (with_reducible repeat (first | refine blk_drewN ?_ _ | refine blk_drew ?_ | refine blk_alloc ?_ _)); refine blk_put (cs := #[.int .i64 ((rd_T45 ((rd_T30 l0 x40_2).f5) x47_3).f0), .int .i64 ((rd_T45 ((rd_T30 l0 x40_2).f5) x47_3).f1.f0), .int .i64 ((rd_T45 ((rd_T30 l0 x40_2).f5) x47_3).f1.f1), .int .i64 ((rd_T45 ((rd_T30 l0 x40_2).f5) x47_3).f2.f0), .int .i64 ((rd_T45 ((rd_T30 l0 x40_2).f5) x47_3).f2.f1), .slice A249_5 ((rd_T45 ((rd_T30 l0 x40_2).f5) x47_3).f2.f2).length c249_5, .slice A249_6 ((rd_T45 ((rd_T30 l0 x40_2).f5) x47_3).f2.f3).length c249_6, .slice none 0 0]) ?_ 7 _ rfl; (with_reducible repeat (first | refine blk_drewN ?_ _ | refine blk_drew ?_ | refine blk_alloc ?_ _)); refine blk_put (cs := #[.int .i64 ((rd_T45 ((rd_T30 l0 x40_2).f5) x47_3).f0), .int .i64 ((rd_T45 ((rd_T30 l0 x40_2).f5) x47_3).f1.f0), .int .i64 ((rd_T45 ((rd_T30 l0 x40_2).f5) x47_3).f1.f1), .int .i64 ((rd_T45 ((rd_T30 l0 x40_2).f5) x47_3).f2.f0), .int .i64 ((rd_T45 ((rd_T30 l0 x40_2).f5) x47_3).f2.f1), .slice A249_5 ((rd_T45 ((rd_T30 l0 x40_2).f5) x47_3).f2.f2).length c249_5, .slice none 0 0, .slice none 0 0]) ?_ 6 _ rfl; (with_reducible repeat (first | refine blk_drewN ?_ _ | refine blk_drew ?_ | refine blk_alloc ?_ _)); refine blk_put (cs := #[.int .i64 ((rd_T45 ((rd_T30 l0 x40_2).f5) x47_3).f0), .int .i64 ((rd_T45 ((rd_T30 l0 x40_2).f5) x47_3).f1.f0), .int .i64 ((rd_T45 ((rd_T30 l0 x40_2).f5) x47_3).f1.f1), .int .i64 ((rd_T45 ((rd_T30 l0 x40_2).f5) x47_3).f2.f0), .int .i64 ((rd_T45 ((rd_T30 l0 x40_2).f5) x47_3).f2.f1), .slice none 0 0, .slice none 0 0, .slice none 0 0]) ?_ 5 _ rfl; (with_reducible repeat (first | refine blk_drewN ?_ _ | refine blk_drew ?_ | refine blk_alloc ?_ _)); refine blk_put (cs := #[.int .i64 ((rd_T45 ((rd_T30 l0 x40_2).f5) x47_3).f0), .int .i64 ((rd_T45 ((rd_T30 l0 x40_2).f5) x47_3).f1.f0), .int .i64 ((rd_T45 ((rd_T30 l0 x40_2).f5) x47_3).f1.f1), .int .i64 ((rd_T45 ((rd_T30 l0 x40_2).f5) x47_3).f2.f0), .int .i64 0, .slice none 0 0, .slice none 0 0, .slice none 0 0]) ?_ 4 _ rfl; (with_reducible repeat (first | refine blk_drewN ?_ _ | refine blk_drew ?_ | refine blk_alloc ?_ _)); refine blk_put (cs := #[.int .i64 ((rd_T45 ((rd_T30 l0 x40_2).f5) x47_3).f0), .int .i64 ((rd_T45 ((rd_T30 l0 x40_2).f5) x47_3).f1.f0), .int .i64 ((rd_T45 ((rd_T30 l0 x40_2).f5) x47_3).f1.f1), .int .i64 0, .int .i64 0, .slice none 0 0, .slice none 0 0, .slice none 0 0]) ?_ 3 _ rfl; (with_reducible repeat (first | refine blk_drewN ?_ _ | refine blk_drew ?_ | refine blk_alloc ?_ _)); refine blk_put (cs := #[.int .i64 ((rd_T45 ((rd_T30 l0 x40_2).f5) x47_3).f0), .int .i64 ((rd_T45 ((rd_T30 l0 x40_2).f5) x47_3).f1.f0), .int .i64 0, .int .i64 0, .int .i64 0, .slice none 0 0, .slice none 0 0, .slice none 0 0]) ?_ 2 _ rfl; (with_reducible repeat (first | refine blk_drewN ?_ _ | refine blk_drew ?_ | refine blk_alloc ?_ _)); refine blk_put (cs := #[.int .i64 ((rd_T45 ((rd_T30 l0 x40_2).f5) x47_3).f0), .int .i64 0, .int .i64 0, .int .i64 0, .int .i64 0, .slice none 0 0, .slice none 0 0, .slice none 0 0]) ?_ 1 _ rfl; (with_reducible repeat (first | refine blk_drewN ?_ _ | refine blk_drew ?_ | refine blk_alloc ?_ _)); refine blk_put (cs := #[.int .i64 0, .int .i64 0, .int .i64 0, .int .i64 0, .int .i64 0, .slice none 0 0, .slice none 0 0, .slice none 0 0]) ?_ 0 _ rfl; (with_reducible repeat (first | refine blk_drewN ?_ _ | refine blk_drew ?_ | refine blk_alloc ?_ _)); exact BK250.out⟩, ⟨by repeat (first | (with_reducible first | exact HB.out | apply below_alloc | apply pw_below_drewN | apply below_drew1 | refine below_set ?_ GE246.out | refine below_set ?_ GE248.out | refine below_set ?_ GE250.out) | exact HB.out)⟩⟩
                                case round =>
                                  clear H'
                                  try clear c1
                                  try clear c2
                                  try clear p2
                                  try clear q2
                                  try clear hx2
                                  try clear c3
                                  try clear c4
                                  try clear c5
                                  try clear c6
                                  try clear p6
                                  try clear c8
                                  try clear c8b0
                                  try clear c9
                                  try clear c9b0
                                  try clear c10
                                  try clear c10b0
                                  try clear c12
                                  try clear c21
                                  try clear p21
                                  try clear q21
                                  try clear hx21
                                  try clear c24
                                  try clear p24
                                  try clear q24
                                  try clear hx24
                                  try clear c28
                                  try clear c28b0
                                  try clear c29
                                  try clear c29b0
                                  try clear c30
                                  try clear c30b0
                                  try clear c32
                                  try clear c34
                                  try clear c34b0
                                  try clear c35
                                  try clear c35b0
                                  try clear c36
                                  try clear c36b0
                                  try clear c37
                                  try clear c37b0
                                  try clear c37b1
                                  try clear c39
                                  try clear c40
                                  try clear hcz14_0
                                  try clear hcz14_1
                                  try clear hcz14_2
                                  try clear hcz14_3
                                  try clear hcz14_4
                                  try clear hcz14_5
                                  try clear hcz14_6
                                  try clear hcz14_7
                                  try clear hcz25_0
                                  try clear hcz25_1
                                  try clear hcz25_2
                                  try clear hcz25_3
                                  try clear hcz33_0
                                  try clear hcz33_1
                                  try clear hcz33_2
                                  try clear hcz33_3
                                  try clear hcz33_4
                                  try clear hcz33_5
                                  try clear hcz33_6
                                  try clear hcz33_7
                                  try clear hcz41_0
                                  try clear hcz41_1
                                  try clear hcz41_2
                                  try clear hcz41_3
                                  try clear hcz41_4
                                  try clear hcz41_5
                                  try clear hcz41_6
                                  try clear hcz41_7
                                  try clear hfz14_0
                                  try clear hfz14_1
                                  try clear hfz14_2
                                  try clear hfz14_3
                                  try clear hfz14_4
                                  try clear hfz14_5
                                  try clear hfz14_6
                                  try clear hfz14_7
                                  try clear hfz25_0
                                  try clear hfz25_1
                                  try clear hfz25_2
                                  try clear hfz25_3
                                  try clear hfz33_0
                                  try clear hfz33_1
                                  try clear hfz33_2
                                  try clear hfz33_3
                                  try clear hfz33_4
                                  try clear hfz33_5
                                  try clear hfz33_6
                                  try clear hfz33_7
                                  try clear hfz41_0
                                  try clear hfz41_1
                                  try clear hfz41_2
                                  try clear hfz41_3
                                  try clear hfz41_4
                                  try clear hfz41_5
                                  try clear hfz41_6
                                  try clear hfz41_7
                                  try clear hx217_0
                                  try clear hx217_1
                                  try clear hx217_2
                                  try clear hx217_3
                                  try clear hx217_4
                                  try clear hx217_5
                                  try clear hx217_6
                                  try clear hx217_7
                                  try clear hx247_0
                                  try clear hx247_1
                                  try clear hx247_2
                                  try clear hx247_3
                                  try clear hx247_4
                                  try clear hx247_5
                                  try clear hx247_6
                                  try clear hx247_7
                                  try clear hx249_0
                                  try clear hx249_1
                                  try clear hx249_2
                                  try clear hx249_3
                                  try clear hx249_4
                                  try clear hx249_5
                                  try clear hx249_6
                                  try clear hx249_7
                                  try clear p2
                                  try clear p21
                                  try clear p217
                                  try clear p24
                                  try clear p247
                                  try clear p249
                                  try clear p6
                                  try clear q2
                                  try clear q21
                                  try clear q217
                                  try clear q24
                                  try clear q247
                                  try clear q249
                                  obtain ⟨x15_4, x57_4, rfl, rfl, HA, HK4, HO_247002, HO_247003, BK246, BK248, BK250, HB⟩ := hrel
                                  cases gk with
                                  | zero => exact absurd HA.out (by simp [catenarylaw18_ChooseKeeps.l3])
                                  | succ k4 =>
                                    have H := HA.out
                                    clear HA
                                    simp only [catenarylaw18_ChooseKeeps.l3] at H
                                    by_cases c42 : x57_4 < (l0.length : Int)
                                    · rw [if_pos c42] at H
                                      have c42b0 : decide (x57_4 < (l0.length : Int)) = true := decide_eq_true c42
                                      clear c42
                                      by_cases c43 : 0 ≤ x57_4
                                      · rw [if_pos c43] at H
                                        have c43b0 : decide (0 ≤ x57_4) = true := decide_eq_true c43
                                        clear c43
                                        by_cases c44 : x57_4 < (l0.length : Int)
                                        · rw [if_pos c44] at H
                                          have c44b0 : decide (x57_4 < (l0.length : Int)) = true := decide_eq_true c44
                                          clear c44
                                          have H' := Aside0.mk H
                                          clear H
                                          have p251 : 0 ≤ (x57_4 : Int) := of_decide_eq_true (by first | (with_reducible assumption) | assumption)
                                          have q251 : x57_4 < (l0.length : Int) := of_decide_eq_true (by first | (with_reducible assumption) | assumption)
                                          obtain ⟨ad251, A251_4, c251_4, A251_5, c251_5, A251_6, c251_6, A251_7, c251_7, e251, hx251_0, hx251_1, hx251_2, hx251_3, hx251_4, hx251_5, hx251_6, hx251_7, hl251_4, hi251_4, hl251_5, hi251_5, hl251_6, hi251_6, hl251_7, hi251_7⟩ := at_T30 HR0.out x57_4 p251 q251
                                          obtain rfl : ad247 = ad251 := (by injection e251)
                                          replace hx251_0 := (HB.out.cell (World.block_lt_of_cell? w _ hx251_0)).trans hx251_0
                                          replace hx251_1 := (HB.out.cell (World.block_lt_of_cell? w _ hx251_1)).trans hx251_1
                                          replace hx251_2 := (HB.out.cell (World.block_lt_of_cell? w _ hx251_2)).trans hx251_2
                                          replace hx251_3 := (HB.out.cell (World.block_lt_of_cell? w _ hx251_3)).trans hx251_3
                                          replace hx251_4 := (HB.out.cell (World.block_lt_of_cell? w _ hx251_4)).trans hx251_4
                                          replace hx251_5 := (HB.out.cell (World.block_lt_of_cell? w _ hx251_5)).trans hx251_5
                                          replace hx251_6 := (HB.out.cell (World.block_lt_of_cell? w _ hx251_6)).trans hx251_6
                                          replace hx251_7 := (HB.out.cell (World.block_lt_of_cell? w _ hx251_7)).trans hx251_7
                                          have HR251_4 := Aside0.mk hi251_4
                                          have HC251_4 := Aside0.mk hl251_4
                                          clear hi251_4 hl251_4
                                          have HR251_5 := Aside0.mk hi251_5
                                          have HC251_5 := Aside0.mk hl251_5
                                          clear hi251_5 hl251_5
                                          have HR251_6 := Aside0.mk hi251_6
                                          have HC251_6 := Aside0.mk hl251_6
                                          clear hi251_6 hl251_6
                                          have HR251_7 := Aside0.mk hi251_7
                                          have HC251_7 := Aside0.mk hl251_7
                                          clear hi251_7 hl251_7
                                          replace p251 := eq_true p251
                                          replace q251 := eq_true q251
                                          go_wp2_with (first | ((with_reducible refine gate_dst (N := 17) rfl ?_); refine box_event ?hg (N := 17) ?hd (cs := #[.int .i64 0, .int .i64 0, .int .i64 0, .int .i64 0, .slice none 0 0, .slice none 0 0, .slice none 0 0, .slice none 0 0]) (t := 30) ?hr ?_; (case hd => rfl); (case hg => rfl); (case hr => first | (go_simp; done) | (go_simp; rfl)); intro gb252 hg w45 hbox hb; have n0_ := Aside0.mk (Kd.R_below (by (with_reducible repeat (first | apply Kd.R_alloc | apply Kd.R_drewN | apply Kd.R_drew)); exact HO_247002.out) hb); have n1_ := Aside0.mk (Kd.R_below (by (with_reducible repeat (first | apply Kd.R_alloc | apply Kd.R_drewN | apply Kd.R_drew)); exact HO_247003.out) hb); have n2_ := Aside0.mk (blk_below (g := gb246) (o := .cells #[.int .i64 t238, .int .i64 t239, .slice Ao26 t240.length co26, .slice Ao27 t243.length co27] 36 (0, 0)) (by (with_reducible repeat (first | refine blk_drewN ?_ _ | refine blk_drew ?_ | refine blk_alloc ?_ _)); exact BK246.out) hb); have n3_ := Aside0.mk (blk_below (g := gb248) (o := .cells #[.int .i64 ((rd_T30 l0 x40_2).f0.f0), .int .i64 ((rd_T30 l0 x40_2).f0.f1), .int .i64 ((rd_T30 l0 x40_2).f1), .int .i64 ((rd_T30 l0 x40_2).f2), .slice A247_4 ((rd_T30 l0 x40_2).f3).length c247_4, .slice A247_5 ((rd_T30 l0 x40_2).f4).length c247_5, .slice (some ad249) ((rd_T30 l0 x40_2).f5).length c247_6, .slice A247_7 ((rd_T30 l0 x40_2).f6).length c247_7] 30 (0, 0)) (by (with_reducible repeat (first | refine blk_drewN ?_ _ | refine blk_drew ?_ | refine blk_alloc ?_ _)); exact BK248.out) hb); have n4_ := Aside0.mk (blk_below (g := gb250) (o := .cells #[.int .i64 ((rd_T45 ((rd_T30 l0 x40_2).f5) x47_3).f0), .int .i64 ((rd_T45 ((rd_T30 l0 x40_2).f5) x47_3).f1.f0), .int .i64 ((rd_T45 ((rd_T30 l0 x40_2).f5) x47_3).f1.f1), .int .i64 ((rd_T45 ((rd_T30 l0 x40_2).f5) x47_3).f2.f0), .int .i64 ((rd_T45 ((rd_T30 l0 x40_2).f5) x47_3).f2.f1), .slice A249_5 ((rd_T45 ((rd_T30 l0 x40_2).f5) x47_3).f2.f2).length c249_5, .slice A249_6 ((rd_T45 ((rd_T30 l0 x40_2).f5) x47_3).f2.f3).length c249_6, .slice A249_7 ((rd_T45 ((rd_T30 l0 x40_2).f5) x47_3).f3).length c249_7] 45 (0, 0)) (by (with_reducible repeat (first | refine blk_drewN ?_ _ | refine blk_drew ?_ | refine blk_alloc ?_ _)); exact BK250.out) hb); have n5_ := Aside0.mk (below_step (by repeat (first | (with_reducible first | exact HB.out | apply below_alloc | apply pw_below_drewN | apply below_drew1 | refine below_set ?_ GE246.out | refine below_set ?_ GE248.out | refine below_set ?_ GE250.out) | exact HB.out)) hb); have n6_ := Aside0.mk (hbox); have n7_ := Aside0.mk ((by rw [hg]; exact (below_size (by repeat (first | (with_reducible first | exact HB.out | apply below_alloc | apply pw_below_drewN | apply below_drew1 | refine below_set ?_ GE246.out | refine below_set ?_ GE248.out | refine below_set ?_ GE250.out) | exact HB.out))) : w.heap.size ≤ gb252)); have n8_ := Aside0.mk ((by rw [hg]; exact (below_size (by repeat (first | (with_reducible first | exact HB.out | apply below_alloc | apply pw_below_drewN | apply below_drew1 | refine below_set ?_ GE246.out | refine below_set ?_ GE248.out | refine below_set ?_ GE250.out) | exact HB.out))) : w.heap.size ≤ gb252)); have n9_ := Aside0.mk ((by rw [hg]; exact Nat.ne_of_lt (blk_lt (g := gb246) (o := .cells #[.int .i64 t238, .int .i64 t239, .slice Ao26 t240.length co26, .slice Ao27 t243.length co27] 36 (0, 0)) (by (with_reducible repeat (first | refine blk_drewN ?_ _ | refine blk_drew ?_ | refine blk_alloc ?_ _)); exact BK246.out)) : gb246 ≠ gb252)); have n10_ := Aside0.mk ((by rw [hg]; exact Nat.ne_of_gt (blk_lt (g := gb246) (o := .cells #[.int .i64 t238, .int .i64 t239, .slice Ao26 t240.length co26, .slice Ao27 t243.length co27] 36 (0, 0)) (by (with_reducible repeat (first | refine blk_drewN ?_ _ | refine blk_drew ?_ | refine blk_alloc ?_ _)); exact BK246.out)) : gb252 ≠ gb246)); have n11_ := Aside0.mk ((by rw [hg]; exact Nat.ne_of_lt (blk_lt (g := gb248) (o := .cells #[.int .i64 ((rd_T30 l0 x40_2).f0.f0), .int .i64 ((rd_T30 l0 x40_2).f0.f1), .int .i64 ((rd_T30 l0 x40_2).f1), .int .i64 ((rd_T30 l0 x40_2).f2), .slice A247_4 ((rd_T30 l0 x40_2).f3).length c247_4, .slice A247_5 ((rd_T30 l0 x40_2).f4).length c247_5, .slice (some ad249) ((rd_T30 l0 x40_2).f5).length c247_6, .slice A247_7 ((rd_T30 l0 x40_2).f6).length c247_7] 30 (0, 0)) (by (with_reducible repeat (first | refine blk_drewN ?_ _ | refine blk_drew ?_ | refine blk_alloc ?_ _)); exact BK248.out)) : gb248 ≠ gb252)); have n12_ := Aside0.mk ((by rw [hg]; exact Nat.ne_of_gt (blk_lt (g := gb248) (o := .cells #[.int .i64 ((rd_T30 l0 x40_2).f0.f0), .int .i64 ((rd_T30 l0 x40_2).f0.f1), .int .i64 ((rd_T30 l0 x40_2).f1), .int .i64 ((rd_T30 l0 x40_2).f2), .slice A247_4 ((rd_T30 l0 x40_2).f3).length c247_4, .slice A247_5 ((rd_T30 l0 x40_2).f4).length c247_5, .slice (some ad249) ((rd_T30 l0 x40_2).f5).length c247_6, .slice A247_7 ((rd_T30 l0 x40_2).f6).length c247_7] 30 (0, 0)) (by (with_reducible repeat (first | refine blk_drewN ?_ _ | refine blk_drew ?_ | refine blk_alloc ?_ _)); exact BK248.out)) : gb252 ≠ gb248)); have n13_ := Aside0.mk ((by rw [hg]; exact Nat.ne_of_lt (blk_lt (g := gb250) (o := .cells #[.int .i64 ((rd_T45 ((rd_T30 l0 x40_2).f5) x47_3).f0), .int .i64 ((rd_T45 ((rd_T30 l0 x40_2).f5) x47_3).f1.f0), .int .i64 ((rd_T45 ((rd_T30 l0 x40_2).f5) x47_3).f1.f1), .int .i64 ((rd_T45 ((rd_T30 l0 x40_2).f5) x47_3).f2.f0), .int .i64 ((rd_T45 ((rd_T30 l0 x40_2).f5) x47_3).f2.f1), .slice A249_5 ((rd_T45 ((rd_T30 l0 x40_2).f5) x47_3).f2.f2).length c249_5, .slice A249_6 ((rd_T45 ((rd_T30 l0 x40_2).f5) x47_3).f2.f3).length c249_6, .slice A249_7 ((rd_T45 ((rd_T30 l0 x40_2).f5) x47_3).f3).length c249_7] 45 (0, 0)) (by (with_reducible repeat (first | refine blk_drewN ?_ _ | refine blk_drew ?_ | refine blk_alloc ?_ _)); exact BK250.out)) : gb250 ≠ gb252)); have n14_ := Aside0.mk ((by rw [hg]; exact Nat.ne_of_gt (blk_lt (g := gb250) (o := .cells #[.int .i64 ((rd_T45 ((rd_T30 l0 x40_2).f5) x47_3).f0), .int .i64 ((rd_T45 ((rd_T30 l0 x40_2).f5) x47_3).f1.f0), .int .i64 ((rd_T45 ((rd_T30 l0 x40_2).f5) x47_3).f1.f1), .int .i64 ((rd_T45 ((rd_T30 l0 x40_2).f5) x47_3).f2.f0), .int .i64 ((rd_T45 ((rd_T30 l0 x40_2).f5) x47_3).f2.f1), .slice A249_5 ((rd_T45 ((rd_T30 l0 x40_2).f5) x47_3).f2.f2).length c249_5, .slice A249_6 ((rd_T45 ((rd_T30 l0 x40_2).f5) x47_3).f2.f3).length c249_6, .slice A249_7 ((rd_T45 ((rd_T30 l0 x40_2).f5) x47_3).f3).length c249_7] 45 (0, 0)) (by (with_reducible repeat (first | refine blk_drewN ?_ _ | refine blk_drew ?_ | refine blk_alloc ?_ _)); exact BK250.out)) : gb252 ≠ gb250)); clear HO_247002; clear HO_247003; clear BK246; clear BK248; clear BK250; clear HB; have HO_247002 := n0_; have HO_247003 := n1_; have BK246 := n2_; have BK248 := n3_; have BK250 := n4_; have HB := n5_; have BK252 := n6_; have GW252 := n7_; have GE252 := n8_; have NB246_252 := n9_; have NB252_246 := n10_; have NB248_252 := n11_; have NB252_248 := n12_; have NB250_252 := n13_; have NB252_250 := n14_; clear n0_ n1_ n2_ n3_ n4_ n5_ n6_ n7_ n8_ n9_ n10_ n11_ n12_ n13_ n14_; clear hb hbox hg; have hnb46 := NB252_246.out; have hnc46 := NB246_252.out; have hnb47 := NB252_248.out; have hnc47 := NB248_252.out; have hnb48 := NB252_250.out; have hnc48 := NB250_252.out; have hcz49_0 : w45.cell? ⟨gb252, 0, none⟩ = some (.int .i64 0) := (blk_cell BK252.out 0).trans rfl; have hcz49_1 : w45.cell? ⟨gb252, 1, none⟩ = some (.int .i64 0) := (blk_cell BK252.out 1).trans rfl; have hcz49_2 : w45.cell? ⟨gb252, 2, none⟩ = some (.int .i64 0) := (blk_cell BK252.out 2).trans rfl; have hcz49_3 : w45.cell? ⟨gb252, 3, none⟩ = some (.int .i64 0) := (blk_cell BK252.out 3).trans rfl; have hcz49_4 : w45.cell? ⟨gb252, 4, none⟩ = some (.slice none 0 0) := (blk_cell BK252.out 4).trans rfl; have hcz49_5 : w45.cell? ⟨gb252, 5, none⟩ = some (.slice none 0 0) := (blk_cell BK252.out 5).trans rfl; have hcz49_6 : w45.cell? ⟨gb252, 6, none⟩ = some (.slice none 0 0) := (blk_cell BK252.out 6).trans rfl; have hcz49_7 : w45.cell? ⟨gb252, 7, none⟩ = some (.slice none 0 0) := (blk_cell BK252.out 7).trans rfl; have hfz49_0 := blk_frozen BK252.out 0; have hfz49_1 := blk_frozen BK252.out 1; have hfz49_2 := blk_frozen BK252.out 2; have hfz49_3 := blk_frozen BK252.out 3; have hfz49_4 := blk_frozen BK252.out 4; have hfz49_5 := blk_frozen BK252.out 5; have hfz49_6 := blk_frozen BK252.out 6; have hfz49_7 := blk_frozen BK252.out 7))
                                          go_loopg [15, 64] k4 (fun kq v15 v64 w' => ∃ (x15_5 : Bool) (x64_5 : Int), v15 = .bool x15_5 ∧ v64 = .int .i64 x64_5 ∧ Aside0 (catenarylaw18_ChooseKeeps.l4 kq l0 a1 x9_3 true x15_5 l0 (l0.length : Int) x40_2 ((rd_T30 l0 x40_2).f5) (((rd_T30 l0 x40_2).f5).length : Int) x47_3 l0 (l0.length : Int) x57_4 ((rd_T30 l0 x57_4).f5) (((rd_T30 l0 x57_4).f5).length : Int) x64_5 t238 t239 t240 t243 ((rd_T45 ((rd_T30 l0 x40_2).f5) x47_3).f0) ((rd_T45 ((rd_T30 l0 x40_2).f5) x47_3).f1.f0) ((rd_T45 ((rd_T30 l0 x40_2).f5) x47_3).f1.f1) ((rd_T45 ((rd_T30 l0 x40_2).f5) x47_3).f2.f0) ((rd_T45 ((rd_T30 l0 x40_2).f5) x47_3).f2.f1) ((rd_T45 ((rd_T30 l0 x40_2).f5) x47_3).f2.f2) ((rd_T45 ((rd_T30 l0 x40_2).f5) x47_3).f2.f3) ((rd_T45 ((rd_T30 l0 x40_2).f5) x47_3).f3) = some r) ∧ Aside0 (kq ≤ k4) ∧ Aside0 (Kd.R (Kd.int .u8) 5 w' w.heap.size (fun k_ => some k_ ≠ ((.slice Ao27 t243.length co27) : Value).ownBlock) (.slice Ao26 t240.length co26) t240) ∧ Aside0 (Kd.R (Kd.int .u8) 5 w' w.heap.size (fun k_ => some k_ ≠ ((.slice Ao26 t240.length co26) : Value).ownBlock) (.slice Ao27 t243.length co27) t243) ∧ Aside0 (w'.heap[gb246]? = some (.cells #[.int .i64 t238, .int .i64 t239, (.slice Ao26 t240.length co26), (.slice Ao27 t243.length co27)] 36 (0, 0))) ∧ Aside0 (w'.heap[gb248]? = some (.cells #[.int .i64 ((rd_T30 l0 x40_2).f0.f0), .int .i64 ((rd_T30 l0 x40_2).f0.f1), .int .i64 ((rd_T30 l0 x40_2).f1), .int .i64 ((rd_T30 l0 x40_2).f2), (.slice A247_4 ((rd_T30 l0 x40_2).f3).length c247_4), (.slice A247_5 ((rd_T30 l0 x40_2).f4).length c247_5), (.slice (some ad249) ((rd_T30 l0 x40_2).f5).length c247_6), (.slice A247_7 ((rd_T30 l0 x40_2).f6).length c247_7)] 30 (0, 0))) ∧ Aside0 (w'.heap[gb250]? = some (.cells #[.int .i64 ((rd_T45 ((rd_T30 l0 x40_2).f5) x47_3).f0), .int .i64 ((rd_T45 ((rd_T30 l0 x40_2).f5) x47_3).f1.f0), .int .i64 ((rd_T45 ((rd_T30 l0 x40_2).f5) x47_3).f1.f1), .int .i64 ((rd_T45 ((rd_T30 l0 x40_2).f5) x47_3).f2.f0), .int .i64 ((rd_T45 ((rd_T30 l0 x40_2).f5) x47_3).f2.f1), (.slice A249_5 ((rd_T45 ((rd_T30 l0 x40_2).f5) x47_3).f2.f2).length c249_5), (.slice A249_6 ((rd_T45 ((rd_T30 l0 x40_2).f5) x47_3).f2.f3).length c249_6), (.slice A249_7 ((rd_T45 ((rd_T30 l0 x40_2).f5) x47_3).f3).length c249_7)] 45 (0, 0))) ∧ Aside0 (w'.heap[gb252]? = some (.cells #[.int .i64 ((rd_T30 l0 x57_4).f0.f0), .int .i64 ((rd_T30 l0 x57_4).f0.f1), .int .i64 ((rd_T30 l0 x57_4).f1), .int .i64 ((rd_T30 l0 x57_4).f2), (.slice A251_4 ((rd_T30 l0 x57_4).f3).length c251_4), (.slice A251_5 ((rd_T30 l0 x57_4).f4).length c251_5), (.slice A251_6 ((rd_T30 l0 x57_4).f5).length c251_6), (.slice A251_7 ((rd_T30 l0 x57_4).f6).length c251_7)] 30 (0, 0))) ∧ Aside0 (Below w.heap.size w w'))
                                          case atStart => exact ⟨(x15_4), (0), (by first | rfl | (simp; done) | (simp [*]; done)), (by first | rfl | (simp; done) | (simp [*]; done)), H', ⟨Nat.le_refl _⟩, ⟨by (with_reducible repeat (first | apply Kd.R_alloc | apply Kd.R_drewN | apply Kd.R_drew)); exact Kd.R_mono (Kd.R_far (p := ⟨gb252, 7, none⟩) (Kd.R_far (p := ⟨gb252, 6, none⟩) (Kd.R_far (p := ⟨gb252, 5, none⟩) (Kd.R_far (p := ⟨gb252, 4, none⟩) (Kd.R_far (p := ⟨gb252, 3, none⟩) (Kd.R_far (p := ⟨gb252, 2, none⟩) (Kd.R_far (p := ⟨gb252, 1, none⟩) (Kd.R_far (p := ⟨gb252, 0, none⟩) (Kd.R_types HO_247002.out BK252.out (by decide)) (fun _ hk => hk.2) (.int .i64 ((rd_T30 l0 x57_4).f0.f0))) (fun _ hk => hk.2) (.int .i64 ((rd_T30 l0 x57_4).f0.f1))) (fun _ hk => hk.2) (.int .i64 ((rd_T30 l0 x57_4).f1))) (fun _ hk => hk.2) (.int .i64 ((rd_T30 l0 x57_4).f2))) (fun _ hk => hk.2) (.slice A251_4 ((rd_T30 l0 x57_4).f3).length c251_4)) (fun _ hk => hk.2) (.slice A251_5 ((rd_T30 l0 x57_4).f4).length c251_5)) (fun _ hk => hk.2) (.slice A251_6 ((rd_T30 l0 x57_4).f5).length c251_6)) (fun _ hk => hk.2) (.slice A251_7 ((rd_T30 l0 x57_4).f6).length c251_7)) (fun _ hk => hk.1)⟩, ⟨by (with_reducible repeat (first | apply Kd.R_alloc | apply Kd.R_drewN | apply Kd.R_drew)); exact Kd.R_mono (Kd.R_far (p := ⟨gb252, 7, none⟩) (Kd.R_far (p := ⟨gb252, 6, none⟩) (Kd.R_far (p := ⟨gb252, 5, none⟩) (Kd.R_far (p := ⟨gb252, 4, none⟩) (Kd.R_far (p := ⟨gb252, 3, none⟩) (Kd.R_far (p := ⟨gb252, 2, none⟩) (Kd.R_far (p := ⟨gb252, 1, none⟩) (Kd.R_far (p := ⟨gb252, 0, none⟩) (Kd.R_types HO_247003.out BK252.out (by decide)) (fun _ hk => hk.2) (.int .i64 ((rd_T30 l0 x57_4).f0.f0))) (fun _ hk => hk.2) (.int .i64 ((rd_T30 l0 x57_4).f0.f1))) (fun _ hk => hk.2) (.int .i64 ((rd_T30 l0 x57_4).f1))) (fun _ hk => hk.2) (.int .i64 ((rd_T30 l0 x57_4).f2))) (fun _ hk => hk.2) (.slice A251_4 ((rd_T30 l0 x57_4).f3).length c251_4)) (fun _ hk => hk.2) (.slice A251_5 ((rd_T30 l0 x57_4).f4).length c251_5)) (fun _ hk => hk.2) (.slice A251_6 ((rd_T30 l0 x57_4).f5).length c251_6)) (fun _ hk => hk.2) (.slice A251_7 ((rd_T30 l0 x57_4).f6).length c251_7)) (fun _ hk => hk.1)⟩, ⟨by (with_reducible repeat (first | refine blk_drewN ?_ _ | refine blk_drew ?_ | refine blk_alloc ?_ _)); refine blk_far ?_ NB246_252.out _; (with_reducible repeat (first | refine blk_drewN ?_ _ | refine blk_drew ?_ | refine blk_alloc ?_ _)); refine blk_far ?_ NB246_252.out _; (with_reducible repeat (first | refine blk_drewN ?_ _ | refine blk_drew ?_ | refine blk_alloc ?_ _)); refine blk_far ?_ NB246_252.out _; (with_reducible repeat (first | refine blk_drewN ?_ _ | refine blk_drew ?_ | refine blk_alloc ?_ _)); refine blk_far ?_ NB246_252.out _; (with_reducible repeat (first | refine blk_drewN ?_ _ | refine blk_drew ?_ | refine blk_alloc ?_ _)); refine blk_far ?_ NB246_252.out _; (with_reducible repeat (first | refine blk_drewN ?_ _ | refine blk_drew ?_ | refine blk_alloc ?_ _)); refine blk_far ?_ NB246_252.out _; (with_reducible repeat (first | refine blk_drewN ?_ _ | refine blk_drew ?_ | refine blk_alloc ?_ _)); refine blk_far ?_ NB246_252.out _; (with_reducible repeat (first | refine blk_drewN ?_ _ | refine blk_drew ?_ | refine blk_alloc ?_ _)); refine blk_far ?_ NB246_252.out _; (with_reducible repeat (first | refine blk_drewN ?_ _ | refine blk_drew ?_ | refine blk_alloc ?_ _)); exact BK246.out⟩, ⟨by (with_reducible repeat (first | refine blk_drewN ?_ _ | refine blk_drew ?_ | refine blk_alloc ?_ _)); refine blk_far ?_ NB248_252.out _; (with_reducible repeat (first | refine blk_drewN ?_ _ | refine blk_drew ?_ | refine blk_alloc ?_ _)); refine blk_far ?_ NB248_252.out _; (with_reducible repeat (first | refine blk_drewN ?_ _ | refine blk_drew ?_ | refine blk_alloc ?_ _)); refine blk_far ?_ NB248_252.out _; (with_reducible repeat (first | refine blk_drewN ?_ _ | refine blk_drew ?_ | refine blk_alloc ?_ _)); refine blk_far ?_ NB248_252.out _; (with_reducible repeat (first | refine blk_drewN ?_ _ | refine blk_drew ?_ | refine blk_alloc ?_ _)); refine blk_far ?_ NB248_252.out _; (with_reducible repeat (first | refine blk_drewN ?_ _ | refine blk_drew ?_ | refine blk_alloc ?_ _)); refine blk_far ?_ NB248_252.out _; (with_reducible repeat (first | refine blk_drewN ?_ _ | refine blk_drew ?_ | refine blk_alloc ?_ _)); refine blk_far ?_ NB248_252.out _; (with_reducible repeat (first | refine blk_drewN ?_ _ | refine blk_drew ?_ | refine blk_alloc ?_ _)); refine blk_far ?_ NB248_252.out _; (with_reducible repeat (first | refine blk_drewN ?_ _ | refine blk_drew ?_ | refine blk_alloc ?_ _)); exact BK248.out⟩, ⟨by (with_reducible repeat (first | refine blk_drewN ?_ _ | refine blk_drew ?_ | refine blk_alloc ?_ _)); refine blk_far ?_ NB250_252.out _; (with_reducible repeat (first | refine blk_drewN ?_ _ | refine blk_drew ?_ | refine blk_alloc ?_ _)); refine blk_far ?_ NB250_252.out _; (with_reducible repeat (first | refine blk_drewN ?_ _ | refine blk_drew ?_ | refine blk_alloc ?_ _)); refine blk_far ?_ NB250_252.out _; (with_reducible repeat (first | refine blk_drewN ?_ _ | refine blk_drew ?_ | refine blk_alloc ?_ _)); refine blk_far ?_ NB250_252.out _; (with_reducible repeat (first | refine blk_drewN ?_ _ | refine blk_drew ?_ | refine blk_alloc ?_ _)); refine blk_far ?_ NB250_252.out _; (with_reducible repeat (first | refine blk_drewN ?_ _ | refine blk_drew ?_ | refine blk_alloc ?_ _)); refine blk_far ?_ NB250_252.out _; (with_reducible repeat (first | refine blk_drewN ?_ _ | refine blk_drew ?_ | refine blk_alloc ?_ _)); refine blk_far ?_ NB250_252.out _; (with_reducible repeat (first | refine blk_drewN ?_ _ | refine blk_drew ?_ | refine blk_alloc ?_ _)); refine blk_far ?_ NB250_252.out _; (with_reducible repeat (first | refine blk_drewN ?_ _ | refine blk_drew ?_ | refine blk_alloc ?_ _)); exact BK250.out⟩, ⟨by (with_reducible repeat (first | refine blk_drewN ?_ _ | refine blk_drew ?_ | refine blk_alloc ?_ _)); refine blk_put (cs := #[.int .i64 ((rd_T30 l0 x57_4).f0.f0), .int .i64 ((rd_T30 l0 x57_4).f0.f1), .int .i64 ((rd_T30 l0 x57_4).f1), .int .i64 ((rd_T30 l0 x57_4).f2), .slice A251_4 ((rd_T30 l0 x57_4).f3).length c251_4, .slice A251_5 ((rd_T30 l0 x57_4).f4).length c251_5, .slice A251_6 ((rd_T30 l0 x57_4).f5).length c251_6, .slice none 0 0]) ?_ 7 _ rfl; (with_reducible repeat (first | refine blk_drewN ?_ _ | refine blk_drew ?_ | refine blk_alloc ?_ _)); refine blk_put (cs := #[.int .i64 ((rd_T30 l0 x57_4).f0.f0), .int .i64 ((rd_T30 l0 x57_4).f0.f1), .int .i64 ((rd_T30 l0 x57_4).f1), .int .i64 ((rd_T30 l0 x57_4).f2), .slice A251_4 ((rd_T30 l0 x57_4).f3).length c251_4, .slice A251_5 ((rd_T30 l0 x57_4).f4).length c251_5, .slice none 0 0, .slice none 0 0]) ?_ 6 _ rfl; (with_reducible repeat (first | refine blk_drewN ?_ _ | refine blk_drew ?_ | refine blk_alloc ?_ _)); refine blk_put (cs := #[.int .i64 ((rd_T30 l0 x57_4).f0.f0), .int .i64 ((rd_T30 l0 x57_4).f0.f1), .int .i64 ((rd_T30 l0 x57_4).f1), .int .i64 ((rd_T30 l0 x57_4).f2), .slice A251_4 ((rd_T30 l0 x57_4).f3).length c251_4, .slice none 0 0, .slice none 0 0, .slice none 0 0]) ?_ 5 _ rfl; (with_reducible repeat (first | refine blk_drewN ?_ _ | refine blk_drew ?_ | refine blk_alloc ?_ _)); refine blk_put (cs := #[.int .i64 ((rd_T30 l0 x57_4).f0.f0), .int .i64 ((rd_T30 l0 x57_4).f0.f1), .int .i64 ((rd_T30 l0 x57_4).f1), .int .i64 ((rd_T30 l0 x57_4).f2), .slice none 0 0, .slice none 0 0, .slice none 0 0, .slice none 0 0]) ?_ 4 _ rfl; (with_reducible repeat (first | refine blk_drewN ?_ _ | refine blk_drew ?_ | refine blk_alloc ?_ _)); refine blk_put (cs := #[.int .i64 ((rd_T30 l0 x57_4).f0.f0), .int .i64 ((rd_T30 l0 x57_4).f0.f1), .int .i64 ((rd_T30 l0 x57_4).f1), .int .i64 0, .slice none 0 0, .slice none 0 0, .slice none 0 0, .slice none 0 0]) ?_ 3 _ rfl; (with_reducible repeat (first | refine blk_drewN ?_ _ | refine blk_drew ?_ | refine blk_alloc ?_ _)); refine blk_put (cs := #[.int .i64 ((rd_T30 l0 x57_4).f0.f0), .int .i64 ((rd_T30 l0 x57_4).f0.f1), .int .i64 0, .int .i64 0, .slice none 0 0, .slice none 0 0, .slice none 0 0, .slice none 0 0]) ?_ 2 _ rfl; (with_reducible repeat (first | refine blk_drewN ?_ _ | refine blk_drew ?_ | refine blk_alloc ?_ _)); refine blk_put (cs := #[.int .i64 ((rd_T30 l0 x57_4).f0.f0), .int .i64 0, .int .i64 0, .int .i64 0, .slice none 0 0, .slice none 0 0, .slice none 0 0, .slice none 0 0]) ?_ 1 _ rfl; (with_reducible repeat (first | refine blk_drewN ?_ _ | refine blk_drew ?_ | refine blk_alloc ?_ _)); refine blk_put (cs := #[.int .i64 0, .int .i64 0, .int .i64 0, .int .i64 0, .slice none 0 0, .slice none 0 0, .slice none 0 0, .slice none 0 0]) ?_ 0 _ rfl; (with_reducible repeat (first | refine blk_drewN ?_ _ | refine blk_drew ?_ | refine blk_alloc ?_ _)); exact BK252.out⟩, ⟨by repeat (first | (with_reducible first | exact HB.out | apply below_alloc | apply pw_below_drewN | apply below_drew1 | refine below_set ?_ GE246.out | refine below_set ?_ GE248.out | refine below_set ?_ GE250.out | refine below_set ?_ GE252.out) | exact HB.out)⟩⟩
                                          case round =>
                                            clear H'
                                            try clear c1
                                            try clear c2
                                            try clear p2
                                            try clear q2
                                            try clear hx2
                                            try clear c3
                                            try clear c4
                                            try clear c5
                                            try clear c6
                                            try clear p6
                                            try clear c8
                                            try clear c8b0
                                            try clear c9
                                            try clear c9b0
                                            try clear c10
                                            try clear c10b0
                                            try clear c12
                                            try clear c21
                                            try clear p21
                                            try clear q21
                                            try clear hx21
                                            try clear c24
                                            try clear p24
                                            try clear q24
                                            try clear hx24
                                            try clear c25
                                            try clear p25
                                            try clear q25
                                            try clear hx25
                                            try clear c28
                                            try clear c28b0
                                            try clear c29
                                            try clear c29b0
                                            try clear c30
                                            try clear c30b0
                                            try clear c32
                                            try clear c34
                                            try clear c34b0
                                            try clear c35
                                            try clear c35b0
                                            try clear c36
                                            try clear c36b0
                                            try clear c37
                                            try clear c37b0
                                            try clear c37b1
                                            try clear c39
                                            try clear c40
                                            try clear c42
                                            try clear c42b0
                                            try clear c43
                                            try clear c43b0
                                            try clear c44
                                            try clear c44b0
                                            try clear c46
                                            try clear c47
                                            try clear c48
                                            try clear hcz14_0
                                            try clear hcz14_1
                                            try clear hcz14_2
                                            try clear hcz14_3
                                            try clear hcz14_4
                                            try clear hcz14_5
                                            try clear hcz14_6
                                            try clear hcz14_7
                                            try clear hcz25_0
                                            try clear hcz25_1
                                            try clear hcz25_2
                                            try clear hcz25_3
                                            try clear hcz33_0
                                            try clear hcz33_1
                                            try clear hcz33_2
                                            try clear hcz33_3
                                            try clear hcz33_4
                                            try clear hcz33_5
                                            try clear hcz33_6
                                            try clear hcz33_7
                                            try clear hcz41_0
                                            try clear hcz41_1
                                            try clear hcz41_2
                                            try clear hcz41_3
                                            try clear hcz41_4
                                            try clear hcz41_5
                                            try clear hcz41_6
                                            try clear hcz41_7
                                            try clear hcz49_0
                                            try clear hcz49_1
                                            try clear hcz49_2
                                            try clear hcz49_3
                                            try clear hcz49_4
                                            try clear hcz49_5
                                            try clear hcz49_6
                                            try clear hcz49_7
                                            try clear hfz14_0
                                            try clear hfz14_1
                                            try clear hfz14_2
                                            try clear hfz14_3
                                            try clear hfz14_4
                                            try clear hfz14_5
                                            try clear hfz14_6
                                            try clear hfz14_7
                                            try clear hfz25_0
                                            try clear hfz25_1
                                            try clear hfz25_2
                                            try clear hfz25_3
                                            try clear hfz33_0
                                            try clear hfz33_1
                                            try clear hfz33_2
                                            try clear hfz33_3
                                            try clear hfz33_4
                                            try clear hfz33_5
                                            try clear hfz33_6
                                            try clear hfz33_7
                                            try clear hfz41_0
                                            try clear hfz41_1
                                            try clear hfz41_2
                                            try clear hfz41_3
                                            try clear hfz41_4
                                            try clear hfz41_5
                                            try clear hfz41_6
                                            try clear hfz41_7
                                            try clear hfz49_0
                                            try clear hfz49_1
                                            try clear hfz49_2
                                            try clear hfz49_3
                                            try clear hfz49_4
                                            try clear hfz49_5
                                            try clear hfz49_6
                                            try clear hfz49_7
                                            try clear hx217_0
                                            try clear hx217_1
                                            try clear hx217_2
                                            try clear hx217_3
                                            try clear hx217_4
                                            try clear hx217_5
                                            try clear hx217_6
                                            try clear hx217_7
                                            try clear hx247_0
                                            try clear hx247_1
                                            try clear hx247_2
                                            try clear hx247_3
                                            try clear hx247_4
                                            try clear hx247_5
                                            try clear hx247_6
                                            try clear hx247_7
                                            try clear hx249_0
                                            try clear hx249_1
                                            try clear hx249_2
                                            try clear hx249_3
                                            try clear hx249_4
                                            try clear hx249_5
                                            try clear hx249_6
                                            try clear hx249_7
                                            try clear hx251_0
                                            try clear hx251_1
                                            try clear hx251_2
                                            try clear hx251_3
                                            try clear hx251_4
                                            try clear hx251_5
                                            try clear hx251_6
                                            try clear hx251_7
                                            try clear p2
                                            try clear p21
                                            try clear p217
                                            try clear p24
                                            try clear p247
                                            try clear p249
                                            try clear p251
                                            try clear p6
                                            try clear q2
                                            try clear q21
                                            try clear q217
                                            try clear q24
                                            try clear q247
                                            try clear q249
                                            try clear q251
                                            obtain ⟨x15_5, x64_5, rfl, rfl, HA, HK5, HO_247002, HO_247003, BK246, BK248, BK250, BK252, HB⟩ := hrel
                                            cases gk with
                                            | zero => exact absurd HA.out (by simp [catenarylaw18_ChooseKeeps.l4])
                                            | succ k5 =>
                                              have H := HA.out
                                              clear HA
                                              simp only [catenarylaw18_ChooseKeeps.l4] at H
                                              by_cases c50 : x64_5 < (((rd_T30 l0 x57_4).f5).length : Int)
                                              · rw [if_pos c50] at H
                                                have c50b0 : decide (x64_5 < (((rd_T30 l0 x57_4).f5).length : Int)) = true := decide_eq_true c50
                                                clear c50
                                                by_cases c51 : 0 ≤ x64_5
                                                · rw [if_pos c51] at H
                                                  have c51b0 : decide (0 ≤ x64_5) = true := decide_eq_true c51
                                                  clear c51
                                                  by_cases c52 : x64_5 < (((rd_T30 l0 x57_4).f5).length : Int)
                                                  · rw [if_pos c52] at H
                                                    have c52b0 : decide (x64_5 < (((rd_T30 l0 x57_4).f5).length : Int)) = true := decide_eq_true c52
                                                    clear c52
                                                    have HC53 := Aside0.mk H
                                                    clear H
                                                    have p253 : 0 ≤ (x64_5 : Int) := of_decide_eq_true (by first | (with_reducible assumption) | assumption)
                                                    have q253 : x64_5 < (((rd_T30 l0 x57_4).f5).length : Int) := of_decide_eq_true (by first | (with_reducible assumption) | assumption)
                                                    obtain ⟨ad253, A253_5, c253_5, A253_6, c253_6, A253_7, c253_7, e253, hx253_0, hx253_1, hx253_2, hx253_3, hx253_4, hx253_5, hx253_6, hx253_7, hl253_5, hi253_5, hl253_6, hi253_6, hl253_7, hi253_7⟩ := at_T45 HR251_6.out x64_5 p253 q253
                                                    cases e253
                                                    replace hx253_0 := (HB.out.cell (World.block_lt_of_cell? w _ hx253_0)).trans hx253_0
                                                    replace hx253_1 := (HB.out.cell (World.block_lt_of_cell? w _ hx253_1)).trans hx253_1
                                                    replace hx253_2 := (HB.out.cell (World.block_lt_of_cell? w _ hx253_2)).trans hx253_2
                                                    replace hx253_3 := (HB.out.cell (World.block_lt_of_cell? w _ hx253_3)).trans hx253_3
                                                    replace hx253_4 := (HB.out.cell (World.block_lt_of_cell? w _ hx253_4)).trans hx253_4
                                                    replace hx253_5 := (HB.out.cell (World.block_lt_of_cell? w _ hx253_5)).trans hx253_5
                                                    replace hx253_6 := (HB.out.cell (World.block_lt_of_cell? w _ hx253_6)).trans hx253_6
                                                    replace hx253_7 := (HB.out.cell (World.block_lt_of_cell? w _ hx253_7)).trans hx253_7
                                                    have HR253_5 := Aside0.mk hi253_5
                                                    have HC253_5 := Aside0.mk hl253_5
                                                    clear hi253_5 hl253_5
                                                    have HR253_6 := Aside0.mk hi253_6
                                                    have HC253_6 := Aside0.mk hl253_6
                                                    clear hi253_6 hl253_6
                                                    have HR253_7 := Aside0.mk hi253_7
                                                    have HC253_7 := Aside0.mk hl253_7
                                                    clear hi253_7 hl253_7
                                                    replace p253 := eq_true p253
                                                    replace q253 := eq_true q253
                                                    go_upto_region 26 with (first | ((with_reducible refine gate_dst (N := 19) rfl ?_); refine box_event ?hg (N := 19) ?hd (cs := #[.int .i64 0, .int .i64 0, .int .i64 0, .int .i64 0, .int .i64 0, .slice none 0 0, .slice none 0 0, .slice none 0 0]) (t := 45) ?hr ?_; (case hd => rfl); (case hg => rfl); (case hr => first | (go_simp; done) | (go_simp; rfl)); intro gb254 hg w54 hbox hb; have n0_ := Aside0.mk (Kd.R_below (by (with_reducible repeat (first | apply Kd.R_alloc | apply Kd.R_drewN | apply Kd.R_drew)); exact HO_247002.out) hb); have n1_ := Aside0.mk (Kd.R_below (by (with_reducible repeat (first | apply Kd.R_alloc | apply Kd.R_drewN | apply Kd.R_drew)); exact HO_247003.out) hb); have n2_ := Aside0.mk (blk_below (g := gb246) (o := .cells #[.int .i64 t238, .int .i64 t239, .slice Ao26 t240.length co26, .slice Ao27 t243.length co27] 36 (0, 0)) (by (with_reducible repeat (first | refine blk_drewN ?_ _ | refine blk_drew ?_ | refine blk_alloc ?_ _)); exact BK246.out) hb); have n3_ := Aside0.mk (blk_below (g := gb248) (o := .cells #[.int .i64 ((rd_T30 l0 x40_2).f0.f0), .int .i64 ((rd_T30 l0 x40_2).f0.f1), .int .i64 ((rd_T30 l0 x40_2).f1), .int .i64 ((rd_T30 l0 x40_2).f2), .slice A247_4 ((rd_T30 l0 x40_2).f3).length c247_4, .slice A247_5 ((rd_T30 l0 x40_2).f4).length c247_5, .slice (some ad249) ((rd_T30 l0 x40_2).f5).length c247_6, .slice A247_7 ((rd_T30 l0 x40_2).f6).length c247_7] 30 (0, 0)) (by (with_reducible repeat (first | refine blk_drewN ?_ _ | refine blk_drew ?_ | refine blk_alloc ?_ _)); exact BK248.out) hb); have n4_ := Aside0.mk (blk_below (g := gb250) (o := .cells #[.int .i64 ((rd_T45 ((rd_T30 l0 x40_2).f5) x47_3).f0), .int .i64 ((rd_T45 ((rd_T30 l0 x40_2).f5) x47_3).f1.f0), .int .i64 ((rd_T45 ((rd_T30 l0 x40_2).f5) x47_3).f1.f1), .int .i64 ((rd_T45 ((rd_T30 l0 x40_2).f5) x47_3).f2.f0), .int .i64 ((rd_T45 ((rd_T30 l0 x40_2).f5) x47_3).f2.f1), .slice A249_5 ((rd_T45 ((rd_T30 l0 x40_2).f5) x47_3).f2.f2).length c249_5, .slice A249_6 ((rd_T45 ((rd_T30 l0 x40_2).f5) x47_3).f2.f3).length c249_6, .slice A249_7 ((rd_T45 ((rd_T30 l0 x40_2).f5) x47_3).f3).length c249_7] 45 (0, 0)) (by (with_reducible repeat (first | refine blk_drewN ?_ _ | refine blk_drew ?_ | refine blk_alloc ?_ _)); exact BK250.out) hb); have n5_ := Aside0.mk (blk_below (g := gb252) (o := .cells #[.int .i64 ((rd_T30 l0 x57_4).f0.f0), .int .i64 ((rd_T30 l0 x57_4).f0.f1), .int .i64 ((rd_T30 l0 x57_4).f1), .int .i64 ((rd_T30 l0 x57_4).f2), .slice A251_4 ((rd_T30 l0 x57_4).f3).length c251_4, .slice A251_5 ((rd_T30 l0 x57_4).f4).length c251_5, .slice (some ad253) ((rd_T30 l0 x57_4).f5).length c251_6, .slice A251_7 ((rd_T30 l0 x57_4).f6).length c251_7] 30 (0, 0)) (by (with_reducible repeat (first | refine blk_drewN ?_ _ | refine blk_drew ?_ | refine blk_alloc ?_ _)); exact BK252.out) hb); have n6_ := Aside0.mk (below_step (by repeat (first | (with_reducible first | exact HB.out | apply below_alloc | apply pw_below_drewN | apply below_drew1 | refine below_set ?_ GE246.out | refine below_set ?_ GE248.out | refine below_set ?_ GE250.out | refine below_set ?_ GE252.out) | exact HB.out)) hb); have n7_ := Aside0.mk (hbox); have n8_ := Aside0.mk ((by rw [hg]; exact (below_size (by repeat (first | (with_reducible first | exact HB.out | apply below_alloc | apply pw_below_drewN | apply below_drew1 | refine below_set ?_ GE246.out | refine below_set ?_ GE248.out | refine below_set ?_ GE250.out | refine below_set ?_ GE252.out) | exact HB.out))) : w.heap.size ≤ gb254)); have n9_ := Aside0.mk ((by rw [hg]; exact (below_size (by repeat (first | (with_reducible first | exact HB.out | apply below_alloc | apply pw_below_drewN | apply below_drew1 | refine below_set ?_ GE246.out | refine below_set ?_ GE248.out | refine below_set ?_ GE250.out | refine below_set ?_ GE252.out) | exact HB.out))) : w.heap.size ≤ gb254)); have n10_ := Aside0.mk ((by rw [hg]; exact Nat.ne_of_lt (blk_lt (g := gb246) (o := .cells #[.int .i64 t238, .int .i64 t239, .slice Ao26 t240.length co26, .slice Ao27 t243.length co27] 36 (0, 0)) (by (with_reducible repeat (first | refine blk_drewN ?_ _ | refine blk_drew ?_ | refine blk_alloc ?_ _)); exact BK246.out)) : gb246 ≠ gb254)); have n11_ := Aside0.mk ((by rw [hg]; exact Nat.ne_of_gt (blk_lt (g := gb246) (o := .cells #[.int .i64 t238, .int .i64 t239, .slice Ao26 t240.length co26, .slice Ao27 t243.length co27] 36 (0, 0)) (by (with_reducible repeat (first | refine blk_drewN ?_ _ | refine blk_drew ?_ | refine blk_alloc ?_ _)); exact BK246.out)) : gb254 ≠ gb246)); have n12_ := Aside0.mk ((by rw [hg]; exact Nat.ne_of_lt (blk_lt (g := gb248) (o := .cells #[.int .i64 ((rd_T30 l0 x40_2).f0.f0), .int .i64 ((rd_T30 l0 x40_2).f0.f1), .int .i64 ((rd_T30 l0 x40_2).f1), .int .i64 ((rd_T30 l0 x40_2).f2), .slice A247_4 ((rd_T30 l0 x40_2).f3).length c247_4, .slice A247_5 ((rd_T30 l0 x40_2).f4).length c247_5, .slice (some ad249) ((rd_T30 l0 x40_2).f5).length c247_6, .slice A247_7 ((rd_T30 l0 x40_2).f6).length c247_7] 30 (0, 0)) (by (with_reducible repeat (first | refine blk_drewN ?_ _ | refine blk_drew ?_ | refine blk_alloc ?_ _)); exact BK248.out)) : gb248 ≠ gb254)); have n13_ := Aside0.mk ((by rw [hg]; exact Nat.ne_of_gt (blk_lt (g := gb248) (o := .cells #[.int .i64 ((rd_T30 l0 x40_2).f0.f0), .int .i64 ((rd_T30 l0 x40_2).f0.f1), .int .i64 ((rd_T30 l0 x40_2).f1), .int .i64 ((rd_T30 l0 x40_2).f2), .slice A247_4 ((rd_T30 l0 x40_2).f3).length c247_4, .slice A247_5 ((rd_T30 l0 x40_2).f4).length c247_5, .slice (some ad249) ((rd_T30 l0 x40_2).f5).length c247_6, .slice A247_7 ((rd_T30 l0 x40_2).f6).length c247_7] 30 (0, 0)) (by (with_reducible repeat (first | refine blk_drewN ?_ _ | refine blk_drew ?_ | refine blk_alloc ?_ _)); exact BK248.out)) : gb254 ≠ gb248)); have n14_ := Aside0.mk ((by rw [hg]; exact Nat.ne_of_lt (blk_lt (g := gb250) (o := .cells #[.int .i64 ((rd_T45 ((rd_T30 l0 x40_2).f5) x47_3).f0), .int .i64 ((rd_T45 ((rd_T30 l0 x40_2).f5) x47_3).f1.f0), .int .i64 ((rd_T45 ((rd_T30 l0 x40_2).f5) x47_3).f1.f1), .int .i64 ((rd_T45 ((rd_T30 l0 x40_2).f5) x47_3).f2.f0), .int .i64 ((rd_T45 ((rd_T30 l0 x40_2).f5) x47_3).f2.f1), .slice A249_5 ((rd_T45 ((rd_T30 l0 x40_2).f5) x47_3).f2.f2).length c249_5, .slice A249_6 ((rd_T45 ((rd_T30 l0 x40_2).f5) x47_3).f2.f3).length c249_6, .slice A249_7 ((rd_T45 ((rd_T30 l0 x40_2).f5) x47_3).f3).length c249_7] 45 (0, 0)) (by (with_reducible repeat (first | refine blk_drewN ?_ _ | refine blk_drew ?_ | refine blk_alloc ?_ _)); exact BK250.out)) : gb250 ≠ gb254)); have n15_ := Aside0.mk ((by rw [hg]; exact Nat.ne_of_gt (blk_lt (g := gb250) (o := .cells #[.int .i64 ((rd_T45 ((rd_T30 l0 x40_2).f5) x47_3).f0), .int .i64 ((rd_T45 ((rd_T30 l0 x40_2).f5) x47_3).f1.f0), .int .i64 ((rd_T45 ((rd_T30 l0 x40_2).f5) x47_3).f1.f1), .int .i64 ((rd_T45 ((rd_T30 l0 x40_2).f5) x47_3).f2.f0), .int .i64 ((rd_T45 ((rd_T30 l0 x40_2).f5) x47_3).f2.f1), .slice A249_5 ((rd_T45 ((rd_T30 l0 x40_2).f5) x47_3).f2.f2).length c249_5, .slice A249_6 ((rd_T45 ((rd_T30 l0 x40_2).f5) x47_3).f2.f3).length c249_6, .slice A249_7 ((rd_T45 ((rd_T30 l0 x40_2).f5) x47_3).f3).length c249_7] 45 (0, 0)) (by (with_reducible repeat (first | refine blk_drewN ?_ _ | refine blk_drew ?_ | refine blk_alloc ?_ _)); exact BK250.out)) : gb254 ≠ gb250)); have n16_ := Aside0.mk ((by rw [hg]; exact Nat.ne_of_lt (blk_lt (g := gb252) (o := .cells #[.int .i64 ((rd_T30 l0 x57_4).f0.f0), .int .i64 ((rd_T30 l0 x57_4).f0.f1), .int .i64 ((rd_T30 l0 x57_4).f1), .int .i64 ((rd_T30 l0 x57_4).f2), .slice A251_4 ((rd_T30 l0 x57_4).f3).length c251_4, .slice A251_5 ((rd_T30 l0 x57_4).f4).length c251_5, .slice (some ad253) ((rd_T30 l0 x57_4).f5).length c251_6, .slice A251_7 ((rd_T30 l0 x57_4).f6).length c251_7] 30 (0, 0)) (by (with_reducible repeat (first | refine blk_drewN ?_ _ | refine blk_drew ?_ | refine blk_alloc ?_ _)); exact BK252.out)) : gb252 ≠ gb254)); have n17_ := Aside0.mk ((by rw [hg]; exact Nat.ne_of_gt (blk_lt (g := gb252) (o := .cells #[.int .i64 ((rd_T30 l0 x57_4).f0.f0), .int .i64 ((rd_T30 l0 x57_4).f0.f1), .int .i64 ((rd_T30 l0 x57_4).f1), .int .i64 ((rd_T30 l0 x57_4).f2), .slice A251_4 ((rd_T30 l0 x57_4).f3).length c251_4, .slice A251_5 ((rd_T30 l0 x57_4).f4).length c251_5, .slice (some ad253) ((rd_T30 l0 x57_4).f5).length c251_6, .slice A251_7 ((rd_T30 l0 x57_4).f6).length c251_7] 30 (0, 0)) (by (with_reducible repeat (first | refine blk_drewN ?_ _ | refine blk_drew ?_ | refine blk_alloc ?_ _)); exact BK252.out)) : gb254 ≠ gb252)); clear HO_247002; clear HO_247003; clear BK246; clear BK248; clear BK250; clear BK252; clear HB; have HO_247002 := n0_; have HO_247003 := n1_; have BK246 := n2_; have BK248 := n3_; have BK250 := n4_; have BK252 := n5_; have HB := n6_; have BK254 := n7_; have GW254 := n8_; have GE254 := n9_; have NB246_254 := n10_; have NB254_246 := n11_; have NB248_254 := n12_; have NB254_248 := n13_; have NB250_254 := n14_; have NB254_250 := n15_; have NB252_254 := n16_; have NB254_252 := n17_; clear n0_ n1_ n2_ n3_ n4_ n5_ n6_ n7_ n8_ n9_ n10_ n11_ n12_ n13_ n14_ n15_ n16_ n17_; clear hb hbox hg; have hnb55 := NB254_246.out; have hnc55 := NB246_254.out; have hnb56 := NB254_248.out; have hnc56 := NB248_254.out; have hnb57 := NB254_250.out; have hnc57 := NB250_254.out; have hnb58 := NB254_252.out; have hnc58 := NB252_254.out; have hcz59_0 : w54.cell? ⟨gb254, 0, none⟩ = some (.int .i64 0) := (blk_cell BK254.out 0).trans rfl; have hcz59_1 : w54.cell? ⟨gb254, 1, none⟩ = some (.int .i64 0) := (blk_cell BK254.out 1).trans rfl; have hcz59_2 : w54.cell? ⟨gb254, 2, none⟩ = some (.int .i64 0) := (blk_cell BK254.out 2).trans rfl; have hcz59_3 : w54.cell? ⟨gb254, 3, none⟩ = some (.int .i64 0) := (blk_cell BK254.out 3).trans rfl; have hcz59_4 : w54.cell? ⟨gb254, 4, none⟩ = some (.int .i64 0) := (blk_cell BK254.out 4).trans rfl; have hcz59_5 : w54.cell? ⟨gb254, 5, none⟩ = some (.slice none 0 0) := (blk_cell BK254.out 5).trans rfl; have hcz59_6 : w54.cell? ⟨gb254, 6, none⟩ = some (.slice none 0 0) := (blk_cell BK254.out 6).trans rfl; have hcz59_7 : w54.cell? ⟨gb254, 7, none⟩ = some (.slice none 0 0) := (blk_cell BK254.out 7).trans rfl; have hfz59_0 := blk_frozen BK254.out 0; have hfz59_1 := blk_frozen BK254.out 1; have hfz59_2 := blk_frozen BK254.out 2; have hfz59_3 := blk_frozen BK254.out 3; have hfz59_4 := blk_frozen BK254.out 4; have hfz59_5 := blk_frozen BK254.out 5; have hfz59_6 := blk_frozen BK254.out 6; have hfz59_7 := blk_frozen BK254.out 7))
                                                    (try simp only [Act.put, List.setIfInBounds_toArray, List.set_cons_zero, List.set_cons_succ])
                                                    go_cut [79] (fun v79 wc => ∃ (kq : Nat) (x79_52 : Bool), v79 = .bool x79_52 ∧ Aside0 (catenarylaw18_ChooseKeeps.j5 kq l0 a1 x9_3 true x15_5 l0 (l0.length : Int) x40_2 ((rd_T30 l0 x40_2).f5) (((rd_T30 l0 x40_2).f5).length : Int) x47_3 l0 (l0.length : Int) x57_4 ((rd_T30 l0 x57_4).f5) (((rd_T30 l0 x57_4).f5).length : Int) x64_5 x79_52 t238 t239 t240 t243 ((rd_T45 ((rd_T30 l0 x40_2).f5) x47_3).f0) ((rd_T45 ((rd_T30 l0 x40_2).f5) x47_3).f1.f0) ((rd_T45 ((rd_T30 l0 x40_2).f5) x47_3).f1.f1) ((rd_T45 ((rd_T30 l0 x40_2).f5) x47_3).f2.f0) ((rd_T45 ((rd_T30 l0 x40_2).f5) x47_3).f2.f1) ((rd_T45 ((rd_T30 l0 x40_2).f5) x47_3).f2.f2) ((rd_T45 ((rd_T30 l0 x40_2).f5) x47_3).f2.f3) ((rd_T45 ((rd_T30 l0 x40_2).f5) x47_3).f3) = some r) ∧ Aside0 (kq ≤ k5) ∧ Aside0 (Kd.R (Kd.int .u8) 5 wc w.heap.size (fun k_ => some k_ ≠ ((.slice Ao27 t243.length co27) : Value).ownBlock) (.slice Ao26 t240.length co26) t240) ∧ Aside0 (Kd.R (Kd.int .u8) 5 wc w.heap.size (fun k_ => some k_ ≠ ((.slice Ao26 t240.length co26) : Value).ownBlock) (.slice Ao27 t243.length co27) t243) ∧ Aside0 (wc.heap[gb246]? = some (.cells #[.int .i64 t238, .int .i64 t239, (.slice Ao26 t240.length co26), (.slice Ao27 t243.length co27)] 36 (0, 0))) ∧ Aside0 (wc.heap[gb248]? = some (.cells #[.int .i64 ((rd_T30 l0 x40_2).f0.f0), .int .i64 ((rd_T30 l0 x40_2).f0.f1), .int .i64 ((rd_T30 l0 x40_2).f1), .int .i64 ((rd_T30 l0 x40_2).f2), (.slice A247_4 ((rd_T30 l0 x40_2).f3).length c247_4), (.slice A247_5 ((rd_T30 l0 x40_2).f4).length c247_5), (.slice (some ad249) ((rd_T30 l0 x40_2).f5).length c247_6), (.slice A247_7 ((rd_T30 l0 x40_2).f6).length c247_7)] 30 (0, 0))) ∧ Aside0 (wc.heap[gb250]? = some (.cells #[.int .i64 ((rd_T45 ((rd_T30 l0 x40_2).f5) x47_3).f0), .int .i64 ((rd_T45 ((rd_T30 l0 x40_2).f5) x47_3).f1.f0), .int .i64 ((rd_T45 ((rd_T30 l0 x40_2).f5) x47_3).f1.f1), .int .i64 ((rd_T45 ((rd_T30 l0 x40_2).f5) x47_3).f2.f0), .int .i64 ((rd_T45 ((rd_T30 l0 x40_2).f5) x47_3).f2.f1), (.slice A249_5 ((rd_T45 ((rd_T30 l0 x40_2).f5) x47_3).f2.f2).length c249_5), (.slice A249_6 ((rd_T45 ((rd_T30 l0 x40_2).f5) x47_3).f2.f3).length c249_6), (.slice A249_7 ((rd_T45 ((rd_T30 l0 x40_2).f5) x47_3).f3).length c249_7)] 45 (0, 0))) ∧ Aside0 (wc.heap[gb252]? = some (.cells #[.int .i64 ((rd_T30 l0 x57_4).f0.f0), .int .i64 ((rd_T30 l0 x57_4).f0.f1), .int .i64 ((rd_T30 l0 x57_4).f1), .int .i64 ((rd_T30 l0 x57_4).f2), (.slice A251_4 ((rd_T30 l0 x57_4).f3).length c251_4), (.slice A251_5 ((rd_T30 l0 x57_4).f4).length c251_5), (.slice (some ad253) ((rd_T30 l0 x57_4).f5).length c251_6), (.slice A251_7 ((rd_T30 l0 x57_4).f6).length c251_7)] 30 (0, 0))) ∧ Aside0 (wc.heap[gb254]? = some (.cells #[.int .i64 ((rd_T45 ((rd_T30 l0 x57_4).f5) x64_5).f0), .int .i64 ((rd_T45 ((rd_T30 l0 x57_4).f5) x64_5).f1.f0), .int .i64 ((rd_T45 ((rd_T30 l0 x57_4).f5) x64_5).f1.f1), .int .i64 ((rd_T45 ((rd_T30 l0 x57_4).f5) x64_5).f2.f0), .int .i64 ((rd_T45 ((rd_T30 l0 x57_4).f5) x64_5).f2.f1), (.slice A253_5 ((rd_T45 ((rd_T30 l0 x57_4).f5) x64_5).f2.f2).length c253_5), (.slice A253_6 ((rd_T45 ((rd_T30 l0 x57_4).f5) x64_5).f2.f3).length c253_6), (.slice A253_7 ((rd_T45 ((rd_T30 l0 x57_4).f5) x64_5).f3).length c253_7)] 45 (0, 0))) ∧ Aside0 (Below w.heap.size w wc))
                                                    case first =>
                                                      have H := HC53.out
                                                      clear HC53
                                                      by_cases c60 : ((rd_T45 ((rd_T30 l0 x57_4).f5) x64_5).f0) = a1
                                                      · rw [if_pos c60] at H
                                                        have c60b0 : (((rd_T45 ((rd_T30 l0 x57_4).f5) x64_5).f0) == a1) = true := beq_iff_eq.mpr c60
                                                        have c60b1 : (((rd_T45 ((rd_T30 l0 x57_4).f5) x64_5).f0) != a1) = false := bne_eq_false_iff_eq.mpr c60
                                                        clear c60
                                                        (first | rw [c60b0] | (simp only [i64_w, i32_w]; rw [c60b0]) | skip)
                                                        replace H := Option.bind_eq_some_iff.mp H
                                                        obtain ⟨t255, A610, H⟩ := H
                                                        replace H : (catenarylaw18_ChooseKeeps.j5 k5 l0 a1 x9_3 true x15_5 l0 (l0.length : Int) x40_2 ((rd_T30 l0 x40_2).f5) (((rd_T30 l0 x40_2).f5).length : Int) x47_3 l0 (l0.length : Int) x57_4 ((rd_T30 l0 x57_4).f5) (((rd_T30 l0 x57_4).f5).length : Int) x64_5 (decide (t255 > 0)) t238 t239 t240 t243 ((rd_T45 ((rd_T30 l0 x40_2).f5) x47_3).f0) ((rd_T45 ((rd_T30 l0 x40_2).f5) x47_3).f1.f0) ((rd_T45 ((rd_T30 l0 x40_2).f5) x47_3).f1.f1) ((rd_T45 ((rd_T30 l0 x40_2).f5) x47_3).f2.f0) ((rd_T45 ((rd_T30 l0 x40_2).f5) x47_3).f2.f1) ((rd_T45 ((rd_T30 l0 x40_2).f5) x47_3).f2.f2) ((rd_T45 ((rd_T30 l0 x40_2).f5) x47_3).f2.f3) ((rd_T45 ((rd_T30 l0 x40_2).f5) x47_3).f3)) = some r := H
                                                        have A61 := Aside0.mk A610
                                                        clear A610
                                                        have H' := Aside0.mk H
                                                        clear H
                                                        have hnb62 := NB254_246.out
                                                        have hnc62 := NB246_254.out
                                                        have hnb63 := NB254_248.out
                                                        have hnc63 := NB248_254.out
                                                        have hnb64 := NB254_250.out
                                                        have hnc64 := NB250_254.out
                                                        have hnb65 := NB254_252.out
                                                        have hnc65 := NB252_254.out
                                                        have hcz66_0 : w54.cell? ⟨gb254, 0, none⟩ = some (.int .i64 0) := (blk_cell BK254.out 0).trans rfl
                                                        have hcz66_1 : w54.cell? ⟨gb254, 1, none⟩ = some (.int .i64 0) := (blk_cell BK254.out 1).trans rfl
                                                        have hcz66_2 : w54.cell? ⟨gb254, 2, none⟩ = some (.int .i64 0) := (blk_cell BK254.out 2).trans rfl
                                                        have hcz66_3 : w54.cell? ⟨gb254, 3, none⟩ = some (.int .i64 0) := (blk_cell BK254.out 3).trans rfl
                                                        have hcz66_4 : w54.cell? ⟨gb254, 4, none⟩ = some (.int .i64 0) := (blk_cell BK254.out 4).trans rfl
                                                        have hcz66_5 : w54.cell? ⟨gb254, 5, none⟩ = some (.slice none 0 0) := (blk_cell BK254.out 5).trans rfl
                                                        have hcz66_6 : w54.cell? ⟨gb254, 6, none⟩ = some (.slice none 0 0) := (blk_cell BK254.out 6).trans rfl
                                                        have hcz66_7 : w54.cell? ⟨gb254, 7, none⟩ = some (.slice none 0 0) := (blk_cell BK254.out 7).trans rfl
                                                        have hfz66_0 := blk_frozen BK254.out 0
                                                        have hfz66_1 := blk_frozen BK254.out 1
                                                        have hfz66_2 := blk_frozen BK254.out 2
                                                        have hfz66_3 := blk_frozen BK254.out 3
                                                        have hfz66_4 := blk_frozen BK254.out 4
                                                        have hfz66_5 := blk_frozen BK254.out 5
                                                        have hfz66_6 := blk_frozen BK254.out 6
                                                        have hfz66_7 := blk_frozen BK254.out 7
                                                        have hnb67 := NB250_246.out
                                                        have hnc67 := NB246_250.out
                                                        have hnb68 := NB250_248.out
                                                        have hnc68 := NB248_250.out
                                                        have hnb69 := NB250_252.out
                                                        have hnc69 := NB252_250.out
                                                        have hcz70_0 : w54.cell? ⟨gb250, 0, none⟩ = some (.int .i64 ((rd_T45 ((rd_T30 l0 x40_2).f5) x47_3).f0)) := (blk_cell BK250.out 0).trans rfl
                                                        have hcz70_1 : w54.cell? ⟨gb250, 1, none⟩ = some (.int .i64 ((rd_T45 ((rd_T30 l0 x40_2).f5) x47_3).f1.f0)) := (blk_cell BK250.out 1).trans rfl
                                                        have hcz70_2 : w54.cell? ⟨gb250, 2, none⟩ = some (.int .i64 ((rd_T45 ((rd_T30 l0 x40_2).f5) x47_3).f1.f1)) := (blk_cell BK250.out 2).trans rfl
                                                        have hcz70_3 : w54.cell? ⟨gb250, 3, none⟩ = some (.int .i64 ((rd_T45 ((rd_T30 l0 x40_2).f5) x47_3).f2.f0)) := (blk_cell BK250.out 3).trans rfl
                                                        have hcz70_4 : w54.cell? ⟨gb250, 4, none⟩ = some (.int .i64 ((rd_T45 ((rd_T30 l0 x40_2).f5) x47_3).f2.f1)) := (blk_cell BK250.out 4).trans rfl
                                                        have hcz70_5 : w54.cell? ⟨gb250, 5, none⟩ = some (.slice A249_5 ((rd_T45 ((rd_T30 l0 x40_2).f5) x47_3).f2.f2).length c249_5) := (blk_cell BK250.out 5).trans rfl
                                                        have hcz70_6 : w54.cell? ⟨gb250, 6, none⟩ = some (.slice A249_6 ((rd_T45 ((rd_T30 l0 x40_2).f5) x47_3).f2.f3).length c249_6) := (blk_cell BK250.out 6).trans rfl
                                                        have hcz70_7 : w54.cell? ⟨gb250, 7, none⟩ = some (.slice A249_7 ((rd_T45 ((rd_T30 l0 x40_2).f5) x47_3).f3).length c249_7) := (blk_cell BK250.out 7).trans rfl
                                                        have hfz70_0 := blk_frozen BK250.out 0
                                                        have hfz70_1 := blk_frozen BK250.out 1
                                                        have hfz70_2 := blk_frozen BK250.out 2
                                                        have hfz70_3 := blk_frozen BK250.out 3
                                                        have hfz70_4 := blk_frozen BK250.out 4
                                                        have hfz70_5 := blk_frozen BK250.out 5
                                                        have hfz70_6 := blk_frozen BK250.out 6
                                                        have hfz70_7 := blk_frozen BK250.out 7
                                                        go_wp2_with (first | (go_at_call 17; (with_reducible refine (ballot_Compare.calls k5 ((rd_T45 ((rd_T30 l0 x57_4).f5) x64_5).f1.f0) ((rd_T45 ((rd_T30 l0 x57_4).f5) x64_5).f1.f1) ((rd_T45 ((rd_T30 l0 x40_2).f5) x47_3).f1.f0) ((rd_T45 ((rd_T30 l0 x40_2).f5) x47_3).f1.f1) t255 _ A61.out).mono ?_); rintro e w71 ⟨rfl, hb⟩; have n0_ := Aside0.mk (Kd.R_below (by (with_reducible repeat (first | apply Kd.R_alloc | apply Kd.R_drewN | apply Kd.R_drew)); exact (Kd.R_mono (Kd.R_far (p := ⟨gb254, 7, none⟩) (Kd.R_far (p := ⟨gb254, 6, none⟩) (Kd.R_far (p := ⟨gb254, 5, none⟩) (Kd.R_far (p := ⟨gb254, 4, none⟩) (Kd.R_far (p := ⟨gb254, 3, none⟩) (Kd.R_far (p := ⟨gb254, 2, none⟩) (Kd.R_far (p := ⟨gb254, 1, none⟩) (Kd.R_far (p := ⟨gb254, 0, none⟩) (Kd.R_types HO_247002.out BK254.out (by decide)) (fun _ hk => hk.2) (.int .i64 ((rd_T45 ((rd_T30 l0 x57_4).f5) x64_5).f0))) (fun _ hk => hk.2) (.int .i64 ((rd_T45 ((rd_T30 l0 x57_4).f5) x64_5).f1.f0))) (fun _ hk => hk.2) (.int .i64 ((rd_T45 ((rd_T30 l0 x57_4).f5) x64_5).f1.f1))) (fun _ hk => hk.2) (.int .i64 ((rd_T45 ((rd_T30 l0 x57_4).f5) x64_5).f2.f0))) (fun _ hk => hk.2) (.int .i64 ((rd_T45 ((rd_T30 l0 x57_4).f5) x64_5).f2.f1))) (fun _ hk => hk.2) (.slice A253_5 ((rd_T45 ((rd_T30 l0 x57_4).f5) x64_5).f2.f2).length c253_5)) (fun _ hk => hk.2) (.slice A253_6 ((rd_T45 ((rd_T30 l0 x57_4).f5) x64_5).f2.f3).length c253_6)) (fun _ hk => hk.2) (.slice A253_7 ((rd_T45 ((rd_T30 l0 x57_4).f5) x64_5).f3).length c253_7)) (fun _ h_ => h_.1))) hb); have n1_ := Aside0.mk (Kd.R_below (by (with_reducible repeat (first | apply Kd.R_alloc | apply Kd.R_drewN | apply Kd.R_drew)); exact (Kd.R_mono (Kd.R_far (p := ⟨gb254, 7, none⟩) (Kd.R_far (p := ⟨gb254, 6, none⟩) (Kd.R_far (p := ⟨gb254, 5, none⟩) (Kd.R_far (p := ⟨gb254, 4, none⟩) (Kd.R_far (p := ⟨gb254, 3, none⟩) (Kd.R_far (p := ⟨gb254, 2, none⟩) (Kd.R_far (p := ⟨gb254, 1, none⟩) (Kd.R_far (p := ⟨gb254, 0, none⟩) (Kd.R_types HO_247003.out BK254.out (by decide)) (fun _ hk => hk.2) (.int .i64 ((rd_T45 ((rd_T30 l0 x57_4).f5) x64_5).f0))) (fun _ hk => hk.2) (.int .i64 ((rd_T45 ((rd_T30 l0 x57_4).f5) x64_5).f1.f0))) (fun _ hk => hk.2) (.int .i64 ((rd_T45 ((rd_T30 l0 x57_4).f5) x64_5).f1.f1))) (fun _ hk => hk.2) (.int .i64 ((rd_T45 ((rd_T30 l0 x57_4).f5) x64_5).f2.f0))) (fun _ hk => hk.2) (.int .i64 ((rd_T45 ((rd_T30 l0 x57_4).f5) x64_5).f2.f1))) (fun _ hk => hk.2) (.slice A253_5 ((rd_T45 ((rd_T30 l0 x57_4).f5) x64_5).f2.f2).length c253_5)) (fun _ hk => hk.2) (.slice A253_6 ((rd_T45 ((rd_T30 l0 x57_4).f5) x64_5).f2.f3).length c253_6)) (fun _ hk => hk.2) (.slice A253_7 ((rd_T45 ((rd_T30 l0 x57_4).f5) x64_5).f3).length c253_7)) (fun _ h_ => h_.1))) hb); have n2_ := Aside0.mk (blk_below (g := gb246) (o := .cells #[.int .i64 t238, .int .i64 t239, .slice Ao26 t240.length co26, .slice Ao27 t243.length co27] 36 (0, 0)) (by (with_reducible repeat (first | refine blk_drewN ?_ _ | refine blk_drew ?_ | refine blk_alloc ?_ _)); refine blk_far ?_ NB246_254.out _; (with_reducible repeat (first | refine blk_drewN ?_ _ | refine blk_drew ?_ | refine blk_alloc ?_ _)); refine blk_far ?_ NB246_254.out _; (with_reducible repeat (first | refine blk_drewN ?_ _ | refine blk_drew ?_ | refine blk_alloc ?_ _)); refine blk_far ?_ NB246_254.out _; (with_reducible repeat (first | refine blk_drewN ?_ _ | refine blk_drew ?_ | refine blk_alloc ?_ _)); refine blk_far ?_ NB246_254.out _; (with_reducible repeat (first | refine blk_drewN ?_ _ | refine blk_drew ?_ | refine blk_alloc ?_ _)); refine blk_far ?_ NB246_254.out _; (with_reducible repeat (first | refine blk_drewN ?_ _ | refine blk_drew ?_ | refine blk_alloc ?_ _)); refine blk_far ?_ NB246_254.out _; (with_reducible repeat (first | refine blk_drewN ?_ _ | refine blk_drew ?_ | refine blk_alloc ?_ _)); refine blk_far ?_ NB246_254.out _; (with_reducible repeat (first | refine blk_drewN ?_ _ | refine blk_drew ?_ | refine blk_alloc ?_ _)); refine blk_far ?_ NB246_254.out _; (with_reducible repeat (first | refine blk_drewN ?_ _ | refine blk_drew ?_ | refine blk_alloc ?_ _)); exact BK246.out) hb); have n3_ := Aside0.mk (blk_below (g := gb248) (o := .cells #[.int .i64 ((rd_T30 l0 x40_2).f0.f0), .int .i64 ((rd_T30 l0 x40_2).f0.f1), .int .i64 ((rd_T30 l0 x40_2).f1), .int .i64 ((rd_T30 l0 x40_2).f2), .slice A247_4 ((rd_T30 l0 x40_2).f3).length c247_4, .slice A247_5 ((rd_T30 l0 x40_2).f4).length c247_5, .slice (some ad249) ((rd_T30 l0 x40_2).f5).length c247_6, .slice A247_7 ((rd_T30 l0 x40_2).f6).length c247_7] 30 (0, 0)) (by (with_reducible repeat (first | refine blk_drewN ?_ _ | refine blk_drew ?_ | refine blk_alloc ?_ _)); refine blk_far ?_ NB248_254.out _; (with_reducible repeat (first | refine blk_drewN ?_ _ | refine blk_drew ?_ | refine blk_alloc ?_ _)); refine blk_far ?_ NB248_254.out _; (with_reducible repeat (first | refine blk_drewN ?_ _ | refine blk_drew ?_ | refine blk_alloc ?_ _)); refine blk_far ?_ NB248_254.out _; (with_reducible repeat (first | refine blk_drewN ?_ _ | refine blk_drew ?_ | refine blk_alloc ?_ _)); refine blk_far ?_ NB248_254.out _; (with_reducible repeat (first | refine blk_drewN ?_ _ | refine blk_drew ?_ | refine blk_alloc ?_ _)); refine blk_far ?_ NB248_254.out _; (with_reducible repeat (first | refine blk_drewN ?_ _ | refine blk_drew ?_ | refine blk_alloc ?_ _)); refine blk_far ?_ NB248_254.out _; (with_reducible repeat (first | refine blk_drewN ?_ _ | refine blk_drew ?_ | refine blk_alloc ?_ _)); refine blk_far ?_ NB248_254.out _; (with_reducible repeat (first | refine blk_drewN ?_ _ | refine blk_drew ?_ | refine blk_alloc ?_ _)); refine blk_far ?_ NB248_254.out _; (with_reducible repeat (first | refine blk_drewN ?_ _ | refine blk_drew ?_ | refine blk_alloc ?_ _)); exact BK248.out) hb); have n4_ := Aside0.mk (blk_below (g := gb250) (o := .cells #[.int .i64 ((rd_T45 ((rd_T30 l0 x40_2).f5) x47_3).f0), .int .i64 ((rd_T45 ((rd_T30 l0 x40_2).f5) x47_3).f1.f0), .int .i64 ((rd_T45 ((rd_T30 l0 x40_2).f5) x47_3).f1.f1), .int .i64 ((rd_T45 ((rd_T30 l0 x40_2).f5) x47_3).f2.f0), .int .i64 ((rd_T45 ((rd_T30 l0 x40_2).f5) x47_3).f2.f1), .slice A249_5 ((rd_T45 ((rd_T30 l0 x40_2).f5) x47_3).f2.f2).length c249_5, .slice A249_6 ((rd_T45 ((rd_T30 l0 x40_2).f5) x47_3).f2.f3).length c249_6, .slice A249_7 ((rd_T45 ((rd_T30 l0 x40_2).f5) x47_3).f3).length c249_7] 45 (0, 0)) (by (with_reducible repeat (first | refine blk_drewN ?_ _ | refine blk_drew ?_ | refine blk_alloc ?_ _)); refine blk_far ?_ NB250_254.out _; (with_reducible repeat (first | refine blk_drewN ?_ _ | refine blk_drew ?_ | refine blk_alloc ?_ _)); refine blk_far ?_ NB250_254.out _; (with_reducible repeat (first | refine blk_drewN ?_ _ | refine blk_drew ?_ | refine blk_alloc ?_ _)); refine blk_far ?_ NB250_254.out _; (with_reducible repeat (first | refine blk_drewN ?_ _ | refine blk_drew ?_ | refine blk_alloc ?_ _)); refine blk_far ?_ NB250_254.out _; (with_reducible repeat (first | refine blk_drewN ?_ _ | refine blk_drew ?_ | refine blk_alloc ?_ _)); refine blk_far ?_ NB250_254.out _; (with_reducible repeat (first | refine blk_drewN ?_ _ | refine blk_drew ?_ | refine blk_alloc ?_ _)); refine blk_far ?_ NB250_254.out _; (with_reducible repeat (first | refine blk_drewN ?_ _ | refine blk_drew ?_ | refine blk_alloc ?_ _)); refine blk_far ?_ NB250_254.out _; (with_reducible repeat (first | refine blk_drewN ?_ _ | refine blk_drew ?_ | refine blk_alloc ?_ _)); refine blk_far ?_ NB250_254.out _; (with_reducible repeat (first | refine blk_drewN ?_ _ | refine blk_drew ?_ | refine blk_alloc ?_ _)); exact BK250.out) hb); have n5_ := Aside0.mk (blk_below (g := gb252) (o := .cells #[.int .i64 ((rd_T30 l0 x57_4).f0.f0), .int .i64 ((rd_T30 l0 x57_4).f0.f1), .int .i64 ((rd_T30 l0 x57_4).f1), .int .i64 ((rd_T30 l0 x57_4).f2), .slice A251_4 ((rd_T30 l0 x57_4).f3).length c251_4, .slice A251_5 ((rd_T30 l0 x57_4).f4).length c251_5, .slice (some ad253) ((rd_T30 l0 x57_4).f5).length c251_6, .slice A251_7 ((rd_T30 l0 x57_4).f6).length c251_7] 30 (0, 0)) (by (with_reducible repeat (first | refine blk_drewN ?_ _ | refine blk_drew ?_ | refine blk_alloc ?_ _)); refine blk_far ?_ NB252_254.out _; (with_reducible repeat (first | refine blk_drewN ?_ _ | refine blk_drew ?_ | refine blk_alloc ?_ _)); refine blk_far ?_ NB252_254.out _; (with_reducible repeat (first | refine blk_drewN ?_ _ | refine blk_drew ?_ | refine blk_alloc ?_ _)); refine blk_far ?_ NB252_254.out _; (with_reducible repeat (first | refine blk_drewN ?_ _ | refine blk_drew ?_ | refine blk_alloc ?_ _)); refine blk_far ?_ NB252_254.out _; (with_reducible repeat (first | refine blk_drewN ?_ _ | refine blk_drew ?_ | refine blk_alloc ?_ _)); refine blk_far ?_ NB252_254.out _; (with_reducible repeat (first | refine blk_drewN ?_ _ | refine blk_drew ?_ | refine blk_alloc ?_ _)); refine blk_far ?_ NB252_254.out _; (with_reducible repeat (first | refine blk_drewN ?_ _ | refine blk_drew ?_ | refine blk_alloc ?_ _)); refine blk_far ?_ NB252_254.out _; (with_reducible repeat (first | refine blk_drewN ?_ _ | refine blk_drew ?_ | refine blk_alloc ?_ _)); refine blk_far ?_ NB252_254.out _; (with_reducible repeat (first | refine blk_drewN ?_ _ | refine blk_drew ?_ | refine blk_alloc ?_ _)); exact BK252.out) hb); have n6_ := Aside0.mk (blk_below (g := gb254) (o := .cells #[.int .i64 ((rd_T45 ((rd_T30 l0 x57_4).f5) x64_5).f0), .int .i64 ((rd_T45 ((rd_T30 l0 x57_4).f5) x64_5).f1.f0), .int .i64 ((rd_T45 ((rd_T30 l0 x57_4).f5) x64_5).f1.f1), .int .i64 ((rd_T45 ((rd_T30 l0 x57_4).f5) x64_5).f2.f0), .int .i64 ((rd_T45 ((rd_T30 l0 x57_4).f5) x64_5).f2.f1), .slice A253_5 ((rd_T45 ((rd_T30 l0 x57_4).f5) x64_5).f2.f2).length c253_5, .slice A253_6 ((rd_T45 ((rd_T30 l0 x57_4).f5) x64_5).f2.f3).length c253_6, .slice A253_7 ((rd_T45 ((rd_T30 l0 x57_4).f5) x64_5).f3).length c253_7] 45 (0, 0)) (by (with_reducible repeat (first | refine blk_drewN ?_ _ | refine blk_drew ?_ | refine blk_alloc ?_ _)); refine blk_put (cs := #[.int .i64 ((rd_T45 ((rd_T30 l0 x57_4).f5) x64_5).f0), .int .i64 ((rd_T45 ((rd_T30 l0 x57_4).f5) x64_5).f1.f0), .int .i64 ((rd_T45 ((rd_T30 l0 x57_4).f5) x64_5).f1.f1), .int .i64 ((rd_T45 ((rd_T30 l0 x57_4).f5) x64_5).f2.f0), .int .i64 ((rd_T45 ((rd_T30 l0 x57_4).f5) x64_5).f2.f1), .slice A253_5 ((rd_T45 ((rd_T30 l0 x57_4).f5) x64_5).f2.f2).length c253_5, .slice A253_6 ((rd_T45 ((rd_T30 l0 x57_4).f5) x64_5).f2.f3).length c253_6, .slice none 0 0]) ?_ 7 _ rfl; (with_reducible repeat (first | refine blk_drewN ?_ _ | refine blk_drew ?_ | refine blk_alloc ?_ _)); refine blk_put (cs := #[.int .i64 ((rd_T45 ((rd_T30 l0 x57_4).f5) x64_5).f0), .int .i64 ((rd_T45 ((rd_T30 l0 x57_4).f5) x64_5).f1.f0), .int .i64 ((rd_T45 ((rd_T30 l0 x57_4).f5) x64_5).f1.f1), .int .i64 ((rd_T45 ((rd_T30 l0 x57_4).f5) x64_5).f2.f0), .int .i64 ((rd_T45 ((rd_T30 l0 x57_4).f5) x64_5).f2.f1), .slice A253_5 ((rd_T45 ((rd_T30 l0 x57_4).f5) x64_5).f2.f2).length c253_5, .slice none 0 0, .slice none 0 0]) ?_ 6 _ rfl; (with_reducible repeat (first | refine blk_drewN ?_ _ | refine blk_drew ?_ | refine blk_alloc ?_ _)); refine blk_put (cs := #[.int .i64 ((rd_T45 ((rd_T30 l0 x57_4).f5) x64_5).f0), .int .i64 ((rd_T45 ((rd_T30 l0 x57_4).f5) x64_5).f1.f0), .int .i64 ((rd_T45 ((rd_T30 l0 x57_4).f5) x64_5).f1.f1), .int .i64 ((rd_T45 ((rd_T30 l0 x57_4).f5) x64_5).f2.f0), .int .i64 ((rd_T45 ((rd_T30 l0 x57_4).f5) x64_5).f2.f1), .slice none 0 0, .slice none 0 0, .slice none 0 0]) ?_ 5 _ rfl; (with_reducible repeat (first | refine blk_drewN ?_ _ | refine blk_drew ?_ | refine blk_alloc ?_ _)); refine blk_put (cs := #[.int .i64 ((rd_T45 ((rd_T30 l0 x57_4).f5) x64_5).f0), .int .i64 ((rd_T45 ((rd_T30 l0 x57_4).f5) x64_5).f1.f0), .int .i64 ((rd_T45 ((rd_T30 l0 x57_4).f5) x64_5).f1.f1), .int .i64 ((rd_T45 ((rd_T30 l0 x57_4).f5) x64_5).f2.f0), .int .i64 0, .slice none 0 0, .slice none 0 0, .slice none 0 0]) ?_ 4 _ rfl; (with_reducible repeat (first | refine blk_drewN ?_ _ | refine blk_drew ?_ | refine blk_alloc ?_ _)); refine blk_put (cs := #[.int .i64 ((rd_T45 ((rd_T30 l0 x57_4).f5) x64_5).f0), .int .i64 ((rd_T45 ((rd_T30 l0 x57_4).f5) x64_5).f1.f0), .int .i64 ((rd_T45 ((rd_T30 l0 x57_4).f5) x64_5).f1.f1), .int .i64 0, .int .i64 0, .slice none 0 0, .slice none 0 0, .slice none 0 0]) ?_ 3 _ rfl; (with_reducible repeat (first | refine blk_drewN ?_ _ | refine blk_drew ?_ | refine blk_alloc ?_ _)); refine blk_put (cs := #[.int .i64 ((rd_T45 ((rd_T30 l0 x57_4).f5) x64_5).f0), .int .i64 ((rd_T45 ((rd_T30 l0 x57_4).f5) x64_5).f1.f0), .int .i64 0, .int .i64 0, .int .i64 0, .slice none 0 0, .slice none 0 0, .slice none 0 0]) ?_ 2 _ rfl; (with_reducible repeat (first | refine blk_drewN ?_ _ | refine blk_drew ?_ | refine blk_alloc ?_ _)); refine blk_put (cs := #[.int .i64 ((rd_T45 ((rd_T30 l0 x57_4).f5) x64_5).f0), .int .i64 0, .int .i64 0, .int .i64 0, .int .i64 0, .slice none 0 0, .slice none 0 0, .slice none 0 0]) ?_ 1 _ rfl; (with_reducible repeat (first | refine blk_drewN ?_ _ | refine blk_drew ?_ | refine blk_alloc ?_ _)); refine blk_put (cs := #[.int .i64 0, .int .i64 0, .int .i64 0, .int .i64 0, .int .i64 0, .slice none 0 0, .slice none 0 0, .slice none 0 0]) ?_ 0 _ rfl; (with_reducible repeat (first | refine blk_drewN ?_ _ | refine blk_drew ?_ | refine blk_alloc ?_ _)); exact BK254.out) hb); have n7_ := Aside0.mk (below_step (by repeat (first | (with_reducible first | exact HB.out | apply below_alloc | apply pw_below_drewN | apply below_drew1 | refine below_set ?_ GE246.out | refine below_set ?_ GE248.out | refine below_set ?_ GE250.out | refine below_set ?_ GE252.out | refine below_set ?_ GE254.out) | exact HB.out)) hb); clear HO_247002; clear HO_247003; clear BK246; clear BK248; clear BK250; clear BK252; clear BK254; clear HB; have HO_247002 := n0_; have HO_247003 := n1_; have BK246 := n2_; have BK248 := n3_; have BK250 := n4_; have BK252 := n5_; have BK254 := n6_; have HB := n7_; clear n0_ n1_ n2_ n3_ n4_ n5_ n6_ n7_; (try clear hb); (try clear hb2); (try clear hk); (try clear hi)))
                                                        go_meet
                                                        case rel => exact ⟨_, (decide (t255 > 0)), (by first | rfl | (simp; done) | (simp [*]; done)), H', ⟨by have := HK1.out; have := HK2.out; have := HK3.out; have := HK4.out; have := HK5.out; first | omega | exact Nat.le_refl _⟩, ⟨by (with_reducible repeat (first | apply Kd.R_alloc | apply Kd.R_drewN | apply Kd.R_drew)); exact HO_247002.out⟩, ⟨by (with_reducible repeat (first | apply Kd.R_alloc | apply Kd.R_drewN | apply Kd.R_drew)); exact HO_247003.out⟩, ⟨by (with_reducible repeat (first | refine blk_drewN ?_ _ | refine blk_drew ?_ | refine blk_alloc ?_ _)); exact BK246.out⟩, ⟨by (with_reducible repeat (first | refine blk_drewN ?_ _ | refine blk_drew ?_ | refine blk_alloc ?_ _)); exact BK248.out⟩, ⟨by (with_reducible repeat (first | refine blk_drewN ?_ _ | refine blk_drew ?_ | refine blk_alloc ?_ _)); exact BK250.out⟩, ⟨by (with_reducible repeat (first | refine blk_drewN ?_ _ | refine blk_drew ?_ | refine blk_alloc ?_ _)); exact BK252.out⟩, ⟨by (with_reducible repeat (first | refine blk_drewN ?_ _ | refine blk_drew ?_ | refine blk_alloc ?_ _)); exact BK254.out⟩, ⟨by repeat (first | (with_reducible first | exact HB.out | apply below_alloc | apply pw_below_drewN | apply below_drew1 | refine below_set ?_ GE246.out | refine below_set ?_ GE248.out | refine below_set ?_ GE250.out | refine below_set ?_ GE252.out | refine below_set ?_ GE254.out) | exact HB.out)⟩⟩
                                                      · rw [if_neg c60] at H
                                                        have c60b0 : (((rd_T45 ((rd_T30 l0 x57_4).f5) x64_5).f0) == a1) = false := beq_eq_false_iff_ne.mpr c60
                                                        have c60b1 : (((rd_T45 ((rd_T30 l0 x57_4).f5) x64_5).f0) != a1) = true := bne_iff_ne.mpr c60
                                                        (first | rw [c60b0] | (simp only [i64_w, i32_w]; rw [c60b0]) | skip)
                                                        have H' := Aside0.mk H
                                                        clear H
                                                        have hnb72 := NB254_246.out
                                                        have hnc72 := NB246_254.out
                                                        have hnb73 := NB254_248.out
                                                        have hnc73 := NB248_254.out
                                                        have hnb74 := NB254_250.out
                                                        have hnc74 := NB250_254.out
                                                        have hnb75 := NB254_252.out
                                                        have hnc75 := NB252_254.out
                                                        have hcz76_0 : w54.cell? ⟨gb254, 0, none⟩ = some (.int .i64 0) := (blk_cell BK254.out 0).trans rfl
                                                        have hcz76_1 : w54.cell? ⟨gb254, 1, none⟩ = some (.int .i64 0) := (blk_cell BK254.out 1).trans rfl
                                                        have hcz76_2 : w54.cell? ⟨gb254, 2, none⟩ = some (.int .i64 0) := (blk_cell BK254.out 2).trans rfl
                                                        have hcz76_3 : w54.cell? ⟨gb254, 3, none⟩ = some (.int .i64 0) := (blk_cell BK254.out 3).trans rfl
                                                        have hcz76_4 : w54.cell? ⟨gb254, 4, none⟩ = some (.int .i64 0) := (blk_cell BK254.out 4).trans rfl
                                                        have hcz76_5 : w54.cell? ⟨gb254, 5, none⟩ = some (.slice none 0 0) := (blk_cell BK254.out 5).trans rfl
                                                        have hcz76_6 : w54.cell? ⟨gb254, 6, none⟩ = some (.slice none 0 0) := (blk_cell BK254.out 6).trans rfl
                                                        have hcz76_7 : w54.cell? ⟨gb254, 7, none⟩ = some (.slice none 0 0) := (blk_cell BK254.out 7).trans rfl
                                                        have hfz76_0 := blk_frozen BK254.out 0
                                                        have hfz76_1 := blk_frozen BK254.out 1
                                                        have hfz76_2 := blk_frozen BK254.out 2
                                                        have hfz76_3 := blk_frozen BK254.out 3
                                                        have hfz76_4 := blk_frozen BK254.out 4
                                                        have hfz76_5 := blk_frozen BK254.out 5
                                                        have hfz76_6 := blk_frozen BK254.out 6
                                                        have hfz76_7 := blk_frozen BK254.out 7
                                                        go_wp2
                                                        go_meet
                                                        case rel => exact ⟨_, (false), (by first | rfl | (simp; done) | (simp [*]; done)), H', ⟨by have := HK1.out; have := HK2.out; have := HK3.out; have := HK4.out; have := HK5.out; first | omega | exact Nat.le_refl _⟩, ⟨by (with_reducible repeat (first | apply Kd.R_alloc | apply Kd.R_drewN | apply Kd.R_drew)); exact Kd.R_mono (Kd.R_far (p := ⟨gb254, 7, none⟩) (Kd.R_far (p := ⟨gb254, 6, none⟩) (Kd.R_far (p := ⟨gb254, 5, none⟩) (Kd.R_far (p := ⟨gb254, 4, none⟩) (Kd.R_far (p := ⟨gb254, 3, none⟩) (Kd.R_far (p := ⟨gb254, 2, none⟩) (Kd.R_far (p := ⟨gb254, 1, none⟩) (Kd.R_far (p := ⟨gb254, 0, none⟩) (Kd.R_types HO_247002.out BK254.out (by decide)) (fun _ hk => hk.2) (.int .i64 ((rd_T45 ((rd_T30 l0 x57_4).f5) x64_5).f0))) (fun _ hk => hk.2) (.int .i64 ((rd_T45 ((rd_T30 l0 x57_4).f5) x64_5).f1.f0))) (fun _ hk => hk.2) (.int .i64 ((rd_T45 ((rd_T30 l0 x57_4).f5) x64_5).f1.f1))) (fun _ hk => hk.2) (.int .i64 ((rd_T45 ((rd_T30 l0 x57_4).f5) x64_5).f2.f0))) (fun _ hk => hk.2) (.int .i64 ((rd_T45 ((rd_T30 l0 x57_4).f5) x64_5).f2.f1))) (fun _ hk => hk.2) (.slice A253_5 ((rd_T45 ((rd_T30 l0 x57_4).f5) x64_5).f2.f2).length c253_5)) (fun _ hk => hk.2) (.slice A253_6 ((rd_T45 ((rd_T30 l0 x57_4).f5) x64_5).f2.f3).length c253_6)) (fun _ hk => hk.2) (.slice A253_7 ((rd_T45 ((rd_T30 l0 x57_4).f5) x64_5).f3).length c253_7)) (fun _ hk => hk.1)⟩, ⟨by (with_reducible repeat (first | apply Kd.R_alloc | apply Kd.R_drewN | apply Kd.R_drew)); exact Kd.R_mono (Kd.R_far (p := ⟨gb254, 7, none⟩) (Kd.R_far (p := ⟨gb254, 6, none⟩) (Kd.R_far (p := ⟨gb254, 5, none⟩) (Kd.R_far (p := ⟨gb254, 4, none⟩) (Kd.R_far (p := ⟨gb254, 3, none⟩) (Kd.R_far (p := ⟨gb254, 2, none⟩) (Kd.R_far (p := ⟨gb254, 1, none⟩) (Kd.R_far (p := ⟨gb254, 0, none⟩) (Kd.R_types HO_247003.out BK254.out (by decide)) (fun _ hk => hk.2) (.int .i64 ((rd_T45 ((rd_T30 l0 x57_4).f5) x64_5).f0))) (fun _ hk => hk.2) (.int .i64 ((rd_T45 ((rd_T30 l0 x57_4).f5) x64_5).f1.f0))) (fun _ hk => hk.2) (.int .i64 ((rd_T45 ((rd_T30 l0 x57_4).f5) x64_5).f1.f1))) (fun _ hk => hk.2) (.int .i64 ((rd_T45 ((rd_T30 l0 x57_4).f5) x64_5).f2.f0))) (fun _ hk => hk.2) (.int .i64 ((rd_T45 ((rd_T30 l0 x57_4).f5) x64_5).f2.f1))) (fun _ hk => hk.2) (.slice A253_5 ((rd_T45 ((rd_T30 l0 x57_4).f5) x64_5).f2.f2).length c253_5)) (fun _ hk => hk.2) (.slice A253_6 ((rd_T45 ((rd_T30 l0 x57_4).f5) x64_5).f2.f3).length c253_6)) (fun _ hk => hk.2) (.slice A253_7 ((rd_T45 ((rd_T30 l0 x57_4).f5) x64_5).f3).length c253_7)) (fun _ hk => hk.1)⟩, ⟨by (with_reducible repeat (first | refine blk_drewN ?_ _ | refine blk_drew ?_ | refine blk_alloc ?_ _)); refine blk_far ?_ NB246_254.out _; (with_reducible repeat (first | refine blk_drewN ?_ _ | refine blk_drew ?_ | refine blk_alloc ?_ _)); refine blk_far ?_ NB246_254.out _; (with_reducible repeat (first | refine blk_drewN ?_ _ | refine blk_drew ?_ | refine blk_alloc ?_ _)); refine blk_far ?_ NB246_254.out _; (with_reducible repeat (first | refine blk_drewN ?_ _ | refine blk_drew ?_ | refine blk_alloc ?_ _)); refine blk_far ?_ NB246_254.out _; (with_reducible repeat (first | refine blk_drewN ?_ _ | refine blk_drew ?_ | refine blk_alloc ?_ _)); refine blk_far ?_ NB246_254.out _; (with_reducible repeat (first | refine blk_drewN ?_ _ | refine blk_drew ?_ | refine blk_alloc ?_ _)); refine blk_far ?_ NB246_254.out _; (with_reducible repeat (first | refine blk_drewN ?_ _ | refine blk_drew ?_ | refine blk_alloc ?_ _)); refine blk_far ?_ NB246_254.out _; (with_reducible repeat (first | refine blk_drewN ?_ _ | refine blk_drew ?_ | refine blk_alloc ?_ _)); refine blk_far ?_ NB246_254.out _; (with_reducible repeat (first | refine blk_drewN ?_ _ | refine blk_drew ?_ | refine blk_alloc ?_ _)); exact BK246.out⟩, ⟨by (with_reducible repeat (first | refine blk_drewN ?_ _ | refine blk_drew ?_ | refine blk_alloc ?_ _)); refine blk_far ?_ NB248_254.out _; (with_reducible repeat (first | refine blk_drewN ?_ _ | refine blk_drew ?_ | refine blk_alloc ?_ _)); refine blk_far ?_ NB248_254.out _; (with_reducible repeat (first | refine blk_drewN ?_ _ | refine blk_drew ?_ | refine blk_alloc ?_ _)); refine blk_far ?_ NB248_254.out _; (with_reducible repeat (first | refine blk_drewN ?_ _ | refine blk_drew ?_ | refine blk_alloc ?_ _)); refine blk_far ?_ NB248_254.out _; (with_reducible repeat (first | refine blk_drewN ?_ _ | refine blk_drew ?_ | refine blk_alloc ?_ _)); refine blk_far ?_ NB248_254.out _; (with_reducible repeat (first | refine blk_drewN ?_ _ | refine blk_drew ?_ | refine blk_alloc ?_ _)); refine blk_far ?_ NB248_254.out _; (with_reducible repeat (first | refine blk_drewN ?_ _ | refine blk_drew ?_ | refine blk_alloc ?_ _)); refine blk_far ?_ NB248_254.out _; (with_reducible repeat (first | refine blk_drewN ?_ _ | refine blk_drew ?_ | refine blk_alloc ?_ _)); refine blk_far ?_ NB248_254.out _; (with_reducible repeat (first | refine blk_drewN ?_ _ | refine blk_drew ?_ | refine blk_alloc ?_ _)); exact BK248.out⟩, ⟨by (with_reducible repeat (first | refine blk_drewN ?_ _ | refine blk_drew ?_ | refine blk_alloc ?_ _)); refine blk_far ?_ NB250_254.out _; (with_reducible repeat (first | refine blk_drewN ?_ _ | refine blk_drew ?_ | refine blk_alloc ?_ _)); refine blk_far ?_ NB250_254.out _; (with_reducible repeat (first | refine blk_drewN ?_ _ | refine blk_drew ?_ | refine blk_alloc ?_ _)); refine blk_far ?_ NB250_254.out _; (with_reducible repeat (first | refine blk_drewN ?_ _ | refine blk_drew ?_ | refine blk_alloc ?_ _)); refine blk_far ?_ NB250_254.out _; (with_reducible repeat (first | refine blk_drewN ?_ _ | refine blk_drew ?_ | refine blk_alloc ?_ _)); refine blk_far ?_ NB250_254.out _; (with_reducible repeat (first | refine blk_drewN ?_ _ | refine blk_drew ?_ | refine blk_alloc ?_ _)); refine blk_far ?_ NB250_254.out _; (with_reducible repeat (first | refine blk_drewN ?_ _ | refine blk_drew ?_ | refine blk_alloc ?_ _)); refine blk_far ?_ NB250_254.out _; (with_reducible repeat (first | refine blk_drewN ?_ _ | refine blk_drew ?_ | refine blk_alloc ?_ _)); refine blk_far ?_ NB250_254.out _; (with_reducible repeat (first | refine blk_drewN ?_ _ | refine blk_drew ?_ | refine blk_alloc ?_ _)); exact BK250.out⟩, ⟨by (with_reducible repeat (first | refine blk_drewN ?_ _ | refine blk_drew ?_ | refine blk_alloc ?_ _)); refine blk_far ?_ NB252_254.out _; (with_reducible repeat (first | refine blk_drewN ?_ _ | refine blk_drew ?_ | refine blk_alloc ?_ _)); refine blk_far ?_ NB252_254.out _; (with_reducible repeat (first | refine blk_drewN ?_ _ | refine blk_drew ?_ | refine blk_alloc ?_ _)); refine blk_far ?_ NB252_254.out _; (with_reducible repeat (first | refine blk_drewN ?_ _ | refine blk_drew ?_ | refine blk_alloc ?_ _)); refine blk_far ?_ NB252_254.out _; (with_reducible repeat (first | refine blk_drewN ?_ _ | refine blk_drew ?_ | refine blk_alloc ?_ _)); refine blk_far ?_ NB252_254.out _; (with_reducible repeat (first | refine blk_drewN ?_ _ | refine blk_drew ?_ | refine blk_alloc ?_ _)); refine blk_far ?_ NB252_254.out _; (with_reducible repeat (first | refine blk_drewN ?_ _ | refine blk_drew ?_ | refine blk_alloc ?_ _)); refine blk_far ?_ NB252_254.out _; (with_reducible repeat (first | refine blk_drewN ?_ _ | refine blk_drew ?_ | refine blk_alloc ?_ _)); refine blk_far ?_ NB252_254.out _; (with_reducible repeat (first | refine blk_drewN ?_ _ | refine blk_drew ?_ | refine blk_alloc ?_ _)); exact BK252.out⟩, ⟨by (with_reducible repeat (first | refine blk_drewN ?_ _ | refine blk_drew ?_ | refine blk_alloc ?_ _)); refine blk_put (cs := #[.int .i64 ((rd_T45 ((rd_T30 l0 x57_4).f5) x64_5).f0), .int .i64 ((rd_T45 ((rd_T30 l0 x57_4).f5) x64_5).f1.f0), .int .i64 ((rd_T45 ((rd_T30 l0 x57_4).f5) x64_5).f1.f1), .int .i64 ((rd_T45 ((rd_T30 l0 x57_4).f5) x64_5).f2.f0), .int .i64 ((rd_T45 ((rd_T30 l0 x57_4).f5) x64_5).f2.f1), .slice A253_5 ((rd_T45 ((rd_T30 l0 x57_4).f5) x64_5).f2.f2).length c253_5, .slice A253_6 ((rd_T45 ((rd_T30 l0 x57_4).f5) x64_5).f2.f3).length c253_6, .slice none 0 0]) ?_ 7 _ rfl; (with_reducible repeat (first | refine blk_drewN ?_ _ | refine blk_drew ?_ | refine blk_alloc ?_ _)); refine blk_put (cs := #[.int .i64 ((rd_T45 ((rd_T30 l0 x57_4).f5) x64_5).f0), .int .i64 ((rd_T45 ((rd_T30 l0 x57_4).f5) x64_5).f1.f0), .int .i64 ((rd_T45 ((rd_T30 l0 x57_4).f5) x64_5).f1.f1), .int .i64 ((rd_T45 ((rd_T30 l0 x57_4).f5) x64_5).f2.f0), .int .i64 ((rd_T45 ((rd_T30 l0 x57_4).f5) x64_5).f2.f1), .slice A253_5 ((rd_T45 ((rd_T30 l0 x57_4).f5) x64_5).f2.f2).length c253_5, .slice none 0 0, .slice none 0 0]) ?_ 6 _ rfl; (with_reducible repeat (first | refine blk_drewN ?_ _ | refine blk_drew ?_ | refine blk_alloc ?_ _)); refine blk_put (cs := #[.int .i64 ((rd_T45 ((rd_T30 l0 x57_4).f5) x64_5).f0), .int .i64 ((rd_T45 ((rd_T30 l0 x57_4).f5) x64_5).f1.f0), .int .i64 ((rd_T45 ((rd_T30 l0 x57_4).f5) x64_5).f1.f1), .int .i64 ((rd_T45 ((rd_T30 l0 x57_4).f5) x64_5).f2.f0), .int .i64 ((rd_T45 ((rd_T30 l0 x57_4).f5) x64_5).f2.f1), .slice none 0 0, .slice none 0 0, .slice none 0 0]) ?_ 5 _ rfl; (with_reducible repeat (first | refine blk_drewN ?_ _ | refine blk_drew ?_ | refine blk_alloc ?_ _)); refine blk_put (cs := #[.int .i64 ((rd_T45 ((rd_T30 l0 x57_4).f5) x64_5).f0), .int .i64 ((rd_T45 ((rd_T30 l0 x57_4).f5) x64_5).f1.f0), .int .i64 ((rd_T45 ((rd_T30 l0 x57_4).f5) x64_5).f1.f1), .int .i64 ((rd_T45 ((rd_T30 l0 x57_4).f5) x64_5).f2.f0), .int .i64 0, .slice none 0 0, .slice none 0 0, .slice none 0 0]) ?_ 4 _ rfl; (with_reducible repeat (first | refine blk_drewN ?_ _ | refine blk_drew ?_ | refine blk_alloc ?_ _)); refine blk_put (cs := #[.int .i64 ((rd_T45 ((rd_T30 l0 x57_4).f5) x64_5).f0), .int .i64 ((rd_T45 ((rd_T30 l0 x57_4).f5) x64_5).f1.f0), .int .i64 ((rd_T45 ((rd_T30 l0 x57_4).f5) x64_5).f1.f1), .int .i64 0, .int .i64 0, .slice none 0 0, .slice none 0 0, .slice none 0 0]) ?_ 3 _ rfl; (with_reducible repeat (first | refine blk_drewN ?_ _ | refine blk_drew ?_ | refine blk_alloc ?_ _)); refine blk_put (cs := #[.int .i64 ((rd_T45 ((rd_T30 l0 x57_4).f5) x64_5).f0), .int .i64 ((rd_T45 ((rd_T30 l0 x57_4).f5) x64_5).f1.f0), .int .i64 0, .int .i64 0, .int .i64 0, .slice none 0 0, .slice none 0 0, .slice none 0 0]) ?_ 2 _ rfl; (with_reducible repeat (first | refine blk_drewN ?_ _ | refine blk_drew ?_ | refine blk_alloc ?_ _)); refine blk_put (cs := #[.int .i64 ((rd_T45 ((rd_T30 l0 x57_4).f5) x64_5).f0), .int .i64 0, .int .i64 0, .int .i64 0, .int .i64 0, .slice none 0 0, .slice none 0 0, .slice none 0 0]) ?_ 1 _ rfl; (with_reducible repeat (first | refine blk_drewN ?_ _ | refine blk_drew ?_ | refine blk_alloc ?_ _)); refine blk_put (cs := #[.int .i64 0, .int .i64 0, .int .i64 0, .int .i64 0, .int .i64 0, .slice none 0 0, .slice none 0 0, .slice none 0 0]) ?_ 0 _ rfl; (with_reducible repeat (first | refine blk_drewN ?_ _ | refine blk_drew ?_ | refine blk_alloc ?_ _)); exact BK254.out⟩, ⟨by repeat (first | (with_reducible first | exact HB.out | apply below_alloc | apply pw_below_drewN | apply below_drew1 | refine below_set ?_ GE246.out | refine below_set ?_ GE248.out | refine below_set ?_ GE250.out | refine below_set ?_ GE252.out | refine below_set ?_ GE254.out) | exact HB.out)⟩⟩
                                                    case rest =>
                                                      clear HC53
                                                      try clear c1
                                                      try clear c2
                                                      try clear p2
                                                      try clear q2
                                                      try clear hx2
                                                      try clear c3
                                                      try clear c4
                                                      try clear c5
                                                      try clear c6
                                                      try clear p6
                                                      try clear c7
                                                      try clear c8
                                                      try clear c8b0
                                                      try clear c9
                                                      try clear c9b0
                                                      try clear c10
                                                      try clear c10b0
                                                      try clear c12
                                                      try clear c21
                                                      try clear p21
                                                      try clear q21
                                                      try clear hx21
                                                      try clear c24
                                                      try clear p24
                                                      try clear q24
                                                      try clear hx24
                                                      try clear c25
                                                      try clear p25
                                                      try clear q25
                                                      try clear hx25
                                                      try clear c28
                                                      try clear c28b0
                                                      try clear c29
                                                      try clear c29b0
                                                      try clear c30
                                                      try clear c30b0
                                                      try clear c32
                                                      try clear c34
                                                      try clear c34b0
                                                      try clear c35
                                                      try clear c35b0
                                                      try clear c36
                                                      try clear c36b0
                                                      try clear c37
                                                      try clear c37b0
                                                      try clear c37b1
                                                      try clear c39
                                                      try clear c40
                                                      try clear c42
                                                      try clear c42b0
                                                      try clear c43
                                                      try clear c43b0
                                                      try clear c44
                                                      try clear c44b0
                                                      try clear c46
                                                      try clear c47
                                                      try clear c48
                                                      try clear c50
                                                      try clear c50b0
                                                      try clear c51
                                                      try clear c51b0
                                                      try clear c52
                                                      try clear c52b0
                                                      try clear c55
                                                      try clear c56
                                                      try clear c57
                                                      try clear c58
                                                      try clear c60
                                                      try clear c60b0
                                                      try clear c60b1
                                                      try clear c62
                                                      try clear c63
                                                      try clear c64
                                                      try clear c65
                                                      try clear c67
                                                      try clear c68
                                                      try clear c69
                                                      try clear c72
                                                      try clear c73
                                                      try clear c74
                                                      try clear c75
                                                      try clear hcz14_0
                                                      try clear hcz14_1
                                                      try clear hcz14_2
                                                      try clear hcz14_3
                                                      try clear hcz14_4
                                                      try clear hcz14_5
                                                      try clear hcz14_6
                                                      try clear hcz14_7
                                                      try clear hcz25_0
                                                      try clear hcz25_1
                                                      try clear hcz25_2
                                                      try clear hcz25_3
                                                      try clear hcz33_0
                                                      try clear hcz33_1
                                                      try clear hcz33_2
                                                      try clear hcz33_3
                                                      try clear hcz33_4
                                                      try clear hcz33_5
                                                      try clear hcz33_6
                                                      try clear hcz33_7
                                                      try clear hcz41_0
                                                      try clear hcz41_1
                                                      try clear hcz41_2
                                                      try clear hcz41_3
                                                      try clear hcz41_4
                                                      try clear hcz41_5
                                                      try clear hcz41_6
                                                      try clear hcz41_7
                                                      try clear hcz49_0
                                                      try clear hcz49_1
                                                      try clear hcz49_2
                                                      try clear hcz49_3
                                                      try clear hcz49_4
                                                      try clear hcz49_5
                                                      try clear hcz49_6
                                                      try clear hcz49_7
                                                      try clear hcz59_0
                                                      try clear hcz59_1
                                                      try clear hcz59_2
                                                      try clear hcz59_3
                                                      try clear hcz59_4
                                                      try clear hcz59_5
                                                      try clear hcz59_6
                                                      try clear hcz59_7
                                                      try clear hcz66_0
                                                      try clear hcz66_1
                                                      try clear hcz66_2
                                                      try clear hcz66_3
                                                      try clear hcz66_4
                                                      try clear hcz66_5
                                                      try clear hcz66_6
                                                      try clear hcz66_7
                                                      try clear hcz70_0
                                                      try clear hcz70_1
                                                      try clear hcz70_2
                                                      try clear hcz70_3
                                                      try clear hcz70_4
                                                      try clear hcz70_5
                                                      try clear hcz70_6
                                                      try clear hcz70_7
                                                      try clear hcz76_0
                                                      try clear hcz76_1
                                                      try clear hcz76_2
                                                      try clear hcz76_3
                                                      try clear hcz76_4
                                                      try clear hcz76_5
                                                      try clear hcz76_6
                                                      try clear hcz76_7
                                                      try clear hfz14_0
                                                      try clear hfz14_1
                                                      try clear hfz14_2
                                                      try clear hfz14_3
                                                      try clear hfz14_4
                                                      try clear hfz14_5
                                                      try clear hfz14_6
                                                      try clear hfz14_7
                                                      try clear hfz25_0
                                                      try clear hfz25_1
                                                      try clear hfz25_2
                                                      try clear hfz25_3
                                                      try clear hfz33_0
                                                      try clear hfz33_1
                                                      try clear hfz33_2
                                                      try clear hfz33_3
                                                      try clear hfz33_4
                                                      try clear hfz33_5
                                                      try clear hfz33_6
                                                      try clear hfz33_7
                                                      try clear hfz41_0
                                                      try clear hfz41_1
                                                      try clear hfz41_2
                                                      try clear hfz41_3
                                                      try clear hfz41_4
                                                      try clear hfz41_5
                                                      try clear hfz41_6
                                                      try clear hfz41_7
                                                      try clear hfz49_0
                                                      try clear hfz49_1
                                                      try clear hfz49_2
                                                      try clear hfz49_3
                                                      try clear hfz49_4
                                                      try clear hfz49_5
                                                      try clear hfz49_6
                                                      try clear hfz49_7
                                                      try clear hfz59_0
                                                      try clear hfz59_1
                                                      try clear hfz59_2
                                                      try clear hfz59_3
                                                      try clear hfz59_4
                                                      try clear hfz59_5
                                                      try clear hfz59_6
                                                      try clear hfz59_7
                                                      try clear hfz66_0
                                                      try clear hfz66_1
                                                      try clear hfz66_2
                                                      try clear hfz66_3
                                                      try clear hfz66_4
                                                      try clear hfz66_5
                                                      try clear hfz66_6
                                                      try clear hfz66_7
                                                      try clear hfz70_0
                                                      try clear hfz70_1
                                                      try clear hfz70_2
                                                      try clear hfz70_3
                                                      try clear hfz70_4
                                                      try clear hfz70_5
                                                      try clear hfz70_6
                                                      try clear hfz70_7
                                                      try clear hfz76_0
                                                      try clear hfz76_1
                                                      try clear hfz76_2
                                                      try clear hfz76_3
                                                      try clear hfz76_4
                                                      try clear hfz76_5
                                                      try clear hfz76_6
                                                      try clear hfz76_7
                                                      try clear hx217_0
                                                      try clear hx217_1
                                                      try clear hx217_2
                                                      try clear hx217_3
                                                      try clear hx217_4
                                                      try clear hx217_5
                                                      try clear hx217_6
                                                      try clear hx217_7
                                                      try clear hx247_0
                                                      try clear hx247_1
                                                      try clear hx247_2
                                                      try clear hx247_3
                                                      try clear hx247_4
                                                      try clear hx247_5
                                                      try clear hx247_6
                                                      try clear hx247_7
                                                      try clear hx249_0
                                                      try clear hx249_1
                                                      try clear hx249_2
                                                      try clear hx249_3
                                                      try clear hx249_4
                                                      try clear hx249_5
                                                      try clear hx249_6
                                                      try clear hx249_7
                                                      try clear hx251_0
                                                      try clear hx251_1
                                                      try clear hx251_2
                                                      try clear hx251_3
                                                      try clear hx251_4
                                                      try clear hx251_5
                                                      try clear hx251_6
                                                      try clear hx251_7
                                                      try clear hx253_0
                                                      try clear hx253_1
                                                      try clear hx253_2
                                                      try clear hx253_3
                                                      try clear hx253_4
                                                      try clear hx253_5
                                                      try clear hx253_6
                                                      try clear hx253_7
                                                      try clear p2
                                                      try clear p21
                                                      try clear p217
                                                      try clear p24
                                                      try clear p247
                                                      try clear p249
                                                      try clear p25
                                                      try clear p251
                                                      try clear p253
                                                      try clear p6
                                                      try clear q2
                                                      try clear q21
                                                      try clear q217
                                                      try clear q24
                                                      try clear q247
                                                      try clear q249
                                                      try clear q25
                                                      try clear q251
                                                      try clear q253
                                                      obtain ⟨kq, x79_52, rfl, HA, HJ52, HO_247002, HO_247003, BK246, BK248, BK250, BK252, BK254, HB⟩ := hcut
                                                      cases kq with
                                                      | zero => exact absurd HA.out (by simp [catenarylaw18_ChooseKeeps.j5])
                                                      | succ kj52 =>
                                                        have H := HA.out
                                                        clear HA
                                                        simp only [catenarylaw18_ChooseKeeps.j5] at H
                                                        by_cases c77 : x79_52 = true
                                                        · subst c77
                                                          have H1 : (catenarylaw18_ChooseKeeps.l4 kj52 l0 a1 x9_3 true false l0 (l0.length : Int) x40_2 ((rd_T30 l0 x40_2).f5) (((rd_T30 l0 x40_2).f5).length : Int) x47_3 l0 (l0.length : Int) x57_4 ((rd_T30 l0 x57_4).f5) (((rd_T30 l0 x57_4).f5).length : Int) (wrap64 (x64_5 + 1)) t238 t239 t240 t243 ((rd_T45 ((rd_T30 l0 x40_2).f5) x47_3).f0) ((rd_T45 ((rd_T30 l0 x40_2).f5) x47_3).f1.f0) ((rd_T45 ((rd_T30 l0 x40_2).f5) x47_3).f1.f1) ((rd_T45 ((rd_T30 l0 x40_2).f5) x47_3).f2.f0) ((rd_T45 ((rd_T30 l0 x40_2).f5) x47_3).f2.f1) ((rd_T45 ((rd_T30 l0 x40_2).f5) x47_3).f2.f2) ((rd_T45 ((rd_T30 l0 x40_2).f5) x47_3).f2.f3) ((rd_T45 ((rd_T30 l0 x40_2).f5) x47_3).f3)) = some r := by rw [if_pos rfl] at H; exact H
                                                          clear H
                                                          have H := H1
                                                          clear H1
                                                          have H' := Aside0.mk H
                                                          clear H
                                                          go_wp2
                                                          go_roundg kj52
                                                          case measure => have := HK1.out; have := HK2.out; have := HK3.out; have := HK4.out; have := HK5.out; have := HJ52.out; omega
                                                          case rel => exact ⟨(false), (wrap64 (x64_5 + 1)), (by first | rfl | (simp; done) | (simp [*]; done)), (by first | rfl | (simp; done) | (simp [*]; done)), H', ⟨by have := HK1.out; have := HK2.out; have := HK3.out; have := HK4.out; have := HK5.out; have := HJ52.out; omega⟩, ⟨by (with_reducible repeat (first | apply Kd.R_alloc | apply Kd.R_drewN | apply Kd.R_drew)); exact HO_247002.out⟩, ⟨by (with_reducible repeat (first | apply Kd.R_alloc | apply Kd.R_drewN | apply Kd.R_drew)); exact HO_247003.out⟩, ⟨by (with_reducible repeat (first | refine blk_drewN ?_ _ | refine blk_drew ?_ | refine blk_alloc ?_ _)); exact BK246.out⟩, ⟨by (with_reducible repeat (first | refine blk_drewN ?_ _ | refine blk_drew ?_ | refine blk_alloc ?_ _)); exact BK248.out⟩, ⟨by (with_reducible repeat (first | refine blk_drewN ?_ _ | refine blk_drew ?_ | refine blk_alloc ?_ _)); exact BK250.out⟩, ⟨by (with_reducible repeat (first | refine blk_drewN ?_ _ | refine blk_drew ?_ | refine blk_alloc ?_ _)); exact BK252.out⟩, ⟨by repeat (first | (with_reducible first | exact HB.out | apply below_alloc | apply pw_below_drewN | apply below_drew1 | refine below_set ?_ GE246.out | refine below_set ?_ GE248.out | refine below_set ?_ GE250.out | refine below_set ?_ GE252.out | refine below_set ?_ GE254.out) | exact HB.out)⟩⟩
                                                        · replace c77 := Bool.eq_false_iff.mpr c77
                                                          subst c77
                                                          have H1 : (catenarylaw18_ChooseKeeps.l4 kj52 l0 a1 x9_3 true x15_5 l0 (l0.length : Int) x40_2 ((rd_T30 l0 x40_2).f5) (((rd_T30 l0 x40_2).f5).length : Int) x47_3 l0 (l0.length : Int) x57_4 ((rd_T30 l0 x57_4).f5) (((rd_T30 l0 x57_4).f5).length : Int) (wrap64 (x64_5 + 1)) t238 t239 t240 t243 ((rd_T45 ((rd_T30 l0 x40_2).f5) x47_3).f0) ((rd_T45 ((rd_T30 l0 x40_2).f5) x47_3).f1.f0) ((rd_T45 ((rd_T30 l0 x40_2).f5) x47_3).f1.f1) ((rd_T45 ((rd_T30 l0 x40_2).f5) x47_3).f2.f0) ((rd_T45 ((rd_T30 l0 x40_2).f5) x47_3).f2.f1) ((rd_T45 ((rd_T30 l0 x40_2).f5) x47_3).f2.f2) ((rd_T45 ((rd_T30 l0 x40_2).f5) x47_3).f2.f3) ((rd_T45 ((rd_T30 l0 x40_2).f5) x47_3).f3)) = some r := by rw [if_neg (show ¬ (false = true) by decide)] at H; exact H
                                                          clear H
                                                          have H := H1
                                                          clear H1
                                                          have H' := Aside0.mk H
                                                          clear H
                                                          go_wp2
                                                          go_roundg kj52
                                                          case measure => have := HK1.out; have := HK2.out; have := HK3.out; have := HK4.out; have := HK5.out; have := HJ52.out; omega
                                                          case rel => exact ⟨(x15_5), (wrap64 (x64_5 + 1)), (by first | rfl | (simp; done) | (simp [*]; done)), (by first | rfl | (simp; done) | (simp [*]; done)), H', ⟨by have := HK1.out; have := HK2.out; have := HK3.out; have := HK4.out; have := HK5.out; have := HJ52.out; omega⟩, ⟨by (with_reducible repeat (first | apply Kd.R_alloc | apply Kd.R_drewN | apply Kd.R_drew)); exact HO_247002.out⟩, ⟨by (with_reducible repeat (first | apply Kd.R_alloc | apply Kd.R_drewN | apply Kd.R_drew)); exact HO_247003.out⟩, ⟨by (with_reducible repeat (first | refine blk_drewN ?_ _ | refine blk_drew ?_ | refine blk_alloc ?_ _)); exact BK246.out⟩, ⟨by (with_reducible repeat (first | refine blk_drewN ?_ _ | refine blk_drew ?_ | refine blk_alloc ?_ _)); exact BK248.out⟩, ⟨by (with_reducible repeat (first | refine blk_drewN ?_ _ | refine blk_drew ?_ | refine blk_alloc ?_ _)); exact BK250.out⟩, ⟨by (with_reducible repeat (first | refine blk_drewN ?_ _ | refine blk_drew ?_ | refine blk_alloc ?_ _)); exact BK252.out⟩, ⟨by repeat (first | (with_reducible first | exact HB.out | apply below_alloc | apply pw_below_drewN | apply below_drew1 | refine below_set ?_ GE246.out | refine below_set ?_ GE248.out | refine below_set ?_ GE250.out | refine below_set ?_ GE252.out | refine below_set ?_ GE254.out) | exact HB.out)⟩⟩
                                                  · rw [if_neg c52] at H
                                                    exact absurd H (by simp)
                                                · rw [if_neg c51] at H
                                                  exact absurd H (by simp)
                                              · rw [if_neg c50] at H
                                                have c50b0 : decide (x64_5 < (((rd_T30 l0 x57_4).f5).length : Int)) = false := decide_eq_false c50
                                                clear c50
                                                have H' := Aside0.mk H
                                                clear H
                                                go_wp2
                                                go_roundg k5
                                                case measure => have := HK1.out; have := HK2.out; have := HK3.out; have := HK4.out; have := HK5.out; omega
                                                case rel => exact ⟨(x15_5), (wrap64 (x57_4 + 1)), (by first | rfl | (simp; done) | (simp [*]; done)), (by first | rfl | (simp; done) | (simp [*]; done)), H', ⟨by have := HK1.out; have := HK2.out; have := HK3.out; have := HK4.out; have := HK5.out; omega⟩, ⟨by (with_reducible repeat (first | apply Kd.R_alloc | apply Kd.R_drewN | apply Kd.R_drew)); exact HO_247002.out⟩, ⟨by (with_reducible repeat (first | apply Kd.R_alloc | apply Kd.R_drewN | apply Kd.R_drew)); exact HO_247003.out⟩, ⟨by (with_reducible repeat (first | refine blk_drewN ?_ _ | refine blk_drew ?_ | refine blk_alloc ?_ _)); exact BK246.out⟩, ⟨by (with_reducible repeat (first | refine blk_drewN ?_ _ | refine blk_drew ?_ | refine blk_alloc ?_ _)); exact BK248.out⟩, ⟨by (with_reducible repeat (first | refine blk_drewN ?_ _ | refine blk_drew ?_ | refine blk_alloc ?_ _)); exact BK250.out⟩, ⟨by repeat (first | (with_reducible first | exact HB.out | apply below_alloc | apply pw_below_drewN | apply below_drew1 | refine below_set ?_ GE246.out | refine below_set ?_ GE248.out | refine below_set ?_ GE250.out | refine below_set ?_ GE252.out) | exact HB.out)⟩⟩
                                        · rw [if_neg c44] at H
                                          exact absurd H (by simp)
                                      · rw [if_neg c43] at H
                                        exact absurd H (by simp)
                                    · rw [if_neg c42] at H
                                      have c42b0 : decide (x57_4 < (l0.length : Int)) = false := decide_eq_false c42
                                      clear c42
                                      by_cases c78 : x9_3 = true
                                      · subst c78
                                        have H1 : (catenarylaw18_ChooseKeeps.l2 k4 l0 a1 true true l0 (l0.length : Int) x40_2 ((rd_T30 l0 x40_2).f5) (((rd_T30 l0 x40_2).f5).length : Int) (wrap64 (x47_3 + 1)) t238 t239 t240 t243) = some r := by rw [if_pos rfl] at H; exact H
                                        clear H
                                        have H := H1
                                        clear H1
                                        have H' := Aside0.mk H
                                        clear H
                                        go_wp2
                                        go_roundg k4
                                        case measure => have := HK1.out; have := HK2.out; have := HK3.out; have := HK4.out; omega
                                        case rel => exact ⟨(true), (true), (wrap64 (x47_3 + 1)), (by first | rfl | (simp; done) | (simp [*]; done)), (by first | rfl | (simp; done) | (simp [*]; done)), (by first | rfl | (simp; done) | (simp [*]; done)), H', ⟨by have := HK1.out; have := HK2.out; have := HK3.out; have := HK4.out; omega⟩, ⟨by (with_reducible repeat (first | apply Kd.R_alloc | apply Kd.R_drewN | apply Kd.R_drew)); exact HO_247002.out⟩, ⟨by (with_reducible repeat (first | apply Kd.R_alloc | apply Kd.R_drewN | apply Kd.R_drew)); exact HO_247003.out⟩, ⟨by (with_reducible repeat (first | refine blk_drewN ?_ _ | refine blk_drew ?_ | refine blk_alloc ?_ _)); exact BK246.out⟩, ⟨by (with_reducible repeat (first | refine blk_drewN ?_ _ | refine blk_drew ?_ | refine blk_alloc ?_ _)); exact BK248.out⟩, ⟨by repeat (first | (with_reducible first | exact HB.out | apply below_alloc | apply pw_below_drewN | apply below_drew1 | refine below_set ?_ GE246.out | refine below_set ?_ GE248.out | refine below_set ?_ GE250.out) | exact HB.out)⟩⟩
                                      · replace c78 := Bool.eq_false_iff.mpr c78
                                        subst c78
                                        have H1 : (if x15_4 = true then ((catenaryref05_SameReq.f t238 t239 t240 t243 ((rd_T45 ((rd_T30 l0 x40_2).f5) x47_3).f2.f0) ((rd_T45 ((rd_T30 l0 x40_2).f5) x47_3).f2.f1) ((rd_T45 ((rd_T30 l0 x40_2).f5) x47_3).f2.f2) ((rd_T45 ((rd_T30 l0 x40_2).f5) x47_3).f2.f3)).bind fun t256 => (catenarylaw18_ChooseKeeps.l2 k4 l0 a1 t256 true l0 (l0.length : Int) x40_2 ((rd_T30 l0 x40_2).f5) (((rd_T30 l0 x40_2).f5).length : Int) (wrap64 (x47_3 + 1)) t238 t239 t240 t243)) else (catenarylaw18_ChooseKeeps.l2 k4 l0 a1 false true l0 (l0.length : Int) x40_2 ((rd_T30 l0 x40_2).f5) (((rd_T30 l0 x40_2).f5).length : Int) (wrap64 (x47_3 + 1)) t238 t239 t240 t243)) = some r := by rw [if_neg (show ¬ (false = true) by decide)] at H; exact H
                                        clear H
                                        have H := H1
                                        clear H1
                                        by_cases c79 : x15_4 = true
                                        · subst c79
                                          have H1 : ((catenaryref05_SameReq.f t238 t239 t240 t243 ((rd_T45 ((rd_T30 l0 x40_2).f5) x47_3).f2.f0) ((rd_T45 ((rd_T30 l0 x40_2).f5) x47_3).f2.f1) ((rd_T45 ((rd_T30 l0 x40_2).f5) x47_3).f2.f2) ((rd_T45 ((rd_T30 l0 x40_2).f5) x47_3).f2.f3)).bind fun t256 => (catenarylaw18_ChooseKeeps.l2 k4 l0 a1 t256 true l0 (l0.length : Int) x40_2 ((rd_T30 l0 x40_2).f5) (((rd_T30 l0 x40_2).f5).length : Int) (wrap64 (x47_3 + 1)) t238 t239 t240 t243)) = some r := by rw [if_pos rfl] at H; exact H
                                          clear H
                                          have H := H1
                                          clear H1
                                          replace H := Option.bind_eq_some_iff.mp H
                                          obtain ⟨t256, A800, H⟩ := H
                                          replace H : (catenarylaw18_ChooseKeeps.l2 k4 l0 a1 t256 true l0 (l0.length : Int) x40_2 ((rd_T30 l0 x40_2).f5) (((rd_T30 l0 x40_2).f5).length : Int) (wrap64 (x47_3 + 1)) t238 t239 t240 t243) = some r := H
                                          have A80 := Aside0.mk A800
                                          clear A800
                                          have H' := Aside0.mk H
                                          clear H
                                          have hnb81 := NB246_248.out
                                          have hnc81 := NB248_246.out
                                          have hnb82 := NB246_250.out
                                          have hnc82 := NB250_246.out
                                          have hcz83_0 : wr.cell? ⟨gb246, 0, none⟩ = some (.int .i64 t238) := (blk_cell BK246.out 0).trans rfl
                                          have hcz83_1 : wr.cell? ⟨gb246, 1, none⟩ = some (.int .i64 t239) := (blk_cell BK246.out 1).trans rfl
                                          have hcz83_2 : wr.cell? ⟨gb246, 2, none⟩ = some (.slice Ao26 t240.length co26) := (blk_cell BK246.out 2).trans rfl
                                          have hcz83_3 : wr.cell? ⟨gb246, 3, none⟩ = some (.slice Ao27 t243.length co27) := (blk_cell BK246.out 3).trans rfl
                                          have hfz83_0 := blk_frozen BK246.out 0
                                          have hfz83_1 := blk_frozen BK246.out 1
                                          have hfz83_2 := blk_frozen BK246.out 2
                                          have hfz83_3 := blk_frozen BK246.out 3
                                          have hnb84 := NB250_248.out
                                          have hnc84 := NB248_250.out
                                          have hcz85_0 : wr.cell? ⟨gb250, 0, none⟩ = some (.int .i64 ((rd_T45 ((rd_T30 l0 x40_2).f5) x47_3).f0)) := (blk_cell BK250.out 0).trans rfl
                                          have hcz85_1 : wr.cell? ⟨gb250, 1, none⟩ = some (.int .i64 ((rd_T45 ((rd_T30 l0 x40_2).f5) x47_3).f1.f0)) := (blk_cell BK250.out 1).trans rfl
                                          have hcz85_2 : wr.cell? ⟨gb250, 2, none⟩ = some (.int .i64 ((rd_T45 ((rd_T30 l0 x40_2).f5) x47_3).f1.f1)) := (blk_cell BK250.out 2).trans rfl
                                          have hcz85_3 : wr.cell? ⟨gb250, 3, none⟩ = some (.int .i64 ((rd_T45 ((rd_T30 l0 x40_2).f5) x47_3).f2.f0)) := (blk_cell BK250.out 3).trans rfl
                                          have hcz85_4 : wr.cell? ⟨gb250, 4, none⟩ = some (.int .i64 ((rd_T45 ((rd_T30 l0 x40_2).f5) x47_3).f2.f1)) := (blk_cell BK250.out 4).trans rfl
                                          have hcz85_5 : wr.cell? ⟨gb250, 5, none⟩ = some (.slice A249_5 ((rd_T45 ((rd_T30 l0 x40_2).f5) x47_3).f2.f2).length c249_5) := (blk_cell BK250.out 5).trans rfl
                                          have hcz85_6 : wr.cell? ⟨gb250, 6, none⟩ = some (.slice A249_6 ((rd_T45 ((rd_T30 l0 x40_2).f5) x47_3).f2.f3).length c249_6) := (blk_cell BK250.out 6).trans rfl
                                          have hcz85_7 : wr.cell? ⟨gb250, 7, none⟩ = some (.slice A249_7 ((rd_T45 ((rd_T30 l0 x40_2).f5) x47_3).f3).length c249_7) := (blk_cell BK250.out 7).trans rfl
                                          have hfz85_0 := blk_frozen BK250.out 0
                                          have hfz85_1 := blk_frozen BK250.out 1
                                          have hfz85_2 := blk_frozen BK250.out 2
                                          have hfz85_3 := blk_frozen BK250.out 3
                                          have hfz85_4 := blk_frozen BK250.out 4
                                          have hfz85_5 := blk_frozen BK250.out 5
                                          have hfz85_6 := blk_frozen BK250.out 6
                                          have hfz85_7 := blk_frozen BK250.out 7
                                          go_wp2_with (first | (go_at_call 11; (with_reducible refine (catenaryref05_SameReq.calls t238 t239 _ _ t240 _ _ t243 ((rd_T45 ((rd_T30 l0 x40_2).f5) x47_3).f2.f0) ((rd_T45 ((rd_T30 l0 x40_2).f5) x47_3).f2.f1) _ _ ((rd_T45 ((rd_T30 l0 x40_2).f5) x47_3).f2.f2) _ _ ((rd_T45 ((rd_T30 l0 x40_2).f5) x47_3).f2.f3) t256 _ ?side1 ?side2 ?side3 ?side4 ?side5 ?side6 ?side7 ?side8 A80.out).mono ?_); (case side1 => repeat (first | exact (Kd.R_reads' HO_247002.out).2.2 | (with_reducible refine Kd.C_alloc ?_ _) | (with_reducible refine Kd.C_drewN ?_ _) | (with_reducible refine Kd.C_drew ?_))); (case side2 => exact (Kd.R_reads' HO_247002.out).2.1); (case side3 => repeat (first | exact (Kd.R_reads' HO_247003.out).2.2 | (with_reducible refine Kd.C_alloc ?_ _) | (with_reducible refine Kd.C_drewN ?_ _) | (with_reducible refine Kd.C_drew ?_))); (case side4 => exact (Kd.R_reads' HO_247003.out).2.1); (case side5 => repeat (first | exact (Kd.C_below HR249_5.out HB.out) | (with_reducible refine Kd.C_alloc ?_ _) | (with_reducible refine Kd.C_drewN ?_ _) | (with_reducible refine Kd.C_drew ?_))); (case side6 => exact HC249_5.out); (case side7 => repeat (first | exact (Kd.C_below HR249_6.out HB.out) | (with_reducible refine Kd.C_alloc ?_ _) | (with_reducible refine Kd.C_drewN ?_ _) | (with_reducible refine Kd.C_drew ?_))); (case side8 => exact HC249_6.out); rintro e w86 ⟨rfl, hb⟩; have n0_ := Aside0.mk (Kd.R_below (by (with_reducible repeat (first | apply Kd.R_alloc | apply Kd.R_drewN | apply Kd.R_drew)); exact HO_247002.out) hb); have n1_ := Aside0.mk (Kd.R_below (by (with_reducible repeat (first | apply Kd.R_alloc | apply Kd.R_drewN | apply Kd.R_drew)); exact HO_247003.out) hb); have n2_ := Aside0.mk (blk_below (g := gb246) (o := .cells #[.int .i64 t238, .int .i64 t239, .slice Ao26 t240.length co26, .slice Ao27 t243.length co27] 36 (0, 0)) (by (with_reducible repeat (first | refine blk_drewN ?_ _ | refine blk_drew ?_ | refine blk_alloc ?_ _)); exact BK246.out) hb); have n3_ := Aside0.mk (blk_below (g := gb248) (o := .cells #[.int .i64 ((rd_T30 l0 x40_2).f0.f0), .int .i64 ((rd_T30 l0 x40_2).f0.f1), .int .i64 ((rd_T30 l0 x40_2).f1), .int .i64 ((rd_T30 l0 x40_2).f2), .slice A247_4 ((rd_T30 l0 x40_2).f3).length c247_4, .slice A247_5 ((rd_T30 l0 x40_2).f4).length c247_5, .slice (some ad249) ((rd_T30 l0 x40_2).f5).length c247_6, .slice A247_7 ((rd_T30 l0 x40_2).f6).length c247_7] 30 (0, 0)) (by (with_reducible repeat (first | refine blk_drewN ?_ _ | refine blk_drew ?_ | refine blk_alloc ?_ _)); exact BK248.out) hb); have n4_ := Aside0.mk (blk_below (g := gb250) (o := .cells #[.int .i64 ((rd_T45 ((rd_T30 l0 x40_2).f5) x47_3).f0), .int .i64 ((rd_T45 ((rd_T30 l0 x40_2).f5) x47_3).f1.f0), .int .i64 ((rd_T45 ((rd_T30 l0 x40_2).f5) x47_3).f1.f1), .int .i64 ((rd_T45 ((rd_T30 l0 x40_2).f5) x47_3).f2.f0), .int .i64 ((rd_T45 ((rd_T30 l0 x40_2).f5) x47_3).f2.f1), .slice A249_5 ((rd_T45 ((rd_T30 l0 x40_2).f5) x47_3).f2.f2).length c249_5, .slice A249_6 ((rd_T45 ((rd_T30 l0 x40_2).f5) x47_3).f2.f3).length c249_6, .slice A249_7 ((rd_T45 ((rd_T30 l0 x40_2).f5) x47_3).f3).length c249_7] 45 (0, 0)) (by (with_reducible repeat (first | refine blk_drewN ?_ _ | refine blk_drew ?_ | refine blk_alloc ?_ _)); exact BK250.out) hb); have n5_ := Aside0.mk (below_step (by repeat (first | (with_reducible first | exact HB.out | apply below_alloc | apply pw_below_drewN | apply below_drew1 | refine below_set ?_ GE246.out | refine below_set ?_ GE248.out | refine below_set ?_ GE250.out) | exact HB.out)) hb); clear HO_247002; clear HO_247003; clear BK246; clear BK248; clear BK250; clear HB; have HO_247002 := n0_; have HO_247003 := n1_; have BK246 := n2_; have BK248 := n3_; have BK250 := n4_; have HB := n5_; clear n0_ n1_ n2_ n3_ n4_ n5_; (try clear hb); (try clear hb2); (try clear hk); (try clear hi)))
                                          go_roundg k4
                                          case measure => have := HK1.out; have := HK2.out; have := HK3.out; have := HK4.out; omega
                                          case rel => exact ⟨(t256), (true), (wrap64 (x47_3 + 1)), (by first | rfl | (simp; done) | (simp [*]; done)), (by first | rfl | (simp; done) | (simp [*]; done)), (by first | rfl | (simp; done) | (simp [*]; done)), H', ⟨by have := HK1.out; have := HK2.out; have := HK3.out; have := HK4.out; omega⟩, ⟨by (with_reducible repeat (first | apply Kd.R_alloc | apply Kd.R_drewN | apply Kd.R_drew)); exact HO_247002.out⟩, ⟨by (with_reducible repeat (first | apply Kd.R_alloc | apply Kd.R_drewN | apply Kd.R_drew)); exact HO_247003.out⟩, ⟨by (with_reducible repeat (first | refine blk_drewN ?_ _ | refine blk_drew ?_ | refine blk_alloc ?_ _)); exact BK246.out⟩, ⟨by (with_reducible repeat (first | refine blk_drewN ?_ _ | refine blk_drew ?_ | refine blk_alloc ?_ _)); exact BK248.out⟩, ⟨by repeat (first | (with_reducible first | exact HB.out | apply below_alloc | apply pw_below_drewN | apply below_drew1 | refine below_set ?_ GE246.out | refine below_set ?_ GE248.out | refine below_set ?_ GE250.out) | exact HB.out)⟩⟩
                                        · replace c79 := Bool.eq_false_iff.mpr c79
                                          subst c79
                                          have H1 : (catenarylaw18_ChooseKeeps.l2 k4 l0 a1 false true l0 (l0.length : Int) x40_2 ((rd_T30 l0 x40_2).f5) (((rd_T30 l0 x40_2).f5).length : Int) (wrap64 (x47_3 + 1)) t238 t239 t240 t243) = some r := by rw [if_neg (show ¬ (false = true) by decide)] at H; exact H
                                          clear H
                                          have H := H1
                                          clear H1
                                          have H' := Aside0.mk H
                                          clear H
                                          go_wp2
                                          go_roundg k4
                                          case measure => have := HK1.out; have := HK2.out; have := HK3.out; have := HK4.out; omega
                                          case rel => exact ⟨(false), (true), (wrap64 (x47_3 + 1)), (by first | rfl | (simp; done) | (simp [*]; done)), (by first | rfl | (simp; done) | (simp [*]; done)), (by first | rfl | (simp; done) | (simp [*]; done)), H', ⟨by have := HK1.out; have := HK2.out; have := HK3.out; have := HK4.out; omega⟩, ⟨by (with_reducible repeat (first | apply Kd.R_alloc | apply Kd.R_drewN | apply Kd.R_drew)); exact HO_247002.out⟩, ⟨by (with_reducible repeat (first | apply Kd.R_alloc | apply Kd.R_drewN | apply Kd.R_drew)); exact HO_247003.out⟩, ⟨by (with_reducible repeat (first | refine blk_drewN ?_ _ | refine blk_drew ?_ | refine blk_alloc ?_ _)); exact BK246.out⟩, ⟨by (with_reducible repeat (first | refine blk_drewN ?_ _ | refine blk_drew ?_ | refine blk_alloc ?_ _)); exact BK248.out⟩, ⟨by repeat (first | (with_reducible first | exact HB.out | apply below_alloc | apply pw_below_drewN | apply below_drew1 | refine below_set ?_ GE246.out | refine below_set ?_ GE248.out | refine below_set ?_ GE250.out) | exact HB.out)⟩⟩
                              · rw [if_neg c37] at H
                                have c37b0 : (((rd_T45 ((rd_T30 l0 x40_2).f5) x47_3).f0) == a1) = false := beq_eq_false_iff_ne.mpr c37
                                have c37b1 : (((rd_T45 ((rd_T30 l0 x40_2).f5) x47_3).f0) != a1) = true := bne_iff_ne.mpr c37
                                have H' := Aside0.mk H
                                clear H
                                have p249 : 0 ≤ (x47_3 : Int) := of_decide_eq_true (by first | (with_reducible assumption) | assumption)
                                have q249 : x47_3 < (((rd_T30 l0 x40_2).f5).length : Int) := of_decide_eq_true (by first | (with_reducible assumption) | assumption)
                                obtain ⟨ad249, A249_5, c249_5, A249_6, c249_6, A249_7, c249_7, e249, hx249_0, hx249_1, hx249_2, hx249_3, hx249_4, hx249_5, hx249_6, hx249_7, hl249_5, hi249_5, hl249_6, hi249_6, hl249_7, hi249_7⟩ := at_T45 HR247_6.out x47_3 p249 q249
                                cases e249
                                replace hx249_0 := (HB.out.cell (World.block_lt_of_cell? w _ hx249_0)).trans hx249_0
                                replace hx249_1 := (HB.out.cell (World.block_lt_of_cell? w _ hx249_1)).trans hx249_1
                                replace hx249_2 := (HB.out.cell (World.block_lt_of_cell? w _ hx249_2)).trans hx249_2
                                replace hx249_3 := (HB.out.cell (World.block_lt_of_cell? w _ hx249_3)).trans hx249_3
                                replace hx249_4 := (HB.out.cell (World.block_lt_of_cell? w _ hx249_4)).trans hx249_4
                                replace hx249_5 := (HB.out.cell (World.block_lt_of_cell? w _ hx249_5)).trans hx249_5
                                replace hx249_6 := (HB.out.cell (World.block_lt_of_cell? w _ hx249_6)).trans hx249_6
                                replace hx249_7 := (HB.out.cell (World.block_lt_of_cell? w _ hx249_7)).trans hx249_7
                                have HR249_5 := Aside0.mk hi249_5
                                have HC249_5 := Aside0.mk hl249_5
                                clear hi249_5 hl249_5
                                have HR249_6 := Aside0.mk hi249_6
                                have HC249_6 := Aside0.mk hl249_6
                                clear hi249_6 hl249_6
                                have HR249_7 := Aside0.mk hi249_7
                                have HC249_7 := Aside0.mk hl249_7
                                clear hi249_7 hl249_7
                                replace p249 := eq_true p249
                                replace q249 := eq_true q249
                                go_wp2_with (first | ((with_reducible refine gate_dst (N := 14) rfl ?_); refine box_event ?hg (N := 14) ?hd (cs := #[.int .i64 0, .int .i64 0, .int .i64 0, .int .i64 0, .int .i64 0, .slice none 0 0, .slice none 0 0, .slice none 0 0]) (t := 45) ?hr ?_; (case hd => rfl); (case hg => rfl); (case hr => first | (go_simp; done) | (go_simp; rfl)); intro gb250 hg w87 hbox hb; have n0_ := Aside0.mk (Kd.R_below (by (with_reducible repeat (first | apply Kd.R_alloc | apply Kd.R_drewN | apply Kd.R_drew)); exact HO_247002.out) hb); have n1_ := Aside0.mk (Kd.R_below (by (with_reducible repeat (first | apply Kd.R_alloc | apply Kd.R_drewN | apply Kd.R_drew)); exact HO_247003.out) hb); have n2_ := Aside0.mk (blk_below (g := gb246) (o := .cells #[.int .i64 t238, .int .i64 t239, .slice Ao26 t240.length co26, .slice Ao27 t243.length co27] 36 (0, 0)) (by (with_reducible repeat (first | refine blk_drewN ?_ _ | refine blk_drew ?_ | refine blk_alloc ?_ _)); exact BK246.out) hb); have n3_ := Aside0.mk (blk_below (g := gb248) (o := .cells #[.int .i64 ((rd_T30 l0 x40_2).f0.f0), .int .i64 ((rd_T30 l0 x40_2).f0.f1), .int .i64 ((rd_T30 l0 x40_2).f1), .int .i64 ((rd_T30 l0 x40_2).f2), .slice A247_4 ((rd_T30 l0 x40_2).f3).length c247_4, .slice A247_5 ((rd_T30 l0 x40_2).f4).length c247_5, .slice (some ad249) ((rd_T30 l0 x40_2).f5).length c247_6, .slice A247_7 ((rd_T30 l0 x40_2).f6).length c247_7] 30 (0, 0)) (by (with_reducible repeat (first | refine blk_drewN ?_ _ | refine blk_drew ?_ | refine blk_alloc ?_ _)); exact BK248.out) hb); have n4_ := Aside0.mk (below_step (by repeat (first | (with_reducible first | exact HB.out | apply below_alloc | apply pw_below_drewN | apply below_drew1 | refine below_set ?_ GE246.out | refine below_set ?_ GE248.out) | exact HB.out)) hb); have n5_ := Aside0.mk (hbox); have n6_ := Aside0.mk ((by rw [hg]; exact (below_size (by repeat (first | (with_reducible first | exact HB.out | apply below_alloc | apply pw_below_drewN | apply below_drew1 | refine below_set ?_ GE246.out | refine below_set ?_ GE248.out) | exact HB.out))) : w.heap.size ≤ gb250)); have n7_ := Aside0.mk ((by rw [hg]; exact (below_size (by repeat (first | (with_reducible first | exact HB.out | apply below_alloc | apply pw_below_drewN | apply below_drew1 | refine below_set ?_ GE246.out | refine below_set ?_ GE248.out) | exact HB.out))) : w.heap.size ≤ gb250)); have n8_ := Aside0.mk ((by rw [hg]; exact Nat.ne_of_lt (blk_lt (g := gb246) (o := .cells #[.int .i64 t238, .int .i64 t239, .slice Ao26 t240.length co26, .slice Ao27 t243.length co27] 36 (0, 0)) (by (with_reducible repeat (first | refine blk_drewN ?_ _ | refine blk_drew ?_ | refine blk_alloc ?_ _)); exact BK246.out)) : gb246 ≠ gb250)); have n9_ := Aside0.mk ((by rw [hg]; exact Nat.ne_of_gt (blk_lt (g := gb246) (o := .cells #[.int .i64 t238, .int .i64 t239, .slice Ao26 t240.length co26, .slice Ao27 t243.length co27] 36 (0, 0)) (by (with_reducible repeat (first | refine blk_drewN ?_ _ | refine blk_drew ?_ | refine blk_alloc ?_ _)); exact BK246.out)) : gb250 ≠ gb246)); have n10_ := Aside0.mk ((by rw [hg]; exact Nat.ne_of_lt (blk_lt (g := gb248) (o := .cells #[.int .i64 ((rd_T30 l0 x40_2).f0.f0), .int .i64 ((rd_T30 l0 x40_2).f0.f1), .int .i64 ((rd_T30 l0 x40_2).f1), .int .i64 ((rd_T30 l0 x40_2).f2), .slice A247_4 ((rd_T30 l0 x40_2).f3).length c247_4, .slice A247_5 ((rd_T30 l0 x40_2).f4).length c247_5, .slice (some ad249) ((rd_T30 l0 x40_2).f5).length c247_6, .slice A247_7 ((rd_T30 l0 x40_2).f6).length c247_7] 30 (0, 0)) (by (with_reducible repeat (first | refine blk_drewN ?_ _ | refine blk_drew ?_ | refine blk_alloc ?_ _)); exact BK248.out)) : gb248 ≠ gb250)); have n11_ := Aside0.mk ((by rw [hg]; exact Nat.ne_of_gt (blk_lt (g := gb248) (o := .cells #[.int .i64 ((rd_T30 l0 x40_2).f0.f0), .int .i64 ((rd_T30 l0 x40_2).f0.f1), .int .i64 ((rd_T30 l0 x40_2).f1), .int .i64 ((rd_T30 l0 x40_2).f2), .slice A247_4 ((rd_T30 l0 x40_2).f3).length c247_4, .slice A247_5 ((rd_T30 l0 x40_2).f4).length c247_5, .slice (some ad249) ((rd_T30 l0 x40_2).f5).length c247_6, .slice A247_7 ((rd_T30 l0 x40_2).f6).length c247_7] 30 (0, 0)) (by (with_reducible repeat (first | refine blk_drewN ?_ _ | refine blk_drew ?_ | refine blk_alloc ?_ _)); exact BK248.out)) : gb250 ≠ gb248)); clear HO_247002; clear HO_247003; clear BK246; clear BK248; clear HB; have HO_247002 := n0_; have HO_247003 := n1_; have BK246 := n2_; have BK248 := n3_; have HB := n4_; have BK250 := n5_; have GW250 := n6_; have GE250 := n7_; have NB246_250 := n8_; have NB250_246 := n9_; have NB248_250 := n10_; have NB250_248 := n11_; clear n0_ n1_ n2_ n3_ n4_ n5_ n6_ n7_ n8_ n9_ n10_ n11_; clear hb hbox hg; have hnb88 := NB250_246.out; have hnc88 := NB246_250.out; have hnb89 := NB250_248.out; have hnc89 := NB248_250.out; have hcz90_0 : w87.cell? ⟨gb250, 0, none⟩ = some (.int .i64 0) := (blk_cell BK250.out 0).trans rfl; have hcz90_1 : w87.cell? ⟨gb250, 1, none⟩ = some (.int .i64 0) := (blk_cell BK250.out 1).trans rfl; have hcz90_2 : w87.cell? ⟨gb250, 2, none⟩ = some (.int .i64 0) := (blk_cell BK250.out 2).trans rfl; have hcz90_3 : w87.cell? ⟨gb250, 3, none⟩ = some (.int .i64 0) := (blk_cell BK250.out 3).trans rfl; have hcz90_4 : w87.cell? ⟨gb250, 4, none⟩ = some (.int .i64 0) := (blk_cell BK250.out 4).trans rfl; have hcz90_5 : w87.cell? ⟨gb250, 5, none⟩ = some (.slice none 0 0) := (blk_cell BK250.out 5).trans rfl; have hcz90_6 : w87.cell? ⟨gb250, 6, none⟩ = some (.slice none 0 0) := (blk_cell BK250.out 6).trans rfl; have hcz90_7 : w87.cell? ⟨gb250, 7, none⟩ = some (.slice none 0 0) := (blk_cell BK250.out 7).trans rfl; have hfz90_0 := blk_frozen BK250.out 0; have hfz90_1 := blk_frozen BK250.out 1; have hfz90_2 := blk_frozen BK250.out 2; have hfz90_3 := blk_frozen BK250.out 3; have hfz90_4 := blk_frozen BK250.out 4; have hfz90_5 := blk_frozen BK250.out 5; have hfz90_6 := blk_frozen BK250.out 6; have hfz90_7 := blk_frozen BK250.out 7))
                                go_roundg k3
                                case measure => have := HK1.out; have := HK2.out; have := HK3.out; omega
                                case rel => exact ⟨(x9_3), (x10_3), (wrap64 (x47_3 + 1)), (by first | rfl | (simp; done) | (simp [*]; done)), (by first | rfl | (simp; done) | (simp [*]; done)), (by first | rfl | (simp; done) | (simp [*]; done)), H', ⟨by have := HK1.out; have := HK2.out; have := HK3.out; omega⟩, ⟨by (with_reducible repeat (first | apply Kd.R_alloc | apply Kd.R_drewN | apply Kd.R_drew)); exact Kd.R_mono (Kd.R_far (p := ⟨gb250, 7, none⟩) (Kd.R_far (p := ⟨gb250, 6, none⟩) (Kd.R_far (p := ⟨gb250, 5, none⟩) (Kd.R_far (p := ⟨gb250, 4, none⟩) (Kd.R_far (p := ⟨gb250, 3, none⟩) (Kd.R_far (p := ⟨gb250, 2, none⟩) (Kd.R_far (p := ⟨gb250, 1, none⟩) (Kd.R_far (p := ⟨gb250, 0, none⟩) (Kd.R_types HO_247002.out BK250.out (by decide)) (fun _ hk => hk.2) (.int .i64 ((rd_T45 ((rd_T30 l0 x40_2).f5) x47_3).f0))) (fun _ hk => hk.2) (.int .i64 ((rd_T45 ((rd_T30 l0 x40_2).f5) x47_3).f1.f0))) (fun _ hk => hk.2) (.int .i64 ((rd_T45 ((rd_T30 l0 x40_2).f5) x47_3).f1.f1))) (fun _ hk => hk.2) (.int .i64 ((rd_T45 ((rd_T30 l0 x40_2).f5) x47_3).f2.f0))) (fun _ hk => hk.2) (.int .i64 ((rd_T45 ((rd_T30 l0 x40_2).f5) x47_3).f2.f1))) (fun _ hk => hk.2) (.slice A249_5 ((rd_T45 ((rd_T30 l0 x40_2).f5) x47_3).f2.f2).length c249_5)) (fun _ hk => hk.2) (.slice A249_6 ((rd_T45 ((rd_T30 l0 x40_2).f5) x47_3).f2.f3).length c249_6)) (fun _ hk => hk.2) (.slice A249_7 ((rd_T45 ((rd_T30 l0 x40_2).f5) x47_3).f3).length c249_7)) (fun _ hk => hk.1)⟩, ⟨by (with_reducible repeat (first | apply Kd.R_alloc | apply Kd.R_drewN | apply Kd.R_drew)); exact Kd.R_mono (Kd.R_far (p := ⟨gb250, 7, none⟩) (Kd.R_far (p := ⟨gb250, 6, none⟩) (Kd.R_far (p := ⟨gb250, 5, none⟩) (Kd.R_far (p := ⟨gb250, 4, none⟩) (Kd.R_far (p := ⟨gb250, 3, none⟩) (Kd.R_far (p := ⟨gb250, 2, none⟩) (Kd.R_far (p := ⟨gb250, 1, none⟩) (Kd.R_far (p := ⟨gb250, 0, none⟩) (Kd.R_types HO_247003.out BK250.out (by decide)) (fun _ hk => hk.2) (.int .i64 ((rd_T45 ((rd_T30 l0 x40_2).f5) x47_3).f0))) (fun _ hk => hk.2) (.int .i64 ((rd_T45 ((rd_T30 l0 x40_2).f5) x47_3).f1.f0))) (fun _ hk => hk.2) (.int .i64 ((rd_T45 ((rd_T30 l0 x40_2).f5) x47_3).f1.f1))) (fun _ hk => hk.2) (.int .i64 ((rd_T45 ((rd_T30 l0 x40_2).f5) x47_3).f2.f0))) (fun _ hk => hk.2) (.int .i64 ((rd_T45 ((rd_T30 l0 x40_2).f5) x47_3).f2.f1))) (fun _ hk => hk.2) (.slice A249_5 ((rd_T45 ((rd_T30 l0 x40_2).f5) x47_3).f2.f2).length c249_5)) (fun _ hk => hk.2) (.slice A249_6 ((rd_T45 ((rd_T30 l0 x40_2).f5) x47_3).f2.f3).length c249_6)) (fun _ hk => hk.2) (.slice A249_7 ((rd_T45 ((rd_T30 l0 x40_2).f5) x47_3).f3).length c249_7)) (fun _ hk => hk.1)⟩, ⟨by (with_reducible repeat (first | refine blk_drewN ?_ _ | refine blk_drew ?_ | refine blk_alloc ?_ _)); refine blk_far ?_ NB246_250.out _; (with_reducible repeat (first | refine blk_drewN ?_ _ | refine blk_drew ?_ | refine blk_alloc ?_ _)); refine blk_far ?_ NB246_250.out _; (with_reducible repeat (first | refine blk_drewN ?_ _ | refine blk_drew ?_ | refine blk_alloc ?_ _)); refine blk_far ?_ NB246_250.out _; (with_reducible repeat (first | refine blk_drewN ?_ _ | refine blk_drew ?_ | refine blk_alloc ?_ _)); refine blk_far ?_ NB246_250.out _; (with_reducible repeat (first | refine blk_drewN ?_ _ | refine blk_drew ?_ | refine blk_alloc ?_ _)); refine blk_far ?_ NB246_250.out _; (with_reducible repeat (first | refine blk_drewN ?_ _ | refine blk_drew ?_ | refine blk_alloc ?_ _)); refine blk_far ?_ NB246_250.out _; (with_reducible repeat (first | refine blk_drewN ?_ _ | refine blk_drew ?_ | refine blk_alloc ?_ _)); refine blk_far ?_ NB246_250.out _; (with_reducible repeat (first | refine blk_drewN ?_ _ | refine blk_drew ?_ | refine blk_alloc ?_ _)); refine blk_far ?_ NB246_250.out _; (with_reducible repeat (first | refine blk_drewN ?_ _ | refine blk_drew ?_ | refine blk_alloc ?_ _)); exact BK246.out⟩, ⟨by (with_reducible repeat (first | refine blk_drewN ?_ _ | refine blk_drew ?_ | refine blk_alloc ?_ _)); refine blk_far ?_ NB248_250.out _; (with_reducible repeat (first | refine blk_drewN ?_ _ | refine blk_drew ?_ | refine blk_alloc ?_ _)); refine blk_far ?_ NB248_250.out _; (with_reducible repeat (first | refine blk_drewN ?_ _ | refine blk_drew ?_ | refine blk_alloc ?_ _)); refine blk_far ?_ NB248_250.out _; (with_reducible repeat (first | refine blk_drewN ?_ _ | refine blk_drew ?_ | refine blk_alloc ?_ _)); refine blk_far ?_ NB248_250.out _; (with_reducible repeat (first | refine blk_drewN ?_ _ | refine blk_drew ?_ | refine blk_alloc ?_ _)); refine blk_far ?_ NB248_250.out _; (with_reducible repeat (first | refine blk_drewN ?_ _ | refine blk_drew ?_ | refine blk_alloc ?_ _)); refine blk_far ?_ NB248_250.out _; (with_reducible repeat (first | refine blk_drewN ?_ _ | refine blk_drew ?_ | refine blk_alloc ?_ _)); refine blk_far ?_ NB248_250.out _; (with_reducible repeat (first | refine blk_drewN ?_ _ | refine blk_drew ?_ | refine blk_alloc ?_ _)); refine blk_far ?_ NB248_250.out _; (with_reducible repeat (first | refine blk_drewN ?_ _ | refine blk_drew ?_ | refine blk_alloc ?_ _)); exact BK248.out⟩, ⟨by repeat (first | (with_reducible first | exact HB.out | apply below_alloc | apply pw_below_drewN | apply below_drew1 | refine below_set ?_ GE246.out | refine below_set ?_ GE248.out | refine below_set ?_ GE250.out) | exact HB.out)⟩⟩
                            · rw [if_neg c36] at H
                              exact absurd H (by simp)
                          · rw [if_neg c35] at H
                            exact absurd H (by simp)
                        · rw [if_neg c34] at H
                          have c34b0 : decide (x47_3 < (((rd_T30 l0 x40_2).f5).length : Int)) = false := decide_eq_false c34
                          clear c34
                          have H' := Aside0.mk H
                          clear H
                          go_wp2
                          go_roundg k3
                          case measure => have := HK1.out; have := HK2.out; have := HK3.out; omega
                          case rel => exact ⟨(x9_3), (x10_3), (wrap64 (x40_2 + 1)), (by first | rfl | (simp; done) | (simp [*]; done)), (by first | rfl | (simp; done) | (simp [*]; done)), (by first | rfl | (simp; done) | (simp [*]; done)), H', ⟨by have := HK1.out; have := HK2.out; have := HK3.out; omega⟩, ⟨by (with_reducible repeat (first | apply Kd.R_alloc | apply Kd.R_drewN | apply Kd.R_drew)); exact HO_247002.out⟩, ⟨by (with_reducible repeat (first | apply Kd.R_alloc | apply Kd.R_drewN | apply Kd.R_drew)); exact HO_247003.out⟩, ⟨by (with_reducible repeat (first | refine blk_drewN ?_ _ | refine blk_drew ?_ | refine blk_alloc ?_ _)); exact BK246.out⟩, ⟨by repeat (first | (with_reducible first | exact HB.out | apply below_alloc | apply pw_below_drewN | apply below_drew1 | refine below_set ?_ GE246.out | refine below_set ?_ GE248.out) | exact HB.out)⟩⟩
                  · rw [if_neg c30] at H
                    exact absurd H (by simp)
                · rw [if_neg c29] at H
                  exact absurd H (by simp)
              · rw [if_neg c28] at H
                have c28b0 : decide (x40_2 < (l0.length : Int)) = false := decide_eq_false c28
                clear c28
                by_cases c91 : x10_2 = true
                · subst c91
                  have H1 : (some x9_2) = some r := by rw [if_pos rfl] at H; exact H
                  clear H
                  have H := H1
                  clear H1
                  obtain rfl := Option.some.inj H
                  go_wp2
                  go_ret
                  exact ⟨by first | rfl | (simp [errW_none, errW_some] <;> rfl) | (simp [*, errW_none, errW_some] <;> rfl), by repeat (first | (with_reducible first | exact HB.out | apply below_alloc | apply pw_below_drewN | apply below_drew1 | refine below_set ?_ GE246.out) | exact HB.out)⟩
                · replace c91 := Bool.eq_false_iff.mpr c91
                  subst c91
                  have H1 : ((catenaryref05_SameReq.f t238 t239 t240 t243 0 0 ([] : List Int) ([] : List Int)).bind fun t257 => (some t257)) = some r := by rw [if_neg (show ¬ (false = true) by decide)] at H; exact H
                  clear H
                  have H := H1
                  clear H1
                  replace H := Option.bind_eq_some_iff.mp H
                  obtain ⟨t257, A920, H⟩ := H
                  replace H : (some t257) = some r := H
                  have A92 := Aside0.mk A920
                  clear A920
                  obtain rfl := Option.some.inj H
                  have hcz93_0 : wr.cell? ⟨gb246, 0, none⟩ = some (.int .i64 t238) := (blk_cell BK246.out 0).trans rfl
                  have hcz93_1 : wr.cell? ⟨gb246, 1, none⟩ = some (.int .i64 t239) := (blk_cell BK246.out 1).trans rfl
                  have hcz93_2 : wr.cell? ⟨gb246, 2, none⟩ = some (.slice Ao26 t240.length co26) := (blk_cell BK246.out 2).trans rfl
                  have hcz93_3 : wr.cell? ⟨gb246, 3, none⟩ = some (.slice Ao27 t243.length co27) := (blk_cell BK246.out 3).trans rfl
                  have hfz93_0 := blk_frozen BK246.out 0
                  have hfz93_1 := blk_frozen BK246.out 1
                  have hfz93_2 := blk_frozen BK246.out 2
                  have hfz93_3 := blk_frozen BK246.out 3
                  go_wp2_with (first | ((with_reducible refine gate_callee (f := 11) rfl ?_); refine goesL_ (some 98) rfl rfl Try.func11 (by kernel_rfl) rfl #[.agg #[.int .i64 t238, .int .i64 t239, .slice Ao26 t240.length co26, .slice Ao27 t243.length co27], .agg #[.int .i64 0, .int .i64 0, .slice none 0 0, .slice none 0 0]] rfl (by (try simp only [List.map_toArray, List.map_cons, List.map_nil]); first | done | rfl | (simp only [List.length_drop, List.length_take]; rfl)) ?_; (refine (catenaryref05_SameReq.calls t238 t239 _ _ t240 _ _ t243 0 0 _ _ ([] : List Int) _ _ ([] : List Int) t257 _ ?side1 ?side2 ?side3 ?side4 ?side5 ?side6 ?side7 ?side8 A92.out).mono ?_); (case side1 => repeat (first | exact (Kd.R_reads' HO_247002.out).2.2 | (with_reducible refine Kd.C_alloc ?_ _) | (with_reducible refine Kd.C_drewN ?_ _) | (with_reducible refine Kd.C_drew ?_))); (case side2 => exact (Kd.R_reads' HO_247002.out).2.1); (case side3 => repeat (first | exact (Kd.R_reads' HO_247003.out).2.2 | (with_reducible refine Kd.C_alloc ?_ _) | (with_reducible refine Kd.C_drewN ?_ _) | (with_reducible refine Kd.C_drew ?_))); (case side4 => exact (Kd.R_reads' HO_247003.out).2.1); (case side5 => exact Kd.C_nil _ _); (case side6 => exact Nat.le_refl _); (case side7 => exact Kd.C_nil _ _); (case side8 => exact Nat.le_refl _); rintro e w94 ⟨rfl, hb⟩; refine ⟨_, rfl, ?_⟩; have n0_ := Aside0.mk (Kd.R_below (by (with_reducible repeat (first | apply Kd.R_alloc | apply Kd.R_drewN | apply Kd.R_drew)); exact HO_247002.out) hb); have n1_ := Aside0.mk (Kd.R_below (by (with_reducible repeat (first | apply Kd.R_alloc | apply Kd.R_drewN | apply Kd.R_drew)); exact HO_247003.out) hb); have n2_ := Aside0.mk (blk_below (g := gb246) (o := .cells #[.int .i64 t238, .int .i64 t239, .slice Ao26 t240.length co26, .slice Ao27 t243.length co27] 36 (0, 0)) (by (with_reducible repeat (first | refine blk_drewN ?_ _ | refine blk_drew ?_ | refine blk_alloc ?_ _)); exact BK246.out) hb); have n3_ := Aside0.mk (below_step (by repeat (first | (with_reducible first | exact HB.out | apply below_alloc | apply pw_below_drewN | apply below_drew1 | refine below_set ?_ GE246.out) | exact HB.out)) hb); clear HO_247002; clear HO_247003; clear BK246; clear HB; have HO_247002 := n0_; have HO_247003 := n1_; have BK246 := n2_; have HB := n3_; clear n0_ n1_ n2_ n3_; (try clear hb); (try clear hb2); (try clear hk); (try clear hi)))
                  go_ret
                  exact ⟨by first | rfl | (simp [errW_none, errW_some] <;> rfl) | (simp [*, errW_none, errW_some] <;> rfl), by repeat (first | (with_reducible first | exact HB.out | apply below_alloc | apply pw_below_drewN | apply below_drew1 | refine below_set ?_ GE246.out) | exact HB.out)⟩
  · replace c4 := Bool.eq_false_iff.mpr c4
    subst c4
    have H1 : (none) = some r := by rw [if_neg (show ¬ (false = true) by decide)] at H; exact H
    clear H
    have H := H1
    clear H1
    exact absurd H (by simp)
def g25 (x : S25) : Prop := (Kd.gInt .i64) x.f0 ∧ (Kd.gInt .i64) x.f1
theorem o25 : Kd.Opens Try.prog 25 k25 g25 := Kd.opens_iso (fun x => ⟨x.1, x.2⟩) (fun _ => rfl) (fun _ h => h) (Kd.opens_struct (l := [(3, 0), (3, 1)]) Try.underlying25 (by kernel_rfl) (by kernel_rfl) (Kd.opensF_cons (by kernel_rfl) (Kd.opens_int Try.underlying3) (Kd.opensF_one (by kernel_rfl) (Kd.opens_int Try.underlying3))))
def g57 (x : S57) : Prop := (Kd.gInt .i64) x.f0 ∧ (Kd.gSl 1 (Kd.gInt .u8)) x.f1
theorem o57 : Kd.Opens Try.prog 57 k57 g57 := Kd.opens_iso (fun x => ⟨x.1, x.2⟩) (fun _ => rfl) (fun _ h => h) (Kd.opens_struct (l := [(3, 0), (26, 1)]) Try.underlying57 (by kernel_rfl) (by kernel_rfl) (Kd.opensF_cons (by kernel_rfl) (Kd.opens_int Try.underlying3) (Kd.opensF_one (by kernel_rfl) (Kd.opens_slice Try.underlying26 (by kernel_rfl) (by kernel_rfl) (Kd.opens_int Try.underlying5)))))
def g36 (x : S36) : Prop := (Kd.gInt .i64) x.f0 ∧ (Kd.gInt .i64) x.f1 ∧ (Kd.gSl 1 (Kd.gInt .u8)) x.f2 ∧ (Kd.gSl 1 (Kd.gInt .u8)) x.f3
theorem o36 : Kd.Opens Try.prog 36 k36 g36 := Kd.opens_iso (fun x => ⟨x.1, x.2.1, x.2.2.1, x.2.2.2⟩) (fun _ => rfl) (fun _ h => h) (Kd.opens_struct (l := [(3, 0), (3, 1), (26, 2), (26, 3)]) Try.underlying36 (by kernel_rfl) (by kernel_rfl) (Kd.opensF_cons (by kernel_rfl) (Kd.opens_int Try.underlying3) (Kd.opensF_cons (by kernel_rfl) (Kd.opens_int Try.underlying3) (Kd.opensF_cons (by kernel_rfl) (Kd.opens_slice Try.underlying26 (by kernel_rfl) (by kernel_rfl) (Kd.opens_int Try.underlying5)) (Kd.opensF_one (by kernel_rfl) (Kd.opens_slice Try.underlying26 (by kernel_rfl) (by kernel_rfl) (Kd.opens_int Try.underlying5)))))))
def g45 (x : S45) : Prop := (Kd.gInt .i64) x.f0 ∧ g25 x.f1 ∧ g36 x.f2 ∧ (Kd.gSl 32 g57) x.f3
theorem o45 : Kd.Opens Try.prog 45 k45 g45 := Kd.opens_iso (fun x => ⟨x.1, x.2.1, x.2.2.1, x.2.2.2⟩) (fun _ => rfl) (fun _ h => h) (Kd.opens_struct (l := [(3, 0), (25, 1), (36, 3), (27, 7)]) Try.underlying45 (by kernel_rfl) (by kernel_rfl) (Kd.opensF_cons (by kernel_rfl) (Kd.opens_int Try.underlying3) (Kd.opensF_cons (by kernel_rfl) (o25) (Kd.opensF_cons (by kernel_rfl) (o36) (Kd.opensF_one (by kernel_rfl) (Kd.opens_slice Try.underlying27 (by kernel_rfl) (by kernel_rfl) (o57)))))))
def g30 (x : S30) : Prop := g25 x.f0 ∧ (Kd.gInt .i64) x.f1 ∧ (Kd.gInt .i64) x.f2 ∧ (Kd.gSl 1 (Kd.gInt .u8)) x.f3 ∧ (Kd.gSl 32 g57) x.f4 ∧ (Kd.gSl 112 g45) x.f5 ∧ (Kd.gSl 1 (Kd.gInt .u8)) x.f6
theorem o30 : Kd.Opens Try.prog 30 k30 g30 := Kd.opens_iso (fun x => ⟨x.1, x.2.1, x.2.2.1, x.2.2.2.1, x.2.2.2.2.1, x.2.2.2.2.2.1, x.2.2.2.2.2.2⟩) (fun _ => rfl) (fun _ h => h) (Kd.opens_struct (l := [(25, 0), (3, 2), (3, 3), (26, 4), (27, 5), (28, 6), (26, 7)]) Try.underlying30 (by kernel_rfl) (by kernel_rfl) (Kd.opensF_cons (by kernel_rfl) (o25) (Kd.opensF_cons (by kernel_rfl) (Kd.opens_int Try.underlying3) (Kd.opensF_cons (by kernel_rfl) (Kd.opens_int Try.underlying3) (Kd.opensF_cons (by kernel_rfl) (Kd.opens_slice Try.underlying26 (by kernel_rfl) (by kernel_rfl) (Kd.opens_int Try.underlying5)) (Kd.opensF_cons (by kernel_rfl) (Kd.opens_slice Try.underlying27 (by kernel_rfl) (by kernel_rfl) (o57)) (Kd.opensF_cons (by kernel_rfl) (Kd.opens_slice Try.underlying28 (by kernel_rfl) (by kernel_rfl) (o45)) (Kd.opensF_one (by kernel_rfl) (Kd.opens_slice Try.underlying26 (by kernel_rfl) (by kernel_rfl) (Kd.opens_int Try.underlying5))))))))))

/-- THE ONE PURE STATEMENT of catenarylaw18_ChooseKeeps: yours. -/
def catenarylaw18_ChooseKeeps.Pure : Prop := ∀ (l0 : List (S30)) (a1 : Int), (Kd.gSl 128 g30) l0 → (Kd.gInt .i64) a1 → ∃ k, catenarylaw18_ChooseKeeps.f k l0 a1 = some true
theorem catenarylaw18_ChooseKeeps.walk (P : catenarylaw18_ChooseKeeps.Pure) (A0 : Option Addr) (c0 : Nat) (l0 : List (S30)) (a1 : Int) (w : World) (hr0 : Kd.C k30 w A0 l0.length l0) (hc0 : l0.length ≤ c0) (hg0 : (Kd.gSl 128 g30) l0) (hg1 : (Kd.gInt .i64) a1) :
    Calls Try.prog 4 #[.slice A0 l0.length c0, .int .i64 a1] w fun e w' => e = .returned (.bool true) ∧ Below w.heap.size w w' := by
  obtain ⟨k, h⟩ := P l0 a1 hg0 hg1
  refine (catenarylaw18_ChooseKeeps.calls k _ _ l0 a1 true w hr0 hc0 h).mono ?_
  rintro e w' ⟨rfl, hd⟩
  exact ⟨rfl, hd⟩

end Go.Proofs.Ytllnbmmciejmoaa.PChooseKeeps
