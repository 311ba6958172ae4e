-- Written by a program of this session's (an extension of the kit's print)
import Derived.Test.YtkomibcmpckflaaPLeaseDoesx0
import Derived.Test.YtkomibcmpckflaaPLeaseDoesx1
import Derived.Test.YtkomibcmpckflaaPLeaseDoesx3
import Derived.Test.YtkomibcmpckflaaPLeaseDoesx4
namespace Go.Proofs.Ytkomibcmpckflaa.PLeaseDoes
open Go.RowKit Go.Proofs.YtkomibcmpckflaaW.PrintWords Go.Proofs.YtkomibcmpckflaaW.PrintLast Go.Proofs.YtkomibcmpckflaaW.PrintMore
attribute [local go_sem] max2_int min2_int max_two min_two max_three min_three max_four min_four   -- for this text's walks alone
set_option linter.unusedVariables false
set_option linter.unusedSimpArgs false

/-! ### lease_Do: function 11 -/
mutual
def lease_Do.j0 : Nat → List (S40) → Int → Int → List (S40) → Bool → Int → List Int → List Int → List Int → Int → Option ((List (S40)) × Int × List Int)
 | 0, _, _, _, _, _, _, _, _, _, _ => none
 | k + 1, x0, x2, x3, x10, x13, x186000, x186001, x186002, x186003, x186004 => lease_Do.l0 k x2 x3 x10 x13 x0 (x0.length : Int) 0 x186000 x186001 x186002 x186003 x186004
def lease_Do.l0 : Nat → Int → Int → List (S40) → Bool → List (S40) → Int → Int → Int → List Int → List Int → List Int → Int → Option ((List (S40)) × Int × List Int)
 | 0, _, _, _, _, _, _, _, _, _, _, _, _ => none
 | k + 1, x2, x3, x10, x13, x46, x47, x48, x186000, x186001, x186002, x186003, x186004 => if x48 < x47 then (if 0 ≤ x48 then (if x48 < (x46.length : Int) then (if x13 = true then (lease_Do.j2 k x2 x3 x10 x13 x46 x47 x48 (decide (((rd_T40 x46 x48).f2) > x3)) x186000 x186001 x186002 x186003 x186004 ((rd_T40 x46 x48).f0) ((rd_T40 x46 x48).f1) ((rd_T40 x46 x48).f2)) else (lease_Do.j2 k x2 x3 x10 x13 x46 x47 x48 true x186000 x186001 x186002 x186003 x186004 ((rd_T40 x46 x48).f0) ((rd_T40 x46 x48).f1) ((rd_T40 x46 x48).f2))) else (none)) else (none)) else (if x13 = true then ((api_Lease_byte.f k x10 x186001 ()).bind fun bt203 => (if bt203.2 = true then (lease_Do.j3 k x2 x3 x10 bt203.1 bt203.2 false x186000 x186001 x186002 x186003 x186004) else (lease_Do.j3 k x2 x3 x10 bt203.1 bt203.2 (x186000 != 5) x186000 x186001 x186002 x186003 x186004))) else (some (x10, 5, ([] : List Int))))
def lease_Do.j2 : Nat → Int → Int → List (S40) → Bool → List (S40) → Int → Int → Bool → Int → List Int → List Int → List Int → Int → List Int → Int → Int → Option ((List (S40)) × Int × List Int)
 | 0, _, _, _, _, _, _, _, _, _, _, _, _, _, _, _, _ => none
 | k + 1, x2, x3, x10, x13, x46, x47, x48, x59, x186000, x186001, x186002, x186003, x186004, x195000, x195001, x195002 => if x59 = true then ((lease_clone.f x195000 x195001 x195002).bind fun bt195 => (if x10.length < 3518437208883 then (lease_Do.l0 k x2 x3 (x10 ++ [(⟨bt195.1, bt195.2.1, bt195.2.2⟩ : S40)]) x13 x46 x47 (wrap64 (x48 + 1)) x186000 x186001 x186002 x186003 x186004) else (none))) else (lease_Do.l0 k x2 x3 x10 x13 x46 x47 (wrap64 (x48 + 1)) x186000 x186001 x186002 x186003 x186004)
def lease_Do.j3 : Nat → Int → Int → List (S40) → Int → Bool → Bool → Int → List Int → List Int → List Int → Int → Option ((List (S40)) × Int × List Int)
 | 0, _, _, _, _, _, _, _, _, _, _, _ => none
 | k + 1, x2, x3, x10, x16, x17, x77, x186000, x186001, x186002, x186003, x186004 => if x77 = true then (some (x10, 1, ([] : List Int))) else (if x17 = true then (lease_Do.j4 k x2 x3 x10 x16 x17 false x186000 x186001 x186002 x186003 x186004) else (lease_Do.j4 k x2 x3 x10 x16 x17 ((x10.length : Int) == 16) x186000 x186001 x186002 x186003 x186004))
def lease_Do.j4 : Nat → Int → Int → List (S40) → Int → Bool → Bool → Int → List Int → List Int → List Int → Int → Option ((List (S40)) × Int × List Int)
 | 0, _, _, _, _, _, _, _, _, _, _, _ => none
 | k + 1, x2, x3, x10, x16, x17, x87, x186000, x186001, x186002, x186003, x186004 => if x87 = true then (some (x10, 3, ([] : List Int))) else (if x17 = true then (if x186000 = 8 then (if 0 ≤ x16 then (if x16 < (x10.length : Int) then ((lease_told.f k ((rd_T40 x10 x16).f1) (wrap64 (((rd_T40 x10 x16).f2) - x3))).bind fun t207 => (some (x10, 0, t207))) else (none)) else (none)) else (if 0 ≤ x16 then (if x16 < (x10.length : Int) then (if ((rd_T40 x10 x16).f1) = x2 then (if x186000 = 7 then (some ((x10.eraseIdx (x16 : Int).toNat), 0, ([] : List Int))) else (some ((x10.set (x16 : Int).toNat (⟨(rd_T40 x10 x16).f0, (rd_T40 x10 x16).f1, wrap64 (x3 + x186004)⟩ : S40)), 0, ([] : List Int)))) else ((lease_told.f k ((rd_T40 x10 x16).f1) (wrap64 (((rd_T40 x10 x16).f2) - x3))).bind fun t217 => (some (x10, 4, t217)))) else (none)) else (none))) else ((slices_Clone_byte_byte.f x186001).bind fun t220 => (if 0 ≤ x16 then (if x16 ≤ (x10.length : Int) then (if x10.length < 3518437208883 then (some ((x10.take (x16 : Int).toNat ++ [(⟨t220, x2, wrap64 (x3 + x186004)⟩ : S40)] ++ x10.drop (x16 : Int).toNat), 0, ([] : List Int))) else (none)) else (none)) else (none))))
end
def lease_Do.f (k : Nat) (l0 : List (S40)) (a1_0 : Int) (l1_1 : List Int) (l1_2 : List Int) (l1_3 : List Int) (a1_4 : Int) (a2 : Int) (a3 : Int) : Option ((List (S40)) × Int × List Int) := (kv_Write.f k a1_0 l1_1 l1_2 l1_3 a1_4).bind fun bt187 => ((lease_Right.f k l0).bind fun t191 => (if t191 = true then (if bt187.2 = 0 then (if a1_0 ≥ 5 then ((lease_client.f a2).bind fun t192 => (if t192 = true then (if a3 ≥ 0 then (lease_Do.j0 k l0 a2 a3 ([] : List (S40)) (decide (a3 ≤ 2147482647)) a1_0 l1_1 l1_2 l1_3 a1_4) else (lease_Do.j0 k l0 a2 a3 ([] : List (S40)) false a1_0 l1_1 l1_2 l1_3 a1_4)) else (lease_Do.j0 k l0 a2 a3 ([] : List (S40)) false a1_0 l1_1 l1_2 l1_3 a1_4))) else (lease_Do.j0 k l0 a2 a3 ([] : List (S40)) false a1_0 l1_1 l1_2 l1_3 a1_4)) else (lease_Do.j0 k l0 a2 a3 ([] : List (S40)) false a1_0 l1_1 l1_2 l1_3 a1_4)) else (lease_Do.j0 k l0 a2 a3 ([] : List (S40)) false a1_0 l1_1 l1_2 l1_3 a1_4)))
theorem lease_Do.mono_l : ∀ k, (∀ y0 y1 y2 y3 y4 y5 y6 y7 y8 y9, LeO (lease_Do.j0 k y0 y1 y2 y3 y4 y5 y6 y7 y8 y9) (lease_Do.j0 (k + 1) y0 y1 y2 y3 y4 y5 y6 y7 y8 y9)) ∧ (∀ y0 y1 y2 y3 y4 y5 y6 y7 y8 y9 y10 y11, LeO (lease_Do.l0 k y0 y1 y2 y3 y4 y5 y6 y7 y8 y9 y10 y11) (lease_Do.l0 (k + 1) y0 y1 y2 y3 y4 y5 y6 y7 y8 y9 y10 y11)) ∧ (∀ y0 y1 y2 y3 y4 y5 y6 y7 y8 y9 y10 y11 y12 y13 y14 y15, LeO (lease_Do.j2 k y0 y1 y2 y3 y4 y5 y6 y7 y8 y9 y10 y11 y12 y13 y14 y15) (lease_Do.j2 (k + 1) y0 y1 y2 y3 y4 y5 y6 y7 y8 y9 y10 y11 y12 y13 y14 y15)) ∧ (∀ y0 y1 y2 y3 y4 y5 y6 y7 y8 y9 y10, LeO (lease_Do.j3 k y0 y1 y2 y3 y4 y5 y6 y7 y8 y9 y10) (lease_Do.j3 (k + 1) y0 y1 y2 y3 y4 y5 y6 y7 y8 y9 y10)) ∧ (∀ y0 y1 y2 y3 y4 y5 y6 y7 y8 y9 y10, LeO (lease_Do.j4 k y0 y1 y2 y3 y4 y5 y6 y7 y8 y9 y10) (lease_Do.j4 (k + 1) y0 y1 y2 y3 y4 y5 y6 y7 y8 y9 y10))
 | 0 => ⟨fun _ _ _ _ _ _ _ _ _ _ r h => by simp [lease_Do.j0] at h, fun _ _ _ _ _ _ _ _ _ _ _ _ r h => by simp [lease_Do.l0] at h, fun _ _ _ _ _ _ _ _ _ _ _ _ _ _ _ _ r h => by simp [lease_Do.j2] at h, fun _ _ _ _ _ _ _ _ _ _ _ r h => by simp [lease_Do.j3] at h, fun _ _ _ _ _ _ _ _ _ _ _ r h => by simp [lease_Do.j4] at h⟩
 | k + 1 => by
  obtain ⟨ih0, ih1, ih2, ih3, ih4⟩ := lease_Do.mono_l k; refine ⟨?_, ?_, ?_, ?_, ?_⟩
  ·intro y0 y1 y2 y3 y4 y5 y6 y7 y8 y9
   unfold lease_Do.j0
   repeat' first
   | (with_reducible exact ih0 _ _ _ _ _ _ _ _ _ _)
   | (with_reducible exact ih1 _ _ _ _ _ _ _ _ _ _ _ _)
   | (with_reducible exact ih2 _ _ _ _ _ _ _ _ _ _ _ _ _ _ _ _)
   | (with_reducible exact ih3 _ _ _ _ _ _ _ _ _ _ _)
   | (with_reducible exact ih4 _ _ _ _ _ _ _ _ _ _ _)
   | (with_reducible exact api_Lease_byte.mono _ _ _ _)
   | (with_reducible exact kv_Write.mono _ _ _ _ _ _)
   | (with_reducible exact lease_Right.mono _ _)
   | (with_reducible exact lease_told.mono _ _ _)
   | (with_reducible exact LeO.refl _)
   | (with_reducible exact LeO.none _)
   | (with_reducible refine LeO.ite ?_ ?_)
   | (with_reducible refine LeO.bind ?_ (fun _ => ?_))
   | exact ih0 _ _ _ _ _ _ _ _ _ _
   | exact ih1 _ _ _ _ _ _ _ _ _ _ _ _
   | exact ih2 _ _ _ _ _ _ _ _ _ _ _ _ _ _ _ _
   | exact ih3 _ _ _ _ _ _ _ _ _ _ _
   | exact ih4 _ _ _ _ _ _ _ _ _ _ _
   | exact api_Lease_byte.mono _ _ _ _
   | exact kv_Write.mono _ _ _ _ _ _
   | exact lease_Right.mono _ _
   | exact lease_told.mono _ _ _
   | exact LeO.none _
   | refine LeO.ite ?_ ?_
   | refine LeO.bind ?_ (fun _ => ?_)
  ·intro y0 y1 y2 y3 y4 y5 y6 y7 y8 y9 y10 y11
   unfold lease_Do.l0
   repeat' first
   | (with_reducible exact ih0 _ _ _ _ _ _ _ _ _ _)
   | (with_reducible exact ih1 _ _ _ _ _ _ _ _ _ _ _ _)
   | (with_reducible exact ih2 _ _ _ _ _ _ _ _ _ _ _ _ _ _ _ _)
   | (with_reducible exact ih3 _ _ _ _ _ _ _ _ _ _ _)
   | (with_reducible exact ih4 _ _ _ _ _ _ _ _ _ _ _)
   | (with_reducible exact api_Lease_byte.mono _ _ _ _)
   | (with_reducible exact kv_Write.mono _ _ _ _ _ _)
   | (with_reducible exact lease_Right.mono _ _)
   | (with_reducible exact lease_told.mono _ _ _)
   | (with_reducible exact LeO.refl _)
   | (with_reducible exact LeO.none _)
   | (with_reducible refine LeO.ite ?_ ?_)
   | (with_reducible refine LeO.bind ?_ (fun _ => ?_))
   | exact ih0 _ _ _ _ _ _ _ _ _ _
   | exact ih1 _ _ _ _ _ _ _ _ _ _ _ _
   | exact ih2 _ _ _ _ _ _ _ _ _ _ _ _ _ _ _ _
   | exact ih3 _ _ _ _ _ _ _ _ _ _ _
   | exact ih4 _ _ _ _ _ _ _ _ _ _ _
   | exact api_Lease_byte.mono _ _ _ _
   | exact kv_Write.mono _ _ _ _ _ _
   | exact lease_Right.mono _ _
   | exact lease_told.mono _ _ _
   | exact LeO.none _
   | refine LeO.ite ?_ ?_
   | refine LeO.bind ?_ (fun _ => ?_)
  ·intro y0 y1 y2 y3 y4 y5 y6 y7 y8 y9 y10 y11 y12 y13 y14 y15
   unfold lease_Do.j2
   repeat' first
   | (with_reducible exact ih0 _ _ _ _ _ _ _ _ _ _)
   | (with_reducible exact ih1 _ _ _ _ _ _ _ _ _ _ _ _)
   | (with_reducible exact ih2 _ _ _ _ _ _ _ _ _ _ _ _ _ _ _ _)
   | (with_reducible exact ih3 _ _ _ _ _ _ _ _ _ _ _)
   | (with_reducible exact ih4 _ _ _ _ _ _ _ _ _ _ _)
   | (with_reducible exact api_Lease_byte.mono _ _ _ _)
   | (with_reducible exact kv_Write.mono _ _ _ _ _ _)
   | (with_reducible exact lease_Right.mono _ _)
   | (with_reducible exact lease_told.mono _ _ _)
   | (with_reducible exact LeO.refl _)
   | (with_reducible exact LeO.none _)
   | (with_reducible refine LeO.ite ?_ ?_)
   | (with_reducible refine LeO.bind ?_ (fun _ => ?_))
   | exact ih0 _ _ _ _ _ _ _ _ _ _
   | exact ih1 _ _ _ _ _ _ _ _ _ _ _ _
   | exact ih2 _ _ _ _ _ _ _ _ _ _ _ _ _ _ _ _
   | exact ih3 _ _ _ _ _ _ _ _ _ _ _
   | exact ih4 _ _ _ _ _ _ _ _ _ _ _
   | exact api_Lease_byte.mono _ _ _ _
   | exact kv_Write.mono _ _ _ _ _ _
   | exact lease_Right.mono _ _
   | exact lease_told.mono _ _ _
   | exact LeO.none _
   | refine LeO.ite ?_ ?_
   | refine LeO.bind ?_ (fun _ => ?_)
  ·intro y0 y1 y2 y3 y4 y5 y6 y7 y8 y9 y10
   unfold lease_Do.j3
   repeat' first
   | (with_reducible exact ih0 _ _ _ _ _ _ _ _ _ _)
   | (with_reducible exact ih1 _ _ _ _ _ _ _ _ _ _ _ _)
   | (with_reducible exact ih2 _ _ _ _ _ _ _ _ _ _ _ _ _ _ _ _)
   | (with_reducible exact ih3 _ _ _ _ _ _ _ _ _ _ _)
   | (with_reducible exact ih4 _ _ _ _ _ _ _ _ _ _ _)
   | (with_reducible exact api_Lease_byte.mono _ _ _ _)
   | (with_reducible exact kv_Write.mono _ _ _ _ _ _)
   | (with_reducible exact lease_Right.mono _ _)
   | (with_reducible exact lease_told.mono _ _ _)
   | (with_reducible exact LeO.refl _)
   | (with_reducible exact LeO.none _)
   | (with_reducible refine LeO.ite ?_ ?_)
   | (with_reducible refine LeO.bind ?_ (fun _ => ?_))
   | exact ih0 _ _ _ _ _ _ _ _ _ _
   | exact ih1 _ _ _ _ _ _ _ _ _ _ _ _
   | exact ih2 _ _ _ _ _ _ _ _ _ _ _ _ _ _ _ _
   | exact ih3 _ _ _ _ _ _ _ _ _ _ _
   | exact ih4 _ _ _ _ _ _ _ _ _ _ _
   | exact api_Lease_byte.mono _ _ _ _
   | exact kv_Write.mono _ _ _ _ _ _
   | exact lease_Right.mono _ _
   | exact lease_told.mono _ _ _
   | exact LeO.none _
   | refine LeO.ite ?_ ?_
   | refine LeO.bind ?_ (fun _ => ?_)
  ·intro y0 y1 y2 y3 y4 y5 y6 y7 y8 y9 y10
   unfold lease_Do.j4
   repeat' first
   | (with_reducible exact ih0 _ _ _ _ _ _ _ _ _ _)
   | (with_reducible exact ih1 _ _ _ _ _ _ _ _ _ _ _ _)
   | (with_reducible exact ih2 _ _ _ _ _ _ _ _ _ _ _ _ _ _ _ _)
   | (with_reducible exact ih3 _ _ _ _ _ _ _ _ _ _ _)
   | (with_reducible exact ih4 _ _ _ _ _ _ _ _ _ _ _)
   | (with_reducible exact api_Lease_byte.mono _ _ _ _)
   | (with_reducible exact kv_Write.mono _ _ _ _ _ _)
   | (with_reducible exact lease_Right.mono _ _)
   | (with_reducible exact lease_told.mono _ _ _)
   | (with_reducible exact LeO.refl _)
   | (with_reducible exact LeO.none _)
   | (with_reducible refine LeO.ite ?_ ?_)
   | (with_reducible refine LeO.bind ?_ (fun _ => ?_))
   | exact ih0 _ _ _ _ _ _ _ _ _ _
   | exact ih1 _ _ _ _ _ _ _ _ _ _ _ _
   | exact ih2 _ _ _ _ _ _ _ _ _ _ _ _ _ _ _ _
   | exact ih3 _ _ _ _ _ _ _ _ _ _ _
   | exact ih4 _ _ _ _ _ _ _ _ _ _ _
   | exact api_Lease_byte.mono _ _ _ _
   | exact kv_Write.mono _ _ _ _ _ _
   | exact lease_Right.mono _ _
   | exact lease_told.mono _ _ _
   | exact LeO.none _
   | refine LeO.ite ?_ ?_
   | refine LeO.bind ?_ (fun _ => ?_)
theorem lease_Do.mono : ∀ a0 a1 a2 a3 a4 a5 a6 a7 k, LeO (lease_Do.f k a0 a1 a2 a3 a4 a5 a6 a7) (lease_Do.f (k + 1) a0 a1 a2 a3 a4 a5 a6 a7) := by
 intro a0 a1 a2 a3 a4 a5 a6 a7 k; obtain ⟨ih0, ih1, ih2, ih3, ih4⟩ := lease_Do.mono_l k
 unfold lease_Do.f
 repeat' first
   | (with_reducible exact ih0 _ _ _ _ _ _ _ _ _ _)
   | (with_reducible exact ih1 _ _ _ _ _ _ _ _ _ _ _ _)
   | (with_reducible exact ih2 _ _ _ _ _ _ _ _ _ _ _ _ _ _ _ _)
   | (with_reducible exact ih3 _ _ _ _ _ _ _ _ _ _ _)
   | (with_reducible exact ih4 _ _ _ _ _ _ _ _ _ _ _)
   | (with_reducible exact api_Lease_byte.mono _ _ _ _)
   | (with_reducible exact kv_Write.mono _ _ _ _ _ _)
   | (with_reducible exact lease_Right.mono _ _)
   | (with_reducible exact lease_told.mono _ _ _)
   | (with_reducible exact LeO.refl _)
   | (with_reducible exact LeO.none _)
   | (with_reducible refine LeO.ite ?_ ?_)
   | (with_reducible refine LeO.bind ?_ (fun _ => ?_))
   | exact ih0 _ _ _ _ _ _ _ _ _ _
   | exact ih1 _ _ _ _ _ _ _ _ _ _ _ _
   | exact ih2 _ _ _ _ _ _ _ _ _ _ _ _ _ _ _ _
   | exact ih3 _ _ _ _ _ _ _ _ _ _ _
   | exact ih4 _ _ _ _ _ _ _ _ _ _ _
   | exact api_Lease_byte.mono _ _ _ _
   | exact kv_Write.mono _ _ _ _ _ _
   | exact lease_Right.mono _ _
   | exact lease_told.mono _ _ _
   | exact LeO.none _
   | refine LeO.ite ?_ ?_
   | refine LeO.bind ?_ (fun _ => ?_)
def lease_Do.T18 : Bool × List (List Nat × List Nat) := (true, [([], []), ([], []), ([], []), ([2], [2]), ([3], [3]), ([], []), ([], []), ([], []), ([7], [7]), ([6, 8], [6, 8]), ([4, 5, 9], [4, 5, 9]), ([10], [10]), ([0, 1, 11, 4], [0, 1, 11]), ([], []), ([12, 12, 0, 1, 2, 3, 4, 5, 6, 7, 8, 9, 10, 11, 12], [12]), ([13, 14, 0, 1, 2, 3, 4, 5, 6, 7, 8, 9, 10, 11, 12, 13, 14], [13])])
def lease_Do.B18 : List Nat := [0, 0, 0, 4, 12, 0, 0, 0, 128, 448, 1020, 2044, 4095, 0, 8191, 32767]
theorem lease_Do.tab18 : rtab .any (opsOf Try.f11 18) = lease_Do.T18 := by kernel_rfl
theorem lease_Do.bits18 : waitsOk lease_Do.T18.2 lease_Do.B18 = true := by kernel_rfl
def lease_Do.T20 : Bool × List (List Nat × List Nat) := (true, [([], []), ([], []), ([], []), ([1, 2], [1, 2]), ([3], [3]), ([4], [4]), ([], []), ([], []), ([6, 7], [6, 7]), ([8], [8]), ([9], [9]), ([], []), ([10, 11], [10, 11]), ([5, 12], [5, 12]), ([13], [13]), ([0, 13, 0], [0]), ([14, 15, 0, 1, 2, 3, 4, 5, 6, 7, 8, 9, 10, 11, 12, 13, 14, 15], [14])])
def lease_Do.B20 : List Nat := [0, 0, 0, 6, 14, 30, 0, 0, 192, 448, 960, 0, 4032, 8190, 16382, 16383, 65535]
theorem lease_Do.tab20 : rtab .any (opsOf Try.f11 20) = lease_Do.T20 := by kernel_rfl
theorem lease_Do.bits20 : waitsOk lease_Do.T20.2 lease_Do.B20 = true := by kernel_rfl
def lease_Do.T22 : Bool × List (List Nat × List Nat) := (true, [([], []), ([], []), ([], []), ([1, 2], [1, 2]), ([3], [3]), ([4], [4]), ([], []), ([], []), ([6, 7], [6, 7]), ([8], [8]), ([9], [9]), ([], []), ([10, 11], [10, 11]), ([5, 12], [5, 12]), ([13], [13]), ([0, 13, 0], [0]), ([14, 15, 0, 1, 2, 3, 4, 5, 6, 7, 8, 9, 10, 11, 12, 13, 14, 15], [14])])
def lease_Do.B22 : List Nat := [0, 0, 0, 6, 14, 30, 0, 0, 192, 448, 960, 0, 4032, 8190, 16382, 16383, 65535]
theorem lease_Do.tab22 : rtab .any (opsOf Try.f11 22) = lease_Do.T22 := by kernel_rfl
theorem lease_Do.bits22 : waitsOk lease_Do.T22.2 lease_Do.B22 = true := by kernel_rfl
set_option maxHeartbeats 8000000 in
set_option maxRecDepth 100000 in
theorem lease_Do.calls (k : Nat) (A0 : Option Addr) (c0 : Nat) (l0 : List (S40)) (a1_0 : Int) (A1_1 : Option Addr) (c1_1 : Nat) (l1_1 : List Int) (A1_2 : Option Addr) (c1_2 : Nat) (l1_2 : List Int) (A1_3 : Option Addr) (c1_3 : Nat) (l1_3 : List Int) (a1_4 : Int) (a2 : Int) (a3 : Int) (r1 : List (S40)) (r2 : Int) (r3 : List Int) (w : World) (hr0 : Kd.C k40 w A0 l0.length l0) (hc0 : l0.length ≤ c0) (hr1_1 : Kd.C (Kd.int .u8) w A1_1 l1_1.length l1_1) (hc1_1 : l1_1.length ≤ c1_1) (hr1_2 : Kd.C (Kd.int .u8) w A1_2 l1_2.length l1_2) (hc1_2 : l1_2.length ≤ c1_2) (hr1_3 : Kd.C (Kd.int .u8) w A1_3 l1_3.length l1_3) (hc1_3 : l1_3.length ≤ c1_3) (h : lease_Do.f k l0 a1_0 l1_1 l1_2 l1_3 a1_4 a2 a3 = some (r1, r2, r3)) :
  Calls Try.prog 11 #[.slice A0 l0.length c0, .agg #[.int .i64 a1_0, .slice A1_1 l1_1.length c1_1, .slice A1_2 l1_2.length c1_2, .slice A1_3 l1_3.length c1_3, .int .i64 a1_4], .int .i64 a2, .int .i64 a3] w fun e w' => ∃ v0_ v2_ : Value, e = .returned (.tuple #[v0_, .agg #[.int .i64 r2, v2_]]) ∧ Kd.S k40 40 w' w.heap.size (fun k_ => some k_ ≠ (v2_ : Value).ownBlock) v0_ r1 ∧ Kd.R (Kd.int .u8) 5 w' w.heap.size (fun _ => True) v2_ r3 ∧ Below w.heap.size w w' := by
 have hu28 := Try.underlying28; have hu33 := Try.underlying33; have hu40 := Try.underlying40; have HR0 := Aside0.mk hr0; have HC0 := Aside0.mk hc0; clear hr0 hc0; have HR1_1 := Aside0.mk hr1_1; have HC1_1 := Aside0.mk hc1_1; clear hr1_1 hc1_1; have HR1_2 := Aside0.mk hr1_2; have HC1_2 := Aside0.mk hc1_2; clear hr1_2 hc1_2; have HR1_3 := Aside0.mk hr1_3; have HC1_3 := Aside0.mk hc1_3; clear hr1_3 hc1_3; have HB := Aside0.mk (Below.refl w.heap.size w); have H : ((kv_Write.f k a1_0 l1_1 l1_2 l1_3 a1_4).bind fun bt187 => ((lease_Right.f k l0).bind fun t191 => (if t191 = true then (if bt187.2 = 0 then (if a1_0 ≥ 5 then ((lease_client.f a2).bind fun t192 => (if t192 = true then (if a3 ≥ 0 then (lease_Do.j0 k l0 a2 a3 ([] : List (S40)) (decide (a3 ≤ 2147482647)) a1_0 l1_1 l1_2 l1_3 a1_4) else (lease_Do.j0 k l0 a2 a3 ([] : List (S40)) false a1_0 l1_1 l1_2 l1_3 a1_4)) else (lease_Do.j0 k l0 a2 a3 ([] : List (S40)) false a1_0 l1_1 l1_2 l1_3 a1_4))) else (lease_Do.j0 k l0 a2 a3 ([] : List (S40)) false a1_0 l1_1 l1_2 l1_3 a1_4)) else (lease_Do.j0 k l0 a2 a3 ([] : List (S40)) false a1_0 l1_1 l1_2 l1_3 a1_4)) else (lease_Do.j0 k l0 a2 a3 ([] : List (S40)) false a1_0 l1_1 l1_2 l1_3 a1_4)))) = some (r1, r2, r3) := h; clear h; replace H := Option.bind_eq_some_iff.mp H; obtain ⟨⟨t187, t190⟩, A50, H⟩ := H; replace H : ((lease_Right.f k l0).bind fun t191 => (if t191 = true then (if t190 = 0 then (if a1_0 ≥ 5 then ((lease_client.f a2).bind fun t192 => (if t192 = true then (if a3 ≥ 0 then (lease_Do.j0 k l0 a2 a3 ([] : List (S40)) (decide (a3 ≤ 2147482647)) a1_0 l1_1 l1_2 l1_3 a1_4) else (lease_Do.j0 k l0 a2 a3 ([] : List (S40)) false a1_0 l1_1 l1_2 l1_3 a1_4)) else (lease_Do.j0 k l0 a2 a3 ([] : List (S40)) false a1_0 l1_1 l1_2 l1_3 a1_4))) else (lease_Do.j0 k l0 a2 a3 ([] : List (S40)) false a1_0 l1_1 l1_2 l1_3 a1_4)) else (lease_Do.j0 k l0 a2 a3 ([] : List (S40)) false a1_0 l1_1 l1_2 l1_3 a1_4)) else (lease_Do.j0 k l0 a2 a3 ([] : List (S40)) false a1_0 l1_1 l1_2 l1_3 a1_4))) = some (r1, r2, r3) := H; have A5 := Aside0.mk A50; clear A50; have HC6 := Aside0.mk H; clear H
 go_enter Try.func11, Try.ntmps11
 go_upto_region 3 with (first | ((with_reducible refine gate_dst (N := 5) rfl ?_); (try (refine gate_guard (by rfl) ?_; dsimp only)); refine box_event ?hg (N := 5) ?hd (cs := #[.int .i64 a1_0, .slice A1_1 l1_1.length c1_1, .slice A1_2 l1_2.length c1_2, .slice A1_3 l1_3.length c1_3, .int .i64 a1_4]) (t := 28) ?hr ?_; (case hd => rfl); (case hg => rfl); (case hr => first | (go_simp; done) | (go_simp; rfl)); intro gb185 hg w7 hbox hb; have n0_ := Aside0.mk (below_step (below_v HB.out) hb); have n1_ := Aside0.mk (hbox); have n2_ := Aside0.mk ((by rw [hg]; exact (below_size (below_v HB.out)) : w.heap.size ≤ gb185)); have n3_ := Aside0.mk ((by rw [hg]; exact (below_size (below_v HB.out)) : w.heap.size ≤ gb185)); clear HB; have HB := n0_; have BK185 := n1_; have GW185 := n2_; have GE185 : GeB _ _ := ⟨⟨n3_.out⟩⟩; clear n0_ n1_ n2_ n3_; clear hb hbox hg) | ((with_reducible refine gate_dst (N := 9) rfl ?_); (try (refine gate_guard (by rfl) ?_; dsimp only)); refine box_event ?hg (N := 9) ?hd (cs := #[.int .i64 0, .slice none 0 0]) (t := 33) ?hr ?_; (case hd => rfl); (case hg => rfl); (case hr => first | (go_simp; done) | (go_simp; rfl)); intro gb186 hg w8 hbox hb; have n0_ := Aside0.mk (blk_below (blk_u <| BK185.out) hb); have n1_ := Aside0.mk (below_step (below_v HB.out) hb); have n2_ := Aside0.mk (hbox); have n3_ := Aside0.mk ((by rw [hg]; exact (below_size (below_v HB.out)) : w.heap.size ≤ gb186)); have n4_ := Aside0.mk ((by rw [hg]; exact (below_size (below_v HB.out)) : w.heap.size ≤ gb186)); have n5_ := Aside0.mk ((by rw [hg]; exact Nat.ne_of_lt (blk_lt (blk_u <| BK185.out)) : gb185 ≠ gb186)); have n6_ := Aside0.mk ((by rw [hg]; exact Nat.ne_of_gt (blk_lt (blk_u <| BK185.out)) : gb186 ≠ gb185)); clear BK185; clear HB; have BK185 := n0_; have HB := n1_; have BK186 := n2_; have GW186 := n3_; have GE186 : GeB _ _ := ⟨⟨n4_.out⟩⟩; have NB185_186 := n5_; have NB186_185 := n6_; clear n0_ n1_ n2_ n3_ n4_ n5_ n6_; clear hb hbox hg; have hnb9 := NB185_186.out; have hnc9 := NB186_185.out; have hcz10_0 : w8.cell? ⟨gb185, 0, none⟩ = some (.int .i64 a1_0) := (blk_cell BK185.out 0).trans rfl; have hcz10_1 : w8.cell? ⟨gb185, 1, none⟩ = some (.slice A1_1 l1_1.length c1_1) := (blk_cell BK185.out 1).trans rfl; have hcz10_2 : w8.cell? ⟨gb185, 2, none⟩ = some (.slice A1_2 l1_2.length c1_2) := (blk_cell BK185.out 2).trans rfl; have hcz10_3 : w8.cell? ⟨gb185, 3, none⟩ = some (.slice A1_3 l1_3.length c1_3) := (blk_cell BK185.out 3).trans rfl; have hcz10_4 : w8.cell? ⟨gb185, 4, none⟩ = some (.int .i64 a1_4) := (blk_cell BK185.out 4).trans rfl; have hfz10_0 := blk_frozen BK185.out; have hfz10_4 := blk_frozen BK185.out 4) | ((with_reducible refine gate_callee (f := 21) rfl ?_); refine goesL_ (some 20) rfl rfl Try.func21 (by kernel_rfl) rfl #[.agg #[.int .i64 a1_0, .slice A1_1 l1_1.length c1_1, .slice A1_2 l1_2.length c1_2, .slice A1_3 l1_3.length c1_3, .int .i64 a1_4]] rfl (by (try simp only [List.map_toArray, List.map_cons, List.map_nil]); first | done | rfl | (simp only [List.length_drop, List.length_take]; rfl)) ?_; (with_reducible refine (kv_Write.calls k a1_0 (fun k_ => k_ < w.heap.size) _ _ l1_1 (fun k_ => k_ < w.heap.size) _ _ l1_2 (fun k_ => k_ < w.heap.size) _ _ l1_3 a1_4 t187 t190 _ ?side1 ?side2 ?side3 A5.out).mono ?_); (case side1 => exact Kd.V_mk HC1_1.out (Kd.F_below (Kd.C_F (Kd.heap_int .u8) HR1_1.out) (below_v HB.out))); (case side2 => exact Kd.V_mk HC1_2.out (Kd.F_below (Kd.C_F (Kd.heap_int .u8) HR1_2.out) (below_v HB.out))); (case side3 => exact Kd.V_mk HC1_3.out (Kd.F_below (Kd.C_F (Kd.heap_int .u8) HR1_3.out) (below_v HB.out))); rintro e w11 ⟨v188, rfl, ho0, hb⟩; refine ⟨_, rfl, ?_⟩; have n0_ := Aside0.mk (Kd.R_lower (Kd.R_mono (ok' := fun k_ => True) ho0 (fun _ hk_ => trivial)) (below_size (below_v HB.out))); have n1_ := Aside0.mk (blk_below (blk_u <| BK185.out) hb); have n2_ := Aside0.mk (blk_below (blk_u <| BK186.out) hb); have n3_ := Aside0.mk (below_step (below_v HB.out) hb); clear BK185; clear BK186; clear HB; have HO189 := n0_; have BK185 := n1_; have BK186 := n2_; have HB := n3_; clear n0_ n1_ n2_ n3_; (try clear hb); (try clear hb2); (try clear hk); (try clear hi); (try clear ho0)))
 (try simp only [Act.put, List.setIfInBounds_toArray, List.set_cons_zero, List.set_cons_succ])
 go_cut [13] (fun v13 wc => ∃ (kq : Nat) (x13_5 : Bool), v13 = .bool x13_5 ∧ Aside0 (lease_Do.j0 kq l0 a2 a3 ([] : List (S40)) x13_5 a1_0 l1_1 l1_2 l1_3 a1_4 = some (r1, r2, r3)) ∧ Aside0 (kq ≤ k) ∧ Aside0 (Kd.S k40 40 wc w.heap.size (fun _ => True) (.slice none 0 0) ([] : List (S40))) ∧ Aside0 (wc.heap[gb185]? = some (.cells #[.int .i64 a1_0, (.slice A1_1 l1_1.length c1_1), (.slice A1_2 l1_2.length c1_2), (.slice A1_3 l1_3.length c1_3), .int .i64 a1_4] 28 (0, 0))) ∧ Aside0 (wc.heap[gb186]? = some (.cells #[.int .i64 0, (.slice none 0 0)] 33 (0, 0))) ∧ Aside0 (Below w.heap.size w wc))
 case first =>
  have H := HC6.out; clear HC6; replace H := Option.bind_eq_some_iff.mp H; obtain ⟨t191, A120, H⟩ := H; replace H : (if t191 = true then (if t190 = 0 then (if a1_0 ≥ 5 then ((lease_client.f a2).bind fun t192 => (if t192 = true then (if a3 ≥ 0 then (lease_Do.j0 k l0 a2 a3 ([] : List (S40)) (decide (a3 ≤ 2147482647)) a1_0 l1_1 l1_2 l1_3 a1_4) else (lease_Do.j0 k l0 a2 a3 ([] : List (S40)) false a1_0 l1_1 l1_2 l1_3 a1_4)) else (lease_Do.j0 k l0 a2 a3 ([] : List (S40)) false a1_0 l1_1 l1_2 l1_3 a1_4))) else (lease_Do.j0 k l0 a2 a3 ([] : List (S40)) false a1_0 l1_1 l1_2 l1_3 a1_4)) else (lease_Do.j0 k l0 a2 a3 ([] : List (S40)) false a1_0 l1_1 l1_2 l1_3 a1_4)) else (lease_Do.j0 k l0 a2 a3 ([] : List (S40)) false a1_0 l1_1 l1_2 l1_3 a1_4)) = some (r1, r2, r3) := H; have A12 := Aside0.mk A120; clear A120
  by_cases c13 : t191 = true
  ·subst c13
   have H1 : (if t190 = 0 then (if a1_0 ≥ 5 then ((lease_client.f a2).bind fun t192 => (if t192 = true then (if a3 ≥ 0 then (lease_Do.j0 k l0 a2 a3 ([] : List (S40)) (decide (a3 ≤ 2147482647)) a1_0 l1_1 l1_2 l1_3 a1_4) else (lease_Do.j0 k l0 a2 a3 ([] : List (S40)) false a1_0 l1_1 l1_2 l1_3 a1_4)) else (lease_Do.j0 k l0 a2 a3 ([] : List (S40)) false a1_0 l1_1 l1_2 l1_3 a1_4))) else (lease_Do.j0 k l0 a2 a3 ([] : List (S40)) false a1_0 l1_1 l1_2 l1_3 a1_4)) else (lease_Do.j0 k l0 a2 a3 ([] : List (S40)) false a1_0 l1_1 l1_2 l1_3 a1_4)) = some (r1, r2, r3) := by rw [if_pos rfl] at H; exact H
   clear H; have H := H1; clear H1
   by_cases c14 : t190 = 0
   ·rw [if_pos c14] at H
    have c14b0 : (t190 == 0) = true := beq_iff_eq.mpr c14; have c14b1 : (t190 != 0) = false := bne_eq_false_iff_eq.mpr c14; clear c14
    (first | rw [c14b0] | (simp only [i64_w, i32_w]; rw [c14b0]) | skip)
    by_cases c15 : a1_0 ≥ 5
    ·rw [if_pos c15] at H
     have c15b0 : decide (5 ≤ a1_0) = true := decide_eq_true c15; clear c15; replace H := Option.bind_eq_some_iff.mp H; obtain ⟨t192, A160, H⟩ := H; replace H : (if t192 = true then (if a3 ≥ 0 then (lease_Do.j0 k l0 a2 a3 ([] : List (S40)) (decide (a3 ≤ 2147482647)) a1_0 l1_1 l1_2 l1_3 a1_4) else (lease_Do.j0 k l0 a2 a3 ([] : List (S40)) false a1_0 l1_1 l1_2 l1_3 a1_4)) else (lease_Do.j0 k l0 a2 a3 ([] : List (S40)) false a1_0 l1_1 l1_2 l1_3 a1_4)) = some (r1, r2, r3) := H; have A16 := Aside0.mk A160; clear A160
     by_cases c17 : t192 = true
     ·subst c17
      have H1 : (if a3 ≥ 0 then (lease_Do.j0 k l0 a2 a3 ([] : List (S40)) (decide (a3 ≤ 2147482647)) a1_0 l1_1 l1_2 l1_3 a1_4) else (lease_Do.j0 k l0 a2 a3 ([] : List (S40)) false a1_0 l1_1 l1_2 l1_3 a1_4)) = some (r1, r2, r3) := by rw [if_pos rfl] at H; exact H
      clear H; have H := H1; clear H1
      by_cases c18 : a3 ≥ 0
      ·rw [if_pos c18] at H
       have c18b0 : decide (0 ≤ a3) = true := decide_eq_true c18; clear c18; have H' := Aside0.mk H; clear H
       go_wp2_with (first | ((with_reducible refine gate_callee (f := 14) rfl ?_); refine goesL_ (some 24) rfl rfl Try.func14 (by kernel_rfl) rfl #[.slice A0 l0.length c0] rfl (by (try simp only [List.map_toArray, List.map_cons, List.map_nil]); first | done | rfl | (simp only [List.length_drop, List.length_take]; rfl)) ?_; (with_reducible refine (lease_Right.calls k _ _ l0 true _ ?side1 ?side2 A12.out).mono ?_); (case side1 => exact Kd.Cu (Kd.C_below HR0.out HB.out)); (case side2 => exact HC0.out); rintro e w19 ⟨rfl, hb⟩; refine ⟨_, rfl, ?_⟩; have n0_ := Aside0.mk (blk_below (blk_u <| BK185.out) hb); have n1_ := Aside0.mk (blk_below (blk_u <| BK186.out) hb); have n2_ := Aside0.mk (below_step (below_v HB.out) hb); clear BK185; clear BK186; clear HB; have BK185 := n0_; have BK186 := n1_; have HB := n2_; clear n0_ n1_ n2_; (try clear hb); (try clear hb2); (try clear hk); (try clear hi); have hnb20 := NB185_186.out; have hnc20 := NB186_185.out; have hcz21_0 : w19.cell? ⟨gb185, 0, none⟩ = some (.int .i64 a1_0) := (blk_cell BK185.out 0).trans rfl; have hcz21_1 : w19.cell? ⟨gb185, 1, none⟩ = some (.slice A1_1 l1_1.length c1_1) := (blk_cell BK185.out 1).trans rfl; have hcz21_2 : w19.cell? ⟨gb185, 2, none⟩ = some (.slice A1_2 l1_2.length c1_2) := (blk_cell BK185.out 2).trans rfl; have hcz21_3 : w19.cell? ⟨gb185, 3, none⟩ = some (.slice A1_3 l1_3.length c1_3) := (blk_cell BK185.out 3).trans rfl; have hcz21_4 : w19.cell? ⟨gb185, 4, none⟩ = some (.int .i64 a1_4) := (blk_cell BK185.out 4).trans rfl; have hfz21_0 := blk_frozen BK185.out; have hfz21_4 := blk_frozen BK185.out 4) | (go_at_call 22; (with_reducible refine (lease_client.calls a2 true _ A16.out).mono ?_); rintro e w' ⟨rfl, ⟨nd, rfl⟩⟩))
       go_meet
       case rel => exact ⟨_, (decide (a3 ≤ 2147482647)), (by first | rfl | (simp; done) | (simp [*]; done)), H', ⟨by first | omega | exact Nat.le_refl _⟩, ⟨by first | exact Kd.S_nil _ _ _ _ _ | exact Kd.N_nil _ _ _ _ _ | exact Kd.V_nil _ _ _ _ _ | exact Kd.Q_nil _ _ _ _ _ | exact Kd.R_nil _ _ _ _ _⟩, ⟨blk_u <| BK185.out⟩, ⟨blk_u <| BK186.out⟩, ⟨below_v HB.out⟩⟩
      ·rw [if_neg c18] at H
       have c18b0 : decide (0 ≤ a3) = false := decide_eq_false c18; clear c18; have H' := Aside0.mk H; clear H
       go_wp2_with (first | ((with_reducible refine gate_callee (f := 14) rfl ?_); refine goesL_ (some 24) rfl rfl Try.func14 (by kernel_rfl) rfl #[.slice A0 l0.length c0] rfl (by (try simp only [List.map_toArray, List.map_cons, List.map_nil]); first | done | rfl | (simp only [List.length_drop, List.length_take]; rfl)) ?_; (with_reducible refine (lease_Right.calls k _ _ l0 true _ ?side1 ?side2 A12.out).mono ?_); (case side1 => exact Kd.Cu (Kd.C_below HR0.out HB.out)); (case side2 => exact HC0.out); rintro e w22 ⟨rfl, hb⟩; refine ⟨_, rfl, ?_⟩; have n0_ := Aside0.mk (blk_below (blk_u <| BK185.out) hb); have n1_ := Aside0.mk (blk_below (blk_u <| BK186.out) hb); have n2_ := Aside0.mk (below_step (below_v HB.out) hb); clear BK185; clear BK186; clear HB; have BK185 := n0_; have BK186 := n1_; have HB := n2_; clear n0_ n1_ n2_; (try clear hb); (try clear hb2); (try clear hk); (try clear hi); have hnb23 := NB185_186.out; have hnc23 := NB186_185.out; have hcz24_0 : w22.cell? ⟨gb185, 0, none⟩ = some (.int .i64 a1_0) := (blk_cell BK185.out 0).trans rfl; have hcz24_1 : w22.cell? ⟨gb185, 1, none⟩ = some (.slice A1_1 l1_1.length c1_1) := (blk_cell BK185.out 1).trans rfl; have hcz24_2 : w22.cell? ⟨gb185, 2, none⟩ = some (.slice A1_2 l1_2.length c1_2) := (blk_cell BK185.out 2).trans rfl; have hcz24_3 : w22.cell? ⟨gb185, 3, none⟩ = some (.slice A1_3 l1_3.length c1_3) := (blk_cell BK185.out 3).trans rfl; have hcz24_4 : w22.cell? ⟨gb185, 4, none⟩ = some (.int .i64 a1_4) := (blk_cell BK185.out 4).trans rfl; have hfz24_0 := blk_frozen BK185.out; have hfz24_4 := blk_frozen BK185.out 4) | (go_at_call 22; (with_reducible refine (lease_client.calls a2 true _ A16.out).mono ?_); rintro e w' ⟨rfl, ⟨nd, rfl⟩⟩))
       go_meet
       case rel => exact ⟨_, (false), (by first | rfl | (simp; done) | (simp [*]; done)), H', ⟨by first | omega | exact Nat.le_refl _⟩, ⟨by first | exact Kd.S_nil _ _ _ _ _ | exact Kd.N_nil _ _ _ _ _ | exact Kd.V_nil _ _ _ _ _ | exact Kd.Q_nil _ _ _ _ _ | exact Kd.R_nil _ _ _ _ _⟩, ⟨blk_u <| BK185.out⟩, ⟨blk_u <| BK186.out⟩, ⟨below_v HB.out⟩⟩
     ·replace c17 := Bool.eq_false_iff.mpr c17
      subst c17
      have H1 : (lease_Do.j0 k l0 a2 a3 ([] : List (S40)) false a1_0 l1_1 l1_2 l1_3 a1_4) = some (r1, r2, r3) := by rw [if_neg (show ¬ (false = true) by decide)] at H; exact H
      clear H; have H := H1; clear H1; have H' := Aside0.mk H; clear H
      go_wp2_with (first | ((with_reducible refine gate_callee (f := 14) rfl ?_); refine goesL_ (some 24) rfl rfl Try.func14 (by kernel_rfl) rfl #[.slice A0 l0.length c0] rfl (by (try simp only [List.map_toArray, List.map_cons, List.map_nil]); first | done | rfl | (simp only [List.length_drop, List.length_take]; rfl)) ?_; (with_reducible refine (lease_Right.calls k _ _ l0 true _ ?side1 ?side2 A12.out).mono ?_); (case side1 => exact Kd.Cu (Kd.C_below HR0.out HB.out)); (case side2 => exact HC0.out); rintro e w25 ⟨rfl, hb⟩; refine ⟨_, rfl, ?_⟩; have n0_ := Aside0.mk (blk_below (blk_u <| BK185.out) hb); have n1_ := Aside0.mk (blk_below (blk_u <| BK186.out) hb); have n2_ := Aside0.mk (below_step (below_v HB.out) hb); clear BK185; clear BK186; clear HB; have BK185 := n0_; have BK186 := n1_; have HB := n2_; clear n0_ n1_ n2_; (try clear hb); (try clear hb2); (try clear hk); (try clear hi); have hnb26 := NB185_186.out; have hnc26 := NB186_185.out; have hcz27_0 : w25.cell? ⟨gb185, 0, none⟩ = some (.int .i64 a1_0) := (blk_cell BK185.out 0).trans rfl; have hcz27_1 : w25.cell? ⟨gb185, 1, none⟩ = some (.slice A1_1 l1_1.length c1_1) := (blk_cell BK185.out 1).trans rfl; have hcz27_2 : w25.cell? ⟨gb185, 2, none⟩ = some (.slice A1_2 l1_2.length c1_2) := (blk_cell BK185.out 2).trans rfl; have hcz27_3 : w25.cell? ⟨gb185, 3, none⟩ = some (.slice A1_3 l1_3.length c1_3) := (blk_cell BK185.out 3).trans rfl; have hcz27_4 : w25.cell? ⟨gb185, 4, none⟩ = some (.int .i64 a1_4) := (blk_cell BK185.out 4).trans rfl; have hfz27_0 := blk_frozen BK185.out; have hfz27_4 := blk_frozen BK185.out 4) | (go_at_call 22; (with_reducible refine (lease_client.calls a2 false _ A16.out).mono ?_); rintro e w' ⟨rfl, ⟨nd, rfl⟩⟩))
      go_meet
      case rel => exact ⟨_, (false), (by first | rfl | (simp; done) | (simp [*]; done)), H', ⟨by first | omega | exact Nat.le_refl _⟩, ⟨by first | exact Kd.S_nil _ _ _ _ _ | exact Kd.N_nil _ _ _ _ _ | exact Kd.V_nil _ _ _ _ _ | exact Kd.Q_nil _ _ _ _ _ | exact Kd.R_nil _ _ _ _ _⟩, ⟨blk_u <| BK185.out⟩, ⟨blk_u <| BK186.out⟩, ⟨below_v HB.out⟩⟩
    ·rw [if_neg c15] at H
     have c15b0 : decide (5 ≤ a1_0) = false := decide_eq_false c15; clear c15; have H' := Aside0.mk H; clear H
     go_wp2_with (first | ((with_reducible refine gate_callee (f := 14) rfl ?_); refine goesL_ (some 24) rfl rfl Try.func14 (by kernel_rfl) rfl #[.slice A0 l0.length c0] rfl (by (try simp only [List.map_toArray, List.map_cons, List.map_nil]); first | done | rfl | (simp only [List.length_drop, List.length_take]; rfl)) ?_; (with_reducible refine (lease_Right.calls k _ _ l0 true _ ?side1 ?side2 A12.out).mono ?_); (case side1 => exact Kd.Cu (Kd.C_below HR0.out HB.out)); (case side2 => exact HC0.out); rintro e w28 ⟨rfl, hb⟩; refine ⟨_, rfl, ?_⟩; have n0_ := Aside0.mk (blk_below (blk_u <| BK185.out) hb); have n1_ := Aside0.mk (blk_below (blk_u <| BK186.out) hb); have n2_ := Aside0.mk (below_step (below_v HB.out) hb); clear BK185; clear BK186; clear HB; have BK185 := n0_; have BK186 := n1_; have HB := n2_; clear n0_ n1_ n2_; (try clear hb); (try clear hb2); (try clear hk); (try clear hi); have hnb29 := NB185_186.out; have hnc29 := NB186_185.out; have hcz30_0 : w28.cell? ⟨gb185, 0, none⟩ = some (.int .i64 a1_0) := (blk_cell BK185.out 0).trans rfl; have hcz30_1 : w28.cell? ⟨gb185, 1, none⟩ = some (.slice A1_1 l1_1.length c1_1) := (blk_cell BK185.out 1).trans rfl; have hcz30_2 : w28.cell? ⟨gb185, 2, none⟩ = some (.slice A1_2 l1_2.length c1_2) := (blk_cell BK185.out 2).trans rfl; have hcz30_3 : w28.cell? ⟨gb185, 3, none⟩ = some (.slice A1_3 l1_3.length c1_3) := (blk_cell BK185.out 3).trans rfl; have hcz30_4 : w28.cell? ⟨gb185, 4, none⟩ = some (.int .i64 a1_4) := (blk_cell BK185.out 4).trans rfl; have hfz30_0 := blk_frozen BK185.out; have hfz30_4 := blk_frozen BK185.out 4))
     go_meet
     case rel => exact ⟨_, (false), (by first | rfl | (simp; done) | (simp [*]; done)), H', ⟨by first | omega | exact Nat.le_refl _⟩, ⟨by first | exact Kd.S_nil _ _ _ _ _ | exact Kd.N_nil _ _ _ _ _ | exact Kd.V_nil _ _ _ _ _ | exact Kd.Q_nil _ _ _ _ _ | exact Kd.R_nil _ _ _ _ _⟩, ⟨blk_u <| BK185.out⟩, ⟨blk_u <| BK186.out⟩, ⟨below_v HB.out⟩⟩
   ·rw [if_neg c14] at H
    have c14b0 : (t190 == 0) = false := beq_eq_false_iff_ne.mpr c14; have c14b1 : (t190 != 0) = true := bne_iff_ne.mpr c14
    (first | rw [c14b0] | (simp only [i64_w, i32_w]; rw [c14b0]) | skip)
    have H' := Aside0.mk H; clear H
    go_wp2_with (first | ((with_reducible refine gate_callee (f := 14) rfl ?_); refine goesL_ (some 24) rfl rfl Try.func14 (by kernel_rfl) rfl #[.slice A0 l0.length c0] rfl (by (try simp only [List.map_toArray, List.map_cons, List.map_nil]); first | done | rfl | (simp only [List.length_drop, List.length_take]; rfl)) ?_; (with_reducible refine (lease_Right.calls k _ _ l0 true _ ?side1 ?side2 A12.out).mono ?_); (case side1 => exact Kd.Cu (Kd.C_below HR0.out HB.out)); (case side2 => exact HC0.out); rintro e w31 ⟨rfl, hb⟩; refine ⟨_, rfl, ?_⟩; have n0_ := Aside0.mk (blk_below (blk_u <| BK185.out) hb); have n1_ := Aside0.mk (blk_below (blk_u <| BK186.out) hb); have n2_ := Aside0.mk (below_step (below_v HB.out) hb); clear BK185; clear BK186; clear HB; have BK185 := n0_; have BK186 := n1_; have HB := n2_; clear n0_ n1_ n2_; (try clear hb); (try clear hb2); (try clear hk); (try clear hi)))
    go_meet
    case rel => exact ⟨_, (false), (by first | rfl | (simp; done) | (simp [*]; done)), H', ⟨by first | omega | exact Nat.le_refl _⟩, ⟨by first | exact Kd.S_nil _ _ _ _ _ | exact Kd.N_nil _ _ _ _ _ | exact Kd.V_nil _ _ _ _ _ | exact Kd.Q_nil _ _ _ _ _ | exact Kd.R_nil _ _ _ _ _⟩, ⟨blk_u <| BK185.out⟩, ⟨blk_u <| BK186.out⟩, ⟨below_v HB.out⟩⟩
  ·replace c13 := Bool.eq_false_iff.mpr c13
   subst c13
   have H1 : (lease_Do.j0 k l0 a2 a3 ([] : List (S40)) false a1_0 l1_1 l1_2 l1_3 a1_4) = some (r1, r2, r3) := by rw [if_neg (show ¬ (false = true) by decide)] at H; exact H
   clear H; have H := H1; clear H1; have H' := Aside0.mk H; clear H
   go_wp2_with (first | ((with_reducible refine gate_callee (f := 14) rfl ?_); refine goesL_ (some 24) rfl rfl Try.func14 (by kernel_rfl) rfl #[.slice A0 l0.length c0] rfl (by (try simp only [List.map_toArray, List.map_cons, List.map_nil]); first | done | rfl | (simp only [List.length_drop, List.length_take]; rfl)) ?_; (with_reducible refine (lease_Right.calls k _ _ l0 false _ ?side1 ?side2 A12.out).mono ?_); (case side1 => exact Kd.Cu (Kd.C_below HR0.out HB.out)); (case side2 => exact HC0.out); rintro e w32 ⟨rfl, hb⟩; refine ⟨_, rfl, ?_⟩; have n0_ := Aside0.mk (blk_below (blk_u <| BK185.out) hb); have n1_ := Aside0.mk (blk_below (blk_u <| BK186.out) hb); have n2_ := Aside0.mk (below_step (below_v HB.out) hb); clear BK185; clear BK186; clear HB; have BK185 := n0_; have BK186 := n1_; have HB := n2_; clear n0_ n1_ n2_; (try clear hb); (try clear hb2); (try clear hk); (try clear hi)))
   go_meet
   case rel => exact ⟨_, (false), (by first | rfl | (simp; done) | (simp [*]; done)), H', ⟨by first | omega | exact Nat.le_refl _⟩, ⟨by first | exact Kd.S_nil _ _ _ _ _ | exact Kd.N_nil _ _ _ _ _ | exact Kd.V_nil _ _ _ _ _ | exact Kd.Q_nil _ _ _ _ _ | exact Kd.R_nil _ _ _ _ _⟩, ⟨blk_u <| BK185.out⟩, ⟨blk_u <| BK186.out⟩, ⟨below_v HB.out⟩⟩
 case rest =>
  clear HC6
  try clear hcz10_0
  try clear hcz10_1
  try clear hcz10_2
  try clear hcz10_3
  try clear hcz10_4
  try clear hfz10_0
  try clear hfz10_4
  obtain ⟨kq, x13_5, rfl, HA, HJ5, HO_10, BK185, BK186, HB⟩ := hcut
  cases kq with
  | zero => exact absurd HA.out (by simp [lease_Do.j0])
  | succ kj5 =>
   have H := HA.out; clear HA; simp only [lease_Do.j0] at H; have H' := Aside0.mk H; clear H
   go_wp2
   go_loopg [10, 48] kj5 (fun kq v10 v48 w' => ∃ (x10_2 : List (S40)) (x48_2 : Int), v48 = .int .i64 x48_2 ∧ Aside0 (lease_Do.l0 kq a2 a3 x10_2 x13_5 l0 (l0.length : Int) x48_2 a1_0 l1_1 l1_2 l1_3 a1_4 = some (r1, r2, r3)) ∧ Aside0 (kq ≤ kj5) ∧ Aside0 (Kd.S k40 40 w' w.heap.size (fun _ => True) v10 x10_2) ∧ Aside0 (w'.heap[gb185]? = some (.cells #[.int .i64 a1_0, (.slice A1_1 l1_1.length c1_1), (.slice A1_2 l1_2.length c1_2), (.slice A1_3 l1_3.length c1_3), .int .i64 a1_4] 28 (0, 0))) ∧ Aside0 (w'.heap[gb186]? = some (.cells #[.int .i64 0, (.slice none 0 0)] 33 (0, 0))) ∧ Aside0 (Below w.heap.size w w'))
   case atStart => exact ⟨(([] : List (S40))), (0), (by first | rfl | (simp; done) | (simp [*]; done)), H', ⟨Nat.le_refl _⟩, ⟨Kd.Su <| HO_10.out⟩, ⟨blk_u <| BK185.out⟩, ⟨blk_u <| BK186.out⟩, ⟨below_v HB.out⟩⟩
   case round =>
    clear H'; obtain ⟨x10_2, x48_2, rfl, HA, HK2, HO_10, BK185, BK186, HB⟩ := hrel
    cases gk with
    | zero => exact absurd HA.out (by simp [lease_Do.l0])
    | succ k2 =>
     have H := HA.out; clear HA; simp only [lease_Do.l0] at H
     by_cases c33 : x48_2 < (l0.length : Int)
     ·rw [if_pos c33] at H
      have c33b0 : decide (x48_2 < (l0.length : Int)) = true := decide_eq_true c33; clear c33
      by_cases c34 : 0 ≤ x48_2
      ·rw [if_pos c34] at H
       have c34b0 : decide (0 ≤ x48_2) = true := decide_eq_true c34; clear c34
       by_cases c35 : x48_2 < (l0.length : Int)
       ·rw [if_pos c35] at H
        have c35b0 : decide (x48_2 < (l0.length : Int)) = true := decide_eq_true c35; clear c35; have HC36 := Aside0.mk H; clear H; have p193 : 0 ≤ (x48_2 : Int) := of_decide_eq_true (by first | (with_reducible assumption) | assumption); have q193 : x48_2 < (l0.length : Int) := of_decide_eq_true (by first | (with_reducible assumption) | assumption); obtain ⟨ad193, A193_0, c193_0, e193, hx193_0, hx193_1, hx193_2, hl193_0, hi193_0⟩ := at_T40 HR0.out x48_2 p193 q193
        cases e193
        replace hx193_0 := (HB.out.cell (World.block_lt_of_cell? w _ hx193_0)).trans hx193_0; replace hx193_1 := (HB.out.cell (World.block_lt_of_cell? w _ hx193_1)).trans hx193_1; replace hx193_2 := (HB.out.cell (World.block_lt_of_cell? w _ hx193_2)).trans hx193_2; have HR193_0 := Aside0.mk hi193_0; have HC193_0 := Aside0.mk hl193_0; clear hi193_0 hl193_0; replace p193 := eq_true p193; replace q193 := eq_true q193
        go_upto_region 7 with (first | ((with_reducible refine gate_dst (N := 15) rfl ?_); (try (refine gate_guard (by rfl) ?_; dsimp only)); refine box_event ?hg (N := 15) ?hd (cs := #[.slice none 0 0, .int .i64 0, .int .i64 0]) (t := 40) ?hr ?_; (case hd => rfl); (case hg => rfl); (case hr => first | (go_simp; done) | (go_simp; rfl)); intro gb194 hg w37 hbox hb; have n0_ := Aside0.mk (Kd.S_below (Kd.S_elderB (Kd.Su <| HO_10.out) gb194 (Nat.le_of_eq hg.symm)) hb); have n1_ := Aside0.mk (blk_below (blk_u <| BK185.out) hb); have n2_ := Aside0.mk (blk_below (blk_u <| BK186.out) hb); have n3_ := Aside0.mk (below_step (below_v HB.out) hb); have n4_ := Aside0.mk (hbox); have n5_ := Aside0.mk ((by rw [hg]; exact (below_size (below_v HB.out)) : w.heap.size ≤ gb194)); have n6_ := Aside0.mk ((by rw [hg]; exact (below_size (below_v HB.out)) : w.heap.size ≤ gb194)); have n7_ := Aside0.mk ((by rw [hg]; exact Nat.ne_of_lt (blk_lt (blk_u <| BK185.out)) : gb185 ≠ gb194)); have n8_ := Aside0.mk ((by rw [hg]; exact Nat.ne_of_gt (blk_lt (blk_u <| BK185.out)) : gb194 ≠ gb185)); have n9_ := Aside0.mk ((by rw [hg]; exact Nat.ne_of_lt (blk_lt (blk_u <| BK186.out)) : gb186 ≠ gb194)); have n10_ := Aside0.mk ((by rw [hg]; exact Nat.ne_of_gt (blk_lt (blk_u <| BK186.out)) : gb194 ≠ gb186)); clear HO_10; clear BK185; clear BK186; clear HB; have HO_10 := n0_; have BK185 := n1_; have BK186 := n2_; have HB := n3_; have BK194 := n4_; have GW194 := n5_; have GE194 : GeB _ _ := ⟨⟨n6_.out⟩⟩; have NB185_194 := n7_; have NB194_185 := n8_; have NB186_194 := n9_; have NB194_186 := n10_; clear n0_ n1_ n2_ n3_ n4_ n5_ n6_ n7_ n8_ n9_ n10_; clear hb hbox hg; have hnb38 := NB194_185.out; have hnc38 := NB185_194.out; have hnb39 := NB194_186.out; have hnc39 := NB186_194.out; have hcz40_0 : w37.cell? ⟨gb194, 0, none⟩ = some (.slice none 0 0) := (blk_cell BK194.out 0).trans rfl; have hcz40_1 : w37.cell? ⟨gb194, 1, none⟩ = some (.int .i64 0) := (blk_cell BK194.out 1).trans rfl; have hcz40_2 : w37.cell? ⟨gb194, 2, none⟩ = some (.int .i64 0) := (blk_cell BK194.out 2).trans rfl; have hfz40_0 := blk_frozen BK194.out; have hfz40_2 := blk_frozen BK194.out 2))
        (try simp only [Act.put, List.setIfInBounds_toArray, List.set_cons_zero, List.set_cons_succ])
        go_cut [59] (fun v59 wc => ∃ (kq : Nat) (x59_35 : Bool), v59 = .bool x59_35 ∧ Aside0 (lease_Do.j2 kq a2 a3 x10_2 x13_5 l0 (l0.length : Int) x48_2 x59_35 a1_0 l1_1 l1_2 l1_3 a1_4 ((rd_T40 l0 x48_2).f0) ((rd_T40 l0 x48_2).f1) ((rd_T40 l0 x48_2).f2) = some (r1, r2, r3)) ∧ Aside0 (kq ≤ k2) ∧ Aside0 (Kd.S k40 40 wc w.heap.size (fun k_ => k_ ≠ gb194) u10 x10_2) ∧ Aside0 (wc.heap[gb185]? = some (.cells #[.int .i64 a1_0, (.slice A1_1 l1_1.length c1_1), (.slice A1_2 l1_2.length c1_2), (.slice A1_3 l1_3.length c1_3), .int .i64 a1_4] 28 (0, 0))) ∧ Aside0 (wc.heap[gb186]? = some (.cells #[.int .i64 0, (.slice none 0 0)] 33 (0, 0))) ∧ Aside0 (wc.heap[gb194]? = some (.cells #[(.slice A193_0 ((rd_T40 l0 x48_2).f0).length c193_0), .int .i64 ((rd_T40 l0 x48_2).f1), .int .i64 ((rd_T40 l0 x48_2).f2)] 40 (0, 0))) ∧ Aside0 (Below w.heap.size w wc))
        case first =>
         have H := HC36.out; clear HC36
         by_cases c41 : x13_5 = true
         ·subst c41
          have H1 : (lease_Do.j2 k2 a2 a3 x10_2 true l0 (l0.length : Int) x48_2 (decide (((rd_T40 l0 x48_2).f2) > a3)) a1_0 l1_1 l1_2 l1_3 a1_4 ((rd_T40 l0 x48_2).f0) ((rd_T40 l0 x48_2).f1) ((rd_T40 l0 x48_2).f2)) = some (r1, r2, r3) := by rw [if_pos rfl] at H; exact H
          clear H; have H := H1; clear H1; have H' := Aside0.mk H; clear H; have hnb42 := NB194_185.out; have hnc42 := NB185_194.out; have hnb43 := NB194_186.out; have hnc43 := NB186_194.out; have hcz44_0 : w37.cell? ⟨gb194, 0, none⟩ = some (.slice none 0 0) := (blk_cell BK194.out 0).trans rfl; have hcz44_1 : w37.cell? ⟨gb194, 1, none⟩ = some (.int .i64 0) := (blk_cell BK194.out 1).trans rfl; have hcz44_2 : w37.cell? ⟨gb194, 2, none⟩ = some (.int .i64 0) := (blk_cell BK194.out 2).trans rfl; have hfz44_0 := blk_frozen BK194.out
          go_wp2
          go_meet
          case rel => exact ⟨_, (decide (((rd_T40 l0 x48_2).f2) > a3)), (by first | rfl | (simp; done) | (simp [*]; done)), H', ⟨by have := HJ5.out; have := HK2.out; first | omega | exact Nat.le_refl _⟩, ⟨Kd.Su <| Kd.S_mono (Kd.S_far (p := ⟨gb194, 2, none⟩) (Kd.S_far (p := ⟨gb194, 1, none⟩) (Kd.S_far (p := ⟨gb194, 0, none⟩) (Kd.S_mono HO_10.out (fun k_ hk => (⟨hk, hk.2⟩ : _ ∧ k_ ≠ gb194))) (fun _ hk => hk.2) (.slice A193_0 ((rd_T40 l0 x48_2).f0).length c193_0)) (fun _ hk => hk.2) (.int .i64 ((rd_T40 l0 x48_2).f1))) (fun _ hk => hk.2) (.int .i64 ((rd_T40 l0 x48_2).f2))) (fun _ hk => hk.1.2)⟩, ⟨by (with_reducible repeat (first | refine blk_drewN ?_ _ | refine blk_drew ?_ | refine blk_alloc ?_ _)); refine blk_far ?_ NB185_194.out _; (with_reducible repeat (first | refine blk_drewN ?_ _ | refine blk_drew ?_ | refine blk_alloc ?_ _)); refine blk_far ?_ NB185_194.out _; (with_reducible repeat (first | refine blk_drewN ?_ _ | refine blk_drew ?_ | refine blk_alloc ?_ _)); refine blk_far ?_ NB185_194.out _; (with_reducible repeat (first | refine blk_drewN ?_ _ | refine blk_drew ?_ | refine blk_alloc ?_ _)); exact BK185.out⟩, ⟨by (with_reducible repeat (first | refine blk_drewN ?_ _ | refine blk_drew ?_ | refine blk_alloc ?_ _)); refine blk_far ?_ NB186_194.out _; (with_reducible repeat (first | refine blk_drewN ?_ _ | refine blk_drew ?_ | refine blk_alloc ?_ _)); refine blk_far ?_ NB186_194.out _; (with_reducible repeat (first | refine blk_drewN ?_ _ | refine blk_drew ?_ | refine blk_alloc ?_ _)); refine blk_far ?_ NB186_194.out _; (with_reducible repeat (first | refine blk_drewN ?_ _ | refine blk_drew ?_ | refine blk_alloc ?_ _)); exact BK186.out⟩, ⟨by (with_reducible repeat (first | refine blk_drewN ?_ _ | refine blk_drew ?_ | refine blk_alloc ?_ _)); refine blk_p3 (blk_u <| BK194.out) rfl⟩, ⟨below_v HB.out⟩⟩
         ·replace c41 := Bool.eq_false_iff.mpr c41
          subst c41
          have H1 : (lease_Do.j2 k2 a2 a3 x10_2 false l0 (l0.length : Int) x48_2 true a1_0 l1_1 l1_2 l1_3 a1_4 ((rd_T40 l0 x48_2).f0) ((rd_T40 l0 x48_2).f1) ((rd_T40 l0 x48_2).f2)) = some (r1, r2, r3) := by rw [if_neg (show ¬ (false = true) by decide)] at H; exact H
          clear H; have H := H1; clear H1; have H' := Aside0.mk H; clear H
          go_wp2
          go_meet
          case rel => exact ⟨_, (true), (by first | rfl | (simp; done) | (simp [*]; done)), H', ⟨by have := HJ5.out; have := HK2.out; first | omega | exact Nat.le_refl _⟩, ⟨Kd.Su <| Kd.S_mono (Kd.S_far (p := ⟨gb194, 2, none⟩) (Kd.S_far (p := ⟨gb194, 1, none⟩) (Kd.S_far (p := ⟨gb194, 0, none⟩) (Kd.S_mono HO_10.out (fun k_ hk => (⟨hk, hk.2⟩ : _ ∧ k_ ≠ gb194))) (fun _ hk => hk.2) (.slice A193_0 ((rd_T40 l0 x48_2).f0).length c193_0)) (fun _ hk => hk.2) (.int .i64 ((rd_T40 l0 x48_2).f1))) (fun _ hk => hk.2) (.int .i64 ((rd_T40 l0 x48_2).f2))) (fun _ hk => hk.1.2)⟩, ⟨by (with_reducible repeat (first | refine blk_drewN ?_ _ | refine blk_drew ?_ | refine blk_alloc ?_ _)); refine blk_far ?_ NB185_194.out _; (with_reducible repeat (first | refine blk_drewN ?_ _ | refine blk_drew ?_ | refine blk_alloc ?_ _)); refine blk_far ?_ NB185_194.out _; (with_reducible repeat (first | refine blk_drewN ?_ _ | refine blk_drew ?_ | refine blk_alloc ?_ _)); refine blk_far ?_ NB185_194.out _; (with_reducible repeat (first | refine blk_drewN ?_ _ | refine blk_drew ?_ | refine blk_alloc ?_ _)); exact BK185.out⟩, ⟨by (with_reducible repeat (first | refine blk_drewN ?_ _ | refine blk_drew ?_ | refine blk_alloc ?_ _)); refine blk_far ?_ NB186_194.out _; (with_reducible repeat (first | refine blk_drewN ?_ _ | refine blk_drew ?_ | refine blk_alloc ?_ _)); refine blk_far ?_ NB186_194.out _; (with_reducible repeat (first | refine blk_drewN ?_ _ | refine blk_drew ?_ | refine blk_alloc ?_ _)); refine blk_far ?_ NB186_194.out _; (with_reducible repeat (first | refine blk_drewN ?_ _ | refine blk_drew ?_ | refine blk_alloc ?_ _)); exact BK186.out⟩, ⟨by (with_reducible repeat (first | refine blk_drewN ?_ _ | refine blk_drew ?_ | refine blk_alloc ?_ _)); refine blk_p3 (blk_u <| BK194.out) rfl⟩, ⟨below_v HB.out⟩⟩
        case rest =>
         clear HC36
         try clear c33
         try clear c33b0
         try clear c34
         try clear c34b0
         try clear c35
         try clear c35b0
         try clear hcz40_0
         try clear hcz40_1
         try clear hcz40_2
         try clear hfz40_0
         try clear hfz40_2
         try clear hx193_0
         try clear hx193_1
         try clear hx193_2
         try clear p193
         try clear q193
         obtain ⟨kq, x59_35, rfl, HA, HJ35, HO_10, BK185, BK186, BK194, HB⟩ := hcut
         cases kq with
         | zero => exact absurd HA.out (by simp [lease_Do.j2])
         | succ kj35 =>
          have H := HA.out; clear HA; simp only [lease_Do.j2] at H
          by_cases c45 : x59_35 = true
          ·subst c45
           have H1 : ((lease_clone.f ((rd_T40 l0 x48_2).f0) ((rd_T40 l0 x48_2).f1) ((rd_T40 l0 x48_2).f2)).bind fun bt195 => (if x10_2.length < 3518437208883 then (lease_Do.l0 kj35 a2 a3 (x10_2 ++ [(⟨bt195.1, bt195.2.1, bt195.2.2⟩ : S40)]) x13_5 l0 (l0.length : Int) (wrap64 (x48_2 + 1)) a1_0 l1_1 l1_2 l1_3 a1_4) else (none))) = some (r1, r2, r3) := by rw [if_pos rfl] at H; exact H
           clear H; have H := H1; clear H1; replace H := Option.bind_eq_some_iff.mp H; obtain ⟨⟨t195, t198, t199⟩, A460, H⟩ := H; replace H : (if x10_2.length < 3518437208883 then (lease_Do.l0 kj35 a2 a3 (x10_2 ++ [(⟨t195, t198, t199⟩ : S40)]) x13_5 l0 (l0.length : Int) (wrap64 (x48_2 + 1)) a1_0 l1_1 l1_2 l1_3 a1_4) else (none)) = some (r1, r2, r3) := H; have A46 := Aside0.mk A460; clear A460
           by_cases c47 : x10_2.length < 3518437208883
           ·rw [if_pos c47] at H
            have LMc47 := Aside0.mk c47; clear c47; obtain ⟨y200, hy200⟩ : ∃ y_ : List (S40), y_ = (x10_2 ++ [(⟨t195, t198, t199⟩ : S40)]) := ⟨_, rfl⟩
            replace H : (lease_Do.l0 kj35 a2 a3 y200 x13_5 l0 (l0.length : Int) (wrap64 (x48_2 + 1)) a1_0 l1_1 l1_2 l1_3 a1_4) = some (r1, r2, r3) := by first | (rw [hy200]; with_reducible exact H) | (have H2_ := (Option.bind_some _ _).symm.trans H; rw [hy200]; with_reducible exact H2_) | (have H2_ := (Option.bind_some _ _).symm.trans H; with_reducible exact H2_) | with_reducible exact H | (rw [hy200]; exact H) | exact H
            have Ny200 := Aside0.mk hy200; clear hy200; have H' := Aside0.mk H; clear H; have hnb48 := NB194_185.out; have hnc48 := NB185_194.out; have hnb49 := NB194_186.out; have hnc49 := NB186_194.out; have hcz50_0 : wc.cell? ⟨gb194, 0, none⟩ = some (.slice A193_0 ((rd_T40 l0 x48_2).f0).length c193_0) := (blk_cell BK194.out 0).trans rfl; have hcz50_1 : wc.cell? ⟨gb194, 1, none⟩ = some (.int .i64 ((rd_T40 l0 x48_2).f1)) := (blk_cell BK194.out 1).trans rfl; have hcz50_2 : wc.cell? ⟨gb194, 2, none⟩ = some (.int .i64 ((rd_T40 l0 x48_2).f2)) := (blk_cell BK194.out 2).trans rfl; have hfz50_0 := blk_frozen BK194.out
            go_wp2_with (first | ((with_reducible refine gate_callee (f := 23) rfl ?_); refine goesL_ (some 62) rfl rfl Try.func23 (by kernel_rfl) rfl #[.agg #[.slice A193_0 ((rd_T40 l0 x48_2).f0).length c193_0, .int .i64 ((rd_T40 l0 x48_2).f1), .int .i64 ((rd_T40 l0 x48_2).f2)]] rfl (by (try simp only [List.map_toArray, List.map_cons, List.map_nil]); first | done | rfl | (simp only [List.length_drop, List.length_take]; rfl)) ?_; (with_reducible refine (lease_clone.calls _ _ ((rd_T40 l0 x48_2).f0) ((rd_T40 l0 x48_2).f1) ((rd_T40 l0 x48_2).f2) t195 t198 t199 _ ?side1 ?side2 A46.out).mono ?_); (case side1 => exact Kd.Cu (Kd.C_below HR193_0.out HB.out)); (case side2 => exact HC193_0.out); rintro e w51 ⟨v196, rfl, ho0, hb⟩; refine ⟨_, rfl, ?_⟩; have n0_ := Aside0.mk (Kd.S_elder' (Kd.Su <| HO_10.out) (Kd.R_base ho0) hb); have n1_ := Aside0.mk (Kd.R_lower ho0 (below_size (below_v HB.out))); have n2_ := Aside0.mk (blk_below (blk_u <| BK185.out) hb); have n3_ := Aside0.mk (blk_below (blk_u <| BK186.out) hb); have n4_ := Aside0.mk (blk_below (blk_u <| BK194.out) hb); have n5_ := Aside0.mk (below_step (below_v HB.out) hb); clear HO_10; clear BK185; clear BK186; clear BK194; clear HB; have HO_10 := n0_; have HO197 := n1_; have BK185 := n2_; have BK186 := n3_; have BK194 := n4_; have HB := n5_; clear n0_ n1_ n2_ n3_ n4_ n5_; (try clear hb); (try clear hb2); (try clear hk); (try clear hi); (try clear ho0); obtain ⟨Ao53, co53, eo53⟩ := Kd.R_slice HO197.out; subst eo53) | ((with_reducible refine gate_builtin (b := .append) (xs := #[.tmp 60, .tmp 63]) rfl ?_); (try (refine gate_guard (by rfl) ?_; dsimp only)); at_builtin; refine Kd.S_append k40 (w0 := w) w.heap.size rfl (.tmp 60) (.tmp 63) 26 40 (.agg #[(.slice none 0 0), (.int .i64 0), (.int .i64 0)]) 40 rfl Try.underlying26 info40 rfl (by decide) (by omega) u10 x10_2 (⟨t195, t198, t199⟩ : S40) [.slice Ao53 t195.length co53, .int .i64 t198, .int .i64 t199] (fun k_ => k_ ≠ gb194) (fun k_ => some k_ = (.slice Ao53 t195.length co53 : Value).ownBlock) rfl rfl ?aP (fun k_ hk_ => ((Kd.R_mono (ok' := fun k_ => ((fun k_ => k_ ≠ gb194)) k_ ∧ some k_ ≠ (u10 : Value).ownBlock) (Kd.R_types (Kd.R_apart' (HO197.out) (Kd.S_typed HO_10.out) (by decide)) BK194.out (by decide)) (fun k_ hk => ⟨hk.2, hk.1.2⟩))).1 k_ hk_.symm) ?aF ?aO ?aB ?aS ?aL ?_; (case aP => exact k40_mkM _ _ _ (⟨t195, t198, t199⟩ : S40) (Kd.R_mono (Kd.R_tight rfl (Kd.R_mono (ok' := fun k_ => ((fun k_ => k_ ≠ gb194)) k_ ∧ some k_ ≠ (u10 : Value).ownBlock) (Kd.R_types (Kd.R_apart' (HO197.out) (Kd.S_typed HO_10.out) (by decide)) BK194.out (by decide)) (fun k_ hk => ⟨hk.2, hk.1.2⟩))) (fun _ h_ => h_))); (case aB => exact (below_v HB.out)); (case aF => exact (fun k_ hk => Kd.freshB (g := gb194) (o := .cells #[.slice A193_0 ((rd_T40 l0 x48_2).f0).length c193_0, .int .i64 ((rd_T40 l0 x48_2).f1), .int .i64 ((rd_T40 l0 x48_2).f2)] 40 (0, 0)) (blk_u <| BK194.out) k_ hk)); (case aO => exact (Kd.Su <| Kd.S_mono HO_10.out (fun k_ hk => ⟨hk.1, fun e_ => hk.2 e_⟩))); (case aS => exact (below_size (below_v HB.out))); (case aL => have := LMc47.out; omega); intro v201 w52 ho hb hg hat; rw [← Ny200.out] at ho; have n0_ := Aside0.mk (blk_grown (blk_u <| BK185.out) hg (Kd.S_ne HO_10.out BK185.out (by decide))); have n1_ := Aside0.mk (blk_grown (blk_u <| BK186.out) hg (Kd.S_ne HO_10.out BK186.out (by decide))); have n2_ := Aside0.mk (blk_grown (blk_u <| BK194.out) hg (Kd.S_away HO_10.out (fun _ hk => hk.1))); have n3_ := Aside0.mk (hb); have n4_ := Aside0.mk (ho); clear BK185; clear BK186; clear BK194; clear HB; clear HO_10; clear HO197; have BK185 := n0_; have BK186 := n1_; have BK194 := n2_; have HB := n3_; have HO202 := n4_; clear n0_ n1_ n2_ n3_ n4_; clear ho hb hg hat))
            go_roundg kj35
            case measure => have := HJ5.out; have := HK2.out; have := HJ35.out; omega
            case rel => exact ⟨(y200), (wrap64 (x48_2 + 1)), (by first | rfl | (simp; done) | (simp [*]; done)), H', ⟨by have := HJ5.out; have := HK2.out; have := HJ35.out; omega⟩, ⟨Kd.Su <| Kd.S_mono HO202.out (fun _ hk => trivial)⟩, ⟨blk_u <| BK185.out⟩, ⟨blk_u <| BK186.out⟩, ⟨below_v HB.out⟩⟩
           ·rw [if_neg c47] at H
            exact absurd H (by simp)
          ·replace c45 := Bool.eq_false_iff.mpr c45
           subst c45
           have H1 : (lease_Do.l0 kj35 a2 a3 x10_2 x13_5 l0 (l0.length : Int) (wrap64 (x48_2 + 1)) a1_0 l1_1 l1_2 l1_3 a1_4) = some (r1, r2, r3) := by rw [if_neg (show ¬ (false = true) by decide)] at H; exact H
           clear H; have H := H1; clear H1; have H' := Aside0.mk H; clear H
           go_wp2
           go_roundg kj35
           case measure => have := HJ5.out; have := HK2.out; have := HJ35.out; omega
           case rel => exact ⟨(x10_2), (wrap64 (x48_2 + 1)), (by first | rfl | (simp; done) | (simp [*]; done)), H', ⟨by have := HJ5.out; have := HK2.out; have := HJ35.out; omega⟩, ⟨Kd.Su <| Kd.S_mono HO_10.out (fun _ hk => trivial)⟩, ⟨blk_u <| BK185.out⟩, ⟨blk_u <| BK186.out⟩, ⟨below_v HB.out⟩⟩
       ·rw [if_neg c35] at H
        exact absurd H (by simp)
      ·rw [if_neg c34] at H
       exact absurd H (by simp)
     ·rw [if_neg c33] at H
      have c33b0 : decide (x48_2 < (l0.length : Int)) = false := decide_eq_false c33; clear c33
      by_cases c54 : x13_5 = true
      ·subst c54
       have H1 : ((api_Lease_byte.f k2 x10_2 l1_1 ()).bind fun bt203 => (if bt203.2 = true then (lease_Do.j3 k2 a2 a3 x10_2 bt203.1 bt203.2 false a1_0 l1_1 l1_2 l1_3 a1_4) else (lease_Do.j3 k2 a2 a3 x10_2 bt203.1 bt203.2 (a1_0 != 5) a1_0 l1_1 l1_2 l1_3 a1_4))) = some (r1, r2, r3) := by rw [if_pos rfl] at H; exact H
       clear H; have H := H1; clear H1; replace H := Option.bind_eq_some_iff.mp H; obtain ⟨⟨t203, t204⟩, A550, H⟩ := H; replace H : (if t204 = true then (lease_Do.j3 k2 a2 a3 x10_2 t203 t204 false a1_0 l1_1 l1_2 l1_3 a1_4) else (lease_Do.j3 k2 a2 a3 x10_2 t203 t204 (a1_0 != 5) a1_0 l1_1 l1_2 l1_3 a1_4)) = some (r1, r2, r3) := H; have A55 := Aside0.mk A550; clear A550; have HC56 := Aside0.mk H; clear H; have hnb57 := NB185_186.out; have hnc57 := NB186_185.out; have hcz58_0 : wr.cell? ⟨gb185, 0, none⟩ = some (.int .i64 a1_0) := (blk_cell BK185.out 0).trans rfl; have hcz58_1 : wr.cell? ⟨gb185, 1, none⟩ = some (.slice A1_1 l1_1.length c1_1) := (blk_cell BK185.out 1).trans rfl; have hcz58_2 : wr.cell? ⟨gb185, 2, none⟩ = some (.slice A1_2 l1_2.length c1_2) := (blk_cell BK185.out 2).trans rfl; have hcz58_3 : wr.cell? ⟨gb185, 3, none⟩ = some (.slice A1_3 l1_3.length c1_3) := (blk_cell BK185.out 3).trans rfl; have hcz58_4 : wr.cell? ⟨gb185, 4, none⟩ = some (.int .i64 a1_4) := (blk_cell BK185.out 4).trans rfl; have hfz58_0 := blk_frozen BK185.out; obtain ⟨Ao59, co59, eo59⟩ := Kd.S_slice HO_10.out; subst eo59
       go_upto_region 13 with (first | ((with_reducible refine gate_callee (f := 24) rfl ?_); refine goesL_ (some 74) rfl rfl Try.func24 (by kernel_rfl) rfl #[.slice Ao59 x10_2.length co59, .slice A1_1 l1_1.length c1_1, .func (.func 25) #[] #[]] rfl (by (try simp only [List.map_toArray, List.map_cons, List.map_nil]); first | done | rfl | (simp only [List.length_drop, List.length_take]; rfl)) ?_; (with_reducible refine (api_Lease_byte.calls k2 _ _ x10_2 _ _ l1_1 () t203 t204 _ ?side1 ?side2 ?side3 ?side4 A55.out).mono ?_); (case side1 => exact Kd.Cu (Kd.S_reads' HO_10.out).2.2); (case side2 => exact (Kd.S_reads' HO_10.out).2.1); (case side3 => exact Kd.Cu (Kd.C_below HR1_1.out HB.out)); (case side4 => exact HC1_1.out); rintro e w60 ⟨rfl, hb⟩; refine ⟨_, rfl, ?_⟩; have n0_ := Aside0.mk (Kd.S_below (Kd.Su <| HO_10.out) hb); have n1_ := Aside0.mk (blk_below (blk_u <| BK185.out) hb); have n2_ := Aside0.mk (blk_below (blk_u <| BK186.out) hb); have n3_ := Aside0.mk (below_step (below_v HB.out) hb); clear HO_10; clear BK185; clear BK186; clear HB; have HO_10 := n0_; have BK185 := n1_; have BK186 := n2_; have HB := n3_; clear n0_ n1_ n2_ n3_; (try clear hb); (try clear hb2); (try clear hk); (try clear hi)))
       (try simp only [Act.put, List.setIfInBounds_toArray, List.set_cons_zero, List.set_cons_succ])
       go_cut [77] (fun v77 wc => ∃ (kq : Nat) (x77_55 : Bool), v77 = .bool x77_55 ∧ Aside0 (lease_Do.j3 kq a2 a3 x10_2 t203 t204 x77_55 a1_0 l1_1 l1_2 l1_3 a1_4 = some (r1, r2, r3)) ∧ Aside0 (kq ≤ k2) ∧ Aside0 (Kd.S k40 40 wc w.heap.size (fun _ => True) (.slice Ao59 x10_2.length co59) x10_2) ∧ Aside0 (wc.heap[gb185]? = some (.cells #[.int .i64 a1_0, (.slice A1_1 l1_1.length c1_1), (.slice A1_2 l1_2.length c1_2), (.slice A1_3 l1_3.length c1_3), .int .i64 a1_4] 28 (0, 0))) ∧ Aside0 (wc.heap[gb186]? = some (.cells #[.int .i64 0, (.slice none 0 0)] 33 (0, 0))) ∧ Aside0 (Below w.heap.size w wc))
       case first =>
        have H := HC56.out; clear HC56
        by_cases c61 : t204 = true
        ·subst c61
         have H1 : (lease_Do.j3 k2 a2 a3 x10_2 t203 true false a1_0 l1_1 l1_2 l1_3 a1_4) = some (r1, r2, r3) := by rw [if_pos rfl] at H; exact H
         clear H; have H := H1; clear H1; have H' := Aside0.mk H; clear H
         go_wp2
         go_meet
         case rel => exact ⟨_, (false), (by first | rfl | (simp; done) | (simp [*]; done)), H', ⟨by have := HJ5.out; have := HK2.out; first | omega | exact Nat.le_refl _⟩, ⟨Kd.Su <| HO_10.out⟩, ⟨blk_u <| BK185.out⟩, ⟨blk_u <| BK186.out⟩, ⟨below_v HB.out⟩⟩
        ·replace c61 := Bool.eq_false_iff.mpr c61
         subst c61
         have H1 : (lease_Do.j3 k2 a2 a3 x10_2 t203 false (a1_0 != 5) a1_0 l1_1 l1_2 l1_3 a1_4) = some (r1, r2, r3) := by rw [if_neg (show ¬ (false = true) by decide)] at H; exact H
         clear H; have H := H1; clear H1; have H' := Aside0.mk H; clear H; have hnb62 := NB185_186.out; have hnc62 := NB186_185.out; have hcz63_0 : w60.cell? ⟨gb185, 0, none⟩ = some (.int .i64 a1_0) := (blk_cell BK185.out 0).trans rfl; have hcz63_1 : w60.cell? ⟨gb185, 1, none⟩ = some (.slice A1_1 l1_1.length c1_1) := (blk_cell BK185.out 1).trans rfl; have hcz63_2 : w60.cell? ⟨gb185, 2, none⟩ = some (.slice A1_2 l1_2.length c1_2) := (blk_cell BK185.out 2).trans rfl; have hcz63_3 : w60.cell? ⟨gb185, 3, none⟩ = some (.slice A1_3 l1_3.length c1_3) := (blk_cell BK185.out 3).trans rfl; have hcz63_4 : w60.cell? ⟨gb185, 4, none⟩ = some (.int .i64 a1_4) := (blk_cell BK185.out 4).trans rfl; have hfz63_0 := blk_frozen BK185.out
         go_wp2
         go_meet
         case rel => exact ⟨_, ((a1_0 != 5)), (by first | rfl | (simp; done) | (simp [*]; done)), H', ⟨by have := HJ5.out; have := HK2.out; first | omega | exact Nat.le_refl _⟩, ⟨Kd.Su <| HO_10.out⟩, ⟨blk_u <| BK185.out⟩, ⟨blk_u <| BK186.out⟩, ⟨below_v HB.out⟩⟩
       case rest =>
        clear HC56
        try clear c33b0
        try clear c54
        try clear hcz58_0
        try clear hcz58_1
        try clear hcz58_2
        try clear hcz58_3
        try clear hcz58_4
        try clear hfz58_0
        obtain ⟨kq, x77_55, rfl, HA, HJ55, HO_10, BK185, BK186, HB⟩ := hcut
        cases kq with
        | zero => exact absurd HA.out (by simp [lease_Do.j3])
        | succ kj55 =>
         have H := HA.out; clear HA; simp only [lease_Do.j3] at H
         by_cases c64 : x77_55 = true
         ·subst c64
          have H1 : (some (x10_2, 1, ([] : List Int))) = some (r1, r2, r3) := by rw [if_pos rfl] at H; exact H
          clear H; have H := H1; clear H1; simp only [Option.some.injEq, Prod.mk.injEq] at H; obtain ⟨rfl, rfl, rfl⟩ := H; have hnb65 := NB186_185.out; have hnc65 := NB185_186.out; have hcz66_0 : wc.cell? ⟨gb186, 0, none⟩ = some (.int .i64 0) := (blk_cell BK186.out 0).trans rfl; have hcz66_1 : wc.cell? ⟨gb186, 1, none⟩ = some (.slice none 0 0) := (blk_cell BK186.out 1).trans rfl; have hfz66_0 := blk_frozen BK186.out
          go_wp2
          refine bodyPost_ret (results_tc rfl _ _ gb186 33 #[.int .i64 1, .slice none 0 0] (0, 0) _ rfl (by (with_reducible repeat (first | refine blk_drewN ?_ _ | refine blk_drew ?_ | refine blk_alloc ?_ _)); refine blk_p2 (blk_u <| BK186.out) rfl) Try.underlying33 rfl (by kernel_rfl)) rfl ?_; exact ⟨_, _, by first | rfl | (simp [errW_none, errW_some] <;> rfl) | (simp [*, errW_none, errW_some] <;> rfl), Kd.Su <| Kd.S_mono (Kd.S_far (p := ⟨gb186, 1, none⟩) (Kd.S_far (p := ⟨gb186, 0, none⟩) (Kd.S_types HO_10.out BK186.out (by decide)) (fun _ hk => hk.2) (.int .i64 1)) (fun _ hk => hk.2) (.slice none 0 0)) (fun _ hk => (by simp [Value.ownBlock])), by first | exact Kd.R_nil _ _ _ _ _ | exact Kd.N_nil _ _ _ _ _ | exact Kd.V_nil _ _ _ _ _ | exact Kd.Q_nil _ _ _ _ _ | exact Kd.S_nil _ _ _ _ _, below_v HB.out⟩
         ·replace c64 := Bool.eq_false_iff.mpr c64
          subst c64
          have H1 : (if t204 = true then (lease_Do.j4 kj55 a2 a3 x10_2 t203 t204 false a1_0 l1_1 l1_2 l1_3 a1_4) else (lease_Do.j4 kj55 a2 a3 x10_2 t203 t204 ((x10_2.length : Int) == 16) a1_0 l1_1 l1_2 l1_3 a1_4)) = some (r1, r2, r3) := by rw [if_neg (show ¬ (false = true) by decide)] at H; exact H
          clear H; have H := H1; clear H1; have HC67 := Aside0.mk H; clear H
          go_upto_region 15 with (fail)
          go_cut [87] (fun v87 wc => ∃ (kq : Nat) (x87_66 : Bool), v87 = .bool x87_66 ∧ Aside0 (lease_Do.j4 kq a2 a3 x10_2 t203 t204 x87_66 a1_0 l1_1 l1_2 l1_3 a1_4 = some (r1, r2, r3)) ∧ Aside0 (kq ≤ kj55) ∧ Aside0 (Kd.S k40 40 wc w.heap.size (fun _ => True) (.slice Ao59 x10_2.length co59) x10_2) ∧ Aside0 (wc.heap[gb185]? = some (.cells #[.int .i64 a1_0, (.slice A1_1 l1_1.length c1_1), (.slice A1_2 l1_2.length c1_2), (.slice A1_3 l1_3.length c1_3), .int .i64 a1_4] 28 (0, 0))) ∧ Aside0 (wc.heap[gb186]? = some (.cells #[.int .i64 0, (.slice none 0 0)] 33 (0, 0))) ∧ Aside0 (Below w.heap.size w wc))
          case first =>
           have H := HC67.out; clear HC67
           by_cases c68 : t204 = true
           ·subst c68
            have H1 : (lease_Do.j4 kj55 a2 a3 x10_2 t203 true false a1_0 l1_1 l1_2 l1_3 a1_4) = some (r1, r2, r3) := by rw [if_pos rfl] at H; exact H
            clear H; have H := H1; clear H1; have H' := Aside0.mk H; clear H
            go_wp2
            go_meet
            case rel => exact ⟨_, (false), (by first | rfl | (simp; done) | (simp [*]; done)), H', ⟨by have := HJ5.out; have := HK2.out; have := HJ55.out; first | omega | exact Nat.le_refl _⟩, ⟨Kd.Su <| HO_10.out⟩, ⟨blk_u <| BK185.out⟩, ⟨blk_u <| BK186.out⟩, ⟨below_v HB.out⟩⟩
           ·replace c68 := Bool.eq_false_iff.mpr c68
            subst c68
            have H1 : (lease_Do.j4 kj55 a2 a3 x10_2 t203 false ((x10_2.length : Int) == 16) a1_0 l1_1 l1_2 l1_3 a1_4) = some (r1, r2, r3) := by rw [if_neg (show ¬ (false = true) by decide)] at H; exact H
            clear H; have H := H1; clear H1; have H' := Aside0.mk H; clear H
            go_wp2
            go_meet
            case rel => exact ⟨_, (((x10_2.length : Int) == 16)), (by first | rfl | (simp; done) | (simp [*]; done)), H', ⟨by have := HJ5.out; have := HK2.out; have := HJ55.out; first | omega | exact Nat.le_refl _⟩, ⟨Kd.Su <| HO_10.out⟩, ⟨blk_u <| BK185.out⟩, ⟨blk_u <| BK186.out⟩, ⟨below_v HB.out⟩⟩
          case rest =>
           clear HC67
           try clear c64
           obtain ⟨kq, x87_66, rfl, HA, HJ66, HO_10, BK185, BK186, HB⟩ := hcut
           cases kq with
           | zero => exact absurd HA.out (by simp [lease_Do.j4])
           | succ kj66 =>
            have H := HA.out; clear HA; simp only [lease_Do.j4] at H
            by_cases c69 : x87_66 = true
            ·subst c69
             have H1 : (some (x10_2, 3, ([] : List Int))) = some (r1, r2, r3) := by rw [if_pos rfl] at H; exact H
             clear H; have H := H1; clear H1; simp only [Option.some.injEq, Prod.mk.injEq] at H; obtain ⟨rfl, rfl, rfl⟩ := H; have hnb70 := NB186_185.out; have hnc70 := NB185_186.out; have hcz71_0 : wc.cell? ⟨gb186, 0, none⟩ = some (.int .i64 0) := (blk_cell BK186.out 0).trans rfl; have hcz71_1 : wc.cell? ⟨gb186, 1, none⟩ = some (.slice none 0 0) := (blk_cell BK186.out 1).trans rfl; have hfz71_0 := blk_frozen BK186.out
             go_wp2
             refine bodyPost_ret (results_tc rfl _ _ gb186 33 #[.int .i64 3, .slice none 0 0] (0, 0) _ rfl (by (with_reducible repeat (first | refine blk_drewN ?_ _ | refine blk_drew ?_ | refine blk_alloc ?_ _)); refine blk_p2 (blk_u <| BK186.out) rfl) Try.underlying33 rfl (by kernel_rfl)) rfl ?_; exact ⟨_, _, by first | rfl | (simp [errW_none, errW_some] <;> rfl) | (simp [*, errW_none, errW_some] <;> rfl), Kd.Su <| Kd.S_mono (Kd.S_far (p := ⟨gb186, 1, none⟩) (Kd.S_far (p := ⟨gb186, 0, none⟩) (Kd.S_types HO_10.out BK186.out (by decide)) (fun _ hk => hk.2) (.int .i64 3)) (fun _ hk => hk.2) (.slice none 0 0)) (fun _ hk => (by simp [Value.ownBlock])), by first | exact Kd.R_nil _ _ _ _ _ | exact Kd.N_nil _ _ _ _ _ | exact Kd.V_nil _ _ _ _ _ | exact Kd.Q_nil _ _ _ _ _ | exact Kd.S_nil _ _ _ _ _, below_v HB.out⟩
            ·replace c69 := Bool.eq_false_iff.mpr c69
             subst c69
             have H1 : (if t204 = true then (if a1_0 = 8 then (if 0 ≤ t203 then (if t203 < (x10_2.length : Int) then ((lease_told.f kj66 ((rd_T40 x10_2 t203).f1) (wrap64 (((rd_T40 x10_2 t203).f2) - a3))).bind fun t207 => (some (x10_2, 0, t207))) else (none)) else (none)) else (if 0 ≤ t203 then (if t203 < (x10_2.length : Int) then (if ((rd_T40 x10_2 t203).f1) = a2 then (if a1_0 = 7 then (some ((x10_2.eraseIdx (t203 : Int).toNat), 0, ([] : List Int))) else (some ((x10_2.set (t203 : Int).toNat (⟨(rd_T40 x10_2 t203).f0, (rd_T40 x10_2 t203).f1, wrap64 (a3 + a1_4)⟩ : S40)), 0, ([] : List Int)))) else ((lease_told.f kj66 ((rd_T40 x10_2 t203).f1) (wrap64 (((rd_T40 x10_2 t203).f2) - a3))).bind fun t217 => (some (x10_2, 4, t217)))) else (none)) else (none))) else ((slices_Clone_byte_byte.f l1_1).bind fun t220 => (if 0 ≤ t203 then (if t203 ≤ (x10_2.length : Int) then (if x10_2.length < 3518437208883 then (some ((x10_2.take (t203 : Int).toNat ++ [(⟨t220, a2, wrap64 (a3 + a1_4)⟩ : S40)] ++ x10_2.drop (t203 : Int).toNat), 0, ([] : List Int))) else (none)) else (none)) else (none)))) = some (r1, r2, r3) := by rw [if_neg (show ¬ (false = true) by decide)] at H; exact H
             clear H; have H := H1; clear H1
             by_cases c72 : t204 = true
             ·subst c72
              have H1 : (if a1_0 = 8 then (if 0 ≤ t203 then (if t203 < (x10_2.length : Int) then ((lease_told.f kj66 ((rd_T40 x10_2 t203).f1) (wrap64 (((rd_T40 x10_2 t203).f2) - a3))).bind fun t207 => (some (x10_2, 0, t207))) else (none)) else (none)) else (if 0 ≤ t203 then (if t203 < (x10_2.length : Int) then (if ((rd_T40 x10_2 t203).f1) = a2 then (if a1_0 = 7 then (some ((x10_2.eraseIdx (t203 : Int).toNat), 0, ([] : List Int))) else (some ((x10_2.set (t203 : Int).toNat (⟨(rd_T40 x10_2 t203).f0, (rd_T40 x10_2 t203).f1, wrap64 (a3 + a1_4)⟩ : S40)), 0, ([] : List Int)))) else ((lease_told.f kj66 ((rd_T40 x10_2 t203).f1) (wrap64 (((rd_T40 x10_2 t203).f2) - a3))).bind fun t217 => (some (x10_2, 4, t217)))) else (none)) else (none))) = some (r1, r2, r3) := by rw [if_pos rfl] at H; exact H
              clear H; have H := H1; clear H1
              by_cases c73 : a1_0 = 8
              ·rw [if_pos c73] at H
               have c73b0 : (a1_0 == 8) = true := beq_iff_eq.mpr c73; have c73b1 : (a1_0 != 8) = false := bne_eq_false_iff_eq.mpr c73; clear c73
               by_cases c74 : 0 ≤ t203
               ·rw [if_pos c74] at H
                have c74b0 : decide (0 ≤ t203) = true := decide_eq_true c74; clear c74
                by_cases c75 : t203 < (x10_2.length : Int)
                ·rw [if_pos c75] at H
                 have c75b0 : decide (t203 < (x10_2.length : Int)) = true := decide_eq_true c75; clear c75; replace H := Option.bind_eq_some_iff.mp H; obtain ⟨t207, A760, H⟩ := H; replace H : (some (x10_2, 0, t207)) = some (r1, r2, r3) := H; have A76 := Aside0.mk A760; clear A760; simp only [Option.some.injEq, Prod.mk.injEq] at H; obtain ⟨rfl, rfl, rfl⟩ := H; have hnb77 := NB185_186.out; have hnc77 := NB186_185.out; have hcz78_0 : wc.cell? ⟨gb185, 0, none⟩ = some (.int .i64 a1_0) := (blk_cell BK185.out 0).trans rfl; have hcz78_1 : wc.cell? ⟨gb185, 1, none⟩ = some (.slice A1_1 l1_1.length c1_1) := (blk_cell BK185.out 1).trans rfl; have hcz78_2 : wc.cell? ⟨gb185, 2, none⟩ = some (.slice A1_2 l1_2.length c1_2) := (blk_cell BK185.out 2).trans rfl; have hcz78_3 : wc.cell? ⟨gb185, 3, none⟩ = some (.slice A1_3 l1_3.length c1_3) := (blk_cell BK185.out 3).trans rfl; have hcz78_4 : wc.cell? ⟨gb185, 4, none⟩ = some (.int .i64 a1_4) := (blk_cell BK185.out 4).trans rfl; have hfz78_0 := blk_frozen BK185.out
                 try go_wp2
                 have n0_ := Aside0.mk (Kd.S_drew HO_10.out); have n1_ := Aside0.mk (blk_drew BK185.out); have n2_ := Aside0.mk (blk_drew BK186.out); have n3_ := Aside0.mk (below_drew1 HB.out); clear HO_10; clear BK185; clear BK186; clear HB; have HO_10 := n0_; have BK185 := n1_; have BK186 := n2_; have HB := n3_; clear n0_ n1_ n2_ n3_; have p205 : 0 ≤ (t203 : Int) := of_decide_eq_true (by first | (with_reducible assumption) | assumption); have q205 : t203 < (x10_2.length : Int) := of_decide_eq_true (by first | (with_reducible assumption) | assumption); obtain ⟨ad205, A205_0, c205_0, e205, hx205_0, hx205_1, hx205_2, hl205_0, hi205_0⟩ := at_T40 (Kd.S_reads' HO_10.out).2.2 t203 p205 q205
                 cases e205
                 obtain ⟨ce205, hce205, hMe205, hcc205⟩ := Kd.S_get HO_10.out z40 t203 p205 (by first | exact q205 | exact of_decide_eq_true (by first | (with_reducible assumption) | assumption) | (have e_ := (Kd.S_reads' HO_10.out).1; omega)); obtain ⟨ve205_0, rfl, ge205_0⟩ := k40_openM hMe205; have hv205_0 := hcc205 0 _ rfl; rw [Nat.add_zero] at hv205_0; replace hv205_0 := Option.some.inj (hv205_0.symm.trans hx205_0); rw [hv205_0] at ge205_0; have HL205_0 := Aside0.mk (show Kd.R (Kd.int .u8) 5 _ _ _ _ ((rd_T40 x10_2 t203).f0) from ge205_0); clear hv205_0 ge205_0; clear hcc205 hce205; have HR205_0 := Aside0.mk hi205_0; have HC205_0 := Aside0.mk hl205_0; clear hi205_0 hl205_0; replace p205 := eq_true p205; replace q205 := eq_true q205; have p206 : 0 ≤ (t203 : Int) := of_decide_eq_true (by first | (with_reducible assumption) | assumption); have q206 : t203 < (x10_2.length : Int) := of_decide_eq_true (by first | (with_reducible assumption) | assumption); obtain ⟨ad206, A206_0, c206_0, e206, hx206_0, hx206_1, hx206_2, hl206_0, hi206_0⟩ := at_T40 (Kd.S_reads' HO_10.out).2.2 t203 p206 q206; obtain rfl : ad205 = ad206 := (by injection e206); obtain ⟨ce206, hce206, hMe206, hcc206⟩ := Kd.S_get HO_10.out z40 t203 p206 (by first | exact q206 | exact of_decide_eq_true (by first | (with_reducible assumption) | assumption) | (have e_ := (Kd.S_reads' HO_10.out).1; omega)); obtain ⟨ve206_0, rfl, ge206_0⟩ := k40_openM hMe206; have hv206_0 := hcc206 0 _ rfl; rw [Nat.add_zero] at hv206_0; replace hv206_0 := Option.some.inj (hv206_0.symm.trans hx206_0); rw [hv206_0] at ge206_0; have HL206_0 := Aside0.mk (show Kd.R (Kd.int .u8) 5 _ _ _ _ ((rd_T40 x10_2 t203).f0) from ge206_0); clear hv206_0 ge206_0; clear hcc206 hce206; have HR206_0 := Aside0.mk hi206_0; have HC206_0 := Aside0.mk hl206_0; clear hi206_0 hl206_0; replace p206 := eq_true p206; replace q206 := eq_true q206; have ea_ := Option.some.inj (hx205_0.symm.trans hx206_0)
                 injection ea_ with ea_ en_ ec_
                 subst ea_; subst ec_; clear en_
                 refine start_ (n := 17) (S := fun w' => w'.cell? (ad205.add ((t203).toNat * 3)) = some (.slice A205_0 ((rd_T40 x10_2 t203).f0).length c205_0) ∧ w'.cell? ⟨(ad205.add ((t203).toNat * 3)).block, (ad205.add ((t203).toNat * 3)).off + 1, none⟩ = some (.int .i64 ((rd_T40 x10_2 t203).f1)) ∧ w'.cell? ⟨(ad205.add ((t203).toNat * 3)).block, (ad205.add ((t203).toNat * 3)).off + 2, none⟩ = some (.int .i64 ((rd_T40 x10_2 t203).f2)) ∧ w'.cell? (ad205.add ((t203).toNat * 3)) = some (.slice A205_0 ((rd_T40 x10_2 t203).f0).length c205_0) ∧ w'.cell? ⟨(ad205.add ((t203).toNat * 3)).block, (ad205.add ((t203).toNat * 3)).off + 1, none⟩ = some (.int .i64 ((rd_T40 x10_2 t203).f1)) ∧ w'.cell? ⟨(ad205.add ((t203).toNat * 3)).block, (ad205.add ((t203).toNat * 3)).off + 2, none⟩ = some (.int .i64 ((rd_T40 x10_2 t203).f2))) (ds := []) #[false, false, false, false, false, false, false, false, false, false, false, false, false, false, false, false, false] (by kernel_rfl) rfl rfl ⟨hx205_0, hx205_1, hx205_2, hx206_0, hx206_1, hx206_2⟩ (fun hHeld => ?_); refine with_tabW lease_Do.tab20 lease_Do.bits20 (fun HT_ HW_ => ?_)
                 generalize wc.drew = w79 at HO_10 BK185 BK186 HB HL205_0 HL206_0 HR205_0 HR206_0 hx205_0 hx205_1 hx205_2 hx206_0 hx206_1 hx206_2 hHeld ⊢
                 refine pure_ (i := 0) (N := some 118) (v := ?_) (a' := ?_) #[true, false, false, false, false, false, false, false, false, false, false, false, false, false, false, false, false] rfl rfl (any_of HT_.out (by kernel_rfl)) (fun _ _ _ h => h) (Or.inl ⟨by rfl, ?_⟩) ?_ ?_
                 rotate_left
                 ·intro w'
                  go_simp
                  with_reducible rfl
                 rotate_left
                 ·simp only [Act.put, List.setIfInBounds_toArray, List.set_cons_zero, List.set_cons_succ, i64_w, i32_w]
                  rfl
                 refine pure_ (i := 1) (N := some 119) (v := ?_) (a' := ?_) #[true, true, false, false, false, false, false, false, false, false, false, false, false, false, false, false, false] rfl rfl (any_of HT_.out (by kernel_rfl)) (fun _ _ _ h => h) (Or.inl ⟨by rfl, ?_⟩) ?_ ?_
                 rotate_left
                 ·intro w'
                  go_simp
                  with_reducible rfl
                 rotate_left
                 ·simp only [Act.put, List.setIfInBounds_toArray, List.set_cons_zero, List.set_cons_succ, i64_w, i32_w]
                  rfl
                 refine pure_ (i := 2) (N := some 120) (v := ?_) (a' := ?_) #[true, true, true, false, false, false, false, false, false, false, false, false, false, false, false, false, false] rfl rfl (any_of HT_.out (by kernel_rfl)) (fun _ _ _ h => h) (Or.inl ⟨by rfl, ?_⟩) ?_ ?_
                 rotate_left
                 ·intro w'
                  go_simp
                  with_reducible rfl
                 rotate_left
                 ·simp only [Act.put, List.setIfInBounds_toArray, List.set_cons_zero, List.set_cons_succ, i64_w, i32_w]
                  rfl
                 refine pure_ (i := 3) (N := some 121) (v := ?_) (a' := ?_) #[true, true, true, true, false, false, false, false, false, false, false, false, false, false, false, false, false] rfl rfl (any_of HT_.out (by kernel_rfl)) (fun _ _ _ h => h) (Or.inl ⟨by rfl, ?_⟩) ?_ ?_
                 rotate_left
                 ·intro w'
                  go_simp
                  with_reducible rfl
                 rotate_left
                 ·simp only [Act.put, List.setIfInBounds_toArray, List.set_cons_zero, List.set_cons_succ, i64_w, i32_w]
                  rfl
                 refine pure_ (i := 4) (N := some 122) (v := ?_) (a' := ?_) #[true, true, true, true, true, false, false, false, false, false, false, false, false, false, false, false, false] rfl rfl (any_of HT_.out (by kernel_rfl)) (fun _ _ _ h => h) (Or.inl ⟨by rfl, ?_⟩) ?_ ?_
                 rotate_left
                 ·intro w'
                  go_simp
                  with_reducible rfl
                 rotate_left
                 ·simp only [Act.put, List.setIfInBounds_toArray, List.set_cons_zero, List.set_cons_succ, i64_w, i32_w]
                  rfl
                 refine pure_ (i := 6) (N := some 124) (v := ?_) (a' := ?_) #[true, true, true, true, true, false, true, false, false, false, false, false, false, false, false, false, false] rfl rfl (any_of HT_.out (by kernel_rfl)) (fun _ _ _ h => h) (Or.inl ⟨by rfl, ?_⟩) ?_ ?_
                 rotate_left
                 ·intro w'
                  go_simp
                  with_reducible rfl
                 rotate_left
                 ·simp only [Act.put, List.setIfInBounds_toArray, List.set_cons_zero, List.set_cons_succ, i64_w, i32_w]
                  rfl
                 refine pure_ (i := 7) (N := some 125) (v := ?_) (a' := ?_) #[true, true, true, true, true, false, true, true, false, false, false, false, false, false, false, false, false] rfl rfl (any_of HT_.out (by kernel_rfl)) (fun _ _ _ h => h) (Or.inl ⟨by rfl, ?_⟩) ?_ ?_
                 rotate_left
                 ·intro w'
                  go_simp
                  with_reducible rfl
                 rotate_left
                 ·simp only [Act.put, List.setIfInBounds_toArray, List.set_cons_zero, List.set_cons_succ, i64_w, i32_w]
                  rfl
                 refine pure_ (i := 8) (N := some 126) (v := ?_) (a' := ?_) #[true, true, true, true, true, false, true, true, true, false, false, false, false, false, false, false, false] rfl rfl (any_of HT_.out (by kernel_rfl)) (fun _ _ _ h => h) (Or.inl ⟨by rfl, ?_⟩) ?_ ?_
                 rotate_left
                 ·intro w'
                  go_simp
                  with_reducible rfl
                 rotate_left
                 ·simp only [Act.put, List.setIfInBounds_toArray, List.set_cons_zero, List.set_cons_succ, i64_w, i32_w]
                  rfl
                 refine pure_ (i := 9) (N := some 127) (v := ?_) (a' := ?_) #[true, true, true, true, true, false, true, true, true, true, false, false, false, false, false, false, false] rfl rfl (any_of HT_.out (by kernel_rfl)) (fun _ _ _ h => h) (Or.inl ⟨by rfl, ?_⟩) ?_ ?_
                 rotate_left
                 ·intro w'
                  go_simp
                  with_reducible rfl
                 rotate_left
                 ·simp only [Act.put, List.setIfInBounds_toArray, List.set_cons_zero, List.set_cons_succ, i64_w, i32_w]
                  rfl
                 refine pure_ (i := 11) (N := some 129) (v := ?_) (a' := ?_) #[true, true, true, true, true, false, true, true, true, true, false, true, false, false, false, false, false] rfl rfl (any_of HT_.out (by kernel_rfl)) (fun _ _ _ h => h) (Or.inl ⟨by rfl, ?_⟩) ?_ ?_
                 rotate_left
                 ·intro w'
                  go_simp
                  with_reducible rfl
                 rotate_left
                 ·simp only [Act.put, List.setIfInBounds_toArray, List.set_cons_zero, List.set_cons_succ, i64_w, i32_w]
                  rfl
                 refine take_ (i := 5) (N := some 123) (v := ?_) (a' := ?_) #[true, true, true, true, true, true, true, true, true, true, false, true, false, false, false, false, false] rfl rfl (take_ofW HT_.out HW_.out (by kernel_rfl)) (fun _ _ _ h => h) (Or.inl ⟨by rfl, ?_⟩) hHeld ?_ ?_
                 rotate_left
                 ·rintro w' ⟨s0, s1, s2, s3, s4, s5⟩
                  go_simp
                  with_reducible rfl
                 rotate_left
                 ·simp only [Act.put, List.setIfInBounds_toArray, List.set_cons_zero, List.set_cons_succ, i64_w, i32_w]
                  rfl
                 refine take_ (i := 10) (N := some 128) (v := ?_) (a' := ?_) #[true, true, true, true, true, true, true, true, true, true, true, true, false, false, false, false, false] rfl rfl (take_ofW HT_.out HW_.out (by kernel_rfl)) (fun _ _ _ h => h) (Or.inl ⟨by rfl, ?_⟩) hHeld ?_ ?_
                 rotate_left
                 ·rintro w' ⟨s0, s1, s2, s3, s4, s5⟩
                  go_simp
                  with_reducible rfl
                 rotate_left
                 ·simp only [Act.put, List.setIfInBounds_toArray, List.set_cons_zero, List.set_cons_succ, i64_w, i32_w]
                  rfl
                 refine pure_ (i := 12) (N := some 130) (v := ?_) (a' := ?_) #[true, true, true, true, true, true, true, true, true, true, true, true, true, false, false, false, false] rfl rfl (any_of HT_.out (by kernel_rfl)) (fun _ _ _ h => h) (Or.inl ⟨by rfl, ?_⟩) ?_ ?_
                 rotate_left
                 ·intro w'
                  go_simp
                  with_reducible rfl
                 rotate_left
                 ·simp only [Act.put, List.setIfInBounds_toArray, List.set_cons_zero, List.set_cons_succ, i64_w, i32_w]
                  rfl
                 refine one_ (i := 13) (N := some 131) #[true, true, true, true, true, true, true, true, true, true, true, true, true, true, false, false, false] rfl rfl (one_of HT_.out (by kernel_rfl)) (by decide) (fun K hK => ?_); refine goes_ Try.func29 (by kernel_rfl) rfl #[.int .i64 ((rd_T40 x10_2 t203).f1), .int .i64 (wrap64 (((rd_T40 x10_2 t203).f2) - a3))] (by rfl) rfl rfl (by (try simp only [List.map_toArray, List.map_cons, List.map_nil]); first | done | rfl | (simp only [List.length_drop, List.length_take]; rfl)) ?_
                 with_reducible refine (lease_told.calls kj66 ((rd_T40 x10_2 t203).f1) (wrap64 (((rd_T40 x10_2 t203).f2) - a3)) t207 _ A76.out).mono ?_
                 rintro e w80 ⟨v208, rfl, ho0, hb⟩; have HS0_ := (hb.cell (World.block_lt_of_cell? _ _ (hHeld.1))).trans (hHeld.1); have HS1_ := (hb.cell (World.block_lt_of_cell? _ _ (hHeld.2.1))).trans (hHeld.2.1); have HS2_ := (hb.cell (World.block_lt_of_cell? _ _ (hHeld.2.2.1))).trans (hHeld.2.2.1); have HS3_ := (hb.cell (World.block_lt_of_cell? _ _ (hHeld.2.2.2.1))).trans (hHeld.2.2.2.1); have HS4_ := (hb.cell (World.block_lt_of_cell? _ _ (hHeld.2.2.2.2.1))).trans (hHeld.2.2.2.2.1); have HS5_ := (hb.cell (World.block_lt_of_cell? _ _ (hHeld.2.2.2.2.2))).trans (hHeld.2.2.2.2.2); refine ⟨_, rfl, ?_⟩; have n0_ := Aside0.mk (Kd.S_elder' (Kd.Su <| HO_10.out) (Kd.R_base ho0) hb); have n1_ := Aside0.mk (Kd.R_elder' (Kd.Ru <| HL205_0.out) (Kd.R_base ho0) hb); have n2_ := Aside0.mk (Kd.R_elder' (Kd.Ru <| HL206_0.out) (Kd.R_base ho0) hb); have n3_ := Aside0.mk (Kd.R_lower (Kd.R_new' (Kd.R_new' ho0 (Kd.R_lt (Kd.Ru <| HL205_0.out))) (Kd.R_lt (Kd.Ru <| HL206_0.out))) (below_size (below_v HB.out))); have n4_ := Aside0.mk (blk_below (blk_u <| BK185.out) hb); have n5_ := Aside0.mk (blk_below (blk_u <| BK186.out) hb)
                 (first | (with_reducible (have n6_ := Aside0.mk (Kd.C_below HR205_0.out hb))) | (with_reducible (have n6_ := Aside0.mk (Kd.C_past HR205_0.out hb))) | (have n6_ := Aside0.mk (Kd.C_below (by repeat (first | (with_reducible exact HR205_0.out) | (with_reducible refine Kd.C_alloc ?_ _) | (with_reducible refine Kd.C_drewN ?_ _) | (with_reducible refine Kd.C_drew ?_) | exact HR205_0.out)) hb)))
                 (first | (with_reducible (have n7_ := Aside0.mk (Kd.C_below HR206_0.out hb))) | (with_reducible (have n7_ := Aside0.mk (Kd.C_past HR206_0.out hb))) | (have n7_ := Aside0.mk (Kd.C_below (by repeat (first | (with_reducible exact HR206_0.out) | (with_reducible refine Kd.C_alloc ?_ _) | (with_reducible refine Kd.C_drewN ?_ _) | (with_reducible refine Kd.C_drew ?_) | exact HR206_0.out)) hb)))
                 have n8_ := Aside0.mk (below_step (below_v HB.out) hb); clear HO_10; clear HL205_0; clear HL206_0; clear BK185; clear BK186; clear HR205_0; clear HR206_0; clear HB; have HO_10 := n0_; have HL205_0 := n1_; have HL206_0 := n2_; have HO209 := n3_; have BK185 := n4_; have BK186 := n5_; have HR205_0 := n6_; have HR206_0 := n7_; have HB := n8_; clear n0_ n1_ n2_ n3_ n4_ n5_ n6_ n7_ n8_
                 (try clear hb)
                 (try clear hb2)
                 (try clear hk)
                 (try clear hi)
                 (try clear ho0)
                 obtain ⟨Ao81, co81, eo81⟩ := Kd.R_slice HO209.out
                 (first | subst eo81 | (injection eo81 with f1_ f2_ f3_; have f4_ := f1_.symm; have f5_ := f3_.symm; clear f1_ f2_ f3_; subst f4_; subst f5_))
                 refine hK.out _ _ ⟨HS0_, HS1_, HS2_, HS3_, HS4_, HS5_⟩ (fun hHeld => ?_); clear hK K
                 refine norm_ (a' := ?_) ?_ ?_
                 rotate_left
                 ·show Act.put _ (some 131) _ = _
                  simp only [Act.put, List.setIfInBounds_toArray, List.set_cons_zero, List.set_cons_succ, i64_w, i32_w]
                  rfl
                 refine pure_ (i := 14) (N := some 132) (v := ?_) (a' := ?_) #[true, true, true, true, true, true, true, true, true, true, true, true, true, true, true, false, false] rfl rfl (any_of HT_.out (by kernel_rfl)) (fun _ _ _ h => h) (Or.inl ⟨by rfl, ?_⟩) ?_ ?_
                 rotate_left
                 ·intro w'
                  go_simp
                  with_reducible rfl
                 rotate_left
                 ·simp only [Act.put, List.setIfInBounds_toArray, List.set_cons_zero, List.set_cons_succ, i64_w, i32_w]
                  rfl
                 refine pure_ (i := 15) (N := some 8) (v := ?_) (a' := ?_) #[true, true, true, true, true, true, true, true, true, true, true, true, true, true, true, true, false] rfl rfl (any_of HT_.out (by kernel_rfl)) (fun _ _ _ h => h) (Or.inl ⟨by rfl, ?_⟩) ?_ ?_
                 rotate_left
                 ·intro w'
                  go_simp
                  with_reducible rfl
                 rotate_left
                 ·simp only [Act.put, List.setIfInBounds_toArray, List.set_cons_zero, List.set_cons_succ, i64_w, i32_w]
                  rfl
                 refine one_ (i := 16) (N := none) #[true, true, true, true, true, true, true, true, true, true, true, true, true, true, true, true, true] rfl rfl (one_of HT_.out (by kernel_rfl)) (by decide) (fun K hK => ?_); have hs82 : w80.cell? ⟨gb186, 0, none⟩ = some (.int .i64 0) := (blk_cell BK186.out 0).trans rfl; have hfs82 := blk_frozen BK186.out 0; have hns82_0 := NB185_186.out; have hms82_0 := NB186_185.out; have hs83 : w80.cell? ⟨gb186, 1, none⟩ = some (.slice none 0 0) := (blk_cell BK186.out 1).trans rfl; have hfs83 := blk_frozen BK186.out 1; have hns83_0 := NB185_186.out; have hms83_0 := NB186_185.out
                 refine skip_ (w1 := ?_) (by rfl) rfl ?_ ?_
                 rotate_left
                 ·go_simp
                  rfl
                 refine hK.out _ _ ⟨((cell_far (p := ⟨gb186, _, none⟩) (by first | exact Kd.own_blk (Kd.S_ne HO_10.out BK186.out (by decide)) | (rw [add_block]; exact Kd.own_blk (Kd.S_ne HO_10.out BK186.out (by decide))) | (show (Addr.add _ _).block ≠ _; rw [add_block]; exact Kd.own_blk (Kd.S_ne HO_10.out BK186.out (by decide))) | (dsimp only; exact Kd.own_blk (Kd.S_ne HO_10.out BK186.out (by decide)))) _).trans (((cell_far (p := ⟨gb186, _, none⟩) (by first | exact Kd.own_blk (Kd.S_ne HO_10.out BK186.out (by decide)) | (rw [add_block]; exact Kd.own_blk (Kd.S_ne HO_10.out BK186.out (by decide))) | (show (Addr.add _ _).block ≠ _; rw [add_block]; exact Kd.own_blk (Kd.S_ne HO_10.out BK186.out (by decide))) | (dsimp only; exact Kd.own_blk (Kd.S_ne HO_10.out BK186.out (by decide)))) _).trans (hHeld.1)))), ((cell_far (p := ⟨gb186, _, none⟩) (by first | exact Kd.own_blk (Kd.S_ne HO_10.out BK186.out (by decide)) | (rw [add_block]; exact Kd.own_blk (Kd.S_ne HO_10.out BK186.out (by decide))) | (show (Addr.add _ _).block ≠ _; rw [add_block]; exact Kd.own_blk (Kd.S_ne HO_10.out BK186.out (by decide))) | (dsimp only; exact Kd.own_blk (Kd.S_ne HO_10.out BK186.out (by decide)))) _).trans (((cell_far (p := ⟨gb186, _, none⟩) (by first | exact Kd.own_blk (Kd.S_ne HO_10.out BK186.out (by decide)) | (rw [add_block]; exact Kd.own_blk (Kd.S_ne HO_10.out BK186.out (by decide))) | (show (Addr.add _ _).block ≠ _; rw [add_block]; exact Kd.own_blk (Kd.S_ne HO_10.out BK186.out (by decide))) | (dsimp only; exact Kd.own_blk (Kd.S_ne HO_10.out BK186.out (by decide)))) _).trans (hHeld.2.1)))), ((cell_far (p := ⟨gb186, _, none⟩) (by first | exact Kd.own_blk (Kd.S_ne HO_10.out BK186.out (by decide)) | (rw [add_block]; exact Kd.own_blk (Kd.S_ne HO_10.out BK186.out (by decide))) | (show (Addr.add _ _).block ≠ _; rw [add_block]; exact Kd.own_blk (Kd.S_ne HO_10.out BK186.out (by decide))) | (dsimp only; exact Kd.own_blk (Kd.S_ne HO_10.out BK186.out (by decide)))) _).trans (((cell_far (p := ⟨gb186, _, none⟩) (by first | exact Kd.own_blk (Kd.S_ne HO_10.out BK186.out (by decide)) | (rw [add_block]; exact Kd.own_blk (Kd.S_ne HO_10.out BK186.out (by decide))) | (show (Addr.add _ _).block ≠ _; rw [add_block]; exact Kd.own_blk (Kd.S_ne HO_10.out BK186.out (by decide))) | (dsimp only; exact Kd.own_blk (Kd.S_ne HO_10.out BK186.out (by decide)))) _).trans (hHeld.2.2.1)))), ((cell_far (p := ⟨gb186, _, none⟩) (by first | exact Kd.own_blk (Kd.S_ne HO_10.out BK186.out (by decide)) | (rw [add_block]; exact Kd.own_blk (Kd.S_ne HO_10.out BK186.out (by decide))) | (show (Addr.add _ _).block ≠ _; rw [add_block]; exact Kd.own_blk (Kd.S_ne HO_10.out BK186.out (by decide))) | (dsimp only; exact Kd.own_blk (Kd.S_ne HO_10.out BK186.out (by decide)))) _).trans (((cell_far (p := ⟨gb186, _, none⟩) (by first | exact Kd.own_blk (Kd.S_ne HO_10.out BK186.out (by decide)) | (rw [add_block]; exact Kd.own_blk (Kd.S_ne HO_10.out BK186.out (by decide))) | (show (Addr.add _ _).block ≠ _; rw [add_block]; exact Kd.own_blk (Kd.S_ne HO_10.out BK186.out (by decide))) | (dsimp only; exact Kd.own_blk (Kd.S_ne HO_10.out BK186.out (by decide)))) _).trans (hHeld.2.2.2.1)))), ((cell_far (p := ⟨gb186, _, none⟩) (by first | exact Kd.own_blk (Kd.S_ne HO_10.out BK186.out (by decide)) | (rw [add_block]; exact Kd.own_blk (Kd.S_ne HO_10.out BK186.out (by decide))) | (show (Addr.add _ _).block ≠ _; rw [add_block]; exact Kd.own_blk (Kd.S_ne HO_10.out BK186.out (by decide))) | (dsimp only; exact Kd.own_blk (Kd.S_ne HO_10.out BK186.out (by decide)))) _).trans (((cell_far (p := ⟨gb186, _, none⟩) (by first | exact Kd.own_blk (Kd.S_ne HO_10.out BK186.out (by decide)) | (rw [add_block]; exact Kd.own_blk (Kd.S_ne HO_10.out BK186.out (by decide))) | (show (Addr.add _ _).block ≠ _; rw [add_block]; exact Kd.own_blk (Kd.S_ne HO_10.out BK186.out (by decide))) | (dsimp only; exact Kd.own_blk (Kd.S_ne HO_10.out BK186.out (by decide)))) _).trans (hHeld.2.2.2.2.1)))), ((cell_far (p := ⟨gb186, _, none⟩) (by first | exact Kd.own_blk (Kd.S_ne HO_10.out BK186.out (by decide)) | (rw [add_block]; exact Kd.own_blk (Kd.S_ne HO_10.out BK186.out (by decide))) | (show (Addr.add _ _).block ≠ _; rw [add_block]; exact Kd.own_blk (Kd.S_ne HO_10.out BK186.out (by decide))) | (dsimp only; exact Kd.own_blk (Kd.S_ne HO_10.out BK186.out (by decide)))) _).trans (((cell_far (p := ⟨gb186, _, none⟩) (by first | exact Kd.own_blk (Kd.S_ne HO_10.out BK186.out (by decide)) | (rw [add_block]; exact Kd.own_blk (Kd.S_ne HO_10.out BK186.out (by decide))) | (show (Addr.add _ _).block ≠ _; rw [add_block]; exact Kd.own_blk (Kd.S_ne HO_10.out BK186.out (by decide))) | (dsimp only; exact Kd.own_blk (Kd.S_ne HO_10.out BK186.out (by decide)))) _).trans (hHeld.2.2.2.2.2))))⟩ (fun hHeld => ?_); clear hK K; refine done_ (done_of HT_.out (by kernel_rfl)) ?_
                 try go_wp2
                 refine bodyPost_ret (results_tc rfl _ _ gb186 33 #[.int .i64 0, .slice Ao81 t207.length co81] (0, 0) _ rfl (by (with_reducible repeat (first | refine blk_drewN ?_ _ | refine blk_drew ?_ | refine blk_alloc ?_ _)); refine blk_p2 (blk_u <| BK186.out) rfl) Try.underlying33 rfl (by kernel_rfl)) rfl ?_; exact ⟨_, _, by first | rfl | (simp [errW_none, errW_some] <;> rfl) | (simp [*, errW_none, errW_some] <;> rfl), Kd.Su <| Kd.S_mono (Kd.S_far (p := ⟨gb186, 1, none⟩) (Kd.S_far (p := ⟨gb186, 0, none⟩) (Kd.S_types HO_10.out BK186.out (by decide)) (fun _ hk => hk.2) (.int .i64 0)) (fun _ hk => hk.2) (.slice Ao81 t207.length co81)) (fun _ hk => hk.1.2), Kd.Ru <| Kd.R_mono (Kd.R_far (p := ⟨gb186, 1, none⟩) (Kd.R_far (p := ⟨gb186, 0, none⟩) (Kd.R_types HO209.out BK186.out (by decide)) (fun _ hk => hk.2) (.int .i64 0)) (fun _ hk => hk.2) (.slice Ao81 t207.length co81)) (fun _ hk => trivial), below_v HB.out⟩
                ·rw [if_neg c75] at H
                 exact absurd H (by simp)
               ·rw [if_neg c74] at H
                exact absurd H (by simp)
              ·rw [if_neg c73] at H
               have c73b0 : (a1_0 == 8) = false := beq_eq_false_iff_ne.mpr c73; have c73b1 : (a1_0 != 8) = true := bne_iff_ne.mpr c73
               by_cases c84 : 0 ≤ t203
               ·rw [if_pos c84] at H
                have c84b0 : decide (0 ≤ t203) = true := decide_eq_true c84; clear c84
                by_cases c85 : t203 < (x10_2.length : Int)
                ·rw [if_pos c85] at H
                 have c85b0 : decide (t203 < (x10_2.length : Int)) = true := decide_eq_true c85; clear c85
                 by_cases c86 : ((rd_T40 x10_2 t203).f1) = a2
                 ·rw [if_pos c86] at H
                  have c86b0 : (((rd_T40 x10_2 t203).f1) == a2) = true := beq_iff_eq.mpr c86; have c86b1 : (((rd_T40 x10_2 t203).f1) != a2) = false := bne_eq_false_iff_eq.mpr c86; clear c86
                  by_cases c87 : a1_0 = 7
                  ·rw [if_pos c87] at H
                   have c87b0 : (a1_0 == 7) = true := beq_iff_eq.mpr c87; have c87b1 : (a1_0 != 7) = false := bne_eq_false_iff_eq.mpr c87; clear c87; have c88b0 := eq_true (of_decide_eq_true (by first | (with_reducible assumption) | assumption) : 0 ≤ t203); have c89b0 := eq_true (of_decide_eq_true (by first | (with_reducible assumption) | assumption) : t203 < (x10_2.length : Int)); obtain ⟨y211, hy211⟩ : ∃ y_ : List (S40), y_ = (x10_2.eraseIdx (t203 : Int).toNat) := ⟨_, rfl⟩
                   replace H : (some (y211, 0, ([] : List Int))) = some (r1, r2, r3) := by first | (rw [hy211]; with_reducible exact H) | (have H2_ := (Option.bind_some _ _).symm.trans H; rw [hy211]; with_reducible exact H2_) | (have H2_ := (Option.bind_some _ _).symm.trans H; with_reducible exact H2_) | with_reducible exact H | (rw [hy211]; exact H) | exact H
                   have Ny211 := Aside0.mk hy211; clear hy211; simp only [Option.some.injEq, Prod.mk.injEq] at H; obtain ⟨rfl, rfl, rfl⟩ := H; have hnb90 := NB185_186.out; have hnc90 := NB186_185.out; have hcz91_0 : wc.cell? ⟨gb185, 0, none⟩ = some (.int .i64 a1_0) := (blk_cell BK185.out 0).trans rfl; have hcz91_1 : wc.cell? ⟨gb185, 1, none⟩ = some (.slice A1_1 l1_1.length c1_1) := (blk_cell BK185.out 1).trans rfl; have hcz91_2 : wc.cell? ⟨gb185, 2, none⟩ = some (.slice A1_2 l1_2.length c1_2) := (blk_cell BK185.out 2).trans rfl; have hcz91_3 : wc.cell? ⟨gb185, 3, none⟩ = some (.slice A1_3 l1_3.length c1_3) := (blk_cell BK185.out 3).trans rfl; have hcz91_4 : wc.cell? ⟨gb185, 4, none⟩ = some (.int .i64 a1_4) := (blk_cell BK185.out 4).trans rfl; have hfz91_0 := blk_frozen BK185.out; have p210 : 0 ≤ (t203 : Int) := of_decide_eq_true (by first | (with_reducible assumption) | assumption); have q210 : t203 < (x10_2.length : Int) := of_decide_eq_true (by first | (with_reducible assumption) | assumption); obtain ⟨ad210, A210_0, c210_0, e210, hx210_0, hx210_1, hx210_2, hl210_0, hi210_0⟩ := at_T40 (Kd.S_reads' HO_10.out).2.2 t203 p210 q210
                   cases e210
                   obtain ⟨ce210, hce210, hMe210, hcc210⟩ := Kd.S_get HO_10.out z40 t203 p210 (by first | exact q210 | exact of_decide_eq_true (by first | (with_reducible assumption) | assumption) | (have e_ := (Kd.S_reads' HO_10.out).1; omega)); obtain ⟨ve210_0, rfl, ge210_0⟩ := k40_openM hMe210; have hv210_0 := hcc210 0 _ rfl; rw [Nat.add_zero] at hv210_0; replace hv210_0 := Option.some.inj (hv210_0.symm.trans hx210_0); rw [hv210_0] at ge210_0; have HL210_0 := Aside0.mk (show Kd.R (Kd.int .u8) 5 _ _ _ _ ((rd_T40 x10_2 t203).f0) from ge210_0); clear hv210_0 ge210_0; clear hcc210 hce210; have HR210_0 := Aside0.mk hi210_0; have HC210_0 := Aside0.mk hl210_0; clear hi210_0 hl210_0; replace p210 := eq_true p210; replace q210 := eq_true q210
                   go_wp2_with (first | ((with_reducible refine gate_callee (f := 30) rfl ?_); refine Kd.S_take_out 30 _ k40 (w0 := w) w.heap.size rfl (.tmp 160) (.tmp 161) (.tmp 163) _ 40 api_Lease_30.del Try.func30 (by kernel_rfl) rfl rfl (.slice (some ad210) x10_2.length co59) x10_2 (fun _ => True) t203 (wrap64 (t203 + 1)) rfl rfl rfl (of_decide_eq_true (by first | (with_reducible assumption) | assumption)) (of_decide_eq_true (by first | (with_reducible assumption) | assumption)) (by have h0_ := (show (0 : Int) ≤ t203 from (of_decide_eq_true (by first | (with_reducible assumption) | assumption))); have h1_ := (show t203 < (x10_2.length : Int) from (of_decide_eq_true (by first | (with_reducible assumption) | assumption))); have hc_ := (Kd.S_reads' HO_10.out).2.1; have hm_ := Kd.S_small HO_10.out; unfold wrap64; omega) ?aO ?aB ?aS ?_; (case aB => exact (below_v HB.out)); (case aO => exact (Kd.Su <| HO_10.out)); (case aS => exact (below_size (below_v HB.out))); intro v212 w92 ho hb hg hat; rw [← Ny211.out] at ho; have n0_ := Aside0.mk (blk_grown (blk_u <| BK185.out) hg (Kd.S_ne HO_10.out BK185.out (by decide))); have n1_ := Aside0.mk (blk_grown (blk_u <| BK186.out) hg (Kd.S_ne HO_10.out BK186.out (by decide))); have n2_ := Aside0.mk (hb); have n3_ := Aside0.mk (ho); clear BK185; clear BK186; clear HB; clear HO_10; have BK185 := n0_; have BK186 := n1_; have HB := n2_; have HO213 := n3_; clear n0_ n1_ n2_ n3_; clear ho hb hg hat; have hcz93_0 : w92.cell? ⟨gb186, 0, none⟩ = some (.int .i64 0) := (blk_cell BK186.out 0).trans rfl; have hcz93_1 : w92.cell? ⟨gb186, 1, none⟩ = some (.slice none 0 0) := (blk_cell BK186.out 1).trans rfl; have hfz93_0 := blk_frozen BK186.out; have hfz93_1 := blk_frozen BK186.out 1))
                   refine bodyPost_ret (results_tc rfl _ _ gb186 33 #[.int .i64 0, .slice none 0 0] (0, 0) _ rfl (by (with_reducible repeat (first | refine blk_drewN ?_ _ | refine blk_drew ?_ | refine blk_alloc ?_ _)); refine blk_p2 (blk_u <| BK186.out) rfl) Try.underlying33 rfl (by kernel_rfl)) rfl ?_; exact ⟨_, _, by first | rfl | (simp [errW_none, errW_some] <;> rfl) | (simp [*, errW_none, errW_some] <;> rfl), Kd.Su <| Kd.S_mono (Kd.S_far (p := ⟨gb186, 1, none⟩) (Kd.S_far (p := ⟨gb186, 0, none⟩) (Kd.S_types HO213.out BK186.out (by decide)) (fun _ hk => hk.2) (.int .i64 0)) (fun _ hk => hk.2) (.slice none 0 0)) (fun _ hk => (by simp [Value.ownBlock])), by first | exact Kd.R_nil _ _ _ _ _ | exact Kd.N_nil _ _ _ _ _ | exact Kd.V_nil _ _ _ _ _ | exact Kd.Q_nil _ _ _ _ _ | exact Kd.S_nil _ _ _ _ _, below_v HB.out⟩
                  ·rw [if_neg c87] at H
                   have c87b0 : (a1_0 == 7) = false := beq_eq_false_iff_ne.mpr c87; have c87b1 : (a1_0 != 7) = true := bne_iff_ne.mpr c87; obtain ⟨y214, hy214⟩ : ∃ y_ : List (S40), y_ = (x10_2.set (t203 : Int).toNat (⟨(rd_T40 x10_2 t203).f0, (rd_T40 x10_2 t203).f1, wrap64 (a3 + a1_4)⟩ : S40)) := ⟨_, rfl⟩
                   replace H : (some (y214, 0, ([] : List Int))) = some (r1, r2, r3) := by first | (rw [hy214]; with_reducible exact H) | (have H2_ := (Option.bind_some _ _).symm.trans H; rw [hy214]; with_reducible exact H2_) | (have H2_ := (Option.bind_some _ _).symm.trans H; with_reducible exact H2_) | with_reducible exact H | (rw [hy214]; exact H) | exact H
                   have Ny214 := Aside0.mk hy214; clear hy214; simp only [Option.some.injEq, Prod.mk.injEq] at H; obtain ⟨rfl, rfl, rfl⟩ := H; have hnb95 := NB185_186.out; have hnc95 := NB186_185.out; have hcz96_0 : wc.cell? ⟨gb185, 0, none⟩ = some (.int .i64 a1_0) := (blk_cell BK185.out 0).trans rfl; have hcz96_1 : wc.cell? ⟨gb185, 1, none⟩ = some (.slice A1_1 l1_1.length c1_1) := (blk_cell BK185.out 1).trans rfl; have hcz96_2 : wc.cell? ⟨gb185, 2, none⟩ = some (.slice A1_2 l1_2.length c1_2) := (blk_cell BK185.out 2).trans rfl; have hcz96_3 : wc.cell? ⟨gb185, 3, none⟩ = some (.slice A1_3 l1_3.length c1_3) := (blk_cell BK185.out 3).trans rfl; have hcz96_4 : wc.cell? ⟨gb185, 4, none⟩ = some (.int .i64 a1_4) := (blk_cell BK185.out 4).trans rfl; have hfz96_0 := blk_frozen BK185.out; have p210 : 0 ≤ (t203 : Int) := of_decide_eq_true (by first | (with_reducible assumption) | assumption); have q210 : t203 < (x10_2.length : Int) := of_decide_eq_true (by first | (with_reducible assumption) | assumption); obtain ⟨ad210, A210_0, c210_0, e210, hx210_0, hx210_1, hx210_2, hl210_0, hi210_0⟩ := at_T40 (Kd.S_reads' HO_10.out).2.2 t203 p210 q210
                   cases e210
                   obtain ⟨ce210, hce210, hMe210, hcc210⟩ := Kd.S_get HO_10.out z40 t203 p210 (by first | exact q210 | exact of_decide_eq_true (by first | (with_reducible assumption) | assumption) | (have e_ := (Kd.S_reads' HO_10.out).1; omega)); obtain ⟨ve210_0, rfl, ge210_0⟩ := k40_openM hMe210; have hv210_0 := hcc210 0 _ rfl; rw [Nat.add_zero] at hv210_0; replace hv210_0 := Option.some.inj (hv210_0.symm.trans hx210_0); rw [hv210_0] at ge210_0; have HL210_0 := Aside0.mk (show Kd.R (Kd.int .u8) 5 _ _ _ _ ((rd_T40 x10_2 t203).f0) from ge210_0); clear hv210_0 ge210_0; clear hcc210 hce210; have HR210_0 := Aside0.mk hi210_0; have HC210_0 := Aside0.mk hl210_0; clear hi210_0 hl210_0; replace p210 := eq_true p210; replace q210 := eq_true q210; have p94 : 0 ≤ (t203 : Int) := of_decide_eq_true (by first | (with_reducible assumption) | assumption); have q94 : (t203 : Int) < ((x10_2.length : Int) : Int) := of_decide_eq_true (by first | (with_reducible assumption) | assumption); obtain ⟨go94, co94, eo94, gb94, gl94, cl94, HG94⟩ := Kd.S_form HO_10.out (by omega)
                   (first | cases eo94 | (injection eo94 with ea_ en_ ec_; (first | subst ea_ | (injection ea_ with ea_; subst ea_)); subst ec_; clear en_))
                   have GB94 := Aside0.mk gb94; have GG94 := Aside0.mk HG94; clear gb94 gl94 HG94
                   (first | simp only [add_plain] at hx210_0 | skip)
                   (first | simp only [add_plain] at hx210_1 | skip)
                   (first | simp only [add_plain] at hx210_2 | skip)
                   obtain ⟨_, ce94, hcl94, hM94, hcc94, hfr94, _, _⟩ := Kd.S_elem HO_10.out z40 (t203 : Int) p94 q94; obtain ⟨ve94_0, rfl, ge94_0⟩ := k40_openM hM94; have hx94_0 : wc.cell? ⟨go94, (t203 : Int).toNat * 3, none⟩ = some (ve94_0) := hcc94 0 _ rfl; have hx94_1 : wc.cell? ⟨go94, (t203 : Int).toNat * 3 + 1, none⟩ = some (.int .i64 ((rd_T40 x10_2 t203).f1)) := hcc94 1 _ rfl; have hx94_2 : wc.cell? ⟨go94, (t203 : Int).toNat * 3 + 2, none⟩ = some (.int .i64 ((rd_T40 x10_2 t203).f2)) := hcc94 2 _ rfl; have hf94_0 : wc.frozen? ⟨go94, (t203 : Int).toNat * 3, none⟩ = false := hfr94 0; have hf94_1 : wc.frozen? ⟨go94, (t203 : Int).toNat * 3 + 1, none⟩ = false := hfr94 1; have hf94_2 : wc.frozen? ⟨go94, (t203 : Int).toNat * 3 + 2, none⟩ = false := hfr94 2; clear hcl94 hcc94 hfr94 hM94; replace p94 := eq_true p94; replace q94 := eq_true q94; have HX97 := Aside0.mk (show Kd.S k40 40 wc w.heap.size (fun k_ => ((fun _ => True)) k_ ∧ ¬ ((fun _ => False)) k_) (.slice (some ⟨go94, 0, none⟩) x10_2.length co59) x10_2 from (Kd.Su <| Kd.S_mono HO_10.out (fun k_ hk => ⟨trivial, fun e_ => e_⟩))); obtain ⟨oki97, ce97, hcl97, hM97, hcc97, hfr97, hoki97, hH97⟩ := Kd.S_elem HX97.out z40 (t203 : Int) (of_decide_eq_true (by first | (with_reducible assumption) | assumption)) (by have h_ : (t203 : Int) < ((x10_2.length : Int) : Int) := of_decide_eq_true (by first | (with_reducible assumption) | assumption); first | exact h_ | (have e_ := (Kd.S_reads' HO_10.out).1; omega) | simpa using h_); obtain ⟨ve97_0, rfl, ge97_0⟩ := k40_openM hM97; have HP97 := Kd.S_seg hH97 (of_decide_eq_true (by first | (with_reducible assumption) | assumption)) (by have h_ : (t203 : Int) < ((x10_2.length : Int) : Int) := of_decide_eq_true (by first | (with_reducible assumption) | assumption); first | exact h_ | (have e_ := (Kd.S_reads' HO_10.out).1; omega) | simpa using h_) (seg := [.int .i64 (wrap64 (a3 + a1_4))]) (j := 2) (show 3 ≤ 3 from by decide) (x' := (⟨(rd_T40 x10_2 t203).f0, (rd_T40 x10_2 t203).f1, wrap64 (a3 + a1_4)⟩ : S40)) (k40_mkM _ _ _ (⟨(rd_T40 x10_2 t203).f0, (rd_T40 x10_2 t203).f1, wrap64 (a3 + a1_4)⟩ : S40) (Kd.R_mono ge97_0 (fun _ h_ => Or.inl h_))) (fun _ hk => hk) (fun k_ hk_ => hk_.elim); have hx97_2 := hcc97 2 _ rfl
                   (try simp only [show (k40).sz = 3 from rfl, Nat.mul_one, Nat.add_zero] at hx97_2)
                   have hf97_2 := hfr97 2
                   (try simp only [show (k40).sz = 3 from rfl, Nat.mul_one, Nat.add_zero] at hf97_2)
                   clear hcl97 hcc97 hfr97 hM97 hoki97 hH97
                   go_wp2_with (first | ((with_reducible refine gate_store (t := 3) (p := 173) rfl ?_); refine store_event (t := 3) (p := 173) (v := ?vo_w98) (w1 := (wc.setCell ⟨go94, (t203 : Int).toNat * 3 + 2, none⟩ (.int .i64 (wrap64 (a3 + a1_4))))) ?hg ?ho ?hn ?hr ?_; (case ho => rfl); (case hg => rfl); (case hn => rfl); (case hr => first | (go_simp; done) | (go_simp; rfl)); intro w98 hw; have hg : wc.grownBy w98 (some go94) := (by rw [hw]; exact HP97.2); have hp_ : Kd.S k40 40 w98 w.heap.size (fun _ => True) (.slice (some ⟨go94, 0, none⟩) x10_2.length co59) y214 := (by rw [hw, Ny214.out]; exact HP97.1); clear HP97; have n0_ := Aside0.mk (hp_); have n1_ := Aside0.mk (blk_grown (blk_u <| BK185.out) hg (Kd.S_ne HO_10.out BK185.out (by decide))); have n2_ := Aside0.mk (blk_grown (blk_u <| BK186.out) hg (Kd.S_ne HO_10.out BK186.out (by decide))); have n3_ := Aside0.mk (Kd.R_after (v := (.slice (some ⟨go94, 0, none⟩) x10_2.length co59)) (v1 := (.slice (some ⟨go94, 0, none⟩) x10_2.length co59)) (ok := (fun _ => True)) (Kd.Ru <| HL210_0.out) hg (.inl rfl)); have n4_ := Aside0.mk ((by rw [hw]; exact below_set (HB.out) GB94.out : Below w.heap.size w w98)); clear HO_10; clear BK185; clear BK186; clear HL210_0; clear HB; have HO_10 := n0_; have BK185 := n1_; have BK186 := n2_; have HL210_0 := n3_; have HB := n4_; clear n0_ n1_ n2_ n3_ n4_; clear hg hw hp_; have hcz99_0 : w98.cell? ⟨gb186, 0, none⟩ = some (.int .i64 0) := (blk_cell BK186.out 0).trans rfl; have hcz99_1 : w98.cell? ⟨gb186, 1, none⟩ = some (.slice none 0 0) := (blk_cell BK186.out 1).trans rfl; have hfz99_0 := blk_frozen BK186.out; have hfz99_1 := blk_frozen BK186.out 1))
                   refine bodyPost_ret (results_tc rfl _ _ gb186 33 #[.int .i64 0, .slice none 0 0] (0, 0) _ rfl (by (with_reducible repeat (first | refine blk_drewN ?_ _ | refine blk_drew ?_ | refine blk_alloc ?_ _)); refine blk_p2 (blk_u <| BK186.out) rfl) Try.underlying33 rfl (by kernel_rfl)) rfl ?_; exact ⟨_, _, by first | rfl | (simp [errW_none, errW_some] <;> rfl) | (simp [*, errW_none, errW_some] <;> rfl), Kd.Su <| Kd.S_mono (Kd.S_far (p := ⟨gb186, 1, none⟩) (Kd.S_far (p := ⟨gb186, 0, none⟩) (Kd.S_types HO_10.out BK186.out (by decide)) (fun _ hk => hk.2) (.int .i64 0)) (fun _ hk => hk.2) (.slice none 0 0)) (fun _ hk => (by simp [Value.ownBlock])), by first | exact Kd.R_nil _ _ _ _ _ | exact Kd.N_nil _ _ _ _ _ | exact Kd.V_nil _ _ _ _ _ | exact Kd.Q_nil _ _ _ _ _ | exact Kd.S_nil _ _ _ _ _, below_v HB.out⟩
                 ·rw [if_neg c86] at H
                  have c86b0 : (((rd_T40 x10_2 t203).f1) == a2) = false := beq_eq_false_iff_ne.mpr c86; have c86b1 : (((rd_T40 x10_2 t203).f1) != a2) = true := bne_iff_ne.mpr c86; replace H := Option.bind_eq_some_iff.mp H; obtain ⟨t217, A1000, H⟩ := H; replace H : (some (x10_2, 4, t217)) = some (r1, r2, r3) := H; have A100 := Aside0.mk A1000; clear A1000; simp only [Option.some.injEq, Prod.mk.injEq] at H; obtain ⟨rfl, rfl, rfl⟩ := H; have hnb101 := NB185_186.out; have hnc101 := NB186_185.out; have hcz102_0 : wc.cell? ⟨gb185, 0, none⟩ = some (.int .i64 a1_0) := (blk_cell BK185.out 0).trans rfl; have hcz102_1 : wc.cell? ⟨gb185, 1, none⟩ = some (.slice A1_1 l1_1.length c1_1) := (blk_cell BK185.out 1).trans rfl; have hcz102_2 : wc.cell? ⟨gb185, 2, none⟩ = some (.slice A1_2 l1_2.length c1_2) := (blk_cell BK185.out 2).trans rfl; have hcz102_3 : wc.cell? ⟨gb185, 3, none⟩ = some (.slice A1_3 l1_3.length c1_3) := (blk_cell BK185.out 3).trans rfl; have hcz102_4 : wc.cell? ⟨gb185, 4, none⟩ = some (.int .i64 a1_4) := (blk_cell BK185.out 4).trans rfl; have hfz102_0 := blk_frozen BK185.out; have p210 : 0 ≤ (t203 : Int) := of_decide_eq_true (by first | (with_reducible assumption) | assumption); have q210 : t203 < (x10_2.length : Int) := of_decide_eq_true (by first | (with_reducible assumption) | assumption); obtain ⟨ad210, A210_0, c210_0, e210, hx210_0, hx210_1, hx210_2, hl210_0, hi210_0⟩ := at_T40 (Kd.S_reads' HO_10.out).2.2 t203 p210 q210
                  cases e210
                  obtain ⟨ce210, hce210, hMe210, hcc210⟩ := Kd.S_get HO_10.out z40 t203 p210 (by first | exact q210 | exact of_decide_eq_true (by first | (with_reducible assumption) | assumption) | (have e_ := (Kd.S_reads' HO_10.out).1; omega)); obtain ⟨ve210_0, rfl, ge210_0⟩ := k40_openM hMe210; have hv210_0 := hcc210 0 _ rfl; rw [Nat.add_zero] at hv210_0; replace hv210_0 := Option.some.inj (hv210_0.symm.trans hx210_0); rw [hv210_0] at ge210_0; have HL210_0 := Aside0.mk (show Kd.R (Kd.int .u8) 5 _ _ _ _ ((rd_T40 x10_2 t203).f0) from ge210_0); clear hv210_0 ge210_0; clear hcc210 hce210; have HR210_0 := Aside0.mk hi210_0; have HC210_0 := Aside0.mk hl210_0; clear hi210_0 hl210_0; replace p210 := eq_true p210; replace q210 := eq_true q210
                  try go_wp2
                  have n0_ := Aside0.mk (Kd.S_drew HO_10.out); have n1_ := Aside0.mk (blk_drew BK185.out); have n2_ := Aside0.mk (blk_drew BK186.out); have n3_ := Aside0.mk (Kd.C_drew HR210_0.out); have n4_ := Aside0.mk (below_drew1 HB.out); clear HO_10; clear BK185; clear BK186; clear HR210_0; clear HB; have HO_10 := n0_; have BK185 := n1_; have BK186 := n2_; have HR210_0 := n3_; have HB := n4_; clear n0_ n1_ n2_ n3_ n4_; have p215 : 0 ≤ (t203 : Int) := of_decide_eq_true (by first | (with_reducible assumption) | assumption); have q215 : t203 < (x10_2.length : Int) := of_decide_eq_true (by first | (with_reducible assumption) | assumption); obtain ⟨ad215, A215_0, c215_0, e215, hx215_0, hx215_1, hx215_2, hl215_0, hi215_0⟩ := at_T40 (Kd.S_reads' HO_10.out).2.2 t203 p215 q215; obtain rfl : ad210 = ad215 := (by injection e215); obtain ⟨ce215, hce215, hMe215, hcc215⟩ := Kd.S_get HO_10.out z40 t203 p215 (by first | exact q215 | exact of_decide_eq_true (by first | (with_reducible assumption) | assumption) | (have e_ := (Kd.S_reads' HO_10.out).1; omega)); obtain ⟨ve215_0, rfl, ge215_0⟩ := k40_openM hMe215; have hv215_0 := hcc215 0 _ rfl; rw [Nat.add_zero] at hv215_0; replace hv215_0 := Option.some.inj (hv215_0.symm.trans hx215_0); rw [hv215_0] at ge215_0; have HL215_0 := Aside0.mk (show Kd.R (Kd.int .u8) 5 _ _ _ _ ((rd_T40 x10_2 t203).f0) from ge215_0); clear hv215_0 ge215_0; clear hcc215 hce215; have HR215_0 := Aside0.mk hi215_0; have HC215_0 := Aside0.mk hl215_0; clear hi215_0 hl215_0; replace p215 := eq_true p215; replace q215 := eq_true q215; have p216 : 0 ≤ (t203 : Int) := of_decide_eq_true (by first | (with_reducible assumption) | assumption); have q216 : t203 < (x10_2.length : Int) := of_decide_eq_true (by first | (with_reducible assumption) | assumption); obtain ⟨ad216, A216_0, c216_0, e216, hx216_0, hx216_1, hx216_2, hl216_0, hi216_0⟩ := at_T40 (Kd.S_reads' HO_10.out).2.2 t203 p216 q216; obtain rfl : ad210 = ad216 := (by injection e216); obtain ⟨ce216, hce216, hMe216, hcc216⟩ := Kd.S_get HO_10.out z40 t203 p216 (by first | exact q216 | exact of_decide_eq_true (by first | (with_reducible assumption) | assumption) | (have e_ := (Kd.S_reads' HO_10.out).1; omega)); obtain ⟨ve216_0, rfl, ge216_0⟩ := k40_openM hMe216; have hv216_0 := hcc216 0 _ rfl; rw [Nat.add_zero] at hv216_0; replace hv216_0 := Option.some.inj (hv216_0.symm.trans hx216_0); rw [hv216_0] at ge216_0; have HL216_0 := Aside0.mk (show Kd.R (Kd.int .u8) 5 _ _ _ _ ((rd_T40 x10_2 t203).f0) from ge216_0); clear hv216_0 ge216_0; clear hcc216 hce216; have HR216_0 := Aside0.mk hi216_0; have HC216_0 := Aside0.mk hl216_0; clear hi216_0 hl216_0; replace p216 := eq_true p216; replace q216 := eq_true q216; have ea_ := Option.some.inj (hx215_0.symm.trans hx216_0)
                  injection ea_ with ea_ en_ ec_
                  subst ea_; subst ec_; clear en_
                  refine start_ (n := 17) (S := fun w' => w'.cell? (ad210.add ((t203).toNat * 3)) = some (.slice A215_0 ((rd_T40 x10_2 t203).f0).length c215_0) ∧ w'.cell? ⟨(ad210.add ((t203).toNat * 3)).block, (ad210.add ((t203).toNat * 3)).off + 1, none⟩ = some (.int .i64 ((rd_T40 x10_2 t203).f1)) ∧ w'.cell? ⟨(ad210.add ((t203).toNat * 3)).block, (ad210.add ((t203).toNat * 3)).off + 2, none⟩ = some (.int .i64 ((rd_T40 x10_2 t203).f2)) ∧ w'.cell? (ad210.add ((t203).toNat * 3)) = some (.slice A215_0 ((rd_T40 x10_2 t203).f0).length c215_0) ∧ w'.cell? ⟨(ad210.add ((t203).toNat * 3)).block, (ad210.add ((t203).toNat * 3)).off + 1, none⟩ = some (.int .i64 ((rd_T40 x10_2 t203).f1)) ∧ w'.cell? ⟨(ad210.add ((t203).toNat * 3)).block, (ad210.add ((t203).toNat * 3)).off + 2, none⟩ = some (.int .i64 ((rd_T40 x10_2 t203).f2))) (ds := []) #[false, false, false, false, false, false, false, false, false, false, false, false, false, false, false, false, false] (by kernel_rfl) rfl rfl ⟨hx215_0, hx215_1, hx215_2, hx216_0, hx216_1, hx216_2⟩ (fun hHeld => ?_); refine with_tabW lease_Do.tab22 lease_Do.bits22 (fun HT_ HW_ => ?_)
                  generalize wc.drew = w103 at HO_10 BK185 BK186 HR210_0 HB HL215_0 HL216_0 HR215_0 HR216_0 hx215_0 hx215_1 hx215_2 hx216_0 hx216_1 hx216_2 hHeld ⊢
                  refine pure_ (i := 0) (N := some 141) (v := ?_) (a' := ?_) #[true, false, false, false, false, false, false, false, false, false, false, false, false, false, false, false, false] rfl rfl (any_of HT_.out (by kernel_rfl)) (fun _ _ _ h => h) (Or.inl ⟨by rfl, ?_⟩) ?_ ?_
                  rotate_left
                  ·intro w'
                   go_simp
                   with_reducible rfl
                  rotate_left
                  ·simp only [Act.put, List.setIfInBounds_toArray, List.set_cons_zero, List.set_cons_succ, i64_w, i32_w]
                   rfl
                  refine pure_ (i := 1) (N := some 142) (v := ?_) (a' := ?_) #[true, true, false, false, false, false, false, false, false, false, false, false, false, false, false, false, false] rfl rfl (any_of HT_.out (by kernel_rfl)) (fun _ _ _ h => h) (Or.inl ⟨by rfl, ?_⟩) ?_ ?_
                  rotate_left
                  ·intro w'
                   go_simp
                   with_reducible rfl
                  rotate_left
                  ·simp only [Act.put, List.setIfInBounds_toArray, List.set_cons_zero, List.set_cons_succ, i64_w, i32_w]
                   rfl
                  refine pure_ (i := 2) (N := some 143) (v := ?_) (a' := ?_) #[true, true, true, false, false, false, false, false, false, false, false, false, false, false, false, false, false] rfl rfl (any_of HT_.out (by kernel_rfl)) (fun _ _ _ h => h) (Or.inl ⟨by rfl, ?_⟩) ?_ ?_
                  rotate_left
                  ·intro w'
                   go_simp
                   with_reducible rfl
                  rotate_left
                  ·simp only [Act.put, List.setIfInBounds_toArray, List.set_cons_zero, List.set_cons_succ, i64_w, i32_w]
                   rfl
                  refine pure_ (i := 3) (N := some 144) (v := ?_) (a' := ?_) #[true, true, true, true, false, false, false, false, false, false, false, false, false, false, false, false, false] rfl rfl (any_of HT_.out (by kernel_rfl)) (fun _ _ _ h => h) (Or.inl ⟨by rfl, ?_⟩) ?_ ?_
                  rotate_left
                  ·intro w'
                   go_simp
                   with_reducible rfl
                  rotate_left
                  ·simp only [Act.put, List.setIfInBounds_toArray, List.set_cons_zero, List.set_cons_succ, i64_w, i32_w]
                   rfl
                  refine pure_ (i := 4) (N := some 145) (v := ?_) (a' := ?_) #[true, true, true, true, true, false, false, false, false, false, false, false, false, false, false, false, false] rfl rfl (any_of HT_.out (by kernel_rfl)) (fun _ _ _ h => h) (Or.inl ⟨by rfl, ?_⟩) ?_ ?_
                  rotate_left
                  ·intro w'
                   go_simp
                   with_reducible rfl
                  rotate_left
                  ·simp only [Act.put, List.setIfInBounds_toArray, List.set_cons_zero, List.set_cons_succ, i64_w, i32_w]
                   rfl
                  refine pure_ (i := 6) (N := some 147) (v := ?_) (a' := ?_) #[true, true, true, true, true, false, true, false, false, false, false, false, false, false, false, false, false] rfl rfl (any_of HT_.out (by kernel_rfl)) (fun _ _ _ h => h) (Or.inl ⟨by rfl, ?_⟩) ?_ ?_
                  rotate_left
                  ·intro w'
                   go_simp
                   with_reducible rfl
                  rotate_left
                  ·simp only [Act.put, List.setIfInBounds_toArray, List.set_cons_zero, List.set_cons_succ, i64_w, i32_w]
                   rfl
                  refine pure_ (i := 7) (N := some 148) (v := ?_) (a' := ?_) #[true, true, true, true, true, false, true, true, false, false, false, false, false, false, false, false, false] rfl rfl (any_of HT_.out (by kernel_rfl)) (fun _ _ _ h => h) (Or.inl ⟨by rfl, ?_⟩) ?_ ?_
                  rotate_left
                  ·intro w'
                   go_simp
                   with_reducible rfl
                  rotate_left
                  ·simp only [Act.put, List.setIfInBounds_toArray, List.set_cons_zero, List.set_cons_succ, i64_w, i32_w]
                   rfl
                  refine pure_ (i := 8) (N := some 149) (v := ?_) (a' := ?_) #[true, true, true, true, true, false, true, true, true, false, false, false, false, false, false, false, false] rfl rfl (any_of HT_.out (by kernel_rfl)) (fun _ _ _ h => h) (Or.inl ⟨by rfl, ?_⟩) ?_ ?_
                  rotate_left
                  ·intro w'
                   go_simp
                   with_reducible rfl
                  rotate_left
                  ·simp only [Act.put, List.setIfInBounds_toArray, List.set_cons_zero, List.set_cons_succ, i64_w, i32_w]
                   rfl
                  refine pure_ (i := 9) (N := some 150) (v := ?_) (a' := ?_) #[true, true, true, true, true, false, true, true, true, true, false, false, false, false, false, false, false] rfl rfl (any_of HT_.out (by kernel_rfl)) (fun _ _ _ h => h) (Or.inl ⟨by rfl, ?_⟩) ?_ ?_
                  rotate_left
                  ·intro w'
                   go_simp
                   with_reducible rfl
                  rotate_left
                  ·simp only [Act.put, List.setIfInBounds_toArray, List.set_cons_zero, List.set_cons_succ, i64_w, i32_w]
                   rfl
                  refine pure_ (i := 11) (N := some 152) (v := ?_) (a' := ?_) #[true, true, true, true, true, false, true, true, true, true, false, true, false, false, false, false, false] rfl rfl (any_of HT_.out (by kernel_rfl)) (fun _ _ _ h => h) (Or.inl ⟨by rfl, ?_⟩) ?_ ?_
                  rotate_left
                  ·intro w'
                   go_simp
                   with_reducible rfl
                  rotate_left
                  ·simp only [Act.put, List.setIfInBounds_toArray, List.set_cons_zero, List.set_cons_succ, i64_w, i32_w]
                   rfl
                  refine take_ (i := 5) (N := some 146) (v := ?_) (a' := ?_) #[true, true, true, true, true, true, true, true, true, true, false, true, false, false, false, false, false] rfl rfl (take_ofW HT_.out HW_.out (by kernel_rfl)) (fun _ _ _ h => h) (Or.inl ⟨by rfl, ?_⟩) hHeld ?_ ?_
                  rotate_left
                  ·rintro w' ⟨s0, s1, s2, s3, s4, s5⟩
                   go_simp
                   with_reducible rfl
                  rotate_left
                  ·simp only [Act.put, List.setIfInBounds_toArray, List.set_cons_zero, List.set_cons_succ, i64_w, i32_w]
                   rfl
                  refine take_ (i := 10) (N := some 151) (v := ?_) (a' := ?_) #[true, true, true, true, true, true, true, true, true, true, true, true, false, false, false, false, false] rfl rfl (take_ofW HT_.out HW_.out (by kernel_rfl)) (fun _ _ _ h => h) (Or.inl ⟨by rfl, ?_⟩) hHeld ?_ ?_
                  rotate_left
                  ·rintro w' ⟨s0, s1, s2, s3, s4, s5⟩
                   go_simp
                   with_reducible rfl
                  rotate_left
                  ·simp only [Act.put, List.setIfInBounds_toArray, List.set_cons_zero, List.set_cons_succ, i64_w, i32_w]
                   rfl
                  refine pure_ (i := 12) (N := some 153) (v := ?_) (a' := ?_) #[true, true, true, true, true, true, true, true, true, true, true, true, true, false, false, false, false] rfl rfl (any_of HT_.out (by kernel_rfl)) (fun _ _ _ h => h) (Or.inl ⟨by rfl, ?_⟩) ?_ ?_
                  rotate_left
                  ·intro w'
                   go_simp
                   with_reducible rfl
                  rotate_left
                  ·simp only [Act.put, List.setIfInBounds_toArray, List.set_cons_zero, List.set_cons_succ, i64_w, i32_w]
                   rfl
                  refine one_ (i := 13) (N := some 154) #[true, true, true, true, true, true, true, true, true, true, true, true, true, true, false, false, false] rfl rfl (one_of HT_.out (by kernel_rfl)) (by decide) (fun K hK => ?_); refine goes_ Try.func29 (by kernel_rfl) rfl #[.int .i64 ((rd_T40 x10_2 t203).f1), .int .i64 (wrap64 (((rd_T40 x10_2 t203).f2) - a3))] (by rfl) rfl rfl (by (try simp only [List.map_toArray, List.map_cons, List.map_nil]); first | done | rfl | (simp only [List.length_drop, List.length_take]; rfl)) ?_
                  with_reducible refine (lease_told.calls kj66 ((rd_T40 x10_2 t203).f1) (wrap64 (((rd_T40 x10_2 t203).f2) - a3)) t217 _ A100.out).mono ?_
                  rintro e w104 ⟨v218, rfl, ho0, hb⟩; have HS0_ := (hb.cell (World.block_lt_of_cell? _ _ (hHeld.1))).trans (hHeld.1); have HS1_ := (hb.cell (World.block_lt_of_cell? _ _ (hHeld.2.1))).trans (hHeld.2.1); have HS2_ := (hb.cell (World.block_lt_of_cell? _ _ (hHeld.2.2.1))).trans (hHeld.2.2.1); have HS3_ := (hb.cell (World.block_lt_of_cell? _ _ (hHeld.2.2.2.1))).trans (hHeld.2.2.2.1); have HS4_ := (hb.cell (World.block_lt_of_cell? _ _ (hHeld.2.2.2.2.1))).trans (hHeld.2.2.2.2.1); have HS5_ := (hb.cell (World.block_lt_of_cell? _ _ (hHeld.2.2.2.2.2))).trans (hHeld.2.2.2.2.2); refine ⟨_, rfl, ?_⟩; have n0_ := Aside0.mk (Kd.S_elder' (Kd.Su <| HO_10.out) (Kd.R_base ho0) hb); have n1_ := Aside0.mk (Kd.R_elder' (Kd.Ru <| HL215_0.out) (Kd.R_base ho0) hb); have n2_ := Aside0.mk (Kd.R_elder' (Kd.Ru <| HL216_0.out) (Kd.R_base ho0) hb); have n3_ := Aside0.mk (Kd.R_lower (Kd.R_new' (Kd.R_new' ho0 (Kd.R_lt (Kd.Ru <| HL215_0.out))) (Kd.R_lt (Kd.Ru <| HL216_0.out))) (below_size (below_v HB.out))); have n4_ := Aside0.mk (blk_below (blk_u <| BK185.out) hb); have n5_ := Aside0.mk (blk_below (blk_u <| BK186.out) hb)
                  (first | (with_reducible (have n6_ := Aside0.mk (Kd.C_below HR210_0.out hb))) | (with_reducible (have n6_ := Aside0.mk (Kd.C_past HR210_0.out hb))) | (have n6_ := Aside0.mk (Kd.C_below (by repeat (first | (with_reducible exact HR210_0.out) | (with_reducible refine Kd.C_alloc ?_ _) | (with_reducible refine Kd.C_drewN ?_ _) | (with_reducible refine Kd.C_drew ?_) | exact HR210_0.out)) hb)))
                  (first | (with_reducible (have n7_ := Aside0.mk (Kd.C_below HR215_0.out hb))) | (with_reducible (have n7_ := Aside0.mk (Kd.C_past HR215_0.out hb))) | (have n7_ := Aside0.mk (Kd.C_below (by repeat (first | (with_reducible exact HR215_0.out) | (with_reducible refine Kd.C_alloc ?_ _) | (with_reducible refine Kd.C_drewN ?_ _) | (with_reducible refine Kd.C_drew ?_) | exact HR215_0.out)) hb)))
                  (first | (with_reducible (have n8_ := Aside0.mk (Kd.C_below HR216_0.out hb))) | (with_reducible (have n8_ := Aside0.mk (Kd.C_past HR216_0.out hb))) | (have n8_ := Aside0.mk (Kd.C_below (by repeat (first | (with_reducible exact HR216_0.out) | (with_reducible refine Kd.C_alloc ?_ _) | (with_reducible refine Kd.C_drewN ?_ _) | (with_reducible refine Kd.C_drew ?_) | exact HR216_0.out)) hb)))
                  have n9_ := Aside0.mk (below_step (below_v HB.out) hb); clear HO_10; clear HL215_0; clear HL216_0; clear BK185; clear BK186; clear HR210_0; clear HR215_0; clear HR216_0; clear HB; have HO_10 := n0_; have HL215_0 := n1_; have HL216_0 := n2_; have HO219 := n3_; have BK185 := n4_; have BK186 := n5_; have HR210_0 := n6_; have HR215_0 := n7_; have HR216_0 := n8_; have HB := n9_; clear n0_ n1_ n2_ n3_ n4_ n5_ n6_ n7_ n8_ n9_
                  (try clear hb)
                  (try clear hb2)
                  (try clear hk)
                  (try clear hi)
                  (try clear ho0)
                  obtain ⟨Ao105, co105, eo105⟩ := Kd.R_slice HO219.out
                  (first | subst eo105 | (injection eo105 with f1_ f2_ f3_; have f4_ := f1_.symm; have f5_ := f3_.symm; clear f1_ f2_ f3_; subst f4_; subst f5_))
                  refine hK.out _ _ ⟨HS0_, HS1_, HS2_, HS3_, HS4_, HS5_⟩ (fun hHeld => ?_); clear hK K
                  refine norm_ (a' := ?_) ?_ ?_
                  rotate_left
                  ·show Act.put _ (some 154) _ = _
                   simp only [Act.put, List.setIfInBounds_toArray, List.set_cons_zero, List.set_cons_succ, i64_w, i32_w]
                   rfl
                  refine pure_ (i := 14) (N := some 155) (v := ?_) (a' := ?_) #[true, true, true, true, true, true, true, true, true, true, true, true, true, true, true, false, false] rfl rfl (any_of HT_.out (by kernel_rfl)) (fun _ _ _ h => h) (Or.inl ⟨by rfl, ?_⟩) ?_ ?_
                  rotate_left
                  ·intro w'
                   go_simp
                   with_reducible rfl
                  rotate_left
                  ·simp only [Act.put, List.setIfInBounds_toArray, List.set_cons_zero, List.set_cons_succ, i64_w, i32_w]
                   rfl
                  refine pure_ (i := 15) (N := some 8) (v := ?_) (a' := ?_) #[true, true, true, true, true, true, true, true, true, true, true, true, true, true, true, true, false] rfl rfl (any_of HT_.out (by kernel_rfl)) (fun _ _ _ h => h) (Or.inl ⟨by rfl, ?_⟩) ?_ ?_
                  rotate_left
                  ·intro w'
                   go_simp
                   with_reducible rfl
                  rotate_left
                  ·simp only [Act.put, List.setIfInBounds_toArray, List.set_cons_zero, List.set_cons_succ, i64_w, i32_w]
                   rfl
                  refine one_ (i := 16) (N := none) #[true, true, true, true, true, true, true, true, true, true, true, true, true, true, true, true, true] rfl rfl (one_of HT_.out (by kernel_rfl)) (by decide) (fun K hK => ?_); have hs106 : w104.cell? ⟨gb186, 0, none⟩ = some (.int .i64 0) := (blk_cell BK186.out 0).trans rfl; have hfs106 := blk_frozen BK186.out 0; have hns106_0 := NB185_186.out; have hms106_0 := NB186_185.out; have hs107 : w104.cell? ⟨gb186, 1, none⟩ = some (.slice none 0 0) := (blk_cell BK186.out 1).trans rfl; have hfs107 := blk_frozen BK186.out 1; have hns107_0 := NB185_186.out; have hms107_0 := NB186_185.out
                  refine skip_ (w1 := ?_) (by rfl) rfl ?_ ?_
                  rotate_left
                  ·go_simp
                   rfl
                  refine hK.out _ _ ⟨((cell_far (p := ⟨gb186, _, none⟩) (by first | exact Kd.own_blk (Kd.S_ne HO_10.out BK186.out (by decide)) | (rw [add_block]; exact Kd.own_blk (Kd.S_ne HO_10.out BK186.out (by decide))) | (show (Addr.add _ _).block ≠ _; rw [add_block]; exact Kd.own_blk (Kd.S_ne HO_10.out BK186.out (by decide))) | (dsimp only; exact Kd.own_blk (Kd.S_ne HO_10.out BK186.out (by decide)))) _).trans (((cell_far (p := ⟨gb186, _, none⟩) (by first | exact Kd.own_blk (Kd.S_ne HO_10.out BK186.out (by decide)) | (rw [add_block]; exact Kd.own_blk (Kd.S_ne HO_10.out BK186.out (by decide))) | (show (Addr.add _ _).block ≠ _; rw [add_block]; exact Kd.own_blk (Kd.S_ne HO_10.out BK186.out (by decide))) | (dsimp only; exact Kd.own_blk (Kd.S_ne HO_10.out BK186.out (by decide)))) _).trans (hHeld.1)))), ((cell_far (p := ⟨gb186, _, none⟩) (by first | exact Kd.own_blk (Kd.S_ne HO_10.out BK186.out (by decide)) | (rw [add_block]; exact Kd.own_blk (Kd.S_ne HO_10.out BK186.out (by decide))) | (show (Addr.add _ _).block ≠ _; rw [add_block]; exact Kd.own_blk (Kd.S_ne HO_10.out BK186.out (by decide))) | (dsimp only; exact Kd.own_blk (Kd.S_ne HO_10.out BK186.out (by decide)))) _).trans (((cell_far (p := ⟨gb186, _, none⟩) (by first | exact Kd.own_blk (Kd.S_ne HO_10.out BK186.out (by decide)) | (rw [add_block]; exact Kd.own_blk (Kd.S_ne HO_10.out BK186.out (by decide))) | (show (Addr.add _ _).block ≠ _; rw [add_block]; exact Kd.own_blk (Kd.S_ne HO_10.out BK186.out (by decide))) | (dsimp only; exact Kd.own_blk (Kd.S_ne HO_10.out BK186.out (by decide)))) _).trans (hHeld.2.1)))), ((cell_far (p := ⟨gb186, _, none⟩) (by first | exact Kd.own_blk (Kd.S_ne HO_10.out BK186.out (by decide)) | (rw [add_block]; exact Kd.own_blk (Kd.S_ne HO_10.out BK186.out (by decide))) | (show (Addr.add _ _).block ≠ _; rw [add_block]; exact Kd.own_blk (Kd.S_ne HO_10.out BK186.out (by decide))) | (dsimp only; exact Kd.own_blk (Kd.S_ne HO_10.out BK186.out (by decide)))) _).trans (((cell_far (p := ⟨gb186, _, none⟩) (by first | exact Kd.own_blk (Kd.S_ne HO_10.out BK186.out (by decide)) | (rw [add_block]; exact Kd.own_blk (Kd.S_ne HO_10.out BK186.out (by decide))) | (show (Addr.add _ _).block ≠ _; rw [add_block]; exact Kd.own_blk (Kd.S_ne HO_10.out BK186.out (by decide))) | (dsimp only; exact Kd.own_blk (Kd.S_ne HO_10.out BK186.out (by decide)))) _).trans (hHeld.2.2.1)))), ((cell_far (p := ⟨gb186, _, none⟩) (by first | exact Kd.own_blk (Kd.S_ne HO_10.out BK186.out (by decide)) | (rw [add_block]; exact Kd.own_blk (Kd.S_ne HO_10.out BK186.out (by decide))) | (show (Addr.add _ _).block ≠ _; rw [add_block]; exact Kd.own_blk (Kd.S_ne HO_10.out BK186.out (by decide))) | (dsimp only; exact Kd.own_blk (Kd.S_ne HO_10.out BK186.out (by decide)))) _).trans (((cell_far (p := ⟨gb186, _, none⟩) (by first | exact Kd.own_blk (Kd.S_ne HO_10.out BK186.out (by decide)) | (rw [add_block]; exact Kd.own_blk (Kd.S_ne HO_10.out BK186.out (by decide))) | (show (Addr.add _ _).block ≠ _; rw [add_block]; exact Kd.own_blk (Kd.S_ne HO_10.out BK186.out (by decide))) | (dsimp only; exact Kd.own_blk (Kd.S_ne HO_10.out BK186.out (by decide)))) _).trans (hHeld.2.2.2.1)))), ((cell_far (p := ⟨gb186, _, none⟩) (by first | exact Kd.own_blk (Kd.S_ne HO_10.out BK186.out (by decide)) | (rw [add_block]; exact Kd.own_blk (Kd.S_ne HO_10.out BK186.out (by decide))) | (show (Addr.add _ _).block ≠ _; rw [add_block]; exact Kd.own_blk (Kd.S_ne HO_10.out BK186.out (by decide))) | (dsimp only; exact Kd.own_blk (Kd.S_ne HO_10.out BK186.out (by decide)))) _).trans (((cell_far (p := ⟨gb186, _, none⟩) (by first | exact Kd.own_blk (Kd.S_ne HO_10.out BK186.out (by decide)) | (rw [add_block]; exact Kd.own_blk (Kd.S_ne HO_10.out BK186.out (by decide))) | (show (Addr.add _ _).block ≠ _; rw [add_block]; exact Kd.own_blk (Kd.S_ne HO_10.out BK186.out (by decide))) | (dsimp only; exact Kd.own_blk (Kd.S_ne HO_10.out BK186.out (by decide)))) _).trans (hHeld.2.2.2.2.1)))), ((cell_far (p := ⟨gb186, _, none⟩) (by first | exact Kd.own_blk (Kd.S_ne HO_10.out BK186.out (by decide)) | (rw [add_block]; exact Kd.own_blk (Kd.S_ne HO_10.out BK186.out (by decide))) | (show (Addr.add _ _).block ≠ _; rw [add_block]; exact Kd.own_blk (Kd.S_ne HO_10.out BK186.out (by decide))) | (dsimp only; exact Kd.own_blk (Kd.S_ne HO_10.out BK186.out (by decide)))) _).trans (((cell_far (p := ⟨gb186, _, none⟩) (by first | exact Kd.own_blk (Kd.S_ne HO_10.out BK186.out (by decide)) | (rw [add_block]; exact Kd.own_blk (Kd.S_ne HO_10.out BK186.out (by decide))) | (show (Addr.add _ _).block ≠ _; rw [add_block]; exact Kd.own_blk (Kd.S_ne HO_10.out BK186.out (by decide))) | (dsimp only; exact Kd.own_blk (Kd.S_ne HO_10.out BK186.out (by decide)))) _).trans (hHeld.2.2.2.2.2))))⟩ (fun hHeld => ?_); clear hK K; refine done_ (done_of HT_.out (by kernel_rfl)) ?_
                  try go_wp2
                  refine bodyPost_ret (results_tc rfl _ _ gb186 33 #[.int .i64 4, .slice Ao105 t217.length co105] (0, 0) _ rfl (by (with_reducible repeat (first | refine blk_drewN ?_ _ | refine blk_drew ?_ | refine blk_alloc ?_ _)); refine blk_p2 (blk_u <| BK186.out) rfl) Try.underlying33 rfl (by kernel_rfl)) rfl ?_; exact ⟨_, _, by first | rfl | (simp [errW_none, errW_some] <;> rfl) | (simp [*, errW_none, errW_some] <;> rfl), Kd.Su <| Kd.S_mono (Kd.S_far (p := ⟨gb186, 1, none⟩) (Kd.S_far (p := ⟨gb186, 0, none⟩) (Kd.S_types HO_10.out BK186.out (by decide)) (fun _ hk => hk.2) (.int .i64 4)) (fun _ hk => hk.2) (.slice Ao105 t217.length co105)) (fun _ hk => hk.1.2), Kd.Ru <| Kd.R_mono (Kd.R_far (p := ⟨gb186, 1, none⟩) (Kd.R_far (p := ⟨gb186, 0, none⟩) (Kd.R_types HO219.out BK186.out (by decide)) (fun _ hk => hk.2) (.int .i64 4)) (fun _ hk => hk.2) (.slice Ao105 t217.length co105)) (fun _ hk => trivial), below_v HB.out⟩
                ·rw [if_neg c85] at H
                 exact absurd H (by simp)
               ·rw [if_neg c84] at H
                exact absurd H (by simp)
             ·replace c72 := Bool.eq_false_iff.mpr c72
              subst c72
              have H1 : ((slices_Clone_byte_byte.f l1_1).bind fun t220 => (if 0 ≤ t203 then (if t203 ≤ (x10_2.length : Int) then (if x10_2.length < 3518437208883 then (some ((x10_2.take (t203 : Int).toNat ++ [(⟨t220, a2, wrap64 (a3 + a1_4)⟩ : S40)] ++ x10_2.drop (t203 : Int).toNat), 0, ([] : List Int))) else (none)) else (none)) else (none))) = some (r1, r2, r3) := by rw [if_neg (show ¬ (false = true) by decide)] at H; exact H
              clear H; have H := H1; clear H1; replace H := Option.bind_eq_some_iff.mp H; obtain ⟨t220, A1080, H⟩ := H; replace H : (if 0 ≤ t203 then (if t203 ≤ (x10_2.length : Int) then (if x10_2.length < 3518437208883 then (some ((x10_2.take (t203 : Int).toNat ++ [(⟨t220, a2, wrap64 (a3 + a1_4)⟩ : S40)] ++ x10_2.drop (t203 : Int).toNat), 0, ([] : List Int))) else (none)) else (none)) else (none)) = some (r1, r2, r3) := H; have A108 := Aside0.mk A1080; clear A1080
              by_cases c109 : 0 ≤ t203
              ·rw [if_pos c109] at H
               have c109b0 := eq_true c109; have c109b1 : decide (0 ≤ t203) = true := decide_eq_true c109; clear c109
               by_cases c110 : t203 ≤ (x10_2.length : Int)
               ·rw [if_pos c110] at H
                have c110b0 := eq_true c110; have c110b1 : decide (t203 ≤ (x10_2.length : Int)) = true := decide_eq_true c110; clear c110
                by_cases c111 : x10_2.length < 3518437208883
                ·rw [if_pos c111] at H
                 have LMc111 := Aside0.mk c111; clear c111; obtain ⟨y223, hy223⟩ : ∃ y_ : List (S40), y_ = (x10_2.take (t203 : Int).toNat ++ [(⟨t220, a2, wrap64 (a3 + a1_4)⟩ : S40)] ++ x10_2.drop (t203 : Int).toNat) := ⟨_, rfl⟩
                 replace H : (some (y223, 0, ([] : List Int))) = some (r1, r2, r3) := by first | (rw [hy223]; with_reducible exact H) | (have H2_ := (Option.bind_some _ _).symm.trans H; rw [hy223]; with_reducible exact H2_) | (have H2_ := (Option.bind_some _ _).symm.trans H; with_reducible exact H2_) | with_reducible exact H | (rw [hy223]; exact H) | exact H
                 have Ny223 := Aside0.mk hy223; clear hy223; simp only [Option.some.injEq, Prod.mk.injEq] at H; obtain ⟨rfl, rfl, rfl⟩ := H
                 try go_wp2
                 have n0_ := Aside0.mk (Kd.S_drew HO_10.out); have n1_ := Aside0.mk (blk_drew BK185.out); have n2_ := Aside0.mk (blk_drew BK186.out); have n3_ := Aside0.mk (below_drew1 HB.out); clear HO_10; clear BK185; clear BK186; clear HB; have HO_10 := n0_; have BK185 := n1_; have BK186 := n2_; have HB := n3_; clear n0_ n1_ n2_ n3_
                 refine start_ (n := 16) (S := fun w' => w'.cell? ⟨gb185, 0, none⟩ = some (.int .i64 a1_0) ∧ w'.cell? ⟨gb185, 1, none⟩ = some (.slice A1_1 l1_1.length c1_1) ∧ w'.cell? ⟨gb185, 2, none⟩ = some (.slice A1_2 l1_2.length c1_2) ∧ w'.cell? ⟨gb185, 3, none⟩ = some (.slice A1_3 l1_3.length c1_3) ∧ w'.cell? ⟨gb185, 4, none⟩ = some (.int .i64 a1_4)) (ds := []) #[false, false, false, false, false, false, false, false, false, false, false, false, false, false, false, false] (by kernel_rfl) rfl rfl ⟨(blk_cell BK185.out 0).trans rfl, (blk_cell BK185.out 1).trans rfl, (blk_cell BK185.out 2).trans rfl, (blk_cell BK185.out 3).trans rfl, (blk_cell BK185.out 4).trans rfl⟩ (fun hHeld => ?_); refine with_tabW lease_Do.tab18 lease_Do.bits18 (fun HT_ HW_ => ?_)
                 generalize wc.drew = w112 at HO_10 BK185 BK186 HB hHeld ⊢
                 refine pure_ (i := 0) (N := some 100) (v := ?_) (a' := ?_) #[true, false, false, false, false, false, false, false, false, false, false, false, false, false, false, false] rfl rfl (any_of HT_.out (by kernel_rfl)) (fun _ _ _ h => h) (Or.inl ⟨by rfl, ?_⟩) ?_ ?_
                 rotate_left
                 ·intro w'
                  go_simp
                  with_reducible rfl
                 rotate_left
                 ·simp only [Act.put, List.setIfInBounds_toArray, List.set_cons_zero, List.set_cons_succ, i64_w, i32_w]
                  rfl
                 refine pure_ (i := 1) (N := some 101) (v := ?_) (a' := ?_) #[true, true, false, false, false, false, false, false, false, false, false, false, false, false, false, false] rfl rfl (any_of HT_.out (by kernel_rfl)) (fun _ _ _ h => h) (Or.inl ⟨by rfl, ?_⟩) ?_ ?_
                 rotate_left
                 ·intro w'
                  go_simp
                  with_reducible rfl
                 rotate_left
                 ·simp only [Act.put, List.setIfInBounds_toArray, List.set_cons_zero, List.set_cons_succ, i64_w, i32_w]
                  rfl
                 refine pure_ (i := 2) (N := some 102) (v := ?_) (a' := ?_) #[true, true, true, false, false, false, false, false, false, false, false, false, false, false, false, false] rfl rfl (any_of HT_.out (by kernel_rfl)) (fun _ _ _ h => h) (Or.inl ⟨by rfl, ?_⟩) ?_ ?_
                 rotate_left
                 ·intro w'
                  go_simp
                  with_reducible rfl
                 rotate_left
                 ·simp only [Act.put, List.setIfInBounds_toArray, List.set_cons_zero, List.set_cons_succ, i64_w, i32_w]
                  rfl
                 refine pure_ (i := 5) (N := some 105) (v := ?_) (a' := ?_) #[true, true, true, false, false, true, false, false, false, false, false, false, false, false, false, false] rfl rfl (any_of HT_.out (by kernel_rfl)) (fun _ _ _ h => h) (Or.inl ⟨by rfl, ?_⟩) ?_ ?_
                 rotate_left
                 ·intro w'
                  go_simp
                  with_reducible rfl
                 rotate_left
                 ·simp only [Act.put, List.setIfInBounds_toArray, List.set_cons_zero, List.set_cons_succ, i64_w, i32_w]
                  rfl
                 refine pure_ (i := 6) (N := some 106) (v := ?_) (a' := ?_) #[true, true, true, false, false, true, true, false, false, false, false, false, false, false, false, false] rfl rfl (any_of HT_.out (by kernel_rfl)) (fun _ _ _ h => h) (Or.inl ⟨by rfl, ?_⟩) ?_ ?_
                 rotate_left
                 ·intro w'
                  go_simp
                  with_reducible rfl
                 rotate_left
                 ·simp only [Act.put, List.setIfInBounds_toArray, List.set_cons_zero, List.set_cons_succ, i64_w, i32_w]
                  rfl
                 refine pure_ (i := 7) (N := some 107) (v := ?_) (a' := ?_) #[true, true, true, false, false, true, true, true, false, false, false, false, false, false, false, false] rfl rfl (any_of HT_.out (by kernel_rfl)) (fun _ _ _ h => h) (Or.inl ⟨by rfl, ?_⟩) ?_ ?_
                 rotate_left
                 ·intro w'
                  go_simp
                  with_reducible rfl
                 rotate_left
                 ·simp only [Act.put, List.setIfInBounds_toArray, List.set_cons_zero, List.set_cons_succ, i64_w, i32_w]
                  rfl
                 refine pure_ (i := 13) (N := some 113) (v := ?_) (a' := ?_) #[true, true, true, false, false, true, true, true, false, false, false, false, false, true, false, false] rfl rfl (any_of HT_.out (by kernel_rfl)) (fun _ _ _ h => h) (Or.inl ⟨by rfl, ?_⟩) ?_ ?_
                 rotate_left
                 ·intro w'
                  go_simp
                  with_reducible rfl
                 rotate_left
                 ·simp only [Act.put, List.setIfInBounds_toArray, List.set_cons_zero, List.set_cons_succ, i64_w, i32_w]
                  rfl
                 refine take_ (i := 3) (N := some 103) (v := ?_) (a' := ?_) #[true, true, true, true, false, true, true, true, false, false, false, false, false, true, false, false] rfl rfl (take_ofW HT_.out HW_.out (by kernel_rfl)) (fun _ _ _ h => h) (Or.inl ⟨by rfl, ?_⟩) hHeld ?_ ?_
                 rotate_left
                 ·rintro w' ⟨s0, s1, s2, s3, s4⟩
                  go_simp
                  with_reducible rfl
                 rotate_left
                 ·simp only [Act.put, List.setIfInBounds_toArray, List.set_cons_zero, List.set_cons_succ, i64_w, i32_w]
                  rfl
                 refine take_ (i := 8) (N := some 108) (v := ?_) (a' := ?_) #[true, true, true, true, false, true, true, true, true, false, false, false, false, true, false, false] rfl rfl (take_ofW HT_.out HW_.out (by kernel_rfl)) (fun _ _ _ h => h) (Or.inl ⟨by rfl, ?_⟩) hHeld ?_ ?_
                 rotate_left
                 ·rintro w' ⟨s0, s1, s2, s3, s4⟩
                  go_simp
                  with_reducible rfl
                 rotate_left
                 ·simp only [Act.put, List.setIfInBounds_toArray, List.set_cons_zero, List.set_cons_succ, i64_w, i32_w]
                  rfl
                 refine pure_ (i := 9) (N := some 109) (v := ?_) (a' := ?_) #[true, true, true, true, false, true, true, true, true, true, false, false, false, true, false, false] rfl rfl (any_of HT_.out (by kernel_rfl)) (fun _ _ _ h => h) (Or.inl ⟨by rfl, ?_⟩) ?_ ?_
                 rotate_left
                 ·intro w'
                  go_simp
                  with_reducible rfl
                 rotate_left
                 ·simp only [Act.put, List.setIfInBounds_toArray, List.set_cons_zero, List.set_cons_succ, i64_w, i32_w]
                  rfl
                 refine one_ (i := 4) (N := some 104) #[true, true, true, true, true, true, true, true, true, true, false, false, false, true, false, false] rfl rfl (one_of HT_.out (by kernel_rfl)) (by decide) (fun K hK => ?_); refine goes_ Try.func28 (by kernel_rfl) rfl #[.slice A1_1 l1_1.length c1_1] (by rfl) rfl rfl (by (try simp only [List.map_toArray, List.map_cons, List.map_nil]); first | done | rfl | (simp only [List.length_drop, List.length_take]; rfl)) ?_
                 with_reducible refine (slices_Clone_byte_byte.calls _ _ l1_1 t220 _ ?side1 ?side2 A108.out).mono ?_
                 (case side1 => exact Kd.Cu (Kd.C_below HR1_1.out HB.out))
                 (case side2 => exact HC1_1.out)
                 rintro e w113 ⟨v221, rfl, ho0, hb⟩; refine ⟨_, rfl, ?_⟩; have n0_ := Aside0.mk (Kd.S_elder' (Kd.Su <| HO_10.out) (Kd.R_base ho0) hb); have n1_ := Aside0.mk (Kd.R_lower ho0 (below_size (below_v HB.out))); have n2_ := Aside0.mk (blk_below (blk_u <| BK185.out) hb); have n3_ := Aside0.mk (blk_below (blk_u <| BK186.out) hb); have n4_ := Aside0.mk (below_step (below_v HB.out) hb); clear HO_10; clear BK185; clear BK186; clear HB; have HO_10 := n0_; have HO222 := n1_; have BK185 := n2_; have BK186 := n3_; have HB := n4_; clear n0_ n1_ n2_ n3_ n4_
                 (try clear hb)
                 (try clear hb2)
                 (try clear hk)
                 (try clear hi)
                 (try clear ho0)
                 obtain ⟨Ao114, co114, eo114⟩ := Kd.R_slice HO222.out
                 (first | subst eo114 | (injection eo114 with f1_ f2_ f3_; have f4_ := f1_.symm; have f5_ := f3_.symm; clear f1_ f2_ f3_; subst f4_; subst f5_))
                 refine hK.out _ _ ⟨(blk_cell BK185.out 0).trans rfl, (blk_cell BK185.out 1).trans rfl, (blk_cell BK185.out 2).trans rfl, (blk_cell BK185.out 3).trans rfl, (blk_cell BK185.out 4).trans rfl⟩ (fun hHeld => ?_); clear hK K
                 refine norm_ (a' := ?_) ?_ ?_
                 rotate_left
                 ·show Act.put _ (some 104) _ = _
                  simp only [Act.put, List.setIfInBounds_toArray, List.set_cons_zero, List.set_cons_succ, i64_w, i32_w]
                  rfl
                 refine pure_ (i := 10) (N := some 110) (v := ?_) (a' := ?_) #[true, true, true, true, true, true, true, true, true, true, true, false, false, true, false, false] rfl rfl (any_of HT_.out (by kernel_rfl)) (fun _ _ _ h => h) (Or.inl ⟨by rfl, ?_⟩) ?_ ?_
                 rotate_left
                 ·intro w'
                  go_simp
                  with_reducible rfl
                 rotate_left
                 ·simp only [Act.put, List.setIfInBounds_toArray, List.set_cons_zero, List.set_cons_succ, i64_w, i32_w]
                  rfl
                 refine one_ (i := 11) (N := some 111) #[true, true, true, true, true, true, true, true, true, true, true, true, false, true, false, false] rfl rfl (one_of HT_.out (by kernel_rfl)) (by decide) (fun K hK => ?_)
                 refine value_ (w1 := ?_) (v := ?_) (by rfl) rfl ?_ ?_
                 rotate_left 2
                 ·go_simp
                  constructor
                  ·rfl
                  ·rfl
                 refine hK.out _ _ ⟨(blk_cell (blk_alloc BK185.out _) 0).trans rfl, (blk_cell (blk_alloc BK185.out _) 1).trans rfl, (blk_cell (blk_alloc BK185.out _) 2).trans rfl, (blk_cell (blk_alloc BK185.out _) 3).trans rfl, (blk_cell (blk_alloc BK185.out _) 4).trans rfl⟩ (fun hHeld => ?_); clear hK K
                 refine norm_ (a' := ?_) ?_ ?_
                 rotate_left
                 ·show Act.put _ (some 111) _ = _
                  simp only [Act.put, List.setIfInBounds_toArray, List.set_cons_zero, List.set_cons_succ, i64_w, i32_w]
                  rfl
                 refine one_ (i := 12) (N := some 112) #[true, true, true, true, true, true, true, true, true, true, true, true, true, true, false, false] rfl rfl (one_of HT_.out (by kernel_rfl)) (by decide) (fun K hK => ?_); refine Kd.S_insert_step 27 _ k40 (w0 := w) w.heap.size (by rfl) (.tmp 100) (.tmp 101) (.tmp 111) _ 40 40 api_Lease_27.ins Try.func27 (by kernel_rfl) rfl rfl (by decide) (.slice Ao59 x10_2.length co59) x10_2 (⟨t220, a2, wrap64 (a3 + a1_4)⟩ : S40) [.slice Ao114 t220.length co114, .int .i64 a2, .int .i64 (wrap64 (a3 + a1_4))] (fun _ => True) (fun k_ => some k_ = (.slice Ao114 t220.length co114 : Value).ownBlock) t203 rfl rfl rfl (of_decide_eq_true (by first | (with_reducible assumption) | assumption)) (of_decide_eq_true (by first | (with_reducible assumption) | assumption)) ?aP (fun k_ hk_ => ((Kd.R_mono (ok' := fun k_ => ((fun _ => True)) k_ ∧ some k_ ≠ (.slice Ao59 x10_2.length co59 : Value).ownBlock) (Kd.R_apart' (HO222.out) (Kd.S_typed HO_10.out) (by decide)) (fun k_ hk => ⟨trivial, hk.2⟩))).1 k_ hk_.symm) ?aF ?aO ?aB ?aS ?aL ?_
                 (case aP => exact k40_mkM _ _ _ (⟨t220, a2, wrap64 (a3 + a1_4)⟩ : S40) (Kd.R_mono (Kd.R_tight rfl (Kd.R_mono (ok' := fun k_ => ((fun _ => True)) k_ ∧ some k_ ≠ (.slice Ao59 x10_2.length co59 : Value).ownBlock) (Kd.R_apart' (HO222.out) (Kd.S_typed HO_10.out) (by decide)) (fun k_ hk => ⟨trivial, hk.2⟩))) (fun _ h_ => h_)))
                 (case aB => exact (below_v HB.out))
                 (case aF => exact (fun _ _ => trivial))
                 (case aO => exact (Kd.Su <| Kd.S_mono HO_10.out (fun k_ hk => ⟨trivial, fun e_ => hk.2 e_⟩)))
                 (case aS => exact (below_size (below_v HB.out)))
                 (case aL => have := LMc111.out; omega)
                 intro v224 w115 ho hb hg hat; rw [← Ny223.out] at ho; have n0_ := Aside0.mk (blk_grown (blk_u <| BK185.out) hg (Kd.S_ne HO_10.out BK185.out (by decide))); have n1_ := Aside0.mk (blk_grown (blk_u <| BK186.out) hg (Kd.S_ne HO_10.out BK186.out (by decide))); have n2_ := Aside0.mk (hb); have n3_ := Aside0.mk (ho); clear BK185; clear BK186; clear HB; clear HO_10; clear HO222; have BK185 := n0_; have BK186 := n1_; have HB := n2_; have HO225 := n3_; clear n0_ n1_ n2_ n3_; clear ho hb hg hat; refine hK.out _ _ ⟨(blk_cell BK185.out 0).trans rfl, (blk_cell BK185.out 1).trans rfl, (blk_cell BK185.out 2).trans rfl, (blk_cell BK185.out 3).trans rfl, (blk_cell BK185.out 4).trans rfl⟩ (fun hHeld => ?_); clear hK K
                 refine norm_ (a' := ?_) ?_ ?_
                 rotate_left
                 ·show Act.put _ (some 112) _ = _
                  simp only [Act.put, List.setIfInBounds_toArray, List.set_cons_zero, List.set_cons_succ, i64_w, i32_w]
                  rfl
                 refine pure_ (i := 14) (N := some 8) (v := ?_) (a' := ?_) #[true, true, true, true, true, true, true, true, true, true, true, true, true, true, true, false] rfl rfl (any_of HT_.out (by kernel_rfl)) (fun _ _ _ h => h) (Or.inl ⟨by rfl, ?_⟩) ?_ ?_
                 rotate_left
                 ·intro w'
                  go_simp
                  with_reducible rfl
                 rotate_left
                 ·simp only [Act.put, List.setIfInBounds_toArray, List.set_cons_zero, List.set_cons_succ, i64_w, i32_w]
                  rfl
                 refine one_ (i := 15) (N := none) #[true, true, true, true, true, true, true, true, true, true, true, true, true, true, true, true] rfl rfl (one_of HT_.out (by kernel_rfl)) (by decide) (fun K hK => ?_); have hs116 : w115.cell? ⟨gb186, 0, none⟩ = some (.int .i64 0) := (blk_cell BK186.out 0).trans rfl; have hfs116 := blk_frozen BK186.out 0; have hns116_0 := NB185_186.out; have hms116_0 := NB186_185.out; have hs117 : w115.cell? ⟨gb186, 1, none⟩ = some (.slice none 0 0) := (blk_cell BK186.out 1).trans rfl; have hfs117 := blk_frozen BK186.out 1; have hns117_0 := NB185_186.out; have hms117_0 := NB186_185.out
                 refine skip_ (w1 := ?_) (by rfl) rfl ?_ ?_
                 rotate_left
                 ·go_simp
                  rfl
                 refine hK.out _ _ ⟨((cell_far (p := ⟨gb186, _, none⟩) NB185_186.out _).trans (((cell_far (p := ⟨gb186, _, none⟩) NB185_186.out _).trans (hHeld.1)))), ((cell_far (p := ⟨gb186, _, none⟩) NB185_186.out _).trans (((cell_far (p := ⟨gb186, _, none⟩) NB185_186.out _).trans (hHeld.2.1)))), ((cell_far (p := ⟨gb186, _, none⟩) NB185_186.out _).trans (((cell_far (p := ⟨gb186, _, none⟩) NB185_186.out _).trans (hHeld.2.2.1)))), ((cell_far (p := ⟨gb186, _, none⟩) NB185_186.out _).trans (((cell_far (p := ⟨gb186, _, none⟩) NB185_186.out _).trans (hHeld.2.2.2.1)))), ((cell_far (p := ⟨gb186, _, none⟩) NB185_186.out _).trans (((cell_far (p := ⟨gb186, _, none⟩) NB185_186.out _).trans (hHeld.2.2.2.2))))⟩ (fun hHeld => ?_); clear hK K; refine done_ (done_of HT_.out (by kernel_rfl)) ?_
                 try go_wp2
                 refine bodyPost_ret (results_tc rfl _ _ gb186 33 #[.int .i64 0, .slice none 0 0] (0, 0) _ rfl (by (with_reducible repeat (first | refine blk_drewN ?_ _ | refine blk_drew ?_ | refine blk_alloc ?_ _)); refine blk_p2 (blk_u <| BK186.out) rfl) Try.underlying33 rfl (by kernel_rfl)) rfl ?_; exact ⟨_, _, by first | rfl | (simp [errW_none, errW_some] <;> rfl) | (simp [*, errW_none, errW_some] <;> rfl), Kd.Su <| Kd.S_mono (Kd.S_far (p := ⟨gb186, 1, none⟩) (Kd.S_far (p := ⟨gb186, 0, none⟩) (Kd.S_types HO225.out BK186.out (by decide)) (fun _ hk => hk.2) (.int .i64 0)) (fun _ hk => hk.2) (.slice none 0 0)) (fun _ hk => (by simp [Value.ownBlock])), by first | exact Kd.R_nil _ _ _ _ _ | exact Kd.N_nil _ _ _ _ _ | exact Kd.V_nil _ _ _ _ _ | exact Kd.Q_nil _ _ _ _ _ | exact Kd.S_nil _ _ _ _ _, below_v HB.out⟩
                ·rw [if_neg c111] at H
                 exact absurd H (by simp)
               ·rw [if_neg c110] at H
                exact absurd H (by simp)
              ·rw [if_neg c109] at H
               exact absurd H (by simp)
      ·replace c54 := Bool.eq_false_iff.mpr c54
       subst c54
       have H1 : (some (x10_2, 5, ([] : List Int))) = some (r1, r2, r3) := by rw [if_neg (show ¬ (false = true) by decide)] at H; exact H
       clear H; have H := H1; clear H1; simp only [Option.some.injEq, Prod.mk.injEq] at H; obtain ⟨rfl, rfl, rfl⟩ := H; have hnb118 := NB186_185.out; have hnc118 := NB185_186.out; have hcz119_0 : wr.cell? ⟨gb186, 0, none⟩ = some (.int .i64 0) := (blk_cell BK186.out 0).trans rfl; have hcz119_1 : wr.cell? ⟨gb186, 1, none⟩ = some (.slice none 0 0) := (blk_cell BK186.out 1).trans rfl; have hfz119_0 := blk_frozen BK186.out
       go_wp2
       refine bodyPost_ret (results_tc rfl _ _ gb186 33 #[.int .i64 5, .slice none 0 0] (0, 0) _ rfl (by (with_reducible repeat (first | refine blk_drewN ?_ _ | refine blk_drew ?_ | refine blk_alloc ?_ _)); refine blk_p2 (blk_u <| BK186.out) rfl) Try.underlying33 rfl (by kernel_rfl)) rfl ?_; exact ⟨_, _, by first | rfl | (simp [errW_none, errW_some] <;> rfl) | (simp [*, errW_none, errW_some] <;> rfl), Kd.Su <| Kd.S_mono (Kd.S_far (p := ⟨gb186, 1, none⟩) (Kd.S_far (p := ⟨gb186, 0, none⟩) (Kd.S_types HO_10.out BK186.out (by decide)) (fun _ hk => hk.2) (.int .i64 5)) (fun _ hk => hk.2) (.slice none 0 0)) (fun _ hk => (by simp [Value.ownBlock])), by first | exact Kd.R_nil _ _ _ _ _ | exact Kd.N_nil _ _ _ _ _ | exact Kd.V_nil _ _ _ _ _ | exact Kd.Q_nil _ _ _ _ _ | exact Kd.S_nil _ _ _ _ _, below_v HB.out⟩

end Go.Proofs.Ytkomibcmpckflaa.PLeaseDoes
