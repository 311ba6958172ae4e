-- Written by a program of this session's (an extension of the kit's print)
import Derived.Test.YtllnbmmciejmoaaPChoosePicksx0
import Derived.Test.YtllnbmmciejmoaaPChoosePicksx2
import Derived.Test.YtllnbmmciejmoaaPChoosePicksx4
import Derived.Test.YtllnbmmciejmoaaPChoosePicksx5
import Derived.Test.YtllnbmmciejmoaaPChoosePicksx6
import Derived.Test.YtllnbmmciejmoaaPChoosePicksx7
import Derived.Test.YtllnbmmciejmoaaPChoosePicksx8
import Derived.Test.YtllnbmmciejmoaaPChoosePicksx9
import Derived.Test.YtllnbmmciejmoaaPChoosePicksx10
namespace Go.Proofs.Ytllnbmmciejmoaa.PChoosePicks
open Go.RowKit Go.Proofs.YtllnbmmciejmoaaW.PrintWords Go.Proofs.YtllnbmmciejmoaaW.PrintLast Go.Proofs.YtllnbmmciejmoaaW.PrintMore
attribute [local go_sem] max2_int min2_int max_two min_two max_three min_three max_four min_four   -- for this text's walks alone
set_option linter.unusedVariables false
set_option linter.unusedSimpArgs false

/-! ### catenarylaw18_ChoosePicks: function 3 -/
mutual
def catenarylaw18_ChoosePicks.l0 : Nat → List (S30) → Int → List (S30) → List (S30) → Int → Int → Option (Bool)
  | 0, _, _, _, _, _, _ => none
  | k + 1, x0, x1, x5, x16, x17, x18 => if x18 < x17 then (if 0 ≤ x18 then (if x18 < (x16.length : Int) then ((catenaryref05_CopyReport.f k ((rd_T30 x16 x18).f0.f0) ((rd_T30 x16 x18).f0.f1) ((rd_T30 x16 x18).f1) ((rd_T30 x16 x18).f2) ((rd_T30 x16 x18).f3) ((rd_T30 x16 x18).f4) ((rd_T30 x16 x18).f5) ((rd_T30 x16 x18).f6)).bind fun bt274 => (if x5.length < 1099511627776 then (catenarylaw18_ChoosePicks.l0 k x0 x1 (x5 ++ [(⟨(⟨bt274.1, bt274.2.1⟩ : S25), bt274.2.2.1, bt274.2.2.2.1, bt274.2.2.2.2.1, bt274.2.2.2.2.2.1, bt274.2.2.2.2.2.2.1, bt274.2.2.2.2.2.2.2⟩ : S30)]) x16 x17 (wrap64 (x18 + 1))) else (none))) else (none)) else (none)) else ((choose_Low.f k x5).bind fun t293 => ((catenaryref18_Low.f k x0).bind fun t294 => (if t293 = t294 then ((choose_High.f k x5).bind fun t295 => ((catenaryref18_High.f k x0).bind fun t296 => (if t295 = t296 then ((choose_Pick.f k x1 x5).bind fun bt297 => ((catenaryref18_Pick.f k x1 x0).bind fun bt305 => ((catenaryref05_SameReq.f bt297.1 bt297.2.1 bt297.2.2.1 bt297.2.2.2 bt305.1 bt305.2.1 bt305.2.2.1 bt305.2.2.2).bind fun t313 => (catenarylaw18_ChoosePicks.j1 k x0 x5 (!t313))))) else (catenarylaw18_ChoosePicks.j1 k x0 x5 true)))) else (catenarylaw18_ChoosePicks.j1 k x0 x5 true))))
def catenarylaw18_ChoosePicks.j1 : Nat → List (S30) → List (S30) → Bool → Option (Bool)
  | 0, _, _, _ => none
  | k + 1, x0, x5, x49 => if x49 = true then (none) else ((choose_Picks.f k x5).bind fun t314 => ((catenaryref18_Picks.f k x0).bind fun t317 => (if (t314.length : Int) = (t317.length : Int) then (catenarylaw18_ChoosePicks.l1 k x0 x5 t314 t317 (t314.length : Int) 0) else (none))))
def catenarylaw18_ChoosePicks.l1 : Nat → List (S30) → List (S30) → List (S36) → List (S36) → Int → Int → Option (Bool)
  | 0, _, _, _, _, _, _ => none
  | k + 1, x0, x5, x8, x9, x60, x61 => if x61 < x60 then (if 0 ≤ x61 then (if x61 < (x8.length : Int) then (if x61 < (x9.length : Int) then ((catenaryref05_SameReq.f ((rd_T36 x8 x61).f0) ((rd_T36 x8 x61).f1) ((rd_T36 x8 x61).f2) ((rd_T36 x8 x61).f3) ((rd_T36 x9 x61).f0) ((rd_T36 x9 x61).f1) ((rd_T36 x9 x61).f2) ((rd_T36 x9 x61).f3)).bind fun t322 => (if t322 = true then (catenarylaw18_ChoosePicks.l1 k x0 x5 x8 x9 x60 (wrap64 (x61 + 1))) else (none))) else (none)) else (none)) else (none)) else (catenarylaw18_ChoosePicks.l2 k x0 x5 (x0.length : Int) 0)
def catenarylaw18_ChoosePicks.l2 : Nat → List (S30) → List (S30) → Int → Int → Option (Bool)
  | 0, _, _, _, _ => none
  | k + 1, x0, x5, x96, x97 => if x97 < x96 then (if 0 ≤ x97 then (if x97 < (x5.length : Int) then (if x97 < (x0.length : Int) then ((catenaryref05_SameReport.f k ((rd_T30 x5 x97).f0.f0) ((rd_T30 x5 x97).f0.f1) ((rd_T30 x5 x97).f1) ((rd_T30 x5 x97).f2) ((rd_T30 x5 x97).f3) ((rd_T30 x5 x97).f4) ((rd_T30 x5 x97).f5) ((rd_T30 x5 x97).f6) ((rd_T30 x0 x97).f0.f0) ((rd_T30 x0 x97).f0.f1) ((rd_T30 x0 x97).f1) ((rd_T30 x0 x97).f2) ((rd_T30 x0 x97).f3) ((rd_T30 x0 x97).f4) ((rd_T30 x0 x97).f5) ((rd_T30 x0 x97).f6)).bind fun t326 => (if t326 = true then (catenarylaw18_ChoosePicks.l2 k x0 x5 x96 (wrap64 (x97 + 1))) else (none))) else (none)) else (none)) else (none)) else (some true)
end
def catenarylaw18_ChoosePicks.f (k : Nat) (l0 : List (S30)) (a1 : Int) : Option (Bool) := (catenarylaw18_chooseAlive.f k).bind fun t268 => (if t268 = true then (catenarylaw18_ChoosePicks.l0 k l0 a1 (([] : List (S30))) l0 (l0.length : Int) 0) else (none))
theorem catenarylaw18_ChoosePicks.mono_l : ∀ k, (∀ y0 y1 y2 y3 y4 y5, LeO (catenarylaw18_ChoosePicks.l0 k y0 y1 y2 y3 y4 y5) (catenarylaw18_ChoosePicks.l0 (k + 1) y0 y1 y2 y3 y4 y5)) ∧ (∀ y0 y1 y2, LeO (catenarylaw18_ChoosePicks.j1 k y0 y1 y2) (catenarylaw18_ChoosePicks.j1 (k + 1) y0 y1 y2)) ∧ (∀ y0 y1 y2 y3 y4 y5, LeO (catenarylaw18_ChoosePicks.l1 k y0 y1 y2 y3 y4 y5) (catenarylaw18_ChoosePicks.l1 (k + 1) y0 y1 y2 y3 y4 y5)) ∧ (∀ y0 y1 y2 y3, LeO (catenarylaw18_ChoosePicks.l2 k y0 y1 y2 y3) (catenarylaw18_ChoosePicks.l2 (k + 1) y0 y1 y2 y3))
  | 0 => ⟨fun _ _ _ _ _ _ r h => by simp [catenarylaw18_ChoosePicks.l0] at h, fun _ _ _ r h => by simp [catenarylaw18_ChoosePicks.j1] at h, fun _ _ _ _ _ _ r h => by simp [catenarylaw18_ChoosePicks.l1] at h, fun _ _ _ _ r h => by simp [catenarylaw18_ChoosePicks.l2] at h⟩
  | k + 1 => by
    obtain ⟨ih0, ih1, ih2, ih3⟩ := catenarylaw18_ChoosePicks.mono_l k
    refine ⟨?_, ?_, ?_, ?_⟩
    · intro y0 y1 y2 y3 y4 y5
      unfold catenarylaw18_ChoosePicks.l0
      repeat' first
      | (with_reducible exact ih0 _ _ _ _ _ _)
      | (with_reducible exact ih1 _ _ _)
      | (with_reducible exact ih2 _ _ _ _ _ _)
      | (with_reducible exact ih3 _ _ _ _)
      | (with_reducible exact catenarylaw18_chooseAlive.mono _)
      | (with_reducible exact catenaryref05_CopyReport.mono _ _ _ _ _ _ _ _ _)
      | (with_reducible exact catenaryref05_SameReport.mono _ _ _ _ _ _ _ _ _ _ _ _ _ _ _ _ _)
      | (with_reducible exact catenaryref18_High.mono _ _)
      | (with_reducible exact catenaryref18_Low.mono _ _)
      | (with_reducible exact catenaryref18_Pick.mono _ _ _)
      | (with_reducible exact catenaryref18_Picks.mono _ _)
      | (with_reducible exact choose_High.mono _ _)
      | (with_reducible exact choose_Low.mono _ _)
      | (with_reducible exact choose_Pick.mono _ _ _)
      | (with_reducible exact choose_Picks.mono _ _)
      | (with_reducible exact LeO.refl _)
      | (with_reducible exact LeO.none _)
      | (with_reducible refine LeO.ite ?_ ?_)
      | (with_reducible refine LeO.bind ?_ (fun _ => ?_))
      | exact ih0 _ _ _ _ _ _
      | exact ih1 _ _ _
      | exact ih2 _ _ _ _ _ _
      | exact ih3 _ _ _ _
      | exact catenarylaw18_chooseAlive.mono _
      | exact catenaryref05_CopyReport.mono _ _ _ _ _ _ _ _ _
      | exact catenaryref05_SameReport.mono _ _ _ _ _ _ _ _ _ _ _ _ _ _ _ _ _
      | exact catenaryref18_High.mono _ _
      | exact catenaryref18_Low.mono _ _
      | exact catenaryref18_Pick.mono _ _ _
      | exact catenaryref18_Picks.mono _ _
      | exact choose_High.mono _ _
      | exact choose_Low.mono _ _
      | exact choose_Pick.mono _ _ _
      | exact choose_Picks.mono _ _
      | exact LeO.none _
      | refine LeO.ite ?_ ?_
      | refine LeO.bind ?_ (fun _ => ?_)
    · intro y0 y1 y2
      unfold catenarylaw18_ChoosePicks.j1
      repeat' first
      | (with_reducible exact ih0 _ _ _ _ _ _)
      | (with_reducible exact ih1 _ _ _)
      | (with_reducible exact ih2 _ _ _ _ _ _)
      | (with_reducible exact ih3 _ _ _ _)
      | (with_reducible exact catenarylaw18_chooseAlive.mono _)
      | (with_reducible exact catenaryref05_CopyReport.mono _ _ _ _ _ _ _ _ _)
      | (with_reducible exact catenaryref05_SameReport.mono _ _ _ _ _ _ _ _ _ _ _ _ _ _ _ _ _)
      | (with_reducible exact catenaryref18_High.mono _ _)
      | (with_reducible exact catenaryref18_Low.mono _ _)
      | (with_reducible exact catenaryref18_Pick.mono _ _ _)
      | (with_reducible exact catenaryref18_Picks.mono _ _)
      | (with_reducible exact choose_High.mono _ _)
      | (with_reducible exact choose_Low.mono _ _)
      | (with_reducible exact choose_Pick.mono _ _ _)
      | (with_reducible exact choose_Picks.mono _ _)
      | (with_reducible exact LeO.refl _)
      | (with_reducible exact LeO.none _)
      | (with_reducible refine LeO.ite ?_ ?_)
      | (with_reducible refine LeO.bind ?_ (fun _ => ?_))
      | exact ih0 _ _ _ _ _ _
      | exact ih1 _ _ _
      | exact ih2 _ _ _ _ _ _
      | exact ih3 _ _ _ _
      | exact catenarylaw18_chooseAlive.mono _
      | exact catenaryref05_CopyReport.mono _ _ _ _ _ _ _ _ _
      | exact catenaryref05_SameReport.mono _ _ _ _ _ _ _ _ _ _ _ _ _ _ _ _ _
      | exact catenaryref18_High.mono _ _
      | exact catenaryref18_Low.mono _ _
      | exact catenaryref18_Pick.mono _ _ _
      | exact catenaryref18_Picks.mono _ _
      | exact choose_High.mono _ _
      | exact choose_Low.mono _ _
      | exact choose_Pick.mono _ _ _
      | exact choose_Picks.mono _ _
      | exact LeO.none _
      | refine LeO.ite ?_ ?_
      | refine LeO.bind ?_ (fun _ => ?_)
    · intro y0 y1 y2 y3 y4 y5
      unfold catenarylaw18_ChoosePicks.l1
      repeat' first
      | (with_reducible exact ih0 _ _ _ _ _ _)
      | (with_reducible exact ih1 _ _ _)
      | (with_reducible exact ih2 _ _ _ _ _ _)
      | (with_reducible exact ih3 _ _ _ _)
      | (with_reducible exact catenarylaw18_chooseAlive.mono _)
      | (with_reducible exact catenaryref05_CopyReport.mono _ _ _ _ _ _ _ _ _)
      | (with_reducible exact catenaryref05_SameReport.mono _ _ _ _ _ _ _ _ _ _ _ _ _ _ _ _ _)
      | (with_reducible exact catenaryref18_High.mono _ _)
      | (with_reducible exact catenaryref18_Low.mono _ _)
      | (with_reducible exact catenaryref18_Pick.mono _ _ _)
      | (with_reducible exact catenaryref18_Picks.mono _ _)
      | (with_reducible exact choose_High.mono _ _)
      | (with_reducible exact choose_Low.mono _ _)
      | (with_reducible exact choose_Pick.mono _ _ _)
      | (with_reducible exact choose_Picks.mono _ _)
      | (with_reducible exact LeO.refl _)
      | (with_reducible exact LeO.none _)
      | (with_reducible refine LeO.ite ?_ ?_)
      | (with_reducible refine LeO.bind ?_ (fun _ => ?_))
      | exact ih0 _ _ _ _ _ _
      | exact ih1 _ _ _
      | exact ih2 _ _ _ _ _ _
      | exact ih3 _ _ _ _
      | exact catenarylaw18_chooseAlive.mono _
      | exact catenaryref05_CopyReport.mono _ _ _ _ _ _ _ _ _
      | exact catenaryref05_SameReport.mono _ _ _ _ _ _ _ _ _ _ _ _ _ _ _ _ _
      | exact catenaryref18_High.mono _ _
      | exact catenaryref18_Low.mono _ _
      | exact catenaryref18_Pick.mono _ _ _
      | exact catenaryref18_Picks.mono _ _
      | exact choose_High.mono _ _
      | exact choose_Low.mono _ _
      | exact choose_Pick.mono _ _ _
      | exact choose_Picks.mono _ _
      | exact LeO.none _
      | refine LeO.ite ?_ ?_
      | refine LeO.bind ?_ (fun _ => ?_)
    · intro y0 y1 y2 y3
      unfold catenarylaw18_ChoosePicks.l2
      repeat' first
      | (with_reducible exact ih0 _ _ _ _ _ _)
      | (with_reducible exact ih1 _ _ _)
      | (with_reducible exact ih2 _ _ _ _ _ _)
      | (with_reducible exact ih3 _ _ _ _)
      | (with_reducible exact catenarylaw18_chooseAlive.mono _)
      | (with_reducible exact catenaryref05_CopyReport.mono _ _ _ _ _ _ _ _ _)
      | (with_reducible exact catenaryref05_SameReport.mono _ _ _ _ _ _ _ _ _ _ _ _ _ _ _ _ _)
      | (with_reducible exact catenaryref18_High.mono _ _)
      | (with_reducible exact catenaryref18_Low.mono _ _)
      | (with_reducible exact catenaryref18_Pick.mono _ _ _)
      | (with_reducible exact catenaryref18_Picks.mono _ _)
      | (with_reducible exact choose_High.mono _ _)
      | (with_reducible exact choose_Low.mono _ _)
      | (with_reducible exact choose_Pick.mono _ _ _)
      | (with_reducible exact choose_Picks.mono _ _)
      | (with_reducible exact LeO.refl _)
      | (with_reducible exact LeO.none _)
      | (with_reducible refine LeO.ite ?_ ?_)
      | (with_reducible refine LeO.bind ?_ (fun _ => ?_))
      | exact ih0 _ _ _ _ _ _
      | exact ih1 _ _ _
      | exact ih2 _ _ _ _ _ _
      | exact ih3 _ _ _ _
      | exact catenarylaw18_chooseAlive.mono _
      | exact catenaryref05_CopyReport.mono _ _ _ _ _ _ _ _ _
      | exact catenaryref05_SameReport.mono _ _ _ _ _ _ _ _ _ _ _ _ _ _ _ _ _
      | exact catenaryref18_High.mono _ _
      | exact catenaryref18_Low.mono _ _
      | exact catenaryref18_Pick.mono _ _ _
      | exact catenaryref18_Picks.mono _ _
      | exact choose_High.mono _ _
      | exact choose_Low.mono _ _
      | exact choose_Pick.mono _ _ _
      | exact choose_Picks.mono _ _
      | exact LeO.none _
      | refine LeO.ite ?_ ?_
      | refine LeO.bind ?_ (fun _ => ?_)
theorem catenarylaw18_ChoosePicks.mono : ∀ a0 a1 k, LeO (catenarylaw18_ChoosePicks.f k a0 a1) (catenarylaw18_ChoosePicks.f (k + 1) a0 a1) := by
  intro a0 a1 k
  obtain ⟨ih0, ih1, ih2, ih3⟩ := catenarylaw18_ChoosePicks.mono_l k
  unfold catenarylaw18_ChoosePicks.f
  repeat' first
      | (with_reducible exact ih0 _ _ _ _ _ _)
      | (with_reducible exact ih1 _ _ _)
      | (with_reducible exact ih2 _ _ _ _ _ _)
      | (with_reducible exact ih3 _ _ _ _)
      | (with_reducible exact catenarylaw18_chooseAlive.mono _)
      | (with_reducible exact catenaryref05_CopyReport.mono _ _ _ _ _ _ _ _ _)
      | (with_reducible exact catenaryref05_SameReport.mono _ _ _ _ _ _ _ _ _ _ _ _ _ _ _ _ _)
      | (with_reducible exact catenaryref18_High.mono _ _)
      | (with_reducible exact catenaryref18_Low.mono _ _)
      | (with_reducible exact catenaryref18_Pick.mono _ _ _)
      | (with_reducible exact catenaryref18_Picks.mono _ _)
      | (with_reducible exact choose_High.mono _ _)
      | (with_reducible exact choose_Low.mono _ _)
      | (with_reducible exact choose_Pick.mono _ _ _)
      | (with_reducible exact choose_Picks.mono _ _)
      | (with_reducible exact LeO.refl _)
      | (with_reducible exact LeO.none _)
      | (with_reducible refine LeO.ite ?_ ?_)
      | (with_reducible refine LeO.bind ?_ (fun _ => ?_))
      | exact ih0 _ _ _ _ _ _
      | exact ih1 _ _ _
      | exact ih2 _ _ _ _ _ _
      | exact ih3 _ _ _ _
      | exact catenarylaw18_chooseAlive.mono _
      | exact catenaryref05_CopyReport.mono _ _ _ _ _ _ _ _ _
      | exact catenaryref05_SameReport.mono _ _ _ _ _ _ _ _ _ _ _ _ _ _ _ _ _
      | exact catenaryref18_High.mono _ _
      | exact catenaryref18_Low.mono _ _
      | exact catenaryref18_Pick.mono _ _ _
      | exact catenaryref18_Picks.mono _ _
      | exact choose_High.mono _ _
      | exact choose_Low.mono _ _
      | exact choose_Pick.mono _ _ _
      | exact choose_Picks.mono _ _
      | exact LeO.none _
      | refine LeO.ite ?_ ?_
      | refine LeO.bind ?_ (fun _ => ?_)
def catenarylaw18_ChoosePicks.T17 : Bool × List (List Nat × List Nat) := (true, [([], []), ([], []), ([0, 1], [0, 1]), ([2], [2]), ([], []), ([], []), ([4, 5], [4, 5]), ([6], [6]), ([3, 7], [3, 7]), ([8], [8])])
def catenarylaw18_ChoosePicks.B17 : List Nat := [0, 0, 3, 7, 0, 0, 48, 112, 255, 511]
theorem catenarylaw18_ChoosePicks.tab17 : rtab .any (opsOf Try.f3 17) = catenarylaw18_ChoosePicks.T17 := by kernel_rfl
theorem catenarylaw18_ChoosePicks.bits17 : waitsOk catenarylaw18_ChoosePicks.T17.2 catenarylaw18_ChoosePicks.B17 = true := by kernel_rfl
def catenarylaw18_ChoosePicks.T28 : Bool × List (List Nat × List Nat) := (true, [([], []), ([], []), ([0, 1], [0, 1]), ([2], [2]), ([], []), ([], []), ([4, 5], [4, 5]), ([6], [6]), ([3, 7], [3, 7]), ([8], [8])])
def catenarylaw18_ChoosePicks.B28 : List Nat := [0, 0, 3, 7, 0, 0, 48, 112, 255, 511]
theorem catenarylaw18_ChoosePicks.tab28 : rtab .any (opsOf Try.f3 28) = catenarylaw18_ChoosePicks.T28 := by kernel_rfl
theorem catenarylaw18_ChoosePicks.bits28 : waitsOk catenarylaw18_ChoosePicks.T28.2 catenarylaw18_ChoosePicks.B28 = true := by kernel_rfl
/-! #### a row whose elements lie apart, written element by element: Kept tells what stands as it was -/
theorem tail_fact {α β : Type} {d : Kd α} {d5 : Kd β} {e e5 base : Nat} {ok5 : Nat → Prop} {W w1 w : World} {v v5 : Value} {xs : List α} {ys : List β}
    (ho : Kd.S d e w1 W.heap.size (fun _ => True) v xs) (hb : Below W.heap.size W w1) (h5 : Kd.N d5 e5 W base ok5 v5 ys) (hw : w.heap.size ≤ W.heap.size) :
    ∃ (m m2 : Nat) (f : Nat → Nat), Aside0 ((Kd.tag f d).R e w1 m (fun k => m ≤ k ∧ k < m2) v xs.zipIdx) ∧ Aside0 (Kd.N d5 e5 w1 base (fun k => ok5 k ∧ k < m) v5 ys) ∧ Aside0 (m2 = w1.heap.size) ∧ Aside0 (w.heap.size ≤ m) := by
  obtain ⟨f, hf⟩ := ho
  exact ⟨W.heap.size, w1.heap.size, f, ⟨Kd.R_mono (Kd.R_bound hf) (fun k hk => ⟨hk.2.1, hk.2.2.1⟩)⟩, ⟨Kd.N_below (Kd.N_bound h5) hb⟩, ⟨rfl⟩, ⟨hw⟩⟩
theorem tail_at {α : Type} {d : Kd α} {e base n cap : Nat} {ok S : Nat → Prop} {f : Nat → Nat} {W w' : World} {A : Option Addr} {xs : List α} (h : (Kd.tag f d).R e W base ok (.slice A n cap) xs.zipIdx) (z : α) (hk : Kept W w' S) (hg : ∀ k, (Value.slice A n cap).ownBlock = some k → ¬ S k) (i : Int) (h0 : 0 ≤ i) (h1 : i < n) (hS : ∀ k, f k = i.toNat → ¬ S k) :
    ∃ ad c, A = some ad ∧ c.length = d.sz ∧ d.M w' base (fun k => (ok k ∧ some k ≠ (Value.slice A n cap).ownBlock) ∧ f k = i.toNat) (xs.getD i.toNat z) c ∧ (∀ j u, c[j]? = some u → w'.cell? (ad.add (i.toNat * d.sz + j)) = some u) ∧ (Value.slice A n cap).ownBlock = some ad.block := by
  have hn := (Kd.R_reads' h).1
  rw [List.length_zipIdx] at hn
  obtain ⟨g, cap', he, _⟩ := Kd.R_form h (by rw [List.length_zipIdx]; omega)
  injection he with ha _ _
  subst ha
  obtain ⟨c, hcl, hM, hcc⟩ := Kd.R_getA h (z, 0) i h0 h1
  have hi : i.toNat < xs.length := by omega
  have hz : xs.zipIdx.getD i.toNat (z, 0) = (xs.getD i.toNat z, i.toNat) := by
    rw [List.getD_eq_getElem?_getD, Kd.zip_at (List.getElem?_eq_getElem hi), List.getD_eq_getElem?_getD, List.getElem?_eq_getElem hi]
    rfl
  rw [hz] at hM
  have hM2 : d.M W base (fun k => (ok k ∧ some k ≠ (Value.slice (some ⟨g, 0, none⟩) n cap).ownBlock) ∧ f k = i.toNat) (xs.getD i.toNat z) c := hM
  refine ⟨_, c, rfl, hcl, Kd.M_kept hM2 hk (fun k hk' => hS k hk'.2), fun j u hu => cell_kept (hcc j u hu) hk ?_, by simp [Value.ownBlock]⟩
  rw [add_block]
  exact hg _ (by simp [Value.ownBlock])
theorem at_G36 {e base n cap : Nat} {ok S : Nat → Prop} {f : Nat → Nat} {W w' : World} {A : Option Addr} {xs : List S36} (h : (Kd.tag f k36).R e W base ok (.slice A n cap) xs.zipIdx) (hk : Kept W w' S) (hg : ∀ k, (Value.slice A n cap).ownBlock = some k → ¬ S k) (i : Int) (h0 : 0 ≤ i) (h1 : i < n) (hS : ∀ k, f k = i.toNat → ¬ S k) :
    ∃ ad A2 c2 A3 c3, A = some ad ∧ w'.cell? (ad.add (i.toNat * 4)) = some (.int .i64 (rd_T36 xs i).f0) ∧ w'.cell? ⟨(ad.add (i.toNat * 4)).block, (ad.add (i.toNat * 4)).off + 1, none⟩ = some (.int .i64 (rd_T36 xs i).f1) ∧ w'.cell? ⟨(ad.add (i.toNat * 4)).block, (ad.add (i.toNat * 4)).off + 2, none⟩ = some (.slice A2 (rd_T36 xs i).f2.length c2) ∧ w'.cell? ⟨(ad.add (i.toNat * 4)).block, (ad.add (i.toNat * 4)).off + 3, none⟩ = some (.slice A3 (rd_T36 xs i).f3.length c3) ∧ (rd_T36 xs i).f2.length ≤ c2 ∧ (Kd.int .u8).C w' A2 (rd_T36 xs i).f2.length (rd_T36 xs i).f2 ∧ (rd_T36 xs i).f3.length ≤ c3 ∧ (Kd.int .u8).C w' A3 (rd_T36 xs i).f3.length (rd_T36 xs i).f3 ∧ (Kd.int .u8).R 5 w' base (fun k => (ok k ∧ some k ≠ (Value.slice A n cap).ownBlock) ∧ f k = i.toNat) (.slice A2 (rd_T36 xs i).f2.length c2) (rd_T36 xs i).f2 ∧ (Value.slice A n cap).ownBlock = some ad.block := by
  obtain ⟨ad, c, e, _, hM, hc0, hob⟩ := tail_at h z36 hk hg i h0 h1 hS
  have hc : ∀ j u, c[j]? = some u → w'.cell? (ad.add (i.toNat * 4 + j)) = some u := hc0
  obtain ⟨v2, v3, rfl, r2, r3⟩ := k36_openM hM
  obtain ⟨A2, c2, rfl, l2, g2⟩ := Kd.R_reads r2
  obtain ⟨A3, c3, rfl, l3, g3⟩ := Kd.R_reads r3
  exact ⟨ad, A2, c2, A3, c3, e, hc 0 _ rfl, by rw [← add_field _ _ 1 (by omega)]; exact hc 1 _ rfl, by rw [← add_field _ _ 2 (by omega)]; exact hc 2 _ rfl, by rw [← add_field _ _ 3 (by omega)]; exact hc 3 _ rfl, l2, g2, l3, g3, r2, hob⟩
set_option maxHeartbeats 8000000 in
set_option maxRecDepth 100000 in
theorem catenarylaw18_ChoosePicks.calls (k : Nat) (A0 : Option Addr) (c0 : Nat) (l0 : List (S30)) (a1 : Int) (r : Bool) (w : World) (hr0 : Kd.C k30 w A0 l0.length l0) (hc0 : l0.length ≤ c0) (h : catenarylaw18_ChoosePicks.f k l0 a1 = some r) :
    Calls Try.prog 3 #[.slice A0 l0.length c0, .int .i64 a1] w fun e w' => e = .returned (.bool r) ∧ Below w.heap.size w w' := by
  have hu30 := Try.underlying30
  have hu36 := Try.underlying36
  have HR0 := Aside0.mk hr0
  have HC0 := Aside0.mk hc0
  clear hr0 hc0
  have HB := Aside0.mk (Below.refl w.heap.size w)
  have H : ((catenarylaw18_chooseAlive.f k).bind fun t268 => (if t268 = true then (catenarylaw18_ChoosePicks.l0 k l0 a1 (([] : List (S30))) l0 (l0.length : Int) 0) else (none))) = some r := h
  clear h
  replace H := Option.bind_eq_some_iff.mp H
  obtain ⟨t268, A30, H⟩ := H
  replace H : (if t268 = true then (catenarylaw18_ChoosePicks.l0 k l0 a1 (([] : List (S30))) l0 (l0.length : Int) 0) else (none)) = some r := H
  have A3 := Aside0.mk A30
  clear A30
  by_cases c4 : t268 = true
  · subst c4
    have H1 : (catenarylaw18_ChoosePicks.l0 k l0 a1 (([] : List (S30))) l0 (l0.length : Int) 0) = some r := by rw [if_pos rfl] at H; exact H
    clear H
    have H := H1
    clear H1
    obtain ⟨y269, hy269⟩ : ∃ y_ : List (S30), y_ = (([] : List (S30))) := ⟨_, rfl⟩
    replace H : (catenarylaw18_ChoosePicks.l0 k l0 a1 y269 l0 (l0.length : Int) 0) = some r := by first | (rw [hy269]; with_reducible exact H) | (have H2_ := (Option.bind_some _ _).symm.trans H; rw [hy269]; with_reducible exact H2_) | (have H2_ := (Option.bind_some _ _).symm.trans H; with_reducible exact H2_) | with_reducible exact H | (rw [hy269]; exact H) | exact H
    have Ny269 := Aside0.mk hy269
    clear hy269
    have H' := Aside0.mk H
    clear H
    go_enter Try.func3, Try.ntmps3
    go_wp2_with (first | ((with_reducible refine gate_callee (f := 5) rfl ?_); refine goesL_ (some 13) rfl rfl Try.func5 (by kernel_rfl) rfl #[] rfl (by (try simp only [List.map_toArray, List.map_cons, List.map_nil]); first | done | rfl | (simp only [List.length_drop, List.length_take]; rfl)) ?_; (with_reducible refine (catenarylaw18_chooseAlive.calls k  true _ A3.out).mono ?_); rintro e w5 ⟨rfl, hb⟩; refine ⟨_, rfl, ?_⟩; have n0_ := Aside0.mk (below_step (by repeat (first | (with_reducible first | exact HB.out | apply below_alloc | apply pw_below_drewN | apply below_drew1) | exact HB.out)) hb); clear HB; have HB := n0_; clear n0_; (try clear hb); (try clear hb2); (try clear hk); (try clear hi)) | ((with_reducible refine gate_dst (N := 15) rfl ?_); refine Kd.N_lit k30 _ 30 ?hg (N' := 15) ?hd (xs := ([] : List (S30))) (inner := []) (ok := (fun _ => True)) (okp := (fun _ => True)) ?hr ?hp (fun _ hk => hk) ((show ∀ k_, w5.heap.size ≤ k_ → (fun _ => True) k_ from fun k_ hk => trivial) _ (Nat.le_refl _)) (Below.refl _ _) (Nat.le_refl _) (by simp) ?_; (case hd => rfl); (case hg => rfl); (case hr => first | (go_simp; done) | (go_simp; rfl)); (case hp => exact (Reps.none _ _)); intro v270 w6 ho7 hb hg_ hnew_; clear hg_ hnew_; (first | rw [← Ny269.out] at ho7 | (simp only [Int.reduceToNat] at ho7; rw [← Ny269.out] at ho7)); have n0_ := Aside0.mk (Kd.N_lower ho7 (below_size (by repeat (first | (with_reducible first | exact HB.out | apply below_alloc | apply pw_below_drewN | apply below_drew1) | exact HB.out)))); have n1_ := Aside0.mk (below_step (by repeat (first | (with_reducible first | exact HB.out | apply below_alloc | apply pw_below_drewN | apply below_drew1) | exact HB.out)) hb); clear HB; have HO271 := n0_; have HB := n1_; clear n0_ n1_; clear hb ho7))
    go_loopg [5, 18] k (fun kq v5 v18 w' => ∃ (x5_1 : List (S30)) (x18_1 : Int), v18 = .int .i64 x18_1 ∧ Aside0 (catenarylaw18_ChoosePicks.l0 kq l0 a1 x5_1 l0 (l0.length : Int) x18_1 = some r) ∧ Aside0 (kq ≤ k) ∧ Aside0 (Kd.N k30 30 w' w.heap.size (fun _ => True) v5 x5_1) ∧ Aside0 (Below w.heap.size w w'))
    case atStart => exact ⟨(y269), (0), (by first | rfl | (simp; done) | (simp [*]; done)), H', ⟨Nat.le_refl _⟩, ⟨by (with_reducible repeat (first | apply Kd.N_alloc | apply Kd.N_drewN | apply Kd.N_drew)); exact HO271.out⟩, ⟨by repeat (first | (with_reducible first | exact HB.out | apply below_alloc | apply pw_below_drewN | apply below_drew1) | exact HB.out)⟩⟩
    case round =>
      clear H'
      try clear p2
      try clear c3
      try clear c4
      try clear c5
      obtain ⟨x5_1, x18_1, rfl, HA, HK1, HO_5, HB⟩ := hrel
      cases gk with
      | zero => exact absurd HA.out (by simp [catenarylaw18_ChoosePicks.l0])
      | succ k1 =>
        have H := HA.out
        clear HA
        simp only [catenarylaw18_ChoosePicks.l0] at H
        by_cases c8 : x18_1 < (l0.length : Int)
        · rw [if_pos c8] at H
          have c8b0 : decide (x18_1 < (l0.length : Int)) = true := decide_eq_true c8
          clear c8
          by_cases c9 : 0 ≤ x18_1
          · rw [if_pos c9] at H
            have c9b0 : decide (0 ≤ x18_1) = true := decide_eq_true c9
            clear c9
            by_cases c10 : x18_1 < (l0.length : Int)
            · rw [if_pos c10] at H
              have c10b0 : decide (x18_1 < (l0.length : Int)) = true := decide_eq_true c10
              clear c10
              replace H := Option.bind_eq_some_iff.mp H
              obtain ⟨⟨t274, t275, t276, t277, t278, t281, t284, t287⟩, A110, H⟩ := H
              replace H : (if x5_1.length < 1099511627776 then (catenarylaw18_ChoosePicks.l0 k1 l0 a1 (x5_1 ++ [(⟨(⟨t274, t275⟩ : S25), t276, t277, t278, t281, t284, t287⟩ : S30)]) l0 (l0.length : Int) (wrap64 (x18_1 + 1))) else (none)) = some r := H
              have A11 := Aside0.mk A110
              clear A110
              by_cases c12 : x5_1.length < 1099511627776
              · rw [if_pos c12] at H
                have LMc12 := Aside0.mk c12
                clear c12
                obtain ⟨y290, hy290⟩ : ∃ y_ : List (S30), y_ = (x5_1 ++ [(⟨(⟨t274, t275⟩ : S25), t276, t277, t278, t281, t284, t287⟩ : S30)]) := ⟨_, rfl⟩
                replace H : (catenarylaw18_ChoosePicks.l0 k1 l0 a1 y290 l0 (l0.length : Int) (wrap64 (x18_1 + 1))) = some r := by first | (rw [hy290]; with_reducible exact H) | (have H2_ := (Option.bind_some _ _).symm.trans H; rw [hy290]; with_reducible exact H2_) | (have H2_ := (Option.bind_some _ _).symm.trans H; with_reducible exact H2_) | with_reducible exact H | (rw [hy290]; exact H) | exact H
                have Ny290 := Aside0.mk hy290
                clear hy290
                have H' := Aside0.mk H
                clear H
                have p272 : 0 ≤ (x18_1 : Int) := of_decide_eq_true (by first | (with_reducible assumption) | assumption)
                have q272 : x18_1 < (l0.length : Int) := of_decide_eq_true (by first | (with_reducible assumption) | assumption)
                obtain ⟨ad272, A272_4, c272_4, A272_5, c272_5, A272_6, c272_6, A272_7, c272_7, e272, hx272_0, hx272_1, hx272_2, hx272_3, hx272_4, hx272_5, hx272_6, hx272_7, hl272_4, hi272_4, hl272_5, hi272_5, hl272_6, hi272_6, hl272_7, hi272_7⟩ := at_T30 HR0.out x18_1 p272 q272
                cases e272
                replace hx272_0 := (HB.out.cell (World.block_lt_of_cell? w _ hx272_0)).trans hx272_0
                replace hx272_1 := (HB.out.cell (World.block_lt_of_cell? w _ hx272_1)).trans hx272_1
                replace hx272_2 := (HB.out.cell (World.block_lt_of_cell? w _ hx272_2)).trans hx272_2
                replace hx272_3 := (HB.out.cell (World.block_lt_of_cell? w _ hx272_3)).trans hx272_3
                replace hx272_4 := (HB.out.cell (World.block_lt_of_cell? w _ hx272_4)).trans hx272_4
                replace hx272_5 := (HB.out.cell (World.block_lt_of_cell? w _ hx272_5)).trans hx272_5
                replace hx272_6 := (HB.out.cell (World.block_lt_of_cell? w _ hx272_6)).trans hx272_6
                replace hx272_7 := (HB.out.cell (World.block_lt_of_cell? w _ hx272_7)).trans hx272_7
                have HR272_4 := Aside0.mk hi272_4
                have HC272_4 := Aside0.mk hl272_4
                clear hi272_4 hl272_4
                have HR272_5 := Aside0.mk hi272_5
                have HC272_5 := Aside0.mk hl272_5
                clear hi272_5 hl272_5
                have HR272_6 := Aside0.mk hi272_6
                have HC272_6 := Aside0.mk hl272_6
                clear hi272_6 hl272_6
                have HR272_7 := Aside0.mk hi272_7
                have HC272_7 := Aside0.mk hl272_7
                clear hi272_7 hl272_7
                replace p272 := eq_true p272
                replace q272 := eq_true q272
                go_wp2_with (first | ((with_reducible refine gate_dst (N := 7) rfl ?_); refine box_event ?hg (N := 7) ?hd (cs := #[.int .i64 0, .int .i64 0, .int .i64 0, .int .i64 0, .slice none 0 0, .slice none 0 0, .slice none 0 0, .slice none 0 0]) (t := 30) ?hr ?_; (case hd => rfl); (case hg => rfl); (case hr => first | (go_simp; done) | (go_simp; rfl)); intro gb273 hg w13 hbox hb; have n0_ := Aside0.mk (Kd.N_below (Kd.N_elderB (by (with_reducible repeat (first | apply Kd.N_alloc | apply Kd.N_drewN | apply Kd.N_drew)); exact HO_5.out) gb273 (Nat.le_of_eq hg.symm)) hb); have n1_ := Aside0.mk (below_step (by repeat (first | (with_reducible first | exact HB.out | apply below_alloc | apply pw_below_drewN | apply below_drew1) | exact HB.out)) hb); have n2_ := Aside0.mk (hbox); have n3_ := Aside0.mk ((by rw [hg]; exact (below_size (by repeat (first | (with_reducible first | exact HB.out | apply below_alloc | apply pw_below_drewN | apply below_drew1) | exact HB.out))) : w.heap.size ≤ gb273)); have n4_ := Aside0.mk ((by rw [hg]; exact (below_size (by repeat (first | (with_reducible first | exact HB.out | apply below_alloc | apply pw_below_drewN | apply below_drew1) | exact HB.out))) : w.heap.size ≤ gb273)); clear HO_5; clear HB; have HO_5 := n0_; have HB := n1_; have BK273 := n2_; have GW273 := n3_; have GE273 := n4_; clear n0_ n1_ n2_ n3_ n4_; clear hb hbox hg; have hcz14_0 : w13.cell? ⟨gb273, 0, none⟩ = some (.int .i64 0) := (blk_cell BK273.out 0).trans rfl; have hcz14_1 : w13.cell? ⟨gb273, 1, none⟩ = some (.int .i64 0) := (blk_cell BK273.out 1).trans rfl; have hcz14_2 : w13.cell? ⟨gb273, 2, none⟩ = some (.int .i64 0) := (blk_cell BK273.out 2).trans rfl; have hcz14_3 : w13.cell? ⟨gb273, 3, none⟩ = some (.int .i64 0) := (blk_cell BK273.out 3).trans rfl; have hcz14_4 : w13.cell? ⟨gb273, 4, none⟩ = some (.slice none 0 0) := (blk_cell BK273.out 4).trans rfl; have hcz14_5 : w13.cell? ⟨gb273, 5, none⟩ = some (.slice none 0 0) := (blk_cell BK273.out 5).trans rfl; have hcz14_6 : w13.cell? ⟨gb273, 6, none⟩ = some (.slice none 0 0) := (blk_cell BK273.out 6).trans rfl; have hcz14_7 : w13.cell? ⟨gb273, 7, none⟩ = some (.slice none 0 0) := (blk_cell BK273.out 7).trans rfl; have hfz14_0 := blk_frozen BK273.out 0; have hfz14_1 := blk_frozen BK273.out 1; have hfz14_2 := blk_frozen BK273.out 2; have hfz14_3 := blk_frozen BK273.out 3; have hfz14_4 := blk_frozen BK273.out 4; have hfz14_5 := blk_frozen BK273.out 5; have hfz14_6 := blk_frozen BK273.out 6; have hfz14_7 := blk_frozen BK273.out 7) | ((with_reducible refine gate_callee (f := 6) rfl ?_); refine goesL_ (some 24) rfl rfl Try.func6 (by kernel_rfl) rfl #[.agg #[.int .i64 ((rd_T30 l0 x18_1).f0.f0), .int .i64 ((rd_T30 l0 x18_1).f0.f1), .int .i64 ((rd_T30 l0 x18_1).f1), .int .i64 ((rd_T30 l0 x18_1).f2), .slice A272_4 ((rd_T30 l0 x18_1).f3).length c272_4, .slice A272_5 ((rd_T30 l0 x18_1).f4).length c272_5, .slice A272_6 ((rd_T30 l0 x18_1).f5).length c272_6, .slice A272_7 ((rd_T30 l0 x18_1).f6).length c272_7]] rfl (by (try simp only [List.map_toArray, List.map_cons, List.map_nil]); first | done | rfl | (simp only [List.length_drop, List.length_take]; rfl)) ?_; (with_reducible refine (catenaryref05_CopyReport.calls k1 ((rd_T30 l0 x18_1).f0.f0) ((rd_T30 l0 x18_1).f0.f1) ((rd_T30 l0 x18_1).f1) ((rd_T30 l0 x18_1).f2) _ _ ((rd_T30 l0 x18_1).f3) _ _ ((rd_T30 l0 x18_1).f4) _ _ ((rd_T30 l0 x18_1).f5) _ _ ((rd_T30 l0 x18_1).f6) t274 t275 t276 t277 t278 t281 t284 t287 _ ?side1 ?side2 ?side3 ?side4 ?side5 ?side6 ?side7 ?side8 A11.out).mono ?_); (case side1 => exact Kd.C_below HR272_4.out (by repeat (first | (with_reducible first | exact HB.out | apply below_alloc | apply pw_below_drewN | apply below_drew1 | refine below_set ?_ GE273.out) | exact HB.out))); (case side2 => exact HC272_4.out); (case side3 => exact Kd.C_below HR272_5.out (by repeat (first | (with_reducible first | exact HB.out | apply below_alloc | apply pw_below_drewN | apply below_drew1 | refine below_set ?_ GE273.out) | exact HB.out))); (case side4 => exact HC272_5.out); (case side5 => exact Kd.C_below HR272_6.out (by repeat (first | (with_reducible first | exact HB.out | apply below_alloc | apply pw_below_drewN | apply below_drew1 | refine below_set ?_ GE273.out) | exact HB.out))); (case side6 => exact HC272_6.out); (case side7 => exact Kd.C_below HR272_7.out (by repeat (first | (with_reducible first | exact HB.out | apply below_alloc | apply pw_below_drewN | apply below_drew1 | refine below_set ?_ GE273.out) | exact HB.out))); (case side8 => exact HC272_7.out); rintro e w15 ⟨v279, v282, v285, v288, rfl, ho0, ho1, ho2, ho3, hb⟩; refine ⟨_, rfl, ?_⟩; have n0_ := Aside0.mk (Kd.N_mono (Kd.N_told (Kd.N_told (Kd.N_told (Kd.N_told (Kd.N_old (by (with_reducible repeat (first | apply Kd.N_alloc | apply Kd.N_drewN | apply Kd.N_drew)); exact (Kd.N_mono (Kd.N_far (p := ⟨gb273, 7, none⟩) (Kd.N_far (p := ⟨gb273, 6, none⟩) (Kd.N_far (p := ⟨gb273, 5, none⟩) (Kd.N_far (p := ⟨gb273, 4, none⟩) (Kd.N_far (p := ⟨gb273, 3, none⟩) (Kd.N_far (p := ⟨gb273, 2, none⟩) (Kd.N_far (p := ⟨gb273, 1, none⟩) (Kd.N_far (p := ⟨gb273, 0, none⟩) (Kd.N_mono HO_5.out (fun k_ hk => (⟨hk, hk.2⟩ : _ ∧ k_ ≠ gb273))) (fun _ hk => hk.2) (.int .i64 ((rd_T30 l0 x18_1).f0.f0))) (fun _ hk => hk.2) (.int .i64 ((rd_T30 l0 x18_1).f0.f1))) (fun _ hk => hk.2) (.int .i64 ((rd_T30 l0 x18_1).f1))) (fun _ hk => hk.2) (.int .i64 ((rd_T30 l0 x18_1).f2))) (fun _ hk => hk.2) (.slice A272_4 ((rd_T30 l0 x18_1).f3).length c272_4)) (fun _ hk => hk.2) (.slice A272_5 ((rd_T30 l0 x18_1).f4).length c272_5)) (fun _ hk => hk.2) (.slice A272_6 ((rd_T30 l0 x18_1).f5).length c272_6)) (fun _ hk => hk.2) (.slice A272_7 ((rd_T30 l0 x18_1).f6).length c272_7)) (fun _ h_ => h_.1))) hb) (Kd.R_base ho0)) (by first | exact Kd.N_base ho1 | exact Kd.S_base ho1 | exact Kd.R_base ho1)) (by first | exact Kd.N_base ho2 | exact Kd.S_base ho2 | exact Kd.R_base ho2)) (Kd.R_base ho3)) (fun _ h_ => h_.1)); have n1_ := Aside0.mk (Kd.R_lower ho0 (below_size (by repeat (first | (with_reducible first | exact HB.out | apply below_alloc | apply pw_below_drewN | apply below_drew1 | refine below_set ?_ GE273.out) | exact HB.out)))); have n2_ := Aside0.mk (Kd.N_lower (Kd.N_mono (ok' := fun k_ => some k_ ≠ (v279 : Value).ownBlock ∧ some k_ ≠ (v285 : Value).ownBlock ∧ some k_ ≠ (v288 : Value).ownBlock ∧ some k_ ≠ (u5 : Value).ownBlock ∧ k_ ≠ gb273) (Kd.S_N (Kd.S_bound (Kd.S_apart' ho1 (Kd.R_typed ho2) (by decide)))) (fun k_ hk_ => ⟨hk_.1.1.1, hk_.1.2, hk_.1.1.2, (Kd.fresh' (Kd.N_lt (by (with_reducible repeat (first | apply Kd.N_alloc | apply Kd.N_drewN | apply Kd.N_drew)); exact (Kd.N_mono (Kd.N_far (p := ⟨gb273, 7, none⟩) (Kd.N_far (p := ⟨gb273, 6, none⟩) (Kd.N_far (p := ⟨gb273, 5, none⟩) (Kd.N_far (p := ⟨gb273, 4, none⟩) (Kd.N_far (p := ⟨gb273, 3, none⟩) (Kd.N_far (p := ⟨gb273, 2, none⟩) (Kd.N_far (p := ⟨gb273, 1, none⟩) (Kd.N_far (p := ⟨gb273, 0, none⟩) (Kd.N_mono HO_5.out (fun k_ hk => (⟨hk, hk.2⟩ : _ ∧ k_ ≠ gb273))) (fun _ hk => hk.2) (.int .i64 ((rd_T30 l0 x18_1).f0.f0))) (fun _ hk => hk.2) (.int .i64 ((rd_T30 l0 x18_1).f0.f1))) (fun _ hk => hk.2) (.int .i64 ((rd_T30 l0 x18_1).f1))) (fun _ hk => hk.2) (.int .i64 ((rd_T30 l0 x18_1).f2))) (fun _ hk => hk.2) (.slice A272_4 ((rd_T30 l0 x18_1).f3).length c272_4)) (fun _ hk => hk.2) (.slice A272_5 ((rd_T30 l0 x18_1).f4).length c272_5)) (fun _ hk => hk.2) (.slice A272_6 ((rd_T30 l0 x18_1).f5).length c272_6)) (fun _ hk => hk.2) (.slice A272_7 ((rd_T30 l0 x18_1).f6).length c272_7)) (fun _ h_ => h_.1)))) k_ hk_.2.1), (Kd.freshB (g := gb273) (o := .cells #[.int .i64 ((rd_T30 l0 x18_1).f0.f0), .int .i64 ((rd_T30 l0 x18_1).f0.f1), .int .i64 ((rd_T30 l0 x18_1).f1), .int .i64 ((rd_T30 l0 x18_1).f2), .slice A272_4 ((rd_T30 l0 x18_1).f3).length c272_4, .slice A272_5 ((rd_T30 l0 x18_1).f4).length c272_5, .slice A272_6 ((rd_T30 l0 x18_1).f5).length c272_6, .slice A272_7 ((rd_T30 l0 x18_1).f6).length c272_7] 30 (0, 0)) (by (with_reducible repeat (first | refine blk_drewN ?_ _ | refine blk_drew ?_ | refine blk_alloc ?_ _)); refine blk_put (cs := #[.int .i64 ((rd_T30 l0 x18_1).f0.f0), .int .i64 ((rd_T30 l0 x18_1).f0.f1), .int .i64 ((rd_T30 l0 x18_1).f1), .int .i64 ((rd_T30 l0 x18_1).f2), .slice A272_4 ((rd_T30 l0 x18_1).f3).length c272_4, .slice A272_5 ((rd_T30 l0 x18_1).f4).length c272_5, .slice A272_6 ((rd_T30 l0 x18_1).f5).length c272_6, .slice none 0 0]) ?_ 7 _ rfl; (with_reducible repeat (first | refine blk_drewN ?_ _ | refine blk_drew ?_ | refine blk_alloc ?_ _)); refine blk_put (cs := #[.int .i64 ((rd_T30 l0 x18_1).f0.f0), .int .i64 ((rd_T30 l0 x18_1).f0.f1), .int .i64 ((rd_T30 l0 x18_1).f1), .int .i64 ((rd_T30 l0 x18_1).f2), .slice A272_4 ((rd_T30 l0 x18_1).f3).length c272_4, .slice A272_5 ((rd_T30 l0 x18_1).f4).length c272_5, .slice none 0 0, .slice none 0 0]) ?_ 6 _ rfl; (with_reducible repeat (first | refine blk_drewN ?_ _ | refine blk_drew ?_ | refine blk_alloc ?_ _)); refine blk_put (cs := #[.int .i64 ((rd_T30 l0 x18_1).f0.f0), .int .i64 ((rd_T30 l0 x18_1).f0.f1), .int .i64 ((rd_T30 l0 x18_1).f1), .int .i64 ((rd_T30 l0 x18_1).f2), .slice A272_4 ((rd_T30 l0 x18_1).f3).length c272_4, .slice none 0 0, .slice none 0 0, .slice none 0 0]) ?_ 5 _ rfl; (with_reducible repeat (first | refine blk_drewN ?_ _ | refine blk_drew ?_ | refine blk_alloc ?_ _)); refine blk_put (cs := #[.int .i64 ((rd_T30 l0 x18_1).f0.f0), .int .i64 ((rd_T30 l0 x18_1).f0.f1), .int .i64 ((rd_T30 l0 x18_1).f1), .int .i64 ((rd_T30 l0 x18_1).f2), .slice none 0 0, .slice none 0 0, .slice none 0 0, .slice none 0 0]) ?_ 4 _ rfl; (with_reducible repeat (first | refine blk_drewN ?_ _ | refine blk_drew ?_ | refine blk_alloc ?_ _)); refine blk_put (cs := #[.int .i64 ((rd_T30 l0 x18_1).f0.f0), .int .i64 ((rd_T30 l0 x18_1).f0.f1), .int .i64 ((rd_T30 l0 x18_1).f1), .int .i64 0, .slice none 0 0, .slice none 0 0, .slice none 0 0, .slice none 0 0]) ?_ 3 _ rfl; (with_reducible repeat (first | refine blk_drewN ?_ _ | refine blk_drew ?_ | refine blk_alloc ?_ _)); refine blk_put (cs := #[.int .i64 ((rd_T30 l0 x18_1).f0.f0), .int .i64 ((rd_T30 l0 x18_1).f0.f1), .int .i64 0, .int .i64 0, .slice none 0 0, .slice none 0 0, .slice none 0 0, .slice none 0 0]) ?_ 2 _ rfl; (with_reducible repeat (first | refine blk_drewN ?_ _ | refine blk_drew ?_ | refine blk_alloc ?_ _)); refine blk_put (cs := #[.int .i64 ((rd_T30 l0 x18_1).f0.f0), .int .i64 0, .int .i64 0, .int .i64 0, .slice none 0 0, .slice none 0 0, .slice none 0 0, .slice none 0 0]) ?_ 1 _ rfl; (with_reducible repeat (first | refine blk_drewN ?_ _ | refine blk_drew ?_ | refine blk_alloc ?_ _)); refine blk_put (cs := #[.int .i64 0, .int .i64 0, .int .i64 0, .int .i64 0, .slice none 0 0, .slice none 0 0, .slice none 0 0, .slice none 0 0]) ?_ 0 _ rfl; (with_reducible repeat (first | refine blk_drewN ?_ _ | refine blk_drew ?_ | refine blk_alloc ?_ _)); exact BK273.out) k_ hk_.2.1)⟩)) (below_size (by repeat (first | (with_reducible first | exact HB.out | apply below_alloc | apply pw_below_drewN | apply below_drew1 | refine below_set ?_ GE273.out) | exact HB.out)))); have n3_ := Aside0.mk (Kd.N_lower (Kd.N_mono (ok' := fun k_ => some k_ ≠ (v279 : Value).ownBlock ∧ some k_ ≠ (v282 : Value).ownBlock ∧ some k_ ≠ (v288 : Value).ownBlock ∧ some k_ ≠ (u5 : Value).ownBlock ∧ k_ ≠ gb273) (Kd.R_N (Kd.R_bound ho2)) (fun k_ hk_ => ⟨hk_.1.1, hk_.1.2.1, hk_.1.2.2, (Kd.fresh' (Kd.N_lt (by (with_reducible repeat (first | apply Kd.N_alloc | apply Kd.N_drewN | apply Kd.N_drew)); exact (Kd.N_mono (Kd.N_far (p := ⟨gb273, 7, none⟩) (Kd.N_far (p := ⟨gb273, 6, none⟩) (Kd.N_far (p := ⟨gb273, 5, none⟩) (Kd.N_far (p := ⟨gb273, 4, none⟩) (Kd.N_far (p := ⟨gb273, 3, none⟩) (Kd.N_far (p := ⟨gb273, 2, none⟩) (Kd.N_far (p := ⟨gb273, 1, none⟩) (Kd.N_far (p := ⟨gb273, 0, none⟩) (Kd.N_mono HO_5.out (fun k_ hk => (⟨hk, hk.2⟩ : _ ∧ k_ ≠ gb273))) (fun _ hk => hk.2) (.int .i64 ((rd_T30 l0 x18_1).f0.f0))) (fun _ hk => hk.2) (.int .i64 ((rd_T30 l0 x18_1).f0.f1))) (fun _ hk => hk.2) (.int .i64 ((rd_T30 l0 x18_1).f1))) (fun _ hk => hk.2) (.int .i64 ((rd_T30 l0 x18_1).f2))) (fun _ hk => hk.2) (.slice A272_4 ((rd_T30 l0 x18_1).f3).length c272_4)) (fun _ hk => hk.2) (.slice A272_5 ((rd_T30 l0 x18_1).f4).length c272_5)) (fun _ hk => hk.2) (.slice A272_6 ((rd_T30 l0 x18_1).f5).length c272_6)) (fun _ hk => hk.2) (.slice A272_7 ((rd_T30 l0 x18_1).f6).length c272_7)) (fun _ h_ => h_.1)))) k_ hk_.2.1), (Kd.freshB (g := gb273) (o := .cells #[.int .i64 ((rd_T30 l0 x18_1).f0.f0), .int .i64 ((rd_T30 l0 x18_1).f0.f1), .int .i64 ((rd_T30 l0 x18_1).f1), .int .i64 ((rd_T30 l0 x18_1).f2), .slice A272_4 ((rd_T30 l0 x18_1).f3).length c272_4, .slice A272_5 ((rd_T30 l0 x18_1).f4).length c272_5, .slice A272_6 ((rd_T30 l0 x18_1).f5).length c272_6, .slice A272_7 ((rd_T30 l0 x18_1).f6).length c272_7] 30 (0, 0)) (by (with_reducible repeat (first | refine blk_drewN ?_ _ | refine blk_drew ?_ | refine blk_alloc ?_ _)); refine blk_put (cs := #[.int .i64 ((rd_T30 l0 x18_1).f0.f0), .int .i64 ((rd_T30 l0 x18_1).f0.f1), .int .i64 ((rd_T30 l0 x18_1).f1), .int .i64 ((rd_T30 l0 x18_1).f2), .slice A272_4 ((rd_T30 l0 x18_1).f3).length c272_4, .slice A272_5 ((rd_T30 l0 x18_1).f4).length c272_5, .slice A272_6 ((rd_T30 l0 x18_1).f5).length c272_6, .slice none 0 0]) ?_ 7 _ rfl; (with_reducible repeat (first | refine blk_drewN ?_ _ | refine blk_drew ?_ | refine blk_alloc ?_ _)); refine blk_put (cs := #[.int .i64 ((rd_T30 l0 x18_1).f0.f0), .int .i64 ((rd_T30 l0 x18_1).f0.f1), .int .i64 ((rd_T30 l0 x18_1).f1), .int .i64 ((rd_T30 l0 x18_1).f2), .slice A272_4 ((rd_T30 l0 x18_1).f3).length c272_4, .slice A272_5 ((rd_T30 l0 x18_1).f4).length c272_5, .slice none 0 0, .slice none 0 0]) ?_ 6 _ rfl; (with_reducible repeat (first | refine blk_drewN ?_ _ | refine blk_drew ?_ | refine blk_alloc ?_ _)); refine blk_put (cs := #[.int .i64 ((rd_T30 l0 x18_1).f0.f0), .int .i64 ((rd_T30 l0 x18_1).f0.f1), .int .i64 ((rd_T30 l0 x18_1).f1), .int .i64 ((rd_T30 l0 x18_1).f2), .slice A272_4 ((rd_T30 l0 x18_1).f3).length c272_4, .slice none 0 0, .slice none 0 0, .slice none 0 0]) ?_ 5 _ rfl; (with_reducible repeat (first | refine blk_drewN ?_ _ | refine blk_drew ?_ | refine blk_alloc ?_ _)); refine blk_put (cs := #[.int .i64 ((rd_T30 l0 x18_1).f0.f0), .int .i64 ((rd_T30 l0 x18_1).f0.f1), .int .i64 ((rd_T30 l0 x18_1).f1), .int .i64 ((rd_T30 l0 x18_1).f2), .slice none 0 0, .slice none 0 0, .slice none 0 0, .slice none 0 0]) ?_ 4 _ rfl; (with_reducible repeat (first | refine blk_drewN ?_ _ | refine blk_drew ?_ | refine blk_alloc ?_ _)); refine blk_put (cs := #[.int .i64 ((rd_T30 l0 x18_1).f0.f0), .int .i64 ((rd_T30 l0 x18_1).f0.f1), .int .i64 ((rd_T30 l0 x18_1).f1), .int .i64 0, .slice none 0 0, .slice none 0 0, .slice none 0 0, .slice none 0 0]) ?_ 3 _ rfl; (with_reducible repeat (first | refine blk_drewN ?_ _ | refine blk_drew ?_ | refine blk_alloc ?_ _)); refine blk_put (cs := #[.int .i64 ((rd_T30 l0 x18_1).f0.f0), .int .i64 ((rd_T30 l0 x18_1).f0.f1), .int .i64 0, .int .i64 0, .slice none 0 0, .slice none 0 0, .slice none 0 0, .slice none 0 0]) ?_ 2 _ rfl; (with_reducible repeat (first | refine blk_drewN ?_ _ | refine blk_drew ?_ | refine blk_alloc ?_ _)); refine blk_put (cs := #[.int .i64 ((rd_T30 l0 x18_1).f0.f0), .int .i64 0, .int .i64 0, .int .i64 0, .slice none 0 0, .slice none 0 0, .slice none 0 0, .slice none 0 0]) ?_ 1 _ rfl; (with_reducible repeat (first | refine blk_drewN ?_ _ | refine blk_drew ?_ | refine blk_alloc ?_ _)); refine blk_put (cs := #[.int .i64 0, .int .i64 0, .int .i64 0, .int .i64 0, .slice none 0 0, .slice none 0 0, .slice none 0 0, .slice none 0 0]) ?_ 0 _ rfl; (with_reducible repeat (first | refine blk_drewN ?_ _ | refine blk_drew ?_ | refine blk_alloc ?_ _)); exact BK273.out) k_ hk_.2.1)⟩)) (below_size (by repeat (first | (with_reducible first | exact HB.out | apply below_alloc | apply pw_below_drewN | apply below_drew1 | refine below_set ?_ GE273.out) | exact HB.out)))); have n4_ := Aside0.mk (Kd.R_lower ho3 (below_size (by repeat (first | (with_reducible first | exact HB.out | apply below_alloc | apply pw_below_drewN | apply below_drew1 | refine below_set ?_ GE273.out) | exact HB.out)))); have n5_ := Aside0.mk (blk_below (g := gb273) (o := .cells #[.int .i64 ((rd_T30 l0 x18_1).f0.f0), .int .i64 ((rd_T30 l0 x18_1).f0.f1), .int .i64 ((rd_T30 l0 x18_1).f1), .int .i64 ((rd_T30 l0 x18_1).f2), .slice A272_4 ((rd_T30 l0 x18_1).f3).length c272_4, .slice A272_5 ((rd_T30 l0 x18_1).f4).length c272_5, .slice A272_6 ((rd_T30 l0 x18_1).f5).length c272_6, .slice A272_7 ((rd_T30 l0 x18_1).f6).length c272_7] 30 (0, 0)) (by (with_reducible repeat (first | refine blk_drewN ?_ _ | refine blk_drew ?_ | refine blk_alloc ?_ _)); refine blk_put (cs := #[.int .i64 ((rd_T30 l0 x18_1).f0.f0), .int .i64 ((rd_T30 l0 x18_1).f0.f1), .int .i64 ((rd_T30 l0 x18_1).f1), .int .i64 ((rd_T30 l0 x18_1).f2), .slice A272_4 ((rd_T30 l0 x18_1).f3).length c272_4, .slice A272_5 ((rd_T30 l0 x18_1).f4).length c272_5, .slice A272_6 ((rd_T30 l0 x18_1).f5).length c272_6, .slice none 0 0]) ?_ 7 _ rfl; (with_reducible repeat (first | refine blk_drewN ?_ _ | refine blk_drew ?_ | refine blk_alloc ?_ _)); refine blk_put (cs := #[.int .i64 ((rd_T30 l0 x18_1).f0.f0), .int .i64 ((rd_T30 l0 x18_1).f0.f1), .int .i64 ((rd_T30 l0 x18_1).f1), .int .i64 ((rd_T30 l0 x18_1).f2), .slice A272_4 ((rd_T30 l0 x18_1).f3).length c272_4, .slice A272_5 ((rd_T30 l0 x18_1).f4).length c272_5, .slice none 0 0, .slice none 0 0]) ?_ 6 _ rfl; (with_reducible repeat (first | refine blk_drewN ?_ _ | refine blk_drew ?_ | refine blk_alloc ?_ _)); refine blk_put (cs := #[.int .i64 ((rd_T30 l0 x18_1).f0.f0), .int .i64 ((rd_T30 l0 x18_1).f0.f1), .int .i64 ((rd_T30 l0 x18_1).f1), .int .i64 ((rd_T30 l0 x18_1).f2), .slice A272_4 ((rd_T30 l0 x18_1).f3).length c272_4, .slice none 0 0, .slice none 0 0, .slice none 0 0]) ?_ 5 _ rfl; (with_reducible repeat (first | refine blk_drewN ?_ _ | refine blk_drew ?_ | refine blk_alloc ?_ _)); refine blk_put (cs := #[.int .i64 ((rd_T30 l0 x18_1).f0.f0), .int .i64 ((rd_T30 l0 x18_1).f0.f1), .int .i64 ((rd_T30 l0 x18_1).f1), .int .i64 ((rd_T30 l0 x18_1).f2), .slice none 0 0, .slice none 0 0, .slice none 0 0, .slice none 0 0]) ?_ 4 _ rfl; (with_reducible repeat (first | refine blk_drewN ?_ _ | refine blk_drew ?_ | refine blk_alloc ?_ _)); refine blk_put (cs := #[.int .i64 ((rd_T30 l0 x18_1).f0.f0), .int .i64 ((rd_T30 l0 x18_1).f0.f1), .int .i64 ((rd_T30 l0 x18_1).f1), .int .i64 0, .slice none 0 0, .slice none 0 0, .slice none 0 0, .slice none 0 0]) ?_ 3 _ rfl; (with_reducible repeat (first | refine blk_drewN ?_ _ | refine blk_drew ?_ | refine blk_alloc ?_ _)); refine blk_put (cs := #[.int .i64 ((rd_T30 l0 x18_1).f0.f0), .int .i64 ((rd_T30 l0 x18_1).f0.f1), .int .i64 0, .int .i64 0, .slice none 0 0, .slice none 0 0, .slice none 0 0, .slice none 0 0]) ?_ 2 _ rfl; (with_reducible repeat (first | refine blk_drewN ?_ _ | refine blk_drew ?_ | refine blk_alloc ?_ _)); refine blk_put (cs := #[.int .i64 ((rd_T30 l0 x18_1).f0.f0), .int .i64 0, .int .i64 0, .int .i64 0, .slice none 0 0, .slice none 0 0, .slice none 0 0, .slice none 0 0]) ?_ 1 _ rfl; (with_reducible repeat (first | refine blk_drewN ?_ _ | refine blk_drew ?_ | refine blk_alloc ?_ _)); refine blk_put (cs := #[.int .i64 0, .int .i64 0, .int .i64 0, .int .i64 0, .slice none 0 0, .slice none 0 0, .slice none 0 0, .slice none 0 0]) ?_ 0 _ rfl; (with_reducible repeat (first | refine blk_drewN ?_ _ | refine blk_drew ?_ | refine blk_alloc ?_ _)); exact BK273.out) hb); have n6_ := Aside0.mk (below_step (by repeat (first | (with_reducible first | exact HB.out | apply below_alloc | apply pw_below_drewN | apply below_drew1 | refine below_set ?_ GE273.out) | exact HB.out)) hb); clear HO_5; clear BK273; clear HB; have HO_5 := n0_; have HO280 := n1_; have HO283 := n2_; have HO286 := n3_; have HO289 := n4_; have BK273 := n5_; have HB := n6_; clear n0_ n1_ n2_ n3_ n4_ n5_ n6_; (try clear hb); (try clear hb2); (try clear hk); (try clear hi); (try clear ho0); (try clear ho1); (try clear ho2); (try clear ho3); obtain ⟨Ao17, co17, eo17⟩ := Kd.R_slice HO280.out; subst eo17; obtain ⟨Ao18, co18, eo18⟩ := Kd.N_slice HO283.out; subst eo18; obtain ⟨Ao19, co19, eo19⟩ := Kd.N_slice HO286.out; subst eo19; obtain ⟨Ao20, co20, eo20⟩ := Kd.R_slice HO289.out; subst eo20) | ((with_reducible refine gate_builtin (b := .append) (xs := #[.tmp 22, .tmp 25]) rfl ?_); at_builtin; refine Kd.N_append k30 (w0 := w) w.heap.size rfl (.tmp 22) (.tmp 25) 22 30 (.agg #[(.int .i64 0), (.int .i64 0), (.int .i64 0), (.int .i64 0), (.slice none 0 0), (.slice none 0 0), (.slice none 0 0), (.slice none 0 0)]) 128 rfl Try.underlying22 info30 rfl (by decide) (by omega) u5 x5_1 (⟨(⟨t274, t275⟩ : S25), t276, t277, t278, t281, t284, t287⟩ : S30) [.int .i64 t274, .int .i64 t275, .int .i64 t276, .int .i64 t277, .slice Ao17 t278.length co17, .slice Ao18 t281.length co18, .slice Ao19 t284.length co19, .slice Ao20 t287.length co20] (fun k_ => k_ ≠ gb273) (fun k_ => ((fun k_ => k_ ≠ gb273)) k_ ∧ some k_ ≠ (u5 : Value).ownBlock) rfl rfl ?aP (fun _ hk => hk) ?aF ?aO ?aB ?aS ?aL ?_; (case aP => exact (k30_mkF _ _ (⟨(⟨t274, t275⟩ : S25), t276, t277, t278, t281, t284, t287⟩ : S30) (Kd.R_reads' (Kd.R_mono (ok' := (fun k_ => ((fun k_ => k_ ≠ gb273)) k_ ∧ some k_ ≠ (u5 : Value).ownBlock)) (Kd.R_types (Kd.R_apart' (HO280.out) (Kd.N_typed HO_5.out) (by decide)) BK273.out (by decide)) (fun k_ hk => ⟨hk.2, hk.1.2⟩))).2.1 (Kd.R_F (Kd.R_mono (ok' := (fun k_ => ((fun k_ => k_ ≠ gb273)) k_ ∧ some k_ ≠ (u5 : Value).ownBlock)) (Kd.R_types (Kd.R_apart' (HO280.out) (Kd.N_typed HO_5.out) (by decide)) BK273.out (by decide)) (fun k_ hk => ⟨hk.2, hk.1.2⟩))) (Kd.N_reads' (Kd.N_mono (ok' := (fun k_ => ((fun k_ => k_ ≠ gb273)) k_ ∧ some k_ ≠ (u5 : Value).ownBlock)) (HO283.out) (fun k_ hk => ⟨hk.2.2.2.2, hk.2.2.2.1⟩))).2.1 (Kd.N_F (Kd.N_mono (ok' := (fun k_ => ((fun k_ => k_ ≠ gb273)) k_ ∧ some k_ ≠ (u5 : Value).ownBlock)) (HO283.out) (fun k_ hk => ⟨hk.2.2.2.2, hk.2.2.2.1⟩))) (Kd.N_reads' (Kd.N_mono (ok' := (fun k_ => ((fun k_ => k_ ≠ gb273)) k_ ∧ some k_ ≠ (u5 : Value).ownBlock)) (HO286.out) (fun k_ hk => ⟨hk.2.2.2.2, hk.2.2.2.1⟩))).2.1 (Kd.N_F (Kd.N_mono (ok' := (fun k_ => ((fun k_ => k_ ≠ gb273)) k_ ∧ some k_ ≠ (u5 : Value).ownBlock)) (HO286.out) (fun k_ hk => ⟨hk.2.2.2.2, hk.2.2.2.1⟩))) (Kd.R_reads' (Kd.R_mono (ok' := (fun k_ => ((fun k_ => k_ ≠ gb273)) k_ ∧ some k_ ≠ (u5 : Value).ownBlock)) (Kd.R_types (Kd.R_apart' (HO289.out) (Kd.N_typed HO_5.out) (by decide)) BK273.out (by decide)) (fun k_ hk => ⟨hk.2, hk.1.2⟩))).2.1 (Kd.R_F (Kd.R_mono (ok' := (fun k_ => ((fun k_ => k_ ≠ gb273)) k_ ∧ some k_ ≠ (u5 : Value).ownBlock)) (Kd.R_types (Kd.R_apart' (HO289.out) (Kd.N_typed HO_5.out) (by decide)) BK273.out (by decide)) (fun k_ hk => ⟨hk.2, hk.1.2⟩))))); (case aB => exact (by repeat (first | (with_reducible first | exact HB.out | apply below_alloc | apply pw_below_drewN | apply below_drew1 | refine below_set ?_ GE273.out) | exact HB.out))); (case aF => exact (fun k_ hk => Kd.freshB (g := gb273) (o := .cells #[.int .i64 ((rd_T30 l0 x18_1).f0.f0), .int .i64 ((rd_T30 l0 x18_1).f0.f1), .int .i64 ((rd_T30 l0 x18_1).f1), .int .i64 ((rd_T30 l0 x18_1).f2), .slice A272_4 ((rd_T30 l0 x18_1).f3).length c272_4, .slice A272_5 ((rd_T30 l0 x18_1).f4).length c272_5, .slice A272_6 ((rd_T30 l0 x18_1).f5).length c272_6, .slice A272_7 ((rd_T30 l0 x18_1).f6).length c272_7] 30 (0, 0)) (by (with_reducible repeat (first | refine blk_drewN ?_ _ | refine blk_drew ?_ | refine blk_alloc ?_ _)); exact BK273.out) k_ hk)); (case aO => exact (by (with_reducible repeat (first | apply Kd.N_alloc | apply Kd.N_drewN | apply Kd.N_drew)); exact Kd.N_mono HO_5.out (fun _ hk => hk.1.1.1.1.2))); (case aS => exact (below_size (by repeat (first | (with_reducible first | exact HB.out | apply below_alloc | apply pw_below_drewN | apply below_drew1 | refine below_set ?_ GE273.out) | exact HB.out)))); (case aL => have := LMc12.out; omega); intro v291 w16 ho hb hg hat; rw [← Ny290.out] at ho; have n0_ := Aside0.mk (blk_grown (g := gb273) (o := .cells #[.int .i64 ((rd_T30 l0 x18_1).f0.f0), .int .i64 ((rd_T30 l0 x18_1).f0.f1), .int .i64 ((rd_T30 l0 x18_1).f1), .int .i64 ((rd_T30 l0 x18_1).f2), .slice A272_4 ((rd_T30 l0 x18_1).f3).length c272_4, .slice A272_5 ((rd_T30 l0 x18_1).f4).length c272_5, .slice A272_6 ((rd_T30 l0 x18_1).f5).length c272_6, .slice A272_7 ((rd_T30 l0 x18_1).f6).length c272_7] 30 (0, 0)) (by (with_reducible repeat (first | refine blk_drewN ?_ _ | refine blk_drew ?_ | refine blk_alloc ?_ _)); exact BK273.out) hg (Kd.N_away HO_5.out (fun _ hk => hk.1.1.1.1.2))); have n1_ := Aside0.mk (hb); have n2_ := Aside0.mk (ho); clear BK273; clear HB; clear HO_5; clear HO280; clear HO283; clear HO286; clear HO289; have BK273 := n0_; have HB := n1_; have HO292 := n2_; clear n0_ n1_ n2_; clear ho hb hg hat))
                go_roundg k1
                case measure => have := HK1.out; omega
                case rel => exact ⟨(y290), (wrap64 (x18_1 + 1)), (by first | rfl | (simp; done) | (simp [*]; done)), H', ⟨by have := HK1.out; omega⟩, ⟨by (with_reducible repeat (first | apply Kd.N_alloc | apply Kd.N_drewN | apply Kd.N_drew)); exact Kd.N_mono HO292.out (fun _ hk => trivial)⟩, ⟨by repeat (first | (with_reducible first | exact HB.out | apply below_alloc | apply pw_below_drewN | apply below_drew1 | refine below_set ?_ GE273.out) | exact HB.out)⟩⟩
              · rw [if_neg c12] at H
                exact absurd H (by simp)
            · rw [if_neg c10] at H
              exact absurd H (by simp)
          · rw [if_neg c9] at H
            exact absurd H (by simp)
        · rw [if_neg c8] at H
          have c8b0 : decide (x18_1 < (l0.length : Int)) = false := decide_eq_false c8
          clear c8
          have HC21 := Aside0.mk H
          clear H
          go_upto_region 9 with (fail)
          go_cut [49] (fun v49 wc => ∃ (kq : Nat) (x49_20 : Bool), v49 = .bool x49_20 ∧ Aside0 (catenarylaw18_ChoosePicks.j1 kq l0 x5_1 x49_20 = some r) ∧ Aside0 (kq ≤ k1) ∧ Aside0 (Kd.N k30 30 wc w.heap.size (fun _ => True) u5 x5_1) ∧ Aside0 (Below w.heap.size w wc))
          case first =>
            have H := HC21.out
            clear HC21
            replace H := Option.bind_eq_some_iff.mp H
            obtain ⟨t293, A220, H⟩ := H
            replace H : ((catenaryref18_Low.f k1 l0).bind fun t294 => (if t293 = t294 then ((choose_High.f k1 x5_1).bind fun t295 => ((catenaryref18_High.f k1 l0).bind fun t296 => (if t295 = t296 then ((choose_Pick.f k1 a1 x5_1).bind fun bt297 => ((catenaryref18_Pick.f k1 a1 l0).bind fun bt305 => ((catenaryref05_SameReq.f bt297.1 bt297.2.1 bt297.2.2.1 bt297.2.2.2 bt305.1 bt305.2.1 bt305.2.2.1 bt305.2.2.2).bind fun t313 => (catenarylaw18_ChoosePicks.j1 k1 l0 x5_1 (!t313))))) else (catenarylaw18_ChoosePicks.j1 k1 l0 x5_1 true)))) else (catenarylaw18_ChoosePicks.j1 k1 l0 x5_1 true))) = some r := H
            have A22 := Aside0.mk A220
            clear A220
            replace H := Option.bind_eq_some_iff.mp H
            obtain ⟨t294, A230, H⟩ := H
            replace H : (if t293 = t294 then ((choose_High.f k1 x5_1).bind fun t295 => ((catenaryref18_High.f k1 l0).bind fun t296 => (if t295 = t296 then ((choose_Pick.f k1 a1 x5_1).bind fun bt297 => ((catenaryref18_Pick.f k1 a1 l0).bind fun bt305 => ((catenaryref05_SameReq.f bt297.1 bt297.2.1 bt297.2.2.1 bt297.2.2.2 bt305.1 bt305.2.1 bt305.2.2.1 bt305.2.2.2).bind fun t313 => (catenarylaw18_ChoosePicks.j1 k1 l0 x5_1 (!t313))))) else (catenarylaw18_ChoosePicks.j1 k1 l0 x5_1 true)))) else (catenarylaw18_ChoosePicks.j1 k1 l0 x5_1 true)) = some r := H
            have A23 := Aside0.mk A230
            clear A230
            by_cases c24 : t293 = t294
            · rw [if_pos c24] at H
              have c24b0 : (t293 == t294) = true := beq_iff_eq.mpr c24
              have c24b1 : (t293 != t294) = false := bne_eq_false_iff_eq.mpr c24
              clear c24
              (first | rw [c24b0] | (simp only [i64_w, i32_w]; rw [c24b0]) | skip)
              replace H := Option.bind_eq_some_iff.mp H
              obtain ⟨t295, A250, H⟩ := H
              replace H : ((catenaryref18_High.f k1 l0).bind fun t296 => (if t295 = t296 then ((choose_Pick.f k1 a1 x5_1).bind fun bt297 => ((catenaryref18_Pick.f k1 a1 l0).bind fun bt305 => ((catenaryref05_SameReq.f bt297.1 bt297.2.1 bt297.2.2.1 bt297.2.2.2 bt305.1 bt305.2.1 bt305.2.2.1 bt305.2.2.2).bind fun t313 => (catenarylaw18_ChoosePicks.j1 k1 l0 x5_1 (!t313))))) else (catenarylaw18_ChoosePicks.j1 k1 l0 x5_1 true))) = some r := H
              have A25 := Aside0.mk A250
              clear A250
              replace H := Option.bind_eq_some_iff.mp H
              obtain ⟨t296, A260, H⟩ := H
              replace H : (if t295 = t296 then ((choose_Pick.f k1 a1 x5_1).bind fun bt297 => ((catenaryref18_Pick.f k1 a1 l0).bind fun bt305 => ((catenaryref05_SameReq.f bt297.1 bt297.2.1 bt297.2.2.1 bt297.2.2.2 bt305.1 bt305.2.1 bt305.2.2.1 bt305.2.2.2).bind fun t313 => (catenarylaw18_ChoosePicks.j1 k1 l0 x5_1 (!t313))))) else (catenarylaw18_ChoosePicks.j1 k1 l0 x5_1 true)) = some r := H
              have A26 := Aside0.mk A260
              clear A260
              by_cases c27 : t295 = t296
              · rw [if_pos c27] at H
                have c27b0 : (t295 == t296) = true := beq_iff_eq.mpr c27
                have c27b1 : (t295 != t296) = false := bne_eq_false_iff_eq.mpr c27
                clear c27
                replace H := Option.bind_eq_some_iff.mp H
                obtain ⟨⟨t297, t298, t299, t302⟩, A280, H⟩ := H
                replace H : ((catenaryref18_Pick.f k1 a1 l0).bind fun bt305 => ((catenaryref05_SameReq.f t297 t298 t299 t302 bt305.1 bt305.2.1 bt305.2.2.1 bt305.2.2.2).bind fun t313 => (catenarylaw18_ChoosePicks.j1 k1 l0 x5_1 (!t313)))) = some r := H
                have A28 := Aside0.mk A280
                clear A280
                replace H := Option.bind_eq_some_iff.mp H
                obtain ⟨⟨t305, t306, t307, t310⟩, A290, H⟩ := H
                replace H : ((catenaryref05_SameReq.f t297 t298 t299 t302 t305 t306 t307 t310).bind fun t313 => (catenarylaw18_ChoosePicks.j1 k1 l0 x5_1 (!t313))) = some r := H
                have A29 := Aside0.mk A290
                clear A290
                replace H := Option.bind_eq_some_iff.mp H
                obtain ⟨t313, A300, H⟩ := H
                replace H : (catenarylaw18_ChoosePicks.j1 k1 l0 x5_1 (!t313)) = some r := H
                have A30 := Aside0.mk A300
                clear A300
                have H' := Aside0.mk H
                clear H
                obtain ⟨Ao31, co31, eo31⟩ := Kd.N_slice HO_5.out
                subst eo31
                go_wp2_with (first | ((with_reducible refine gate_callee (f := 7) rfl ?_); refine goesL_ (some 29) rfl rfl Try.func7 (by kernel_rfl) rfl #[.slice Ao31 x5_1.length co31] rfl (by (try simp only [List.map_toArray, List.map_cons, List.map_nil]); first | done | rfl | (simp only [List.length_drop, List.length_take]; rfl)) ?_; (with_reducible refine (choose_Low.calls k1 _ _ x5_1 t293 _ ?side1 ?side2 A22.out).mono ?_); (case side1 => repeat (first | exact (Kd.N_reads' HO_5.out).2.2 | (with_reducible refine Kd.C_alloc ?_ _) | (with_reducible refine Kd.C_drewN ?_ _) | (with_reducible refine Kd.C_drew ?_))); (case side2 => exact (Kd.N_reads' HO_5.out).2.1); rintro e w32 ⟨rfl, hb⟩; refine ⟨_, rfl, ?_⟩; have n0_ := Aside0.mk (Kd.N_below (by (with_reducible repeat (first | apply Kd.N_alloc | apply Kd.N_drewN | apply Kd.N_drew)); exact HO_5.out) hb); have n1_ := Aside0.mk (below_step (by repeat (first | (with_reducible first | exact HB.out | apply below_alloc | apply pw_below_drewN | apply below_drew1) | exact HB.out)) hb); clear HO_5; clear HB; have HO_5 := n0_; have HB := n1_; clear n0_ n1_; (try clear hb); (try clear hb2); (try clear hk); (try clear hi)) | ((with_reducible refine gate_callee (f := 8) rfl ?_); refine goesL_ (some 31) rfl rfl Try.func8 (by kernel_rfl) rfl #[.slice A0 l0.length c0] rfl (by (try simp only [List.map_toArray, List.map_cons, List.map_nil]); first | done | rfl | (simp only [List.length_drop, List.length_take]; rfl)) ?_; (with_reducible refine (catenaryref18_Low.calls k1 _ _ l0 t294 _ ?side1 ?side2 A23.out).mono ?_); (case side1 => repeat (first | exact (Kd.C_below HR0.out HB.out) | (with_reducible refine Kd.C_alloc ?_ _) | (with_reducible refine Kd.C_drewN ?_ _) | (with_reducible refine Kd.C_drew ?_))); (case side2 => exact HC0.out); rintro e w33 ⟨rfl, hb⟩; refine ⟨_, rfl, ?_⟩; have n0_ := Aside0.mk (Kd.N_below (by (with_reducible repeat (first | apply Kd.N_alloc | apply Kd.N_drewN | apply Kd.N_drew)); exact HO_5.out) hb); have n1_ := Aside0.mk (below_step (by repeat (first | (with_reducible first | exact HB.out | apply below_alloc | apply pw_below_drewN | apply below_drew1) | exact HB.out)) hb); clear HO_5; clear HB; have HO_5 := n0_; have HB := n1_; clear n0_ n1_; (try clear hb); (try clear hb2); (try clear hk); (try clear hi)) | (go_at_call 9; (with_reducible refine (choose_High.calls k1 _ _ x5_1 t295 _ ?side1 ?side2 A25.out).mono ?_); (case side1 => repeat (first | exact (Kd.N_reads' HO_5.out).2.2 | (with_reducible refine Kd.C_alloc ?_ _) | (with_reducible refine Kd.C_drewN ?_ _) | (with_reducible refine Kd.C_drew ?_))); (case side2 => exact (Kd.N_reads' HO_5.out).2.1); rintro e w34 ⟨rfl, hb⟩; have n0_ := Aside0.mk (Kd.N_below (by (with_reducible repeat (first | apply Kd.N_alloc | apply Kd.N_drewN | apply Kd.N_drew)); exact HO_5.out) hb); have n1_ := Aside0.mk (below_step (by repeat (first | (with_reducible first | exact HB.out | apply below_alloc | apply pw_below_drewN | apply below_drew1) | exact HB.out)) hb); clear HO_5; clear HB; have HO_5 := n0_; have HB := n1_; clear n0_ n1_; (try clear hb); (try clear hb2); (try clear hk); (try clear hi)) | (go_at_call 10; (with_reducible refine (catenaryref18_High.calls k1 _ _ l0 t296 _ ?side1 ?side2 A26.out).mono ?_); (case side1 => repeat (first | exact (Kd.C_below HR0.out HB.out) | (with_reducible refine Kd.C_alloc ?_ _) | (with_reducible refine Kd.C_drewN ?_ _) | (with_reducible refine Kd.C_drew ?_))); (case side2 => exact HC0.out); rintro e w35 ⟨rfl, hb⟩; have n0_ := Aside0.mk (Kd.N_below (by (with_reducible repeat (first | apply Kd.N_alloc | apply Kd.N_drewN | apply Kd.N_drew)); exact HO_5.out) hb); have n1_ := Aside0.mk (below_step (by repeat (first | (with_reducible first | exact HB.out | apply below_alloc | apply pw_below_drewN | apply below_drew1) | exact HB.out)) hb); clear HO_5; clear HB; have HO_5 := n0_; have HB := n1_; clear n0_ n1_; (try clear hb); (try clear hb2); (try clear hk); (try clear hi)) | (go_at_call 12; (with_reducible refine (choose_Pick.calls k1 a1 _ _ x5_1 t297 t298 t299 t302 _ ?side1 ?side2 A28.out).mono ?_); (case side1 => repeat (first | exact (Kd.N_reads' HO_5.out).2.2 | (with_reducible refine Kd.C_alloc ?_ _) | (with_reducible refine Kd.C_drewN ?_ _) | (with_reducible refine Kd.C_drew ?_))); (case side2 => exact (Kd.N_reads' HO_5.out).2.1); rintro e w36 ⟨v300, v303, rfl, ho0, ho1, hb⟩; have n0_ := Aside0.mk (Kd.N_mono (Kd.N_told (Kd.N_told (Kd.N_old (by (with_reducible repeat (first | apply Kd.N_alloc | apply Kd.N_drewN | apply Kd.N_drew)); exact HO_5.out) hb) (Kd.R_base ho0)) (Kd.R_base ho1)) (fun _ h_ => h_.1)); have n1_ := Aside0.mk (Kd.R_lower ho0 (below_size (by repeat (first | (with_reducible first | exact HB.out | apply below_alloc | apply pw_below_drewN | apply below_drew1) | exact HB.out)))); have n2_ := Aside0.mk (Kd.R_lower ho1 (below_size (by repeat (first | (with_reducible first | exact HB.out | apply below_alloc | apply pw_below_drewN | apply below_drew1) | exact HB.out)))); have n3_ := Aside0.mk (below_step (by repeat (first | (with_reducible first | exact HB.out | apply below_alloc | apply pw_below_drewN | apply below_drew1) | exact HB.out)) hb); clear HO_5; clear HB; have HO_5 := n0_; have HO301 := n1_; have HO304 := n2_; have HB := n3_; clear n0_ n1_ n2_ n3_; (try clear hb); (try clear hb2); (try clear hk); (try clear hi); (try clear ho0); (try clear ho1)) | (go_at_call 13; (with_reducible refine (catenaryref18_Pick.calls k1 a1 (fun k_ => k_ < w.heap.size) _ _ l0 t305 t306 t307 t310 _ ?side1 A29.out).mono ?_); (case side1 => exact Kd.V_mk HC0.out (Kd.F_below (Kd.C_F k30_heap HR0.out) (by repeat (first | (with_reducible first | exact HB.out | apply below_alloc | apply pw_below_drewN | apply below_drew1) | exact HB.out)))); rintro e w37 ⟨v308, v311, rfl, ho0, ho1, hb⟩; have n0_ := Aside0.mk (Kd.N_below (by (with_reducible repeat (first | apply Kd.N_alloc | apply Kd.N_drewN | apply Kd.N_drew)); exact HO_5.out) hb); have n1_ := Aside0.mk (Kd.R_below (by (with_reducible repeat (first | apply Kd.R_alloc | apply Kd.R_drewN | apply Kd.R_drew)); exact HO301.out) hb); have n2_ := Aside0.mk (Kd.R_below (by (with_reducible repeat (first | apply Kd.R_alloc | apply Kd.R_drewN | apply Kd.R_drew)); exact HO304.out) hb); have n3_ := Aside0.mk (Kd.V_lower (Kd.V_mono (ok' := fun k_ => some k_ ≠ (.slice Ao31 x5_1.length co31 : Value).ownBlock ∧ some k_ ≠ (v300 : Value).ownBlock ∧ some k_ ≠ (v303 : Value).ownBlock) ho0 (fun k_ hk_ => ⟨Or.elim hk_ (fun hs_ => fun e_ => Nat.not_le.2 hs_ (Kd.N_base HO_5.out k_ e_.symm)) (fun hn_ => (Kd.fresh' (Kd.N_lt (by (with_reducible repeat (first | apply Kd.N_alloc | apply Kd.N_drewN | apply Kd.N_drew)); exact HO_5.out)) k_ hn_)), Or.elim hk_ (fun hs_ => fun e_ => Nat.not_le.2 hs_ (Kd.R_base HO301.out k_ e_.symm)) (fun hn_ => (Kd.fresh' (Kd.R_lt (by (with_reducible repeat (first | apply Kd.R_alloc | apply Kd.R_drewN | apply Kd.R_drew)); exact HO301.out)) k_ hn_)), Or.elim hk_ (fun hs_ => fun e_ => Nat.not_le.2 hs_ (Kd.R_base HO304.out k_ e_.symm)) (fun hn_ => (Kd.fresh' (Kd.R_lt (by (with_reducible repeat (first | apply Kd.R_alloc | apply Kd.R_drewN | apply Kd.R_drew)); exact HO304.out)) k_ hn_))⟩)) (below_size (by repeat (first | (with_reducible first | exact HB.out | apply below_alloc | apply pw_below_drewN | apply below_drew1) | exact HB.out)))); have n4_ := Aside0.mk (Kd.V_lower (Kd.V_mono (ok' := fun k_ => some k_ ≠ (.slice Ao31 x5_1.length co31 : Value).ownBlock ∧ some k_ ≠ (v300 : Value).ownBlock ∧ some k_ ≠ (v303 : Value).ownBlock) ho1 (fun k_ hk_ => ⟨Or.elim hk_ (fun hs_ => fun e_ => Nat.not_le.2 hs_ (Kd.N_base HO_5.out k_ e_.symm)) (fun hn_ => (Kd.fresh' (Kd.N_lt (by (with_reducible repeat (first | apply Kd.N_alloc | apply Kd.N_drewN | apply Kd.N_drew)); exact HO_5.out)) k_ hn_)), Or.elim hk_ (fun hs_ => fun e_ => Nat.not_le.2 hs_ (Kd.R_base HO301.out k_ e_.symm)) (fun hn_ => (Kd.fresh' (Kd.R_lt (by (with_reducible repeat (first | apply Kd.R_alloc | apply Kd.R_drewN | apply Kd.R_drew)); exact HO301.out)) k_ hn_)), Or.elim hk_ (fun hs_ => fun e_ => Nat.not_le.2 hs_ (Kd.R_base HO304.out k_ e_.symm)) (fun hn_ => (Kd.fresh' (Kd.R_lt (by (with_reducible repeat (first | apply Kd.R_alloc | apply Kd.R_drewN | apply Kd.R_drew)); exact HO304.out)) k_ hn_))⟩)) (below_size (by repeat (first | (with_reducible first | exact HB.out | apply below_alloc | apply pw_below_drewN | apply below_drew1) | exact HB.out)))); have n5_ := Aside0.mk (below_step (by repeat (first | (with_reducible first | exact HB.out | apply below_alloc | apply pw_below_drewN | apply below_drew1) | exact HB.out)) hb); clear HO_5; clear HO301; clear HO304; clear HB; have HO_5 := n0_; have HO301 := n1_; have HO304 := n2_; have HO309 := n3_; have HO312 := n4_; have HB := n5_; clear n0_ n1_ n2_ n3_ n4_ n5_; (try clear hb); (try clear hb2); (try clear hk); (try clear hi); (try clear ho0); (try clear ho1); obtain ⟨Ao38, co38, eo38⟩ := Kd.R_slice HO301.out; subst eo38; obtain ⟨Ao39, co39, eo39⟩ := Kd.R_slice HO304.out; subst eo39; obtain ⟨Ao40, co40, eo40⟩ := Kd.V_slice HO309.out; subst eo40; obtain ⟨Ao41, co41, eo41⟩ := Kd.V_slice HO312.out; subst eo41) | (go_at_call 11; (with_reducible refine (catenaryref05_SameReq.calls t297 t298 _ _ t299 _ _ t302 t305 t306 _ _ t307 _ _ t310 t313 _ ?side1 ?side2 ?side3 ?side4 ?side5 ?side6 ?side7 ?side8 A30.out).mono ?_); (case side1 => repeat (first | exact (Kd.R_reads' HO301.out).2.2 | (with_reducible refine Kd.C_alloc ?_ _) | (with_reducible refine Kd.C_drewN ?_ _) | (with_reducible refine Kd.C_drew ?_))); (case side2 => exact (Kd.R_reads' HO301.out).2.1); (case side3 => repeat (first | exact (Kd.R_reads' HO304.out).2.2 | (with_reducible refine Kd.C_alloc ?_ _) | (with_reducible refine Kd.C_drewN ?_ _) | (with_reducible refine Kd.C_drew ?_))); (case side4 => exact (Kd.R_reads' HO304.out).2.1); (case side5 => repeat (first | exact (Kd.V_reads' HO309.out).2.2 | (with_reducible refine Kd.C_alloc ?_ _) | (with_reducible refine Kd.C_drewN ?_ _) | (with_reducible refine Kd.C_drew ?_))); (case side6 => exact (Kd.V_reads' HO309.out).2.1); (case side7 => repeat (first | exact (Kd.V_reads' HO312.out).2.2 | (with_reducible refine Kd.C_alloc ?_ _) | (with_reducible refine Kd.C_drewN ?_ _) | (with_reducible refine Kd.C_drew ?_))); (case side8 => exact (Kd.V_reads' HO312.out).2.1); rintro e w42 ⟨rfl, hb⟩; have n0_ := Aside0.mk (Kd.N_below (by (with_reducible repeat (first | apply Kd.N_alloc | apply Kd.N_drewN | apply Kd.N_drew)); exact HO_5.out) hb); have n1_ := Aside0.mk (Kd.R_below (by (with_reducible repeat (first | apply Kd.R_alloc | apply Kd.R_drewN | apply Kd.R_drew)); exact HO301.out) hb); have n2_ := Aside0.mk (Kd.R_below (by (with_reducible repeat (first | apply Kd.R_alloc | apply Kd.R_drewN | apply Kd.R_drew)); exact HO304.out) hb); have n3_ := Aside0.mk (Kd.V_below (by (with_reducible repeat (first | apply Kd.V_alloc | apply Kd.V_drewN | apply Kd.V_drew)); exact HO309.out) hb); have n4_ := Aside0.mk (Kd.V_below (by (with_reducible repeat (first | apply Kd.V_alloc | apply Kd.V_drewN | apply Kd.V_drew)); exact HO312.out) hb); have n5_ := Aside0.mk (below_step (by repeat (first | (with_reducible first | exact HB.out | apply below_alloc | apply pw_below_drewN | apply below_drew1) | exact HB.out)) hb); clear HO_5; clear HO301; clear HO304; clear HO309; clear HO312; clear HB; have HO_5 := n0_; have HO301 := n1_; have HO304 := n2_; have HO309 := n3_; have HO312 := n4_; have HB := n5_; clear n0_ n1_ n2_ n3_ n4_ n5_; (try clear hb); (try clear hb2); (try clear hk); (try clear hi)))
                go_meet
                case rel => exact ⟨_, (!t313), (by first | rfl | (simp; done) | (simp [*]; done)), H', ⟨by have := HK1.out; first | omega | exact Nat.le_refl _⟩, ⟨by (with_reducible repeat (first | apply Kd.N_alloc | apply Kd.N_drewN | apply Kd.N_drew)); exact Kd.N_mono HO_5.out (fun _ hk => trivial)⟩, ⟨by repeat (first | (with_reducible first | exact HB.out | apply below_alloc | apply pw_below_drewN | apply below_drew1) | exact HB.out)⟩⟩
              · rw [if_neg c27] at H
                have c27b0 : (t295 == t296) = false := beq_eq_false_iff_ne.mpr c27
                have c27b1 : (t295 != t296) = true := bne_iff_ne.mpr c27
                have H' := Aside0.mk H
                clear H
                obtain ⟨Ao43, co43, eo43⟩ := Kd.N_slice HO_5.out
                subst eo43
                go_wp2_with (first | ((with_reducible refine gate_callee (f := 7) rfl ?_); refine goesL_ (some 29) rfl rfl Try.func7 (by kernel_rfl) rfl #[.slice Ao43 x5_1.length co43] rfl (by (try simp only [List.map_toArray, List.map_cons, List.map_nil]); first | done | rfl | (simp only [List.length_drop, List.length_take]; rfl)) ?_; (with_reducible refine (choose_Low.calls k1 _ _ x5_1 t293 _ ?side1 ?side2 A22.out).mono ?_); (case side1 => repeat (first | exact (Kd.N_reads' HO_5.out).2.2 | (with_reducible refine Kd.C_alloc ?_ _) | (with_reducible refine Kd.C_drewN ?_ _) | (with_reducible refine Kd.C_drew ?_))); (case side2 => exact (Kd.N_reads' HO_5.out).2.1); rintro e w44 ⟨rfl, hb⟩; refine ⟨_, rfl, ?_⟩; have n0_ := Aside0.mk (Kd.N_below (by (with_reducible repeat (first | apply Kd.N_alloc | apply Kd.N_drewN | apply Kd.N_drew)); exact HO_5.out) hb); have n1_ := Aside0.mk (below_step (by repeat (first | (with_reducible first | exact HB.out | apply below_alloc | apply pw_below_drewN | apply below_drew1) | exact HB.out)) hb); clear HO_5; clear HB; have HO_5 := n0_; have HB := n1_; clear n0_ n1_; (try clear hb); (try clear hb2); (try clear hk); (try clear hi)) | ((with_reducible refine gate_callee (f := 8) rfl ?_); refine goesL_ (some 31) rfl rfl Try.func8 (by kernel_rfl) rfl #[.slice A0 l0.length c0] rfl (by (try simp only [List.map_toArray, List.map_cons, List.map_nil]); first | done | rfl | (simp only [List.length_drop, List.length_take]; rfl)) ?_; (with_reducible refine (catenaryref18_Low.calls k1 _ _ l0 t294 _ ?side1 ?side2 A23.out).mono ?_); (case side1 => repeat (first | exact (Kd.C_below HR0.out HB.out) | (with_reducible refine Kd.C_alloc ?_ _) | (with_reducible refine Kd.C_drewN ?_ _) | (with_reducible refine Kd.C_drew ?_))); (case side2 => exact HC0.out); rintro e w45 ⟨rfl, hb⟩; refine ⟨_, rfl, ?_⟩; have n0_ := Aside0.mk (Kd.N_below (by (with_reducible repeat (first | apply Kd.N_alloc | apply Kd.N_drewN | apply Kd.N_drew)); exact HO_5.out) hb); have n1_ := Aside0.mk (below_step (by repeat (first | (with_reducible first | exact HB.out | apply below_alloc | apply pw_below_drewN | apply below_drew1) | exact HB.out)) hb); clear HO_5; clear HB; have HO_5 := n0_; have HB := n1_; clear n0_ n1_; (try clear hb); (try clear hb2); (try clear hk); (try clear hi)) | (go_at_call 9; (with_reducible refine (choose_High.calls k1 _ _ x5_1 t295 _ ?side1 ?side2 A25.out).mono ?_); (case side1 => repeat (first | exact (Kd.N_reads' HO_5.out).2.2 | (with_reducible refine Kd.C_alloc ?_ _) | (with_reducible refine Kd.C_drewN ?_ _) | (with_reducible refine Kd.C_drew ?_))); (case side2 => exact (Kd.N_reads' HO_5.out).2.1); rintro e w46 ⟨rfl, hb⟩; have n0_ := Aside0.mk (Kd.N_below (by (with_reducible repeat (first | apply Kd.N_alloc | apply Kd.N_drewN | apply Kd.N_drew)); exact HO_5.out) hb); have n1_ := Aside0.mk (below_step (by repeat (first | (with_reducible first | exact HB.out | apply below_alloc | apply pw_below_drewN | apply below_drew1) | exact HB.out)) hb); clear HO_5; clear HB; have HO_5 := n0_; have HB := n1_; clear n0_ n1_; (try clear hb); (try clear hb2); (try clear hk); (try clear hi)) | (go_at_call 10; (with_reducible refine (catenaryref18_High.calls k1 _ _ l0 t296 _ ?side1 ?side2 A26.out).mono ?_); (case side1 => repeat (first | exact (Kd.C_below HR0.out HB.out) | (with_reducible refine Kd.C_alloc ?_ _) | (with_reducible refine Kd.C_drewN ?_ _) | (with_reducible refine Kd.C_drew ?_))); (case side2 => exact HC0.out); rintro e w47 ⟨rfl, hb⟩; have n0_ := Aside0.mk (Kd.N_below (by (with_reducible repeat (first | apply Kd.N_alloc | apply Kd.N_drewN | apply Kd.N_drew)); exact HO_5.out) hb); have n1_ := Aside0.mk (below_step (by repeat (first | (with_reducible first | exact HB.out | apply below_alloc | apply pw_below_drewN | apply below_drew1) | exact HB.out)) hb); clear HO_5; clear HB; have HO_5 := n0_; have HB := n1_; clear n0_ n1_; (try clear hb); (try clear hb2); (try clear hk); (try clear hi)))
                go_meet
                case rel => exact ⟨_, (true), (by first | rfl | (simp; done) | (simp [*]; done)), H', ⟨by have := HK1.out; first | omega | exact Nat.le_refl _⟩, ⟨by (with_reducible repeat (first | apply Kd.N_alloc | apply Kd.N_drewN | apply Kd.N_drew)); exact HO_5.out⟩, ⟨by repeat (first | (with_reducible first | exact HB.out | apply below_alloc | apply pw_below_drewN | apply below_drew1) | exact HB.out)⟩⟩
            · rw [if_neg c24] at H
              have c24b0 : (t293 == t294) = false := beq_eq_false_iff_ne.mpr c24
              have c24b1 : (t293 != t294) = true := bne_iff_ne.mpr c24
              (first | rw [c24b0] | (simp only [i64_w, i32_w]; rw [c24b0]) | skip)
              have H' := Aside0.mk H
              clear H
              obtain ⟨Ao48, co48, eo48⟩ := Kd.N_slice HO_5.out
              subst eo48
              go_wp2_with (first | ((with_reducible refine gate_callee (f := 7) rfl ?_); refine goesL_ (some 29) rfl rfl Try.func7 (by kernel_rfl) rfl #[.slice Ao48 x5_1.length co48] rfl (by (try simp only [List.map_toArray, List.map_cons, List.map_nil]); first | done | rfl | (simp only [List.length_drop, List.length_take]; rfl)) ?_; (with_reducible refine (choose_Low.calls k1 _ _ x5_1 t293 _ ?side1 ?side2 A22.out).mono ?_); (case side1 => repeat (first | exact (Kd.N_reads' HO_5.out).2.2 | (with_reducible refine Kd.C_alloc ?_ _) | (with_reducible refine Kd.C_drewN ?_ _) | (with_reducible refine Kd.C_drew ?_))); (case side2 => exact (Kd.N_reads' HO_5.out).2.1); rintro e w49 ⟨rfl, hb⟩; refine ⟨_, rfl, ?_⟩; have n0_ := Aside0.mk (Kd.N_below (by (with_reducible repeat (first | apply Kd.N_alloc | apply Kd.N_drewN | apply Kd.N_drew)); exact HO_5.out) hb); have n1_ := Aside0.mk (below_step (by repeat (first | (with_reducible first | exact HB.out | apply below_alloc | apply pw_below_drewN | apply below_drew1) | exact HB.out)) hb); clear HO_5; clear HB; have HO_5 := n0_; have HB := n1_; clear n0_ n1_; (try clear hb); (try clear hb2); (try clear hk); (try clear hi)) | ((with_reducible refine gate_callee (f := 8) rfl ?_); refine goesL_ (some 31) rfl rfl Try.func8 (by kernel_rfl) rfl #[.slice A0 l0.length c0] rfl (by (try simp only [List.map_toArray, List.map_cons, List.map_nil]); first | done | rfl | (simp only [List.length_drop, List.length_take]; rfl)) ?_; (with_reducible refine (catenaryref18_Low.calls k1 _ _ l0 t294 _ ?side1 ?side2 A23.out).mono ?_); (case side1 => repeat (first | exact (Kd.C_below HR0.out HB.out) | (with_reducible refine Kd.C_alloc ?_ _) | (with_reducible refine Kd.C_drewN ?_ _) | (with_reducible refine Kd.C_drew ?_))); (case side2 => exact HC0.out); rintro e w50 ⟨rfl, hb⟩; refine ⟨_, rfl, ?_⟩; have n0_ := Aside0.mk (Kd.N_below (by (with_reducible repeat (first | apply Kd.N_alloc | apply Kd.N_drewN | apply Kd.N_drew)); exact HO_5.out) hb); have n1_ := Aside0.mk (below_step (by repeat (first | (with_reducible first | exact HB.out | apply below_alloc | apply pw_below_drewN | apply below_drew1) | exact HB.out)) hb); clear HO_5; clear HB; have HO_5 := n0_; have HB := n1_; clear n0_ n1_; (try clear hb); (try clear hb2); (try clear hk); (try clear hi)))
              go_meet
              case rel => exact ⟨_, (true), (by first | rfl | (simp; done) | (simp [*]; done)), H', ⟨by have := HK1.out; first | omega | exact Nat.le_refl _⟩, ⟨by (with_reducible repeat (first | apply Kd.N_alloc | apply Kd.N_drewN | apply Kd.N_drew)); exact HO_5.out⟩, ⟨by repeat (first | (with_reducible first | exact HB.out | apply below_alloc | apply pw_below_drewN | apply below_drew1) | exact HB.out)⟩⟩
          case rest =>
            clear HC21
            try clear c1
            try clear c2
            try clear p2
            try clear q2
            try clear hx2
            try clear c3
            try clear c4
            try clear c5
            try clear c6
            try clear p6
            try clear c7
            try clear c8
            try clear c8b0
            try clear c9
            try clear c9b0
            try clear c10
            try clear c10b0
            try clear c12
            try clear c24
            try clear c24b0
            try clear c24b1
            try clear c27
            try clear c27b0
            try clear c27b1
            try clear p27
            try clear q27
            try clear hx27
            try clear hcz14_0
            try clear hcz14_1
            try clear hcz14_2
            try clear hcz14_3
            try clear hcz14_4
            try clear hcz14_5
            try clear hcz14_6
            try clear hcz14_7
            try clear hfz14_0
            try clear hfz14_1
            try clear hfz14_2
            try clear hfz14_3
            try clear hfz14_4
            try clear hfz14_5
            try clear hfz14_6
            try clear hfz14_7
            try clear hx272_0
            try clear hx272_1
            try clear hx272_2
            try clear hx272_3
            try clear hx272_4
            try clear hx272_5
            try clear hx272_6
            try clear hx272_7
            try clear p2
            try clear p272
            try clear q272
            obtain ⟨kq, x49_20, rfl, HA, HJ20, HO_5, HB⟩ := hcut
            cases kq with
            | zero => exact absurd HA.out (by simp [catenarylaw18_ChoosePicks.j1])
            | succ kj20 =>
              have H := HA.out
              clear HA
              simp only [catenarylaw18_ChoosePicks.j1] at H
              by_cases c51 : x49_20 = true
              · subst c51
                have H1 : (none) = some r := by rw [if_pos rfl] at H; exact H
                clear H
                have H := H1
                clear H1
                exact absurd H (by simp)
              · replace c51 := Bool.eq_false_iff.mpr c51
                subst c51
                have H1 : ((choose_Picks.f kj20 x5_1).bind fun t314 => ((catenaryref18_Picks.f kj20 l0).bind fun t317 => (if (t314.length : Int) = (t317.length : Int) then (catenarylaw18_ChoosePicks.l1 kj20 l0 x5_1 t314 t317 (t314.length : Int) 0) else (none)))) = some r := by rw [if_neg (show ¬ (false = true) by decide)] at H; exact H
                clear H
                have H := H1
                clear H1
                replace H := Option.bind_eq_some_iff.mp H
                obtain ⟨t314, A520, H⟩ := H
                replace H : ((catenaryref18_Picks.f kj20 l0).bind fun t317 => (if (t314.length : Int) = (t317.length : Int) then (catenarylaw18_ChoosePicks.l1 kj20 l0 x5_1 t314 t317 (t314.length : Int) 0) else (none))) = some r := H
                have A52 := Aside0.mk A520
                clear A520
                replace H := Option.bind_eq_some_iff.mp H
                obtain ⟨t317, A530, H⟩ := H
                replace H : (if (t314.length : Int) = (t317.length : Int) then (catenarylaw18_ChoosePicks.l1 kj20 l0 x5_1 t314 t317 (t314.length : Int) 0) else (none)) = some r := H
                have A53 := Aside0.mk A530
                clear A530
                by_cases c54 : (t314.length : Int) = (t317.length : Int)
                · rw [if_pos c54] at H
                  have c54b0 : ((t314.length : Int) == (t317.length : Int)) = true := beq_iff_eq.mpr c54
                  have c54b1 : ((t314.length : Int) != (t317.length : Int)) = false := bne_eq_false_iff_eq.mpr c54
                  have c54b2 : (t314.length == t317.length) = true := by first | simpa using c54 | (simp at c54 ⊢; omega)
                  clear c54
                  have H' := Aside0.mk H
                  clear H
                  obtain ⟨Ao55, co55, eo55⟩ := Kd.N_slice HO_5.out
                  subst eo55
                  go_wp2_with (first | ((with_reducible refine gate_callee (f := 14) rfl ?_); refine goesL_ (some 51) rfl rfl Try.func14 (by kernel_rfl) rfl #[.slice Ao55 x5_1.length co55] rfl (by (try simp only [List.map_toArray, List.map_cons, List.map_nil]); first | done | rfl | (simp only [List.length_drop, List.length_take]; rfl)) ?_; (with_reducible refine (choose_Picks.calls kj20 _ _ x5_1 t314 _ ?side1 ?side2 A52.out).mono ?_); (case side1 => repeat (first | exact (Kd.N_reads' HO_5.out).2.2 | (with_reducible refine Kd.C_alloc ?_ _) | (with_reducible refine Kd.C_drewN ?_ _) | (with_reducible refine Kd.C_drew ?_))); (case side2 => exact (Kd.N_reads' HO_5.out).2.1); rintro e w56 ⟨v315, rfl, ho0, hb⟩; refine ⟨_, rfl, ?_⟩; obtain ⟨mA, mB, fA, HTG, HOM, HM2, HM1⟩ := tail_fact (w := w) ho0 hb (by (with_reducible repeat (first | apply Kd.N_alloc | apply Kd.N_drewN | apply Kd.N_drew)); exact HO_5.out) (below_size (by repeat (first | (with_reducible first | exact HB.out | apply below_alloc | apply pw_below_drewN | apply below_drew1) | exact HB.out))); have n0_ := Aside0.mk (Kd.N_elder' (by (with_reducible repeat (first | apply Kd.N_alloc | apply Kd.N_drewN | apply Kd.N_drew)); exact HO_5.out) (by first | exact Kd.N_base ho0 | exact Kd.S_base ho0 | exact Kd.R_base ho0) hb); have n1_ := Aside0.mk (Kd.N_lower (Kd.N_mono (ok' := fun k_ => some k_ ≠ (.slice Ao55 x5_1.length co55 : Value).ownBlock) (Kd.S_N (Kd.S_bound ho0)) (fun k_ hk_ => (Kd.fresh' (Kd.N_lt (by (with_reducible repeat (first | apply Kd.N_alloc | apply Kd.N_drewN | apply Kd.N_drew)); exact HO_5.out)) k_ hk_.2.1))) (below_size (by repeat (first | (with_reducible first | exact HB.out | apply below_alloc | apply pw_below_drewN | apply below_drew1) | exact HB.out)))); have n2_ := Aside0.mk (below_step (by repeat (first | (with_reducible first | exact HB.out | apply below_alloc | apply pw_below_drewN | apply below_drew1) | exact HB.out)) hb); clear HO_5; clear HB; have HO_5 := n0_; have HO316 := n1_; have HB := n2_; clear n0_ n1_ n2_; (try clear hb); (try clear hb2); (try clear hk); (try clear hi); (try clear ho0)) | ((with_reducible refine gate_callee (f := 15) rfl ?_); refine goesL_ (some 53) rfl rfl Try.func15 (by kernel_rfl) rfl #[.slice A0 l0.length c0] rfl (by (try simp only [List.map_toArray, List.map_cons, List.map_nil]); first | done | rfl | (simp only [List.length_drop, List.length_take]; rfl)) ?_; (with_reducible refine (catenaryref18_Picks.calls kj20 (fun k_ => k_ < w.heap.size) _ _ l0 t317 _ ?side1 A53.out).mono ?_); (case side1 => exact Kd.V_mk HC0.out (Kd.F_below (Kd.C_F k30_heap HR0.out) (by repeat (first | (with_reducible first | exact HB.out | apply below_alloc | apply pw_below_drewN | apply below_drew1) | exact HB.out)))); rintro e w57 ⟨v318, rfl, ho0, hb⟩; refine ⟨_, rfl, ?_⟩; have m0_ := Aside0.mk (Kd.R_below (by (with_reducible repeat (first | apply Kd.R_alloc | apply Kd.R_drewN | apply Kd.R_drew)); exact HTG.out) hb); have m1_ := Aside0.mk (Kd.N_below (by (with_reducible repeat (first | apply Kd.N_alloc | apply Kd.N_drewN | apply Kd.N_drew)); exact HOM.out) hb); have HWT := Aside0.mk (Kd.N_mono ho0 (ok' := fun k_ => k_ < mA ∨ mB ≤ k_) (fun k_ hk_ => hk_.elim (fun h_ => .inl (Nat.lt_of_lt_of_le h_ HM1.out)) (fun h_ => .inr (Nat.le_trans (Nat.le_of_eq HM2.out) h_)))); clear HTG HOM; have HTG := m0_; have HOM := m1_; clear m0_ m1_; have n0_ := Aside0.mk (Kd.N_elder' (by (with_reducible repeat (first | apply Kd.N_alloc | apply Kd.N_drewN | apply Kd.N_drew)); exact HO_5.out) (by first | exact Kd.N_base ho0 | exact Kd.S_base ho0 | exact Kd.R_base ho0) hb); have n1_ := Aside0.mk (Kd.N_elder' (by (with_reducible repeat (first | apply Kd.N_alloc | apply Kd.N_drewN | apply Kd.N_drew)); exact HO316.out) (by first | exact Kd.N_base ho0 | exact Kd.S_base ho0 | exact Kd.R_base ho0) hb); have n2_ := Aside0.mk (Kd.N_lower (Kd.N_mono (ok' := fun k_ => some k_ ≠ (.slice Ao55 x5_1.length co55 : Value).ownBlock ∧ some k_ ≠ (v315 : Value).ownBlock) ho0 (fun k_ hk_ => ⟨Or.elim hk_ (fun hs_ => fun e_ => Nat.not_le.2 hs_ (Kd.N_base HO_5.out k_ e_.symm)) (fun hn_ => (Kd.fresh' (Kd.N_lt (by (with_reducible repeat (first | apply Kd.N_alloc | apply Kd.N_drewN | apply Kd.N_drew)); exact HO_5.out)) k_ hn_)), Or.elim hk_ (fun hs_ => fun e_ => Nat.not_le.2 hs_ (Kd.N_base HO316.out k_ e_.symm)) (fun hn_ => (Kd.fresh' (Kd.N_lt (by (with_reducible repeat (first | apply Kd.N_alloc | apply Kd.N_drewN | apply Kd.N_drew)); exact HO316.out)) k_ hn_))⟩)) (below_size (by repeat (first | (with_reducible first | exact HB.out | apply below_alloc | apply pw_below_drewN | apply below_drew1) | exact HB.out)))); have n3_ := Aside0.mk (below_step (by repeat (first | (with_reducible first | exact HB.out | apply below_alloc | apply pw_below_drewN | apply below_drew1) | exact HB.out)) hb); clear HO_5; clear HO316; clear HB; have HO_5 := n0_; have HO316 := n1_; have HO319 := n2_; have HB := n3_; clear n0_ n1_ n2_ n3_; (try clear hb); (try clear hb2); (try clear hk); (try clear hi); (try clear ho0); obtain ⟨Ao58, co58, eo58⟩ := Kd.N_slice HO316.out; subst eo58; obtain ⟨Ao59, co59, eo59⟩ := Kd.N_slice HO319.out; subst eo59))
                  go_loopg [61] kj20 (fun kq v61 w' => ∃ (x61_3 : Int), v61 = .int .i64 x61_3 ∧ Aside0 (catenarylaw18_ChoosePicks.l1 kq l0 x5_1 t314 t317 (t314.length : Int) x61_3 = some r) ∧ Aside0 (kq ≤ kj20) ∧ Aside0 (Kept w57 w' (fun k_ => (mA ≤ k_ ∧ k_ < mB ∧ some k_ ≠ (Value.slice Ao58 t314.length co58).ownBlock) ∧ fA k_ < x61_3.toNat)) ∧ Aside0 (Below w.heap.size w w'))
                  case atStart => exact ⟨(0), (by first | rfl | (simp; done) | (simp [*]; done)), H', ⟨Nat.le_refl _⟩, ⟨Kept.refl _ _⟩, ⟨by repeat (first | (with_reducible first | exact HB.out | apply below_alloc | apply pw_below_drewN | apply below_drew1) | exact HB.out)⟩⟩
                  case round =>
                    clear H'
                    try clear c1
                    try clear c2
                    try clear p2
                    try clear q2
                    try clear hx2
                    try clear c3
                    try clear c4
                    try clear c5
                    try clear c6
                    try clear p6
                    try clear c7
                    try clear c8
                    try clear c8b0
                    try clear c9
                    try clear c9b0
                    try clear c10
                    try clear c10b0
                    try clear c12
                    try clear c14
                    try clear c15
                    try clear c24
                    try clear c24b0
                    try clear c24b1
                    try clear c27
                    try clear c27b0
                    try clear c27b1
                    try clear p27
                    try clear q27
                    try clear hx27
                    try clear c51
                    try clear c54
                    try clear c54b0
                    try clear c54b1
                    try clear c54b2
                    try clear hcz14_0
                    try clear hcz14_1
                    try clear hcz14_2
                    try clear hcz14_3
                    try clear hcz14_4
                    try clear hcz14_5
                    try clear hcz14_6
                    try clear hcz14_7
                    try clear hfz14_0
                    try clear hfz14_1
                    try clear hfz14_2
                    try clear hfz14_3
                    try clear hfz14_4
                    try clear hfz14_5
                    try clear hfz14_6
                    try clear hfz14_7
                    try clear hx272_0
                    try clear hx272_1
                    try clear hx272_2
                    try clear hx272_3
                    try clear hx272_4
                    try clear hx272_5
                    try clear hx272_6
                    try clear hx272_7
                    try clear p2
                    try clear p27
                    try clear p272
                    try clear p6
                    try clear q2
                    try clear q27
                    try clear q272
                    clear HO_5 HO316 HO319 HB
                    obtain ⟨x61_3, rfl, HA, HK3, HKS, HB⟩ := hrel
                    have HO_5 := Aside0.mk (Kd.N_kept HOM.out HKS.out (fun k_ h_ hs_ => absurd hs_.1.1 (Nat.not_le.2 h_.2)))
                    have HO_9 := Aside0.mk (Kd.N_kept HWT.out HKS.out (fun k_ h_ hs_ => h_.elim (fun a_ => absurd hs_.1.1 (Nat.not_le.2 a_)) (fun a_ => absurd hs_.1.2.1 (Nat.not_lt.2 a_))))
                    cases gk with
                    | zero => exact absurd HA.out (by simp [catenarylaw18_ChoosePicks.l1])
                    | succ k3 =>
                      have H := HA.out
                      clear HA
                      simp only [catenarylaw18_ChoosePicks.l1] at H
                      by_cases c60 : x61_3 < (t314.length : Int)
                      · rw [if_pos c60] at H
                        have c60b0 : decide (x61_3 < (t314.length : Int)) = true := decide_eq_true c60
                        clear c60
                        by_cases c61 : 0 ≤ x61_3
                        · rw [if_pos c61] at H
                          have c61b0 : decide (0 ≤ x61_3) = true := decide_eq_true c61
                          clear c61
                          by_cases c62 : x61_3 < (t314.length : Int)
                          · rw [if_pos c62] at H
                            have c62b0 : decide (x61_3 < (t314.length : Int)) = true := decide_eq_true c62
                            clear c62
                            by_cases c63 : x61_3 < (t317.length : Int)
                            · rw [if_pos c63] at H
                              have c63b0 : decide (x61_3 < (t317.length : Int)) = true := decide_eq_true c63
                              clear c63
                              replace H := Option.bind_eq_some_iff.mp H
                              obtain ⟨t322, A640, H⟩ := H
                              replace H : (if t322 = true then (catenarylaw18_ChoosePicks.l1 k3 l0 x5_1 t314 t317 (t314.length : Int) (wrap64 (x61_3 + 1))) else (none)) = some r := H
                              have A64 := Aside0.mk A640
                              clear A640
                              by_cases c65 : t322 = true
                              · subst c65
                                have H1 : (catenarylaw18_ChoosePicks.l1 k3 l0 x5_1 t314 t317 (t314.length : Int) (wrap64 (x61_3 + 1))) = some r := by rw [if_pos rfl] at H; exact H
                                clear H
                                have H := H1
                                clear H1
                                have H' := Aside0.mk H
                                clear H
                                try go_wp2
                                have n0_ := Aside0.mk (Kd.N_drew HO_5.out)
                                have n1_ := Aside0.mk (Kept.drew HKS.out)
                                have n2_ := Aside0.mk (Kd.N_drew HO_9.out)
                                have n3_ := Aside0.mk (below_drew1 HB.out)
                                clear HO_5
                                clear HKS
                                clear HO_9
                                clear HB
                                have HO_5 := n0_
                                have HKS := n1_
                                have HO_9 := n2_
                                have HB := n3_
                                clear n0_ n1_ n2_ n3_
                                have p320 : 0 ≤ (x61_3 : Int) := of_decide_eq_true (by first | (with_reducible assumption) | assumption)
                                have q320 : x61_3 < (t314.length : Int) := of_decide_eq_true (by first | (with_reducible assumption) | assumption)
                                obtain ⟨ad320, A320_2, c320_2, A320_3, c320_3, e320, hx320_0, hx320_1, hx320_2, hx320_3, hl320_2, hi320_2, hl320_3, hi320_3, hr320, hob320⟩ := at_G36 HTG.out HKS.out (fun k_ e_ hs_ => hs_.1.2.2 e_.symm) x61_3 p320 q320 (fun k_ e_ hs_ => Nat.lt_irrefl _ (by rw [e_] at hs_; exact hs_.2))
                                cases e320
                                clear hr320 hob320
                                have HR320_2 := Aside0.mk hi320_2
                                have HC320_2 := Aside0.mk hl320_2
                                clear hi320_2 hl320_2
                                have HR320_3 := Aside0.mk hi320_3
                                have HC320_3 := Aside0.mk hl320_3
                                clear hi320_3 hl320_3
                                replace p320 := eq_true p320
                                replace q320 := eq_true q320
                                have p321 : 0 ≤ (x61_3 : Int) := of_decide_eq_true (by first | (with_reducible assumption) | assumption)
                                have q321 : x61_3 < (t317.length : Int) := of_decide_eq_true (by first | (with_reducible assumption) | assumption)
                                obtain ⟨ad321, A321_2, c321_2, A321_3, c321_3, e321, hx321_0, hx321_1, hx321_2, hx321_3, hl321_2, hi321_2, hl321_3, hi321_3⟩ := at_T36 (Kd.N_reads' HO_9.out).2.2 x61_3 p321 q321
                                cases e321
                                have HR321_2 := Aside0.mk hi321_2
                                have HC321_2 := Aside0.mk hl321_2
                                clear hi321_2 hl321_2
                                have HR321_3 := Aside0.mk hi321_3
                                have HC321_3 := Aside0.mk hl321_3
                                clear hi321_3 hl321_3
                                replace p321 := eq_true p321
                                replace q321 := eq_true q321
                                refine start_ (n := 10) (S := fun w' => w'.cell? (ad320.add ((x61_3).toNat * 4)) = some (.int .i64 ((rd_T36 t314 x61_3).f0)) ∧ w'.cell? ⟨(ad320.add ((x61_3).toNat * 4)).block, (ad320.add ((x61_3).toNat * 4)).off + 1, none⟩ = some (.int .i64 ((rd_T36 t314 x61_3).f1)) ∧ w'.cell? ⟨(ad320.add ((x61_3).toNat * 4)).block, (ad320.add ((x61_3).toNat * 4)).off + 2, none⟩ = some (.slice A320_2 ((rd_T36 t314 x61_3).f2).length c320_2) ∧ w'.cell? ⟨(ad320.add ((x61_3).toNat * 4)).block, (ad320.add ((x61_3).toNat * 4)).off + 3, none⟩ = some (.slice A320_3 ((rd_T36 t314 x61_3).f3).length c320_3) ∧ w'.cell? (ad321.add ((x61_3).toNat * 4)) = some (.int .i64 ((rd_T36 t317 x61_3).f0)) ∧ w'.cell? ⟨(ad321.add ((x61_3).toNat * 4)).block, (ad321.add ((x61_3).toNat * 4)).off + 1, none⟩ = some (.int .i64 ((rd_T36 t317 x61_3).f1)) ∧ w'.cell? ⟨(ad321.add ((x61_3).toNat * 4)).block, (ad321.add ((x61_3).toNat * 4)).off + 2, none⟩ = some (.slice A321_2 ((rd_T36 t317 x61_3).f2).length c321_2) ∧ w'.cell? ⟨(ad321.add ((x61_3).toNat * 4)).block, (ad321.add ((x61_3).toNat * 4)).off + 3, none⟩ = some (.slice A321_3 ((rd_T36 t317 x61_3).f3).length c321_3)) (ds := []) #[false, false, false, false, false, false, false, false, false, false] (by kernel_rfl) rfl rfl ⟨hx320_0, hx320_1, hx320_2, hx320_3, hx321_0, hx321_1, hx321_2, hx321_3⟩ (fun hHeld => ?_); refine with_tabW catenarylaw18_ChoosePicks.tab17 catenarylaw18_ChoosePicks.bits17 (fun HT_ HW_ => ?_)
                                generalize wr.drew = w66 at HO_5 HKS HO_9 HB HR320_2 HR320_3 HR321_2 HR321_3 hx320_0 hx320_1 hx320_2 hx320_3 hx321_0 hx321_1 hx321_2 hx321_3 hHeld ⊢
                                refine pure_ (i := 0) (N := some 64) (v := ?_) (a' := ?_) #[true, false, false, false, false, false, false, false, false, false] rfl rfl (any_of HT_.out (by kernel_rfl)) (fun _ _ _ h => h) (Or.inl ⟨by rfl, ?_⟩) ?_ ?_
                                rotate_left
                                · intro w'
                                  go_simp
                                  with_reducible rfl
                                rotate_left
                                · simp only [Act.put, List.setIfInBounds_toArray, List.set_cons_zero, List.set_cons_succ, i64_w, i32_w]
                                  rfl
                                refine pure_ (i := 1) (N := some 65) (v := ?_) (a' := ?_) #[true, true, false, false, false, false, false, false, false, false] rfl rfl (any_of HT_.out (by kernel_rfl)) (fun _ _ _ h => h) (Or.inl ⟨by rfl, ?_⟩) ?_ ?_
                                rotate_left
                                · intro w'
                                  go_simp
                                  with_reducible rfl
                                rotate_left
                                · simp only [Act.put, List.setIfInBounds_toArray, List.set_cons_zero, List.set_cons_succ, i64_w, i32_w]
                                  rfl
                                refine pure_ (i := 2) (N := some 66) (v := ?_) (a' := ?_) #[true, true, true, false, false, false, false, false, false, false] rfl rfl (any_of HT_.out (by kernel_rfl)) (fun _ _ _ h => h) (Or.inl ⟨by rfl, ?_⟩) ?_ ?_
                                rotate_left
                                · intro w'
                                  go_simp
                                  with_reducible rfl
                                rotate_left
                                · simp only [Act.put, List.setIfInBounds_toArray, List.set_cons_zero, List.set_cons_succ, i64_w, i32_w]
                                  rfl
                                refine pure_ (i := 4) (N := some 68) (v := ?_) (a' := ?_) #[true, true, true, false, true, false, false, false, false, false] rfl rfl (any_of HT_.out (by kernel_rfl)) (fun _ _ _ h => h) (Or.inl ⟨by rfl, ?_⟩) ?_ ?_
                                rotate_left
                                · intro w'
                                  go_simp
                                  with_reducible rfl
                                rotate_left
                                · simp only [Act.put, List.setIfInBounds_toArray, List.set_cons_zero, List.set_cons_succ, i64_w, i32_w]
                                  rfl
                                refine pure_ (i := 5) (N := some 69) (v := ?_) (a' := ?_) #[true, true, true, false, true, true, false, false, false, false] rfl rfl (any_of HT_.out (by kernel_rfl)) (fun _ _ _ h => h) (Or.inl ⟨by rfl, ?_⟩) ?_ ?_
                                rotate_left
                                · intro w'
                                  go_simp
                                  with_reducible rfl
                                rotate_left
                                · simp only [Act.put, List.setIfInBounds_toArray, List.set_cons_zero, List.set_cons_succ, i64_w, i32_w]
                                  rfl
                                refine pure_ (i := 6) (N := some 70) (v := ?_) (a' := ?_) #[true, true, true, false, true, true, true, false, false, false] rfl rfl (any_of HT_.out (by kernel_rfl)) (fun _ _ _ h => h) (Or.inl ⟨by rfl, ?_⟩) ?_ ?_
                                rotate_left
                                · intro w'
                                  go_simp
                                  with_reducible rfl
                                rotate_left
                                · simp only [Act.put, List.setIfInBounds_toArray, List.set_cons_zero, List.set_cons_succ, i64_w, i32_w]
                                  rfl
                                refine take_ (i := 3) (N := some 67) (v := ?_) (a' := ?_) #[true, true, true, true, true, true, true, false, false, false] rfl rfl (take_ofW HT_.out HW_.out (by kernel_rfl)) (fun _ _ _ h => h) (Or.inl ⟨by rfl, ?_⟩) hHeld ?_ ?_
                                rotate_left
                                · rintro w' ⟨s0, s1, s2, s3, s4, s5, s6, s7⟩
                                  go_simp
                                  with_reducible rfl
                                rotate_left
                                · simp only [Act.put, List.setIfInBounds_toArray, List.set_cons_zero, List.set_cons_succ, i64_w, i32_w]
                                  rfl
                                refine take_ (i := 7) (N := some 71) (v := ?_) (a' := ?_) #[true, true, true, true, true, true, true, true, false, false] rfl rfl (take_ofW HT_.out HW_.out (by kernel_rfl)) (fun _ _ _ h => h) (Or.inl ⟨by rfl, ?_⟩) hHeld ?_ ?_
                                rotate_left
                                · rintro w' ⟨s0, s1, s2, s3, s4, s5, s6, s7⟩
                                  go_simp
                                  with_reducible rfl
                                rotate_left
                                · simp only [Act.put, List.setIfInBounds_toArray, List.set_cons_zero, List.set_cons_succ, i64_w, i32_w]
                                  rfl
                                refine one_ (i := 8) (N := some 72) #[true, true, true, true, true, true, true, true, true, false] rfl rfl (one_of HT_.out (by kernel_rfl)) (by decide) (fun K hK => ?_)
                                refine goes_ Try.func11 (by kernel_rfl) rfl #[.agg #[.int .i64 ((rd_T36 t314 x61_3).f0), .int .i64 ((rd_T36 t314 x61_3).f1), .slice A320_2 ((rd_T36 t314 x61_3).f2).length c320_2, .slice A320_3 ((rd_T36 t314 x61_3).f3).length c320_3], .agg #[.int .i64 ((rd_T36 t317 x61_3).f0), .int .i64 ((rd_T36 t317 x61_3).f1), .slice A321_2 ((rd_T36 t317 x61_3).f2).length c321_2, .slice A321_3 ((rd_T36 t317 x61_3).f3).length c321_3]] (by rfl) rfl rfl (by (try simp only [List.map_toArray, List.map_cons, List.map_nil]); first | done | rfl | (simp only [List.length_drop, List.length_take]; rfl)) ?_
                                with_reducible refine (catenaryref05_SameReq.calls ((rd_T36 t314 x61_3).f0) ((rd_T36 t314 x61_3).f1) _ _ ((rd_T36 t314 x61_3).f2) _ _ ((rd_T36 t314 x61_3).f3) ((rd_T36 t317 x61_3).f0) ((rd_T36 t317 x61_3).f1) _ _ ((rd_T36 t317 x61_3).f2) _ _ ((rd_T36 t317 x61_3).f3) true _ ?side1 ?side2 ?side3 ?side4 ?side5 ?side6 ?side7 ?side8 A64.out).mono ?_
                                (case side1 => repeat (first | exact (by repeat (first | (with_reducible exact HR320_2.out) | (with_reducible refine Kd.C_alloc ?_ _) | (with_reducible refine Kd.C_drewN ?_ _) | (with_reducible refine Kd.C_drew ?_) | exact HR320_2.out)) | (with_reducible refine Kd.C_alloc ?_ _) | (with_reducible refine Kd.C_drewN ?_ _) | (with_reducible refine Kd.C_drew ?_)))
                                (case side2 => exact HC320_2.out)
                                (case side3 => repeat (first | exact (by repeat (first | (with_reducible exact HR320_3.out) | (with_reducible refine Kd.C_alloc ?_ _) | (with_reducible refine Kd.C_drewN ?_ _) | (with_reducible refine Kd.C_drew ?_) | exact HR320_3.out)) | (with_reducible refine Kd.C_alloc ?_ _) | (with_reducible refine Kd.C_drewN ?_ _) | (with_reducible refine Kd.C_drew ?_)))
                                (case side4 => exact HC320_3.out)
                                (case side5 => repeat (first | exact (by repeat (first | (with_reducible exact HR321_2.out) | (with_reducible refine Kd.C_alloc ?_ _) | (with_reducible refine Kd.C_drewN ?_ _) | (with_reducible refine Kd.C_drew ?_) | exact HR321_2.out)) | (with_reducible refine Kd.C_alloc ?_ _) | (with_reducible refine Kd.C_drewN ?_ _) | (with_reducible refine Kd.C_drew ?_)))
                                (case side6 => exact HC321_2.out)
                                (case side7 => repeat (first | exact (by repeat (first | (with_reducible exact HR321_3.out) | (with_reducible refine Kd.C_alloc ?_ _) | (with_reducible refine Kd.C_drewN ?_ _) | (with_reducible refine Kd.C_drew ?_) | exact HR321_3.out)) | (with_reducible refine Kd.C_alloc ?_ _) | (with_reducible refine Kd.C_drewN ?_ _) | (with_reducible refine Kd.C_drew ?_)))
                                (case side8 => exact HC321_3.out)
                                rintro e w67 ⟨rfl, hb⟩
                                have HS0_ := (hb.cell (World.block_lt_of_cell? _ _ (hHeld.1))).trans (hHeld.1)
                                have HS1_ := (hb.cell (World.block_lt_of_cell? _ _ (hHeld.2.1))).trans (hHeld.2.1)
                                have HS2_ := (hb.cell (World.block_lt_of_cell? _ _ (hHeld.2.2.1))).trans (hHeld.2.2.1)
                                have HS3_ := (hb.cell (World.block_lt_of_cell? _ _ (hHeld.2.2.2.1))).trans (hHeld.2.2.2.1)
                                have HS4_ := (hb.cell (World.block_lt_of_cell? _ _ (hHeld.2.2.2.2.1))).trans (hHeld.2.2.2.2.1)
                                have HS5_ := (hb.cell (World.block_lt_of_cell? _ _ (hHeld.2.2.2.2.2.1))).trans (hHeld.2.2.2.2.2.1)
                                have HS6_ := (hb.cell (World.block_lt_of_cell? _ _ (hHeld.2.2.2.2.2.2.1))).trans (hHeld.2.2.2.2.2.2.1)
                                have HS7_ := (hb.cell (World.block_lt_of_cell? _ _ (hHeld.2.2.2.2.2.2.2))).trans (hHeld.2.2.2.2.2.2.2)
                                refine ⟨_, rfl, ?_⟩
                                have n0_ := Aside0.mk (Kd.N_below (by (with_reducible repeat (first | apply Kd.N_alloc | apply Kd.N_drewN | apply Kd.N_drew)); exact HO_5.out) hb)
                                have n1_ := Aside0.mk (Kept.below HKS.out hb)
                                have n2_ := Aside0.mk (Kd.N_below (by (with_reducible repeat (first | apply Kd.N_alloc | apply Kd.N_drewN | apply Kd.N_drew)); exact HO_9.out) hb)
                                (first | (with_reducible (have n7_ := Aside0.mk (Kd.C_below HR320_2.out hb))) | (with_reducible (have n7_ := Aside0.mk (Kd.C_past HR320_2.out hb))) | (have n7_ := Aside0.mk (Kd.C_below (by repeat (first | (with_reducible exact HR320_2.out) | (with_reducible refine Kd.C_alloc ?_ _) | (with_reducible refine Kd.C_drewN ?_ _) | (with_reducible refine Kd.C_drew ?_) | exact HR320_2.out)) hb)))
                                (first | (with_reducible (have n8_ := Aside0.mk (Kd.C_below HR320_3.out hb))) | (with_reducible (have n8_ := Aside0.mk (Kd.C_past HR320_3.out hb))) | (have n8_ := Aside0.mk (Kd.C_below (by repeat (first | (with_reducible exact HR320_3.out) | (with_reducible refine Kd.C_alloc ?_ _) | (with_reducible refine Kd.C_drewN ?_ _) | (with_reducible refine Kd.C_drew ?_) | exact HR320_3.out)) hb)))
                                (first | (with_reducible (have n9_ := Aside0.mk (Kd.C_below HR321_2.out hb))) | (with_reducible (have n9_ := Aside0.mk (Kd.C_past HR321_2.out hb))) | (have n9_ := Aside0.mk (Kd.C_below (by repeat (first | (with_reducible exact HR321_2.out) | (with_reducible refine Kd.C_alloc ?_ _) | (with_reducible refine Kd.C_drewN ?_ _) | (with_reducible refine Kd.C_drew ?_) | exact HR321_2.out)) hb)))
                                (first | (with_reducible (have n10_ := Aside0.mk (Kd.C_below HR321_3.out hb))) | (with_reducible (have n10_ := Aside0.mk (Kd.C_past HR321_3.out hb))) | (have n10_ := Aside0.mk (Kd.C_below (by repeat (first | (with_reducible exact HR321_3.out) | (with_reducible refine Kd.C_alloc ?_ _) | (with_reducible refine Kd.C_drewN ?_ _) | (with_reducible refine Kd.C_drew ?_) | exact HR321_3.out)) hb)))
                                have n11_ := Aside0.mk (below_step (by repeat (first | (with_reducible first | exact HB.out | apply below_alloc | apply pw_below_drewN | apply below_drew1) | exact HB.out)) hb)
                                clear HO_5
                                clear HKS
                                clear HO_9
                                clear HR320_2
                                clear HR320_3
                                clear HR321_2
                                clear HR321_3
                                clear HB
                                have HO_5 := n0_
                                have HKS := n1_
                                have HO_9 := n2_
                                have HR320_2 := n7_
                                have HR320_3 := n8_
                                have HR321_2 := n9_
                                have HR321_3 := n10_
                                have HB := n11_
                                clear n0_ n1_ n2_ n7_ n8_ n9_ n10_ n11_
                                (try clear hb)
                                (try clear hb2)
                                (try clear hk)
                                (try clear hi)
                                refine hK.out _ _ ⟨HS0_, HS1_, HS2_, HS3_, HS4_, HS5_, HS6_, HS7_⟩ (fun hHeld => ?_)
                                clear hK K
                                refine norm_ (a' := ?_) ?_ ?_
                                rotate_left
                                · show Act.put _ (some 72) _ = _
                                  simp only [Act.put, List.setIfInBounds_toArray, List.set_cons_zero, List.set_cons_succ, i64_w, i32_w]
                                  rfl
                                refine pure_ (i := 9) (N := some 73) (v := ?_) (a' := ?_) #[true, true, true, true, true, true, true, true, true, true] rfl rfl (any_of HT_.out (by kernel_rfl)) (fun _ _ _ h => h) (Or.inl ⟨by rfl, ?_⟩) ?_ ?_
                                rotate_left
                                · intro w'
                                  go_simp
                                  with_reducible rfl
                                rotate_left
                                · simp only [Act.put, List.setIfInBounds_toArray, List.set_cons_zero, List.set_cons_succ, i64_w, i32_w]
                                  rfl
                                refine done_ (done_of HT_.out (by kernel_rfl)) ?_
                                have p323 : 0 ≤ (x61_3 : Int) := of_decide_eq_true (by first | (with_reducible assumption) | assumption)
                                have q323 : x61_3 < (t314.length : Int) := of_decide_eq_true (by first | (with_reducible assumption) | assumption)
                                obtain ⟨ad323, A323_2, c323_2, A323_3, c323_3, e323, hx323_0, hx323_1, hx323_2, hx323_3, hl323_2, hi323_2, hl323_3, hi323_3, hr323, hob323⟩ := at_G36 HTG.out HKS.out (fun k_ e_ hs_ => hs_.1.2.2 e_.symm) x61_3 p323 q323 (fun k_ e_ hs_ => Nat.lt_irrefl _ (by rw [e_] at hs_; exact hs_.2))
                                obtain rfl : ad320 = ad323 := (by injection e323)
                                have HR323_2 := Aside0.mk hi323_2
                                have HC323_2 := Aside0.mk hl323_2
                                clear hi323_2 hl323_2
                                have HR323_3 := Aside0.mk hi323_3
                                have HC323_3 := Aside0.mk hl323_3
                                clear hi323_3 hl323_3
                                replace p323 := eq_true p323
                                replace q323 := eq_true q323
                                try go_wp2
                                have HRW := Aside0.mk hr323
                                have HOB := Aside0.mk hob323
                                clear hr323 hob323
                                go_wp2
                                go_loopg [80] ((rd_T36 t314 x61_3).f2.length + 1) (fun kz v80 w' => ∃ (z : Nat), v80 = .int .i64 (z : Int) ∧ Aside0 (kz + z = (rd_T36 t314 x61_3).f2.length + 1) ∧ Aside0 (Kept w67 w' (fun k_ => (Value.slice A323_2 (rd_T36 t314 x61_3).f2.length c323_2).ownBlock = some k_)) ∧ Aside0 (∃ ys : List Int, ys.length = (rd_T36 t314 x61_3).f2.length ∧ (Kd.int .u8).R 5 w' mA (fun k => ((mA ≤ k ∧ k < mB) ∧ some k ≠ (Value.slice (some ad320) t314.length co58).ownBlock) ∧ fA k = x61_3.toNat) (.slice A323_2 (rd_T36 t314 x61_3).f2.length c323_2) ys) ∧ Aside0 (Below w.heap.size w w'))
                                case atStart => exact ⟨0, rfl, ⟨rfl⟩, ⟨Kept.refl _ _⟩, ⟨_, rfl, HRW.out⟩, ⟨by repeat (first | (with_reducible first | exact HB.out | apply below_alloc | apply pw_below_drewN | apply below_drew1) | exact HB.out)⟩⟩
                                case round =>
                                  clear HB
                                  obtain ⟨z, rfl, HZ, HK2, HRY, HB⟩ := hrel
                                  obtain ⟨ys, hyl, hry⟩ := HRY.out
                                  clear HRY
                                  have HRY := Aside0.mk hry
                                  have HYL := Aside0.mk hyl
                                  clear hry hyl
                                  by_cases hz : z < (rd_T36 t314 x61_3).f2.length
                                  · cases gk with
                                    | zero => exact absurd HZ.out (by omega)
                                    | succ kz1 =>
                                      obtain ⟨g2, cap2, e2, hg2, _⟩ := Kd.R_form HRY.out (by rw [HYL.out]; omega)
                                      injection e2 with e2a e2b e2c
                                      subst e2a
                                      clear e2b e2c
                                      have HG2 := Aside0.mk hg2
                                      clear hg2
                                      obtain ⟨hy_, hf_⟩ := Kd.R_celln 0 HRY.out (z : Int) (by omega) (by omega)
                                      simp only [Int.toNat_natCast] at hy_ hf_
                                      have hx_ := cell_kept hx323_2 HK2.out (fun e_ => (HRW.out.1 _ e_).1.2 (by show some (ad320.add (x61_3.toNat * 4)).block = _; rw [add_block]; exact HOB.out.symm))
                                      have cz0 : decide ((z : Int) < ((rd_T36 t314 x61_3).f2.length : Int)) = true := decide_eq_true (by omega)
                                      have cz1 : decide (z < (rd_T36 t314 x61_3).f2.length) = true := decide_eq_true hz
                                      have HWZ := Aside0.mk (show wrap64 ((z : Int) + 1) = ((z + 1 : Nat) : Int) from by
                                        have h1_ := (Kd.R_reads' HRY.out).2.2.2.1
                                        rw [HYL.out] at h1_
                                        unfold wrap64
                                        omega)
                                      go_wp2
                                      go_roundg kz1
                                      case measure => omega
                                      case rel => exact ⟨z + 1, by rw [HWZ.out], ⟨by have := HZ.out; omega⟩, ⟨Kept.setCell (p := ⟨g2, z, none⟩) HK2.out (.inl rfl) _⟩, ⟨_, by rw [List.length_set]; exact HYL.out, (Kd.R_putg HRY.out (z : Int) _).1⟩, ⟨below_set HB.out (Nat.le_trans HM1.out HG2.out)⟩⟩
                                  · have cz0 : decide ((z : Int) < ((rd_T36 t314 x61_3).f2.length : Int)) = false := decide_eq_false (by omega)
                                    have cz1 : decide (z < (rd_T36 t314 x61_3).f2.length) = false := decide_eq_false hz
                                    have HKF := Aside0.mk (show Kept w57 wr (fun k_ => (mA ≤ k_ ∧ k_ < mB ∧ some k_ ≠ (Value.slice (some ad320) t314.length co58).ownBlock) ∧ fA k_ < x61_3.toNat + 1) from (HKS.out.mono (fun k_ hk_ => ⟨hk_.1, Nat.lt_succ_of_lt hk_.2⟩)).then_ HK2.out (fun k_ e_ => .inl ⟨⟨(HRW.out.1 _ e_).1.1.1, (HRW.out.1 _ e_).1.1.2, (HRW.out.1 _ e_).1.2⟩, by rw [(HRW.out.1 _ e_).2]; exact Nat.lt_succ_self _⟩))
                                    have HW64 := Aside0.mk (show wrap64 (x61_3 + 1) = x61_3 + 1 from by
                                      have h1_ := (Kd.R_reads' HTG.out).2.2.2.1
                                      have h2_ : x61_3 < (t314.length : Int) := of_decide_eq_true (by first | (with_reducible assumption) | assumption)
                                      have h3_ : 0 ≤ x61_3 := of_decide_eq_true (by first | (with_reducible assumption) | assumption)
                                      rw [List.length_zipIdx] at h1_
                                      unfold wrap64
                                      omega)
                                    have HT64 := Aside0.mk (show (x61_3 + 1).toNat = x61_3.toNat + 1 from by
                                      have h3_ : 0 ≤ x61_3 := of_decide_eq_true (by first | (with_reducible assumption) | assumption)
                                      omega)
                                    go_wp2
                                    go_roundg k3
                                    case measure => have := HK1.out; have := HJ20.out; have := HK3.out; omega
                                    case rel => exact ⟨(wrap64 (x61_3 + 1)), (by first | rfl | (simp; done) | (simp [*]; done)), H', ⟨by have := HK1.out; have := HJ20.out; have := HK3.out; omega⟩, ⟨by rw [HW64.out, HT64.out]; exact HKF.out⟩, ⟨by repeat (first | (with_reducible first | exact HB.out | apply below_alloc | apply pw_below_drewN | apply below_drew1) | exact HB.out)⟩⟩
                              · replace c65 := Bool.eq_false_iff.mpr c65
                                subst c65
                                have H1 : (none) = some r := by rw [if_neg (show ¬ (false = true) by decide)] at H; exact H
                                clear H
                                have H := H1
                                clear H1
                                exact absurd H (by simp)
                            · rw [if_neg c63] at H
                              exact absurd H (by simp)
                          · rw [if_neg c62] at H
                            exact absurd H (by simp)
                        · rw [if_neg c61] at H
                          exact absurd H (by simp)
                      · rw [if_neg c60] at H
                        have c60b0 : decide (x61_3 < (t314.length : Int)) = false := decide_eq_false c60
                        clear c60
                        have H' := Aside0.mk H
                        clear H
                        go_wp2
                        go_loopg [97] k3 (fun kq v97 w' => ∃ (x97_4 : Int), v97 = .int .i64 x97_4 ∧ Aside0 (catenarylaw18_ChoosePicks.l2 kq l0 x5_1 (l0.length : Int) x97_4 = some r) ∧ Aside0 (kq ≤ k3) ∧ Aside0 (Kd.N k30 30 w' w.heap.size (fun _ => True) (.slice Ao55 x5_1.length co55) x5_1) ∧ Aside0 (Below w.heap.size w w'))
                        case atStart => exact ⟨(0), (by first | rfl | (simp; done) | (simp [*]; done)), H', ⟨Nat.le_refl _⟩, ⟨by (with_reducible repeat (first | apply Kd.N_alloc | apply Kd.N_drewN | apply Kd.N_drew)); exact Kd.N_mono HO_5.out (fun _ hk => trivial)⟩, ⟨by repeat (first | (with_reducible first | exact HB.out | apply below_alloc | apply pw_below_drewN | apply below_drew1) | exact HB.out)⟩⟩
                        case round =>
                          clear H'
                          try clear c1
                          try clear c2
                          try clear p2
                          try clear q2
                          try clear hx2
                          try clear c3
                          try clear p3
                          try clear q3
                          try clear hx3
                          try clear c4
                          try clear c5
                          try clear c6
                          try clear p6
                          try clear c7
                          try clear c8
                          try clear c8b0
                          try clear c9
                          try clear c9b0
                          try clear c10
                          try clear c10b0
                          try clear c11
                          try clear c12
                          try clear c14
                          try clear c15
                          try clear c24
                          try clear c24b0
                          try clear c24b1
                          try clear c27
                          try clear c27b0
                          try clear c27b1
                          try clear p27
                          try clear q27
                          try clear hx27
                          try clear c32
                          try clear p32
                          try clear q32
                          try clear hx32
                          try clear c51
                          try clear c54
                          try clear c54b0
                          try clear c54b1
                          try clear c54b2
                          try clear c60
                          try clear c60b0
                          try clear c61
                          try clear c61b0
                          try clear c62
                          try clear c62b0
                          try clear c63
                          try clear c63b0
                          try clear p64
                          try clear c65
                          try clear hcz14_0
                          try clear hcz14_1
                          try clear hcz14_2
                          try clear hcz14_3
                          try clear hcz14_4
                          try clear hcz14_5
                          try clear hcz14_6
                          try clear hcz14_7
                          try clear hfz14_0
                          try clear hfz14_1
                          try clear hfz14_2
                          try clear hfz14_3
                          try clear hfz14_4
                          try clear hfz14_5
                          try clear hfz14_6
                          try clear hfz14_7
                          try clear hx272_0
                          try clear hx272_1
                          try clear hx272_2
                          try clear hx272_3
                          try clear hx272_4
                          try clear hx272_5
                          try clear hx272_6
                          try clear hx272_7
                          try clear hx320_0
                          try clear hx320_1
                          try clear hx320_2
                          try clear hx320_3
                          try clear hx321_0
                          try clear hx321_1
                          try clear hx321_2
                          try clear hx321_3
                          try clear hx323_0
                          try clear hx323_1
                          try clear hx323_2
                          try clear hx323_3
                          try clear p2
                          try clear p27
                          try clear p272
                          try clear p320
                          try clear p321
                          try clear p323
                          try clear p6
                          try clear q2
                          try clear q27
                          try clear q272
                          try clear q320
                          try clear q321
                          try clear q323
                          obtain ⟨x97_4, rfl, HA, HK4, HO_5, HB⟩ := hrel
                          cases gk with
                          | zero => exact absurd HA.out (by simp [catenarylaw18_ChoosePicks.l2])
                          | succ k4 =>
                            have H := HA.out
                            clear HA
                            simp only [catenarylaw18_ChoosePicks.l2] at H
                            by_cases c68 : x97_4 < (l0.length : Int)
                            · rw [if_pos c68] at H
                              have c68b0 : decide (x97_4 < (l0.length : Int)) = true := decide_eq_true c68
                              clear c68
                              by_cases c69 : 0 ≤ x97_4
                              · rw [if_pos c69] at H
                                have c69b0 : decide (0 ≤ x97_4) = true := decide_eq_true c69
                                clear c69
                                by_cases c70 : x97_4 < (x5_1.length : Int)
                                · rw [if_pos c70] at H
                                  have c70b0 : decide (x97_4 < (x5_1.length : Int)) = true := decide_eq_true c70
                                  clear c70
                                  by_cases c71 : x97_4 < (l0.length : Int)
                                  · rw [if_pos c71] at H
                                    have c71b0 : decide (x97_4 < (l0.length : Int)) = true := decide_eq_true c71
                                    clear c71
                                    replace H := Option.bind_eq_some_iff.mp H
                                    obtain ⟨t326, A720, H⟩ := H
                                    replace H : (if t326 = true then (catenarylaw18_ChoosePicks.l2 k4 l0 x5_1 (l0.length : Int) (wrap64 (x97_4 + 1))) else (none)) = some r := H
                                    have A72 := Aside0.mk A720
                                    clear A720
                                    by_cases c73 : t326 = true
                                    · subst c73
                                      have H1 : (catenarylaw18_ChoosePicks.l2 k4 l0 x5_1 (l0.length : Int) (wrap64 (x97_4 + 1))) = some r := by rw [if_pos rfl] at H; exact H
                                      clear H
                                      have H := H1
                                      clear H1
                                      have H' := Aside0.mk H
                                      clear H
                                      try go_wp2
                                      have n0_ := Aside0.mk (Kd.N_drew HO_5.out)
                                      have n1_ := Aside0.mk (below_drew1 HB.out)
                                      clear HO_5
                                      clear HB
                                      have HO_5 := n0_
                                      have HB := n1_
                                      clear n0_ n1_
                                      have p324 : 0 ≤ (x97_4 : Int) := of_decide_eq_true (by first | (with_reducible assumption) | assumption)
                                      have q324 : x97_4 < (x5_1.length : Int) := of_decide_eq_true (by first | (with_reducible assumption) | assumption)
                                      obtain ⟨ad324, A324_4, c324_4, A324_5, c324_5, A324_6, c324_6, A324_7, c324_7, e324, hx324_0, hx324_1, hx324_2, hx324_3, hx324_4, hx324_5, hx324_6, hx324_7, hl324_4, hi324_4, hl324_5, hi324_5, hl324_6, hi324_6, hl324_7, hi324_7⟩ := at_T30 (Kd.N_reads' HO_5.out).2.2 x97_4 p324 q324
                                      cases e324
                                      obtain ⟨ce324, hce324, hMe324, hcc324⟩ := Kd.N_get HO_5.out z30 x97_4 p324 (by first | exact q324 | exact of_decide_eq_true (by first | (with_reducible assumption) | assumption) | (have e_ := (Kd.N_reads' HO_5.out).1; omega))
                                      obtain ⟨ua324_4, uc324_4, ua324_5, uc324_5, ua324_6, uc324_6, ua324_7, uc324_7, rfl, ul324_4, ge324_4, ul324_5, ge324_5, ul324_6, ge324_6, ul324_7, ge324_7⟩ := k30_openF hMe324
                                      have hv324_4 := hcc324 4 _ rfl
                                      rw [add_field _ _ 4 (by omega)] at hv324_4
                                      replace hv324_4 := Option.some.inj (hv324_4.symm.trans hx324_4)
                                      injection hv324_4 with hva_ hvn_ hvc_
                                      rw [hva_] at ge324_4
                                      rw [hvc_] at ul324_4
                                      have HL324_4 := Aside0.mk (show Kd.V (Kd.int .u8) 5 _ w.heap.size _ _ ((rd_T30 x5_1 x97_4).f3) from Kd.V_mk ul324_4 ge324_4)
                                      clear hva_ hvn_ hvc_ ge324_4 ul324_4
                                      have hv324_5 := hcc324 5 _ rfl
                                      rw [add_field _ _ 5 (by omega)] at hv324_5
                                      replace hv324_5 := Option.some.inj (hv324_5.symm.trans hx324_5)
                                      injection hv324_5 with hva_ hvn_ hvc_
                                      rw [hva_] at ge324_5
                                      rw [hvc_] at ul324_5
                                      have HL324_5 := Aside0.mk (show Kd.V k57 57 _ w.heap.size _ _ ((rd_T30 x5_1 x97_4).f4) from Kd.V_mk ul324_5 ge324_5)
                                      clear hva_ hvn_ hvc_ ge324_5 ul324_5
                                      have hv324_6 := hcc324 6 _ rfl
                                      rw [add_field _ _ 6 (by omega)] at hv324_6
                                      replace hv324_6 := Option.some.inj (hv324_6.symm.trans hx324_6)
                                      injection hv324_6 with hva_ hvn_ hvc_
                                      rw [hva_] at ge324_6
                                      rw [hvc_] at ul324_6
                                      have HL324_6 := Aside0.mk (show Kd.V k45 45 _ w.heap.size _ _ ((rd_T30 x5_1 x97_4).f5) from Kd.V_mk ul324_6 ge324_6)
                                      clear hva_ hvn_ hvc_ ge324_6 ul324_6
                                      have hv324_7 := hcc324 7 _ rfl
                                      rw [add_field _ _ 7 (by omega)] at hv324_7
                                      replace hv324_7 := Option.some.inj (hv324_7.symm.trans hx324_7)
                                      injection hv324_7 with hva_ hvn_ hvc_
                                      rw [hva_] at ge324_7
                                      rw [hvc_] at ul324_7
                                      have HL324_7 := Aside0.mk (show Kd.V (Kd.int .u8) 5 _ w.heap.size _ _ ((rd_T30 x5_1 x97_4).f6) from Kd.V_mk ul324_7 ge324_7)
                                      clear hva_ hvn_ hvc_ ge324_7 ul324_7
                                      clear hcc324 hce324
                                      have HR324_4 := Aside0.mk hi324_4
                                      have HC324_4 := Aside0.mk hl324_4
                                      clear hi324_4 hl324_4
                                      have HR324_5 := Aside0.mk hi324_5
                                      have HC324_5 := Aside0.mk hl324_5
                                      clear hi324_5 hl324_5
                                      have HR324_6 := Aside0.mk hi324_6
                                      have HC324_6 := Aside0.mk hl324_6
                                      clear hi324_6 hl324_6
                                      have HR324_7 := Aside0.mk hi324_7
                                      have HC324_7 := Aside0.mk hl324_7
                                      clear hi324_7 hl324_7
                                      replace p324 := eq_true p324
                                      replace q324 := eq_true q324
                                      have p325 : 0 ≤ (x97_4 : Int) := of_decide_eq_true (by first | (with_reducible assumption) | assumption)
                                      have q325 : x97_4 < (l0.length : Int) := of_decide_eq_true (by first | (with_reducible assumption) | assumption)
                                      obtain ⟨ad325, A325_4, c325_4, A325_5, c325_5, A325_6, c325_6, A325_7, c325_7, e325, hx325_0, hx325_1, hx325_2, hx325_3, hx325_4, hx325_5, hx325_6, hx325_7, hl325_4, hi325_4, hl325_5, hi325_5, hl325_6, hi325_6, hl325_7, hi325_7⟩ := at_T30 HR0.out x97_4 p325 q325
                                      have hw325_7 := hx325_7
                                      have hw325_6 := hx325_6
                                      have hw325_5 := hx325_5
                                      have hw325_4 := hx325_4
                                      have hw325_3 := hx325_3
                                      have hw325_2 := hx325_2
                                      have hw325_1 := hx325_1
                                      have hw325_0 := hx325_0
                                      cases e325
                                      replace hx325_0 := (HB.out.cell (World.block_lt_of_cell? w _ hx325_0)).trans hx325_0
                                      replace hx325_1 := (HB.out.cell (World.block_lt_of_cell? w _ hx325_1)).trans hx325_1
                                      replace hx325_2 := (HB.out.cell (World.block_lt_of_cell? w _ hx325_2)).trans hx325_2
                                      replace hx325_3 := (HB.out.cell (World.block_lt_of_cell? w _ hx325_3)).trans hx325_3
                                      replace hx325_4 := (HB.out.cell (World.block_lt_of_cell? w _ hx325_4)).trans hx325_4
                                      replace hx325_5 := (HB.out.cell (World.block_lt_of_cell? w _ hx325_5)).trans hx325_5
                                      replace hx325_6 := (HB.out.cell (World.block_lt_of_cell? w _ hx325_6)).trans hx325_6
                                      replace hx325_7 := (HB.out.cell (World.block_lt_of_cell? w _ hx325_7)).trans hx325_7
                                      have HR325_4 := Aside0.mk hi325_4
                                      have HC325_4 := Aside0.mk hl325_4
                                      clear hi325_4 hl325_4
                                      have HR325_5 := Aside0.mk hi325_5
                                      have HC325_5 := Aside0.mk hl325_5
                                      clear hi325_5 hl325_5
                                      have HR325_6 := Aside0.mk hi325_6
                                      have HC325_6 := Aside0.mk hl325_6
                                      clear hi325_6 hl325_6
                                      have HR325_7 := Aside0.mk hi325_7
                                      have HC325_7 := Aside0.mk hl325_7
                                      clear hi325_7 hl325_7
                                      replace p325 := eq_true p325
                                      replace q325 := eq_true q325
                                      refine start_ (n := 10) (S := fun w' => w'.cell? (ad324.add ((x97_4).toNat * 8)) = some (.int .i64 ((rd_T30 x5_1 x97_4).f0.f0)) ∧ w'.cell? ⟨(ad324.add ((x97_4).toNat * 8)).block, (ad324.add ((x97_4).toNat * 8)).off + 1, none⟩ = some (.int .i64 ((rd_T30 x5_1 x97_4).f0.f1)) ∧ w'.cell? ⟨(ad324.add ((x97_4).toNat * 8)).block, (ad324.add ((x97_4).toNat * 8)).off + 2, none⟩ = some (.int .i64 ((rd_T30 x5_1 x97_4).f1)) ∧ w'.cell? ⟨(ad324.add ((x97_4).toNat * 8)).block, (ad324.add ((x97_4).toNat * 8)).off + 3, none⟩ = some (.int .i64 ((rd_T30 x5_1 x97_4).f2)) ∧ w'.cell? ⟨(ad324.add ((x97_4).toNat * 8)).block, (ad324.add ((x97_4).toNat * 8)).off + 4, none⟩ = some (.slice A324_4 ((rd_T30 x5_1 x97_4).f3).length c324_4) ∧ w'.cell? ⟨(ad324.add ((x97_4).toNat * 8)).block, (ad324.add ((x97_4).toNat * 8)).off + 5, none⟩ = some (.slice A324_5 ((rd_T30 x5_1 x97_4).f4).length c324_5) ∧ w'.cell? ⟨(ad324.add ((x97_4).toNat * 8)).block, (ad324.add ((x97_4).toNat * 8)).off + 6, none⟩ = some (.slice A324_6 ((rd_T30 x5_1 x97_4).f5).length c324_6) ∧ w'.cell? ⟨(ad324.add ((x97_4).toNat * 8)).block, (ad324.add ((x97_4).toNat * 8)).off + 7, none⟩ = some (.slice A324_7 ((rd_T30 x5_1 x97_4).f6).length c324_7) ∧ w'.cell? (ad325.add ((x97_4).toNat * 8)) = some (.int .i64 ((rd_T30 l0 x97_4).f0.f0)) ∧ w'.cell? ⟨(ad325.add ((x97_4).toNat * 8)).block, (ad325.add ((x97_4).toNat * 8)).off + 1, none⟩ = some (.int .i64 ((rd_T30 l0 x97_4).f0.f1)) ∧ w'.cell? ⟨(ad325.add ((x97_4).toNat * 8)).block, (ad325.add ((x97_4).toNat * 8)).off + 2, none⟩ = some (.int .i64 ((rd_T30 l0 x97_4).f1)) ∧ w'.cell? ⟨(ad325.add ((x97_4).toNat * 8)).block, (ad325.add ((x97_4).toNat * 8)).off + 3, none⟩ = some (.int .i64 ((rd_T30 l0 x97_4).f2)) ∧ w'.cell? ⟨(ad325.add ((x97_4).toNat * 8)).block, (ad325.add ((x97_4).toNat * 8)).off + 4, none⟩ = some (.slice A325_4 ((rd_T30 l0 x97_4).f3).length c325_4) ∧ w'.cell? ⟨(ad325.add ((x97_4).toNat * 8)).block, (ad325.add ((x97_4).toNat * 8)).off + 5, none⟩ = some (.slice A325_5 ((rd_T30 l0 x97_4).f4).length c325_5) ∧ w'.cell? ⟨(ad325.add ((x97_4).toNat * 8)).block, (ad325.add ((x97_4).toNat * 8)).off + 6, none⟩ = some (.slice A325_6 ((rd_T30 l0 x97_4).f5).length c325_6) ∧ w'.cell? ⟨(ad325.add ((x97_4).toNat * 8)).block, (ad325.add ((x97_4).toNat * 8)).off + 7, none⟩ = some (.slice A325_7 ((rd_T30 l0 x97_4).f6).length c325_7)) (ds := []) #[false, false, false, false, false, false, false, false, false, false] (by kernel_rfl) rfl rfl ⟨hx324_0, hx324_1, hx324_2, hx324_3, hx324_4, hx324_5, hx324_6, hx324_7, ((HB.out.cell (World.block_lt_of_cell? w _ hw325_0)).trans hw325_0), ((HB.out.cell (World.block_lt_of_cell? w _ hw325_1)).trans hw325_1), ((HB.out.cell (World.block_lt_of_cell? w _ hw325_2)).trans hw325_2), ((HB.out.cell (World.block_lt_of_cell? w _ hw325_3)).trans hw325_3), ((HB.out.cell (World.block_lt_of_cell? w _ hw325_4)).trans hw325_4), ((HB.out.cell (World.block_lt_of_cell? w _ hw325_5)).trans hw325_5), ((HB.out.cell (World.block_lt_of_cell? w _ hw325_6)).trans hw325_6), ((HB.out.cell (World.block_lt_of_cell? w _ hw325_7)).trans hw325_7)⟩ (fun hHeld => ?_); refine with_tabW catenarylaw18_ChoosePicks.tab28 catenarylaw18_ChoosePicks.bits28 (fun HT_ HW_ => ?_)
                                      generalize wr.drew = w74 at HO_5 HB HL324_4 HL324_5 HL324_6 HL324_7 HR324_4 HR324_5 HR324_6 HR324_7 HR325_4 HR325_5 HR325_6 HR325_7 hx324_0 hx324_1 hx324_2 hx324_3 hx324_4 hx324_5 hx324_6 hx324_7 hx325_0 hx325_1 hx325_2 hx325_3 hx325_4 hx325_5 hx325_6 hx325_7 hHeld ⊢
                                      refine pure_ (i := 0) (N := some 100) (v := ?_) (a' := ?_) #[true, false, false, false, false, false, false, false, false, false] rfl rfl (any_of HT_.out (by kernel_rfl)) (fun _ _ _ h => h) (Or.inl ⟨by rfl, ?_⟩) ?_ ?_
                                      rotate_left
                                      · intro w'
                                        go_simp
                                        with_reducible rfl
                                      rotate_left
                                      · simp only [Act.put, List.setIfInBounds_toArray, List.set_cons_zero, List.set_cons_succ, i64_w, i32_w]
                                        rfl
                                      refine pure_ (i := 1) (N := some 101) (v := ?_) (a' := ?_) #[true, true, false, false, false, false, false, false, false, false] rfl rfl (any_of HT_.out (by kernel_rfl)) (fun _ _ _ h => h) (Or.inl ⟨by rfl, ?_⟩) ?_ ?_
                                      rotate_left
                                      · intro w'
                                        go_simp
                                        with_reducible rfl
                                      rotate_left
                                      · simp only [Act.put, List.setIfInBounds_toArray, List.set_cons_zero, List.set_cons_succ, i64_w, i32_w]
                                        rfl
                                      refine pure_ (i := 2) (N := some 102) (v := ?_) (a' := ?_) #[true, true, true, false, false, false, false, false, false, false] rfl rfl (any_of HT_.out (by kernel_rfl)) (fun _ _ _ h => h) (Or.inl ⟨by rfl, ?_⟩) ?_ ?_
                                      rotate_left
                                      · intro w'
                                        go_simp
                                        with_reducible rfl
                                      rotate_left
                                      · simp only [Act.put, List.setIfInBounds_toArray, List.set_cons_zero, List.set_cons_succ, i64_w, i32_w]
                                        rfl
                                      refine pure_ (i := 4) (N := some 104) (v := ?_) (a' := ?_) #[true, true, true, false, true, false, false, false, false, false] rfl rfl (any_of HT_.out (by kernel_rfl)) (fun _ _ _ h => h) (Or.inl ⟨by rfl, ?_⟩) ?_ ?_
                                      rotate_left
                                      · intro w'
                                        go_simp
                                        with_reducible rfl
                                      rotate_left
                                      · simp only [Act.put, List.setIfInBounds_toArray, List.set_cons_zero, List.set_cons_succ, i64_w, i32_w]
                                        rfl
                                      refine pure_ (i := 5) (N := some 105) (v := ?_) (a' := ?_) #[true, true, true, false, true, true, false, false, false, false] rfl rfl (any_of HT_.out (by kernel_rfl)) (fun _ _ _ h => h) (Or.inl ⟨by rfl, ?_⟩) ?_ ?_
                                      rotate_left
                                      · intro w'
                                        go_simp
                                        with_reducible rfl
                                      rotate_left
                                      · simp only [Act.put, List.setIfInBounds_toArray, List.set_cons_zero, List.set_cons_succ, i64_w, i32_w]
                                        rfl
                                      refine pure_ (i := 6) (N := some 106) (v := ?_) (a' := ?_) #[true, true, true, false, true, true, true, false, false, false] rfl rfl (any_of HT_.out (by kernel_rfl)) (fun _ _ _ h => h) (Or.inl ⟨by rfl, ?_⟩) ?_ ?_
                                      rotate_left
                                      · intro w'
                                        go_simp
                                        with_reducible rfl
                                      rotate_left
                                      · simp only [Act.put, List.setIfInBounds_toArray, List.set_cons_zero, List.set_cons_succ, i64_w, i32_w]
                                        rfl
                                      refine take_ (i := 3) (N := some 103) (v := ?_) (a' := ?_) #[true, true, true, true, true, true, true, false, false, false] rfl rfl (take_ofW HT_.out HW_.out (by kernel_rfl)) (fun _ _ _ h => h) (Or.inl ⟨by rfl, ?_⟩) hHeld ?_ ?_
                                      rotate_left
                                      · rintro w' ⟨s0, s1, s2, s3, s4, s5, s6, s7, s8, s9, s10, s11, s12, s13, s14, s15⟩
                                        go_simp
                                        with_reducible rfl
                                      rotate_left
                                      · simp only [Act.put, List.setIfInBounds_toArray, List.set_cons_zero, List.set_cons_succ, i64_w, i32_w]
                                        rfl
                                      refine take_ (i := 7) (N := some 107) (v := ?_) (a' := ?_) #[true, true, true, true, true, true, true, true, false, false] rfl rfl (take_ofW HT_.out HW_.out (by kernel_rfl)) (fun _ _ _ h => h) (Or.inl ⟨by rfl, ?_⟩) hHeld ?_ ?_
                                      rotate_left
                                      · rintro w' ⟨s0, s1, s2, s3, s4, s5, s6, s7, s8, s9, s10, s11, s12, s13, s14, s15⟩
                                        go_simp
                                        with_reducible rfl
                                      rotate_left
                                      · simp only [Act.put, List.setIfInBounds_toArray, List.set_cons_zero, List.set_cons_succ, i64_w, i32_w]
                                        rfl
                                      refine one_ (i := 8) (N := some 108) #[true, true, true, true, true, true, true, true, true, false] rfl rfl (one_of HT_.out (by kernel_rfl)) (by decide) (fun K hK => ?_)
                                      refine goes_ Try.func16 (by kernel_rfl) rfl #[.agg #[.int .i64 ((rd_T30 x5_1 x97_4).f0.f0), .int .i64 ((rd_T30 x5_1 x97_4).f0.f1), .int .i64 ((rd_T30 x5_1 x97_4).f1), .int .i64 ((rd_T30 x5_1 x97_4).f2), .slice A324_4 ((rd_T30 x5_1 x97_4).f3).length c324_4, .slice A324_5 ((rd_T30 x5_1 x97_4).f4).length c324_5, .slice A324_6 ((rd_T30 x5_1 x97_4).f5).length c324_6, .slice A324_7 ((rd_T30 x5_1 x97_4).f6).length c324_7], .agg #[.int .i64 ((rd_T30 l0 x97_4).f0.f0), .int .i64 ((rd_T30 l0 x97_4).f0.f1), .int .i64 ((rd_T30 l0 x97_4).f1), .int .i64 ((rd_T30 l0 x97_4).f2), .slice A325_4 ((rd_T30 l0 x97_4).f3).length c325_4, .slice A325_5 ((rd_T30 l0 x97_4).f4).length c325_5, .slice A325_6 ((rd_T30 l0 x97_4).f5).length c325_6, .slice A325_7 ((rd_T30 l0 x97_4).f6).length c325_7]] (by rfl) rfl rfl (by (try simp only [List.map_toArray, List.map_cons, List.map_nil]); first | done | rfl | (simp only [List.length_drop, List.length_take]; rfl)) ?_
                                      with_reducible refine (catenaryref05_SameReport.calls k4 ((rd_T30 x5_1 x97_4).f0.f0) ((rd_T30 x5_1 x97_4).f0.f1) ((rd_T30 x5_1 x97_4).f1) ((rd_T30 x5_1 x97_4).f2) _ _ ((rd_T30 x5_1 x97_4).f3) _ _ ((rd_T30 x5_1 x97_4).f4) _ _ ((rd_T30 x5_1 x97_4).f5) _ _ ((rd_T30 x5_1 x97_4).f6) ((rd_T30 l0 x97_4).f0.f0) ((rd_T30 l0 x97_4).f0.f1) ((rd_T30 l0 x97_4).f1) ((rd_T30 l0 x97_4).f2) _ _ ((rd_T30 l0 x97_4).f3) _ _ ((rd_T30 l0 x97_4).f4) _ _ ((rd_T30 l0 x97_4).f5) _ _ ((rd_T30 l0 x97_4).f6) true _ ?side1 ?side2 ?side3 ?side4 ?side5 ?side6 ?side7 ?side8 ?side9 ?side10 ?side11 ?side12 ?side13 ?side14 ?side15 ?side16 A72.out).mono ?_
                                      (case side1 => repeat (first | exact (by repeat (first | (with_reducible exact HR324_4.out) | (with_reducible refine Kd.C_alloc ?_ _) | (with_reducible refine Kd.C_drewN ?_ _) | (with_reducible refine Kd.C_drew ?_) | exact HR324_4.out)) | (with_reducible refine Kd.C_alloc ?_ _) | (with_reducible refine Kd.C_drewN ?_ _) | (with_reducible refine Kd.C_drew ?_)))
                                      (case side2 => exact HC324_4.out)
                                      (case side3 => repeat (first | exact (by repeat (first | (with_reducible exact HR324_5.out) | (with_reducible refine Kd.C_alloc ?_ _) | (with_reducible refine Kd.C_drewN ?_ _) | (with_reducible refine Kd.C_drew ?_) | exact HR324_5.out)) | (with_reducible refine Kd.C_alloc ?_ _) | (with_reducible refine Kd.C_drewN ?_ _) | (with_reducible refine Kd.C_drew ?_)))
                                      (case side4 => exact HC324_5.out)
                                      (case side5 => repeat (first | exact (by repeat (first | (with_reducible exact HR324_6.out) | (with_reducible refine Kd.C_alloc ?_ _) | (with_reducible refine Kd.C_drewN ?_ _) | (with_reducible refine Kd.C_drew ?_) | exact HR324_6.out)) | (with_reducible refine Kd.C_alloc ?_ _) | (with_reducible refine Kd.C_drewN ?_ _) | (with_reducible refine Kd.C_drew ?_)))
                                      (case side6 => exact HC324_6.out)
                                      (case side7 => repeat (first | exact (by repeat (first | (with_reducible exact HR324_7.out) | (with_reducible refine Kd.C_alloc ?_ _) | (with_reducible refine Kd.C_drewN ?_ _) | (with_reducible refine Kd.C_drew ?_) | exact HR324_7.out)) | (with_reducible refine Kd.C_alloc ?_ _) | (with_reducible refine Kd.C_drewN ?_ _) | (with_reducible refine Kd.C_drew ?_)))
                                      (case side8 => exact HC324_7.out)
                                      (case side9 => repeat (first | exact (Kd.C_below HR325_4.out HB.out) | (with_reducible refine Kd.C_alloc ?_ _) | (with_reducible refine Kd.C_drewN ?_ _) | (with_reducible refine Kd.C_drew ?_)))
                                      (case side10 => exact HC325_4.out)
                                      (case side11 => repeat (first | exact (Kd.C_below HR325_5.out HB.out) | (with_reducible refine Kd.C_alloc ?_ _) | (with_reducible refine Kd.C_drewN ?_ _) | (with_reducible refine Kd.C_drew ?_)))
                                      (case side12 => exact HC325_5.out)
                                      (case side13 => repeat (first | exact (Kd.C_below HR325_6.out HB.out) | (with_reducible refine Kd.C_alloc ?_ _) | (with_reducible refine Kd.C_drewN ?_ _) | (with_reducible refine Kd.C_drew ?_)))
                                      (case side14 => exact HC325_6.out)
                                      (case side15 => repeat (first | exact (Kd.C_below HR325_7.out HB.out) | (with_reducible refine Kd.C_alloc ?_ _) | (with_reducible refine Kd.C_drewN ?_ _) | (with_reducible refine Kd.C_drew ?_)))
                                      (case side16 => exact HC325_7.out)
                                      rintro e w75 ⟨rfl, hb⟩
                                      have HS0_ := (hb.cell (World.block_lt_of_cell? _ _ (hHeld.1))).trans (hHeld.1)
                                      have HS1_ := (hb.cell (World.block_lt_of_cell? _ _ (hHeld.2.1))).trans (hHeld.2.1)
                                      have HS2_ := (hb.cell (World.block_lt_of_cell? _ _ (hHeld.2.2.1))).trans (hHeld.2.2.1)
                                      have HS3_ := (hb.cell (World.block_lt_of_cell? _ _ (hHeld.2.2.2.1))).trans (hHeld.2.2.2.1)
                                      have HS4_ := (hb.cell (World.block_lt_of_cell? _ _ (hHeld.2.2.2.2.1))).trans (hHeld.2.2.2.2.1)
                                      have HS5_ := (hb.cell (World.block_lt_of_cell? _ _ (hHeld.2.2.2.2.2.1))).trans (hHeld.2.2.2.2.2.1)
                                      have HS6_ := (hb.cell (World.block_lt_of_cell? _ _ (hHeld.2.2.2.2.2.2.1))).trans (hHeld.2.2.2.2.2.2.1)
                                      have HS7_ := (hb.cell (World.block_lt_of_cell? _ _ (hHeld.2.2.2.2.2.2.2.1))).trans (hHeld.2.2.2.2.2.2.2.1)
                                      refine ⟨_, rfl, ?_⟩
                                      have n0_ := Aside0.mk (Kd.N_below (by (with_reducible repeat (first | apply Kd.N_alloc | apply Kd.N_drewN | apply Kd.N_drew)); exact HO_5.out) hb)
                                      have n1_ := Aside0.mk (Kd.V_below (by (with_reducible repeat (first | apply Kd.V_alloc | apply Kd.V_drewN | apply Kd.V_drew)); exact HL324_4.out) hb)
                                      have n2_ := Aside0.mk (Kd.V_below (by (with_reducible repeat (first | apply Kd.V_alloc | apply Kd.V_drewN | apply Kd.V_drew)); exact HL324_5.out) hb)
                                      have n3_ := Aside0.mk (Kd.V_below (by (with_reducible repeat (first | apply Kd.V_alloc | apply Kd.V_drewN | apply Kd.V_drew)); exact HL324_6.out) hb)
                                      have n4_ := Aside0.mk (Kd.V_below (by (with_reducible repeat (first | apply Kd.V_alloc | apply Kd.V_drewN | apply Kd.V_drew)); exact HL324_7.out) hb)
                                      (first | (with_reducible (have n5_ := Aside0.mk (Kd.C_below HR324_4.out hb))) | (with_reducible (have n5_ := Aside0.mk (Kd.C_past HR324_4.out hb))) | (have n5_ := Aside0.mk (Kd.C_below (by repeat (first | (with_reducible exact HR324_4.out) | (with_reducible refine Kd.C_alloc ?_ _) | (with_reducible refine Kd.C_drewN ?_ _) | (with_reducible refine Kd.C_drew ?_) | exact HR324_4.out)) hb)))
                                      (first | (with_reducible (have n6_ := Aside0.mk (Kd.C_below HR324_5.out hb))) | (with_reducible (have n6_ := Aside0.mk (Kd.C_past HR324_5.out hb))) | (have n6_ := Aside0.mk (Kd.C_below (by repeat (first | (with_reducible exact HR324_5.out) | (with_reducible refine Kd.C_alloc ?_ _) | (with_reducible refine Kd.C_drewN ?_ _) | (with_reducible refine Kd.C_drew ?_) | exact HR324_5.out)) hb)))
                                      (first | (with_reducible (have n7_ := Aside0.mk (Kd.C_below HR324_6.out hb))) | (with_reducible (have n7_ := Aside0.mk (Kd.C_past HR324_6.out hb))) | (have n7_ := Aside0.mk (Kd.C_below (by repeat (first | (with_reducible exact HR324_6.out) | (with_reducible refine Kd.C_alloc ?_ _) | (with_reducible refine Kd.C_drewN ?_ _) | (with_reducible refine Kd.C_drew ?_) | exact HR324_6.out)) hb)))
                                      (first | (with_reducible (have n8_ := Aside0.mk (Kd.C_below HR324_7.out hb))) | (with_reducible (have n8_ := Aside0.mk (Kd.C_past HR324_7.out hb))) | (have n8_ := Aside0.mk (Kd.C_below (by repeat (first | (with_reducible exact HR324_7.out) | (with_reducible refine Kd.C_alloc ?_ _) | (with_reducible refine Kd.C_drewN ?_ _) | (with_reducible refine Kd.C_drew ?_) | exact HR324_7.out)) hb)))
                                      have n9_ := Aside0.mk (below_step (by repeat (first | (with_reducible first | exact HB.out | apply below_alloc | apply pw_below_drewN | apply below_drew1) | exact HB.out)) hb)
                                      clear HO_5
                                      clear HL324_4
                                      clear HL324_5
                                      clear HL324_6
                                      clear HL324_7
                                      clear HR324_4
                                      clear HR324_5
                                      clear HR324_6
                                      clear HR324_7
                                      clear HB
                                      have HO_5 := n0_
                                      have HL324_4 := n1_
                                      have HL324_5 := n2_
                                      have HL324_6 := n3_
                                      have HL324_7 := n4_
                                      have HR324_4 := n5_
                                      have HR324_5 := n6_
                                      have HR324_6 := n7_
                                      have HR324_7 := n8_
                                      have HB := n9_
                                      clear n0_ n1_ n2_ n3_ n4_ n5_ n6_ n7_ n8_ n9_
                                      (try clear hb)
                                      (try clear hb2)
                                      (try clear hk)
                                      (try clear hi)
                                      refine hK.out _ _ ⟨HS0_, HS1_, HS2_, HS3_, HS4_, HS5_, HS6_, HS7_, ((HB.out.cell (World.block_lt_of_cell? w _ hw325_0)).trans hw325_0), ((HB.out.cell (World.block_lt_of_cell? w _ hw325_1)).trans hw325_1), ((HB.out.cell (World.block_lt_of_cell? w _ hw325_2)).trans hw325_2), ((HB.out.cell (World.block_lt_of_cell? w _ hw325_3)).trans hw325_3), ((HB.out.cell (World.block_lt_of_cell? w _ hw325_4)).trans hw325_4), ((HB.out.cell (World.block_lt_of_cell? w _ hw325_5)).trans hw325_5), ((HB.out.cell (World.block_lt_of_cell? w _ hw325_6)).trans hw325_6), ((HB.out.cell (World.block_lt_of_cell? w _ hw325_7)).trans hw325_7)⟩ (fun hHeld => ?_)
                                      clear hK K
                                      refine norm_ (a' := ?_) ?_ ?_
                                      rotate_left
                                      · show Act.put _ (some 108) _ = _
                                        simp only [Act.put, List.setIfInBounds_toArray, List.set_cons_zero, List.set_cons_succ, i64_w, i32_w]
                                        rfl
                                      refine pure_ (i := 9) (N := some 109) (v := ?_) (a' := ?_) #[true, true, true, true, true, true, true, true, true, true] rfl rfl (any_of HT_.out (by kernel_rfl)) (fun _ _ _ h => h) (Or.inl ⟨by rfl, ?_⟩) ?_ ?_
                                      rotate_left
                                      · intro w'
                                        go_simp
                                        with_reducible rfl
                                      rotate_left
                                      · simp only [Act.put, List.setIfInBounds_toArray, List.set_cons_zero, List.set_cons_succ, i64_w, i32_w]
                                        rfl
                                      refine done_ (done_of HT_.out (by kernel_rfl)) ?_
                                      try go_wp2
                                      go_roundg k4
                                      case measure => have := HK1.out; have := HJ20.out; have := HK3.out; have := HK4.out; omega
                                      case rel => exact ⟨(wrap64 (x97_4 + 1)), (by first | rfl | (simp; done) | (simp [*]; done)), H', ⟨by have := HK1.out; have := HJ20.out; have := HK3.out; have := HK4.out; omega⟩, ⟨by (with_reducible repeat (first | apply Kd.N_alloc | apply Kd.N_drewN | apply Kd.N_drew)); exact HO_5.out⟩, ⟨by repeat (first | (with_reducible first | exact HB.out | apply below_alloc | apply pw_below_drewN | apply below_drew1) | exact HB.out)⟩⟩
                                    · replace c73 := Bool.eq_false_iff.mpr c73
                                      subst c73
                                      have H1 : (none) = some r := by rw [if_neg (show ¬ (false = true) by decide)] at H; exact H
                                      clear H
                                      have H := H1
                                      clear H1
                                      exact absurd H (by simp)
                                  · rw [if_neg c71] at H
                                    exact absurd H (by simp)
                                · rw [if_neg c70] at H
                                  exact absurd H (by simp)
                              · rw [if_neg c69] at H
                                exact absurd H (by simp)
                            · rw [if_neg c68] at H
                              have c68b0 : decide (x97_4 < (l0.length : Int)) = false := decide_eq_false c68
                              clear c68
                              obtain rfl := Option.some.inj H
                              go_wp2
                              go_ret
                              exact ⟨by first | rfl | (simp [errW_none, errW_some] <;> rfl) | (simp [*, errW_none, errW_some] <;> rfl), by repeat (first | (with_reducible first | exact HB.out | apply below_alloc | apply pw_below_drewN | apply below_drew1) | exact HB.out)⟩
                · rw [if_neg c54] at H
                  exact absurd H (by simp)
  · replace c4 := Bool.eq_false_iff.mpr c4
    subst c4
    have H1 : (none) = some r := by rw [if_neg (show ¬ (false = true) by decide)] at H; exact H
    clear H
    have H := H1
    clear H1
    exact absurd H (by simp)
def g25 (x : S25) : Prop := (Kd.gInt .i64) x.f0 ∧ (Kd.gInt .i64) x.f1
theorem o25 : Kd.Opens Try.prog 25 k25 g25 := Kd.opens_iso (fun x => ⟨x.1, x.2⟩) (fun _ => rfl) (fun _ h => h) (Kd.opens_struct (l := [(3, 0), (3, 1)]) Try.underlying25 (by kernel_rfl) (by kernel_rfl) (Kd.opensF_cons (by kernel_rfl) (Kd.opens_int Try.underlying3) (Kd.opensF_one (by kernel_rfl) (Kd.opens_int Try.underlying3))))
def g57 (x : S57) : Prop := (Kd.gInt .i64) x.f0 ∧ (Kd.gSl 1 (Kd.gInt .u8)) x.f1
theorem o57 : Kd.Opens Try.prog 57 k57 g57 := Kd.opens_iso (fun x => ⟨x.1, x.2⟩) (fun _ => rfl) (fun _ h => h) (Kd.opens_struct (l := [(3, 0), (26, 1)]) Try.underlying57 (by kernel_rfl) (by kernel_rfl) (Kd.opensF_cons (by kernel_rfl) (Kd.opens_int Try.underlying3) (Kd.opensF_one (by kernel_rfl) (Kd.opens_slice Try.underlying26 (by kernel_rfl) (by kernel_rfl) (Kd.opens_int Try.underlying5)))))
def g36 (x : S36) : Prop := (Kd.gInt .i64) x.f0 ∧ (Kd.gInt .i64) x.f1 ∧ (Kd.gSl 1 (Kd.gInt .u8)) x.f2 ∧ (Kd.gSl 1 (Kd.gInt .u8)) x.f3
theorem o36 : Kd.Opens Try.prog 36 k36 g36 := Kd.opens_iso (fun x => ⟨x.1, x.2.1, x.2.2.1, x.2.2.2⟩) (fun _ => rfl) (fun _ h => h) (Kd.opens_struct (l := [(3, 0), (3, 1), (26, 2), (26, 3)]) Try.underlying36 (by kernel_rfl) (by kernel_rfl) (Kd.opensF_cons (by kernel_rfl) (Kd.opens_int Try.underlying3) (Kd.opensF_cons (by kernel_rfl) (Kd.opens_int Try.underlying3) (Kd.opensF_cons (by kernel_rfl) (Kd.opens_slice Try.underlying26 (by kernel_rfl) (by kernel_rfl) (Kd.opens_int Try.underlying5)) (Kd.opensF_one (by kernel_rfl) (Kd.opens_slice Try.underlying26 (by kernel_rfl) (by kernel_rfl) (Kd.opens_int Try.underlying5)))))))
def g45 (x : S45) : Prop := (Kd.gInt .i64) x.f0 ∧ g25 x.f1 ∧ g36 x.f2 ∧ (Kd.gSl 32 g57) x.f3
theorem o45 : Kd.Opens Try.prog 45 k45 g45 := Kd.opens_iso (fun x => ⟨x.1, x.2.1, x.2.2.1, x.2.2.2⟩) (fun _ => rfl) (fun _ h => h) (Kd.opens_struct (l := [(3, 0), (25, 1), (36, 3), (27, 7)]) Try.underlying45 (by kernel_rfl) (by kernel_rfl) (Kd.opensF_cons (by kernel_rfl) (Kd.opens_int Try.underlying3) (Kd.opensF_cons (by kernel_rfl) (o25) (Kd.opensF_cons (by kernel_rfl) (o36) (Kd.opensF_one (by kernel_rfl) (Kd.opens_slice Try.underlying27 (by kernel_rfl) (by kernel_rfl) (o57)))))))
def g30 (x : S30) : Prop := g25 x.f0 ∧ (Kd.gInt .i64) x.f1 ∧ (Kd.gInt .i64) x.f2 ∧ (Kd.gSl 1 (Kd.gInt .u8)) x.f3 ∧ (Kd.gSl 32 g57) x.f4 ∧ (Kd.gSl 112 g45) x.f5 ∧ (Kd.gSl 1 (Kd.gInt .u8)) x.f6
theorem o30 : Kd.Opens Try.prog 30 k30 g30 := Kd.opens_iso (fun x => ⟨x.1, x.2.1, x.2.2.1, x.2.2.2.1, x.2.2.2.2.1, x.2.2.2.2.2.1, x.2.2.2.2.2.2⟩) (fun _ => rfl) (fun _ h => h) (Kd.opens_struct (l := [(25, 0), (3, 2), (3, 3), (26, 4), (27, 5), (28, 6), (26, 7)]) Try.underlying30 (by kernel_rfl) (by kernel_rfl) (Kd.opensF_cons (by kernel_rfl) (o25) (Kd.opensF_cons (by kernel_rfl) (Kd.opens_int Try.underlying3) (Kd.opensF_cons (by kernel_rfl) (Kd.opens_int Try.underlying3) (Kd.opensF_cons (by kernel_rfl) (Kd.opens_slice Try.underlying26 (by kernel_rfl) (by kernel_rfl) (Kd.opens_int Try.underlying5)) (Kd.opensF_cons (by kernel_rfl) (Kd.opens_slice Try.underlying27 (by kernel_rfl) (by kernel_rfl) (o57)) (Kd.opensF_cons (by kernel_rfl) (Kd.opens_slice Try.underlying28 (by kernel_rfl) (by kernel_rfl) (o45)) (Kd.opensF_one (by kernel_rfl) (Kd.opens_slice Try.underlying26 (by kernel_rfl) (by kernel_rfl) (Kd.opens_int Try.underlying5))))))))))

/-- THE ONE PURE STATEMENT of catenarylaw18_ChoosePicks: yours. -/
def catenarylaw18_ChoosePicks.Pure : Prop := ∀ (l0 : List (S30)) (a1 : Int), (Kd.gSl 128 g30) l0 → (Kd.gInt .i64) a1 → ∃ k, catenarylaw18_ChoosePicks.f k l0 a1 = some true
theorem catenarylaw18_ChoosePicks.walk (P : catenarylaw18_ChoosePicks.Pure) (A0 : Option Addr) (c0 : Nat) (l0 : List (S30)) (a1 : Int) (w : World) (hr0 : Kd.C k30 w A0 l0.length l0) (hc0 : l0.length ≤ c0) (hg0 : (Kd.gSl 128 g30) l0) (hg1 : (Kd.gInt .i64) a1) :
    Calls Try.prog 3 #[.slice A0 l0.length c0, .int .i64 a1] w fun e w' => e = .returned (.bool true) ∧ Below w.heap.size w w' := by
  obtain ⟨k, h⟩ := P l0 a1 hg0 hg1
  refine (catenarylaw18_ChoosePicks.calls k _ _ l0 a1 true w hr0 hc0 h).mono ?_
  rintro e w' ⟨rfl, hd⟩
  exact ⟨rfl, hd⟩

end Go.Proofs.Ytllnbmmciejmoaa.PChoosePicks
