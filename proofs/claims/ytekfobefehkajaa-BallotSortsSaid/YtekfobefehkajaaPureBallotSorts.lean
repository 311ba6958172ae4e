import Derived.Test.YtekfobefehkajaaPBallotSortsx4
namespace Go.Proofs.Ytekfobefehkajaa.Pure
open Go.RowKit Go.Proofs.Ytekfobefehkajaa.PBallotSorts Go.Proofs.YtekfobefehkajaaW.PrintWords Go.Proofs.YtekfobefehkajaaW.PrintLast Go.Proofs.YtekfobefehkajaaW.PrintMore

theorem sorted7 : (([0, 1, 2, 3, 4, 5, 6] : List Int).mergeSort (fun x y => decide (x ≤ y))) = (List.range 7).map Int.ofNat := by
  rw [List.mergeSort_of_pairwise (by decide)]
  rfl
theorem order7 : ballot_Order.f [0, 1, 2, 3, 4, 5, 6] 7 = some true := by
  unfold ballot_Order.f
  rw [show ballot_Right.f 7 = some true from rfl]
  simp only [Option.bind_some, if_true]
  rw [if_pos (by rfl), show ([0, 1, 2, 3, 4, 5, 6] : List Int).length = 7 from rfl, sorted7]
  simp
theorem shift7 (k : Nat) : ballot_Shift.f (k + 20) [0, 1, 2, 3, 4, 5, 6] 2 3 = some ([0, 1, 4, 5, 2, 6, 3], 0) := by
  unfold ballot_Shift.f
  rw [show ballot_Place.f (k + 20) [0, 1, 2, 3, 4, 5, 6] 2 = some 2 from by kernel_rfl]
  rw [show ((([0, 1, 2, 3, 4, 5, 6] : List Int).length : Nat) : Int) = 7 from rfl, show ballot_Quorum.f 7 = some 5 from by kernel_rfl, order7]
  kernel_rfl
theorem alive (k : Nat) : catenarylaw04_ballotAlive.f (k + 20) = some true := by
  unfold catenarylaw04_ballotAlive.f
  rw [shift7]
  kernel_rfl
def cv (a b : Int) : Int := if a < b then -1 else if a > b then 1 else 0
def cv2 (a0 a1 b0 b1 : Int) : Int := if cv a0 b0 = 0 then cv a1 b1 else cv a0 b0
theorem cmp_is (a b : Int) : cmp_Compare_int.f a b = some (cv a b) := by
  unfold cmp_Compare_int.f cmp_isNaN_int.f cv
  simp only [Option.bind_some, bne_self_eq_false, Bool.false_eq_true, if_false]
  split
  · rfl
  · split <;> rfl
theorem or_is (k : Nat) (x y : Int) : cmp_Or_int.f (k + 3) [x, y] = some (if x = 0 then y else x) := by
  have e1 : wrap64 (0 + 1) = 1 := by kernel_rfl
  have e2 : wrap64 (1 + 1) = 2 := by kernel_rfl
  have r0 : rd [x, y] 0 = x := rfl
  have r1 : rd [x, y] 1 = y := rfl
  have l2 : (([x, y] : List Int).length : Int) = 2 := rfl
  unfold cmp_Or_int.f
  simp only [cmp_Or_int.l0, l2, r0, e1, r1, e2]
  by_cases hx : x = 0
  · by_cases hy : y = 0
    · simp [hx, hy]
    · simp [hx, hy]
  · simp [hx]
theorem compare_is (k : Nat) (a0 a1 b0 b1 : Int) : ballot_Compare.f (k + 3) a0 a1 b0 b1 = some (cv2 a0 a1 b0 b1) := by
  unfold ballot_Compare.f
  rw [cmp_is, cmp_is]
  simp only [Option.bind_some]
  rw [or_is]
  rfl
theorem cv_neg (a b : Int) : cv b a = -cv a b := by
  unfold cv
  split <;> split <;> (try split) <;> (try split) <;> omega
theorem cv_rng (a b : Int) : -1 ≤ cv a b ∧ cv a b ≤ 1 ∧ (cv a b = 0 ↔ a = b) ∧ (cv a b < 0 ↔ a < b) ∧ (cv a b > 0 ↔ a > b) := by
  unfold cv
  split
  · refine ⟨?_, ?_, ⟨?_, ?_⟩, ⟨?_, ?_⟩, ⟨?_, ?_⟩⟩ <;> omega
  · split
    · refine ⟨?_, ?_, ⟨?_, ?_⟩, ⟨?_, ?_⟩, ⟨?_, ?_⟩⟩ <;> omega
    · refine ⟨?_, ?_, ⟨?_, ?_⟩, ⟨?_, ?_⟩, ⟨?_, ?_⟩⟩ <;> omega
theorem cv2_neg (a0 a1 b0 b1 : Int) : cv2 b0 b1 a0 a1 = -cv2 a0 a1 b0 b1 := by
  unfold cv2
  rw [cv_neg a0 b0, cv_neg a1 b1]
  by_cases h : cv a0 b0 = 0
  · rw [if_pos h, if_pos (by omega)]
  · rw [if_neg h, if_neg (by omega)]
theorem cv2_rng (a0 a1 b0 b1 : Int) : -1 ≤ cv2 a0 a1 b0 b1 ∧ cv2 a0 a1 b0 b1 ≤ 1 ∧ (cv2 a0 a1 b0 b1 = 0 ↔ a0 = b0 ∧ a1 = b1) ∧ (cv2 a0 a1 b0 b1 > 0 ↔ a0 > b0 ∨ (a0 = b0 ∧ a1 > b1)) := by
  unfold cv2
  obtain ⟨p1, p2, p3, p4, p5⟩ := cv_rng a0 b0
  obtain ⟨q1, q2, q3, q4, q5⟩ := cv_rng a1 b1
  by_cases h : cv a0 b0 = 0
  · rw [if_pos h]
    have := p3.1 h
    refine ⟨q1, q2, ⟨fun e => ⟨this, q3.1 e⟩, fun e => q3.2 e.2⟩, ⟨fun e => .inr ⟨this, q5.1 e⟩, fun e => ?_⟩⟩
    rcases e with e | e
    · omega
    · exact q5.2 e.2
  · rw [if_neg h]
    refine ⟨p1, p2, ⟨fun e => absurd e h, fun e => absurd (p3.2 e.1) h⟩, ⟨fun e => .inl (p5.1 e), fun e => ?_⟩⟩
    rcases e with e | e
    · exact p5.2 e
    · exact absurd (p3.2 e.1) h
theorem BallotSorts : catenarylaw04_BallotSorts.Pure := by
  intro a0 a1 b0 b1 c0 c1 _ _ _ _ _ _
  refine ⟨51, ?_⟩
  have hw : wrap64 (-cv2 a0 a1 b0 b1) = -cv2 a0 a1 b0 b1 := by have := cv2_rng a0 a1 b0 b1; unfold wrap64; omega
  unfold catenarylaw04_BallotSorts.f
  rw [alive 31]
  simp only [Option.bind_some, if_true, compare_is]
  have hs : cv2 a0 a1 a0 a1 = 0 := (cv2_rng a0 a1 a0 a1).2.2.1.2 ⟨rfl, rfl⟩
  obtain ⟨p1, p2, p3, p4⟩ := cv2_rng a0 a1 b0 b1
  obtain ⟨q1, q2, q3, q4⟩ := cv2_rng b0 b1 c0 c1
  obtain ⟨s1, s2, s3, s4⟩ := cv2_rng a0 a1 c0 c1
  have he : ((cv2 a0 a1 b0 b1 == 0) != (a0 == b0 && (a1 == b1))) = false := by
    rw [bne_eq_false_iff_eq]
    by_cases h : cv2 a0 a1 b0 b1 = 0
    · obtain ⟨e1, e2⟩ := p3.1 h
      rw [e1, e2] at h ⊢
      simp [h]
    · have : ¬ (a0 = b0 ∧ a1 = b1) := fun e => h (p3.2 e)
      rw [beq_eq_false_iff_ne.2 h]
      by_cases e1 : a0 = b0
      · have e2 : a1 ≠ b1 := fun e => this ⟨e1, e⟩
        simp [e2]
      · simp [e1]
  rw [hs, he, cv2_neg a0 a1 b0 b1, hw]
  simp only [if_true, Bool.false_eq_true, if_false]
  rw [if_neg (by omega), if_neg (by omega)]
  generalize cv2 a0 a1 b0 b1 = x at *
  generalize cv2 b0 b1 c0 c1 = y at *
  generalize cv2 a0 a1 c0 c1 = z at *
  by_cases hx : x > 0
  · rw [if_pos hx]
  rw [if_neg hx]
  by_cases hy : y > 0
  · rw [if_pos hy]
  rw [if_neg hy]
  have hz : ¬ z > 0 := fun h => by
    have n1 : ¬ (a0 > b0 ∨ (a0 = b0 ∧ a1 > b1)) := fun e => hx (p4.2 e)
    have n2 : ¬ (b0 > c0 ∨ (b0 = c0 ∧ b1 > c1)) := fun e => hy (q4.2 e)
    have := s4.1 h
    omega
  rw [if_pos (by omega)]
  by_cases h0 : x = 0
  · rw [if_pos h0]
    obtain ⟨rfl, rfl⟩ := p3.1 h0
    have : (z = 0) ↔ (y = 0) := s3.trans q3.symm
    by_cases hz0 : z = 0
    · rw [hz0, this.1 hz0]
      rfl
    · have hy0 : ¬ y = 0 := fun e => hz0 (this.2 e)
      rw [beq_eq_false_iff_ne.2 hz0, beq_eq_false_iff_ne.2 hy0]
      rfl
  · rw [if_neg h0]
    have : z ≠ 0 := fun h => by
      have e := s3.1 h
      have n1 : ¬ (a0 > b0 ∨ (a0 = b0 ∧ a1 > b1)) := fun e => hx (p4.2 e)
      have n2 : ¬ (b0 > c0 ∨ (b0 = c0 ∧ b1 > c1)) := fun e => hy (q4.2 e)
      have n3 : ¬ (a0 = b0 ∧ a1 = b1) := fun e => h0 (p3.2 e)
      omega
    rw [beq_eq_false_iff_ne.2 this]
    rfl

end Go.Proofs.Ytekfobefehkajaa.Pure
