import Derived.Test.YtekfobefehkajaaPBallotNumbersx3
namespace Go.Proofs.Ytekfobefehkajaa.Pure
open Go.RowKit Go.Proofs.Ytekfobefehkajaa.PBallotNumbers Go.Proofs.YtekfobefehkajaaW.PrintWords Go.Proofs.YtekfobefehkajaaW.PrintLast Go.Proofs.YtekfobefehkajaaW.PrintMore

theorem sorted7 : (([0, 1, 2, 3, 4, 5, 6] : List Int).mergeSort (fun x y => decide (x ≤ y))) = (List.range 7).map Int.ofNat := by
  rw [List.mergeSort_of_pairwise (by decide)]
  rfl
theorem order7 : ballot_Order.f [0, 1, 2, 3, 4, 5, 6] 7 = some true := by
  unfold ballot_Order.f
  rw [show ballot_Right.f 7 = some true from rfl]
  simp only [Option.bind_some, if_true]
  rw [if_pos (by rfl), show ([0, 1, 2, 3, 4, 5, 6] : List Int).length = 7 from rfl, sorted7]
  simp
theorem shift7 (k : Nat) : ballot_Shift.f (k + 20) [0, 1, 2, 3, 4, 5, 6] 2 3 = some ([0, 1, 4, 5, 2, 6, 3], 0) := by
  unfold ballot_Shift.f
  rw [show ballot_Place.f (k + 20) [0, 1, 2, 3, 4, 5, 6] 2 = some 2 from by kernel_rfl]
  rw [show ((([0, 1, 2, 3, 4, 5, 6] : List Int).length : Nat) : Int) = 7 from rfl, show ballot_Quorum.f 7 = some 5 from by kernel_rfl, order7]
  kernel_rfl
theorem alive (k : Nat) : catenarylaw04_ballotAlive.f (k + 20) = some true := by
  unfold catenarylaw04_ballotAlive.f
  rw [shift7]
  kernel_rfl
def cv (a b : Int) : Int := if a < b then -1 else if a > b then 1 else 0
def cv2 (a0 a1 b0 b1 : Int) : Int := if cv a0 b0 = 0 then cv a1 b1 else cv a0 b0
theorem cmp_is (a b : Int) : cmp_Compare_int.f a b = some (cv a b) := by
  unfold cmp_Compare_int.f cmp_isNaN_int.f cv
  simp only [Option.bind_some, bne_self_eq_false, Bool.false_eq_true, if_false]
  split
  · rfl
  · split <;> rfl
theorem or_is (k : Nat) (x y : Int) : cmp_Or_int.f (k + 3) [x, y] = some (if x = 0 then y else x) := by
  have e1 : wrap64 (0 + 1) = 1 := by kernel_rfl
  have e2 : wrap64 (1 + 1) = 2 := by kernel_rfl
  have r0 : rd [x, y] 0 = x := rfl
  have r1 : rd [x, y] 1 = y := rfl
  have l2 : (([x, y] : List Int).length : Int) = 2 := rfl
  unfold cmp_Or_int.f
  simp only [cmp_Or_int.l0, l2, r0, e1, r1, e2]
  by_cases hx : x = 0
  · by_cases hy : y = 0
    · simp [hx, hy]
    · simp [hx, hy]
  · simp [hx]
theorem compare_is (k : Nat) (a0 a1 b0 b1 : Int) : ballot_Compare.f (k + 3) a0 a1 b0 b1 = some (cv2 a0 a1 b0 b1) := by
  unfold ballot_Compare.f
  rw [cmp_is, cmp_is]
  simp only [Option.bind_some]
  rw [or_is]
  rfl
theorem cv_neg (a b : Int) : cv b a = -cv a b := by
  unfold cv
  split <;> split <;> (try split) <;> (try split) <;> omega
theorem cv_rng (a b : Int) : -1 ≤ cv a b ∧ cv a b ≤ 1 ∧ (cv a b = 0 ↔ a = b) ∧ (cv a b < 0 ↔ a < b) ∧ (cv a b > 0 ↔ a > b) := by
  unfold cv
  split
  · refine ⟨?_, ?_, ⟨?_, ?_⟩, ⟨?_, ?_⟩, ⟨?_, ?_⟩⟩ <;> omega
  · split
    · refine ⟨?_, ?_, ⟨?_, ?_⟩, ⟨?_, ?_⟩, ⟨?_, ?_⟩⟩ <;> omega
    · refine ⟨?_, ?_, ⟨?_, ?_⟩, ⟨?_, ?_⟩, ⟨?_, ?_⟩⟩ <;> omega
theorem cv2_neg (a0 a1 b0 b1 : Int) : cv2 b0 b1 a0 a1 = -cv2 a0 a1 b0 b1 := by
  unfold cv2
  rw [cv_neg a0 b0, cv_neg a1 b1]
  by_cases h : cv a0 b0 = 0
  · rw [if_pos h, if_pos (by omega)]
  · rw [if_neg h, if_neg (by omega)]
theorem cv2_rng (a0 a1 b0 b1 : Int) : -1 ≤ cv2 a0 a1 b0 b1 ∧ cv2 a0 a1 b0 b1 ≤ 1 ∧ (cv2 a0 a1 b0 b1 = 0 ↔ a0 = b0 ∧ a1 = b1) ∧ (cv2 a0 a1 b0 b1 > 0 ↔ a0 > b0 ∨ (a0 = b0 ∧ a1 > b1)) := by
  unfold cv2
  obtain ⟨p1, p2, p3, p4, p5⟩ := cv_rng a0 b0
  obtain ⟨q1, q2, q3, q4, q5⟩ := cv_rng a1 b1
  by_cases h : cv a0 b0 = 0
  · rw [if_pos h]
    have := p3.1 h
    refine ⟨q1, q2, ⟨fun e => ⟨this, q3.1 e⟩, fun e => q3.2 e.2⟩, ⟨fun e => .inr ⟨this, q5.1 e⟩, fun e => ?_⟩⟩
    rcases e with e | e
    · omega
    · exact q5.2 e.2
  · rw [if_neg h]
    refine ⟨p1, p2, ⟨fun e => absurd e h, fun e => absurd (p3.2 e.1) h⟩, ⟨fun e => .inl (p5.1 e), fun e => ?_⟩⟩
    rcases e with e | e
    · exact p5.2 e
    · exact absurd (p3.2 e.1) h
theorem right_no (n : Int) (h4 : n ≠ 4) (h7 : n ≠ 7) (h10 : n ≠ 10) (h13 : n ≠ 13) (h16 : n ≠ 16) : ballot_Right.f n = some false := by
  unfold ballot_Right.f
  split
  · split
    · have : Int.tmod n 3 = n % 3 := Int.tmod_eq_emod_of_nonneg (by omega)
      rw [this, show (n % 3 == 1) = false from beq_eq_false_iff_ne.2 (by omega)]
    · rfl
  · rfl
theorem faults_no (k : Nat) (n : Int) (h4 : n ≠ 4) (h7 : n ≠ 7) (h10 : n ≠ 10) (h13 : n ≠ 13) (h16 : n ≠ 16) : catenaryref04_Faults.f (k + 20) n = some 0 := by
  unfold catenaryref04_Faults.f
  simp [catenaryref04_Faults.l0, wrap64, h4, h7, h10, h13, h16]
theorem nums (k : Nat) (n : Int) : ∃ (r : Bool) (f q w : Int), ballot_Right.f n = some r ∧ catenaryref04_Right.f (k + 20) n = some r ∧ ballot_Faults.f n = some f ∧ catenaryref04_Faults.f (k + 20) n = some f ∧ ballot_Quorum.f n = some q ∧ catenaryref04_Quorum.f (k + 20) n = some q ∧ ballot_Weak.f n = some w ∧ catenaryref04_Weak.f (k + 20) n = some w ∧ (r = true → n ≠ 0) := by
  by_cases h4 : n = 4
  · subst h4; exact ⟨true, 1, 2 * 1 + 1, 1 + 1, by kernel_rfl, by kernel_rfl, by kernel_rfl, by kernel_rfl, by kernel_rfl, by kernel_rfl, by kernel_rfl, by kernel_rfl, fun _ => by decide⟩
  by_cases h7 : n = 7
  · subst h7; exact ⟨true, 2, 2 * 2 + 1, 2 + 1, by kernel_rfl, by kernel_rfl, by kernel_rfl, by kernel_rfl, by kernel_rfl, by kernel_rfl, by kernel_rfl, by kernel_rfl, fun _ => by decide⟩
  by_cases h10 : n = 10
  · subst h10; exact ⟨true, 3, 2 * 3 + 1, 3 + 1, by kernel_rfl, by kernel_rfl, by kernel_rfl, by kernel_rfl, by kernel_rfl, by kernel_rfl, by kernel_rfl, by kernel_rfl, fun _ => by decide⟩
  by_cases h13 : n = 13
  · subst h13; exact ⟨true, 4, 2 * 4 + 1, 4 + 1, by kernel_rfl, by kernel_rfl, by kernel_rfl, by kernel_rfl, by kernel_rfl, by kernel_rfl, by kernel_rfl, by kernel_rfl, fun _ => by decide⟩
  by_cases h16 : n = 16
  · subst h16; exact ⟨true, 5, 2 * 5 + 1, 5 + 1, by kernel_rfl, by kernel_rfl, by kernel_rfl, by kernel_rfl, by kernel_rfl, by kernel_rfl, by kernel_rfl, by kernel_rfl, fun _ => by decide⟩
  have R := right_no n h4 h7 h10 h13 h16
  have F := faults_no k n h4 h7 h10 h13 h16
  have RR : catenaryref04_Right.f (k + 20) n = some false := by unfold catenaryref04_Right.f; rw [F]; rfl
  refine ⟨false, 0, 0, 0, R, RR, ?_, F, ?_, ?_, ?_, ?_, fun h => by cases h⟩
  · unfold ballot_Faults.f ballot_times.f; rw [R]; rfl
  · unfold ballot_Quorum.f ballot_times.f; rw [R]; rfl
  · unfold catenaryref04_Quorum.f; rw [RR]; rfl
  · unfold ballot_Weak.f ballot_times.f; rw [R]; rfl
  · unfold catenaryref04_Weak.f; rw [RR]; rfl
theorem refcmp_is (a0 a1 b0 b1 : Int) : catenaryref04_Compare.f a0 a1 b0 b1 = some (cv2 a0 a1 b0 b1) := by
  unfold catenaryref04_Compare.f cv2 cv
  by_cases h1 : a0 < b0
  · simp [h1]
  · by_cases h2 : a0 > b0
    · simp [h1, h2]
    · simp only [h1, h2, if_false, if_true]
      split
      · rfl
      · split <;> rfl
theorem BallotNumbers : catenarylaw04_BallotNumbers.Pure := by
  intro n a0 a1 b0 b1 _ _ _ _ _
  refine ⟨51, ?_⟩
  obtain ⟨r, f, q, v, h1, h2, h3, h4, h5, h6, h7, h8, h9⟩ := nums 31 n
  obtain ⟨_, _, _, _, h1', h2', _, _, _, _, _, _, _⟩ := nums 30 n
  rw [h1] at h1'
  cases h1'
  have hw : wrap64 (-cv2 a0 a1 b0 b1) = -cv2 a0 a1 b0 b1 := by have := cv2_rng a0 a1 b0 b1; unfold wrap64; omega
  unfold catenarylaw04_BallotNumbers.f
  rw [alive 31, h1, h2, h3, h4, h5, h6, h7, h8]
  simp only [Option.bind_some, beq_self_eq_true, if_true, catenarylaw04_BallotNumbers.j0, compare_is, refcmp_is]
  rw [cv2_neg a0 a1 b0 b1, hw]
  simp only [if_true]
  unfold ballot_Head.f catenaryref04_Head.f
  rw [h1, h2']
  cases r with
  | false => rfl
  | true =>
    simp only [Option.bind_some, if_true]
    rw [if_neg (h9 rfl)]
    by_cases h : a0 < 0
    · rw [if_pos h]; rfl
    · rw [if_neg h]; simp

end Go.Proofs.Ytekfobefehkajaa.Pure
