-- Written by a program of this session's (an extension of the kit's print)
import Derived.Test.YtekfobefehkajaaPBallotNamesx0
import Derived.Test.YtekfobefehkajaaPBallotNamesx1
namespace Go.Proofs.Ytekfobefehkajaa.PBallotNames
open Go.RowKit Go.Proofs.YtekfobefehkajaaW.PrintWords Go.Proofs.YtekfobefehkajaaW.PrintLast Go.Proofs.YtekfobefehkajaaW.PrintMore
attribute [local go_sem] max2_int min2_int max_two min_two max_three min_three max_four min_four   -- for this text's walks alone
set_option linter.unusedVariables false
set_option linter.unusedSimpArgs false

/-! ### catenaryref04_Quorum: function 22 -/
def catenaryref04_Quorum.f (k : Nat) (a0 : Int) : Option (Int) := (catenaryref04_Right.f k a0).bind fun t121 => (if t121 = true then ((catenaryref04_Faults.f k a0).bind fun t122 => (some (wrap64 ((wrap64 (2 * t122)) + 1)))) else (some 0))
theorem catenaryref04_Quorum.mono : ∀ a0 k, LeO (catenaryref04_Quorum.f k a0) (catenaryref04_Quorum.f (k + 1) a0) := by
  intro a0 k
  unfold catenaryref04_Quorum.f
  repeat' first
      | (with_reducible exact catenaryref04_Faults.mono _ _)
      | (with_reducible exact catenaryref04_Right.mono _ _)
      | (with_reducible exact LeO.refl _)
      | (with_reducible exact LeO.none _)
      | (with_reducible refine LeO.ite ?_ ?_)
      | (with_reducible refine LeO.bind ?_ (fun _ => ?_))
      | exact catenaryref04_Faults.mono _ _
      | exact catenaryref04_Right.mono _ _
      | exact LeO.none _
      | refine LeO.ite ?_ ?_
      | refine LeO.bind ?_ (fun _ => ?_)
set_option maxHeartbeats 8000000 in
set_option maxRecDepth 100000 in
theorem catenaryref04_Quorum.calls (k : Nat) (a0 : Int) (r : Int) (w : World) (h : catenaryref04_Quorum.f k a0 = some r) :
    Calls Try.prog 22 #[.int .i64 a0] w fun e w' => e = .returned (.int .i64 r) ∧ Drawn0 w w' := by
  have H : ((catenaryref04_Right.f k a0).bind fun t121 => (if t121 = true then ((catenaryref04_Faults.f k a0).bind fun t122 => (some (wrap64 ((wrap64 (2 * t122)) + 1)))) else (some 0))) = some r := h
  clear h
  replace H := Option.bind_eq_some_iff.mp H
  obtain ⟨t121, A20, H⟩ := H
  replace H : (if t121 = true then ((catenaryref04_Faults.f k a0).bind fun t122 => (some (wrap64 ((wrap64 (2 * t122)) + 1)))) else (some 0)) = some r := H
  have A2 := Aside0.mk A20
  clear A20
  by_cases c3 : t121 = true
  · subst c3
    have H1 : ((catenaryref04_Faults.f k a0).bind fun t122 => (some (wrap64 ((wrap64 (2 * t122)) + 1)))) = some r := by rw [if_pos rfl] at H; exact H
    clear H
    have H := H1
    clear H1
    replace H := Option.bind_eq_some_iff.mp H
    obtain ⟨t122, A40, H⟩ := H
    replace H : (some (wrap64 ((wrap64 (2 * t122)) + 1))) = some r := H
    have A4 := Aside0.mk A40
    clear A40
    obtain rfl := Option.some.inj H
    go_enter Try.func22, Try.ntmps22
    go_wp2_with (first | ((with_reducible refine gate_callee (f := 20) rfl ?_); refine goesL_ (some 4) rfl rfl Try.func20 (by kernel_rfl) rfl #[.int .i64 a0] rfl (by (try simp only [List.map_toArray, List.map_cons, List.map_nil]); first | done | rfl | (simp only [List.length_drop, List.length_take]; rfl)) ?_; (with_reducible refine (catenaryref04_Right.calls k a0 true _ A2.out).mono ?_); rintro e w' ⟨rfl, ⟨nd, rfl⟩⟩; refine ⟨_, rfl, ?_⟩) | ((with_reducible refine gate_callee (f := 21) rfl ?_); refine goesL_ (some 7) rfl rfl Try.func21 (by kernel_rfl) rfl #[.int .i64 a0] rfl (by (try simp only [List.map_toArray, List.map_cons, List.map_nil]); first | done | rfl | (simp only [List.length_drop, List.length_take]; rfl)) ?_; (with_reducible refine (catenaryref04_Faults.calls k a0 t122 _ A4.out).mono ?_); rintro e w' ⟨rfl, ⟨nd, rfl⟩⟩; refine ⟨_, rfl, ?_⟩))
    go_ret
    exact ⟨by first | rfl | (simp; done) | (simp [*]; done), by repeat (first | exact Drawn0.refl _ | apply Drawn0.step)⟩
  · replace c3 := Bool.eq_false_iff.mpr c3
    subst c3
    have H1 : (some 0) = some r := by rw [if_neg (show ¬ (false = true) by decide)] at H; exact H
    clear H
    have H := H1
    clear H1
    obtain rfl := Option.some.inj H
    go_enter Try.func22, Try.ntmps22
    go_wp2_with (first | ((with_reducible refine gate_callee (f := 20) rfl ?_); refine goesL_ (some 4) rfl rfl Try.func20 (by kernel_rfl) rfl #[.int .i64 a0] rfl (by (try simp only [List.map_toArray, List.map_cons, List.map_nil]); first | done | rfl | (simp only [List.length_drop, List.length_take]; rfl)) ?_; (with_reducible refine (catenaryref04_Right.calls k a0 false _ A2.out).mono ?_); rintro e w' ⟨rfl, ⟨nd, rfl⟩⟩; refine ⟨_, rfl, ?_⟩))
    go_ret
    exact ⟨by first | rfl | (simp; done) | (simp [*]; done), by repeat (first | exact Drawn0.refl _ | apply Drawn0.step)⟩

/-! ### ballot_Weak: function 23 -/
def ballot_Weak.f (a0 : Int) : Option (Int) := (ballot_times.f a0 1 1).bind fun t123 => (some t123)
set_option maxHeartbeats 8000000 in
set_option maxRecDepth 100000 in
theorem ballot_Weak.calls (a0 : Int) (r : Int) (w : World) (h : ballot_Weak.f a0 = some r) :
    Calls Try.prog 23 #[.int .i64 a0] w fun e w' => e = .returned (.int .i64 r) ∧ Drawn0 w w' := by
  have H : ((ballot_times.f a0 1 1).bind fun t123 => (some t123)) = some r := h
  clear h
  replace H := Option.bind_eq_some_iff.mp H
  obtain ⟨t123, A20, H⟩ := H
  replace H : (some t123) = some r := H
  have A2 := Aside0.mk A20
  clear A20
  obtain rfl := Option.some.inj H
  go_enter Try.func23, Try.ntmps23
  go_wp2_with (first | ((with_reducible refine gate_callee (f := 38) rfl ?_); refine goesL_ (some 4) rfl rfl Try.func38 (by kernel_rfl) rfl #[.int .i64 a0, .int .i64 1, .int .i64 1] rfl (by (try simp only [List.map_toArray, List.map_cons, List.map_nil]); first | done | rfl | (simp only [List.length_drop, List.length_take]; rfl)) ?_; (with_reducible refine (ballot_times.calls a0 1 1 t123 _ A2.out).mono ?_); rintro e w' ⟨rfl, ⟨nd, rfl⟩⟩; refine ⟨_, rfl, ?_⟩))
  go_ret
  exact ⟨by first | rfl | (simp; done) | (simp [*]; done), by repeat (first | exact Drawn0.refl _ | apply Drawn0.step)⟩

/-! ### catenaryref04_Weak: function 24 -/
def catenaryref04_Weak.f (k : Nat) (a0 : Int) : Option (Int) := (catenaryref04_Right.f k a0).bind fun t124 => (if t124 = true then ((catenaryref04_Faults.f k a0).bind fun t125 => (some (wrap64 (t125 + 1)))) else (some 0))
theorem catenaryref04_Weak.mono : ∀ a0 k, LeO (catenaryref04_Weak.f k a0) (catenaryref04_Weak.f (k + 1) a0) := by
  intro a0 k
  unfold catenaryref04_Weak.f
  repeat' first
      | (with_reducible exact catenaryref04_Faults.mono _ _)
      | (with_reducible exact catenaryref04_Right.mono _ _)
      | (with_reducible exact LeO.refl _)
      | (with_reducible exact LeO.none _)
      | (with_reducible refine LeO.ite ?_ ?_)
      | (with_reducible refine LeO.bind ?_ (fun _ => ?_))
      | exact catenaryref04_Faults.mono _ _
      | exact catenaryref04_Right.mono _ _
      | exact LeO.none _
      | refine LeO.ite ?_ ?_
      | refine LeO.bind ?_ (fun _ => ?_)
set_option maxHeartbeats 8000000 in
set_option maxRecDepth 100000 in
theorem catenaryref04_Weak.calls (k : Nat) (a0 : Int) (r : Int) (w : World) (h : catenaryref04_Weak.f k a0 = some r) :
    Calls Try.prog 24 #[.int .i64 a0] w fun e w' => e = .returned (.int .i64 r) ∧ Drawn0 w w' := by
  have H : ((catenaryref04_Right.f k a0).bind fun t124 => (if t124 = true then ((catenaryref04_Faults.f k a0).bind fun t125 => (some (wrap64 (t125 + 1)))) else (some 0))) = some r := h
  clear h
  replace H := Option.bind_eq_some_iff.mp H
  obtain ⟨t124, A20, H⟩ := H
  replace H : (if t124 = true then ((catenaryref04_Faults.f k a0).bind fun t125 => (some (wrap64 (t125 + 1)))) else (some 0)) = some r := H
  have A2 := Aside0.mk A20
  clear A20
  by_cases c3 : t124 = true
  · subst c3
    have H1 : ((catenaryref04_Faults.f k a0).bind fun t125 => (some (wrap64 (t125 + 1)))) = some r := by rw [if_pos rfl] at H; exact H
    clear H
    have H := H1
    clear H1
    replace H := Option.bind_eq_some_iff.mp H
    obtain ⟨t125, A40, H⟩ := H
    replace H : (some (wrap64 (t125 + 1))) = some r := H
    have A4 := Aside0.mk A40
    clear A40
    obtain rfl := Option.some.inj H
    go_enter Try.func24, Try.ntmps24
    go_wp2_with (first | ((with_reducible refine gate_callee (f := 20) rfl ?_); refine goesL_ (some 4) rfl rfl Try.func20 (by kernel_rfl) rfl #[.int .i64 a0] rfl (by (try simp only [List.map_toArray, List.map_cons, List.map_nil]); first | done | rfl | (simp only [List.length_drop, List.length_take]; rfl)) ?_; (with_reducible refine (catenaryref04_Right.calls k a0 true _ A2.out).mono ?_); rintro e w' ⟨rfl, ⟨nd, rfl⟩⟩; refine ⟨_, rfl, ?_⟩) | ((with_reducible refine gate_callee (f := 21) rfl ?_); refine goesL_ (some 7) rfl rfl Try.func21 (by kernel_rfl) rfl #[.int .i64 a0] rfl (by (try simp only [List.map_toArray, List.map_cons, List.map_nil]); first | done | rfl | (simp only [List.length_drop, List.length_take]; rfl)) ?_; (with_reducible refine (catenaryref04_Faults.calls k a0 t125 _ A4.out).mono ?_); rintro e w' ⟨rfl, ⟨nd, rfl⟩⟩; refine ⟨_, rfl, ?_⟩))
    go_ret
    exact ⟨by first | rfl | (simp; done) | (simp [*]; done), by repeat (first | exact Drawn0.refl _ | apply Drawn0.step)⟩
  · replace c3 := Bool.eq_false_iff.mpr c3
    subst c3
    have H1 : (some 0) = some r := by rw [if_neg (show ¬ (false = true) by decide)] at H; exact H
    clear H
    have H := H1
    clear H1
    obtain rfl := Option.some.inj H
    go_enter Try.func24, Try.ntmps24
    go_wp2_with (first | ((with_reducible refine gate_callee (f := 20) rfl ?_); refine goesL_ (some 4) rfl rfl Try.func20 (by kernel_rfl) rfl #[.int .i64 a0] rfl (by (try simp only [List.map_toArray, List.map_cons, List.map_nil]); first | done | rfl | (simp only [List.length_drop, List.length_take]; rfl)) ?_; (with_reducible refine (catenaryref04_Right.calls k a0 false _ A2.out).mono ?_); rintro e w' ⟨rfl, ⟨nd, rfl⟩⟩; refine ⟨_, rfl, ?_⟩))
    go_ret
    exact ⟨by first | rfl | (simp; done) | (simp [*]; done), by repeat (first | exact Drawn0.refl _ | apply Drawn0.step)⟩

/-! ### catenarylaw04_BallotNames: function 6 -/
def catenarylaw04_BallotNames.l0 : Nat → Int → Option (Bool)
  | 0, _ => none
  | k + 1, x1 => if x1 ≤ 60 then ((ballot_Right.f x1).bind fun t127 => ((catenaryref04_Right.f k x1).bind fun t128 => (if (t127 != t128) = true then (some false) else ((ballot_Faults.f x1).bind fun t129 => ((catenaryref04_Faults.f k x1).bind fun t130 => (if t129 = t130 then ((ballot_Quorum.f x1).bind fun t131 => ((catenaryref04_Quorum.f k x1).bind fun t132 => (if t131 = t132 then ((ballot_Weak.f x1).bind fun t133 => ((catenaryref04_Weak.f k x1).bind fun t134 => (if t133 = t134 then (catenarylaw04_BallotNames.l0 k (wrap64 (x1 + 1))) else (some false)))) else (some false)))) else (some false))))))) else (some true)
def catenarylaw04_BallotNames.f (k : Nat)  : Option (Bool) := (catenarylaw04_ballotAlive.f k).bind fun t126 => (if t126 = true then (catenarylaw04_BallotNames.l0 k (-20)) else (some false))
theorem catenarylaw04_BallotNames.mono_l : ∀ k, (∀ y0, LeO (catenarylaw04_BallotNames.l0 k y0) (catenarylaw04_BallotNames.l0 (k + 1) y0))
  | 0 => fun _ r h => by simp [catenarylaw04_BallotNames.l0] at h
  | k + 1 => by
    have ih0 := catenarylaw04_BallotNames.mono_l k
    · intro y0
      unfold catenarylaw04_BallotNames.l0
      repeat' first
      | (with_reducible exact ih0 _)
      | (with_reducible exact catenarylaw04_ballotAlive.mono _)
      | (with_reducible exact catenaryref04_Faults.mono _ _)
      | (with_reducible exact catenaryref04_Quorum.mono _ _)
      | (with_reducible exact catenaryref04_Right.mono _ _)
      | (with_reducible exact catenaryref04_Weak.mono _ _)
      | (with_reducible exact LeO.refl _)
      | (with_reducible exact LeO.none _)
      | (with_reducible refine LeO.ite ?_ ?_)
      | (with_reducible refine LeO.bind ?_ (fun _ => ?_))
      | exact ih0 _
      | exact catenarylaw04_ballotAlive.mono _
      | exact catenaryref04_Faults.mono _ _
      | exact catenaryref04_Quorum.mono _ _
      | exact catenaryref04_Right.mono _ _
      | exact catenaryref04_Weak.mono _ _
      | exact LeO.none _
      | refine LeO.ite ?_ ?_
      | refine LeO.bind ?_ (fun _ => ?_)
theorem catenarylaw04_BallotNames.mono : ∀ k, LeO (catenarylaw04_BallotNames.f k ) (catenarylaw04_BallotNames.f (k + 1) ) := by
  intro  k
  have ih0 := catenarylaw04_BallotNames.mono_l k
  unfold catenarylaw04_BallotNames.f
  repeat' first
      | (with_reducible exact ih0 _)
      | (with_reducible exact catenarylaw04_ballotAlive.mono _)
      | (with_reducible exact catenaryref04_Faults.mono _ _)
      | (with_reducible exact catenaryref04_Quorum.mono _ _)
      | (with_reducible exact catenaryref04_Right.mono _ _)
      | (with_reducible exact catenaryref04_Weak.mono _ _)
      | (with_reducible exact LeO.refl _)
      | (with_reducible exact LeO.none _)
      | (with_reducible refine LeO.ite ?_ ?_)
      | (with_reducible refine LeO.bind ?_ (fun _ => ?_))
      | exact ih0 _
      | exact catenarylaw04_ballotAlive.mono _
      | exact catenaryref04_Faults.mono _ _
      | exact catenaryref04_Quorum.mono _ _
      | exact catenaryref04_Right.mono _ _
      | exact catenaryref04_Weak.mono _ _
      | exact LeO.none _
      | refine LeO.ite ?_ ?_
      | refine LeO.bind ?_ (fun _ => ?_)
set_option maxHeartbeats 8000000 in
set_option maxRecDepth 100000 in
theorem catenarylaw04_BallotNames.calls (k : Nat)  (r : Bool) (w : World) (h : catenarylaw04_BallotNames.f k  = some r) :
    Calls Try.prog 6 #[] w fun e w' => e = .returned (.bool r) ∧ Below w.heap.size w w' := by
  have HB := Aside0.mk (Below.refl w.heap.size w)
  have H : ((catenarylaw04_ballotAlive.f k).bind fun t126 => (if t126 = true then (catenarylaw04_BallotNames.l0 k (-20)) else (some false))) = some r := h
  clear h
  replace H := Option.bind_eq_some_iff.mp H
  obtain ⟨t126, A10, H⟩ := H
  replace H : (if t126 = true then (catenarylaw04_BallotNames.l0 k (-20)) else (some false)) = some r := H
  have A1 := Aside0.mk A10
  clear A10
  by_cases c2 : t126 = true
  · subst c2
    have H1 : (catenarylaw04_BallotNames.l0 k (-20)) = some r := by rw [if_pos rfl] at H; exact H
    clear H
    have H := H1
    clear H1
    have H' := Aside0.mk H
    clear H
    go_enter Try.func6, Try.ntmps6
    go_wp2_with (first | ((with_reducible refine gate_callee (f := 11) rfl ?_); refine goesL_ (some 2) rfl rfl Try.func11 (by kernel_rfl) rfl #[] rfl (by (try simp only [List.map_toArray, List.map_cons, List.map_nil]); first | done | rfl | (simp only [List.length_drop, List.length_take]; rfl)) ?_; (with_reducible refine (catenarylaw04_ballotAlive.calls k  true _ A1.out).mono ?_); rintro e w3 ⟨rfl, hb⟩; refine ⟨_, rfl, ?_⟩; have n0_ := Aside0.mk (below_step (by repeat (first | (with_reducible first | exact HB.out | apply below_alloc | apply pw_below_drewN | apply below_drew1) | exact HB.out)) hb); clear HB; have HB := n0_; clear n0_; (try clear hb); (try clear hb2); (try clear hk); (try clear hi)))
    go_loopg [1] k (fun kq v1 w' => ∃ (x1_1 : Int), v1 = .int .i64 x1_1 ∧ Aside0 (catenarylaw04_BallotNames.l0 kq x1_1 = some r) ∧ Aside0 (kq ≤ k) ∧ Aside0 (Below w.heap.size w w'))
    case atStart => exact ⟨((-20)), (by first | rfl | (simp; done) | (simp [*]; done)), H', ⟨Nat.le_refl _⟩, ⟨by repeat (first | (with_reducible first | exact HB.out | apply below_alloc | apply pw_below_drewN | apply below_drew1) | exact HB.out)⟩⟩
    case round =>
      clear H'
      try clear c1
      try clear c2
      try clear p2
      obtain ⟨x1_1, rfl, HA, HK1, HB⟩ := hrel
      cases gk with
      | zero => exact absurd HA.out (by simp [catenarylaw04_BallotNames.l0])
      | succ k1 =>
        have H := HA.out
        clear HA
        simp only [catenarylaw04_BallotNames.l0] at H
        by_cases c4 : x1_1 ≤ 60
        · rw [if_pos c4] at H
          have c4b0 : decide (x1_1 ≤ 60) = true := decide_eq_true c4
          clear c4
          replace H := Option.bind_eq_some_iff.mp H
          obtain ⟨t127, A50, H⟩ := H
          replace H : ((catenaryref04_Right.f k1 x1_1).bind fun t128 => (if (t127 != t128) = true then (some false) else ((ballot_Faults.f x1_1).bind fun t129 => ((catenaryref04_Faults.f k1 x1_1).bind fun t130 => (if t129 = t130 then ((ballot_Quorum.f x1_1).bind fun t131 => ((catenaryref04_Quorum.f k1 x1_1).bind fun t132 => (if t131 = t132 then ((ballot_Weak.f x1_1).bind fun t133 => ((catenaryref04_Weak.f k1 x1_1).bind fun t134 => (if t133 = t134 then (catenarylaw04_BallotNames.l0 k1 (wrap64 (x1_1 + 1))) else (some false)))) else (some false)))) else (some false)))))) = some r := H
          have A5 := Aside0.mk A50
          clear A50
          replace H := Option.bind_eq_some_iff.mp H
          obtain ⟨t128, A60, H⟩ := H
          replace H : (if (t127 != t128) = true then (some false) else ((ballot_Faults.f x1_1).bind fun t129 => ((catenaryref04_Faults.f k1 x1_1).bind fun t130 => (if t129 = t130 then ((ballot_Quorum.f x1_1).bind fun t131 => ((catenaryref04_Quorum.f k1 x1_1).bind fun t132 => (if t131 = t132 then ((ballot_Weak.f x1_1).bind fun t133 => ((catenaryref04_Weak.f k1 x1_1).bind fun t134 => (if t133 = t134 then (catenarylaw04_BallotNames.l0 k1 (wrap64 (x1_1 + 1))) else (some false)))) else (some false)))) else (some false))))) = some r := H
          have A6 := Aside0.mk A60
          clear A60
          by_cases c7 : (t127 != t128) = true
          · rw [if_pos c7] at H
            have c7b0 : (t127 != t128) = true := c7
            (try (have c7b1 : decide (t127 = t128) = false := by simpa using c7))
            (try (have c7b2 : (t127 == t128) = false := by simpa using c7))
            (try (have c7b3 : ¬ (t127 = t128) := by simpa using c7))
            clear c7
            obtain rfl := Option.some.inj H
            go_wp2_with (first | ((with_reducible refine gate_callee (f := 19) rfl ?_); refine goesL_ (some 15) rfl rfl Try.func19 (by kernel_rfl) rfl #[.int .i64 x1_1] rfl (by (try simp only [List.map_toArray, List.map_cons, List.map_nil]); first | done | rfl | (simp only [List.length_drop, List.length_take]; rfl)) ?_; (with_reducible refine (ballot_Right.calls x1_1 t127 _ A5.out).mono ?_); rintro e w' ⟨rfl, ⟨nd, rfl⟩⟩; refine ⟨_, rfl, ?_⟩) | ((with_reducible refine gate_callee (f := 20) rfl ?_); refine goesL_ (some 17) rfl rfl Try.func20 (by kernel_rfl) rfl #[.int .i64 x1_1] rfl (by (try simp only [List.map_toArray, List.map_cons, List.map_nil]); first | done | rfl | (simp only [List.length_drop, List.length_take]; rfl)) ?_; (with_reducible refine (catenaryref04_Right.calls k1 x1_1 t128 _ A6.out).mono ?_); rintro e w' ⟨rfl, ⟨nd, rfl⟩⟩; refine ⟨_, rfl, ?_⟩))
            go_ret
            exact ⟨by first | rfl | (simp [errW_none, errW_some] <;> rfl) | (simp [*, errW_none, errW_some] <;> rfl), by repeat (first | (with_reducible first | exact HB.out | apply below_alloc | apply pw_below_drewN | apply below_drew1) | exact HB.out)⟩
          · rw [if_neg c7] at H
            have c7b0 : (t127 != t128) = false := by simpa using c7
            (try (have c7b1 : decide (t127 = t128) = true := by simpa using c7))
            (try (have c7b2 : (t127 == t128) = true := by simpa using c7))
            clear c7
            replace H := Option.bind_eq_some_iff.mp H
            obtain ⟨t129, A80, H⟩ := H
            replace H : ((catenaryref04_Faults.f k1 x1_1).bind fun t130 => (if t129 = t130 then ((ballot_Quorum.f x1_1).bind fun t131 => ((catenaryref04_Quorum.f k1 x1_1).bind fun t132 => (if t131 = t132 then ((ballot_Weak.f x1_1).bind fun t133 => ((catenaryref04_Weak.f k1 x1_1).bind fun t134 => (if t133 = t134 then (catenarylaw04_BallotNames.l0 k1 (wrap64 (x1_1 + 1))) else (some false)))) else (some false)))) else (some false))) = some r := H
            have A8 := Aside0.mk A80
            clear A80
            replace H := Option.bind_eq_some_iff.mp H
            obtain ⟨t130, A90, H⟩ := H
            replace H : (if t129 = t130 then ((ballot_Quorum.f x1_1).bind fun t131 => ((catenaryref04_Quorum.f k1 x1_1).bind fun t132 => (if t131 = t132 then ((ballot_Weak.f x1_1).bind fun t133 => ((catenaryref04_Weak.f k1 x1_1).bind fun t134 => (if t133 = t134 then (catenarylaw04_BallotNames.l0 k1 (wrap64 (x1_1 + 1))) else (some false)))) else (some false)))) else (some false)) = some r := H
            have A9 := Aside0.mk A90
            clear A90
            by_cases c10 : t129 = t130
            · rw [if_pos c10] at H
              have c10b0 : (t129 == t130) = true := beq_iff_eq.mpr c10
              have c10b1 : (t129 != t130) = false := bne_eq_false_iff_eq.mpr c10
              clear c10
              replace H := Option.bind_eq_some_iff.mp H
              obtain ⟨t131, A110, H⟩ := H
              replace H : ((catenaryref04_Quorum.f k1 x1_1).bind fun t132 => (if t131 = t132 then ((ballot_Weak.f x1_1).bind fun t133 => ((catenaryref04_Weak.f k1 x1_1).bind fun t134 => (if t133 = t134 then (catenarylaw04_BallotNames.l0 k1 (wrap64 (x1_1 + 1))) else (some false)))) else (some false))) = some r := H
              have A11 := Aside0.mk A110
              clear A110
              replace H := Option.bind_eq_some_iff.mp H
              obtain ⟨t132, A120, H⟩ := H
              replace H : (if t131 = t132 then ((ballot_Weak.f x1_1).bind fun t133 => ((catenaryref04_Weak.f k1 x1_1).bind fun t134 => (if t133 = t134 then (catenarylaw04_BallotNames.l0 k1 (wrap64 (x1_1 + 1))) else (some false)))) else (some false)) = some r := H
              have A12 := Aside0.mk A120
              clear A120
              by_cases c13 : t131 = t132
              · rw [if_pos c13] at H
                have c13b0 : (t131 == t132) = true := beq_iff_eq.mpr c13
                have c13b1 : (t131 != t132) = false := bne_eq_false_iff_eq.mpr c13
                clear c13
                replace H := Option.bind_eq_some_iff.mp H
                obtain ⟨t133, A140, H⟩ := H
                replace H : ((catenaryref04_Weak.f k1 x1_1).bind fun t134 => (if t133 = t134 then (catenarylaw04_BallotNames.l0 k1 (wrap64 (x1_1 + 1))) else (some false))) = some r := H
                have A14 := Aside0.mk A140
                clear A140
                replace H := Option.bind_eq_some_iff.mp H
                obtain ⟨t134, A150, H⟩ := H
                replace H : (if t133 = t134 then (catenarylaw04_BallotNames.l0 k1 (wrap64 (x1_1 + 1))) else (some false)) = some r := H
                have A15 := Aside0.mk A150
                clear A150
                by_cases c16 : t133 = t134
                · rw [if_pos c16] at H
                  have c16b0 : (t133 == t134) = true := beq_iff_eq.mpr c16
                  have c16b1 : (t133 != t134) = false := bne_eq_false_iff_eq.mpr c16
                  clear c16
                  have H' := Aside0.mk H
                  clear H
                  go_wp2_with (first | ((with_reducible refine gate_callee (f := 19) rfl ?_); refine goesL_ (some 15) rfl rfl Try.func19 (by kernel_rfl) rfl #[.int .i64 x1_1] rfl (by (try simp only [List.map_toArray, List.map_cons, List.map_nil]); first | done | rfl | (simp only [List.length_drop, List.length_take]; rfl)) ?_; (with_reducible refine (ballot_Right.calls x1_1 t127 _ A5.out).mono ?_); rintro e w' ⟨rfl, ⟨nd, rfl⟩⟩; refine ⟨_, rfl, ?_⟩) | ((with_reducible refine gate_callee (f := 20) rfl ?_); refine goesL_ (some 17) rfl rfl Try.func20 (by kernel_rfl) rfl #[.int .i64 x1_1] rfl (by (try simp only [List.map_toArray, List.map_cons, List.map_nil]); first | done | rfl | (simp only [List.length_drop, List.length_take]; rfl)) ?_; (with_reducible refine (catenaryref04_Right.calls k1 x1_1 t128 _ A6.out).mono ?_); rintro e w' ⟨rfl, ⟨nd, rfl⟩⟩; refine ⟨_, rfl, ?_⟩) | (go_at_call 18; (with_reducible refine (ballot_Faults.calls x1_1 t129 _ A8.out).mono ?_); rintro e w' ⟨rfl, ⟨nd, rfl⟩⟩) | (go_at_call 21; (with_reducible refine (catenaryref04_Faults.calls k1 x1_1 t130 _ A9.out).mono ?_); rintro e w' ⟨rfl, ⟨nd, rfl⟩⟩) | (go_at_call 16; (with_reducible refine (ballot_Quorum.calls x1_1 t131 _ A11.out).mono ?_); rintro e w' ⟨rfl, ⟨nd, rfl⟩⟩) | (go_at_call 22; (with_reducible refine (catenaryref04_Quorum.calls k1 x1_1 t132 _ A12.out).mono ?_); rintro e w' ⟨rfl, ⟨nd, rfl⟩⟩) | (go_at_call 23; (with_reducible refine (ballot_Weak.calls x1_1 t133 _ A14.out).mono ?_); rintro e w' ⟨rfl, ⟨nd, rfl⟩⟩) | (go_at_call 24; (with_reducible refine (catenaryref04_Weak.calls k1 x1_1 t134 _ A15.out).mono ?_); rintro e w' ⟨rfl, ⟨nd, rfl⟩⟩))
                  go_roundg k1
                  case measure => have := HK1.out; omega
                  case rel => exact ⟨(wrap64 (x1_1 + 1)), (by first | rfl | (simp; done) | (simp [*]; done)), H', ⟨by have := HK1.out; omega⟩, ⟨by repeat (first | (with_reducible first | exact HB.out | apply below_alloc | apply pw_below_drewN | apply below_drew1) | exact HB.out)⟩⟩
                · rw [if_neg c16] at H
                  have c16b0 : (t133 == t134) = false := beq_eq_false_iff_ne.mpr c16
                  have c16b1 : (t133 != t134) = true := bne_iff_ne.mpr c16
                  obtain rfl := Option.some.inj H
                  go_wp2_with (first | ((with_reducible refine gate_callee (f := 19) rfl ?_); refine goesL_ (some 15) rfl rfl Try.func19 (by kernel_rfl) rfl #[.int .i64 x1_1] rfl (by (try simp only [List.map_toArray, List.map_cons, List.map_nil]); first | done | rfl | (simp only [List.length_drop, List.length_take]; rfl)) ?_; (with_reducible refine (ballot_Right.calls x1_1 t127 _ A5.out).mono ?_); rintro e w' ⟨rfl, ⟨nd, rfl⟩⟩; refine ⟨_, rfl, ?_⟩) | ((with_reducible refine gate_callee (f := 20) rfl ?_); refine goesL_ (some 17) rfl rfl Try.func20 (by kernel_rfl) rfl #[.int .i64 x1_1] rfl (by (try simp only [List.map_toArray, List.map_cons, List.map_nil]); first | done | rfl | (simp only [List.length_drop, List.length_take]; rfl)) ?_; (with_reducible refine (catenaryref04_Right.calls k1 x1_1 t128 _ A6.out).mono ?_); rintro e w' ⟨rfl, ⟨nd, rfl⟩⟩; refine ⟨_, rfl, ?_⟩) | (go_at_call 18; (with_reducible refine (ballot_Faults.calls x1_1 t129 _ A8.out).mono ?_); rintro e w' ⟨rfl, ⟨nd, rfl⟩⟩) | (go_at_call 21; (with_reducible refine (catenaryref04_Faults.calls k1 x1_1 t130 _ A9.out).mono ?_); rintro e w' ⟨rfl, ⟨nd, rfl⟩⟩) | (go_at_call 16; (with_reducible refine (ballot_Quorum.calls x1_1 t131 _ A11.out).mono ?_); rintro e w' ⟨rfl, ⟨nd, rfl⟩⟩) | (go_at_call 22; (with_reducible refine (catenaryref04_Quorum.calls k1 x1_1 t132 _ A12.out).mono ?_); rintro e w' ⟨rfl, ⟨nd, rfl⟩⟩) | (go_at_call 23; (with_reducible refine (ballot_Weak.calls x1_1 t133 _ A14.out).mono ?_); rintro e w' ⟨rfl, ⟨nd, rfl⟩⟩) | (go_at_call 24; (with_reducible refine (catenaryref04_Weak.calls k1 x1_1 t134 _ A15.out).mono ?_); rintro e w' ⟨rfl, ⟨nd, rfl⟩⟩))
                  go_ret
                  exact ⟨by first | rfl | (simp [errW_none, errW_some] <;> rfl) | (simp [*, errW_none, errW_some] <;> rfl), by repeat (first | (with_reducible first | exact HB.out | apply below_alloc | apply pw_below_drewN | apply below_drew1) | exact HB.out)⟩
              · rw [if_neg c13] at H
                have c13b0 : (t131 == t132) = false := beq_eq_false_iff_ne.mpr c13
                have c13b1 : (t131 != t132) = true := bne_iff_ne.mpr c13
                obtain rfl := Option.some.inj H
                go_wp2_with (first | ((with_reducible refine gate_callee (f := 19) rfl ?_); refine goesL_ (some 15) rfl rfl Try.func19 (by kernel_rfl) rfl #[.int .i64 x1_1] rfl (by (try simp only [List.map_toArray, List.map_cons, List.map_nil]); first | done | rfl | (simp only [List.length_drop, List.length_take]; rfl)) ?_; (with_reducible refine (ballot_Right.calls x1_1 t127 _ A5.out).mono ?_); rintro e w' ⟨rfl, ⟨nd, rfl⟩⟩; refine ⟨_, rfl, ?_⟩) | ((with_reducible refine gate_callee (f := 20) rfl ?_); refine goesL_ (some 17) rfl rfl Try.func20 (by kernel_rfl) rfl #[.int .i64 x1_1] rfl (by (try simp only [List.map_toArray, List.map_cons, List.map_nil]); first | done | rfl | (simp only [List.length_drop, List.length_take]; rfl)) ?_; (with_reducible refine (catenaryref04_Right.calls k1 x1_1 t128 _ A6.out).mono ?_); rintro e w' ⟨rfl, ⟨nd, rfl⟩⟩; refine ⟨_, rfl, ?_⟩) | (go_at_call 18; (with_reducible refine (ballot_Faults.calls x1_1 t129 _ A8.out).mono ?_); rintro e w' ⟨rfl, ⟨nd, rfl⟩⟩) | (go_at_call 21; (with_reducible refine (catenaryref04_Faults.calls k1 x1_1 t130 _ A9.out).mono ?_); rintro e w' ⟨rfl, ⟨nd, rfl⟩⟩) | (go_at_call 16; (with_reducible refine (ballot_Quorum.calls x1_1 t131 _ A11.out).mono ?_); rintro e w' ⟨rfl, ⟨nd, rfl⟩⟩) | (go_at_call 22; (with_reducible refine (catenaryref04_Quorum.calls k1 x1_1 t132 _ A12.out).mono ?_); rintro e w' ⟨rfl, ⟨nd, rfl⟩⟩))
                go_ret
                exact ⟨by first | rfl | (simp [errW_none, errW_some] <;> rfl) | (simp [*, errW_none, errW_some] <;> rfl), by repeat (first | (with_reducible first | exact HB.out | apply below_alloc | apply pw_below_drewN | apply below_drew1) | exact HB.out)⟩
            · rw [if_neg c10] at H
              have c10b0 : (t129 == t130) = false := beq_eq_false_iff_ne.mpr c10
              have c10b1 : (t129 != t130) = true := bne_iff_ne.mpr c10
              obtain rfl := Option.some.inj H
              go_wp2_with (first | ((with_reducible refine gate_callee (f := 19) rfl ?_); refine goesL_ (some 15) rfl rfl Try.func19 (by kernel_rfl) rfl #[.int .i64 x1_1] rfl (by (try simp only [List.map_toArray, List.map_cons, List.map_nil]); first | done | rfl | (simp only [List.length_drop, List.length_take]; rfl)) ?_; (with_reducible refine (ballot_Right.calls x1_1 t127 _ A5.out).mono ?_); rintro e w' ⟨rfl, ⟨nd, rfl⟩⟩; refine ⟨_, rfl, ?_⟩) | ((with_reducible refine gate_callee (f := 20) rfl ?_); refine goesL_ (some 17) rfl rfl Try.func20 (by kernel_rfl) rfl #[.int .i64 x1_1] rfl (by (try simp only [List.map_toArray, List.map_cons, List.map_nil]); first | done | rfl | (simp only [List.length_drop, List.length_take]; rfl)) ?_; (with_reducible refine (catenaryref04_Right.calls k1 x1_1 t128 _ A6.out).mono ?_); rintro e w' ⟨rfl, ⟨nd, rfl⟩⟩; refine ⟨_, rfl, ?_⟩) | (go_at_call 18; (with_reducible refine (ballot_Faults.calls x1_1 t129 _ A8.out).mono ?_); rintro e w' ⟨rfl, ⟨nd, rfl⟩⟩) | (go_at_call 21; (with_reducible refine (catenaryref04_Faults.calls k1 x1_1 t130 _ A9.out).mono ?_); rintro e w' ⟨rfl, ⟨nd, rfl⟩⟩))
              go_ret
              exact ⟨by first | rfl | (simp [errW_none, errW_some] <;> rfl) | (simp [*, errW_none, errW_some] <;> rfl), by repeat (first | (with_reducible first | exact HB.out | apply below_alloc | apply pw_below_drewN | apply below_drew1) | exact HB.out)⟩
        · rw [if_neg c4] at H
          have c4b0 : decide (x1_1 ≤ 60) = false := decide_eq_false c4
          clear c4
          obtain rfl := Option.some.inj H
          go_wp2
          go_ret
          exact ⟨by first | rfl | (simp [errW_none, errW_some] <;> rfl) | (simp [*, errW_none, errW_some] <;> rfl), by repeat (first | (with_reducible first | exact HB.out | apply below_alloc | apply pw_below_drewN | apply below_drew1) | exact HB.out)⟩
  · replace c2 := Bool.eq_false_iff.mpr c2
    subst c2
    have H1 : (some false) = some r := by rw [if_neg (show ¬ (false = true) by decide)] at H; exact H
    clear H
    have H := H1
    clear H1
    obtain rfl := Option.some.inj H
    go_enter Try.func6, Try.ntmps6
    go_wp2_with (first | ((with_reducible refine gate_callee (f := 11) rfl ?_); refine goesL_ (some 2) rfl rfl Try.func11 (by kernel_rfl) rfl #[] rfl (by (try simp only [List.map_toArray, List.map_cons, List.map_nil]); first | done | rfl | (simp only [List.length_drop, List.length_take]; rfl)) ?_; (with_reducible refine (catenarylaw04_ballotAlive.calls k  false _ A1.out).mono ?_); rintro e w17 ⟨rfl, hb⟩; refine ⟨_, rfl, ?_⟩; have n0_ := Aside0.mk (below_step (by repeat (first | (with_reducible first | exact HB.out | apply below_alloc | apply pw_below_drewN | apply below_drew1) | exact HB.out)) hb); clear HB; have HB := n0_; clear n0_; (try clear hb); (try clear hb2); (try clear hk); (try clear hi)))
    go_ret
    exact ⟨by first | rfl | (simp [errW_none, errW_some] <;> rfl) | (simp [*, errW_none, errW_some] <;> rfl), by repeat (first | (with_reducible first | exact HB.out | apply below_alloc | apply pw_below_drewN | apply below_drew1) | exact HB.out)⟩

/-- THE ONE PURE STATEMENT of catenarylaw04_BallotNames: yours. -/
def catenarylaw04_BallotNames.Pure : Prop := ∃ k, catenarylaw04_BallotNames.f k  = some true
theorem catenarylaw04_BallotNames.walk (P : catenarylaw04_BallotNames.Pure)  (w : World)  :
    Calls Try.prog 6 #[] w fun e w' => e = .returned (.bool true) ∧ Below w.heap.size w w' := by
  obtain ⟨k, h⟩ := P  
  refine (catenarylaw04_BallotNames.calls k  true w h).mono ?_
  rintro e w' ⟨rfl, hd⟩
  exact ⟨rfl, hd⟩

end Go.Proofs.Ytekfobefehkajaa.PBallotNames
