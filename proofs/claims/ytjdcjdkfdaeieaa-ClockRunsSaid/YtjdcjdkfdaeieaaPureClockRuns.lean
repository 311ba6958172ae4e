/- The law ClockRuns: whatever is done with a clock (any list of whole numbers as acts), its age and backoff are the document's: no conditions beyond what a list in memory meets. -/
import Derived.Test.YtjdcjdkfdaeieaaPClockRunsx2
namespace Go.Proofs.Ytjdcjdkfdaeieaa.Pure
open Go.RowKit Go.Proofs.Ytjdcjdkfdaeieaa.PClockRuns Go.Proofs.YtjdcjdkfdaeieaaW.PrintWords Go.Proofs.YtjdcjdkfdaeieaaW.PrintLast Go.Proofs.YtjdcjdkfdaeieaaW.PrintMore

theorem tick_is (a b : Int) (h0 : 0 ≤ a) (h1 : a ≤ 2147483647) : ∃ c, clock_Clock_Tick.f a b = some (c, b) ∧ catenaryref14_Tick.f a b = some (c, b) ∧ 0 ≤ c ∧ c ≤ 2147483647 := by
  unfold clock_Clock_Tick.f catenaryref14_Tick.f
  have e : wrap64 (a + 1) = a + 1 := by unfold wrap64; omega
  rw [e]
  by_cases h : a < 2147483647
  · refine ⟨a + 1, ?_, by rw [if_pos h], by omega, by omega⟩
    unfold mn; rw [if_neg (by omega)]
  · refine ⟨a, ?_, by rw [if_neg h], by omega, by omega⟩
    unfold mn; rw [if_pos (by omega)]
    have : a = 2147483647 := by omega
    rw [this]
theorem slow_is (a b : Int) (h0 : 0 ≤ b) (h1 : b ≤ 8) : ∃ c, clock_Clock_Slow.f a b = some (0, c) ∧ catenaryref14_Slow.f a b = some (0, c) ∧ 0 ≤ c ∧ c ≤ 8 := by
  unfold clock_Clock_Slow.f catenaryref14_Slow.f catenaryref14_bound.f
  have e : wrap64 (b + 1) = b + 1 := by unfold wrap64; omega
  rw [e, if_neg (by omega)]
  by_cases h : b + 1 > 8
  · refine ⟨8, ?_, by rw [if_pos h]; rfl, by omega, by omega⟩
    unfold mn; rw [if_pos (by omega)]
  · refine ⟨b + 1, ?_, by rw [if_neg h]; rfl, by omega, by omega⟩
    unfold mn; rw [if_neg (by omega)]
theorem runs (l : List Int) (hl : l.length * 8 ≤ 140737488351232) (d : Nat) : ∀ (k : Nat) (i a b : Int), 0 ≤ i → (l.length : Int) - i = d → 0 ≤ a → a ≤ 2147483647 → 0 ≤ b → b ≤ 8 → 2 * d < k → catenarylaw14_ClockRuns.l0 k l (l.length : Int) i a b a b = some true := by
  induction d with
  | zero =>
    intro k i a b hi0 hd _ _ _ _ hk
    obtain ⟨k, rfl⟩ : ∃ m, k = m + 1 := ⟨k - 1, by omega⟩
    simp only [catenarylaw14_ClockRuns.l0]
    rw [if_neg (by omega)]
  | succ d ih =>
    intro k i a b hi0 hd a0 a1 b0 b1 hk
    obtain ⟨k, rfl⟩ : ∃ m, k = m + 2 := ⟨k - 2, by omega⟩
    have e2 : wrap64 (i + 1) = i + 1 := by unfold wrap64; omega
    have J : ∀ c e, 0 ≤ c → c ≤ 2147483647 → 0 ≤ e → e ≤ 8 → catenarylaw14_ClockRuns.j1 (k + 1) l (l.length : Int) i c e c e = some true := by
      intro c e c0 c1 e0 e1
      simp only [catenarylaw14_ClockRuns.j1, clock_Clock_Age.f, clock_Clock_Backoff.f, Option.bind_some, if_true]
      rw [e2]
      exact ih k (i + 1) c e (by omega) (by omega) c0 c1 e0 e1 (by omega)
    simp only [catenarylaw14_ClockRuns.l0]
    rw [if_pos (by omega), if_pos (by omega), if_pos (by omega)]
    split
    · obtain ⟨c, h1, h2, h3, h4⟩ := tick_is a b a0 a1
      rw [h1, h2]
      simp only [Option.bind_some]
      exact J c b h3 h4 b0 b1
    · split
      · simp only [clock_Clock_Reset.f, Option.bind_some]
        exact J 0 b (by omega) (by omega) b0 b1
      · split
        · obtain ⟨c, h1, h2, h3, h4⟩ := slow_is a b b0 b1
          rw [h1, h2]
          simp only [Option.bind_some]
          exact J 0 c (by omega) (by omega) h3 h4
        · split
          · simp only [clock_Clock_Done.f, Option.bind_some]
            exact J 0 0 (by omega) (by omega) (by omega) (by omega)
          · exact J a b a0 a1 b0 b1
theorem ClockRuns : catenarylaw14_ClockRuns.Pure := by
  intro l _ hl _
  refine ⟨2 * l.length + 1, ?_⟩
  have hal : catenarylaw14_clockAlive.f = some true := by decide +kernel
  unfold catenarylaw14_ClockRuns.f
  rw [hal]
  simp only [Option.bind_some, if_true, clock_New.f]
  exact runs l hl l.length _ 0 0 0 (by omega) (by omega) (by omega) (by omega) (by omega) (by omega) (by omega)

end Go.Proofs.Ytjdcjdkfdaeieaa.Pure
