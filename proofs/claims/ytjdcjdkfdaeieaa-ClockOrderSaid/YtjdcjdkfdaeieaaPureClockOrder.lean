/- The law ClockOrder: in any cluster, with any backoff, the further down a replica stands the sooner it accuses, all accuse before any changes the view, and waiting doubles as long as it grows: no conditions. -/
import Derived.Test.YtjdcjdkfdaeieaaPClockOrderx1
namespace Go.Proofs.Ytjdcjdkfdaeieaa.Pure
open Go.RowKit Go.Proofs.Ytjdcjdkfdaeieaa.PClockOrder Go.Proofs.YtjdcjdkfdaeieaaW.PrintWords Go.Proofs.YtjdcjdkfdaeieaaW.PrintLast Go.Proofs.YtjdcjdkfdaeieaaW.PrintMore

def clampT (n hi : Int) : Int := if n < 0 then 0 else if n > hi then hi else n
theorem clampT_bd (n hi : Int) (h : 0 ≤ hi) : 0 ≤ clampT n hi ∧ clampT n hi ≤ hi := by unfold clampT; split <;> (try split) <;> omega
theorem within_clamp (n hi : Int) (h : 0 ≤ hi) : clock_within.f n 0 hi = some (clampT n hi) := by
  unfold clock_within.f clampT mx mn
  congr 1
  split <;> split <;> (try split) <;> (try split) <;> omega
theorem upto8 (t : Int) (h0 : 0 ≤ t) (h8 : t ≤ 8) : t = 0 ∨ t = 1 ∨ t = 2 ∨ t = 3 ∨ t = 4 ∨ t = 5 ∨ t = 6 ∨ t = 7 ∨ t = 8 := by omega
theorem wait_is (a : Int) : clock_Wait.f a = some (4 * 2 ^ (clampT a 8).toNat) := by
  obtain ⟨h0, h8⟩ := clampT_bd a 8 (by omega)
  unfold clock_Wait.f
  rw [within_clamp a 8 (by omega)]
  simp only [Option.bind_some]
  rw [if_pos h0]
  generalize clampT a 8 = t at *
  rcases upto8 t h0 h8 with h | h | h | h | h | h | h | h | h <;> subst h <;> decide +kernel
theorem waitb (a : Int) : 4 ≤ (4 : Int) * 2 ^ (clampT a 8).toNat ∧ (4 : Int) * 2 ^ (clampT a 8).toNat ≤ 1024 := by
  obtain ⟨h0, h8⟩ := clampT_bd a 8 (by omega)
  generalize clampT a 8 = t at *
  rcases upto8 t h0 h8 with h | h | h | h | h | h | h | h | h <;> subst h <;> decide
theorem acc_is (a p q : Int) : clock_Accuse.f a p q = some (4 * 2 ^ (clampT a 8).toNat + 2 * ((clampT q 1000 - 1 - clampT p 1000).toNat : Int)) := by
  obtain ⟨hp0, hp1⟩ := clampT_bd p 1000 (by omega)
  obtain ⟨hq0, hq1⟩ := clampT_bd q 1000 (by omega)
  obtain ⟨hw0, hw1⟩ := waitb a
  unfold clock_Accuse.f
  rw [within_clamp q 1000 (by omega), within_clamp p 1000 (by omega), wait_is]
  simp only [Option.bind_some]
  generalize (4 : Int) * 2 ^ (clampT a 8).toNat = W at *
  congr 1
  unfold mx wrap64
  split <;> omega

theorem quorum_is (n : Int) : ∃ q, ballot_Quorum.f n = some q ∧ 0 ≤ q ∧ q ≤ 11 := by
  unfold ballot_Quorum.f ballot_times.f ballot_Right.f
  by_cases h1 : n ≥ 4
  · rw [if_pos h1]
    by_cases h2 : n ≤ 16
    · rw [if_pos h2]
      simp only [Option.bind_some]
      by_cases h3 : (Int.tmod n 3 == 1) = true
      · rw [if_pos h3]
        simp only [Option.bind_some]
        refine ⟨_, rfl, ?_, ?_⟩ <;> (rw [Int.tdiv_eq_ediv_of_nonneg (by omega)]; unfold wrap64; omega)
      · rw [if_neg h3]
        exact ⟨0, rfl, by omega, by omega⟩
    · rw [if_neg h2]
      exact ⟨0, rfl, by omega, by omega⟩
  · rw [if_neg h1]
    exact ⟨0, rfl, by omega, by omega⟩
theorem clamp_small (p : Int) (h0 : 0 ≤ p) (h1 : p ≤ 11) : clampT p 1000 = p := by
  unfold clampT
  rw [if_neg (by omega), if_neg (by omega)]
theorem change_is (a q : Int) (h0 : 0 ≤ q) (h1 : q ≤ 11) : clock_Change.f a q = some (4 * 2 ^ (clampT a 8).toNat + 2 * q + 4) := by
  obtain ⟨hw0, hw1⟩ := waitb a
  unfold clock_Change.f
  rw [wait_is, within_clamp q 1000 (by omega), clamp_small q h0 h1]
  simp only [Option.bind_some]
  generalize (4 : Int) * 2 ^ (clampT a 8).toNat = W at *
  congr 1
  unfold wrap64
  omega
theorem double (a : Int) (h0 : ¬ a < 0) (h1 : ¬ a ≥ 8) : ((4 : Int) * 2 ^ (clampT (wrap64 (a + 1)) 8).toNat == wrap64 (2 * (4 * 2 ^ (clampT a 8).toNat))) = true := by
  have e : wrap64 (a + 1) = a + 1 := by unfold wrap64; omega
  rw [e]
  have h : a = 0 ∨ a = 1 ∨ a = 2 ∨ a = 3 ∨ a = 4 ∨ a = 5 ∨ a = 6 ∨ a = 7 := by omega
  rcases h with h | h | h | h | h | h | h | h <;> subst h <;> decide +kernel
theorem ClockOrder : catenarylaw14_ClockOrder.Pure := by
  intro n bo a b _ _ _ _
  refine ⟨2, ?_⟩
  have hal : catenarylaw14_clockAlive.f = some true := by decide +kernel
  obtain ⟨q, hq, q0, q1⟩ := quorum_is n
  unfold catenarylaw14_ClockOrder.f
  rw [hal]
  simp only [Option.bind_some, if_true]
  rw [hq]
  simp only [Option.bind_some]
  split
  · rfl
  · split
    · rfl
    · split
      · rfl
      · rename_i hq0 ha hb
        by_cases hbq : b ≥ q
        · rw [decide_eq_true hbq]
          rfl
        · rw [decide_eq_false hbq]
          obtain ⟨hw0, hw1⟩ := waitb bo
          simp only [catenarylaw14_ClockOrder.j0]
          rw [if_neg (by simp), acc_is, acc_is, change_is bo q q0 q1, wait_is]
          simp only [Option.bind_some]
          rw [clamp_small q q0 q1, clamp_small a (by omega) (by omega), clamp_small b (by omega) (by omega)]
          rw [if_neg (by omega), if_neg (by omega), if_neg (by omega)]
          rw [decide_eq_false (by omega)]
          simp only [catenarylaw14_ClockOrder.j1]
          rw [if_neg (by simp)]
          split
          · rfl
          · split
            · rfl
            · rename_i h0 h1
              rw [wait_is, wait_is]
              simp only [Option.bind_some]
              rw [double bo h0 h1]

end Go.Proofs.Ytjdcjdkfdaeieaa.Pure
