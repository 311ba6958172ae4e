/- The law ClockWaits: for any three whole numbers Wait, Accuse and Change answer what the document's definitions answer: no conditions. -/
import Derived.Test.YtjdcjdkfdaeieaaPClockWaitsx1
namespace Go.Proofs.Ytjdcjdkfdaeieaa.Pure
open Go.RowKit Go.Proofs.Ytjdcjdkfdaeieaa.PClockWaits Go.Proofs.YtjdcjdkfdaeieaaW.PrintWords Go.Proofs.YtjdcjdkfdaeieaaW.PrintLast Go.Proofs.YtjdcjdkfdaeieaaW.PrintMore

def clampT (n hi : Int) : Int := if n < 0 then 0 else if n > hi then hi else n
theorem clampT_bd (n hi : Int) (h : 0 ≤ hi) : 0 ≤ clampT n hi ∧ clampT n hi ≤ hi := by unfold clampT; split <;> (try split) <;> omega
theorem within_clamp (n hi : Int) (h : 0 ≤ hi) : clock_within.f n 0 hi = some (clampT n hi) := by
  unfold clock_within.f clampT mx mn
  congr 1
  split <;> split <;> (try split) <;> (try split) <;> omega
theorem bound_clamp (n hi : Int) : catenaryref14_bound.f n hi = some (clampT n hi) := by
  unfold catenaryref14_bound.f clampT
  split
  · rfl
  · split <;> rfl
theorem upto8 (t : Int) (h0 : 0 ≤ t) (h8 : t ≤ 8) : t = 0 ∨ t = 1 ∨ t = 2 ∨ t = 3 ∨ t = 4 ∨ t = 5 ∨ t = 6 ∨ t = 7 ∨ t = 8 := by omega
theorem wait_is (a : Int) : clock_Wait.f a = some (4 * 2 ^ (clampT a 8).toNat) := by
  obtain ⟨h0, h8⟩ := clampT_bd a 8 (by omega)
  unfold clock_Wait.f
  rw [within_clamp a 8 (by omega)]
  simp only [Option.bind_some]
  rw [if_pos h0]
  generalize clampT a 8 = t at *
  rcases upto8 t h0 h8 with h | h | h | h | h | h | h | h | h <;> subst h <;> decide +kernel
theorem rwait_is (a : Int) (k : Nat) (hk : 10 ≤ k) : catenaryref14_Wait.f k a = some (4 * 2 ^ (clampT a 8).toNat) := by
  obtain ⟨m, rfl⟩ : ∃ m, k = m + 10 := ⟨k - 10, by omega⟩
  obtain ⟨h0, h8⟩ := clampT_bd a 8 (by omega)
  have hb := bound_clamp a 8
  unfold catenaryref14_Wait.f
  generalize clampT a 8 = t at *
  rcases upto8 t h0 h8 with h | h | h | h | h | h | h | h | h <;> subst h <;> simp [catenaryref14_Wait.l0, hb, wrap64]
theorem racc_l (x : Int) (d : Nat) : ∀ (k : Nat) (n i : Int), (clampT x 1000 - i).toNat = d → 0 ≤ i → i ≤ 1001 → 0 ≤ n → n ≤ 1100 * 1001 - 1100 * d → d < k → catenaryref14_Accuse.l0 k x n i = some (n + 2 * d) := by
  obtain ⟨h0, h8⟩ := clampT_bd x 1000 (by omega)
  induction d with
  | zero =>
    intro k n i hd hi0 hi hn hn2 hk
    obtain ⟨k, rfl⟩ : ∃ m, k = m + 1 := ⟨k - 1, by omega⟩
    simp only [catenaryref14_Accuse.l0, bound_clamp, Option.bind_some]
    rw [if_neg (by omega)]
    simp
  | succ d ih =>
    intro k n i hd hi0 hi hn hn2 hk
    obtain ⟨k, rfl⟩ : ∃ m, k = m + 1 := ⟨k - 1, by omega⟩
    simp only [catenaryref14_Accuse.l0, bound_clamp, Option.bind_some]
    rw [if_pos (by omega)]
    have e1 : wrap64 (n + 2) = n + 2 := by unfold wrap64; omega
    have e2 : wrap64 (i + 1) = i + 1 := by unfold wrap64; omega
    rw [e1, e2, ih k (n + 2) (i + 1) (by omega) (by omega) (by omega) (by omega) (by omega) (by omega)]
    congr 1
    omega
theorem waitb (a : Int) : 4 ≤ (4 : Int) * 2 ^ (clampT a 8).toNat ∧ (4 : Int) * 2 ^ (clampT a 8).toNat ≤ 1024 := by
  obtain ⟨h0, h8⟩ := clampT_bd a 8 (by omega)
  generalize clampT a 8 = t at *
  rcases upto8 t h0 h8 with h | h | h | h | h | h | h | h | h <;> subst h <;> decide
theorem acc_is (a p q : Int) : clock_Accuse.f a p q = some (4 * 2 ^ (clampT a 8).toNat + 2 * ((clampT q 1000 - 1 - clampT p 1000).toNat : Int)) := by
  obtain ⟨hp0, hp1⟩ := clampT_bd p 1000 (by omega)
  obtain ⟨hq0, hq1⟩ := clampT_bd q 1000 (by omega)
  obtain ⟨hw0, hw1⟩ := waitb a
  unfold clock_Accuse.f
  rw [within_clamp q 1000 (by omega), within_clamp p 1000 (by omega), wait_is]
  simp only [Option.bind_some]
  generalize (4 : Int) * 2 ^ (clampT a 8).toNat = W at *
  congr 1
  unfold mx wrap64
  split <;> omega
theorem racc_is (a p q : Int) (k : Nat) (hk : 1100 ≤ k) : catenaryref14_Accuse.f k a p q = some (4 * 2 ^ (clampT a 8).toNat + 2 * ((clampT q 1000 - 1 - clampT p 1000).toNat : Int)) := by
  obtain ⟨hp0, hp1⟩ := clampT_bd p 1000 (by omega)
  obtain ⟨hq0, hq1⟩ := clampT_bd q 1000 (by omega)
  obtain ⟨hw0, hw1⟩ := waitb a
  unfold catenaryref14_Accuse.f
  rw [rwait_is a k (by omega), bound_clamp]
  simp only [Option.bind_some]
  have e2 : wrap64 (clampT p 1000 + 1) = clampT p 1000 + 1 := by unfold wrap64; omega
  rw [e2, racc_l q (clampT q 1000 - 1 - clampT p 1000).toNat k _ _ (by omega) (by omega) (by omega) (by omega) (by omega) (by omega)]
theorem ClockWaits : catenarylaw14_ClockWaits.Pure := by
  intro a p q _ _ _
  refine ⟨1100, ?_⟩
  have hal : catenarylaw14_clockAlive.f = some true := by decide +kernel
  unfold catenarylaw14_ClockWaits.f
  rw [hal]
  simp only [Option.bind_some, if_true]
  rw [wait_is, rwait_is a 1100 (by omega)]
  simp only [Option.bind_some, if_true]
  rw [acc_is, racc_is a p q 1100 (by omega)]
  simp only [Option.bind_some, if_true]
  unfold clock_Change.f catenaryref14_Change.f
  rw [wait_is, rwait_is a 1100 (by omega), within_clamp q 1000 (by omega), bound_clamp]
  simp

end Go.Proofs.Ytjdcjdkfdaeieaa.Pure
