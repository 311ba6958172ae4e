import Derived.Test.YtekfobefehkajaaPBallotClearsx2
namespace Go.Proofs.Ytekfobefehkajaa.Pure
open Go.RowKit Go.Proofs.Ytekfobefehkajaa.PBallotClears Go.Proofs.YtekfobefehkajaaW.PrintWords Go.Proofs.YtekfobefehkajaaW.PrintLast Go.Proofs.YtekfobefehkajaaW.PrintMore

theorem sorted7 : (([0, 1, 2, 3, 4, 5, 6] : List Int).mergeSort (fun x y => decide (x ≤ y))) = (List.range 7).map Int.ofNat := by
  rw [List.mergeSort_of_pairwise (by decide)]
  rfl
theorem order7 : ballot_Order.f [0, 1, 2, 3, 4, 5, 6] 7 = some true := by
  unfold ballot_Order.f
  rw [show ballot_Right.f 7 = some true from rfl]
  simp only [Option.bind_some, if_true]
  rw [if_pos (by rfl), show ([0, 1, 2, 3, 4, 5, 6] : List Int).length = 7 from rfl, sorted7]
  simp
theorem shift7 (k : Nat) : ballot_Shift.f (k + 20) [0, 1, 2, 3, 4, 5, 6] 2 3 = some ([0, 1, 4, 5, 2, 6, 3], 0) := by
  unfold ballot_Shift.f
  rw [show ballot_Place.f (k + 20) [0, 1, 2, 3, 4, 5, 6] 2 = some 2 from by kernel_rfl]
  rw [show ((([0, 1, 2, 3, 4, 5, 6] : List Int).length : Nat) : Int) = 7 from rfl, show ballot_Quorum.f 7 = some 5 from by kernel_rfl, order7]
  kernel_rfl
theorem alive (k : Nat) : catenarylaw04_ballotAlive.f (k + 20) = some true := by
  unfold catenarylaw04_ballotAlive.f
  rw [shift7]
  kernel_rfl
theorem right_no (n : Int) (h4 : n ≠ 4) (h7 : n ≠ 7) (h10 : n ≠ 10) (h13 : n ≠ 13) (h16 : n ≠ 16) : ballot_Right.f n = some false := by
  unfold ballot_Right.f
  split
  · split
    · have : Int.tmod n 3 = n % 3 := Int.tmod_eq_emod_of_nonneg (by omega)
      rw [this, show (n % 3 == 1) = false from beq_eq_false_iff_ne.2 (by omega)]
    · rfl
  · rfl
def rng (n : Nat) : List Int := (List.range n).map Int.ofNat
theorem rng_lt (n : Nat) : (rng n).Pairwise (· < ·) := by
  unfold rng
  rw [List.pairwise_map]
  exact List.pairwise_lt_range.imp (fun h => Int.ofNat_lt.2 h)
theorem rng_count (n r : Nat) (h : r < n) : (rng n).count (r : Int) = 1 := by
  have hn : (rng n).Nodup := (rng_lt n).imp (fun h => Int.ne_of_lt h)
  rw [hn.count, if_pos]
  unfold rng
  exact List.mem_map.2 ⟨r, List.mem_range.2 h, rfl⟩
theorem perm_rng : ∀ (n : Nat) (l : List Int), l.length = n → (∀ r : Nat, r < n → 0 < l.count (r : Int)) → l.Perm (rng n)
  | 0, l, hl, _ => by
    obtain rfl := List.length_eq_zero_iff.1 hl
    exact List.Perm.refl _
  | n + 1, l, hl, hc => by
    have hm : (n : Int) ∈ l := List.count_pos_iff.1 (hc n (by omega))
    have hp := List.perm_cons_erase hm
    have ih := perm_rng n (l.erase (n : Int)) (by rw [List.length_erase_of_mem hm]; omega) (fun r hr => by
      rw [List.count_erase_of_ne (by omega)]
      exact hc r (by omega))
    have e : rng (n + 1) = rng n ++ [(n : Int)] := by unfold rng; rw [List.range_succ, List.map_append]; rfl
    rw [e]
    exact hp.trans ((List.Perm.cons _ ih).trans (List.perm_append_comm (l₁ := [(n : Int)]) (l₂ := rng n)))
theorem sorted_iff (l : List Int) : l.mergeSort (fun x y => decide (x ≤ y)) = rng l.length ↔ ∀ r : Nat, r < l.length → l.count (r : Int) = 1 := by
  constructor
  · intro h r hr
    have hp := List.mergeSort_perm l (fun x y => decide (x ≤ y))
    rw [h] at hp
    rw [← hp.count_eq]
    exact rng_count _ _ hr
  · intro h
    have hp := perm_rng l.length l rfl (fun r hr => by rw [h r hr]; decide)
    refine List.Perm.eq_of_pairwise (le := fun a b : Int => a ≤ b) (fun a b _ _ h1 h2 => Int.le_antisymm h1 h2) ?_ ((rng_lt _).imp Int.le_of_lt) ((List.mergeSort_perm _ _).trans hp)
    exact (List.pairwise_mergeSort (le := fun x y : Int => decide (x ≤ y)) (fun a b c h1 h2 => by simp at *; omega) (fun a b => by simp; omega) l).imp (fun h => by simpa using h)
def okc (l : List Int) : Bool := (List.range l.length).all fun r => l.count (r : Int) == 1
theorem order_is (l : List Int) (n : Int) (h : ballot_Right.f n = some true) : ballot_Order.f l n = some (decide ((l.length : Int) = n) && okc l) := by
  unfold ballot_Order.f
  rw [h]
  simp only [Option.bind_some, if_true]
  by_cases hl : (l.length : Int) = n
  · rw [if_pos hl, decide_eq_true hl, Bool.true_and]
    congr 1
    have := sorted_iff l
    unfold rng at this
    rw [Bool.eq_iff_iff, decide_eq_true_iff, this]
    unfold okc
    simp
  · rw [if_neg hl, decide_eq_false hl, Bool.false_and]
theorem order_no (l : List Int) (n : Int) (h : ballot_Right.f n = some false) : ballot_Order.f l n = some false := by
  unfold ballot_Order.f
  rw [h]
  rfl
theorem rd_get (l : List Int) (i : Nat) (h : i < l.length) : rd l (i : Int) = l[i] := by
  unfold rd
  simp [h]
theorem w64 (i : Nat) (h : i < 1000000000000000000) : wrap64 ((i : Int) + 1) = ((i + 1 : Nat) : Int) := by unfold wrap64; omega
theorem same_l (l : List Int) (hl : l.length < 1000000000000000000) (d : Nat) : ∀ (k i : Nat), l.length - i = d → i ≤ l.length → d < k → catenaryref04_Same.l0 k l l (l.length : Int) (i : Int) = some true := by
  induction d with
  | zero =>
    intro k i hd hi hk
    obtain ⟨k, rfl⟩ : ∃ m, k = m + 1 := ⟨k - 1, by omega⟩
    simp only [catenaryref04_Same.l0]
    rw [if_neg (by omega)]
  | succ d ih =>
    intro k i hd hi hk
    obtain ⟨k, rfl⟩ : ∃ m, k = m + 1 := ⟨k - 1, by omega⟩
    simp only [catenaryref04_Same.l0]
    rw [if_pos (by omega), if_pos (by omega), if_pos (by omega), if_pos (by omega), if_pos trivial, w64 i (by omega)]
    exact ih k (i + 1) (by omega) (by omega) (by omega)
theorem same_is (l : List Int) (hl : l.length < 1000000000000000000) (k : Nat) (hk : l.length < k) : catenaryref04_Same.f k l l = some true := by
  unfold catenaryref04_Same.f
  rw [if_pos rfl]
  exact same_l l hl l.length k 0 rfl (Nat.zero_le _) hk
theorem index_s (l : List Int) (x : Int) (hl : l.length < 1000000000000000000) (d : Nat) : ∀ (k i : Nat), l.length - i = d → i ≤ l.length → d < k →
    (slices_Index_int_int.l0 k l x (l.length : Int) (i : Int) = some (-1) ∧ ∀ j, i ≤ j → (h : j < l.length) → l[j] ≠ x) ∨ ∃ j, ∃ h : j < l.length, slices_Index_int_int.l0 k l x (l.length : Int) (i : Int) = some (j : Int) ∧ l[j] = x := by
  induction d with
  | zero =>
    intro k i hd hi hk
    obtain ⟨k, rfl⟩ : ∃ m, k = m + 1 := ⟨k - 1, by omega⟩
    simp only [slices_Index_int_int.l0]
    rw [if_neg (by omega)]
    exact .inl ⟨rfl, fun j h1 h2 => absurd h2 (by omega)⟩
  | succ d ih =>
    intro k i hd hi hk
    obtain ⟨k, rfl⟩ : ∃ m, k = m + 1 := ⟨k - 1, by omega⟩
    have hi' : i < l.length := by omega
    simp only [slices_Index_int_int.l0]
    rw [if_pos (by omega), if_pos (by omega), if_pos (by omega), w64 i (by omega), rd_get l i hi']
    by_cases hx : x = l[i]
    · rw [if_pos hx]
      exact .inr ⟨i, hi', rfl, hx.symm⟩
    · rw [if_neg hx]
      rcases ih k (i + 1) (by omega) (by omega) (by omega) with ⟨h1, h2⟩ | h
      · refine .inl ⟨h1, fun j h3 h4 => ?_⟩
        rcases Nat.eq_or_lt_of_le h3 with rfl | h5
        · exact fun e => hx e.symm
        · exact h2 j h5 h4
      · exact .inr h
theorem place_spec (l : List Int) (x : Int) (hl : l.length < 1000000000000000000) (k : Nat) (hk : l.length < k) :
    (ballot_Place.f k l x = some (-1) ∧ x ∉ l) ∨ ∃ j, ∃ h : j < l.length, ballot_Place.f k l x = some (j : Int) ∧ l[j] = x := by
  unfold ballot_Place.f slices_Index_int_int.f
  rcases index_s l x hl l.length k 0 (Nat.sub_zero _) (Nat.zero_le _) hk with ⟨h1, h2⟩ | ⟨j, hj, h1, h2⟩
  · have h1' : slices_Index_int_int.l0 k l x (l.length : Int) 0 = some (-1) := h1
    rw [h1']
    refine .inl ⟨rfl, fun hm => ?_⟩
    obtain ⟨j, hj, e⟩ := List.mem_iff_getElem.1 hm
    exact h2 j (Nat.zero_le _) hj e
  · have h1' : slices_Index_int_int.l0 k l x (l.length : Int) 0 = some (j : Int) := h1
    rw [h1']
    exact .inr ⟨j, hj, rfl, h2⟩
def shl (l : List Int) (p q : Nat) (x1 x2 : Int) : List Int := if p = 0 then l.eraseIdx 1 ++ [x2] else (((l.eraseIdx (p + 1)).eraseIdx p).take (q - 1) ++ x1 :: ((l.eraseIdx (p + 1)).eraseIdx p).drop (q - 1)) ++ [x2]
theorem quorums (n : Int) (hR : ballot_Right.f n = some true) : ∃ f : Nat, n = ((3 * f + 1 : Nat) : Int) ∧ ballot_Quorum.f n = some ((2 * f + 1 : Nat) : Int) ∧ ballot_Faults.f n = some (f : Int) ∧ 1 ≤ f ∧ f ≤ 5 := by
  by_cases h4 : n = 4
  · subst h4; exact ⟨1, rfl, by kernel_rfl, by kernel_rfl, by omega, by omega⟩
  by_cases h7 : n = 7
  · subst h7; exact ⟨2, rfl, by kernel_rfl, by kernel_rfl, by omega, by omega⟩
  by_cases h10 : n = 10
  · subst h10; exact ⟨3, rfl, by kernel_rfl, by kernel_rfl, by omega, by omega⟩
  by_cases h13 : n = 13
  · subst h13; exact ⟨4, rfl, by kernel_rfl, by kernel_rfl, by omega, by omega⟩
  by_cases h16 : n = 16
  · subst h16; exact ⟨5, rfl, by kernel_rfl, by kernel_rfl, by omega, by omega⟩
  rw [right_no n h4 h7 h10 h13 h16] at hR
  cases hR
theorem okc_perm (l : List Int) (h : okc l = true) : l.Perm (rng l.length) := by
  refine perm_rng l.length l rfl (fun r hr => ?_)
  unfold okc at h
  have := List.all_eq_true.1 h r (List.mem_range.2 hr)
  rw [beq_iff_eq.1 this]
  decide
theorem okc_nodup (l : List Int) (h : okc l = true) : l.Nodup := (okc_perm l h).nodup_iff.2 ((rng_lt _).imp (fun h => Int.ne_of_lt h))
theorem okc_of (l m : List Int) (h : okc l = true) (hp : m.Perm l) : okc m = true := by
  unfold okc at *
  rw [List.all_eq_true] at *
  intro r hr
  rw [hp.count_eq]
  exact h r (by rw [hp.length_eq] at hr; exact hr)
theorem cons_erase (l : List Int) (i : Nat) (h : i < l.length) : (l[i] :: l.eraseIdx i).Perm l := by
  rw [List.eraseIdx_eq_take_drop_succ]
  refine (List.perm_middle.symm).trans ?_
  rw [← List.drop_eq_getElem_cons h, List.take_append_drop]
theorem take_erase : ∀ (l : List Int) (i m : Nat), i ≤ m → (l.eraseIdx i).take m = (l.take (m + 1)).eraseIdx i
  | [], _, _, _ => by simp
  | a :: t, 0, m, _ => by simp
  | a :: t, i + 1, m, h => by
    obtain ⟨m, rfl⟩ : ∃ k, m = k + 1 := ⟨m - 1, by omega⟩
    simp only [List.eraseIdx_cons_succ, List.take_succ_cons]
    rw [take_erase t i m (by omega)]
theorem ins_take (x : Int) : ∀ (A : List Int) (a m : Nat), a ≤ m → ((A.take a ++ x :: A.drop a).take (m + 1)).Perm (x :: A.take m)
  | A, 0, m, _ => by simp
  | [], a + 1, m, _ => by simp
  | b :: t, a + 1, m, h => by
    obtain ⟨m, rfl⟩ : ∃ k, m = k + 1 := ⟨m - 1, by omega⟩
    simp only [List.take_succ_cons, List.drop_succ_cons, List.cons_append]
    exact (List.Perm.cons b (ins_take x t a m (by omega))).trans (List.Perm.swap x b (t.take m))
theorem shl_len (o : List Int) (j q : Nat) (x1 x2 : Int) (hj : j + 1 < o.length) : (shl o j q x1 x2).length = o.length := by
  have h1 : (o.eraseIdx (j + 1)).length = o.length - 1 := List.length_eraseIdx_of_lt hj
  have h2 : ((o.eraseIdx (j + 1)).eraseIdx j).length = o.length - 2 := by rw [List.length_eraseIdx_of_lt (by rw [h1]; omega), h1]; omega
  unfold shl
  split
  · rw [List.length_append, List.length_eraseIdx_of_lt (by omega)]
    simp
    omega
  · rw [List.length_append, List.length_append, List.length_cons, List.length_take, List.length_drop, h2]
    simp
    omega
theorem shl_take (o : List Int) (j q m : Nat) (x2 : Int) (hj : j + 1 < o.length) (hjq : j + 1 < q) (hm : q ≤ m) (hmn : m + 1 ≤ o.length) : ((shl o j q o[j] x2).take m).Perm ((o.take (m + 1)).eraseIdx (j + 1)) := by
  have h1 : (o.eraseIdx (j + 1)).length = o.length - 1 := List.length_eraseIdx_of_lt hj
  have h2 : ((o.eraseIdx (j + 1)).eraseIdx j).length = o.length - 2 := by rw [List.length_eraseIdx_of_lt (by rw [h1]; omega), h1]; omega
  unfold shl
  by_cases h0 : j = 0
  · subst h0
    rw [if_pos rfl, List.take_append_of_le_length (by rw [List.length_eraseIdx_of_lt (by omega)]; omega), take_erase o 1 m (by omega)]
  · rw [if_neg h0, List.take_append_of_le_length (by rw [List.length_append, List.length_cons, List.length_take, List.length_drop, h2]; omega)]
    obtain ⟨m, rfl⟩ : ∃ k, m = k + 1 := ⟨m - 1, by omega⟩
    refine (ins_take o[j] _ (q - 1) m (by omega)).trans ?_
    rw [take_erase _ j m (by omega), take_erase o (j + 1) (m + 1) (by omega)]
    have hY : j < ((o.take (m + 1 + 1)).eraseIdx (j + 1)).length := by
      rw [List.length_eraseIdx_of_lt (by rw [List.length_take]; omega), List.length_take]
      omega
    have e : ((o.take (m + 1 + 1)).eraseIdx (j + 1))[j] = o[j] := by
      rw [List.getElem_eraseIdx_of_lt _ (by omega), List.getElem_take]
    rw [← e]
    exact cons_erase _ _ hY
theorem shl_perm (o : List Int) (j q : Nat) (hj : j + 1 < o.length) (hjq : j + 1 < q) (hq : q + 1 ≤ o.length) : (shl o j q o[j] o[j + 1]).Perm o := by
  have h := shl_take o j q (o.length - 1) o[j + 1] hj hjq (by omega) (by omega)
  rw [show o.length - 1 + 1 = o.length by omega, List.take_length] at h
  have e : shl o j q o[j] o[j + 1] = (shl o j q o[j] o[j + 1]).take (o.length - 1) ++ [o[j + 1]] := by
    have hl := shl_len o j q o[j] o[j + 1] hj
    have : ∀ X : List Int, X.length = o.length - 1 → (X ++ [o[j + 1]]) = (X ++ [o[j + 1]]).take (o.length - 1) ++ [o[j + 1]] := fun X hX => by
      rw [List.take_append_of_le_length (by omega), List.take_of_length_le (by omega)]
    unfold shl at hl ⊢
    split
    · rename_i h0
      rw [if_pos h0] at hl
      exact this _ (by simp at hl; omega)
    · rename_i h0
      rw [if_neg h0] at hl
      exact this _ (by rw [List.length_append, List.length_singleton] at hl; omega)
  rw [e]
  refine (List.perm_append_comm).trans ?_
  exact (List.Perm.cons _ h).trans (cons_erase _ _ hj)
theorem shl_head (a : Int) (t : List Int) (j q : Nat) (x1 x2 : Int) (hq : 2 ≤ q) : ∃ t', shl (a :: t) j q x1 x2 = a :: t' := by
  unfold shl
  cases j with
  | zero => exact ⟨_, by rw [if_pos rfl]; rfl⟩
  | succ j =>
    obtain ⟨q, rfl⟩ : ∃ k, q = k + 2 := ⟨q - 2, by omega⟩
    exact ⟨_, by rw [if_neg (by omega)]; rfl⟩
theorem turn (o : List Int) (f j k : Nat) (hok : okc o = true) (hlen : o.length = 3 * f + 1) (hf1 : 1 ≤ f) (hf5 : f ≤ 5) (hR : ballot_Right.f (o.length : Int) = some true) (hq : ballot_Quorum.f (o.length : Int) = some ((2 * f + 1 : Nat) : Int)) (hj : j + 1 < 2 * f + 1) (hk : 100 ≤ k) :
    ballot_Shift.f k o (o[j]'(by omega)) (o[j + 1]'(by omega)) = some (shl o j (2 * f + 1) (o[j]'(by omega)) (o[j + 1]'(by omega)), 0) := by
  have hpl : ballot_Place.f k o (o[j]'(by omega)) = some (j : Int) := by
    rcases place_spec o (o[j]'(by omega)) (by omega) k (by omega) with ⟨_, h⟩ | ⟨j', hj', h1, h2⟩
    · exact absurd (List.getElem_mem _) h
    · have : j' = j := (List.getElem_inj (okc_nodup o hok)).1 h2
      rw [h1, this]
  unfold ballot_Shift.f
  rw [hpl, hq, order_is o _ hR, hok]
  simp only [Option.bind_some, decide_true, Bool.and_self, if_true]
  rw [if_neg (by omega), if_pos ⟨by omega, by omega, by omega, by omega⟩, if_pos (by omega)]
  have hrd : rd o ((j : Int) + 1) = o[j + 1]'(by omega) := by rw [← Int.natCast_succ]; exact rd_get o (j + 1) (by omega)
  rw [hrd, if_pos rfl]
  unfold shl
  by_cases c5 : j = 0
  · rw [if_pos c5, if_pos (by omega)]
  · rw [if_neg c5, if_neg (by omega)]
    rw [show ((j : Int)).toNat = j from Int.toNat_natCast j, show (((2 * f + 1 : Nat) : Int) - 1).toNat = 2 * f + 1 - 1 by omega]
theorem countP_le (S : List Int) : ∀ (T : List Int) (o : List Int), o.Nodup → o.countP (fun x => decide (x ∈ T)) ≤ T.length
  | [], o, _ => by simp
  | a :: T, o, h => by
    have ih := countP_le S T o h
    have h1 : o.count a ≤ 1 := by rw [h.count]; split <;> omega
    have : o.countP (fun x => decide (x ∈ a :: T)) ≤ o.count a + o.countP (fun x => decide (x ∈ T)) := by
      clear ih h1 h
      induction o with
      | nil => simp
      | cons b o ih =>
        rw [List.countP_cons, List.countP_cons, List.count_cons]
        by_cases e : b = a
        · have h1 : decide (b ∈ a :: T) = true := by simp [e]
          have h2 : (b == a) = true := by simp [e]
          rw [h1, h2]
          simp only [if_true]
          split <;> omega
        · have h1 : decide (b ∈ a :: T) = decide (b ∈ T) := by simp [e]
          have h2 : (b == a) = false := by simp [e]
          rw [h1, h2]
          simp only [Bool.false_eq_true, if_false]
          omega
    simp only [List.length_cons]
    omega
theorem inner (S o : List Int) (f : Nat) (n t : Int) (hS : S.length ≤ 5) (hlen : o.length = 3 * f + 1) (hf5 : f ≤ 5) (hq : ballot_Quorum.f n = some ((2 * f + 1 : Nat) : Int)) (d : Nat) : ∀ (k i : Nat), 2 * f + 1 - i = d → i ≤ 2 * f + 1 → 100 ≤ k →
    catenarylaw04_BallotClears.l1 (k + (d + 1)) S n o t (i : Int) = catenarylaw04_BallotClears.j3 (k + 0) S n o t ((2 * f + 1 : Nat) : Int) ∨ ∃ i', ∃ h : i' < o.length, i ≤ i' ∧ i' < 2 * f + 1 ∧ o[i'] ∈ S ∧ ∃ k', k ≤ k' ∧ catenarylaw04_BallotClears.l1 (k + (d + 1)) S n o t (i : Int) = catenarylaw04_BallotClears.j3 k' S n o t (i' : Int) := by
  induction d with
  | zero =>
    intro k i hd hi hk
    left
    show catenarylaw04_BallotClears.l1 (k + 1) S n o t (i : Int) = _
    simp only [catenarylaw04_BallotClears.l1]
    rw [hq]
    simp only [Option.bind_some]
    have : i = 2 * f + 1 := by omega
    rw [if_neg (by omega), this]
    rfl
  | succ d ih =>
    intro k i hd hi hk
    obtain ⟨K, hK⟩ : ∃ K, K = k + (d + 1) := ⟨_, rfl⟩
    have hi' : i < o.length := by omega
    have e : catenarylaw04_BallotClears.l1 (k + (d + 1 + 1)) S n o t (i : Int) = (ballot_Place.f K S (o[i])).bind fun t133 => (if t133 < 0 then (catenarylaw04_BallotClears.l1 K S n o t ((i + 1 : Nat) : Int)) else (catenarylaw04_BallotClears.j3 K S n o t (i : Int))) := by
      show catenarylaw04_BallotClears.l1 ((k + (d + 1)) + 1) S n o t (i : Int) = _
      rw [← hK]
      simp only [catenarylaw04_BallotClears.l1]
      rw [hq]
      simp only [Option.bind_some]
      rw [if_pos (by omega), if_pos (by omega), if_pos (by omega), w64 i (by omega), rd_get o i hi']
    rw [e]
    rcases place_spec S (o[i]) (by omega) K (by omega) with ⟨h1, h2⟩ | ⟨j, hj, h1, h2⟩
    · rw [h1]
      simp only [Option.bind_some]
      rw [if_pos (by omega), hK]
      rcases ih k (i + 1) (by omega) (by omega) hk with h | ⟨i', h3, h4, h5, h6, h7⟩
      · exact .inl h
      · exact .inr ⟨i', h3, by omega, h5, h6, h7⟩
    · rw [h1]
      simp only [Option.bind_some]
      rw [if_neg (by omega)]
      exact .inr ⟨i, hi', Nat.le_refl _, by omega, by rw [← h2]; exact List.getElem_mem _, K, by omega, rfl⟩
theorem outer (S : List Int) (f : Nat) (a : Int) (ha : a ∉ S) (hf1 : 1 ≤ f) (hf5 : f ≤ 5) (hSf : S.length ≤ f) (hR : ballot_Right.f ((3 * f + 1 : Nat) : Int) = some true) (hq : ballot_Quorum.f ((3 * f + 1 : Nat) : Int) = some ((2 * f + 1 : Nat) : Int)) (d : Nat) : ∀ (k t : Nat) (o : List Int), S.length - t = d → t ≤ S.length → 200 + 20 * d ≤ k → okc o = true → o.length = 3 * f + 1 → (∃ r, o = a :: r) → (o.take (3 * f + 1 - t)).countP (fun x => decide (x ∈ S)) + t ≤ S.length →
    catenarylaw04_BallotClears.l0 k S ((3 * f + 1 : Nat) : Int) o (t : Int) = some true := by
  induction d with
  | zero =>
    intro k t o hd ht hk hok hlen hr hc
    obtain ⟨k, rfl⟩ : ∃ m, k = (m + (2 * f + 1 + 1)) + 1 := ⟨k - (2 * f + 3), by omega⟩
    have e : catenarylaw04_BallotClears.l0 ((k + (2 * f + 1 + 1)) + 1) S ((3 * f + 1 : Nat) : Int) o (t : Int) = catenarylaw04_BallotClears.l1 (k + (2 * f + 1 + 1)) S ((3 * f + 1 : Nat) : Int) o (t : Int) ((0 : Nat) : Int) := by
      obtain ⟨K, hK⟩ : ∃ K, K = k + (2 * f + 1 + 1) := ⟨_, rfl⟩
      rw [← hK]
      simp only [catenarylaw04_BallotClears.l0]
      rw [if_pos (by omega)]
      rfl
    rw [e]
    rcases inner S o f ((3 * f + 1 : Nat) : Int) (t : Int) (by omega) hlen hf5 hq (2 * f + 1) k 0 (Nat.sub_zero _) (Nat.zero_le _) (by omega) with h | ⟨i, hi, _, h2, h3, _⟩
    · rw [h]
      obtain ⟨k, rfl⟩ : ∃ m, k = m + 1 := ⟨k - 1, by omega⟩
      show catenarylaw04_BallotClears.j3 (k + 1) S _ o _ _ = _
      simp only [catenarylaw04_BallotClears.j3]
      rw [hq]
      simp only [Option.bind_some, if_true]
    · exfalso
      have hp : 0 < (o.take (3 * f + 1 - t)).countP (fun x => decide (x ∈ S)) := by
        rw [List.countP_pos_iff]
        refine ⟨o[i], ?_, decide_eq_true h3⟩
        rw [List.mem_take_iff_getElem]
        exact ⟨i, by omega, rfl⟩
      omega
  | succ d ih =>
    intro k t o hd ht hk hok hlen hr hc
    obtain ⟨k, rfl⟩ : ∃ m, k = (m + (2 * f + 1 + 1)) + 1 := ⟨k - (2 * f + 3), by omega⟩
    have e : catenarylaw04_BallotClears.l0 ((k + (2 * f + 1 + 1)) + 1) S ((3 * f + 1 : Nat) : Int) o (t : Int) = catenarylaw04_BallotClears.l1 (k + (2 * f + 1 + 1)) S ((3 * f + 1 : Nat) : Int) o (t : Int) ((0 : Nat) : Int) := by
      obtain ⟨K, hK⟩ : ∃ K, K = k + (2 * f + 1 + 1) := ⟨_, rfl⟩
      rw [← hK]
      simp only [catenarylaw04_BallotClears.l0]
      rw [if_pos (by omega)]
      rfl
    rw [e]
    rcases inner S o f ((3 * f + 1 : Nat) : Int) (t : Int) (by omega) hlen hf5 hq (2 * f + 1) k 0 (Nat.sub_zero _) (Nat.zero_le _) (by omega) with h | ⟨i, hi, _, h2, h3, k', hk', h⟩
    · rw [h]
      obtain ⟨k, rfl⟩ : ∃ m, k = m + 1 := ⟨k - 1, by omega⟩
      show catenarylaw04_BallotClears.j3 (k + 1) S _ o _ _ = _
      simp only [catenarylaw04_BallotClears.j3]
      rw [hq]
      simp only [Option.bind_some, if_true]
    · obtain ⟨r, rfl⟩ := hr
      obtain ⟨j, rfl⟩ : ∃ j, i = j + 1 := by
        cases i with
        | zero => exact absurd h3 ha
        | succ j => exact ⟨j, rfl⟩
      rw [h]
      obtain ⟨k', rfl⟩ : ∃ m, k' = m + 1 := ⟨k' - 1, by omega⟩
      simp only [catenarylaw04_BallotClears.j3]
      rw [hq]
      simp only [Option.bind_some]
      have ew : wrap64 (((j + 1 : Nat) : Int) - 1) = (j : Int) := by unfold wrap64; omega
      rw [if_neg (by omega), ew, if_pos (by omega), if_pos (by omega), if_pos (by omega), if_pos (by omega), rd_get _ j (by omega), rd_get _ (j + 1) hi]
      have hR' : ballot_Right.f (((a :: r).length : Nat) : Int) = some true := by rw [hlen]; exact hR
      have hq' : ballot_Quorum.f (((a :: r).length : Nat) : Int) = some ((2 * f + 1 : Nat) : Int) := by rw [hlen]; exact hq
      rw [turn (a :: r) f j k' hok hlen hf1 hf5 hR' hq' h2 (by omega)]
      simp only [Option.bind_some, if_true]
      have hlen' : (((shl (a :: r) j (2 * f + 1) (a :: r)[j] (a :: r)[j + 1]).length : Nat) : Int) = ((3 * f + 1 : Nat) : Int) := by rw [shl_len (a :: r) j (2 * f + 1) _ _ hi]; omega
      rw [if_pos hlen', w64 t (by omega)]
      have hc1 : 0 < ((a :: r).take (3 * f + 1 - t)).countP (fun x => decide (x ∈ S)) := by
        rw [List.countP_pos_iff]
        refine ⟨(a :: r)[j + 1], ?_, decide_eq_true h3⟩
        rw [List.mem_take_iff_getElem]
        exact ⟨j + 1, by omega, rfl⟩
      refine ih k' (t + 1) _ (by omega) (by omega) (by omega) (okc_of _ _ hok (shl_perm _ j _ hi h2 (by omega))) (by rw [shl_len _ _ _ _ _ hi]; exact hlen) (shl_head a r j _ _ _ (by omega)) ?_
      have hp := shl_take (a :: r) j (2 * f + 1) (3 * f + 1 - (t + 1)) ((a :: r)[j + 1]) hi h2 (by omega) (by omega)
      rw [hp.countP_eq]
      rw [show 3 * f + 1 - (t + 1) + 1 = 3 * f + 1 - t by omega]
      have hi2 : j + 1 < ((a :: r).take (3 * f + 1 - t)).length := by rw [List.length_take]; omega
      have hp2 := (cons_erase _ _ hi2).countP_eq (fun x => decide (x ∈ S))
      rw [List.countP_cons, List.getElem_take, if_pos (decide_eq_true h3)] at hp2
      omega
theorem BallotClears : catenarylaw04_BallotClears.Pure := by
  intro o S hl hS
  have hol : o.length < 17592186044416 := by have := hl.1; have := hl.2.1; omega
  have hSl : S.length < 17592186044416 := by have := hS.1; have := hS.2.1; omega
  refine ⟨S.length + 980 + 20, ?_⟩
  have hj0 : ∀ b, catenarylaw04_BallotClears.j0 (S.length + 980 + 20) o S (o.length : Int) b = if b = true then some true else catenarylaw04_BallotClears.l0 (S.length + 980 + 19) S (o.length : Int) o 0 := fun b => by
    show catenarylaw04_BallotClears.j0 ((S.length + 980 + 19) + 1) o S (o.length : Int) b = _
    obtain ⟨K, hK⟩ : ∃ K, K = S.length + 980 + 19 := ⟨_, rfl⟩
    rw [← hK]
    simp only [catenarylaw04_BallotClears.j0, Option.bind_some, List.nil_append, List.length_nil, Nat.zero_add]
    rw [if_pos hol]
  unfold catenarylaw04_BallotClears.f
  rw [alive]
  simp only [Option.bind_some, if_true]
  by_cases hr : ballot_Right.f (o.length : Int) = some true
  · rw [order_is o _ hr, decide_eq_true rfl, Bool.true_and]
    simp only [Option.bind_some]
    by_cases hok : okc o = true
    · rw [if_pos hok]
      obtain ⟨f, hn, hq, hfa, f1, f5⟩ := quorums _ hr
      rw [hfa]
      simp only [Option.bind_some]
      by_cases hc : (S.length : Int) > (f : Int)
      · rw [if_pos hc, hj0]
        rfl
      · rw [if_neg hc, if_pos (by omega)]
        have hlen : o.length = 3 * f + 1 := by omega
        cases o with
        | nil => simp at hlen
        | cons a r =>
          rw [show rd (a :: r) 0 = a from rfl]
          rcases place_spec S a (by omega) (S.length + 980 + 20) (by omega) with ⟨h1, h2⟩ | ⟨j, hj, h1, h2⟩
          · rw [h1]
            simp only [Option.bind_some]
            rw [hj0, if_neg (by simp)]
            have hcp := countP_le S S (a :: r) (okc_nodup _ hok)
            rw [hlen] at hr hq ⊢
            exact outer S f a h2 f1 f5 (by omega) hr hq S.length (S.length + 980 + 19) 0 (a :: r) (Nat.sub_zero _) (Nat.zero_le _) (by omega) hok hlen ⟨r, rfl⟩ (by
              rw [Nat.sub_zero, ← hlen, List.take_length]
              omega)
          · rw [h1]
            simp only [Option.bind_some]
            rw [hj0, if_pos (decide_eq_true (by omega))]
    · rw [if_neg hok, hj0]
      rfl
  · have hr' : ballot_Right.f (o.length : Int) = some false := by
      unfold ballot_Right.f at hr ⊢
      split
      · split
        · rename_i h1 h2
          rw [if_pos h1, if_pos h2] at hr
          cases hb : (Int.tmod (o.length : Int) 3 == 1) with
          | true => rw [hb] at hr; exact absurd rfl hr
          | false => rfl
        · rfl
      · rfl
    rw [order_no o _ hr']
    simp only [Option.bind_some, Bool.false_eq_true, if_false]
    rw [hj0]
    rfl

end Go.Proofs.Ytekfobefehkajaa.Pure
