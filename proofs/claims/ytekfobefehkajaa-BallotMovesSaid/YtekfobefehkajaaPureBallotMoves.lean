import Derived.Test.YtekfobefehkajaaPBallotMovesx2
namespace Go.Proofs.Ytekfobefehkajaa.Pure
open Go.RowKit Go.Proofs.Ytekfobefehkajaa.PBallotMoves Go.Proofs.YtekfobefehkajaaW.PrintWords Go.Proofs.YtekfobefehkajaaW.PrintLast Go.Proofs.YtekfobefehkajaaW.PrintMore

theorem sorted7 : (([0, 1, 2, 3, 4, 5, 6] : List Int).mergeSort (fun x y => decide (x ≤ y))) = (List.range 7).map Int.ofNat := by
  rw [List.mergeSort_of_pairwise (by decide)]
  rfl
theorem order7 : ballot_Order.f [0, 1, 2, 3, 4, 5, 6] 7 = some true := by
  unfold ballot_Order.f
  rw [show ballot_Right.f 7 = some true from rfl]
  simp only [Option.bind_some, if_true]
  rw [if_pos (by rfl), show ([0, 1, 2, 3, 4, 5, 6] : List Int).length = 7 from rfl, sorted7]
  simp
theorem shift7 (k : Nat) : ballot_Shift.f (k + 20) [0, 1, 2, 3, 4, 5, 6] 2 3 = some ([0, 1, 4, 5, 2, 6, 3], 0) := by
  unfold ballot_Shift.f
  rw [show ballot_Place.f (k + 20) [0, 1, 2, 3, 4, 5, 6] 2 = some 2 from by kernel_rfl]
  rw [show ((([0, 1, 2, 3, 4, 5, 6] : List Int).length : Nat) : Int) = 7 from rfl, show ballot_Quorum.f 7 = some 5 from by kernel_rfl, order7]
  kernel_rfl
theorem alive (k : Nat) : catenarylaw04_ballotAlive.f (k + 20) = some true := by
  unfold catenarylaw04_ballotAlive.f
  rw [shift7]
  kernel_rfl
theorem right_no (n : Int) (h4 : n ≠ 4) (h7 : n ≠ 7) (h10 : n ≠ 10) (h13 : n ≠ 13) (h16 : n ≠ 16) : ballot_Right.f n = some false := by
  unfold ballot_Right.f
  split
  · split
    · have : Int.tmod n 3 = n % 3 := Int.tmod_eq_emod_of_nonneg (by omega)
      rw [this, show (n % 3 == 1) = false from beq_eq_false_iff_ne.2 (by omega)]
    · rfl
  · rfl
def rng (n : Nat) : List Int := (List.range n).map Int.ofNat
theorem rng_lt (n : Nat) : (rng n).Pairwise (· < ·) := by
  unfold rng
  rw [List.pairwise_map]
  exact List.pairwise_lt_range.imp (fun h => Int.ofNat_lt.2 h)
theorem rng_count (n r : Nat) (h : r < n) : (rng n).count (r : Int) = 1 := by
  have hn : (rng n).Nodup := (rng_lt n).imp (fun h => Int.ne_of_lt h)
  rw [hn.count, if_pos]
  unfold rng
  exact List.mem_map.2 ⟨r, List.mem_range.2 h, rfl⟩
theorem perm_rng : ∀ (n : Nat) (l : List Int), l.length = n → (∀ r : Nat, r < n → 0 < l.count (r : Int)) → l.Perm (rng n)
  | 0, l, hl, _ => by
    obtain rfl := List.length_eq_zero_iff.1 hl
    exact List.Perm.refl _
  | n + 1, l, hl, hc => by
    have hm : (n : Int) ∈ l := List.count_pos_iff.1 (hc n (by omega))
    have hp := List.perm_cons_erase hm
    have ih := perm_rng n (l.erase (n : Int)) (by rw [List.length_erase_of_mem hm]; omega) (fun r hr => by
      rw [List.count_erase_of_ne (by omega)]
      exact hc r (by omega))
    have e : rng (n + 1) = rng n ++ [(n : Int)] := by unfold rng; rw [List.range_succ, List.map_append]; rfl
    rw [e]
    exact hp.trans ((List.Perm.cons _ ih).trans (List.perm_append_comm (l₁ := [(n : Int)]) (l₂ := rng n)))
theorem sorted_iff (l : List Int) : l.mergeSort (fun x y => decide (x ≤ y)) = rng l.length ↔ ∀ r : Nat, r < l.length → l.count (r : Int) = 1 := by
  constructor
  · intro h r hr
    have hp := List.mergeSort_perm l (fun x y => decide (x ≤ y))
    rw [h] at hp
    rw [← hp.count_eq]
    exact rng_count _ _ hr
  · intro h
    have hp := perm_rng l.length l rfl (fun r hr => by rw [h r hr]; decide)
    refine List.Perm.eq_of_pairwise (le := fun a b : Int => a ≤ b) (fun a b _ _ h1 h2 => Int.le_antisymm h1 h2) ?_ ((rng_lt _).imp Int.le_of_lt) ((List.mergeSort_perm _ _).trans hp)
    exact (List.pairwise_mergeSort (le := fun x y : Int => decide (x ≤ y)) (fun a b c h1 h2 => by simp at *; omega) (fun a b => by simp; omega) l).imp (fun h => by simpa using h)
def okc (l : List Int) : Bool := (List.range l.length).all fun r => l.count (r : Int) == 1
theorem order_is (l : List Int) (n : Int) (h : ballot_Right.f n = some true) : ballot_Order.f l n = some (decide ((l.length : Int) = n) && okc l) := by
  unfold ballot_Order.f
  rw [h]
  simp only [Option.bind_some, if_true]
  by_cases hl : (l.length : Int) = n
  · rw [if_pos hl, decide_eq_true hl, Bool.true_and]
    congr 1
    have := sorted_iff l
    unfold rng at this
    rw [Bool.eq_iff_iff, decide_eq_true_iff, this]
    unfold okc
    simp
  · rw [if_neg hl, decide_eq_false hl, Bool.false_and]
theorem order_no (l : List Int) (n : Int) (h : ballot_Right.f n = some false) : ballot_Order.f l n = some false := by
  unfold ballot_Order.f
  rw [h]
  rfl
theorem rd_get (l : List Int) (i : Nat) (h : i < l.length) : rd l (i : Int) = l[i] := by
  unfold rd
  simp [h]
theorem w64 (i : Nat) (h : i < 1000000000000000000) : wrap64 ((i : Int) + 1) = ((i + 1 : Nat) : Int) := by unfold wrap64; omega
theorem same_l (l : List Int) (hl : l.length < 1000000000000000000) (d : Nat) : ∀ (k i : Nat), l.length - i = d → i ≤ l.length → d < k → catenaryref04_Same.l0 k l l (l.length : Int) (i : Int) = some true := by
  induction d with
  | zero =>
    intro k i hd hi hk
    obtain ⟨k, rfl⟩ : ∃ m, k = m + 1 := ⟨k - 1, by omega⟩
    simp only [catenaryref04_Same.l0]
    rw [if_neg (by omega)]
  | succ d ih =>
    intro k i hd hi hk
    obtain ⟨k, rfl⟩ : ∃ m, k = m + 1 := ⟨k - 1, by omega⟩
    simp only [catenaryref04_Same.l0]
    rw [if_pos (by omega), if_pos (by omega), if_pos (by omega), if_pos (by omega), if_pos trivial, w64 i (by omega)]
    exact ih k (i + 1) (by omega) (by omega) (by omega)
theorem same_is (l : List Int) (hl : l.length < 1000000000000000000) (k : Nat) (hk : l.length < k) : catenaryref04_Same.f k l l = some true := by
  unfold catenaryref04_Same.f
  rw [if_pos rfl]
  exact same_l l hl l.length k 0 rfl (Nat.zero_le _) hk
theorem index_s (l : List Int) (x : Int) (hl : l.length < 1000000000000000000) (d : Nat) : ∀ (k i : Nat), l.length - i = d → i ≤ l.length → d < k →
    (slices_Index_int_int.l0 k l x (l.length : Int) (i : Int) = some (-1) ∧ ∀ j, i ≤ j → (h : j < l.length) → l[j] ≠ x) ∨ ∃ j, ∃ h : j < l.length, slices_Index_int_int.l0 k l x (l.length : Int) (i : Int) = some (j : Int) ∧ l[j] = x := by
  induction d with
  | zero =>
    intro k i hd hi hk
    obtain ⟨k, rfl⟩ : ∃ m, k = m + 1 := ⟨k - 1, by omega⟩
    simp only [slices_Index_int_int.l0]
    rw [if_neg (by omega)]
    exact .inl ⟨rfl, fun j h1 h2 => absurd h2 (by omega)⟩
  | succ d ih =>
    intro k i hd hi hk
    obtain ⟨k, rfl⟩ : ∃ m, k = m + 1 := ⟨k - 1, by omega⟩
    have hi' : i < l.length := by omega
    simp only [slices_Index_int_int.l0]
    rw [if_pos (by omega), if_pos (by omega), if_pos (by omega), w64 i (by omega), rd_get l i hi']
    by_cases hx : x = l[i]
    · rw [if_pos hx]
      exact .inr ⟨i, hi', rfl, hx.symm⟩
    · rw [if_neg hx]
      rcases ih k (i + 1) (by omega) (by omega) (by omega) with ⟨h1, h2⟩ | h
      · refine .inl ⟨h1, fun j h3 h4 => ?_⟩
        rcases Nat.eq_or_lt_of_le h3 with rfl | h5
        · exact fun e => hx e.symm
        · exact h2 j h5 h4
      · exact .inr h
theorem place_spec (l : List Int) (x : Int) (hl : l.length < 1000000000000000000) (k : Nat) (hk : l.length < k) :
    (ballot_Place.f k l x = some (-1) ∧ x ∉ l) ∨ ∃ j, ∃ h : j < l.length, ballot_Place.f k l x = some (j : Int) ∧ l[j] = x := by
  unfold ballot_Place.f slices_Index_int_int.f
  rcases index_s l x hl l.length k 0 (Nat.sub_zero _) (Nat.zero_le _) hk with ⟨h1, h2⟩ | ⟨j, hj, h1, h2⟩
  · have h1' : slices_Index_int_int.l0 k l x (l.length : Int) 0 = some (-1) := h1
    rw [h1']
    refine .inl ⟨rfl, fun hm => ?_⟩
    obtain ⟨j, hj, e⟩ := List.mem_iff_getElem.1 hm
    exact h2 j (Nat.zero_le _) hj e
  · have h1' : slices_Index_int_int.l0 k l x (l.length : Int) 0 = some (j : Int) := h1
    rw [h1']
    exact .inr ⟨j, hj, rfl, h2⟩
def shl (l : List Int) (p q : Nat) (x1 x2 : Int) : List Int := if p = 0 then l.eraseIdx 1 ++ [x2] else (((l.eraseIdx (p + 1)).eraseIdx p).take (q - 1) ++ x1 :: ((l.eraseIdx (p + 1)).eraseIdx p).drop (q - 1)) ++ [x2]
theorem quorums (n : Int) (hR : ballot_Right.f n = some true) : ∃ f : Nat, n = ((3 * f + 1 : Nat) : Int) ∧ ballot_Quorum.f n = some ((2 * f + 1 : Nat) : Int) ∧ True ∧ 1 ≤ f ∧ f ≤ 5 := by
  by_cases h4 : n = 4
  · subst h4; exact ⟨1, rfl, by kernel_rfl, trivial, by omega, by omega⟩
  by_cases h7 : n = 7
  · subst h7; exact ⟨2, rfl, by kernel_rfl, trivial, by omega, by omega⟩
  by_cases h10 : n = 10
  · subst h10; exact ⟨3, rfl, by kernel_rfl, trivial, by omega, by omega⟩
  by_cases h13 : n = 13
  · subst h13; exact ⟨4, rfl, by kernel_rfl, trivial, by omega, by omega⟩
  by_cases h16 : n = 16
  · subst h16; exact ⟨5, rfl, by kernel_rfl, trivial, by omega, by omega⟩
  rw [right_no n h4 h7 h10 h13 h16] at hR
  cases hR
theorem okc_perm (l : List Int) (h : okc l = true) : l.Perm (rng l.length) := by
  refine perm_rng l.length l rfl (fun r hr => ?_)
  unfold okc at h
  have := List.all_eq_true.1 h r (List.mem_range.2 hr)
  rw [beq_iff_eq.1 this]
  decide
theorem okc_nodup (l : List Int) (h : okc l = true) : l.Nodup := (okc_perm l h).nodup_iff.2 ((rng_lt _).imp (fun h => Int.ne_of_lt h))
theorem okc_of (l m : List Int) (h : okc l = true) (hp : m.Perm l) : okc m = true := by
  unfold okc at *
  rw [List.all_eq_true] at *
  intro r hr
  rw [hp.count_eq]
  exact h r (by rw [hp.length_eq] at hr; exact hr)
theorem cons_erase (l : List Int) (i : Nat) (h : i < l.length) : (l[i] :: l.eraseIdx i).Perm l := by
  rw [List.eraseIdx_eq_take_drop_succ]
  refine (List.perm_middle.symm).trans ?_
  rw [← List.drop_eq_getElem_cons h, List.take_append_drop]
theorem take_erase : ∀ (l : List Int) (i m : Nat), i ≤ m → (l.eraseIdx i).take m = (l.take (m + 1)).eraseIdx i
  | [], _, _, _ => by simp
  | a :: t, 0, m, _ => by simp
  | a :: t, i + 1, m, h => by
    obtain ⟨m, rfl⟩ : ∃ k, m = k + 1 := ⟨m - 1, by omega⟩
    simp only [List.eraseIdx_cons_succ, List.take_succ_cons]
    rw [take_erase t i m (by omega)]
theorem ins_take (x : Int) : ∀ (A : List Int) (a m : Nat), a ≤ m → ((A.take a ++ x :: A.drop a).take (m + 1)).Perm (x :: A.take m)
  | A, 0, m, _ => by simp
  | [], a + 1, m, _ => by simp
  | b :: t, a + 1, m, h => by
    obtain ⟨m, rfl⟩ : ∃ k, m = k + 1 := ⟨m - 1, by omega⟩
    simp only [List.take_succ_cons, List.drop_succ_cons, List.cons_append]
    exact (List.Perm.cons b (ins_take x t a m (by omega))).trans (List.Perm.swap x b (t.take m))
theorem shl_len (o : List Int) (j q : Nat) (x1 x2 : Int) (hj : j + 1 < o.length) : (shl o j q x1 x2).length = o.length := by
  have h1 : (o.eraseIdx (j + 1)).length = o.length - 1 := List.length_eraseIdx_of_lt hj
  have h2 : ((o.eraseIdx (j + 1)).eraseIdx j).length = o.length - 2 := by rw [List.length_eraseIdx_of_lt (by rw [h1]; omega), h1]; omega
  unfold shl
  split
  · rw [List.length_append, List.length_eraseIdx_of_lt (by omega)]
    simp
    omega
  · rw [List.length_append, List.length_append, List.length_cons, List.length_take, List.length_drop, h2]
    simp
    omega
theorem shl_take (o : List Int) (j q m : Nat) (x2 : Int) (hj : j + 1 < o.length) (hjq : j + 1 < q) (hm : q ≤ m) (hmn : m + 1 ≤ o.length) : ((shl o j q o[j] x2).take m).Perm ((o.take (m + 1)).eraseIdx (j + 1)) := by
  have h1 : (o.eraseIdx (j + 1)).length = o.length - 1 := List.length_eraseIdx_of_lt hj
  have h2 : ((o.eraseIdx (j + 1)).eraseIdx j).length = o.length - 2 := by rw [List.length_eraseIdx_of_lt (by rw [h1]; omega), h1]; omega
  unfold shl
  by_cases h0 : j = 0
  · subst h0
    rw [if_pos rfl, List.take_append_of_le_length (by rw [List.length_eraseIdx_of_lt (by omega)]; omega), take_erase o 1 m (by omega)]
  · rw [if_neg h0, List.take_append_of_le_length (by rw [List.length_append, List.length_cons, List.length_take, List.length_drop, h2]; omega)]
    obtain ⟨m, rfl⟩ : ∃ k, m = k + 1 := ⟨m - 1, by omega⟩
    refine (ins_take o[j] _ (q - 1) m (by omega)).trans ?_
    rw [take_erase _ j m (by omega), take_erase o (j + 1) (m + 1) (by omega)]
    have hY : j < ((o.take (m + 1 + 1)).eraseIdx (j + 1)).length := by
      rw [List.length_eraseIdx_of_lt (by rw [List.length_take]; omega), List.length_take]
      omega
    have e : ((o.take (m + 1 + 1)).eraseIdx (j + 1))[j] = o[j] := by
      rw [List.getElem_eraseIdx_of_lt _ (by omega), List.getElem_take]
    rw [← e]
    exact cons_erase _ _ hY
theorem shl_perm (o : List Int) (j q : Nat) (hj : j + 1 < o.length) (hjq : j + 1 < q) (hq : q + 1 ≤ o.length) : (shl o j q o[j] o[j + 1]).Perm o := by
  have h := shl_take o j q (o.length - 1) o[j + 1] hj hjq (by omega) (by omega)
  rw [show o.length - 1 + 1 = o.length by omega, List.take_length] at h
  have e : shl o j q o[j] o[j + 1] = (shl o j q o[j] o[j + 1]).take (o.length - 1) ++ [o[j + 1]] := by
    have hl := shl_len o j q o[j] o[j + 1] hj
    have : ∀ X : List Int, X.length = o.length - 1 → (X ++ [o[j + 1]]) = (X ++ [o[j + 1]]).take (o.length - 1) ++ [o[j + 1]] := fun X hX => by
      rw [List.take_append_of_le_length (by omega), List.take_of_length_le (by omega)]
    unfold shl at hl ⊢
    split
    · rename_i h0
      rw [if_pos h0] at hl
      exact this _ (by simp at hl; omega)
    · rename_i h0
      rw [if_neg h0] at hl
      exact this _ (by rw [List.length_append, List.length_singleton] at hl; omega)
  rw [e]
  refine (List.perm_append_comm).trans ?_
  exact (List.Perm.cons _ h).trans (cons_erase _ _ hj)
theorem shl_head (a : Int) (t : List Int) (j q : Nat) (x1 x2 : Int) (hq : 2 ≤ q) : ∃ t', shl (a :: t) j q x1 x2 = a :: t' := by
  unfold shl
  cases j with
  | zero => exact ⟨_, by rw [if_pos rfl]; rfl⟩
  | succ j =>
    obtain ⟨q, rfl⟩ : ∃ k, q = k + 2 := ⟨q - 2, by omega⟩
    exact ⟨_, by rw [if_neg (by omega)]; rfl⟩
theorem turn (o : List Int) (f j k : Nat) (hok : okc o = true) (hlen : o.length = 3 * f + 1) (hf1 : 1 ≤ f) (hf5 : f ≤ 5) (hR : ballot_Right.f (o.length : Int) = some true) (hq : ballot_Quorum.f (o.length : Int) = some ((2 * f + 1 : Nat) : Int)) (hj : j + 1 < 2 * f + 1) (hk : 100 ≤ k) :
    ballot_Shift.f k o (o[j]'(by omega)) (o[j + 1]'(by omega)) = some (shl o j (2 * f + 1) (o[j]'(by omega)) (o[j + 1]'(by omega)), 0) := by
  have hpl : ballot_Place.f k o (o[j]'(by omega)) = some (j : Int) := by
    rcases place_spec o (o[j]'(by omega)) (by omega) k (by omega) with ⟨_, h⟩ | ⟨j', hj', h1, h2⟩
    · exact absurd (List.getElem_mem _) h
    · have : j' = j := (List.getElem_inj (okc_nodup o hok)).1 h2
      rw [h1, this]
  unfold ballot_Shift.f
  rw [hpl, hq, order_is o _ hR, hok]
  simp only [Option.bind_some, decide_true, Bool.and_self, if_true]
  rw [if_neg (by omega), if_pos ⟨by omega, by omega, by omega, by omega⟩, if_pos (by omega)]
  have hrd : rd o ((j : Int) + 1) = o[j + 1]'(by omega) := by rw [← Int.natCast_succ]; exact rd_get o (j + 1) (by omega)
  rw [hrd, if_pos rfl]
  unfold shl
  by_cases c5 : j = 0
  · rw [if_pos c5, if_pos (by omega)]
  · rw [if_neg c5, if_neg (by omega)]
    rw [show ((j : Int)).toNat = j from Int.toNat_natCast j, show (((2 * f + 1 : Nat) : Int) - 1).toNat = 2 * f + 1 - 1 by omega]
theorem rd_map {g : Int → Int} (l : List Int) (i : Int) (h0 : 0 ≤ i) (h1 : i < (l.length : Int)) : rd (l.map g) i = g (rd l i) := by
  obtain ⟨j, rfl⟩ : ∃ j : Nat, i = j := ⟨i.toNat, by omega⟩
  rw [rd_get _ j (by simp; omega), rd_get _ j (by omega), List.getElem_map]
theorem erase_map (g : Int → Int) (l : List Int) (i : Nat) : (l.map g).eraseIdx i = (l.eraseIdx i).map g := by
  rw [List.eraseIdx_eq_take_drop_succ, List.eraseIdx_eq_take_drop_succ, List.map_append, List.map_take, List.map_drop]
theorem shl_map (g : Int → Int) (l : List Int) (p q : Nat) (x1 x2 : Int) : shl (l.map g) p q (g x1) (g x2) = (shl l p q x1 x2).map g := by
  unfold shl
  split
  · rw [erase_map, List.map_append]; rfl
  · rw [erase_map, erase_map, List.map_append, List.map_append, List.map_cons, List.map_take, List.map_drop]; rfl
/-- An order is the numbers below its length, renamed by what is one to one. -/
theorem order_form (l : List Int) (h : okc l = true) : ∃ g : Int → Int, (∀ a b, g a = g b ↔ a = b) ∧ l = (rng l.length).map g ∧ ∀ j, (hj : j < l.length) → l[j] = g (j : Int) := by
  have hc : ∀ r : Nat, r < l.length → l.count (r : Int) = 1 := fun r hr => by
    unfold okc at h
    have := List.all_eq_true.1 h r (List.mem_range.2 hr)
    exact beq_iff_eq.1 this
  have hp := perm_rng l.length l rfl (fun r hr => by rw [hc r hr]; decide)
  have hn : l.Nodup := hp.nodup_iff.2 ((rng_lt _).imp (fun h => Int.ne_of_lt h))
  have hm : ∀ j, (hj : j < l.length) → 0 ≤ l[j] ∧ l[j] < l.length := fun j hj => by
    have : l[j] ∈ rng l.length := hp.mem_iff.1 (List.getElem_mem hj)
    unfold rng at this
    obtain ⟨r, hr, e⟩ := List.mem_map.1 this
    have := List.mem_range.1 hr
    rw [← e]
    constructor
    · exact Int.natCast_nonneg r
    · exact Int.ofNat_lt.2 this
  have hget : ∀ j, (hj : j < l.length) → (if 0 ≤ (j : Int) ∧ (j : Int) < l.length then rd l (j : Int) else (j : Int)) = l[j] := fun j hj => by
    rw [if_pos ⟨by omega, by omega⟩, rd_get l j hj]
  refine ⟨fun i => if 0 ≤ i ∧ i < l.length then rd l i else i, fun a b => ⟨fun e => ?_, fun e => by rw [e]⟩, ?_, fun j hj => (hget j hj).symm⟩
  · by_cases ha : 0 ≤ a ∧ a < l.length
    · obtain ⟨i, rfl⟩ : ∃ i : Nat, a = i := ⟨a.toNat, by omega⟩
      have hi : i < l.length := by omega
      have e' : (if 0 ≤ (i : Int) ∧ (i : Int) < l.length then rd l (i : Int) else (i : Int)) = if 0 ≤ b ∧ b < l.length then rd l b else b := e
      rw [hget i hi] at e'
      by_cases hb : 0 ≤ b ∧ b < l.length
      · obtain ⟨j, rfl⟩ : ∃ j : Nat, b = j := ⟨b.toNat, by omega⟩
        have hj : j < l.length := by omega
        rw [hget j hj] at e'
        have := (List.getElem_inj hn).1 e'
        rw [this]
      · rw [if_neg hb] at e'
        have := hm i hi
        omega
    · have e' : (if 0 ≤ a ∧ a < l.length then rd l a else a) = if 0 ≤ b ∧ b < l.length then rd l b else b := e
      rw [if_neg ha] at e'
      by_cases hb : 0 ≤ b ∧ b < l.length
      · obtain ⟨j, rfl⟩ : ∃ j : Nat, b = j := ⟨b.toNat, by omega⟩
        have hj : j < l.length := by omega
        rw [hget j hj] at e'
        have := hm j hj
        omega
      · rw [if_neg hb] at e'
        exact e'
  · apply List.ext_getElem
    · simp [rng]
    · intro i h1 h2
      rw [List.getElem_map]
      have : (rng l.length)[i]'(by simpa [rng] using h1) = (i : Int) := by simp [rng]
      rw [this]
      exact (hget i h1).symm
def keep (a b x : Int) : Bool := x != a && x != b
def chkM (n q i : Nat) : Bool := let s := shl (rng n) i q (i : Int) ((i : Int) + 1)
  rd s 0 == 0 && rd s ((n - 1 : Nat) : Int) == (i : Int) + 1 && (i == 0 || rd s ((q - 1 : Nat) : Int) == (i : Int)) && s.filter (keep (i : Int) ((i : Int) + 1)) == (rng n).filter (keep (i : Int) ((i : Int) + 1))
theorem chksM : (List.range 2).all (chkM 4 3) = true ∧ (List.range 4).all (chkM 7 5) = true ∧ (List.range 6).all (chkM 10 7) = true ∧ (List.range 8).all (chkM 13 9) = true ∧ (List.range 10).all (chkM 16 11) = true := by
  refine ⟨?_, ?_, ?_, ?_, ?_⟩ <;> kernel_rfl
theorem chkM_of (f i : Nat) (h1 : 1 ≤ f) (h5 : f ≤ 5) (hi : i < 2 * f) : chkM (3 * f + 1) (2 * f + 1) i = true := by
  obtain ⟨c4, c7, c10, c13, c16⟩ := chksM
  have hf : f = 1 ∨ f = 2 ∨ f = 3 ∨ f = 4 ∨ f = 5 := by omega
  rcases hf with rfl | rfl | rfl | rfl | rfl
  · exact List.all_eq_true.1 c4 i (List.mem_range.2 hi)
  · exact List.all_eq_true.1 c7 i (List.mem_range.2 hi)
  · exact List.all_eq_true.1 c10 i (List.mem_range.2 hi)
  · exact List.all_eq_true.1 c13 i (List.mem_range.2 hi)
  · exact List.all_eq_true.1 c16 i (List.mem_range.2 hi)
theorem loop (l o : List Int) (a b : Int) (hlen : o.length = l.length) (hl : l.length < 1000000) (d : Nat) : ∀ (k i : Nat) (R T : List Int), o.length - i = d → i ≤ o.length → R.length ≤ i → T.length ≤ i →
    catenarylaw04_BallotMoves.l0 (k + (2 * d + 1)) l a b o R T (o.length : Int) (i : Int) = (catenaryref04_Same.f k (R ++ (o.drop i).filter (keep a b)) (T ++ (l.drop i).filter (keep a b))).bind fun t => some t := by
  induction d with
  | zero =>
    intro k i R T hd hi hR hT
    show catenarylaw04_BallotMoves.l0 (k + 1) l a b o R T (o.length : Int) (i : Int) = _
    simp only [catenarylaw04_BallotMoves.l0]
    rw [if_neg (by omega), List.drop_eq_nil_of_le (by omega), List.drop_eq_nil_of_le (by omega), List.filter_nil, List.append_nil, List.append_nil]
  | succ d ih =>
    intro k i R T hd hi hR hT
    have hio : i < o.length := by omega
    have hil : i < l.length := by omega
    obtain ⟨K, hK⟩ : ∃ K, K = k + (2 * d + 1) := ⟨_, rfl⟩
    have e1 : catenarylaw04_BallotMoves.l0 (k + (2 * (d + 1) + 1)) l a b o R T (o.length : Int) (i : Int) = catenarylaw04_BallotMoves.j3 (K + 1) l a b o R T (i : Int) (o.length : Int) (i : Int) (keep a b o[i]) := by
      rw [show k + (2 * (d + 1) + 1) = (K + 1) + 1 by omega]
      obtain ⟨K', hK'⟩ : ∃ K', K' = K + 1 := ⟨_, rfl⟩
      rw [← hK']
      simp only [catenarylaw04_BallotMoves.l0]
      rw [if_pos (by omega), if_pos (by omega), if_pos (by omega), rd_get o i hio]
      unfold keep
      by_cases h : o[i] = a
      · rw [if_pos h, bne_eq_false_iff_eq.2 h, Bool.false_and]
      · rw [if_neg h, bne_iff_ne.2 h, Bool.true_and]
    rw [e1]
    have hdo : (o.drop i).filter (keep a b) = (if keep a b o[i] = true then [o[i]] else []) ++ (o.drop (i + 1)).filter (keep a b) := by
      rw [List.drop_eq_getElem_cons hio, List.filter_cons]
      split <;> rfl
    have hdl : (l.drop i).filter (keep a b) = (if keep a b l[i] = true then [l[i]] else []) ++ (l.drop (i + 1)).filter (keep a b) := by
      rw [List.drop_eq_getElem_cons hil, List.filter_cons]
      split <;> rfl
    have others : ∀ R' : List Int, R'.length ≤ i + 1 → (if rd l (i : Int) = a then catenarylaw04_BallotMoves.l0 K l a b o R' T (o.length : Int) (wrap64 ((i : Int) + 1)) else if rd l (i : Int) = b then catenarylaw04_BallotMoves.l0 K l a b o R' T (o.length : Int) (wrap64 ((i : Int) + 1)) else if T.length < 17592186044416 then catenarylaw04_BallotMoves.l0 K l a b o R' (T ++ [rd l (i : Int)]) (o.length : Int) (wrap64 ((i : Int) + 1)) else none) = (catenaryref04_Same.f k (R' ++ (o.drop (i + 1)).filter (keep a b)) (T ++ (l.drop i).filter (keep a b))).bind fun t => some t := by
      intro R' hR'
      rw [rd_get l i hil, w64 i (by omega), hdl, hK]
      by_cases h1 : l[i] = a
      · rw [if_pos h1, ih k (i + 1) R' T (by omega) (by omega) hR' (by omega), show keep a b l[i] = false by unfold keep; rw [bne_eq_false_iff_eq.2 h1, Bool.false_and]]
        rfl
      · rw [if_neg h1]
        by_cases h2 : l[i] = b
        · rw [if_pos h2, ih k (i + 1) R' T (by omega) (by omega) hR' (by omega), show keep a b l[i] = false by unfold keep; rw [bne_eq_false_iff_eq.2 h2, Bool.and_false]]
          rfl
        · rw [if_neg h2, if_pos (by omega), ih k (i + 1) R' (T ++ [l[i]]) (by omega) (by omega) hR' (by simp; omega), show keep a b l[i] = true by unfold keep; rw [bne_iff_ne.2 h1, bne_iff_ne.2 h2]; rfl]
          rw [if_pos rfl, List.append_assoc]
    simp only [catenarylaw04_BallotMoves.j3]
    rw [hdo]
    by_cases hk : keep a b o[i] = true
    · rw [if_pos hk, if_pos hk, if_pos (by omega), if_pos (by omega), if_pos (by omega)]
      simp only [Option.bind_some]
      rw [if_pos (by omega), rd_get o i hio, others (R ++ [o[i]]) (by simp; omega), List.append_assoc]
    · rw [if_neg hk, if_neg hk, if_pos (by omega), if_pos (by omega), others R (by omega), List.nil_append]
theorem tails (l o : List Int) (a b : Int) (k : Nat) (hk : 200 ≤ k) (hlen : o.length = l.length) (hl : l.length ≤ 16) (hf : o.filter (keep a b) = l.filter (keep a b)) : catenarylaw04_BallotMoves.j1 k l a b o false = some true := by
  obtain ⟨k, rfl⟩ : ∃ m, k = (m + (2 * o.length + 1)) + 1 := ⟨k - (2 * o.length + 2), by omega⟩
  obtain ⟨K, hK⟩ : ∃ K, K = k + (2 * o.length + 1) := ⟨_, rfl⟩
  rw [← hK]
  simp only [catenarylaw04_BallotMoves.j1, Bool.false_eq_true, if_false]
  rw [hK]
  have h := loop l o a b hlen (by omega) o.length k 0 [] [] (Nat.sub_zero _) (Nat.zero_le _) (Nat.le_refl _) (Nat.le_refl _)
  have h' : catenarylaw04_BallotMoves.l0 (k + (2 * o.length + 1)) l a b o [] [] (o.length : Int) 0 = _ := h
  rw [h', List.drop_zero, List.drop_zero, List.nil_append, List.nil_append, hf]
  have hle : (l.filter (keep a b)).length ≤ l.length := List.length_filter_le _ _
  rw [same_is _ (by omega) k (by omega)]
  rfl
theorem rightv (n : Int) : ballot_Right.f n = some true ∨ ballot_Right.f n = some false := by
  unfold ballot_Right.f
  split
  · split
    · cases (Int.tmod n 3 == 1)
      · exact .inr rfl
      · exact .inl rfl
    · exact .inr rfl
  · exact .inr rfl
theorem quorum_no (n : Int) (h : ballot_Right.f n = some false) : ballot_Quorum.f n = some 0 := by
  unfold ballot_Quorum.f ballot_times.f
  rw [h]
  rfl
set_option maxHeartbeats 2000000 in
theorem BallotMoves : catenarylaw04_BallotMoves.Pure := by
  intro l place hl _
  have hol : l.length < 17592186044416 := by have := hl.1; have := hl.2.1; omega
  refine ⟨l.length + 980 + 20, ?_⟩
  obtain ⟨K, hK⟩ : ∃ K, K = l.length + 980 + 19 := ⟨_, rfl⟩
  have hK1 : l.length + 980 + 20 = K + 1 := by omega
  unfold catenarylaw04_BallotMoves.f
  rw [alive]
  simp only [Option.bind_some, if_true]
  have hj0 : ∀ x, catenarylaw04_BallotMoves.j0 (l.length + 980 + 20) l x true = some true := fun x => by rw [hK1]; rfl
  have ewn : wrap64 ((l.length : Int) - 1) = (l.length : Int) - 1 := by unfold wrap64; omega
  by_cases h0 : place < 0
  · rw [if_pos h0, hj0]
  rw [if_neg h0, ewn]
  by_cases h1 : place ≥ (l.length : Int) - 1
  · rw [decide_eq_true h1, hj0]
  rw [decide_eq_false h1]
  obtain ⟨i, rfl⟩ : ∃ i : Nat, place = i := ⟨place.toNat, by omega⟩
  have hi : i + 1 < l.length := by omega
  rw [hK1]
  simp only [catenarylaw04_BallotMoves.j0, Bool.false_eq_true, if_false, Option.bind_some, List.nil_append, List.length_nil, Nat.zero_add]
  rw [w64 i (by omega)]
  rw [if_pos (by omega), if_pos (by omega), if_pos (by omega), if_pos (by omega), if_pos hol, rd_get l i (by omega), rd_get l (i + 1) hi, ewn]
  have refuse : ballot_Shift.f K l l[i] l[i + 1] = some ([], 41) → ((ballot_Order.f l (l.length : Int)).bind fun t132 => (if t132 = true then ((ballot_Quorum.f (l.length : Int)).bind fun t133 => (some (decide (((i + 1 : Nat) : Int) ≥ t133)))) else (some true))) = some true → ((ballot_Shift.f K l l[i] l[i + 1]).bind fun bt128 => (if bt128.2 = 0 then ((ballot_Order.f bt128.1 (l.length : Int)).bind fun t134 => (if t134 = true then (if 0 < (bt128.1.length : Int) then (if 0 < (l.length : Int) then (if (rd bt128.1 0) = (rd l 0) then (if 0 ≤ ((l.length : Int) - 1) then (if ((l.length : Int) - 1) < (bt128.1.length : Int) then (if (rd bt128.1 ((l.length : Int) - 1)) = l[i + 1] then (if (i : Int) > 0 then ((ballot_Place.f K bt128.1 l[i]).bind fun t138 => ((ballot_Quorum.f (l.length : Int)).bind fun t139 => (catenarylaw04_BallotMoves.j1 K l l[i] l[i + 1] bt128.1 (t138 != (wrap64 (t139 - 1)))))) else (catenarylaw04_BallotMoves.j1 K l l[i] l[i + 1] bt128.1 false)) else (catenarylaw04_BallotMoves.j1 K l l[i] l[i + 1] bt128.1 true)) else (none)) else (none)) else (catenarylaw04_BallotMoves.j1 K l l[i] l[i + 1] bt128.1 true)) else (none)) else (none)) else (catenarylaw04_BallotMoves.j1 K l l[i] l[i + 1] bt128.1 true))) else (if (bt128.1.length : Int) = 0 then ((ballot_Order.f l (l.length : Int)).bind fun t132 => (if t132 = true then ((ballot_Quorum.f (l.length : Int)).bind fun t133 => (some (decide (((i + 1 : Nat) : Int) ≥ t133)))) else (some true))) else (some false)))) = some true := by
    intro hs hr
    rw [hs]
    exact hr
  have hpl : ∃ p, ballot_Place.f K l l[i] = some p := by
    rcases place_spec l l[i] (by omega) K (by omega) with ⟨h, _⟩ | ⟨j, _, h, _⟩
    · exact ⟨_, h⟩
    · exact ⟨_, h⟩
  rcases rightv (l.length : Int) with R | R
  rotate_left
  · refine refuse ?_ ?_
    · obtain ⟨p, hp⟩ := hpl
      unfold ballot_Shift.f
      rw [hp, quorum_no _ R, order_no l _ R]
      rfl
    · rw [order_no l _ R]
      rfl
  obtain ⟨f, hn, hq, _, f1, f5⟩ := quorums _ R
  have hlen : l.length = 3 * f + 1 := by omega
  have ho := order_is l _ R
  rw [decide_eq_true rfl, Bool.true_and] at ho
  by_cases hok : okc l = true
  rotate_left
  · have hok' : okc l = false := Bool.eq_false_iff.2 hok
    rw [hok'] at ho
    refine refuse ?_ ?_
    · obtain ⟨p, hp⟩ := hpl
      unfold ballot_Shift.f
      rw [hp, hq, ho]
      rfl
    · rw [ho]
      rfl
  rw [hok] at ho
  have hpli : ballot_Place.f K l l[i] = some (i : Int) := by
    rcases place_spec l l[i] (by omega) K (by omega) with ⟨_, h⟩ | ⟨j', hj', h1, h2⟩
    · exact absurd (List.getElem_mem _) h
    · have : j' = i := (List.getElem_inj (okc_nodup l hok)).1 h2
      rw [h1, this]
  by_cases hiq : i + 1 < 2 * f + 1
  rotate_left
  · refine refuse ?_ ?_
    · unfold ballot_Shift.f
      rw [hpli, hq, ho]
      simp only [Option.bind_some, if_true]
      rw [if_neg (by omega), if_pos ⟨by omega, by omega, by omega, by omega⟩, if_neg (by omega)]
    · rw [ho, hq]
      simp only [Option.bind_some, if_true]
      rw [decide_eq_true (by omega)]
  have hR' : ballot_Right.f (l.length : Int) = some true := R
  have hT := turn l f i K hok hlen f1 f5 R hq hiq (by omega)
  rw [hT]
  simp only [Option.bind_some, if_true]
  obtain ⟨g, hg, hform, hget⟩ := order_form l hok
  have hc := chkM_of f i f1 f5 (by omega)
  rw [← hlen] at hc
  unfold chkM at hc
  simp only [Bool.and_eq_true, Bool.or_eq_true, beq_iff_eq] at hc
  obtain ⟨⟨⟨c1, c2⟩, c3⟩, c4⟩ := hc
  have hrl : (rng l.length).length = l.length := by simp [rng]
  have hs := shl_map g (rng l.length) i (2 * f + 1) (i : Int) ((i : Int) + 1)
  rw [← hform, ← hget i (by omega), ← Int.natCast_succ, ← hget (i + 1) hi, Int.natCast_succ] at hs
  have hsl := shl_len l i (2 * f + 1) l[i] l[i + 1] hi
  have hsl0 := shl_len (rng l.length) i (2 * f + 1) (i : Int) ((i : Int) + 1) (by rw [hrl]; exact hi)
  have hsok := okc_of _ _ hok (shl_perm l i (2 * f + 1) hi hiq (by omega))
  have hso := order_is (shl l i (2 * f + 1) l[i] l[i + 1]) _ R
  rw [decide_eq_true (show (((shl l i (2 * f + 1) l[i] l[i + 1]).length : Nat) : Int) = (l.length : Int) by rw [hsl]), Bool.true_and, hsok] at hso
  rw [hso]
  simp only [Option.bind_some, if_true]
  have r0 : rd (shl l i (2 * f + 1) l[i] l[i + 1]) 0 = rd l 0 := by
    rw [hs, rd_map _ 0 (by omega) (by omega), c1]
    have := hget 0 (by omega)
    rw [show ((0 : Nat) : Int) = 0 from rfl] at this
    rw [← this]
    exact (rd_get l 0 (by omega)).symm
  have rn : rd (shl l i (2 * f + 1) l[i] l[i + 1]) ((l.length : Int) - 1) = l[i + 1] := by
    rw [hs, rd_map _ _ (by omega) (by omega)]
    rw [show ((l.length : Int) - 1) = ((l.length - 1 : Nat) : Int) by omega, c2, hget (i + 1) hi, Int.natCast_succ]
  have hflt : (shl l i (2 * f + 1) l[i] l[i + 1]).filter (keep l[i] l[i + 1]) = l.filter (keep l[i] l[i + 1]) := by
    have hk : ∀ s : List Int, (s.map g).filter (keep l[i] l[i + 1]) = (s.filter (keep (i : Int) ((i : Int) + 1))).map g := fun s => by
      rw [List.filter_map]
      congr 1
      apply List.filter_congr
      intro x _
      show keep l[i] l[i + 1] (g x) = keep (i : Int) ((i : Int) + 1) x
      unfold keep
      rw [hget i (by omega), hget (i + 1) hi, Int.natCast_succ]
      congr 1
      · rw [Bool.eq_iff_iff, bne_iff_ne, bne_iff_ne, Ne, Ne, hg]
      · rw [Bool.eq_iff_iff, bne_iff_ne, bne_iff_ne, Ne, Ne, hg]
    rw [hs, hk, c4, ← hk, ← hform]
  rw [if_pos (by omega), if_pos (by omega), if_pos r0, if_pos (by omega), if_pos (by omega), if_pos rn]
  by_cases hi0 : (i : Int) > 0
  · rw [if_pos hi0, hq]
    have hpq : ballot_Place.f K (shl l i (2 * f + 1) l[i] l[i + 1]) l[i] = some ((2 * f + 1 - 1 : Nat) : Int) := by
      have hqe : (shl l i (2 * f + 1) l[i] l[i + 1])[2 * f + 1 - 1]'(by omega) = l[i] := by
        have h3 : rd (shl (rng l.length) i (2 * f + 1) (i : Int) ((i : Int) + 1)) ((2 * f + 1 - 1 : Nat) : Int) = (i : Int) := by
          rcases c3 with h | h
          · omega
          · exact h
        have h4 := rd_get (shl l i (2 * f + 1) l[i] l[i + 1]) (2 * f + 1 - 1) (by omega)
        rw [← h4, hs, rd_map _ _ (by omega) (by omega), h3, hget i (by omega)]
      rcases place_spec (shl l i (2 * f + 1) l[i] l[i + 1]) l[i] (by omega) K (by omega) with ⟨_, h⟩ | ⟨j', hj', h1, h2⟩
      · have hm := List.getElem_mem (show 2 * f + 1 - 1 < (shl l i (2 * f + 1) l[i] l[i + 1]).length by omega)
        rw [hqe] at hm
        exact absurd hm h
      · have : j' = 2 * f + 1 - 1 := (List.getElem_inj (okc_nodup _ hsok)).1 (h2.trans hqe.symm)
        rw [h1, this]
    rw [hpq]
    simp only [Option.bind_some]
    rw [show (((2 * f + 1 - 1 : Nat) : Int) != wrap64 (((2 * f + 1 : Nat) : Int) - 1)) = false by rw [bne_eq_false_iff_eq]; unfold wrap64; omega]
    exact tails l _ _ _ K (by omega) hsl (by omega) hflt
  · rw [if_neg hi0]
    exact tails l _ _ _ K (by omega) hsl (by omega) hflt

end Go.Proofs.Ytekfobefehkajaa.Pure
