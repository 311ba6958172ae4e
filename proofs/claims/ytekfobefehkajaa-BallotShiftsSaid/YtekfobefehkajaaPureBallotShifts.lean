import Derived.Test.YtekfobefehkajaaPBallotShiftsx4
namespace Go.Proofs.Ytekfobefehkajaa.Pure
open Go.RowKit Go.Proofs.Ytekfobefehkajaa.PBallotShifts Go.Proofs.YtekfobefehkajaaW.PrintWords Go.Proofs.YtekfobefehkajaaW.PrintLast Go.Proofs.YtekfobefehkajaaW.PrintMore

theorem sorted7 : (([0, 1, 2, 3, 4, 5, 6] : List Int).mergeSort (fun x y => decide (x ≤ y))) = (List.range 7).map Int.ofNat := by
  rw [List.mergeSort_of_pairwise (by decide)]
  rfl
theorem order7 : ballot_Order.f [0, 1, 2, 3, 4, 5, 6] 7 = some true := by
  unfold ballot_Order.f
  rw [show ballot_Right.f 7 = some true from rfl]
  simp only [Option.bind_some, if_true]
  rw [if_pos (by rfl), show ([0, 1, 2, 3, 4, 5, 6] : List Int).length = 7 from rfl, sorted7]
  simp
theorem shift7 (k : Nat) : ballot_Shift.f (k + 20) [0, 1, 2, 3, 4, 5, 6] 2 3 = some ([0, 1, 4, 5, 2, 6, 3], 0) := by
  unfold ballot_Shift.f
  rw [show ballot_Place.f (k + 20) [0, 1, 2, 3, 4, 5, 6] 2 = some 2 from by kernel_rfl]
  rw [show ((([0, 1, 2, 3, 4, 5, 6] : List Int).length : Nat) : Int) = 7 from rfl, show ballot_Quorum.f 7 = some 5 from by kernel_rfl, order7]
  kernel_rfl
theorem alive (k : Nat) : catenarylaw04_ballotAlive.f (k + 20) = some true := by
  unfold catenarylaw04_ballotAlive.f
  rw [shift7]
  kernel_rfl
theorem right_no (n : Int) (h4 : n ≠ 4) (h7 : n ≠ 7) (h10 : n ≠ 10) (h13 : n ≠ 13) (h16 : n ≠ 16) : ballot_Right.f n = some false := by
  unfold ballot_Right.f
  split
  · split
    · have : Int.tmod n 3 = n % 3 := Int.tmod_eq_emod_of_nonneg (by omega)
      rw [this, show (n % 3 == 1) = false from beq_eq_false_iff_ne.2 (by omega)]
    · rfl
  · rfl
theorem faults_no (k : Nat) (n : Int) (h4 : n ≠ 4) (h7 : n ≠ 7) (h10 : n ≠ 10) (h13 : n ≠ 13) (h16 : n ≠ 16) : catenaryref04_Faults.f (k + 20) n = some 0 := by
  unfold catenaryref04_Faults.f
  simp [catenaryref04_Faults.l0, wrap64, h4, h7, h10, h13, h16]
def rng (n : Nat) : List Int := (List.range n).map Int.ofNat
theorem rng_lt (n : Nat) : (rng n).Pairwise (· < ·) := by
  unfold rng
  rw [List.pairwise_map]
  exact List.pairwise_lt_range.imp (fun h => Int.ofNat_lt.2 h)
theorem rng_count (n r : Nat) (h : r < n) : (rng n).count (r : Int) = 1 := by
  have hn : (rng n).Nodup := (rng_lt n).imp (fun h => Int.ne_of_lt h)
  rw [hn.count, if_pos]
  unfold rng
  exact List.mem_map.2 ⟨r, List.mem_range.2 h, rfl⟩
theorem perm_rng : ∀ (n : Nat) (l : List Int), l.length = n → (∀ r : Nat, r < n → 0 < l.count (r : Int)) → l.Perm (rng n)
  | 0, l, hl, _ => by
    obtain rfl := List.length_eq_zero_iff.1 hl
    exact List.Perm.refl _
  | n + 1, l, hl, hc => by
    have hm : (n : Int) ∈ l := List.count_pos_iff.1 (hc n (by omega))
    have hp := List.perm_cons_erase hm
    have ih := perm_rng n (l.erase (n : Int)) (by rw [List.length_erase_of_mem hm]; omega) (fun r hr => by
      rw [List.count_erase_of_ne (by omega)]
      exact hc r (by omega))
    have e : rng (n + 1) = rng n ++ [(n : Int)] := by unfold rng; rw [List.range_succ, List.map_append]; rfl
    rw [e]
    exact hp.trans ((List.Perm.cons _ ih).trans (List.perm_append_comm (l₁ := [(n : Int)]) (l₂ := rng n)))
theorem sorted_iff (l : List Int) : l.mergeSort (fun x y => decide (x ≤ y)) = rng l.length ↔ ∀ r : Nat, r < l.length → l.count (r : Int) = 1 := by
  constructor
  · intro h r hr
    have hp := List.mergeSort_perm l (fun x y => decide (x ≤ y))
    rw [h] at hp
    rw [← hp.count_eq]
    exact rng_count _ _ hr
  · intro h
    have hp := perm_rng l.length l rfl (fun r hr => by rw [h r hr]; decide)
    refine List.Perm.eq_of_pairwise (le := fun a b : Int => a ≤ b) (fun a b _ _ h1 h2 => Int.le_antisymm h1 h2) ?_ ((rng_lt _).imp Int.le_of_lt) ((List.mergeSort_perm _ _).trans hp)
    exact (List.pairwise_mergeSort (le := fun x y : Int => decide (x ≤ y)) (fun a b c h1 h2 => by simp at *; omega) (fun a b => by simp; omega) l).imp (fun h => by simpa using h)
def okc (l : List Int) : Bool := (List.range l.length).all fun r => l.count (r : Int) == 1
theorem order_is (l : List Int) (n : Int) (h : ballot_Right.f n = some true) : ballot_Order.f l n = some (decide ((l.length : Int) = n) && okc l) := by
  unfold ballot_Order.f
  rw [h]
  simp only [Option.bind_some, if_true]
  by_cases hl : (l.length : Int) = n
  · rw [if_pos hl, decide_eq_true hl, Bool.true_and]
    congr 1
    have := sorted_iff l
    unfold rng at this
    rw [Bool.eq_iff_iff, decide_eq_true_iff, this]
    unfold okc
    simp
  · rw [if_neg hl, decide_eq_false hl, Bool.false_and]
theorem order_no (l : List Int) (n : Int) (h : ballot_Right.f n = some false) : ballot_Order.f l n = some false := by
  unfold ballot_Order.f
  rw [h]
  rfl
theorem rd_get (l : List Int) (i : Nat) (h : i < l.length) : rd l (i : Int) = l[i] := by
  unfold rd
  simp [h]
theorem w64 (i : Nat) (h : i < 1000000000000000000) : wrap64 ((i : Int) + 1) = ((i + 1 : Nat) : Int) := by unfold wrap64; omega
theorem same_l (l : List Int) (hl : l.length < 1000000000000000000) (d : Nat) : ∀ (k i : Nat), l.length - i = d → i ≤ l.length → d < k → catenaryref04_Same.l0 k l l (l.length : Int) (i : Int) = some true := by
  induction d with
  | zero =>
    intro k i hd hi hk
    obtain ⟨k, rfl⟩ : ∃ m, k = m + 1 := ⟨k - 1, by omega⟩
    simp only [catenaryref04_Same.l0]
    rw [if_neg (by omega)]
  | succ d ih =>
    intro k i hd hi hk
    obtain ⟨k, rfl⟩ : ∃ m, k = m + 1 := ⟨k - 1, by omega⟩
    simp only [catenaryref04_Same.l0]
    rw [if_pos (by omega), if_pos (by omega), if_pos (by omega), if_pos (by omega), if_pos trivial, w64 i (by omega)]
    exact ih k (i + 1) (by omega) (by omega) (by omega)
theorem same_is (l : List Int) (hl : l.length < 1000000000000000000) (k : Nat) (hk : l.length < k) : catenaryref04_Same.f k l l = some true := by
  unfold catenaryref04_Same.f
  rw [if_pos rfl]
  exact same_l l hl l.length k 0 rfl (Nat.zero_le _) hk
theorem place_l (l : List Int) (x : Int) : ∀ (k : Nat) (n i : Int), slices_Index_int_int.l0 k l x n i = catenaryref04_Place.l0 k x l n i
  | 0, _, _ => rfl
  | k + 1, n, i => by
    simp only [slices_Index_int_int.l0, catenaryref04_Place.l0, place_l l x k, eq_comm (a := x) (b := rd l i)]
theorem place_t (l : List Int) (x : Int) (hl : l.length < 1000000000000000000) (d : Nat) : ∀ (k i : Nat), l.length - i = d → i ≤ l.length → d < k → ∃ p, catenaryref04_Place.l0 k x l (l.length : Int) (i : Int) = some p := by
  induction d with
  | zero =>
    intro k i hd hi hk
    obtain ⟨k, rfl⟩ : ∃ m, k = m + 1 := ⟨k - 1, by omega⟩
    simp only [catenaryref04_Place.l0]
    rw [if_neg (by omega)]
    exact ⟨_, rfl⟩
  | succ d ih =>
    intro k i hd hi hk
    obtain ⟨k, rfl⟩ : ∃ m, k = m + 1 := ⟨k - 1, by omega⟩
    simp only [catenaryref04_Place.l0]
    rw [if_pos (by omega), if_pos (by omega), if_pos (by omega), w64 i (by omega)]
    split
    · exact ⟨_, rfl⟩
    · exact ih k (i + 1) (by omega) (by omega) (by omega)
theorem place_is (l : List Int) (x : Int) (hl : l.length < 1000000000000000000) (k : Nat) (hk : l.length < k) : ∃ p, ballot_Place.f k l x = some p ∧ catenaryref04_Place.f k l x = some p := by
  obtain ⟨p, hp⟩ := place_t l x hl l.length k 0 rfl (Nat.zero_le _) hk
  refine ⟨p, ?_, hp⟩
  unfold ballot_Place.f slices_Index_int_int.f
  rw [place_l]
  have : catenaryref04_Place.l0 k x l (l.length : Int) 0 = some p := hp
  rw [this]
  rfl
theorem count_l (l : List Int) (n x : Int) (hl : l.length < 1000000) (d : Nat) : ∀ (k i c : Nat), l.length - i = d → i ≤ l.length → c ≤ i → catenaryref04_Order.l1 (k + (d + 1)) l n x (c : Int) l (l.length : Int) (i : Int) = if c + (l.drop i).count x = 1 then catenaryref04_Order.l0 k l n (wrap64 (x + 1)) else some false := by
  induction d with
  | zero =>
    intro k i c hd hi hc
    show catenaryref04_Order.l1 (k + 1) l n x (c : Int) l (l.length : Int) (i : Int) = _
    simp only [catenaryref04_Order.l1]
    rw [if_neg (by omega), List.drop_eq_nil_of_le (by omega), List.count_nil]
    by_cases h : c = 1
    · rw [if_pos (by omega), if_pos (by omega)]
    · rw [if_neg (by omega), if_neg (by omega)]
  | succ d ih =>
    intro k i c hd hi hc
    have hi' : i < l.length := by omega
    obtain ⟨K, hK⟩ : ∃ K, K = k + (d + 1) := ⟨_, rfl⟩
    show catenaryref04_Order.l1 ((k + (d + 1)) + 1) l n x (c : Int) l (l.length : Int) (i : Int) = _
    rw [← hK]
    simp only [catenaryref04_Order.l1]
    rw [if_pos (by omega), if_pos (by omega), if_pos (by omega), w64 i (by omega), w64 c (by omega), rd_get l i hi', List.drop_eq_getElem_cons hi', List.count_cons]
    by_cases h : l[i] = x
    · rw [if_pos h, hK, ih k (i + 1) (c + 1) (by omega) (by omega) (by omega), if_pos (show (l[i] == x) = true by rw [h]; exact beq_self_eq_true x)]
      rw [show c + 1 + (l.drop (i + 1)).count x = c + ((l.drop (i + 1)).count x + 1) by omega]
    · rw [if_neg h, hK, ih k (i + 1) c (by omega) (by omega) (by omega), if_neg (show ¬ (l[i] == x) = true by rw [beq_iff_eq]; exact h)]
      simp only [Nat.add_zero]
def okx (l : List Int) (x : Nat) : Bool := (List.range l.length).all fun r => decide (r < x) || l.count (r : Int) == 1
theorem outer_l (l : List Int) (hl : l.length < 1000000) (d : Nat) : ∀ (k x : Nat), l.length - x = d → x ≤ l.length → d * (l.length + 2) < k → catenaryref04_Order.l0 k l (l.length : Int) (x : Int) = some (okx l x) := by
  induction d with
  | zero =>
    intro k x hd hx hk
    obtain ⟨k, rfl⟩ : ∃ m, k = m + 1 := ⟨k - 1, by omega⟩
    simp only [catenaryref04_Order.l0]
    rw [if_neg (by omega)]
    congr 1
    symm
    unfold okx
    rw [List.all_eq_true]
    intro r hr
    have := List.mem_range.1 hr
    rw [decide_eq_true (show r < x by omega), Bool.true_or]
  | succ d ih =>
    intro k x hd hx hk
    rw [Nat.succ_mul] at hk
    obtain ⟨k, rfl⟩ : ∃ m, k = (m + (l.length + 1)) + 1 := ⟨k - (l.length + 2), by omega⟩
    obtain ⟨K, hK⟩ : ∃ K, K = k + (l.length + 1) := ⟨_, rfl⟩
    rw [← hK]
    simp only [catenaryref04_Order.l0]
    rw [if_pos (by omega), hK]
    have h0 := count_l l (l.length : Int) (x : Int) hl l.length k 0 0 (Nat.sub_zero _) (Nat.zero_le _) (Nat.zero_le _)
    rw [show ((0 : Nat) : Int) = 0 from rfl] at h0
    rw [h0, List.drop_zero, Nat.zero_add, w64 x (by omega)]
    by_cases h : l.count (x : Int) = 1
    · rw [if_pos h, ih k (x + 1) (by omega) (by omega) (by omega)]
      congr 1
      rw [Bool.eq_iff_iff]
      unfold okx
      rw [List.all_eq_true, List.all_eq_true]
      constructor
      · intro g r hr
        have := g r hr
        rw [Bool.or_eq_true, decide_eq_true_iff, beq_iff_eq] at this ⊢
        rcases this with h1 | h1
        · rcases Nat.eq_or_lt_of_le (Nat.lt_succ_iff.1 h1) with rfl | h3
          · exact .inr h
          · exact .inl h3
        · exact .inr h1
      · intro g r hr
        have := g r hr
        rw [Bool.or_eq_true, decide_eq_true_iff, beq_iff_eq] at this ⊢
        rcases this with h1 | h1
        · exact .inl (by omega)
        · exact .inr h1
    · rw [if_neg h]
      congr 1
      symm
      rw [Bool.eq_false_iff]
      intro g
      unfold okx at g
      rw [List.all_eq_true] at g
      have := g x (List.mem_range.2 (by omega))
      rw [Bool.or_eq_true, decide_eq_true_iff, beq_iff_eq] at this
      rcases this with h1 | h1
      · omega
      · exact h h1
theorem rights (n : Int) : (ballot_Right.f n = some true ∧ (∀ k, catenaryref04_Right.f (k + 20) n = some true) ∧ 4 ≤ n ∧ n ≤ 16) ∨ (ballot_Right.f n = some false ∧ (∀ k, catenaryref04_Right.f (k + 20) n = some false)) := by
  by_cases h4 : n = 4
  · subst h4; exact .inl ⟨by kernel_rfl, fun k => by kernel_rfl, by decide, by decide⟩
  by_cases h7 : n = 7
  · subst h7; exact .inl ⟨by kernel_rfl, fun k => by kernel_rfl, by decide, by decide⟩
  by_cases h10 : n = 10
  · subst h10; exact .inl ⟨by kernel_rfl, fun k => by kernel_rfl, by decide, by decide⟩
  by_cases h13 : n = 13
  · subst h13; exact .inl ⟨by kernel_rfl, fun k => by kernel_rfl, by decide, by decide⟩
  by_cases h16 : n = 16
  · subst h16; exact .inl ⟨by kernel_rfl, fun k => by kernel_rfl, by decide, by decide⟩
  refine .inr ⟨right_no n h4 h7 h10 h13 h16, fun k => ?_⟩
  unfold catenaryref04_Right.f
  rw [faults_no k n h4 h7 h10 h13 h16]
  rfl
theorem reforder_is (l : List Int) (n : Int) (k : Nat) (hk : 400 ≤ k) : ∃ b, ballot_Order.f l n = some b ∧ catenaryref04_Order.f k l n = some b ∧ (b = true → ballot_Right.f n = some true ∧ (l.length : Int) = n ∧ n ≤ 16 ∧ 4 ≤ n) := by
  obtain ⟨k, rfl⟩ : ∃ m, k = (m + 380) + 20 := ⟨k - 400, by omega⟩
  rcases rights n with ⟨h1, h2, h3, h4⟩ | ⟨h1, h2⟩
  · have e := order_is l n h1
    unfold catenaryref04_Order.f
    rw [h2 (k + 380)]
    simp only [Option.bind_some, if_true]
    by_cases hl : (l.length : Int) = n
    · refine ⟨okc l, by rw [e, decide_eq_true hl, Bool.true_and], ?_, fun _ => ⟨h1, hl, h4, h3⟩⟩
      rw [show ((l.length : Int) != n) = false from bne_eq_false_iff_eq.2 hl]
      show catenaryref04_Order.j0 (k + 399 + 1) l n false = _
      simp only [catenaryref04_Order.j0, Bool.false_eq_true, if_false]
      rw [← hl]
      have hb : l.length ≤ 16 := by omega
      have := outer_l l (by omega) l.length (k + 399) 0 (Nat.sub_zero _) (Nat.zero_le _) (by
        have : l.length * (l.length + 2) ≤ 16 * 18 := Nat.mul_le_mul hb (by omega)
        omega)
      rw [show ((0 : Nat) : Int) = 0 from rfl] at this
      rw [this]
      congr 1
    · refine ⟨false, by rw [e, decide_eq_false hl, Bool.false_and], ?_, fun h => by cases h⟩
      rw [show ((l.length : Int) != n) = true from bne_iff_ne.2 hl]
      rfl
  · refine ⟨false, order_no l n h1, ?_, fun h => by cases h⟩
    unfold catenaryref04_Order.f
    rw [h2 (k + 380)]
    rfl
theorem place_s (l : List Int) (x : Int) (hl : l.length < 1000000000000000000) (d : Nat) : ∀ (k i : Nat), l.length - i = d → i ≤ l.length → d < k →
    (catenaryref04_Place.l0 k x l (l.length : Int) (i : Int) = some (-1) ∧ ∀ j, i ≤ j → (h : j < l.length) → l[j] ≠ x) ∨ ∃ j, ∃ h : j < l.length, catenaryref04_Place.l0 k x l (l.length : Int) (i : Int) = some (j : Int) ∧ l[j] = x := by
  induction d with
  | zero =>
    intro k i hd hi hk
    obtain ⟨k, rfl⟩ : ∃ m, k = m + 1 := ⟨k - 1, by omega⟩
    simp only [catenaryref04_Place.l0]
    rw [if_neg (by omega)]
    exact .inl ⟨rfl, fun j h1 h2 => absurd h2 (by omega)⟩
  | succ d ih =>
    intro k i hd hi hk
    obtain ⟨k, rfl⟩ : ∃ m, k = m + 1 := ⟨k - 1, by omega⟩
    have hi' : i < l.length := by omega
    simp only [catenaryref04_Place.l0]
    rw [if_pos (by omega), if_pos (by omega), if_pos (by omega), w64 i (by omega), rd_get l i hi']
    by_cases hx : l[i] = x
    · rw [if_pos hx]
      exact .inr ⟨i, hi', rfl, hx⟩
    · rw [if_neg hx]
      rcases ih k (i + 1) (by omega) (by omega) (by omega) with ⟨h1, h2⟩ | h
      · refine .inl ⟨h1, fun j h3 h4 => ?_⟩
        rcases Nat.eq_or_lt_of_le h3 with rfl | h5
        · exact hx
        · exact h2 j h5 h4
      · exact .inr h
theorem place_spec (l : List Int) (x : Int) (hl : l.length < 1000000000000000000) (k : Nat) (hk : l.length < k) :
    (ballot_Place.f k l x = some (-1) ∧ catenaryref04_Place.f k l x = some (-1) ∧ ∀ j, (h : j < l.length) → l[j] ≠ x) ∨ ∃ j, ∃ h : j < l.length, ballot_Place.f k l x = some (j : Int) ∧ catenaryref04_Place.f k l x = some (j : Int) ∧ l[j] = x := by
  have hb : ∀ p, catenaryref04_Place.f k l x = some p → ballot_Place.f k l x = some p := fun p hp => by
    unfold ballot_Place.f slices_Index_int_int.f
    rw [place_l]
    have : catenaryref04_Place.l0 k x l (l.length : Int) 0 = some p := hp
    rw [this]
    rfl
  rcases place_s l x hl l.length k 0 (Nat.sub_zero _) (Nat.zero_le _) hk with ⟨h1, h2⟩ | ⟨j, hj, h1, h2⟩
  · exact .inl ⟨hb _ h1, h1, fun j h => h2 j (Nat.zero_le _) h⟩
  · exact .inr ⟨j, hj, hb _ h1, h1, h2⟩
section
variable {g : Int → Int} (hg : ∀ a b, g a = g b ↔ a = b)
theorem rd_map (l : List Int) (i : Int) (h0 : 0 ≤ i) (h1 : i < (l.length : Int)) : rd (l.map g) i = g (rd l i) := by
  obtain ⟨j, rfl⟩ : ∃ j : Nat, i = j := ⟨i.toNat, by omega⟩
  rw [rd_get _ j (by simp; omega), rd_get _ j (by omega), List.getElem_map]
include hg in
theorem place_nat (l : List Int) (x : Int) : ∀ (k : Nat) (n i : Int), catenaryref04_Place.l0 k (g x) (l.map g) n i = catenaryref04_Place.l0 k x l n i
  | 0, _, _ => rfl
  | k + 1, n, i => by
    simp only [catenaryref04_Place.l0, place_nat l x k, List.length_map]
    by_cases h1 : 0 ≤ i
    · by_cases h2 : i < (l.length : Int)
      · rw [rd_map l i h1 h2]
        simp only [hg]
      · simp only [h2, if_false]
    · simp only [h1, if_false]
theorem mapo (l : List Int) (x : Int) : l.map g ++ [g x] = (l ++ [x]).map g := by simp
def F (g : Int → Int) (r : List Int × Int) : List Int × Int := (r.1.map g, r.2)
include hg in
theorem shift_nat (x1 x2 : Int) : ∀ k : Nat, (∀ x8 x9 x11 x41 x42 x43, catenaryref04_Shift.l0 k (g x1) (g x2) x8 x9 (x11.map g) (x41.map g) x42 x43 = (catenaryref04_Shift.l0 k x1 x2 x8 x9 x11 x41 x42 x43).map (F g)) ∧
    (∀ x8 x9 x11 x13 x41 x42 x43 b, catenaryref04_Shift.j2 k (g x1) (g x2) x8 x9 (x11.map g) (g x13) (x41.map g) x42 x43 b = (catenaryref04_Shift.j2 k x1 x2 x8 x9 x11 x13 x41 x42 x43 b).map (F g))
  | 0 => ⟨fun _ _ _ _ _ _ => rfl, fun _ _ _ _ _ _ _ _ => rfl⟩
  | k + 1 => by
    obtain ⟨i1, i2⟩ := shift_nat x1 x2 k
    have pn : ∀ l : List Int, catenaryref04_Place.f k (l.map g) (g x1) = catenaryref04_Place.f k l x1 := fun l => by
      unfold catenaryref04_Place.f
      rw [place_nat hg, List.length_map]
    constructor
    · intro x8 x9 x11 x41 x42 x43
      simp only [catenaryref04_Shift.l0, List.length_map, pn, mapo, Option.bind_some]
      by_cases h1 : x43 < x42
      · rw [if_pos h1, if_pos h1]
        by_cases h2 : 0 ≤ x43
        · rw [if_pos h2, if_pos h2]
          by_cases h3 : x43 < (x41.length : Int)
          · rw [if_pos h3, if_pos h3, rd_map x41 x43 h2 h3]
            simp only [i2]
            by_cases h4 : x9 > 0
            · rw [if_pos h4, if_pos h4]
              cases catenaryref04_Quorum.f k x8 with
              | none => rfl
              | some q =>
                simp only [Option.bind_some]
                by_cases h5 : (x11.length : Int) = wrap64 (q - 1)
                · rw [if_pos h5, if_pos h5]
                  cases catenaryref04_Place.f k x11 x1 <;> rfl
                · rw [if_neg h5, if_neg h5]
            · rw [if_neg h4, if_neg h4]
          · rw [if_neg h3, if_neg h3]; rfl
        · rw [if_neg h2, if_neg h2]; rfl
      · rw [if_neg h1, if_neg h1]
        by_cases h4 : x9 > 0
        · rw [if_pos h4, if_pos h4]
          cases catenaryref04_Place.f k x11 x1 with
          | none => rfl
          | some p =>
            simp only [Option.bind_some]
            (repeat' split) <;> rfl
        · rw [if_neg h4, if_neg h4]
          split <;> rfl
    · intro x8 x9 x11 x13 x41 x42 x43 b
      simp only [catenaryref04_Shift.j2, List.length_map, mapo, Option.bind_some, hg, i1]
      (repeat' split) <;> rfl
end
def shl (l : List Int) (p q : Nat) (x1 x2 : Int) : List Int := if p = 0 then l.eraseIdx 1 ++ [x2] else (((l.eraseIdx (p + 1)).eraseIdx p).take (q - 1) ++ x1 :: ((l.eraseIdx (p + 1)).eraseIdx p).drop (q - 1)) ++ [x2]
theorem erase_map (g : Int → Int) (l : List Int) (i : Nat) : (l.map g).eraseIdx i = (l.eraseIdx i).map g := by
  rw [List.eraseIdx_eq_take_drop_succ, List.eraseIdx_eq_take_drop_succ, List.map_append, List.map_take, List.map_drop]
theorem shl_map (g : Int → Int) (l : List Int) (p q : Nat) (x1 x2 : Int) : shl (l.map g) p q (g x1) (g x2) = (shl l p q x1 x2).map g := by
  unfold shl
  split
  · rw [erase_map, List.map_append]; rfl
  · rw [erase_map, erase_map, List.map_append, List.map_append, List.map_cons, List.map_take, List.map_drop]; rfl
def chkS (n q p : Nat) : Bool := catenaryref04_Shift.l0 100 (p : Int) ((p : Int) + 1) (n : Int) (p : Int) [] (rng n) (n : Int) 0 == some (shl (rng n) p q (p : Int) ((p : Int) + 1), 0)
theorem chksS : (List.range 2).all (chkS 4 3) = true ∧ (List.range 4).all (chkS 7 5) = true ∧ (List.range 6).all (chkS 10 7) = true ∧ (List.range 8).all (chkS 13 9) = true ∧ (List.range 10).all (chkS 16 11) = true := by
  refine ⟨?_, ?_, ?_, ?_, ?_⟩ <;> kernel_rfl
theorem mono_n {α : Type} {f : Nat → Option α} (hm : ∀ k, LeO (f k) (f (k + 1))) {k : Nat} {x : α} (h : f k = some x) (m : Nat) : f (k + m) = some x := by
  induction m with
  | zero => exact h
  | succ m ih => exact hm _ _ ih
theorem quorums (n : Int) (hR : ballot_Right.f n = some true) : ∃ N q : Nat, n = N ∧ ballot_Quorum.f n = some (q : Int) ∧ (∀ k, catenaryref04_Quorum.f (k + 20) n = some (q : Int)) ∧ 2 ≤ q ∧ q + 1 ≤ N ∧ N ≤ 16 ∧ (List.range (q - 1)).all (chkS N q) = true := by
  obtain ⟨c4, c7, c10, c13, c16⟩ := chksS
  by_cases h4 : n = 4
  · subst h4; exact ⟨4, 3, rfl, by kernel_rfl, fun k => by kernel_rfl, by omega, by omega, by omega, c4⟩
  by_cases h7 : n = 7
  · subst h7; exact ⟨7, 5, rfl, by kernel_rfl, fun k => by kernel_rfl, by omega, by omega, by omega, c7⟩
  by_cases h10 : n = 10
  · subst h10; exact ⟨10, 7, rfl, by kernel_rfl, fun k => by kernel_rfl, by omega, by omega, by omega, c10⟩
  by_cases h13 : n = 13
  · subst h13; exact ⟨13, 9, rfl, by kernel_rfl, fun k => by kernel_rfl, by omega, by omega, by omega, c13⟩
  by_cases h16 : n = 16
  · subst h16; exact ⟨16, 11, rfl, by kernel_rfl, fun k => by kernel_rfl, by omega, by omega, by omega, c16⟩
  rw [right_no n h4 h7 h10 h13 h16] at hR
  cases hR
/-- An order is the numbers below its length, renamed by what is one to one. -/
theorem order_form (l : List Int) (h : okc l = true) : ∃ g : Int → Int, (∀ a b, g a = g b ↔ a = b) ∧ l = (rng l.length).map g ∧ ∀ j, (hj : j < l.length) → l[j] = g (j : Int) := by
  have hc : ∀ r : Nat, r < l.length → l.count (r : Int) = 1 := fun r hr => by
    unfold okc at h
    have := List.all_eq_true.1 h r (List.mem_range.2 hr)
    exact beq_iff_eq.1 this
  have hp := perm_rng l.length l rfl (fun r hr => by rw [hc r hr]; decide)
  have hn : l.Nodup := hp.nodup_iff.2 ((rng_lt _).imp (fun h => Int.ne_of_lt h))
  have hm : ∀ j, (hj : j < l.length) → 0 ≤ l[j] ∧ l[j] < l.length := fun j hj => by
    have : l[j] ∈ rng l.length := hp.mem_iff.1 (List.getElem_mem hj)
    unfold rng at this
    obtain ⟨r, hr, e⟩ := List.mem_map.1 this
    have := List.mem_range.1 hr
    rw [← e]
    constructor
    · exact Int.natCast_nonneg r
    · exact Int.ofNat_lt.2 this
  have hget : ∀ j, (hj : j < l.length) → (if 0 ≤ (j : Int) ∧ (j : Int) < l.length then rd l (j : Int) else (j : Int)) = l[j] := fun j hj => by
    rw [if_pos ⟨by omega, by omega⟩, rd_get l j hj]
  refine ⟨fun i => if 0 ≤ i ∧ i < l.length then rd l i else i, fun a b => ⟨fun e => ?_, fun e => by rw [e]⟩, ?_, fun j hj => (hget j hj).symm⟩
  · by_cases ha : 0 ≤ a ∧ a < l.length
    · obtain ⟨i, rfl⟩ : ∃ i : Nat, a = i := ⟨a.toNat, by omega⟩
      have hi : i < l.length := by omega
      have e' : (if 0 ≤ (i : Int) ∧ (i : Int) < l.length then rd l (i : Int) else (i : Int)) = if 0 ≤ b ∧ b < l.length then rd l b else b := e
      rw [hget i hi] at e'
      by_cases hb : 0 ≤ b ∧ b < l.length
      · obtain ⟨j, rfl⟩ : ∃ j : Nat, b = j := ⟨b.toNat, by omega⟩
        have hj : j < l.length := by omega
        rw [hget j hj] at e'
        have := (List.getElem_inj hn).1 e'
        rw [this]
      · rw [if_neg hb] at e'
        have := hm i hi
        omega
    · have e' : (if 0 ≤ a ∧ a < l.length then rd l a else a) = if 0 ≤ b ∧ b < l.length then rd l b else b := e
      rw [if_neg ha] at e'
      by_cases hb : 0 ≤ b ∧ b < l.length
      · obtain ⟨j, rfl⟩ : ∃ j : Nat, b = j := ⟨b.toNat, by omega⟩
        have hj : j < l.length := by omega
        rw [hget j hj] at e'
        have := hm j hj
        omega
      · rw [if_neg hb] at e'
        exact e'
  · apply List.ext_getElem
    · simp [rng]
    · intro i h1 h2
      rw [List.getElem_map]
      have : (rng l.length)[i]'(by simpa [rng] using h1) = (i : Int) := by simp [rng]
      rw [this]
      exact (hget i h1).symm
theorem shifts (l : List Int) (a1 a2 : Int) (hl : l.length < 17592186044416) (k : Nat) (hk : l.length + 500 ≤ k) : ∃ s e, ballot_Shift.f k l a1 a2 = some (s, e) ∧ catenaryref04_Shift.f k l a1 a2 = some (s, e) ∧ s.length ≤ 16 := by
  obtain ⟨o, o1, o2, o3⟩ := reforder_is l (l.length : Int) k (by omega)
  obtain ⟨p0, p1, p2⟩ := place_is l a1 (by omega) k (by omega)
  unfold ballot_Shift.f catenaryref04_Shift.f
  rw [o1, o2, p1]
  simp only [Option.bind_some]
  cases o with
  | false =>
    rcases rights (l.length : Int) with ⟨R1, _⟩ | ⟨R1, _⟩
    · obtain ⟨N, q, _, hq, _⟩ := quorums _ R1
      rw [hq]
      exact ⟨[], 41, rfl, rfl, by decide⟩
    · have hq : ballot_Quorum.f (l.length : Int) = some 0 := by unfold ballot_Quorum.f ballot_times.f; rw [R1]; rfl
      rw [hq]
      exact ⟨[], 41, rfl, rfl, by decide⟩
  | true =>
    obtain ⟨R, _, _, _⟩ := o3 rfl
    obtain ⟨N, q, hN, hq, hq2, q2, qn, n16, hchk⟩ := quorums _ R
    have hN' : l.length = N := by omega
    subst hN'
    have hok : okc l = true := by
      have := order_is l _ R
      rw [o1, decide_eq_true (show ((l.length : Nat) : Int) = l.length from rfl), Bool.true_and] at this
      exact (Option.some.inj this).symm
    obtain ⟨g, hg, hform, hget⟩ := order_form l hok
    have hj0 : ∀ x, catenaryref04_Shift.j0 k l a1 a2 (l.length : Int) x true = some ([], 41) := fun x => by
      obtain ⟨k, rfl⟩ : ∃ m, k = m + 1 := ⟨k - 1, by omega⟩
      rfl
    obtain ⟨a0, _, b2⟩ := place_is l a2 (by omega) k (by omega)
    rw [hq, p2, b2]
    simp only [Option.bind_some, if_true]
    rcases place_spec l a1 (by omega) k (by omega) with ⟨s1, _, _⟩ | ⟨i, hi, s1, _, s3⟩
    · rw [p1] at s1
      cases s1
      rw [if_pos (by omega), if_pos (by omega), hj0]
      exact ⟨[], 41, rfl, rfl, by decide⟩
    rw [p1] at s1
    cases s1
    rw [if_neg (by omega), if_pos ⟨by omega, by omega, by omega, by omega⟩]
    have hqk : catenaryref04_Quorum.f k (l.length : Int) = some (q : Int) := by have := hq2 (k - 20); rwa [show k - 20 + 20 = k by omega] at this
    rw [w64 i (by omega), hqk]
    simp only [Option.bind_some]
    have ha2 : ∀ (h : i + 1 < l.length), (a0 = ((i + 1 : Nat) : Int) ↔ l[i + 1] = a2) := fun h => by
      rcases place_spec l a2 (by omega) k (by omega) with ⟨_, t2, t3⟩ | ⟨j, hj, _, t2, t3⟩
      · rw [b2] at t2
        cases t2
        exact ⟨fun e => by omega, fun e => absurd e (t3 _ h)⟩
      · rw [b2] at t2
        cases t2
        constructor
        · intro e
          have : j = i + 1 := by omega
          subst this
          exact t3
        · intro e
          rw [← t3, hget _ h, hget _ hj, hg] at e
          exact e.symm
    by_cases c3 : (i : Int) + 1 < q
    · have hi1 : i + 1 < l.length := by omega
      rw [if_pos c3]
      have hrd : rd l ((i : Int) + 1) = l[i + 1] := by rw [← Int.natCast_succ]; exact rd_get l (i + 1) hi1
      rw [hrd]
      by_cases c4 : l[i + 1] = a2
      · have hge : decide (a0 ≥ (q : Int)) = false := decide_eq_false (by have := (ha2 hi1).2 c4; omega)
        rw [if_pos c4, if_pos ((ha2 hi1).2 c4), hge]
        have hj : catenaryref04_Shift.j0 k l a1 a2 (l.length : Int) (i : Int) false = catenaryref04_Shift.l0 (k - 1) a1 a2 (l.length : Int) (i : Int) [] l (l.length : Int) 0 := by
          obtain ⟨k, rfl⟩ : ∃ m, k = m + 1 := ⟨k - 1, by omega⟩
          rfl
        rw [hj]
        have hc := List.all_eq_true.1 hchk i (List.mem_range.2 (by omega))
        unfold chkS at hc
        have hc := eq_of_beq hc
        have hc := mono_n (f := fun k => catenaryref04_Shift.l0 k (i : Int) ((i : Int) + 1) (l.length : Int) (i : Int) [] (rng l.length) (l.length : Int) 0) (fun k => (catenaryref04_Shift.mono_l k).2.1 _ _ _ _ _ _ _ _) hc (k - 1 - 100)
        rw [show 100 + (k - 1 - 100) = k - 1 by omega] at hc
        have hn := (shift_nat hg (i : Int) ((i : Int) + 1) (k - 1)).1 (l.length : Int) (i : Int) [] (rng l.length) (l.length : Int) 0
        have e1 : g (i : Int) = a1 := by rw [← hget i hi]; exact s3
        have e2 : g ((i : Int) + 1) = a2 := by rw [← Int.natCast_succ, ← hget (i + 1) hi1]; exact c4
        rw [e1, e2, ← hform, List.map_nil] at hn
        have hc' : catenaryref04_Shift.l0 (k - 1) (i : Int) ((i : Int) + 1) (l.length : Int) (i : Int) [] (rng l.length) (l.length : Int) 0 = some (shl (rng l.length) i q (i : Int) ((i : Int) + 1), 0) := hc
        rw [hc'] at hn
        rw [hn]
        have hs := shl_map g (rng l.length) i q (i : Int) ((i : Int) + 1)
        rw [e1, e2, ← hform] at hs
        refine ⟨shl l i q a1 a2, 0, ?_, by rw [hs]; rfl, ?_⟩
        · unfold shl
          by_cases c5 : i = 0
          · rw [if_pos c5, if_pos (by omega)]
          · rw [if_neg c5, if_neg (by omega)]
            rw [show ((i : Int)).toNat = i from Int.toNat_natCast i, show ((q : Int) - 1).toNat = q - 1 by omega]
        · have h1 : (l.eraseIdx (i + 1)).length = l.length - 1 := List.length_eraseIdx_of_lt (by omega)
          have h2 : ((l.eraseIdx (i + 1)).eraseIdx i).length = l.length - 2 := by rw [List.length_eraseIdx_of_lt (by rw [h1]; omega), h1]; omega
          unfold shl
          split
          · rw [List.length_append, List.length_eraseIdx_of_lt (by omega)]
            simp
            omega
          · rw [List.length_append, List.length_append, List.length_cons, List.length_take, List.length_drop, h2]
            simp
            omega
      · rw [if_neg c4, if_neg (fun e => c4 ((ha2 hi1).1 e)), hj0]
        exact ⟨[], 41, rfl, rfl, by decide⟩
    · rw [if_neg c3]
      refine ⟨[], 41, rfl, ?_, by decide⟩
      rw [if_neg (show ¬ (i : Int) < 0 by omega)]
      split
      · rename_i e
        rw [decide_eq_true (by omega), hj0]
      · exact hj0 _
def step : Nat → List Int → Nat → List Int
  | 0, s, _ => s
  | d + 1, s, i => step d (s.set i (wrap64 (rd s (i : Int) + 1))) (i + 1)
theorem step_len : ∀ (d : Nat) (s : List Int) (i : Nat), (step d s i).length = s.length
  | 0, _, _ => rfl
  | d + 1, s, i => by
    unfold step
    rw [step_len d]
    exact List.length_set
theorem inc0 (x0 x7 x10 : List Int) (x9 x11 : Int) (d : Nat) : ∀ (k : Nat) (s : List Int) (i : Nat), s.length < 1000000 → s.length - i = d → i ≤ s.length → catenarylaw04_BallotShifts.l0 (k + (d + 1)) x0 x7 s x9 x10 x11 (s.length : Int) (i : Int) = catenarylaw04_BallotShifts.l1 k x0 x7 (step d s i) x9 x10 x11 (x10.length : Int) 0 := by
  induction d with
  | zero =>
    intro k s i hs hd hi
    show catenarylaw04_BallotShifts.l0 (k + 1) x0 x7 s x9 x10 x11 (s.length : Int) (i : Int) = _
    simp only [catenarylaw04_BallotShifts.l0]
    rw [if_neg (by omega)]
    rfl
  | succ d ih =>
    intro k s i hs hd hi
    obtain ⟨K, hK⟩ : ∃ K, K = k + (d + 1) := ⟨_, rfl⟩
    show catenarylaw04_BallotShifts.l0 ((k + (d + 1)) + 1) x0 x7 s x9 x10 x11 (s.length : Int) (i : Int) = _
    rw [← hK]
    simp only [catenarylaw04_BallotShifts.l0]
    rw [if_pos (by omega), if_pos (by omega), if_pos (by omega), w64 i (by omega), hK, Int.toNat_natCast]
    have := ih k (s.set i (wrap64 (rd s (i : Int) + 1))) (i + 1) (by simpa using hs) (by simp; omega) (by simp; omega)
    rw [List.length_set] at this
    exact this
theorem inc1 (x0 x7 x8 : List Int) (x9 x11 : Int) (d : Nat) : ∀ (k : Nat) (s : List Int) (i : Nat), s.length < 1000000 → s.length - i = d → i ≤ s.length → catenarylaw04_BallotShifts.l1 (k + (d + 1)) x0 x7 x8 x9 s x11 (s.length : Int) (i : Int) = if x9 = x11 then ((catenaryref04_Same.f k x8 (step d s i)).bind fun t182 => (if t182 = true then ((catenaryref04_Same.f k x7 x0).bind fun t183 => (some t183)) else (some false))) else (some false) := by
  induction d with
  | zero =>
    intro k s i hs hd hi
    show catenarylaw04_BallotShifts.l1 (k + 1) x0 x7 x8 x9 s x11 (s.length : Int) (i : Int) = _
    simp only [catenarylaw04_BallotShifts.l1]
    rw [if_neg (by omega)]
    rfl
  | succ d ih =>
    intro k s i hs hd hi
    obtain ⟨K, hK⟩ : ∃ K, K = k + (d + 1) := ⟨_, rfl⟩
    show catenarylaw04_BallotShifts.l1 ((k + (d + 1)) + 1) x0 x7 x8 x9 s x11 (s.length : Int) (i : Int) = _
    rw [← hK]
    simp only [catenarylaw04_BallotShifts.l1]
    rw [if_pos (by omega), if_pos (by omega), if_pos (by omega), w64 i (by omega), hK, Int.toNat_natCast]
    have := ih k (s.set i (wrap64 (rd s (i : Int) + 1))) (i + 1) (by simpa using hs) (by simp; omega) (by simp; omega)
    rw [List.length_set] at this
    exact this
theorem BallotShifts : catenarylaw04_BallotShifts.Pure := by
  intro l a1 a2 hl _ _
  have hll : l.length < 17592186044416 := by have := hl.1; have := hl.2.1; omega
  refine ⟨l.length + 980 + 20, ?_⟩
  unfold catenarylaw04_BallotShifts.f
  rw [alive]
  simp only [Option.bind_some, if_true, List.nil_append, List.length_nil, Nat.zero_add]
  rw [if_pos hll]
  obtain ⟨s, e, h1, h2, h3⟩ := shifts l a1 a2 hll (l.length + 980 + 20) (by omega)
  rw [h1, h2]
  simp only [Option.bind_some]
  have e0 := inc0 l l s e e s.length (l.length + 1000 - (s.length + 1)) s 0 (by omega) (Nat.sub_zero _) (Nat.zero_le _)
  rw [show l.length + 1000 - (s.length + 1) + (s.length + 1) = l.length + 980 + 20 by omega] at e0
  rw [show ((0 : Nat) : Int) = 0 from rfl] at e0
  rw [e0]
  have e1 := inc1 l l (step s.length s 0) e e s.length (l.length + 1000 - (s.length + 1) - (s.length + 1)) s 0 (by omega) (Nat.sub_zero _) (Nat.zero_le _)
  rw [show l.length + 1000 - (s.length + 1) - (s.length + 1) + (s.length + 1) = l.length + 1000 - (s.length + 1) by omega] at e1
  rw [show ((0 : Nat) : Int) = 0 from rfl] at e1
  rw [e1, if_pos rfl, same_is _ (by rw [step_len]; omega) _ (by rw [step_len]; omega)]
  simp only [Option.bind_some, if_true]
  rw [same_is l (by omega) _ (by omega)]
  rfl

end Go.Proofs.Ytekfobefehkajaa.Pure
