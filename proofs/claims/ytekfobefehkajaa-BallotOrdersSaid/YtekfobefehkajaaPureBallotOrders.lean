import Derived.Test.YtekfobefehkajaaPBallotOrdersx3
namespace Go.Proofs.Ytekfobefehkajaa.Pure
open Go.RowKit Go.Proofs.Ytekfobefehkajaa.PBallotOrders Go.Proofs.YtekfobefehkajaaW.PrintWords Go.Proofs.YtekfobefehkajaaW.PrintLast Go.Proofs.YtekfobefehkajaaW.PrintMore

theorem sorted7 : (([0, 1, 2, 3, 4, 5, 6] : List Int).mergeSort (fun x y => decide (x ≤ y))) = (List.range 7).map Int.ofNat := by
  rw [List.mergeSort_of_pairwise (by decide)]
  rfl
theorem order7 : ballot_Order.f [0, 1, 2, 3, 4, 5, 6] 7 = some true := by
  unfold ballot_Order.f
  rw [show ballot_Right.f 7 = some true from rfl]
  simp only [Option.bind_some, if_true]
  rw [if_pos (by rfl), show ([0, 1, 2, 3, 4, 5, 6] : List Int).length = 7 from rfl, sorted7]
  simp
theorem shift7 (k : Nat) : ballot_Shift.f (k + 20) [0, 1, 2, 3, 4, 5, 6] 2 3 = some ([0, 1, 4, 5, 2, 6, 3], 0) := by
  unfold ballot_Shift.f
  rw [show ballot_Place.f (k + 20) [0, 1, 2, 3, 4, 5, 6] 2 = some 2 from by kernel_rfl]
  rw [show ((([0, 1, 2, 3, 4, 5, 6] : List Int).length : Nat) : Int) = 7 from rfl, show ballot_Quorum.f 7 = some 5 from by kernel_rfl, order7]
  kernel_rfl
theorem alive (k : Nat) : catenarylaw04_ballotAlive.f (k + 20) = some true := by
  unfold catenarylaw04_ballotAlive.f
  rw [shift7]
  kernel_rfl
theorem right_no (n : Int) (h4 : n ≠ 4) (h7 : n ≠ 7) (h10 : n ≠ 10) (h13 : n ≠ 13) (h16 : n ≠ 16) : ballot_Right.f n = some false := by
  unfold ballot_Right.f
  split
  · split
    · have : Int.tmod n 3 = n % 3 := Int.tmod_eq_emod_of_nonneg (by omega)
      rw [this, show (n % 3 == 1) = false from beq_eq_false_iff_ne.2 (by omega)]
    · rfl
  · rfl
theorem faults_no (k : Nat) (n : Int) (h4 : n ≠ 4) (h7 : n ≠ 7) (h10 : n ≠ 10) (h13 : n ≠ 13) (h16 : n ≠ 16) : catenaryref04_Faults.f (k + 20) n = some 0 := by
  unfold catenaryref04_Faults.f
  simp [catenaryref04_Faults.l0, wrap64, h4, h7, h10, h13, h16]
def rng (n : Nat) : List Int := (List.range n).map Int.ofNat
theorem rng_lt (n : Nat) : (rng n).Pairwise (· < ·) := by
  unfold rng
  rw [List.pairwise_map]
  exact List.pairwise_lt_range.imp (fun h => Int.ofNat_lt.2 h)
theorem rng_count (n r : Nat) (h : r < n) : (rng n).count (r : Int) = 1 := by
  have hn : (rng n).Nodup := (rng_lt n).imp (fun h => Int.ne_of_lt h)
  rw [hn.count, if_pos]
  unfold rng
  exact List.mem_map.2 ⟨r, List.mem_range.2 h, rfl⟩
theorem perm_rng : ∀ (n : Nat) (l : List Int), l.length = n → (∀ r : Nat, r < n → 0 < l.count (r : Int)) → l.Perm (rng n)
  | 0, l, hl, _ => by
    obtain rfl := List.length_eq_zero_iff.1 hl
    exact List.Perm.refl _
  | n + 1, l, hl, hc => by
    have hm : (n : Int) ∈ l := List.count_pos_iff.1 (hc n (by omega))
    have hp := List.perm_cons_erase hm
    have ih := perm_rng n (l.erase (n : Int)) (by rw [List.length_erase_of_mem hm]; omega) (fun r hr => by
      rw [List.count_erase_of_ne (by omega)]
      exact hc r (by omega))
    have e : rng (n + 1) = rng n ++ [(n : Int)] := by unfold rng; rw [List.range_succ, List.map_append]; rfl
    rw [e]
    exact hp.trans ((List.Perm.cons _ ih).trans (List.perm_append_comm (l₁ := [(n : Int)]) (l₂ := rng n)))
theorem sorted_iff (l : List Int) : l.mergeSort (fun x y => decide (x ≤ y)) = rng l.length ↔ ∀ r : Nat, r < l.length → l.count (r : Int) = 1 := by
  constructor
  · intro h r hr
    have hp := List.mergeSort_perm l (fun x y => decide (x ≤ y))
    rw [h] at hp
    rw [← hp.count_eq]
    exact rng_count _ _ hr
  · intro h
    have hp := perm_rng l.length l rfl (fun r hr => by rw [h r hr]; decide)
    refine List.Perm.eq_of_pairwise (le := fun a b : Int => a ≤ b) (fun a b _ _ h1 h2 => Int.le_antisymm h1 h2) ?_ ((rng_lt _).imp Int.le_of_lt) ((List.mergeSort_perm _ _).trans hp)
    exact (List.pairwise_mergeSort (le := fun x y : Int => decide (x ≤ y)) (fun a b c h1 h2 => by simp at *; omega) (fun a b => by simp; omega) l).imp (fun h => by simpa using h)
def okc (l : List Int) : Bool := (List.range l.length).all fun r => l.count (r : Int) == 1
theorem order_is (l : List Int) (n : Int) (h : ballot_Right.f n = some true) : ballot_Order.f l n = some (decide ((l.length : Int) = n) && okc l) := by
  unfold ballot_Order.f
  rw [h]
  simp only [Option.bind_some, if_true]
  by_cases hl : (l.length : Int) = n
  · rw [if_pos hl, decide_eq_true hl, Bool.true_and]
    congr 1
    have := sorted_iff l
    unfold rng at this
    rw [Bool.eq_iff_iff, decide_eq_true_iff, this]
    unfold okc
    simp
  · rw [if_neg hl, decide_eq_false hl, Bool.false_and]
theorem order_no (l : List Int) (n : Int) (h : ballot_Right.f n = some false) : ballot_Order.f l n = some false := by
  unfold ballot_Order.f
  rw [h]
  rfl
theorem rd_get (l : List Int) (i : Nat) (h : i < l.length) : rd l (i : Int) = l[i] := by
  unfold rd
  simp [h]
theorem w64 (i : Nat) (h : i < 1000000000000000000) : wrap64 ((i : Int) + 1) = ((i + 1 : Nat) : Int) := by unfold wrap64; omega
theorem same_l (l : List Int) (hl : l.length < 1000000000000000000) (d : Nat) : ∀ (k i : Nat), l.length - i = d → i ≤ l.length → d < k → catenaryref04_Same.l0 k l l (l.length : Int) (i : Int) = some true := by
  induction d with
  | zero =>
    intro k i hd hi hk
    obtain ⟨k, rfl⟩ : ∃ m, k = m + 1 := ⟨k - 1, by omega⟩
    simp only [catenaryref04_Same.l0]
    rw [if_neg (by omega)]
  | succ d ih =>
    intro k i hd hi hk
    obtain ⟨k, rfl⟩ : ∃ m, k = m + 1 := ⟨k - 1, by omega⟩
    simp only [catenaryref04_Same.l0]
    rw [if_pos (by omega), if_pos (by omega), if_pos (by omega), if_pos (by omega), if_pos trivial, w64 i (by omega)]
    exact ih k (i + 1) (by omega) (by omega) (by omega)
theorem same_is (l : List Int) (hl : l.length < 1000000000000000000) (k : Nat) (hk : l.length < k) : catenaryref04_Same.f k l l = some true := by
  unfold catenaryref04_Same.f
  rw [if_pos rfl]
  exact same_l l hl l.length k 0 rfl (Nat.zero_le _) hk
theorem place_l (l : List Int) (x : Int) : ∀ (k : Nat) (n i : Int), slices_Index_int_int.l0 k l x n i = catenaryref04_Place.l0 k x l n i
  | 0, _, _ => rfl
  | k + 1, n, i => by
    simp only [slices_Index_int_int.l0, catenaryref04_Place.l0, place_l l x k, eq_comm (a := x) (b := rd l i)]
theorem place_t (l : List Int) (x : Int) (hl : l.length < 1000000000000000000) (d : Nat) : ∀ (k i : Nat), l.length - i = d → i ≤ l.length → d < k → ∃ p, catenaryref04_Place.l0 k x l (l.length : Int) (i : Int) = some p := by
  induction d with
  | zero =>
    intro k i hd hi hk
    obtain ⟨k, rfl⟩ : ∃ m, k = m + 1 := ⟨k - 1, by omega⟩
    simp only [catenaryref04_Place.l0]
    rw [if_neg (by omega)]
    exact ⟨_, rfl⟩
  | succ d ih =>
    intro k i hd hi hk
    obtain ⟨k, rfl⟩ : ∃ m, k = m + 1 := ⟨k - 1, by omega⟩
    simp only [catenaryref04_Place.l0]
    rw [if_pos (by omega), if_pos (by omega), if_pos (by omega), w64 i (by omega)]
    split
    · exact ⟨_, rfl⟩
    · exact ih k (i + 1) (by omega) (by omega) (by omega)
theorem place_is (l : List Int) (x : Int) (hl : l.length < 1000000000000000000) (k : Nat) (hk : l.length < k) : ∃ p, ballot_Place.f k l x = some p ∧ catenaryref04_Place.f k l x = some p := by
  obtain ⟨p, hp⟩ := place_t l x hl l.length k 0 rfl (Nat.zero_le _) hk
  refine ⟨p, ?_, hp⟩
  unfold ballot_Place.f slices_Index_int_int.f
  rw [place_l]
  have : catenaryref04_Place.l0 k x l (l.length : Int) 0 = some p := hp
  rw [this]
  rfl
theorem count_l (l : List Int) (n x : Int) (hl : l.length < 1000000) (d : Nat) : ∀ (k i c : Nat), l.length - i = d → i ≤ l.length → c ≤ i → catenaryref04_Order.l1 (k + (d + 1)) l n x (c : Int) l (l.length : Int) (i : Int) = if c + (l.drop i).count x = 1 then catenaryref04_Order.l0 k l n (wrap64 (x + 1)) else some false := by
  induction d with
  | zero =>
    intro k i c hd hi hc
    show catenaryref04_Order.l1 (k + 1) l n x (c : Int) l (l.length : Int) (i : Int) = _
    simp only [catenaryref04_Order.l1]
    rw [if_neg (by omega), List.drop_eq_nil_of_le (by omega), List.count_nil]
    by_cases h : c = 1
    · rw [if_pos (by omega), if_pos (by omega)]
    · rw [if_neg (by omega), if_neg (by omega)]
  | succ d ih =>
    intro k i c hd hi hc
    have hi' : i < l.length := by omega
    obtain ⟨K, hK⟩ : ∃ K, K = k + (d + 1) := ⟨_, rfl⟩
    show catenaryref04_Order.l1 ((k + (d + 1)) + 1) l n x (c : Int) l (l.length : Int) (i : Int) = _
    rw [← hK]
    simp only [catenaryref04_Order.l1]
    rw [if_pos (by omega), if_pos (by omega), if_pos (by omega), w64 i (by omega), w64 c (by omega), rd_get l i hi', List.drop_eq_getElem_cons hi', List.count_cons]
    by_cases h : l[i] = x
    · rw [if_pos h, hK, ih k (i + 1) (c + 1) (by omega) (by omega) (by omega), if_pos (show (l[i] == x) = true by rw [h]; exact beq_self_eq_true x)]
      rw [show c + 1 + (l.drop (i + 1)).count x = c + ((l.drop (i + 1)).count x + 1) by omega]
    · rw [if_neg h, hK, ih k (i + 1) c (by omega) (by omega) (by omega), if_neg (show ¬ (l[i] == x) = true by rw [beq_iff_eq]; exact h)]
      simp only [Nat.add_zero]
def okx (l : List Int) (x : Nat) : Bool := (List.range l.length).all fun r => decide (r < x) || l.count (r : Int) == 1
theorem outer_l (l : List Int) (hl : l.length < 1000000) (d : Nat) : ∀ (k x : Nat), l.length - x = d → x ≤ l.length → d * (l.length + 2) < k → catenaryref04_Order.l0 k l (l.length : Int) (x : Int) = some (okx l x) := by
  induction d with
  | zero =>
    intro k x hd hx hk
    obtain ⟨k, rfl⟩ : ∃ m, k = m + 1 := ⟨k - 1, by omega⟩
    simp only [catenaryref04_Order.l0]
    rw [if_neg (by omega)]
    congr 1
    symm
    unfold okx
    rw [List.all_eq_true]
    intro r hr
    have := List.mem_range.1 hr
    rw [decide_eq_true (show r < x by omega), Bool.true_or]
  | succ d ih =>
    intro k x hd hx hk
    rw [Nat.succ_mul] at hk
    obtain ⟨k, rfl⟩ : ∃ m, k = (m + (l.length + 1)) + 1 := ⟨k - (l.length + 2), by omega⟩
    obtain ⟨K, hK⟩ : ∃ K, K = k + (l.length + 1) := ⟨_, rfl⟩
    rw [← hK]
    simp only [catenaryref04_Order.l0]
    rw [if_pos (by omega), hK]
    have h0 := count_l l (l.length : Int) (x : Int) hl l.length k 0 0 (Nat.sub_zero _) (Nat.zero_le _) (Nat.zero_le _)
    rw [show ((0 : Nat) : Int) = 0 from rfl] at h0
    rw [h0, List.drop_zero, Nat.zero_add, w64 x (by omega)]
    by_cases h : l.count (x : Int) = 1
    · rw [if_pos h, ih k (x + 1) (by omega) (by omega) (by omega)]
      congr 1
      rw [Bool.eq_iff_iff]
      unfold okx
      rw [List.all_eq_true, List.all_eq_true]
      constructor
      · intro g r hr
        have := g r hr
        rw [Bool.or_eq_true, decide_eq_true_iff, beq_iff_eq] at this ⊢
        rcases this with h1 | h1
        · rcases Nat.eq_or_lt_of_le (Nat.lt_succ_iff.1 h1) with rfl | h3
          · exact .inr h
          · exact .inl h3
        · exact .inr h1
      · intro g r hr
        have := g r hr
        rw [Bool.or_eq_true, decide_eq_true_iff, beq_iff_eq] at this ⊢
        rcases this with h1 | h1
        · exact .inl (by omega)
        · exact .inr h1
    · rw [if_neg h]
      congr 1
      symm
      rw [Bool.eq_false_iff]
      intro g
      unfold okx at g
      rw [List.all_eq_true] at g
      have := g x (List.mem_range.2 (by omega))
      rw [Bool.or_eq_true, decide_eq_true_iff, beq_iff_eq] at this
      rcases this with h1 | h1
      · omega
      · exact h h1
theorem rights (n : Int) : (ballot_Right.f n = some true ∧ (∀ k, catenaryref04_Right.f (k + 20) n = some true) ∧ 4 ≤ n ∧ n ≤ 16) ∨ (ballot_Right.f n = some false ∧ (∀ k, catenaryref04_Right.f (k + 20) n = some false)) := by
  by_cases h4 : n = 4
  · subst h4; exact .inl ⟨by kernel_rfl, fun k => by kernel_rfl, by decide, by decide⟩
  by_cases h7 : n = 7
  · subst h7; exact .inl ⟨by kernel_rfl, fun k => by kernel_rfl, by decide, by decide⟩
  by_cases h10 : n = 10
  · subst h10; exact .inl ⟨by kernel_rfl, fun k => by kernel_rfl, by decide, by decide⟩
  by_cases h13 : n = 13
  · subst h13; exact .inl ⟨by kernel_rfl, fun k => by kernel_rfl, by decide, by decide⟩
  by_cases h16 : n = 16
  · subst h16; exact .inl ⟨by kernel_rfl, fun k => by kernel_rfl, by decide, by decide⟩
  refine .inr ⟨right_no n h4 h7 h10 h13 h16, fun k => ?_⟩
  unfold catenaryref04_Right.f
  rw [faults_no k n h4 h7 h10 h13 h16]
  rfl
theorem reforder_is (l : List Int) (n : Int) (k : Nat) (hk : 400 ≤ k) : ∃ b, ballot_Order.f l n = some b ∧ catenaryref04_Order.f k l n = some b ∧ (b = true → ballot_Right.f n = some true ∧ (l.length : Int) = n ∧ n ≤ 16 ∧ 4 ≤ n) := by
  obtain ⟨k, rfl⟩ : ∃ m, k = (m + 380) + 20 := ⟨k - 400, by omega⟩
  rcases rights n with ⟨h1, h2, h3, h4⟩ | ⟨h1, h2⟩
  · have e := order_is l n h1
    unfold catenaryref04_Order.f
    rw [h2 (k + 380)]
    simp only [Option.bind_some, if_true]
    by_cases hl : (l.length : Int) = n
    · refine ⟨okc l, by rw [e, decide_eq_true hl, Bool.true_and], ?_, fun _ => ⟨h1, hl, h4, h3⟩⟩
      rw [show ((l.length : Int) != n) = false from bne_eq_false_iff_eq.2 hl]
      show catenaryref04_Order.j0 (k + 399 + 1) l n false = _
      simp only [catenaryref04_Order.j0, Bool.false_eq_true, if_false]
      rw [← hl]
      have hb : l.length ≤ 16 := by omega
      have := outer_l l (by omega) l.length (k + 399) 0 (Nat.sub_zero _) (Nat.zero_le _) (by
        have : l.length * (l.length + 2) ≤ 16 * 18 := Nat.mul_le_mul hb (by omega)
        omega)
      rw [show ((0 : Nat) : Int) = 0 from rfl] at this
      rw [this]
      congr 1
    · refine ⟨false, by rw [e, decide_eq_false hl, Bool.false_and], ?_, fun h => by cases h⟩
      rw [show ((l.length : Int) != n) = true from bne_iff_ne.2 hl]
      rfl
  · refine ⟨false, order_no l n h1, ?_, fun h => by cases h⟩
    unfold catenaryref04_Order.f
    rw [h2 (k + 380)]
    rfl
def chk (n h : Nat) : Bool := match ballot_Start.l0 60 (n : Int) (h : Int) [] (n : Int) 0, catenaryref04_Start.l0 80 (n : Int) [] (h : Int) with
  | some a, some b => a == b && a.length == n && okc a && rd a 0 == (h : Int)
  | _, _ => false
theorem chks : (List.range 4).all (chk 4) = true ∧ (List.range 7).all (chk 7) = true ∧ (List.range 10).all (chk 10) = true ∧ (List.range 13).all (chk 13) = true ∧ (List.range 16).all (chk 16) = true := by
  refine ⟨?_, ?_, ?_, ?_, ?_⟩ <;> kernel_rfl
theorem chk_of (n h : Nat) (hc : chk n h = true) : ∃ a, ballot_Start.l0 60 (n : Int) (h : Int) [] (n : Int) 0 = some a ∧ catenaryref04_Start.l0 80 (n : Int) [] (h : Int) = some a ∧ a.length = n ∧ okc a = true ∧ rd a 0 = (h : Int) := by
  unfold chk at hc
  split at hc
  · rename_i a b e1 e2
    simp only [Bool.and_eq_true, beq_iff_eq] at hc
    obtain ⟨⟨⟨rfl, h2⟩, h3⟩, h4⟩ := hc
    exact ⟨a, e1, e2, h2, h3, h4⟩
  · cases hc
theorem mono_n {α : Type} {f : Nat → Option α} (hm : ∀ k, LeO (f k) (f (k + 1))) {k : Nat} {x : α} (h : f k = some x) (m : Nat) : f (k + m) = some x := by
  induction m with
  | zero => exact h
  | succ m ih => exact hm _ _ ih
theorem starts (v n : Int) (hv : ¬ v < 0) (hR : ballot_Right.f n = some true) (k : Nat) (hk : 80 ≤ k) : ∃ a, ballot_Start.f k v n = some a ∧ catenaryref04_Start.l0 k n [] (Int.tmod v n) = some a ∧ (a.length : Int) = n ∧ okc a = true ∧ rd a 0 = Int.tmod v n := by
  have main : ∀ N : Nat, 0 < N → n = N → (List.range N).all (chk N) = true → ∃ a, ballot_Start.f k v n = some a ∧ catenaryref04_Start.l0 k n [] (Int.tmod v n) = some a ∧ (a.length : Int) = n ∧ okc a = true ∧ rd a 0 = Int.tmod v n := by
    intro N hN hn hall
    subst hn
    have e : Int.tmod v N = v % N := Int.tmod_eq_emod_of_nonneg (by omega)
    have l1 := Int.emod_nonneg v (show (N : Int) ≠ 0 by omega)
    have l2 := Int.emod_lt_of_pos v (show (0 : Int) < N by omega)
    obtain ⟨h, hh⟩ : ∃ h : Nat, v % N = h := ⟨(v % N).toNat, by omega⟩
    rw [e, hh]
    rw [hh] at l2
    obtain ⟨a, a1, a2, a3, a4, a5⟩ := chk_of N h (List.all_eq_true.1 hall h (List.mem_range.2 (by omega)))
    refine ⟨a, ?_, ?_, by omega, a4, a5⟩
    · unfold ballot_Start.f ballot_Head.f
      rw [hR]
      simp only [Option.bind_some, if_true]
      rw [if_neg hv, if_neg (by omega), e, hh]
      simp only [Option.bind_some]
      rw [if_neg (by omega)]
      have := mono_n (f := fun k => ballot_Start.l0 k (N : Int) (h : Int) [] (N : Int) 0) (fun k => ballot_Start.mono_l k _ _ _ _ _) a1 (k - 60)
      rwa [show 60 + (k - 60) = k by omega] at this
    · have := mono_n (f := fun k => catenaryref04_Start.l0 k (N : Int) [] (h : Int)) (fun k => (catenaryref04_Start.mono_l k).1 _ _ _) a2 (k - 80)
      rwa [show 80 + (k - 80) = k by omega] at this
  obtain ⟨c4, c7, c10, c13, c16⟩ := chks
  by_cases h4 : n = 4
  · exact main 4 (by omega) h4 c4
  by_cases h7 : n = 7
  · exact main 7 (by omega) h7 c7
  by_cases h10 : n = 10
  · exact main 10 (by omega) h10 c10
  by_cases h13 : n = 13
  · exact main 13 (by omega) h13 c13
  by_cases h16 : n = 16
  · exact main 16 (by omega) h16 c16
  rw [right_no n h4 h7 h10 h13 h16] at hR
  cases hR
theorem BallotOrders : catenarylaw04_BallotOrders.Pure := by
  intro v n l _ _ hl
  have hll : l.length < 17592186044416 := by have := hl.1; have := hl.2.1; omega
  refine ⟨l.length + 480 + 20, ?_⟩
  unfold catenarylaw04_BallotOrders.f
  rw [alive]
  simp only [Option.bind_some, if_true, List.nil_append, List.length_nil, Nat.zero_add]
  rw [if_pos hll]
  obtain ⟨b, o1, o2, _⟩ := reforder_is l n (l.length + 480 + 20) (by omega)
  obtain ⟨p, q1, q2⟩ := place_is l v (by omega) (l.length + 480 + 20) (by omega)
  have hs := same_is l (by omega) (l.length + 480 + 20) (by omega)
  have tail : ∀ s : List Int, catenaryref04_Same.f (l.length + 480 + 20) s s = some true → ((ballot_Order.f l n).bind fun t152 => ((catenaryref04_Order.f (l.length + 480 + 20) l n).bind fun t153 => (if (t152 != t153) = true then (catenarylaw04_BallotOrders.j0 (l.length + 480 + 20) v n s true) else ((ballot_Place.f (l.length + 480 + 20) l v).bind fun t154 => ((catenaryref04_Place.f (l.length + 480 + 20) l v).bind fun t155 => (if t154 = t155 then ((catenaryref04_Same.f (l.length + 480 + 20) l l).bind fun t156 => (catenarylaw04_BallotOrders.j0 (l.length + 480 + 20) v n s (!t156))) else (catenarylaw04_BallotOrders.j0 (l.length + 480 + 20) v n s true))))))) = catenarylaw04_BallotOrders.j0 (l.length + 480 + 20) v n s false := by
    intro s _
    rw [o1, o2]
    simp only [Option.bind_some, bne_self_eq_false, Bool.false_eq_true, if_false]
    rw [q1, q2]
    simp only [Option.bind_some, if_true]
    rw [hs]
    rfl
  have empty : ballot_Start.f (l.length + 480 + 20) v n = some [] → catenaryref04_Start.f (l.length + 480 + 20) v n = some [] → ((ballot_Start.f (l.length + 480 + 20) v n).bind fun t145 => ((catenaryref04_Start.f (l.length + 480 + 20) v n).bind fun t148 => ((catenaryref04_Same.f (l.length + 480 + 20) t145 t148).bind fun t151 => (if t151 = true then ((ballot_Order.f l n).bind fun t152 => ((catenaryref04_Order.f (l.length + 480 + 20) l n).bind fun t153 => (if (t152 != t153) = true then (catenarylaw04_BallotOrders.j0 (l.length + 480 + 20) v n t145 true) else ((ballot_Place.f (l.length + 480 + 20) l v).bind fun t154 => ((catenaryref04_Place.f (l.length + 480 + 20) l v).bind fun t155 => (if t154 = t155 then ((catenaryref04_Same.f (l.length + 480 + 20) l l).bind fun t156 => (catenarylaw04_BallotOrders.j0 (l.length + 480 + 20) v n t145 (!t156))) else (catenarylaw04_BallotOrders.j0 (l.length + 480 + 20) v n t145 true))))))) else (catenarylaw04_BallotOrders.j0 (l.length + 480 + 20) v n t145 true))))) = some true := by
    intro h1 h2
    have h3 := same_is [] (by decide) (l.length + 480 + 20) (by simp)
    rw [h1, h2]
    simp only [Option.bind_some]
    rw [h3]
    simp only [Option.bind_some, if_true]
    rw [tail [] h3]
    show catenarylaw04_BallotOrders.j0 ((l.length + 480 + 19) + 1) v n [] false = _
    simp only [catenarylaw04_BallotOrders.j0]
    rfl
  rcases rights n with ⟨R1, R2, R3, R4⟩ | ⟨R1, R2⟩
  · by_cases hv : v < 0
    · refine empty ?_ ?_
      · unfold ballot_Start.f ballot_Head.f
        rw [R1]
        simp only [Option.bind_some, if_true]
        rw [if_pos hv]
        rfl
      · unfold catenaryref04_Start.f catenaryref04_Head.f
        rw [R2]
        simp only [Option.bind_some, if_true]
        rw [if_pos hv]
        rfl
    · obtain ⟨a, s1, s2, s3, s4, s5⟩ := starts v n hv R1 (l.length + 480 + 20) (by omega)
      have s2' : catenaryref04_Start.f (l.length + 480 + 20) v n = some a := by
        unfold catenaryref04_Start.f catenaryref04_Head.f
        rw [R2]
        simp only [Option.bind_some, if_true]
        rw [if_neg hv, if_neg (by omega)]
        exact s2
      have h3 := same_is a (by omega) (l.length + 480 + 20) (by omega)
      rw [s1, s2']
      simp only [Option.bind_some]
      rw [h3]
      simp only [Option.bind_some, if_true]
      rw [tail a h3]
      show catenarylaw04_BallotOrders.j0 ((l.length + 480 + 19) + 1) v n a false = _
      simp only [catenarylaw04_BallotOrders.j0, Bool.false_eq_true, if_false]
      rw [if_neg (by omega), order_is a n R1, decide_eq_true s3, s4]
      simp only [Option.bind_some, Bool.and_self, if_true]
      rw [if_pos (by omega)]
      unfold ballot_Head.f
      rw [R1]
      simp only [Option.bind_some, if_true]
      rw [if_neg hv, if_neg (by omega), s5]
      simp
  · refine empty ?_ ?_
    · unfold ballot_Start.f ballot_Head.f
      rw [R1]
      rfl
    · unfold catenaryref04_Start.f catenaryref04_Head.f
      rw [R2]
      rfl

end Go.Proofs.Ytekfobefehkajaa.Pure
