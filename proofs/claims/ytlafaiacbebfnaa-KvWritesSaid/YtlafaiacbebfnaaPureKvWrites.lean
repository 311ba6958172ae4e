/- The pure statement. -/
import Derived.Test.YtlafaiacbebfnaaPKvWritesx11
namespace Go.Proofs.Ytlafaiacbebfnaa.Pure
open Go Go.RowKit Go.Proofs.Ytlafaiacbebfnaa.PKvWrites Go.Proofs.YtlafaiacbebfnaaW.PrintWords Go.Proofs.YtlafaiacbebfnaaW.PrintLast Go.Proofs.YtlafaiacbebfnaaW.PrintMore
set_option linter.unusedVariables false
set_option linter.unusedSimpArgs false
theorem w64 (i : Nat) (h : i < 1000000000000000000) : wrap64 ((i : Int) + 1) = ((i + 1 : Nat) : Int) := by unfold wrap64; omega
theorem ev_succ {α : Type} {g : Nat → Option α} {r : α} (h : Ev (fun k => g (k + 1)) r) : Ev g r := Ev.step (fun _ => rfl) h
theorem rdL (xs : List (List Int)) (i : Nat) (h : i < xs.length) : rd_L1 xs (i : Int) = xs[i] := by
  unfold rd_L1
  rw [Int.toNat_natCast, List.getD_eq_getElem?_getD, List.getElem?_eq_getElem h]; rfl
def enc : Nat → Int → List Int
  | 0, x => [x % 256]
  | n + 1, x => if x ≥ 128 then Go.bits .or .u8 (x % 256) 128 :: enc n (x / 128) else [x % 256]
theorem enc_pos (n : Nat) (x : Int) (h : x ≥ 128) : enc (n + 1) x = [Go.bits .or .u8 (x % 256) 128] ++ enc n (x / 128) := by
  show (if x ≥ 128 then Go.bits .or .u8 (x % 256) 128 :: enc n (x / 128) else [x % 256]) = _
  rw [if_pos h]; rfl
theorem enc_len : ∀ n x, (enc n x).length ≤ n + 1
  | 0, _ => Nat.le_refl _
  | n + 1, x => by
    unfold enc
    split
    · have := enc_len n (x / 128); rw [List.length_cons]; omega
    · simp
theorem int_l0 : ∀ (n : Nat) (x : Int) (acc : List Int), 0 ≤ x → x < 128 ^ (n + 1) → acc.length + n < 1000 → Ev (fun k => octet_Int.l0 k x acc) (acc ++ enc n x, 0)
  | 0, x, acc, h0, h1, h2 => by
    apply ev_succ
    have e1 : ¬ x ≥ 128 := by omega
    have e2 : acc.length < 140737488355328 := by omega
    simp only [octet_Int.l0, if_neg e1, if_pos e2]
    exact Ev.now _
  | n + 1, x, acc, h0, h1, h2 => by
    apply ev_succ
    have e2 : acc.length < 140737488355328 := by omega
    by_cases e1 : x ≥ 128
    · simp only [octet_Int.l0, if_pos e1, if_pos e2]
      have := int_l0 n (x / 128) (acc ++ [Go.bits .or .u8 (x % 256) 128]) (by omega) (by
        have e : (128 : Int) ^ (n + 1 + 1) = 128 ^ (n + 1) * 128 := Int.pow_succ _ _
        rw [e] at h1
        exact Int.ediv_lt_of_lt_mul (by decide) h1) (by simp; omega)
      rw [List.append_assoc] at this
      rw [enc_pos n x e1]
      exact this
    · simp only [octet_Int.l0, if_neg e1, if_pos e2]
      rw [show enc (n + 1) x = [x % 256] by unfold enc; rw [if_neg e1]]
      exact Ev.now _
theorem int_ev (x : Int) (h0 : 0 ≤ x) (h1 : x ≤ 2147483647) : Ev (fun k => octet_Int.f k x) (enc 4 x, 0) := by
  have e1 : ¬ x < 0 := by omega
  have e2 : decide (x > 2147483647) = false := decide_eq_false (by omega)
  simp only [octet_Int.f, if_neg e1, e2]
  apply ev_succ
  simp only [octet_Int.j0, Bool.false_eq_true, if_false]
  exact int_l0 4 x [] h0 (by omega) (by decide)
theorem cat_l1 (xs : List (List Int)) (hx : xs.length < 1000) : ∀ (d i : Nat) (acc : List Int), d + i = xs.length → acc.length + (xs.drop i).flatten.length < 140737488355328 →
    Ev (fun k => slices_Concat_byte_byte.l1 k acc xs (xs.length : Int) (i : Int)) (acc ++ (xs.drop i).flatten)
  | 0, i, acc, hd, hl => by
    apply ev_succ
    have e1 : ¬ (i : Int) < (xs.length : Int) := by omega
    simp only [slices_Concat_byte_byte.l1, if_neg e1]
    rw [List.drop_eq_nil_of_le (by omega)]
    rw [List.flatten_nil, List.append_nil]
    exact Ev.now _
  | d + 1, i, acc, hd, hl => by
    apply ev_succ
    have hi : i < xs.length := by omega
    have e1 : (i : Int) < (xs.length : Int) := by omega
    have e2 : (0 : Int) ≤ (i : Int) := by omega
    rw [List.drop_eq_getElem_cons hi, List.flatten_cons] at hl ⊢
    rw [List.length_append] at hl
    have e3 : acc.length + (xs[i]).length < 140737488355328 := by omega
    simp only [slices_Concat_byte_byte.l1, if_pos e1, if_pos e2, rdL xs i hi, if_pos e3, w64 i (by omega)]
    have := cat_l1 xs hx d (i + 1) (acc ++ xs[i]) (by omega) (by rw [List.length_append]; omega)
    rw [List.append_assoc] at this
    exact this
theorem cat_l0 (xs : List (List Int)) (hx : xs.length < 1000) (r : List Int) (h : ∀ s : Nat, s < 140737488355328 → Ev (fun k => (slices_Grow_byte_byte.f () (s : Int)).bind fun t117 => (slices_Concat_byte_byte.l1 k t117 xs (xs.length : Int) 0)) r) :
    ∀ (d i s : Nat), d + i = xs.length → s + (xs.drop i).flatten.length < 140737488355328 →
    Ev (fun k => slices_Concat_byte_byte.l0 k xs (s : Int) xs (xs.length : Int) (i : Int)) r
  | 0, i, s, hd, hl => by
    apply ev_succ
    have e1 : ¬ (i : Int) < (xs.length : Int) := by omega
    simp only [slices_Concat_byte_byte.l0, if_neg e1]
    exact h s (by omega)
  | d + 1, i, s, hd, hl => by
    apply ev_succ
    have hi : i < xs.length := by omega
    have e1 : (i : Int) < (xs.length : Int) := by omega
    have e2 : (0 : Int) ≤ (i : Int) := by omega
    rw [List.drop_eq_getElem_cons hi, List.flatten_cons, List.length_append] at hl
    have e3 : wrap64 ((s : Int) + ((xs[i]).length : Int)) = ((s + (xs[i]).length : Nat) : Int) := by unfold wrap64; omega
    have e4 : ¬ ((s + (xs[i]).length : Nat) : Int) < 0 := by omega
    simp only [slices_Concat_byte_byte.l0, if_pos e1, if_pos e2, rdL xs i hi, e3, if_neg e4, w64 i (by omega)]
    exact cat_l0 xs hx r h d (i + 1) (s + (xs[i]).length) (by omega) (by omega)
theorem cat_ev (xs : List (List Int)) (hx : xs.length < 1000) (hl : xs.flatten.length < 140737488355328) : Ev (fun k => slices_Concat_byte_byte.f k xs) xs.flatten := by
  simp only [slices_Concat_byte_byte.f]
  refine cat_l0 xs hx _ (fun s hs => ?_) xs.length 0 0 (by omega) (by simpa using hl)
  have e1 : (0 : Int) ≤ (s : Int) := by omega
  have e2 : ((s : Int)).toNat < 140737488355328 := by omega
  simp only [slices_Grow_byte_byte.f, if_pos e1, if_pos e2, Option.bind_some]
  exact cat_l1 xs hx xs.length 0 [] (by omega) (by simpa using hl)
theorem bytes_ev (l : List Int) (h : l.length ≤ 1000) : Ev (fun k => octet_Bytes.f k l) (enc 4 (l.length : Int) ++ l) := by
  simp only [octet_Bytes.f]
  refine Ev.bind (int_ev (l.length : Int) (by omega) (by omega)) ?_
  have := enc_len 4 (l.length : Int)
  refine Ev.bind (cat_ev [enc 4 (l.length : Int), l] (by simp) (by simp; omega)) ?_
  simp only [List.flatten_cons, List.flatten_nil, List.append_nil]
  exact Ev.now _
def packed (xs : List (List Int)) : List Int := (xs.map (fun l => enc 4 (l.length : Int) ++ l)).flatten
theorem pack_l0 (xs : List (List Int)) (hx : xs.length < 1000) (hb : ∀ x ∈ xs, x.length ≤ 1000) : ∀ (d i : Nat) (acc : List Int), d + i = xs.length → acc.length + d * 1005 < 140737488355328 →
    Ev (fun k => octet_Pack.l0 k acc xs (xs.length : Int) (i : Int)) (acc ++ packed (xs.drop i))
  | 0, i, acc, hd, hl => by
    apply ev_succ
    have e1 : ¬ (i : Int) < (xs.length : Int) := by omega
    simp only [octet_Pack.l0, if_neg e1]
    rw [List.drop_eq_nil_of_le (by omega)]
    rw [show packed [] = [] from rfl, List.append_nil]
    exact Ev.now _
  | d + 1, i, acc, hd, hl => by
    apply ev_succ
    have hi : i < xs.length := by omega
    have e1 : (i : Int) < (xs.length : Int) := by omega
    have e2 : (0 : Int) ≤ (i : Int) := by omega
    have hb1 := hb xs[i] (List.getElem_mem hi)
    have hn := enc_len 4 ((xs[i]).length : Int)
    rw [List.drop_eq_getElem_cons hi]
    have e3 : acc.length + (enc 4 ((xs[i]).length : Int) ++ xs[i]).length < 140737488355328 := by rw [List.length_append]; omega
    simp only [octet_Pack.l0, if_pos e1, if_pos e2, rdL xs i hi]
    refine Ev.bind (bytes_ev xs[i] hb1) ?_
    simp only [if_pos e3, w64 i (by omega)]
    have := pack_l0 xs hx hb d (i + 1) (acc ++ (enc 4 ((xs[i]).length : Int) ++ xs[i])) (by omega) (by rw [List.length_append, List.length_append]; omega)
    rw [List.append_assoc] at this
    exact this
theorem pack_ev (xs : List (List Int)) (hx : xs.length < 1000) (hb : ∀ x ∈ xs, x.length ≤ 1000) : Ev (fun k => octet_Pack.f k xs) (packed xs) := by
  simp only [octet_Pack.f]
  exact pack_l0 xs hx hb xs.length 0 [] (by omega) (by simp; omega)
def kindB (kd num : Int) : Bool := if kd = 5 ∨ kd = 6 then decide (num ≥ 1) && decide (num ≤ 1000) else decide (num = 0)
def rightB (kd : Int) (n v w : List Int) (num : Int) : Bool :=
  decide ((n.length : Int) ≥ 1) && decide ((n.length : Int) ≤ 16) && decide ((v.length : Int) ≤ 64) && decide ((w.length : Int) ≤ 64) && decide (kd ≥ 1) && decide (kd ≤ 8) &&
  (decide ((v.length : Int) = 0) || decide (kd = 2) || decide (kd = 3)) && (decide ((w.length : Int) = 0) || decide (kd = 3)) && kindB kd num
theorem right3 (k : Nat) (x3 x4 x5 x62 : Bool) (kd : Int) (n v w : List Int) (num : Int) : kv_right.j3 (k + 1) x3 x4 x5 (num == 0) x62 kd n v w num = some (decide (kd ≥ 1) && decide (kd ≤ 8) && x3 && x4 && x5 && (if x62 = true then decide (num ≥ 1) && decide (num ≤ 1000) else decide (num = 0))) := by
  by_cases h1 : kd ≥ 1 <;> by_cases h2 : kd ≤ 8 <;> by_cases h3 : num ≥ 1 <;> cases x3 <;> cases x4 <;> cases x5 <;> cases x62 <;> simp [kv_right.j3, h1, h2, h3]
  all_goals by_cases h4 : num = 0 <;> simp [h4]
theorem right2 (k : Nat) (x3 x4 x5 : Bool) (kd : Int) (n v w : List Int) (num : Int) : kv_right.j2 (k + 2) x3 x4 x5 kd n v w num = some (decide (kd ≥ 1) && decide (kd ≤ 8) && x3 && x4 && x5 && kindB kd num) := by
  unfold kindB
  simp only [kv_right.j2]
  by_cases h5 : kd = 5
  · rw [if_pos h5, right3, if_pos (Or.inl h5), if_pos rfl]
  · rw [if_neg h5, right3]
    by_cases h6 : kd = 6
    · rw [if_pos (Or.inr h6), if_pos (by rw [h6]; rfl)]
    · rw [if_neg (show ¬ (kd == 6) = true by simpa using h6), if_neg (by omega)]
theorem right1 (k : Nat) (x3 x4 : Bool) (kd : Int) (n v w : List Int) (num : Int) : kv_right.j1 (k + 3) x3 x4 kd n v w num = some (decide (kd ≥ 1) && decide (kd ≤ 8) && x3 && x4 && (decide ((w.length : Int) = 0) || decide (kd = 3)) && kindB kd num) := by
  simp only [kv_right.j1]
  by_cases h5 : (w.length : Int) = 0
  · rw [if_pos h5, right2, decide_eq_true h5, Bool.true_or]
  · rw [if_neg h5, right2, decide_eq_false h5, Bool.false_or]; rfl
theorem right0 (k : Nat) (x3 : Bool) (kd : Int) (n v w : List Int) (num : Int) : kv_right.j0 (k + 4) x3 kd n v w num = some (decide (kd ≥ 1) && decide (kd ≤ 8) && x3 && (decide ((v.length : Int) = 0) || decide (kd = 2) || decide (kd = 3)) && (decide ((w.length : Int) = 0) || decide (kd = 3)) && kindB kd num) := by
  simp only [kv_right.j0]
  by_cases h5 : (v.length : Int) = 0
  · rw [if_pos h5, right1, decide_eq_true h5, Bool.true_or, Bool.true_or]
  · rw [if_neg h5, decide_eq_false h5, Bool.false_or]
    by_cases h6 : kd = 2
    · rw [if_pos h6, right1, decide_eq_true h6, Bool.true_or]
    · rw [if_neg h6, right1, decide_eq_false h6, Bool.false_or]; rfl
theorem right_ev (kd : Int) (n v w : List Int) (num : Int) : Ev (fun k => kv_right.f k kd n v w num) (rightB kd n v w num) := by
  refine ⟨4, fun k hk => ?_⟩
  obtain ⟨k, rfl⟩ : ∃ m, k = m + 4 := ⟨k - 4, by omega⟩
  unfold kv_right.f rightB
  simp only [right0]
  by_cases h1 : (n.length : Int) ≥ 1 <;> by_cases h2 : (n.length : Int) ≤ 16 <;> by_cases h3 : (v.length : Int) ≤ 64 <;> by_cases h4 : (w.length : Int) ≤ 64 <;> simp only [if_pos, h1, h2, h3, h4, decide_true, decide_false, Bool.and_true, Bool.true_and, Bool.and_false, Bool.false_and, if_false]
def opBytes (kd : Int) (n v w : List Int) (num : Int) : List Int := enc 4 kd ++ packed [n, v, w] ++ enc 4 num
theorem write_ev (kd : Int) (n v w : List Int) (num : Int) : Ev (fun k => kv_Write.f k kd n v w num) (if rightB kd n v w num = true then (opBytes kd n v w num, 0) else ([], 71)) := by
  simp only [kv_Write.f]
  refine Ev.bind (right_ev kd n v w num) ?_
  by_cases h : rightB kd n v w num = true
  · simp only [if_pos h]
    have hk : 1 ≤ kd ∧ kd ≤ 8 ∧ 0 ≤ num ∧ num ≤ 1000 ∧ n.length ≤ 16 ∧ v.length ≤ 64 ∧ w.length ≤ 64 := by
      unfold rightB at h
      simp only [Bool.and_eq_true, decide_eq_true_eq] at h
      obtain ⟨⟨⟨⟨⟨⟨⟨⟨a1, a2⟩, a3⟩, a4⟩, a5⟩, a6⟩, a7⟩, a8⟩, a9⟩ := h
      unfold kindB at a9
      refine ⟨a5, a6, ?_, ?_, by omega, by omega, by omega⟩
      · split at a9 <;> simp only [Bool.and_eq_true, decide_eq_true_eq] at a9 <;> omega
      · split at a9 <;> simp only [Bool.and_eq_true, decide_eq_true_eq] at a9 <;> omega
    obtain ⟨b1, b2, b3, b4, b5, b6, b7⟩ := hk
    refine Ev.bind (int_ev kd (by omega) (by omega)) ?_
    refine Ev.bind (int_ev num (by omega) (by omega)) ?_
    have hb : ∀ x ∈ [n, v, w], x.length ≤ 1000 := by
      intro x hx
      simp only [List.mem_cons, List.not_mem_nil, or_false] at hx
      rcases hx with rfl | rfl | rfl <;> omega
    refine Ev.bind (pack_ev [n, v, w] (by simp) hb) ?_
    have l1 := enc_len 4 kd
    have l2 := enc_len 4 num
    have l3 := enc_len 4 (n.length : Int)
    have l4 := enc_len 4 (v.length : Int)
    have l5 := enc_len 4 (w.length : Int)
    refine Ev.bind (cat_ev [enc 4 kd, packed [n, v, w], enc 4 num] (by simp) (by simp [packed]; omega)) ?_
    rw [show [enc 4 kd, packed [n, v, w], enc 4 num].flatten = opBytes kd n v w num by simp [opBytes]]
    exact Ev.now _
  · simp only [if_neg h]
    exact Ev.now _
theorem wraps_i64 (n : Int) (h0 : 0 ≤ n) (h1 : n < 2 ^ 62) : IntKind.i64.wrap n = n := by
  rw [IntKind.wrap_i64]; omega
theorem or_swap (k : IntKind) (a b : Int) : Go.bits .or k a b = Go.bits .or k b a := by
  simp only [Go.bits]
  rw [BitVec.or_comm]
theorem pow7 (i : Nat) (hi : i ≤ 4) : (i = 0 ∧ (2 : Int) ^ (7 * i) = 1) ∨ (i = 1 ∧ (2 : Int) ^ (7 * i) = 128) ∨ (i = 2 ∧ (2 : Int) ^ (7 * i) = 16384) ∨ (i = 3 ∧ (2 : Int) ^ (7 * i) = 2097152) ∨ (i = 4 ∧ (2 : Int) ^ (7 * i) = 268435456) := by
  have : i = 0 ∨ i = 1 ∨ i = 2 ∨ i = 3 ∨ i = 4 := by omega
  rcases this with rfl | rfl | rfl | rfl | rfl <;> decide
theorem or128 (y : Int) (h0 : 0 ≤ y) : Go.bits .or .u8 (y % 256) 128 = y % 128 + 128 := by
  have key : ∀ n : Fin 256, Go.bits .or .u8 ((n.val : Nat) : Int) 128 = ((n.val : Nat) : Int) % 128 + 128 := by decide +kernel
  have h := key ⟨(y % 256).toNat, by omega⟩
  have e : (((y % 256).toNat : Nat) : Int) = y % 256 := by omega
  rw [show ((⟨(y % 256).toNat, by omega⟩ : Fin 256).val) = (y % 256).toNat from rfl, e] at h
  rw [h]; omega
theorem digit (acc c : Int) (i : Nat) (hi : i ≤ 4) (h0 : 0 ≤ acc) (h1 : acc < 2 ^ (7 * i)) (hc0 : 0 ≤ c) (hc : c < 256) :
    Go.bits .or .i64 acc (shl .i64 (wrap64 (Go.bits .and .u8 c 127)) (wrap64 (7 * (i : Int)))) = acc + (c % 128) * 2 ^ (7 * i) := by
  have e1 : Go.bits .and .u8 c 127 = c % 128 := bits_mask .u8 8 (by decide) wraps_u8 7 (by decide) c hc0 hc
  have e2 : wrap64 (c % 128) = c % 128 := by unfold wrap64; omega
  have e3 : wrap64 (7 * (i : Int)) = ((7 * i : Nat) : Int) := by unfold wrap64; omega
  have hb : (c % 128) * 2 ^ (7 * i) < 2 ^ 62 ∧ 0 ≤ (c % 128) * 2 ^ (7 * i) ∧ (2 : Int) ^ (7 * i) ≤ 268435456 := by
    rcases pow7 i hi with ⟨_, e⟩ | ⟨_, e⟩ | ⟨_, e⟩ | ⟨_, e⟩ | ⟨_, e⟩ <;> rw [e] <;> omega
  have e4 : shl .i64 (c % 128) ((7 * i : Nat) : Int) = (c % 128) * 2 ^ (7 * i) := by
    unfold shl
    rw [Int.toNat_natCast, show min (7 * i) IntKind.i64.bits = 7 * i from Nat.min_eq_left (Nat.le_trans (show 7 * i ≤ 28 by omega) (by decide))]
    exact wraps_i64 _ hb.2.1 hb.1
  rw [e1, e2, e3, e4, or_swap, bits_join .i64 62 (by decide) wraps_i64 (7 * i) _ _ hb.2.1 (Int.mul_emod_left _ _) hb.1 h0 h1 (by omega), Int.add_comm]
theorem rd_at (s1 s2 : List Int) (c : Int) (i : Nat) (h : s1.length = i) : rd (s1 ++ c :: s2) (i : Int) = c := by
  unfold rd
  rw [Int.toNat_natCast, List.getD_eq_getElem?_getD, List.getElem?_append_right (by omega), h, Nat.sub_self]; rfl
theorem w7 (i : Nat) (hi : i ≤ 4) : (0 : Int) ≤ wrap64 (7 * (i : Int)) := by
  rw [show wrap64 (7 * (i : Int)) = ((7 * i : Nat) : Int) by unfold wrap64; omega]; omega
theorem wat (at_ : Int) (i : Nat) (hi : i ≤ 4) (ha0 : 0 ≤ at_) (ha : at_ < 2 ^ 50) : wrap64 (wrap64 (at_ + (i : Int)) + 1) = at_ + i + 1 := by unfold wrap64; omega
theorem split_sum (acc y x : Int) (i : Nat) (hi : i ≤ 4) (h0 : 0 ≤ acc) (h1 : acc < 2 ^ (7 * i)) (hy0 : 0 ≤ y) (he : x = acc + y * 2 ^ (7 * i)) : 0 ≤ acc + (y % 128) * 2 ^ (7 * i) ∧ acc + (y % 128) * 2 ^ (7 * i) < 2 ^ (7 * (i + 1)) ∧ x = acc + (y % 128) * 2 ^ (7 * i) + (y / 128) * 2 ^ (7 * (i + 1)) := by
  have e7 : (2 : Int) ^ (7 * (i + 1)) = 2 ^ (7 * i) * 128 := by rw [show 7 * (i + 1) = 7 * i + 7 by omega, Int.pow_add]; rfl
  rw [e7]
  have hP := pow7 i hi
  generalize (2 : Int) ^ (7 * i) = P at *
  rcases hP with ⟨_, rfl⟩ | ⟨_, rfl⟩ | ⟨_, rfl⟩ | ⟨_, rfl⟩ | ⟨_, rfl⟩ <;> omega
theorem get_last (at_ : Int) (x : Int) (hx : x ≤ 2147483647) (i : Nat) (acc y : Int) (s1 s2 : List Int) (hi : i ≤ 4) (hs : s1.length = i) (h0 : 0 ≤ acc) (h1 : acc < 2 ^ (7 * i)) (hy0 : 0 ≤ y) (hy : y < 128) (hp : i > 0 → y > 0) (he : x = acc + y * 2 ^ (7 * i)) (ha0 : 0 ≤ at_) (ha : at_ < 2 ^ 50) :
    Ev (fun k => octet_GetInt.l0 k at_ acc (s1 ++ (y % 256) :: s2) ((s1 ++ (y % 256) :: s2).length : Int) (i : Int)) (x, at_ + i + 1, 0) := by
  have em : y % 256 = y := by omega
  rw [em]
  have e1 : (i : Int) < ((s1 ++ y :: s2).length : Int) := by rw [List.length_append, List.length_cons]; omega
  have e2 : (0 : Int) ≤ (i : Int) := by omega
  have e3 := w7 i (by omega)
  have ed : Go.bits .or .i64 acc (shl .i64 (wrap64 (Go.bits .and .u8 y 127)) (wrap64 (7 * (i : Int)))) = x := by
    rw [digit acc y i hi h0 h1 hy0 (by omega), he, show y % 128 = y by omega]
  have e4 : ¬ x > 2147483647 := by omega
  have ew := wat at_ i hi ha0 ha
  refine ev_succ (ev_succ ?_)
  simp only [octet_GetInt.l0, if_pos e1, if_pos e2, if_pos e3, rd_at s1 s2 y i hs, if_pos hy, ed, if_neg e4, octet_GetInt.j2, ew, Bool.false_eq_true, if_false]
  by_cases hz : y = 0
  · have e5 : ¬ (i : Int) > 0 := by
      intro hq
      have := hp (by omega)
      omega
    have e6 : decide ((i : Int) > 0) = false := decide_eq_false e5
    simp only [if_pos hz, e6, Bool.false_eq_true, if_false]
    exact Ev.now _
  · simp only [if_neg hz]
    exact Ev.now _
def P7 (i : Nat) : Int := 2 ^ (7 * i)
def B7 (m : Nat) : Int := 128 ^ (m + 1)
theorem B7_div (m : Nat) (y : Int) (h : y < B7 (m + 1)) : y / 128 < B7 m := by
  have e : B7 (m + 1) = B7 m * 128 := Int.pow_succ _ _
  rw [e] at h
  exact Int.ediv_lt_of_lt_mul (by decide) h
theorem le4 {m i : Nat} (h : m + i = 4) : i ≤ 4 := by omega
theorem get_l0 (at_ : Int) (x : Int) (hx : x ≤ 2147483647) (ha0 : 0 ≤ at_) (ha : at_ < 2 ^ 50) : ∀ (m i : Nat) (acc y : Int) (s1 s2 : List Int), m + i = 4 → s1.length = i → 0 ≤ acc → acc < P7 i → 0 ≤ y → y < B7 m → (i > 0 → y > 0) → x = acc + y * P7 i →
    Ev (fun k => octet_GetInt.l0 k at_ acc (s1 ++ (enc m y ++ s2)) ((s1 ++ (enc m y ++ s2)).length : Int) (i : Int)) (x, at_ + i + ((enc m y).length : Int), 0)
  | 0, i, acc, y, s1, s2, hm, hs, h0, h1, hy0, hy, hp, he => by
    have := get_last at_ x hx i acc y s1 s2 (le4 hm) hs h0 h1 hy0 (by first | exact hy | omega) hp he ha0 ha
    rw [show enc 0 y = [y % 256] from rfl]
    exact this
  | m + 1, i, acc, y, s1, s2, hm, hs, h0, h1, hy0, hy, hp, he => by
    by_cases hg : y ≥ 128
    · rw [enc_pos m y hg, or128 y hy0]
      rw [show [y % 128 + 128] ++ enc m (y / 128) ++ s2 = (y % 128 + 128) :: (enc m (y / 128) ++ s2) by simp]
      have e1 : (i : Int) < ((s1 ++ (y % 128 + 128) :: (enc m (y / 128) ++ s2)).length : Int) := by rw [List.length_append, List.length_cons]; omega
      have e2 : (0 : Int) ≤ (i : Int) := by omega
      have e3 := w7 i (le4 hm)
      have ed : Go.bits .or .i64 acc (shl .i64 (wrap64 (Go.bits .and .u8 (y % 128 + 128) 127)) (wrap64 (7 * (i : Int)))) = acc + (y % 128) * 2 ^ (7 * i) := by
        rw [digit acc (y % 128 + 128) i (le4 hm) h0 h1 (by omega) (by omega), show (y % 128 + 128) % 128 = y % 128 by omega]
      have e4 : ¬ (y % 128 + 128) < 128 := by omega
      have ew : wrap64 ((i : Int) + 1) = ((i + 1 : Nat) : Int) := w64 i (by have := le4 hm; omega)
      have hq := split_sum acc y x i (le4 hm) h0 h1 hy0 he
      have ih := get_l0 at_ x hx ha0 ha m (i + 1) (acc + (y % 128) * 2 ^ (7 * i)) (y / 128) (s1 ++ [y % 128 + 128]) s2 (by omega) (by rw [List.length_append, hs]; rfl) hq.1 hq.2.1 (by omega) (B7_div m y hy) (by omega) hq.2.2
      rw [List.append_assoc, List.singleton_append] at ih
      refine ev_succ ?_
      simp only [octet_GetInt.l0, if_pos e1, if_pos e2, if_pos e3, rd_at s1 _ _ i hs, if_neg e4, ed, ew]
      rw [show at_ + (i : Int) + (([y % 128 + 128] ++ enc m (y / 128)).length : Int) = at_ + ((i + 1 : Nat) : Int) + ((enc m (y / 128)).length : Int) by rw [List.length_append, List.length_singleton]; omega]
      exact ih
    · have := get_last at_ x hx i acc y s1 s2 (le4 hm) hs h0 h1 hy0 (by first | exact hy | omega) hp he ha0 ha
      rw [show enc (m + 1) y = [y % 256] by unfold enc; rw [if_neg hg]]
      exact this
theorem B74 (x : Int) (h : x ≤ 2147483647) : x < B7 4 := by
  have : B7 4 = 34359738368 := by decide +kernel
  omega
theorem get_ev (pre post : List Int) (x : Int) (h0 : 0 ≤ x) (hx : x ≤ 2147483647) (hl : (pre ++ (enc 4 x ++ post)).length < 1000000) :
    Ev (fun k => octet_GetInt.f k (pre ++ (enc 4 x ++ post)) (pre.length : Int)) (x, ((pre.length + (enc 4 x).length : Nat) : Int), 0) := by
  have hn := enc_len 4 x
  have hl' := hl
  rw [List.length_append, List.length_append] at hl'
  have e1 : ¬ (pre.length : Int) < 0 := by omega
  have e2 : decide ((pre.length : Int) > ((pre ++ (enc 4 x ++ post)).length : Int)) = false := decide_eq_false (by rw [List.length_append]; omega)
  have ew : wrap64 ((pre.length : Int) + 5) = (pre.length : Int) + 5 := by unfold wrap64; omega
  obtain ⟨M, hM⟩ : ∃ M : Nat, mn ((pre ++ (enc 4 x ++ post)).length : Int) ((pre.length : Int) + 5) = (M : Int) ∧ pre.length ≤ M ∧ M ≤ (pre ++ (enc 4 x ++ post)).length ∧ (enc 4 x).length ≤ M - pre.length := by
    unfold mn
    rw [List.length_append, List.length_append]
    split
    · exact ⟨pre.length + 5, by omega, by omega, by omega, by omega⟩
    · exact ⟨pre.length + ((enc 4 x).length + post.length), rfl, by omega, by omega, by omega⟩
  obtain ⟨hM0, hM1, hM2, hM3⟩ := hM
  have e3 : (0 : Int) ≤ (pre.length : Int) := by omega
  have e4 : (pre.length : Int) ≤ (M : Int) := by omega
  have e5 : (M : Int) ≤ ((pre ++ (enc 4 x ++ post)).length : Int) := by omega
  have es : ((pre ++ (enc 4 x ++ post)).take M).drop pre.length = enc 4 x ++ post.take (M - pre.length - (enc 4 x).length) := by
    rw [List.take_append, List.drop_append, List.take_of_length_le hM1, List.drop_of_length_le (Nat.le_refl _), List.nil_append, Nat.sub_self, List.drop_zero, List.take_append, List.take_of_length_le hM3]
  simp only [octet_GetInt.f, if_neg e1, e2]
  refine ev_succ ?_
  simp only [octet_GetInt.j0, Bool.false_eq_true, if_false, ew, hM0, if_pos e3, if_pos e4, if_pos e5, Int.toNat_natCast, es]
  have := get_l0 (pre.length : Int) x hx (by omega) (by omega) 4 0 0 x [] (post.take (M - pre.length - (enc 4 x).length)) (by decide) rfl (by decide) (by decide) h0 (B74 x hx) (fun h => absurd h (by decide)) (by unfold P7; simp)
  rw [show ((pre.length : Int) + ((0 : Nat) : Int) + ((enc 4 x).length : Int)) = ((pre.length + (enc 4 x).length : Nat) : Int) by omega] at this
  exact this
theorem getB_ev (pre post l : List Int) (most : Int) (hb : l.length ≤ 1000) (hm : (l.length : Int) ≤ most) (hl : (pre ++ (enc 4 (l.length : Int) ++ (l ++ post))).length < 1000000) :
    Ev (fun k => octet_GetBytes.f k (pre ++ (enc 4 (l.length : Int) ++ (l ++ post))) (pre.length : Int) most) (l, ((pre.length + (enc 4 (l.length : Int)).length + l.length : Nat) : Int), 0) := by
  have hl' := hl
  rw [List.length_append, List.length_append, List.length_append] at hl'
  have e1 : ¬ (l.length : Int) > most := by omega
  have e2 : wrap64 (((pre ++ (enc 4 (l.length : Int) ++ (l ++ post))).length : Int) - ((pre.length + (enc 4 (l.length : Int)).length : Nat) : Int)) = ((l.length + post.length : Nat) : Int) := by
    rw [List.length_append, List.length_append, List.length_append]
    unfold wrap64; omega
  have e3 : decide ((l.length : Int) > ((l.length + post.length : Nat) : Int)) = false := decide_eq_false (by omega)
  simp only [octet_GetBytes.f]
  refine Ev.bind (get_ev pre (l ++ post) (l.length : Int) (by omega) (by omega) hl) ?_
  simp only [if_true, if_neg e1, e2, e3]
  have e4 : wrap64 (((pre.length + (enc 4 (l.length : Int)).length : Nat) : Int) + (l.length : Int)) = ((pre.length + (enc 4 (l.length : Int)).length + l.length : Nat) : Int) := by unfold wrap64; omega
  have e5 : (0 : Int) ≤ ((pre.length + (enc 4 (l.length : Int)).length : Nat) : Int) := by omega
  have e6 : ((pre.length + (enc 4 (l.length : Int)).length : Nat) : Int) ≤ ((pre.length + (enc 4 (l.length : Int)).length + l.length : Nat) : Int) := by omega
  have e7 : ((pre.length + (enc 4 (l.length : Int)).length + l.length : Nat) : Int) ≤ ((pre ++ (enc 4 (l.length : Int) ++ (l ++ post))).length : Int) := by
    rw [List.length_append, List.length_append, List.length_append]; omega
  have es : ((pre ++ (enc 4 (l.length : Int) ++ (l ++ post))).take (pre.length + (enc 4 (l.length : Int)).length + l.length)).drop (pre.length + (enc 4 (l.length : Int)).length) = l := by
    rw [← List.append_assoc, ← List.append_assoc, List.take_append_of_le_length (by simp only [List.length_append]; omega), List.take_of_length_le (by simp only [List.length_append]; omega)]
    rw [show pre.length + (enc 4 (l.length : Int)).length = (pre ++ enc 4 (l.length : Int)).length by rw [List.length_append], List.drop_left]
  have ec : slices_Clone_byte_byte.f l = some l := by
    unfold slices_Clone_byte_byte.f
    rw [if_pos (by omega)]
  refine ev_succ ?_
  simp only [octet_GetBytes.j0, Bool.false_eq_true, if_false, e4, if_pos e5, if_pos e6, if_pos e7, Int.toNat_natCast, es, ec, Option.bind_some]
  exact Ev.now _
theorem B7_0 : B7 0 = 128 := by decide +kernel
theorem ref_int : ∀ (n : Nat) (x : Int), n ≤ 4 → 0 ≤ x → x < B7 n → x ≤ 2147483647 → Ev (fun k => catenaryref01_Int.f k x) (enc n x, 0)
  | 0, x, hn, h0, h1, h2 => by
    rw [B7_0] at h1
    have e1 : ¬ x < 0 := by omega
    have e2 : decide (x > 2147483647) = false := decide_eq_false (by omega)
    have e3 : x < 128 := h1
    refine ev_succ (ev_succ ?_)
    simp only [catenaryref01_Int.f, if_neg e1, e2, catenaryref01_Int.j0, Bool.false_eq_true, if_false, if_pos e3]
    exact Ev.now _
  | n + 1, x, hn, h0, h1, h2 => by
    have e1 : ¬ x < 0 := by omega
    have e2 : decide (x > 2147483647) = false := decide_eq_false (by omega)
    by_cases hg : x ≥ 128
    · have e3 : ¬ x < 128 := by omega
      have e4 : wrap64 (Int.tdiv x 128) = x / 128 := by
        rw [Int.tdiv_eq_ediv_of_nonneg h0]; unfold wrap64; omega
      have e5 : (wrap64 (Int.tmod x 128 + 128)) % 256 = Go.bits .or .u8 (x % 256) 128 := by
        rw [or128 x h0, Int.tmod_eq_emod_of_nonneg h0]; unfold wrap64; omega
      have hl := enc_len n (x / 128)
      have e6 : ([Go.bits .or .u8 (x % 256) 128] : List Int).length + (enc n (x / 128)).length < 140737488355328 := by rw [List.length_singleton]; omega
      refine ev_succ (ev_succ ?_)
      simp only [catenaryref01_Int.f, if_neg e1, e2, catenaryref01_Int.j0, Bool.false_eq_true, if_false, if_neg e3, e4, e5]
      refine Ev.bind (ref_int n (x / 128) (by omega) (by omega) (B7_div n x h1) (by omega)) ?_
      simp only [Option.bind_some, if_pos e6, enc_pos n x hg]
      exact Ev.now _
    · have e3 : x < 128 := by omega
      refine ev_succ (ev_succ ?_)
      simp only [catenaryref01_Int.f, if_neg e1, e2, catenaryref01_Int.j0, Bool.false_eq_true, if_false, if_pos e3]
      rw [show enc (n + 1) x = [x % 256] by unfold enc; rw [if_neg hg]]
      exact Ev.now _
theorem ref_bytes (l : List Int) (h : l.length ≤ 1000) : Ev (fun k => catenaryref01_Bytes.f k l) (enc 4 (l.length : Int) ++ l) := by
  have hl := enc_len 4 (l.length : Int)
  have e1 : (enc 4 (l.length : Int)).length + l.length < 140737488355328 := by omega
  simp only [catenaryref01_Bytes.f]
  refine Ev.bind (ref_int 4 (l.length : Int) (by omega) (by omega) (B74 _ (by omega)) (by omega)) ?_
  simp only [if_pos e1]
  exact Ev.now _
theorem ref_pack_l0 (xs : List (List Int)) (hx : xs.length < 1000) (hb : ∀ x ∈ xs, x.length ≤ 1000) : ∀ (d i : Nat) (acc : List Int), d + i = xs.length → acc.length + d * 1005 < 140737488355328 →
    Ev (fun k => catenaryref01_Pack.l0 k acc xs (xs.length : Int) (i : Int)) (acc ++ packed (xs.drop i))
  | 0, i, acc, hd, hl => by
    apply ev_succ
    have e1 : ¬ (i : Int) < (xs.length : Int) := by omega
    simp only [catenaryref01_Pack.l0, if_neg e1]
    rw [List.drop_eq_nil_of_le (by omega)]
    rw [show packed [] = [] from rfl, List.append_nil]
    exact Ev.now _
  | d + 1, i, acc, hd, hl => by
    apply ev_succ
    have hi : i < xs.length := by omega
    have e1 : (i : Int) < (xs.length : Int) := by omega
    have e2 : (0 : Int) ≤ (i : Int) := by omega
    have hb1 := hb xs[i] (List.getElem_mem hi)
    have hn := enc_len 4 ((xs[i]).length : Int)
    rw [List.drop_eq_getElem_cons hi]
    have e3 : acc.length + (enc 4 ((xs[i]).length : Int) ++ xs[i]).length < 140737488355328 := by rw [List.length_append]; omega
    simp only [catenaryref01_Pack.l0, if_pos e1, if_pos e2, rdL xs i hi]
    refine Ev.bind (ref_bytes xs[i] hb1) ?_
    simp only [if_pos e3, w64 i (by omega)]
    have := ref_pack_l0 xs hx hb d (i + 1) (acc ++ (enc 4 ((xs[i]).length : Int) ++ xs[i])) (by omega) (by rw [List.length_append, List.length_append]; omega)
    rw [List.append_assoc] at this
    exact this
theorem ref_pack (xs : List (List Int)) (hx : xs.length < 1000) (hb : ∀ x ∈ xs, x.length ≤ 1000) : Ev (fun k => catenaryref01_Pack.f k xs) (packed xs) := by
  simp only [catenaryref01_Pack.f]
  exact ref_pack_l0 xs hx hb xs.length 0 [] (by omega) (by simp; omega)
theorem ref_right (kd : Int) (n v w : List Int) (num : Int) : Ev (fun k => catenaryref07_RightOp.f k kd n v w num) (rightB kd n v w num) := by
  refine ⟨4, fun k hk => ?_⟩
  obtain ⟨k, rfl⟩ : ∃ m, k = m + 4 := ⟨k - 4, by omega⟩
  have jt : catenaryref07_RightOp.j0 (k + 4) true kd n v w num = some false := by simp only [catenaryref07_RightOp.j0, if_true]
  unfold catenaryref07_RightOp.f rightB
  dsimp only
  by_cases h1 : kd < 1
  · rw [if_pos h1, jt, decide_eq_false (show ¬ kd ≥ 1 by omega)]; simp
  rw [if_neg h1, decide_eq_true (show kd ≥ 1 by omega)]
  by_cases h2 : kd > 8
  · rw [if_pos h2, jt, decide_eq_false (show ¬ kd ≤ 8 by omega)]; simp
  rw [if_neg h2, decide_eq_true (show kd ≤ 8 by omega)]
  by_cases h3 : (n.length : Int) = 0
  · rw [if_pos h3, jt, decide_eq_false (show ¬ (n.length : Int) ≥ 1 by omega)]; simp
  rw [if_neg h3, decide_eq_true (show (n.length : Int) ≥ 1 by omega)]
  by_cases h4 : (n.length : Int) > 16
  · rw [if_pos h4, jt, decide_eq_false (show ¬ (n.length : Int) ≤ 16 by omega)]; simp
  rw [if_neg h4, decide_eq_true (show (n.length : Int) ≤ 16 by omega)]
  by_cases h5 : (v.length : Int) > 64
  · rw [if_pos h5, jt, decide_eq_false (show ¬ (v.length : Int) ≤ 64 by omega)]; simp
  rw [if_neg h5, decide_eq_true (show (v.length : Int) ≤ 64 by omega)]
  by_cases h6 : (w.length : Int) > 64
  · rw [decide_eq_true h6, jt, decide_eq_false (show ¬ (w.length : Int) ≤ 64 by omega)]; simp
  rw [decide_eq_false h6, decide_eq_true (show (w.length : Int) ≤ 64 by omega)]
  simp only [catenaryref07_RightOp.j0, catenaryref07_RightOp.j1, Bool.false_eq_true, if_false, Bool.true_and]
  unfold kindB
  clear h3 h4 h5 h6
  generalize (v.length : Int) = V
  generalize (w.length : Int) = W
  by_cases k2 : kd = 2
  · subst k2
    by_cases q : W = 0 <;> by_cases q2 : num = 0 <;> simp [q, q2]
  by_cases k3 : kd = 3
  · subst k3
    by_cases q2 : num = 0 <;> simp [q2]
  by_cases k5 : kd = 5
  · subst k5
    by_cases q : V = 0 <;> by_cases q2 : W = 0 <;> by_cases q3 : num ≥ 1 <;> simp [q, q2, q3]
  by_cases k6 : kd = 6
  · subst k6
    by_cases q : V = 0 <;> by_cases q2 : W = 0 <;> by_cases q3 : num ≥ 1 <;> simp [q, q2, q3]
  by_cases q : V = 0 <;> by_cases q2 : W = 0 <;> by_cases q3 : num = 0 <;> simp [q, q2, q3, k2, k3, k5, k6]
theorem right_bounds {kd : Int} {n v w : List Int} {num : Int} (h : rightB kd n v w num = true) : 1 ≤ kd ∧ kd ≤ 8 ∧ 0 ≤ num ∧ num ≤ 1000 ∧ n.length ≤ 16 ∧ v.length ≤ 64 ∧ w.length ≤ 64 := by
  unfold rightB at h
  simp only [Bool.and_eq_true, decide_eq_true_eq] at h
  obtain ⟨⟨⟨⟨⟨⟨⟨⟨a1, a2⟩, a3⟩, a4⟩, a5⟩, a6⟩, a7⟩, a8⟩, a9⟩ := h
  unfold kindB at a9
  refine ⟨a5, a6, ?_, ?_, by omega, by omega, by omega⟩
  · split at a9 <;> simp only [Bool.and_eq_true, decide_eq_true_eq] at a9 <;> omega
  · split at a9 <;> simp only [Bool.and_eq_true, decide_eq_true_eq] at a9 <;> omega
theorem three {n v w : List Int} (b5 : n.length ≤ 16) (b6 : v.length ≤ 64) (b7 : w.length ≤ 64) : ∀ x ∈ [n, v, w], x.length ≤ 1000 := by
  intro x hx
  simp only [List.mem_cons, List.not_mem_nil, or_false] at hx
  rcases hx with rfl | rfl | rfl <;> omega
theorem ref_write (kd : Int) (n v w : List Int) (num : Int) : Ev (fun k => catenaryref07_Write.f k kd n v w num) (if rightB kd n v w num = true then (opBytes kd n v w num, 0) else ([], 71)) := by
  simp only [catenaryref07_Write.f]
  refine Ev.bind (ref_right kd n v w num) ?_
  by_cases h : rightB kd n v w num = true
  · simp only [if_pos h]
    obtain ⟨b1, b2, b3, b4, b5, b6, b7⟩ := right_bounds h
    have l1 := enc_len 4 kd
    have l2 := enc_len 4 num
    have l3 := enc_len 4 (n.length : Int)
    have l4 := enc_len 4 (v.length : Int)
    have l5 := enc_len 4 (w.length : Int)
    have hp : (packed [n, v, w]).length ≤ 1000 := by simp [packed]; omega
    refine Ev.bind (ref_int 4 kd (by omega) (by omega) (B74 _ (by omega)) (by omega)) ?_
    refine Ev.bind (ref_int 4 num (by omega) (by omega) (B74 _ (by omega)) (by omega)) ?_
    simp only [Option.bind_some, List.nil_append]
    have e1 : ([] : List Int).length + (enc 4 kd).length < 140737488355328 := by rw [List.length_nil]; omega
    simp only [if_pos e1]
    refine Ev.bind (ref_pack [n, v, w] (by simp) (three b5 b6 b7)) ?_
    have e2 : (enc 4 kd).length + (packed [n, v, w]).length < 140737488355328 := by omega
    have e3 : (enc 4 kd ++ packed [n, v, w]).length + (enc 4 num).length < 140737488355328 := by rw [List.length_append]; omega
    simp only [if_pos e2, if_pos e3]
    exact Ev.now _
  · simp only [if_neg h]
    exact Ev.now _
theorem read_ev (kd : Int) (n v w : List Int) (num : Int) (h : rightB kd n v w num = true) : Ev (fun k => kv_Read.f k (opBytes kd n v w num)) (kd, n, v, w, num, 0) := by
  obtain ⟨b1, b2, b3, b4, b5, b6, b7⟩ := right_bounds h
  have l1 := enc_len 4 kd
  have l2 := enc_len 4 num
  have l3 := enc_len 4 (n.length : Int)
  have l4 := enc_len 4 (v.length : Int)
  have l5 := enc_len 4 (w.length : Int)
  have hlen : (opBytes kd n v w num).length < 1000000 := by simp [opBytes, packed]; omega
  have q0 : opBytes kd n v w num = [] ++ (enc 4 kd ++ ((enc 4 (n.length : Int) ++ (n ++ (enc 4 (v.length : Int) ++ (v ++ (enc 4 (w.length : Int) ++ (w ++ enc 4 num)))))))) := by simp [opBytes, packed]
  have q1 : opBytes kd n v w num = (enc 4 kd) ++ (enc 4 (n.length : Int) ++ (n ++ (enc 4 (v.length : Int) ++ (v ++ (enc 4 (w.length : Int) ++ (w ++ enc 4 num)))))) := by simp [opBytes, packed]
  have q2 : opBytes kd n v w num = (enc 4 kd ++ enc 4 (n.length : Int) ++ n) ++ (enc 4 (v.length : Int) ++ (v ++ (enc 4 (w.length : Int) ++ (w ++ enc 4 num)))) := by simp [opBytes, packed]
  have q3 : opBytes kd n v w num = (enc 4 kd ++ enc 4 (n.length : Int) ++ n ++ enc 4 (v.length : Int) ++ v) ++ (enc 4 (w.length : Int) ++ (w ++ enc 4 num)) := by simp [opBytes, packed]
  have q4 : opBytes kd n v w num = (enc 4 kd ++ enc 4 (n.length : Int) ++ n ++ enc 4 (v.length : Int) ++ v ++ enc 4 (w.length : Int) ++ w) ++ (enc 4 num ++ []) := by simp [opBytes, packed]
  have r0 := get_ev [] ((enc 4 (n.length : Int) ++ (n ++ (enc 4 (v.length : Int) ++ (v ++ (enc 4 (w.length : Int) ++ (w ++ enc 4 num))))))) kd (by omega) (by omega) (by rw [← q0]; exact hlen)
  rw [← q0] at r0
  have r1 := getB_ev (enc 4 kd) (enc 4 (v.length : Int) ++ (v ++ (enc 4 (w.length : Int) ++ (w ++ enc 4 num)))) n 16 (by omega) (by omega) (by rw [← q1]; exact hlen)
  rw [← q1] at r1
  have r2 := getB_ev (enc 4 kd ++ enc 4 (n.length : Int) ++ n) (enc 4 (w.length : Int) ++ (w ++ enc 4 num)) v 64 (by omega) (by omega) (by rw [← q2]; exact hlen)
  rw [← q2] at r2
  have r3 := getB_ev (enc 4 kd ++ enc 4 (n.length : Int) ++ n ++ enc 4 (v.length : Int) ++ v) (enc 4 num) w 64 (by omega) (by omega) (by rw [← q3]; exact hlen)
  rw [← q3] at r3
  have r4 := get_ev (enc 4 kd ++ enc 4 (n.length : Int) ++ n ++ enc 4 (v.length : Int) ++ v ++ enc 4 (w.length : Int) ++ w) [] num (by omega) (by omega) (by rw [← q4]; exact hlen)
  rw [← q4] at r4
  have hL : ((opBytes kd n v w num).length : Int) = ((enc 4 kd).length + (enc 4 (n.length : Int)).length + n.length + (enc 4 (v.length : Int)).length + v.length + (enc 4 (w.length : Int)).length + w.length + (enc 4 num).length : Nat) := by
    rw [q4]; simp only [List.length_append, List.length_nil, Nat.add_zero]
  simp only [List.length_nil, Nat.zero_add, List.length_append] at r0 r1 r2 r3 r4
  simp only [kv_Read.f]
  refine Ev.bind r0 ?_
  refine Ev.bind r1 ?_
  refine Ev.bind r2 ?_
  refine Ev.bind r3 ?_
  refine Ev.bind r4 ?_
  simp only [beq_self_eq_true, Bool.not_true, Bool.or_self, Bool.false_eq_true, if_false, hL, if_true]
  refine Ev.bind (right_ev kd n v w num) ?_
  rw [h]
  refine ev_succ ?_
  simp only [kv_Read.j0, Bool.not_true, Bool.false_eq_true, if_false]
  exact Ev.now _
theorem read_nil : Ev (fun k => kv_Read.f k []) (0, [], [], [], 0, 71) := Ev.of (kv_Read.mono []) (k := 20) (by kernel_rfl)
theorem alive : Ev (fun k => catenarylaw07_kvAlive.f k) true := Ev.of catenarylaw07_kvAlive.mono (k := 60) (by kernel_rfl)
theorem same_self (a : List Int) : catenaryref01_Same.f a a = some true := by
  unfold catenaryref01_Same.f
  rw [beq_self_eq_true]
theorem sameop_self (kd : Int) (n v w : List Int) (num : Int) : catenaryref07_SameOp.f kd n v w num kd n v w num = some true := by
  unfold catenaryref07_SameOp.f
  rw [if_pos rfl, if_pos rfl]
  simp only [same_self, Option.bind_some, if_true]
theorem copyop (kd : Int) (n v w : List Int) (num : Int) (h1 : n.length < 140737488355328) (h2 : v.length < 140737488355328) (h3 : w.length < 140737488355328) : catenaryref07_CopyOp.f kd n v w num = some (kd, n, v, w, num) := by
  unfold catenaryref07_CopyOp.f
  simp only [Option.bind_some, List.length_nil, Nat.zero_add, if_pos h1, if_pos h2, if_pos h3, List.nil_append]
theorem KvWrites : catenarylaw07_KvWrites.Pure := by
  intro kd n v w num _ g1 g2 g3 _
  apply Ev.rounds
  have h1 : n.length < 140737488355328 := by have := g1.2.1; omega
  have h2 : v.length < 140737488355328 := by have := g2.2.1; omega
  have h3 : w.length < 140737488355328 := by have := g3.2.1; omega
  simp only [catenarylaw07_KvWrites.f]
  refine Ev.bind alive ?_
  simp only [if_true, copyop kd n v w num h1 h2 h3, Option.bind_some]
  refine Ev.bind (write_ev kd n v w num) ?_
  refine Ev.bind (ref_write kd n v w num) ?_
  simp only [same_self, Option.bind_some, if_true, Bool.not_true]
  by_cases h : rightB kd n v w num = true
  · simp only [if_pos h]
    refine ev_succ ?_
    simp only [catenarylaw07_KvWrites.j0, Bool.false_eq_true, if_false]
    refine Ev.bind (read_ev kd n v w num h) ?_
    simp only [if_true, sameop_self, Option.bind_some]
    exact Ev.now _
  · simp only [if_neg h]
    refine ev_succ ?_
    simp only [catenarylaw07_KvWrites.j0, Bool.false_eq_true, if_false]
    refine Ev.bind read_nil ?_
    simp only [if_true, show ¬ ((71 : Int) = 0) by decide, if_false]
    exact Ev.now _
end Go.Proofs.Ytlafaiacbebfnaa.Pure
