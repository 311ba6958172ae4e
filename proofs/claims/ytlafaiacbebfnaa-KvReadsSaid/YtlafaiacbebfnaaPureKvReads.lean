/- The pure statement. -/
import Derived.Test.YtlafaiacbebfnaaPKvReadsx11
import Derived.KernelRfl
import Derived.Lib.Bytes
import Derived.Lib.Bytealg
namespace Go.Proofs.Ytlafaiacbebfnaa.Pure
open Go Go.RowKit Go.Proofs.Ytlafaiacbebfnaa.PKvReads Go.Proofs.YtlafaiacbebfnaaW.PrintWords Go.Proofs.YtlafaiacbebfnaaW.PrintLast Go.Proofs.YtlafaiacbebfnaaW.PrintMore
set_option linter.unusedVariables false
set_option linter.unusedSimpArgs false
theorem w64 (i : Nat) (h : i < 1000000000000000000) : wrap64 ((i : Int) + 1) = ((i + 1 : Nat) : Int) := by unfold wrap64; omega
theorem ev_succ {α : Type} {g : Nat → Option α} {r : α} (h : Ev (fun k => g (k + 1)) r) : Ev g r := Ev.step (fun _ => rfl) h
theorem rdL (xs : List (List Int)) (i : Nat) (h : i < xs.length) : rd_L1 xs (i : Int) = xs[i] := by
  unfold rd_L1
  rw [Int.toNat_natCast, List.getD_eq_getElem?_getD, List.getElem?_eq_getElem h]; rfl
def enc : Nat → Int → List Int
  | 0, x => [x % 256]
  | n + 1, x => if x ≥ 128 then Go.bits .or .u8 (x % 256) 128 :: enc n (x / 128) else [x % 256]
theorem enc_pos (n : Nat) (x : Int) (h : x ≥ 128) : enc (n + 1) x = [Go.bits .or .u8 (x % 256) 128] ++ enc n (x / 128) := by
  show (if x ≥ 128 then Go.bits .or .u8 (x % 256) 128 :: enc n (x / 128) else [x % 256]) = _
  rw [if_pos h]; rfl
theorem enc_len : ∀ n x, (enc n x).length ≤ n + 1
  | 0, _ => Nat.le_refl _
  | n + 1, x => by
    unfold enc
    split
    · have := enc_len n (x / 128); rw [List.length_cons]; omega
    · simp
theorem int_l0 : ∀ (n : Nat) (x : Int) (acc : List Int), 0 ≤ x → x < 128 ^ (n + 1) → acc.length + n < 1000 → Ev (fun k => octet_Int.l0 k x acc) (acc ++ enc n x, 0)
  | 0, x, acc, h0, h1, h2 => by
    apply ev_succ
    have e1 : ¬ x ≥ 128 := by omega
    have e2 : acc.length < 140737488355328 := by omega
    simp only [octet_Int.l0, if_neg e1, if_pos e2]
    exact Ev.now _
  | n + 1, x, acc, h0, h1, h2 => by
    apply ev_succ
    have e2 : acc.length < 140737488355328 := by omega
    by_cases e1 : x ≥ 128
    · simp only [octet_Int.l0, if_pos e1, if_pos e2]
      have := int_l0 n (x / 128) (acc ++ [Go.bits .or .u8 (x % 256) 128]) (by omega) (by
        have e : (128 : Int) ^ (n + 1 + 1) = 128 ^ (n + 1) * 128 := Int.pow_succ _ _
        rw [e] at h1
        exact Int.ediv_lt_of_lt_mul (by decide) h1) (by simp; omega)
      rw [List.append_assoc] at this
      rw [enc_pos n x e1]
      exact this
    · simp only [octet_Int.l0, if_neg e1, if_pos e2]
      rw [show enc (n + 1) x = [x % 256] by unfold enc; rw [if_neg e1]]
      exact Ev.now _
theorem int_ev (x : Int) (h0 : 0 ≤ x) (h1 : x ≤ 2147483647) : Ev (fun k => octet_Int.f k x) (enc 4 x, 0) := by
  have e1 : ¬ x < 0 := by omega
  have e2 : decide (x > 2147483647) = false := decide_eq_false (by omega)
  simp only [octet_Int.f, if_neg e1, e2]
  apply ev_succ
  simp only [octet_Int.j0, Bool.false_eq_true, if_false]
  exact int_l0 4 x [] h0 (by omega) (by decide)
theorem cat_l1 (xs : List (List Int)) (hx : xs.length < 1000) : ∀ (d i : Nat) (acc : List Int), d + i = xs.length → acc.length + (xs.drop i).flatten.length < 140737488355328 →
    Ev (fun k => slices_Concat_byte_byte.l1 k acc xs (xs.length : Int) (i : Int)) (acc ++ (xs.drop i).flatten)
  | 0, i, acc, hd, hl => by
    apply ev_succ
    have e1 : ¬ (i : Int) < (xs.length : Int) := by omega
    simp only [slices_Concat_byte_byte.l1, if_neg e1]
    rw [List.drop_eq_nil_of_le (by omega)]
    rw [List.flatten_nil, List.append_nil]
    exact Ev.now _
  | d + 1, i, acc, hd, hl => by
    apply ev_succ
    have hi : i < xs.length := by omega
    have e1 : (i : Int) < (xs.length : Int) := by omega
    have e2 : (0 : Int) ≤ (i : Int) := by omega
    rw [List.drop_eq_getElem_cons hi, List.flatten_cons] at hl ⊢
    rw [List.length_append] at hl
    have e3 : acc.length + (xs[i]).length < 140737488355328 := by omega
    simp only [slices_Concat_byte_byte.l1, if_pos e1, if_pos e2, rdL xs i hi, if_pos e3, w64 i (by omega)]
    have := cat_l1 xs hx d (i + 1) (acc ++ xs[i]) (by omega) (by rw [List.length_append]; omega)
    rw [List.append_assoc] at this
    exact this
theorem cat_l0 (xs : List (List Int)) (hx : xs.length < 1000) (r : List Int) (h : ∀ s : Nat, s < 140737488355328 → Ev (fun k => (slices_Grow_byte_byte.f () (s : Int)).bind fun t117 => (slices_Concat_byte_byte.l1 k t117 xs (xs.length : Int) 0)) r) :
    ∀ (d i s : Nat), d + i = xs.length → s + (xs.drop i).flatten.length < 140737488355328 →
    Ev (fun k => slices_Concat_byte_byte.l0 k xs (s : Int) xs (xs.length : Int) (i : Int)) r
  | 0, i, s, hd, hl => by
    apply ev_succ
    have e1 : ¬ (i : Int) < (xs.length : Int) := by omega
    simp only [slices_Concat_byte_byte.l0, if_neg e1]
    exact h s (by omega)
  | d + 1, i, s, hd, hl => by
    apply ev_succ
    have hi : i < xs.length := by omega
    have e1 : (i : Int) < (xs.length : Int) := by omega
    have e2 : (0 : Int) ≤ (i : Int) := by omega
    rw [List.drop_eq_getElem_cons hi, List.flatten_cons, List.length_append] at hl
    have e3 : wrap64 ((s : Int) + ((xs[i]).length : Int)) = ((s + (xs[i]).length : Nat) : Int) := by unfold wrap64; omega
    have e4 : ¬ ((s + (xs[i]).length : Nat) : Int) < 0 := by omega
    simp only [slices_Concat_byte_byte.l0, if_pos e1, if_pos e2, rdL xs i hi, e3, if_neg e4, w64 i (by omega)]
    exact cat_l0 xs hx r h d (i + 1) (s + (xs[i]).length) (by omega) (by omega)
theorem cat_ev (xs : List (List Int)) (hx : xs.length < 1000) (hl : xs.flatten.length < 140737488355328) : Ev (fun k => slices_Concat_byte_byte.f k xs) xs.flatten := by
  simp only [slices_Concat_byte_byte.f]
  refine cat_l0 xs hx _ (fun s hs => ?_) xs.length 0 0 (by omega) (by simpa using hl)
  have e1 : (0 : Int) ≤ (s : Int) := by omega
  have e2 : ((s : Int)).toNat < 140737488355328 := by omega
  simp only [slices_Grow_byte_byte.f, if_pos e1, if_pos e2, Option.bind_some]
  exact cat_l1 xs hx xs.length 0 [] (by omega) (by simpa using hl)
theorem bytes_ev (l : List Int) (h : l.length ≤ 1000) : Ev (fun k => octet_Bytes.f k l) (enc 4 (l.length : Int) ++ l) := by
  simp only [octet_Bytes.f]
  refine Ev.bind (int_ev (l.length : Int) (by omega) (by omega)) ?_
  have := enc_len 4 (l.length : Int)
  refine Ev.bind (cat_ev [enc 4 (l.length : Int), l] (by simp) (by simp; omega)) ?_
  simp only [List.flatten_cons, List.flatten_nil, List.append_nil]
  exact Ev.now _
def packed (xs : List (List Int)) : List Int := (xs.map (fun l => enc 4 (l.length : Int) ++ l)).flatten
theorem pack_l0 (xs : List (List Int)) (hx : xs.length < 1000) (hb : ∀ x ∈ xs, x.length ≤ 1000) : ∀ (d i : Nat) (acc : List Int), d + i = xs.length → acc.length + d * 1005 < 140737488355328 →
    Ev (fun k => octet_Pack.l0 k acc xs (xs.length : Int) (i : Int)) (acc ++ packed (xs.drop i))
  | 0, i, acc, hd, hl => by
    apply ev_succ
    have e1 : ¬ (i : Int) < (xs.length : Int) := by omega
    simp only [octet_Pack.l0, if_neg e1]
    rw [List.drop_eq_nil_of_le (by omega)]
    rw [show packed [] = [] from rfl, List.append_nil]
    exact Ev.now _
  | d + 1, i, acc, hd, hl => by
    apply ev_succ
    have hi : i < xs.length := by omega
    have e1 : (i : Int) < (xs.length : Int) := by omega
    have e2 : (0 : Int) ≤ (i : Int) := by omega
    have hb1 := hb xs[i] (List.getElem_mem hi)
    have hn := enc_len 4 ((xs[i]).length : Int)
    rw [List.drop_eq_getElem_cons hi]
    have e3 : acc.length + (enc 4 ((xs[i]).length : Int) ++ xs[i]).length < 140737488355328 := by rw [List.length_append]; omega
    simp only [octet_Pack.l0, if_pos e1, if_pos e2, rdL xs i hi]
    refine Ev.bind (bytes_ev xs[i] hb1) ?_
    simp only [if_pos e3, w64 i (by omega)]
    have := pack_l0 xs hx hb d (i + 1) (acc ++ (enc 4 ((xs[i]).length : Int) ++ xs[i])) (by omega) (by rw [List.length_append, List.length_append]; omega)
    rw [List.append_assoc] at this
    exact this
theorem pack_ev (xs : List (List Int)) (hx : xs.length < 1000) (hb : ∀ x ∈ xs, x.length ≤ 1000) : Ev (fun k => octet_Pack.f k xs) (packed xs) := by
  simp only [octet_Pack.f]
  exact pack_l0 xs hx hb xs.length 0 [] (by omega) (by simp; omega)
def kindB (kd num : Int) : Bool := if kd = 5 ∨ kd = 6 then decide (num ≥ 1) && decide (num ≤ 1000) else decide (num = 0)
def rightB (kd : Int) (n v w : List Int) (num : Int) : Bool :=
  decide ((n.length : Int) ≥ 1) && decide ((n.length : Int) ≤ 16) && decide ((v.length : Int) ≤ 64) && decide ((w.length : Int) ≤ 64) && decide (kd ≥ 1) && decide (kd ≤ 8) &&
  (decide ((v.length : Int) = 0) || decide (kd = 2) || decide (kd = 3)) && (decide ((w.length : Int) = 0) || decide (kd = 3)) && kindB kd num
theorem right3 (k : Nat) (x3 x4 x5 x62 : Bool) (kd : Int) (n v w : List Int) (num : Int) : kv_right.j3 (k + 1) x3 x4 x5 (num == 0) x62 kd n v w num = some (decide (kd ≥ 1) && decide (kd ≤ 8) && x3 && x4 && x5 && (if x62 = true then decide (num ≥ 1) && decide (num ≤ 1000) else decide (num = 0))) := by
  by_cases h1 : kd ≥ 1 <;> by_cases h2 : kd ≤ 8 <;> by_cases h3 : num ≥ 1 <;> cases x3 <;> cases x4 <;> cases x5 <;> cases x62 <;> simp [kv_right.j3, h1, h2, h3]
  all_goals by_cases h4 : num = 0 <;> simp [h4]
theorem right2 (k : Nat) (x3 x4 x5 : Bool) (kd : Int) (n v w : List Int) (num : Int) : kv_right.j2 (k + 2) x3 x4 x5 kd n v w num = some (decide (kd ≥ 1) && decide (kd ≤ 8) && x3 && x4 && x5 && kindB kd num) := by
  unfold kindB
  simp only [kv_right.j2]
  by_cases h5 : kd = 5
  · rw [if_pos h5, right3, if_pos (Or.inl h5), if_pos rfl]
  · rw [if_neg h5, right3]
    by_cases h6 : kd = 6
    · rw [if_pos (Or.inr h6), if_pos (by rw [h6]; rfl)]
    · rw [if_neg (show ¬ (kd == 6) = true by simpa using h6), if_neg (by omega)]
theorem right1 (k : Nat) (x3 x4 : Bool) (kd : Int) (n v w : List Int) (num : Int) : kv_right.j1 (k + 3) x3 x4 kd n v w num = some (decide (kd ≥ 1) && decide (kd ≤ 8) && x3 && x4 && (decide ((w.length : Int) = 0) || decide (kd = 3)) && kindB kd num) := by
  simp only [kv_right.j1]
  by_cases h5 : (w.length : Int) = 0
  · rw [if_pos h5, right2, decide_eq_true h5, Bool.true_or]
  · rw [if_neg h5, right2, decide_eq_false h5, Bool.false_or]; rfl
theorem right0 (k : Nat) (x3 : Bool) (kd : Int) (n v w : List Int) (num : Int) : kv_right.j0 (k + 4) x3 kd n v w num = some (decide (kd ≥ 1) && decide (kd ≤ 8) && x3 && (decide ((v.length : Int) = 0) || decide (kd = 2) || decide (kd = 3)) && (decide ((w.length : Int) = 0) || decide (kd = 3)) && kindB kd num) := by
  simp only [kv_right.j0]
  by_cases h5 : (v.length : Int) = 0
  · rw [if_pos h5, right1, decide_eq_true h5, Bool.true_or, Bool.true_or]
  · rw [if_neg h5, decide_eq_false h5, Bool.false_or]
    by_cases h6 : kd = 2
    · rw [if_pos h6, right1, decide_eq_true h6, Bool.true_or]
    · rw [if_neg h6, right1, decide_eq_false h6, Bool.false_or]; rfl
theorem right_ev (kd : Int) (n v w : List Int) (num : Int) : Ev (fun k => kv_right.f k kd n v w num) (rightB kd n v w num) := by
  refine ⟨4, fun k hk => ?_⟩
  obtain ⟨k, rfl⟩ : ∃ m, k = m + 4 := ⟨k - 4, by omega⟩
  unfold kv_right.f rightB
  simp only [right0]
  by_cases h1 : (n.length : Int) ≥ 1 <;> by_cases h2 : (n.length : Int) ≤ 16 <;> by_cases h3 : (v.length : Int) ≤ 64 <;> by_cases h4 : (w.length : Int) ≤ 64 <;> simp only [if_pos, h1, h2, h3, h4, decide_true, decide_false, Bool.and_true, Bool.true_and, Bool.and_false, Bool.false_and, if_false]
def opBytes (kd : Int) (n v w : List Int) (num : Int) : List Int := enc 4 kd ++ packed [n, v, w] ++ enc 4 num
theorem write_ev (kd : Int) (n v w : List Int) (num : Int) : Ev (fun k => kv_Write.f k kd n v w num) (if rightB kd n v w num = true then (opBytes kd n v w num, 0) else ([], 71)) := by
  simp only [kv_Write.f]
  refine Ev.bind (right_ev kd n v w num) ?_
  by_cases h : rightB kd n v w num = true
  · simp only [if_pos h]
    have hk : 1 ≤ kd ∧ kd ≤ 8 ∧ 0 ≤ num ∧ num ≤ 1000 ∧ n.length ≤ 16 ∧ v.length ≤ 64 ∧ w.length ≤ 64 := by
      unfold rightB at h
      simp only [Bool.and_eq_true, decide_eq_true_eq] at h
      obtain ⟨⟨⟨⟨⟨⟨⟨⟨a1, a2⟩, a3⟩, a4⟩, a5⟩, a6⟩, a7⟩, a8⟩, a9⟩ := h
      unfold kindB at a9
      refine ⟨a5, a6, ?_, ?_, by omega, by omega, by omega⟩
      · split at a9 <;> simp only [Bool.and_eq_true, decide_eq_true_eq] at a9 <;> omega
      · split at a9 <;> simp only [Bool.and_eq_true, decide_eq_true_eq] at a9 <;> omega
    obtain ⟨b1, b2, b3, b4, b5, b6, b7⟩ := hk
    refine Ev.bind (int_ev kd (by omega) (by omega)) ?_
    refine Ev.bind (int_ev num (by omega) (by omega)) ?_
    have hb : ∀ x ∈ [n, v, w], x.length ≤ 1000 := by
      intro x hx
      simp only [List.mem_cons, List.not_mem_nil, or_false] at hx
      rcases hx with rfl | rfl | rfl <;> omega
    refine Ev.bind (pack_ev [n, v, w] (by simp) hb) ?_
    have l1 := enc_len 4 kd
    have l2 := enc_len 4 num
    have l3 := enc_len 4 (n.length : Int)
    have l4 := enc_len 4 (v.length : Int)
    have l5 := enc_len 4 (w.length : Int)
    refine Ev.bind (cat_ev [enc 4 kd, packed [n, v, w], enc 4 num] (by simp) (by simp [packed]; omega)) ?_
    rw [show [enc 4 kd, packed [n, v, w], enc 4 num].flatten = opBytes kd n v w num by simp [opBytes]]
    exact Ev.now _
  · simp only [if_neg h]
    exact Ev.now _
theorem wraps_i64 (n : Int) (h0 : 0 ≤ n) (h1 : n < 2 ^ 62) : IntKind.i64.wrap n = n := by
  rw [IntKind.wrap_i64]; omega
theorem or_swap (k : IntKind) (a b : Int) : Go.bits .or k a b = Go.bits .or k b a := by
  simp only [Go.bits]
  rw [BitVec.or_comm]
theorem pow7 (i : Nat) (hi : i ≤ 4) : (i = 0 ∧ (2 : Int) ^ (7 * i) = 1) ∨ (i = 1 ∧ (2 : Int) ^ (7 * i) = 128) ∨ (i = 2 ∧ (2 : Int) ^ (7 * i) = 16384) ∨ (i = 3 ∧ (2 : Int) ^ (7 * i) = 2097152) ∨ (i = 4 ∧ (2 : Int) ^ (7 * i) = 268435456) := by
  have : i = 0 ∨ i = 1 ∨ i = 2 ∨ i = 3 ∨ i = 4 := by omega
  rcases this with rfl | rfl | rfl | rfl | rfl <;> decide
theorem or128 (y : Int) (h0 : 0 ≤ y) : Go.bits .or .u8 (y % 256) 128 = y % 128 + 128 := by
  have key : ∀ n : Fin 256, Go.bits .or .u8 ((n.val : Nat) : Int) 128 = ((n.val : Nat) : Int) % 128 + 128 := by decide +kernel
  have h := key ⟨(y % 256).toNat, by omega⟩
  have e : (((y % 256).toNat : Nat) : Int) = y % 256 := by omega
  rw [show ((⟨(y % 256).toNat, by omega⟩ : Fin 256).val) = (y % 256).toNat from rfl, e] at h
  rw [h]; omega
theorem digit (acc c : Int) (i : Nat) (hi : i ≤ 4) (h0 : 0 ≤ acc) (h1 : acc < 2 ^ (7 * i)) (hc0 : 0 ≤ c) (hc : c < 256) :
    Go.bits .or .i64 acc (shl .i64 (wrap64 (Go.bits .and .u8 c 127)) (wrap64 (7 * (i : Int)))) = acc + (c % 128) * 2 ^ (7 * i) := by
  have e1 : Go.bits .and .u8 c 127 = c % 128 := bits_mask .u8 8 (by decide) wraps_u8 7 (by decide) c hc0 hc
  have e2 : wrap64 (c % 128) = c % 128 := by unfold wrap64; omega
  have e3 : wrap64 (7 * (i : Int)) = ((7 * i : Nat) : Int) := by unfold wrap64; omega
  have hb : (c % 128) * 2 ^ (7 * i) < 2 ^ 62 ∧ 0 ≤ (c % 128) * 2 ^ (7 * i) ∧ (2 : Int) ^ (7 * i) ≤ 268435456 := by
    rcases pow7 i hi with ⟨_, e⟩ | ⟨_, e⟩ | ⟨_, e⟩ | ⟨_, e⟩ | ⟨_, e⟩ <;> rw [e] <;> omega
  have e4 : shl .i64 (c % 128) ((7 * i : Nat) : Int) = (c % 128) * 2 ^ (7 * i) := by
    unfold shl
    rw [Int.toNat_natCast, show min (7 * i) IntKind.i64.bits = 7 * i from Nat.min_eq_left (Nat.le_trans (show 7 * i ≤ 28 by omega) (by decide))]
    exact wraps_i64 _ hb.2.1 hb.1
  rw [e1, e2, e3, e4, or_swap, bits_join .i64 62 (by decide) wraps_i64 (7 * i) _ _ hb.2.1 (Int.mul_emod_left _ _) hb.1 h0 h1 (by omega), Int.add_comm]
theorem rd_at (s1 s2 : List Int) (c : Int) (i : Nat) (h : s1.length = i) : rd (s1 ++ c :: s2) (i : Int) = c := by
  unfold rd
  rw [Int.toNat_natCast, List.getD_eq_getElem?_getD, List.getElem?_append_right (by omega), h, Nat.sub_self]; rfl
theorem w7 (i : Nat) (hi : i ≤ 4) : (0 : Int) ≤ wrap64 (7 * (i : Int)) := by
  rw [show wrap64 (7 * (i : Int)) = ((7 * i : Nat) : Int) by unfold wrap64; omega]; omega
theorem wat (at_ : Int) (i : Nat) (hi : i ≤ 4) (ha0 : 0 ≤ at_) (ha : at_ < 2 ^ 50) : wrap64 (wrap64 (at_ + (i : Int)) + 1) = at_ + i + 1 := by unfold wrap64; omega
theorem split_sum (acc y x : Int) (i : Nat) (hi : i ≤ 4) (h0 : 0 ≤ acc) (h1 : acc < 2 ^ (7 * i)) (hy0 : 0 ≤ y) (he : x = acc + y * 2 ^ (7 * i)) : 0 ≤ acc + (y % 128) * 2 ^ (7 * i) ∧ acc + (y % 128) * 2 ^ (7 * i) < 2 ^ (7 * (i + 1)) ∧ x = acc + (y % 128) * 2 ^ (7 * i) + (y / 128) * 2 ^ (7 * (i + 1)) := by
  have e7 : (2 : Int) ^ (7 * (i + 1)) = 2 ^ (7 * i) * 128 := by rw [show 7 * (i + 1) = 7 * i + 7 by omega, Int.pow_add]; rfl
  rw [e7]
  have hP := pow7 i hi
  generalize (2 : Int) ^ (7 * i) = P at *
  rcases hP with ⟨_, rfl⟩ | ⟨_, rfl⟩ | ⟨_, rfl⟩ | ⟨_, rfl⟩ | ⟨_, rfl⟩ <;> omega
theorem get_last (at_ : Int) (x : Int) (hx : x ≤ 2147483647) (i : Nat) (acc y : Int) (s1 s2 : List Int) (hi : i ≤ 4) (hs : s1.length = i) (h0 : 0 ≤ acc) (h1 : acc < 2 ^ (7 * i)) (hy0 : 0 ≤ y) (hy : y < 128) (hp : i > 0 → y > 0) (he : x = acc + y * 2 ^ (7 * i)) (ha0 : 0 ≤ at_) (ha : at_ < 2 ^ 50) :
    Ev (fun k => octet_GetInt.l0 k at_ acc (s1 ++ (y % 256) :: s2) ((s1 ++ (y % 256) :: s2).length : Int) (i : Int)) (x, at_ + i + 1, 0) := by
  have em : y % 256 = y := by omega
  rw [em]
  have e1 : (i : Int) < ((s1 ++ y :: s2).length : Int) := by rw [List.length_append, List.length_cons]; omega
  have e2 : (0 : Int) ≤ (i : Int) := by omega
  have e3 := w7 i (by omega)
  have ed : Go.bits .or .i64 acc (shl .i64 (wrap64 (Go.bits .and .u8 y 127)) (wrap64 (7 * (i : Int)))) = x := by
    rw [digit acc y i hi h0 h1 hy0 (by omega), he, show y % 128 = y by omega]
  have e4 : ¬ x > 2147483647 := by omega
  have ew := wat at_ i hi ha0 ha
  refine ev_succ (ev_succ ?_)
  simp only [octet_GetInt.l0, if_pos e1, if_pos e2, if_pos e3, rd_at s1 s2 y i hs, if_pos hy, ed, if_neg e4, octet_GetInt.j2, ew, Bool.false_eq_true, if_false]
  by_cases hz : y = 0
  · have e5 : ¬ (i : Int) > 0 := by
      intro hq
      have := hp (by omega)
      omega
    have e6 : decide ((i : Int) > 0) = false := decide_eq_false e5
    simp only [if_pos hz, e6, Bool.false_eq_true, if_false]
    exact Ev.now _
  · simp only [if_neg hz]
    exact Ev.now _
def P7 (i : Nat) : Int := 2 ^ (7 * i)
def B7 (m : Nat) : Int := 128 ^ (m + 1)
theorem B7_div (m : Nat) (y : Int) (h : y < B7 (m + 1)) : y / 128 < B7 m := by
  have e : B7 (m + 1) = B7 m * 128 := Int.pow_succ _ _
  rw [e] at h
  exact Int.ediv_lt_of_lt_mul (by decide) h
theorem le4 {m i : Nat} (h : m + i = 4) : i ≤ 4 := by omega
theorem get_l0 (at_ : Int) (x : Int) (hx : x ≤ 2147483647) (ha0 : 0 ≤ at_) (ha : at_ < 2 ^ 50) : ∀ (m i : Nat) (acc y : Int) (s1 s2 : List Int), m + i = 4 → s1.length = i → 0 ≤ acc → acc < P7 i → 0 ≤ y → y < B7 m → (i > 0 → y > 0) → x = acc + y * P7 i →
    Ev (fun k => octet_GetInt.l0 k at_ acc (s1 ++ (enc m y ++ s2)) ((s1 ++ (enc m y ++ s2)).length : Int) (i : Int)) (x, at_ + i + ((enc m y).length : Int), 0)
  | 0, i, acc, y, s1, s2, hm, hs, h0, h1, hy0, hy, hp, he => by
    have := get_last at_ x hx i acc y s1 s2 (le4 hm) hs h0 h1 hy0 (by first | exact hy | omega) hp he ha0 ha
    rw [show enc 0 y = [y % 256] from rfl]
    exact this
  | m + 1, i, acc, y, s1, s2, hm, hs, h0, h1, hy0, hy, hp, he => by
    by_cases hg : y ≥ 128
    · rw [enc_pos m y hg, or128 y hy0]
      rw [show [y % 128 + 128] ++ enc m (y / 128) ++ s2 = (y % 128 + 128) :: (enc m (y / 128) ++ s2) by simp]
      have e1 : (i : Int) < ((s1 ++ (y % 128 + 128) :: (enc m (y / 128) ++ s2)).length : Int) := by rw [List.length_append, List.length_cons]; omega
      have e2 : (0 : Int) ≤ (i : Int) := by omega
      have e3 := w7 i (le4 hm)
      have ed : Go.bits .or .i64 acc (shl .i64 (wrap64 (Go.bits .and .u8 (y % 128 + 128) 127)) (wrap64 (7 * (i : Int)))) = acc + (y % 128) * 2 ^ (7 * i) := by
        rw [digit acc (y % 128 + 128) i (le4 hm) h0 h1 (by omega) (by omega), show (y % 128 + 128) % 128 = y % 128 by omega]
      have e4 : ¬ (y % 128 + 128) < 128 := by omega
      have ew : wrap64 ((i : Int) + 1) = ((i + 1 : Nat) : Int) := w64 i (by have := le4 hm; omega)
      have hq := split_sum acc y x i (le4 hm) h0 h1 hy0 he
      have ih := get_l0 at_ x hx ha0 ha m (i + 1) (acc + (y % 128) * 2 ^ (7 * i)) (y / 128) (s1 ++ [y % 128 + 128]) s2 (by omega) (by rw [List.length_append, hs]; rfl) hq.1 hq.2.1 (by omega) (B7_div m y hy) (by omega) hq.2.2
      rw [List.append_assoc, List.singleton_append] at ih
      refine ev_succ ?_
      simp only [octet_GetInt.l0, if_pos e1, if_pos e2, if_pos e3, rd_at s1 _ _ i hs, if_neg e4, ed, ew]
      rw [show at_ + (i : Int) + (([y % 128 + 128] ++ enc m (y / 128)).length : Int) = at_ + ((i + 1 : Nat) : Int) + ((enc m (y / 128)).length : Int) by rw [List.length_append, List.length_singleton]; omega]
      exact ih
    · have := get_last at_ x hx i acc y s1 s2 (le4 hm) hs h0 h1 hy0 (by first | exact hy | omega) hp he ha0 ha
      rw [show enc (m + 1) y = [y % 256] by unfold enc; rw [if_neg hg]]
      exact this
theorem B74 (x : Int) (h : x ≤ 2147483647) : x < B7 4 := by
  have : B7 4 = 34359738368 := by decide +kernel
  omega
theorem get_ev (pre post : List Int) (x : Int) (h0 : 0 ≤ x) (hx : x ≤ 2147483647) (hl : (pre ++ (enc 4 x ++ post)).length < 1000000) :
    Ev (fun k => octet_GetInt.f k (pre ++ (enc 4 x ++ post)) (pre.length : Int)) (x, ((pre.length + (enc 4 x).length : Nat) : Int), 0) := by
  have hn := enc_len 4 x
  have hl' := hl
  rw [List.length_append, List.length_append] at hl'
  have e1 : ¬ (pre.length : Int) < 0 := by omega
  have e2 : decide ((pre.length : Int) > ((pre ++ (enc 4 x ++ post)).length : Int)) = false := decide_eq_false (by rw [List.length_append]; omega)
  have ew : wrap64 ((pre.length : Int) + 5) = (pre.length : Int) + 5 := by unfold wrap64; omega
  obtain ⟨M, hM⟩ : ∃ M : Nat, mn ((pre ++ (enc 4 x ++ post)).length : Int) ((pre.length : Int) + 5) = (M : Int) ∧ pre.length ≤ M ∧ M ≤ (pre ++ (enc 4 x ++ post)).length ∧ (enc 4 x).length ≤ M - pre.length := by
    unfold mn
    rw [List.length_append, List.length_append]
    split
    · exact ⟨pre.length + 5, by omega, by omega, by omega, by omega⟩
    · exact ⟨pre.length + ((enc 4 x).length + post.length), rfl, by omega, by omega, by omega⟩
  obtain ⟨hM0, hM1, hM2, hM3⟩ := hM
  have e3 : (0 : Int) ≤ (pre.length : Int) := by omega
  have e4 : (pre.length : Int) ≤ (M : Int) := by omega
  have e5 : (M : Int) ≤ ((pre ++ (enc 4 x ++ post)).length : Int) := by omega
  have es : ((pre ++ (enc 4 x ++ post)).take M).drop pre.length = enc 4 x ++ post.take (M - pre.length - (enc 4 x).length) := by
    rw [List.take_append, List.drop_append, List.take_of_length_le hM1, List.drop_of_length_le (Nat.le_refl _), List.nil_append, Nat.sub_self, List.drop_zero, List.take_append, List.take_of_length_le hM3]
  simp only [octet_GetInt.f, if_neg e1, e2]
  refine ev_succ ?_
  simp only [octet_GetInt.j0, Bool.false_eq_true, if_false, ew, hM0, if_pos e3, if_pos e4, if_pos e5, Int.toNat_natCast, es]
  have := get_l0 (pre.length : Int) x hx (by omega) (by omega) 4 0 0 x [] (post.take (M - pre.length - (enc 4 x).length)) (by decide) rfl (by decide) (by decide) h0 (B74 x hx) (fun h => absurd h (by decide)) (by unfold P7; simp)
  rw [show ((pre.length : Int) + ((0 : Nat) : Int) + ((enc 4 x).length : Int)) = ((pre.length + (enc 4 x).length : Nat) : Int) by omega] at this
  exact this
theorem getB_ev (pre post l : List Int) (most : Int) (hb : l.length ≤ 1000) (hm : (l.length : Int) ≤ most) (hl : (pre ++ (enc 4 (l.length : Int) ++ (l ++ post))).length < 1000000) :
    Ev (fun k => octet_GetBytes.f k (pre ++ (enc 4 (l.length : Int) ++ (l ++ post))) (pre.length : Int) most) (l, ((pre.length + (enc 4 (l.length : Int)).length + l.length : Nat) : Int), 0) := by
  have hl' := hl
  rw [List.length_append, List.length_append, List.length_append] at hl'
  have e1 : ¬ (l.length : Int) > most := by omega
  have e2 : wrap64 (((pre ++ (enc 4 (l.length : Int) ++ (l ++ post))).length : Int) - ((pre.length + (enc 4 (l.length : Int)).length : Nat) : Int)) = ((l.length + post.length : Nat) : Int) := by
    rw [List.length_append, List.length_append, List.length_append]
    unfold wrap64; omega
  have e3 : decide ((l.length : Int) > ((l.length + post.length : Nat) : Int)) = false := decide_eq_false (by omega)
  simp only [octet_GetBytes.f]
  refine Ev.bind (get_ev pre (l ++ post) (l.length : Int) (by omega) (by omega) hl) ?_
  simp only [if_true, if_neg e1, e2, e3]
  have e4 : wrap64 (((pre.length + (enc 4 (l.length : Int)).length : Nat) : Int) + (l.length : Int)) = ((pre.length + (enc 4 (l.length : Int)).length + l.length : Nat) : Int) := by unfold wrap64; omega
  have e5 : (0 : Int) ≤ ((pre.length + (enc 4 (l.length : Int)).length : Nat) : Int) := by omega
  have e6 : ((pre.length + (enc 4 (l.length : Int)).length : Nat) : Int) ≤ ((pre.length + (enc 4 (l.length : Int)).length + l.length : Nat) : Int) := by omega
  have e7 : ((pre.length + (enc 4 (l.length : Int)).length + l.length : Nat) : Int) ≤ ((pre ++ (enc 4 (l.length : Int) ++ (l ++ post))).length : Int) := by
    rw [List.length_append, List.length_append, List.length_append]; omega
  have es : ((pre ++ (enc 4 (l.length : Int) ++ (l ++ post))).take (pre.length + (enc 4 (l.length : Int)).length + l.length)).drop (pre.length + (enc 4 (l.length : Int)).length) = l := by
    rw [← List.append_assoc, ← List.append_assoc, List.take_append_of_le_length (by simp only [List.length_append]; omega), List.take_of_length_le (by simp only [List.length_append]; omega)]
    rw [show pre.length + (enc 4 (l.length : Int)).length = (pre ++ enc 4 (l.length : Int)).length by rw [List.length_append], List.drop_left]
  have ec : slices_Clone_byte_byte.f l = some l := by
    unfold slices_Clone_byte_byte.f
    rw [if_pos (by omega)]
  refine ev_succ ?_
  simp only [octet_GetBytes.j0, Bool.false_eq_true, if_false, e4, if_pos e5, if_pos e6, if_pos e7, Int.toNat_natCast, es, ec, Option.bind_some]
  exact Ev.now _
theorem B7_0 : B7 0 = 128 := by decide +kernel
theorem ref_int : ∀ (n : Nat) (x : Int), n ≤ 4 → 0 ≤ x → x < B7 n → x ≤ 2147483647 → Ev (fun k => catenaryref01_Int.f k x) (enc n x, 0)
  | 0, x, hn, h0, h1, h2 => by
    rw [B7_0] at h1
    have e1 : ¬ x < 0 := by omega
    have e2 : decide (x > 2147483647) = false := decide_eq_false (by omega)
    have e3 : x < 128 := h1
    refine ev_succ (ev_succ ?_)
    simp only [catenaryref01_Int.f, if_neg e1, e2, catenaryref01_Int.j0, Bool.false_eq_true, if_false, if_pos e3]
    exact Ev.now _
  | n + 1, x, hn, h0, h1, h2 => by
    have e1 : ¬ x < 0 := by omega
    have e2 : decide (x > 2147483647) = false := decide_eq_false (by omega)
    by_cases hg : x ≥ 128
    · have e3 : ¬ x < 128 := by omega
      have e4 : wrap64 (Int.tdiv x 128) = x / 128 := by
        rw [Int.tdiv_eq_ediv_of_nonneg h0]; unfold wrap64; omega
      have e5 : (wrap64 (Int.tmod x 128 + 128)) % 256 = Go.bits .or .u8 (x % 256) 128 := by
        rw [or128 x h0, Int.tmod_eq_emod_of_nonneg h0]; unfold wrap64; omega
      have hl := enc_len n (x / 128)
      have e6 : ([Go.bits .or .u8 (x % 256) 128] : List Int).length + (enc n (x / 128)).length < 140737488355328 := by rw [List.length_singleton]; omega
      refine ev_succ (ev_succ ?_)
      simp only [catenaryref01_Int.f, if_neg e1, e2, catenaryref01_Int.j0, Bool.false_eq_true, if_false, if_neg e3, e4, e5]
      refine Ev.bind (ref_int n (x / 128) (by omega) (by omega) (B7_div n x h1) (by omega)) ?_
      simp only [Option.bind_some, if_pos e6, enc_pos n x hg]
      exact Ev.now _
    · have e3 : x < 128 := by omega
      refine ev_succ (ev_succ ?_)
      simp only [catenaryref01_Int.f, if_neg e1, e2, catenaryref01_Int.j0, Bool.false_eq_true, if_false, if_pos e3]
      rw [show enc (n + 1) x = [x % 256] by unfold enc; rw [if_neg hg]]
      exact Ev.now _
theorem ref_right (kd : Int) (n v w : List Int) (num : Int) : Ev (fun k => catenaryref07_RightOp.f k kd n v w num) (rightB kd n v w num) := by
  refine ⟨4, fun k hk => ?_⟩
  obtain ⟨k, rfl⟩ : ∃ m, k = m + 4 := ⟨k - 4, by omega⟩
  have jt : catenaryref07_RightOp.j0 (k + 4) true kd n v w num = some false := by simp only [catenaryref07_RightOp.j0, if_true]
  unfold catenaryref07_RightOp.f rightB
  dsimp only
  by_cases h1 : kd < 1
  · rw [if_pos h1, jt, decide_eq_false (show ¬ kd ≥ 1 by omega)]; simp
  rw [if_neg h1, decide_eq_true (show kd ≥ 1 by omega)]
  by_cases h2 : kd > 8
  · rw [if_pos h2, jt, decide_eq_false (show ¬ kd ≤ 8 by omega)]; simp
  rw [if_neg h2, decide_eq_true (show kd ≤ 8 by omega)]
  by_cases h3 : (n.length : Int) = 0
  · rw [if_pos h3, jt, decide_eq_false (show ¬ (n.length : Int) ≥ 1 by omega)]; simp
  rw [if_neg h3, decide_eq_true (show (n.length : Int) ≥ 1 by omega)]
  by_cases h4 : (n.length : Int) > 16
  · rw [if_pos h4, jt, decide_eq_false (show ¬ (n.length : Int) ≤ 16 by omega)]; simp
  rw [if_neg h4, decide_eq_true (show (n.length : Int) ≤ 16 by omega)]
  by_cases h5 : (v.length : Int) > 64
  · rw [if_pos h5, jt, decide_eq_false (show ¬ (v.length : Int) ≤ 64 by omega)]; simp
  rw [if_neg h5, decide_eq_true (show (v.length : Int) ≤ 64 by omega)]
  by_cases h6 : (w.length : Int) > 64
  · rw [decide_eq_true h6, jt, decide_eq_false (show ¬ (w.length : Int) ≤ 64 by omega)]; simp
  rw [decide_eq_false h6, decide_eq_true (show (w.length : Int) ≤ 64 by omega)]
  simp only [catenaryref07_RightOp.j0, catenaryref07_RightOp.j1, Bool.false_eq_true, if_false, Bool.true_and]
  unfold kindB
  clear h3 h4 h5 h6
  generalize (v.length : Int) = V
  generalize (w.length : Int) = W
  by_cases k2 : kd = 2
  · subst k2
    by_cases q : W = 0 <;> by_cases q2 : num = 0 <;> simp [q, q2]
  by_cases k3 : kd = 3
  · subst k3
    by_cases q2 : num = 0 <;> simp [q2]
  by_cases k5 : kd = 5
  · subst k5
    by_cases q : V = 0 <;> by_cases q2 : W = 0 <;> by_cases q3 : num ≥ 1 <;> simp [q, q2, q3]
  by_cases k6 : kd = 6
  · subst k6
    by_cases q : V = 0 <;> by_cases q2 : W = 0 <;> by_cases q3 : num ≥ 1 <;> simp [q, q2, q3]
  by_cases q : V = 0 <;> by_cases q2 : W = 0 <;> by_cases q3 : num = 0 <;> simp [q, q2, q3, k2, k3, k5, k6]
theorem right_bounds {kd : Int} {n v w : List Int} {num : Int} (h : rightB kd n v w num = true) : 1 ≤ kd ∧ kd ≤ 8 ∧ 0 ≤ num ∧ num ≤ 1000 ∧ n.length ≤ 16 ∧ v.length ≤ 64 ∧ w.length ≤ 64 := by
  unfold rightB at h
  simp only [Bool.and_eq_true, decide_eq_true_eq] at h
  obtain ⟨⟨⟨⟨⟨⟨⟨⟨a1, a2⟩, a3⟩, a4⟩, a5⟩, a6⟩, a7⟩, a8⟩, a9⟩ := h
  unfold kindB at a9
  refine ⟨a5, a6, ?_, ?_, by omega, by omega, by omega⟩
  · split at a9 <;> simp only [Bool.and_eq_true, decide_eq_true_eq] at a9 <;> omega
  · split at a9 <;> simp only [Bool.and_eq_true, decide_eq_true_eq] at a9 <;> omega
theorem three {n v w : List Int} (b5 : n.length ≤ 16) (b6 : v.length ≤ 64) (b7 : w.length ≤ 64) : ∀ x ∈ [n, v, w], x.length ≤ 1000 := by
  intro x hx
  simp only [List.mem_cons, List.not_mem_nil, or_false] at hx
  rcases hx with rfl | rfl | rfl <;> omega
theorem read_ev (kd : Int) (n v w : List Int) (num : Int) (h : rightB kd n v w num = true) : Ev (fun k => kv_Read.f k (opBytes kd n v w num)) (kd, n, v, w, num, 0) := by
  obtain ⟨b1, b2, b3, b4, b5, b6, b7⟩ := right_bounds h
  have l1 := enc_len 4 kd
  have l2 := enc_len 4 num
  have l3 := enc_len 4 (n.length : Int)
  have l4 := enc_len 4 (v.length : Int)
  have l5 := enc_len 4 (w.length : Int)
  have hlen : (opBytes kd n v w num).length < 1000000 := by simp [opBytes, packed]; omega
  have q0 : opBytes kd n v w num = [] ++ (enc 4 kd ++ ((enc 4 (n.length : Int) ++ (n ++ (enc 4 (v.length : Int) ++ (v ++ (enc 4 (w.length : Int) ++ (w ++ enc 4 num)))))))) := by simp [opBytes, packed]
  have q1 : opBytes kd n v w num = (enc 4 kd) ++ (enc 4 (n.length : Int) ++ (n ++ (enc 4 (v.length : Int) ++ (v ++ (enc 4 (w.length : Int) ++ (w ++ enc 4 num)))))) := by simp [opBytes, packed]
  have q2 : opBytes kd n v w num = (enc 4 kd ++ enc 4 (n.length : Int) ++ n) ++ (enc 4 (v.length : Int) ++ (v ++ (enc 4 (w.length : Int) ++ (w ++ enc 4 num)))) := by simp [opBytes, packed]
  have q3 : opBytes kd n v w num = (enc 4 kd ++ enc 4 (n.length : Int) ++ n ++ enc 4 (v.length : Int) ++ v) ++ (enc 4 (w.length : Int) ++ (w ++ enc 4 num)) := by simp [opBytes, packed]
  have q4 : opBytes kd n v w num = (enc 4 kd ++ enc 4 (n.length : Int) ++ n ++ enc 4 (v.length : Int) ++ v ++ enc 4 (w.length : Int) ++ w) ++ (enc 4 num ++ []) := by simp [opBytes, packed]
  have r0 := get_ev [] ((enc 4 (n.length : Int) ++ (n ++ (enc 4 (v.length : Int) ++ (v ++ (enc 4 (w.length : Int) ++ (w ++ enc 4 num))))))) kd (by omega) (by omega) (by rw [← q0]; exact hlen)
  rw [← q0] at r0
  have r1 := getB_ev (enc 4 kd) (enc 4 (v.length : Int) ++ (v ++ (enc 4 (w.length : Int) ++ (w ++ enc 4 num)))) n 16 (by omega) (by omega) (by rw [← q1]; exact hlen)
  rw [← q1] at r1
  have r2 := getB_ev (enc 4 kd ++ enc 4 (n.length : Int) ++ n) (enc 4 (w.length : Int) ++ (w ++ enc 4 num)) v 64 (by omega) (by omega) (by rw [← q2]; exact hlen)
  rw [← q2] at r2
  have r3 := getB_ev (enc 4 kd ++ enc 4 (n.length : Int) ++ n ++ enc 4 (v.length : Int) ++ v) (enc 4 num) w 64 (by omega) (by omega) (by rw [← q3]; exact hlen)
  rw [← q3] at r3
  have r4 := get_ev (enc 4 kd ++ enc 4 (n.length : Int) ++ n ++ enc 4 (v.length : Int) ++ v ++ enc 4 (w.length : Int) ++ w) [] num (by omega) (by omega) (by rw [← q4]; exact hlen)
  rw [← q4] at r4
  have hL : ((opBytes kd n v w num).length : Int) = ((enc 4 kd).length + (enc 4 (n.length : Int)).length + n.length + (enc 4 (v.length : Int)).length + v.length + (enc 4 (w.length : Int)).length + w.length + (enc 4 num).length : Nat) := by
    rw [q4]; simp only [List.length_append, List.length_nil, Nat.add_zero]
  simp only [List.length_nil, Nat.zero_add, List.length_append] at r0 r1 r2 r3 r4
  simp only [kv_Read.f]
  refine Ev.bind r0 ?_
  refine Ev.bind r1 ?_
  refine Ev.bind r2 ?_
  refine Ev.bind r3 ?_
  refine Ev.bind r4 ?_
  simp only [beq_self_eq_true, Bool.not_true, Bool.or_self, Bool.false_eq_true, if_false, hL, if_true]
  refine Ev.bind (right_ev kd n v w num) ?_
  rw [h]
  refine ev_succ ?_
  simp only [kv_Read.j0, Bool.not_true, Bool.false_eq_true, if_false]
  exact Ev.now _
theorem read_nil : Ev (fun k => kv_Read.f k []) (0, [], [], [], 0, 71) := Ev.of (kv_Read.mono []) (k := 20) (by kernel_rfl)
def isY (l : List Int) : Prop := ∀ x ∈ l, 0 ≤ x ∧ x < 256
theorem isY_drop {l : List Int} (h : isY l) (n : Nat) : isY (l.drop n) := fun x hx => h x (List.mem_of_mem_drop hx)
def Q7 : Nat → Int
  | 0 => 1
  | i + 1 => Q7 i * 128
theorem Q7_0 : Q7 0 = 1 := rfl
theorem Q7_s (i : Nat) : Q7 (i + 1) = Q7 i * 128 := rfl
theorem Q7_pow (i : Nat) : Q7 i = 2 ^ (7 * i) := by
  induction i with
  | zero => rfl
  | succ i ih => rw [Q7_s, ih, show 7 * (i + 1) = 7 * i + 7 by omega, Int.pow_add]; rfl
theorem Q7_pos (i : Nat) : 1 ≤ Q7 i := by
  induction i with
  | zero => rw [Q7_0]; decide
  | succ i ih => rw [Q7_s]; omega
theorem Q7_small (i : Nat) (h : i ≤ 5) : Q7 i ≤ 34359738368 := by
  have : i = 0 ∨ i = 1 ∨ i = 2 ∨ i = 3 ∨ i = 4 ∨ i = 5 := by omega
  rcases this with rfl | rfl | rfl | rfl | rfl | rfl <;> decide +kernel
theorem digit_lt (acc c : Int) (i : Nat) (h0 : 0 ≤ acc) (h1 : acc < Q7 i) (hc0 : 0 ≤ c) (hc : c ≤ 127) : 0 ≤ acc + c * Q7 i ∧ acc + c * Q7 i < Q7 (i + 1) := by
  rw [Q7_s]
  have hp := Q7_pos i
  generalize Q7 i = P at *
  have h2 : c * P ≤ 127 * P := Int.mul_le_mul_of_nonneg_right hc (by omega)
  have h3 : 0 ≤ c * P := Int.mul_nonneg hc0 (by omega)
  omega
def dec : Nat → Nat → Int → List Int → Option (Int × Nat)
  | 0, _, _, _ => none
  | _ + 1, _, _, [] => none
  | m + 1, i, acc, c :: cs => if c < 128 then (if acc + (c % 128) * Q7 i > 2147483647 ∨ (c = 0 ∧ i > 0) then none else some (acc + (c % 128) * Q7 i, i + 1)) else dec m (i + 1) (acc + (c % 128) * Q7 i) cs
theorem dec_nil (m i : Nat) (acc : Int) : dec m i acc [] = none := by cases m <;> rfl
theorem dec_take : ∀ (m i : Nat) (acc : Int) (l : List Int), dec m i acc (l.take m) = dec m i acc l
  | 0, _, _, _ => rfl
  | m + 1, i, acc, [] => rfl
  | m + 1, i, acc, c :: cs => by
    rw [List.take_succ_cons]
    unfold dec
    rw [dec_take m (i + 1) _ cs]
def outG (o : Option (Int × Nat)) (at_ : Nat) : Int × Int × Int := match o with
  | some x => (x.1, ((at_ + x.2 : Nat) : Int), 0)
  | none => (0, 0, 11)
theorem wat2 (a i : Nat) (ha : a < 1000000000000000) (hi : i ≤ 4) : wrap64 (wrap64 ((a : Int) + (i : Int)) + 1) = ((a + (i + 1) : Nat) : Int) := by unfold wrap64; omega
theorem oget_l0 (a : Nat) (ha : a < 1000000000000000) (s : List Int) (hs : s.length ≤ 5) (hb : isY s) : ∀ (d m i : Nat) (acc : Int), d + i = s.length → m + i = 5 → 0 ≤ acc → acc < Q7 i →
    Ev (fun k => octet_GetInt.l0 k (a : Int) acc s (s.length : Int) (i : Int)) (outG (dec m i acc (s.drop i)) a)
  | 0, m, i, acc, hd, hm, h0, h1 => by
    have e1 : ¬ (i : Int) < (s.length : Int) := by omega
    rw [List.drop_eq_nil_of_le (by omega), dec_nil]
    refine ev_succ ?_
    simp only [octet_GetInt.l0, if_neg e1]
    exact Ev.now _
  | d + 1, 0, i, acc, hd, hm, h0, h1 => by omega
  | d + 1, m + 1, i, acc, hd, hm, h0, h1 => by
    have hi : i < s.length := by omega
    have hi4 : i ≤ 4 := by omega
    have e1 : (i : Int) < (s.length : Int) := by omega
    have e2 : (0 : Int) ≤ (i : Int) := by omega
    have hc := hb _ (List.getElem_mem hi)
    have hm1 : 0 ≤ s[i] % 128 := by omega
    have hm2 : s[i] % 128 ≤ 127 := by omega
    have gT : i > 0 → decide ((i : Int) > 0) = true := fun g => decide_eq_true (by omega)
    have gF : ¬ i > 0 → decide ((i : Int) > 0) = false := fun g => decide_eq_false (by omega)
    have ew : wrap64 ((i : Int) + 1) = ((i + 1 : Nat) : Int) := w64 i (by omega)
    have hd1 : d + (i + 1) = s.length := by omega
    have hm3 : m + (i + 1) = 5 := by omega
    have hdl := digit_lt acc (s[i] % 128) i h0 h1 hm1 hm2
    have er : rd s (i : Int) = s[i] := by
      unfold rd
      rw [Int.toNat_natCast, List.getD_eq_getElem?_getD, List.getElem?_eq_getElem hi]; rfl
    have e5 := wat2 a i ha hi4
    have e3 := w7 i hi4
    have ed : Go.bits .or .i64 acc (shl .i64 (wrap64 (Go.bits .and .u8 (s[i]) 127)) (wrap64 (7 * (i : Int)))) = acc + (s[i] % 128) * Q7 i := by
      rw [Q7_pow]
      rw [Q7_pow] at h1
      exact digit acc (s[i]) i hi4 h0 h1 hc.1 hc.2
    rw [List.drop_eq_getElem_cons hi]
    have hstep : dec (m + 1) i acc (s[i] :: s.drop (i + 1)) = (if s[i] < 128 then (if acc + (s[i] % 128) * Q7 i > 2147483647 ∨ (s[i] = 0 ∧ i > 0) then none else some (acc + (s[i] % 128) * Q7 i, i + 1)) else dec m (i + 1) (acc + (s[i] % 128) * Q7 i) (s.drop (i + 1))) := rfl
    rw [hstep]
    refine ev_succ ?_
    by_cases c1 : s[i] < 128
    · rw [if_pos c1]
      have J : ∀ b : Bool, Ev (fun k => octet_GetInt.j2 k (a : Int) (acc + (s[i] % 128) * Q7 i) (i : Int) b) (if b = true then (0, 0, 11) else (acc + (s[i] % 128) * Q7 i, ((a + (i + 1) : Nat) : Int), 0)) := by
        intro b
        refine ev_succ ?_
        cases b with
        | true => simp only [octet_GetInt.j2, if_true]; exact Ev.now _
        | false => simp only [octet_GetInt.j2, Bool.false_eq_true, if_false, e5]; exact Ev.now _
      by_cases c2 : acc + (s[i] % 128) * Q7 i > 2147483647
      · rw [if_pos (Or.inl c2)]
        simp only [octet_GetInt.l0, if_pos e1, if_pos e2, if_pos e3, er, if_pos c1, ed, if_pos c2]
        exact J true
      · by_cases c3 : s[i] = 0
        · by_cases c4 : i > 0
          · rw [if_pos (Or.inr ⟨c3, c4⟩)]
            have gd := gT c4
            simp only [octet_GetInt.l0, if_pos e1, if_pos e2, if_pos e3, er, if_pos c1, ed, if_neg c2, if_pos c3, gd]
            exact J true
          · rw [if_neg (fun q => q.elim c2 (fun q => c4 q.2))]
            have gd := gF c4
            simp only [octet_GetInt.l0, if_pos e1, if_pos e2, if_pos e3, er, if_pos c1, ed, if_neg c2, if_pos c3, gd]
            exact J false
        · rw [if_neg (fun q => q.elim c2 (fun q => c3 q.1))]
          simp only [octet_GetInt.l0, if_pos e1, if_pos e2, if_pos e3, er, if_pos c1, ed, if_neg c2, if_neg c3]
          exact J false
    · rw [if_neg c1]
      simp only [octet_GetInt.l0, if_pos e1, if_pos e2, if_pos e3, er, if_neg c1, ed, ew]
      exact oget_l0 a ha s hs hb d m (i + 1) _ hd1 hm3 hdl.1 hdl.2
theorem oget_ev (b : List Int) (hb : isY b) (hl : b.length < 1000000000000000) (a : Nat) (ha : a < 1000000000000000) : Ev (fun k => octet_GetInt.f k b (a : Int)) (outG (dec 5 0 0 (b.drop a)) a) := by
  have e1 : ¬ (a : Int) < 0 := by omega
  by_cases hle : a ≤ b.length
  · have e2 : decide ((a : Int) > (b.length : Int)) = false := decide_eq_false (by omega)
    have ew : wrap64 ((a : Int) + 5) = (a : Int) + 5 := by unfold wrap64; omega
    have hM : ∃ M : Nat, mn (b.length : Int) ((a : Int) + 5) = (M : Int) ∧ a ≤ M ∧ M ≤ b.length ∧ (b.take M).drop a = (b.drop a).take 5 := by
      unfold mn
      split
      · refine ⟨a + 5, by omega, by omega, by omega, ?_⟩
        rw [List.drop_take, show a + 5 - a = 5 by omega]
      · refine ⟨b.length, rfl, hle, Nat.le_refl _, ?_⟩
        rw [List.take_length, List.take_of_length_le (by rw [List.length_drop]; omega)]
    obtain ⟨M, hM0, hM1, hM2, hM3⟩ := hM
    have e3 : (0 : Int) ≤ (a : Int) := by omega
    have e4 : (a : Int) ≤ (M : Int) := by omega
    have e5 : (M : Int) ≤ (b.length : Int) := by omega
    simp only [octet_GetInt.f, if_neg e1, e2]
    refine ev_succ ?_
    simp only [octet_GetInt.j0, Bool.false_eq_true, if_false, ew, hM0, if_pos e3, if_pos e4, if_pos e5, Int.toNat_natCast, hM3]
    have := oget_l0 a ha ((b.drop a).take 5) (by rw [List.length_take]; omega) (fun x hx => hb x (List.mem_of_mem_drop (List.mem_of_mem_take hx))) ((b.drop a).take 5).length 5 0 0 (by omega) (by omega) (Int.le_refl _) (by rw [Q7_0]; decide)
    rw [List.drop_zero, dec_take] at this
    exact this
  · have e2 : decide ((a : Int) > (b.length : Int)) = true := decide_eq_true (by omega)
    rw [List.drop_eq_nil_of_le (by omega), dec_nil]
    simp only [octet_GetInt.f, if_neg e1, e2]
    refine ev_succ ?_
    simp only [octet_GetInt.j0, if_true]
    exact Ev.now _
theorem enc_lt : ∀ (m i : Nat) (x : Int), 0 ≤ x → x < Q7 (i + 1) → (enc m x).length ≤ i + 1
  | 0, i, x, _, _ => Nat.succ_le_succ (Nat.zero_le i)
  | m + 1, 0, x, h0, h => by
    rw [Q7_s, Q7_0] at h
    unfold enc
    rw [if_neg (by omega), List.length_singleton]; omega
  | m + 1, i + 1, x, h0, h => by
    unfold enc
    split
    · rw [Q7_s] at h
      have := enc_lt m i (x / 128) (by omega) (by omega)
      rw [List.length_cons]; omega
    · simp
theorem enc_ge : ∀ (m i : Nat) (x : Int), i ≤ m → Q7 i ≤ x → i + 1 ≤ (enc m x).length
  | 0, i, x, hi, _ => by rw [show enc 0 x = [x % 256] from rfl, List.length_singleton]; omega
  | m + 1, 0, x, _, _ => by
    unfold enc
    split
    · rw [List.length_cons]; omega
    · simp
  | m + 1, i + 1, x, hi, h => by
    rw [Q7_s] at h
    have hp := Q7_pos i
    unfold enc
    rw [if_pos (by omega), List.length_cons]
    have := enc_ge m i (x / 128) (by omega) (by omega)
    omega
theorem enc_exact (acc c : Int) (i : Nat) (hi : i ≤ 4) (h0 : 0 ≤ acc) (h1 : acc < Q7 i) (hc0 : 0 ≤ c) (hc : c ≤ 127) : (enc 4 (acc + c * Q7 i)).length = i + 1 ↔ ¬ (c = 0 ∧ i > 0) := by
  have hd := digit_lt acc c i h0 h1 hc0 hc
  have hu := enc_lt 4 i _ hd.1 hd.2
  have hp := Q7_pos i
  constructor
  · rintro he ⟨rfl, hg⟩
    rw [Int.zero_mul, Int.add_zero] at he
    obtain ⟨j, rfl⟩ : ∃ j, i = j + 1 := ⟨i - 1, by omega⟩
    have := enc_lt 4 j acc h0 h1
    omega
  · intro hn
    by_cases hi0 : i = 0
    · subst hi0
      have : 1 ≤ (enc 4 (acc + c * Q7 0)).length := by
        unfold enc
        split
        · rw [List.length_cons]; omega
        · simp
      omega
    · have hc1 : 1 ≤ c := by omega
      have h2 : 1 * Q7 i ≤ c * Q7 i := Int.mul_le_mul_of_nonneg_right hc1 (by omega)
      have := enc_ge 4 i (acc + c * Q7 i) hi (by omega)
      omega
theorem ref_big (x : Int) (h : x > 2147483647) : Ev (fun k => catenaryref01_Int.f k x) ([], 14) := by
  apply ev_succ
  have e1 : ¬ x < 0 := by omega
  have e2 : decide (x > 2147483647) = true := decide_eq_true h
  simp only [catenaryref01_Int.f, if_neg e1, e2]
  apply ev_succ
  simp only [catenaryref01_Int.j0, if_true]
  exact Ev.now _
theorem arith7 (acc c : Int) (i : Nat) (h0 : 0 ≤ acc) (h1 : acc < Q7 i) (hc0 : 0 ≤ c) (hc : c ≤ 127) (hi : i ≤ 4) : wrap64 (c * Q7 i) = c * Q7 i ∧ wrap64 (acc + c * Q7 i) = acc + c * Q7 i ∧ wrap64 (Q7 i * 128) = Q7 (i + 1) := by
  have hd := digit_lt acc c i h0 h1 hc0 hc
  have h2 := Q7_small (i + 1) (by omega)
  have h3 := Q7_pos i
  have hm : 0 ≤ c * Q7 i := Int.mul_nonneg hc0 (by omega)
  rw [Q7_s] at *
  generalize c * Q7 i = q at *
  generalize Q7 i = P at *
  unfold wrap64
  omega
theorem rget_l0 (b : List Int) (hb : isY b) (hl : b.length < 1000000000000000) (a : Nat) (ha : a < 1000000000000000) : ∀ (m i : Nat) (acc : Int), m + i = 5 → 0 ≤ acc → acc < Q7 i →
    Ev (fun k => catenaryref01_GetInt.l0 k b (a : Int) acc (Q7 i) ((a + i : Nat) : Int)) (outG (dec m i acc (b.drop (a + i))) a)
  | 0, i, acc, hm, h0, h1 => by
    have J : Ev (fun k => catenaryref01_GetInt.j2 k b (a : Int) acc (Q7 i) ((a + i : Nat) : Int) false) (0, 0, 11) := by
      refine ev_succ ?_
      simp only [catenaryref01_GetInt.j2, Bool.false_eq_true, if_false]
      exact Ev.now _
    refine ev_succ ?_
    have gd : decide (wrap64 (((a + i : Nat) : Int) - (a : Int)) < 5) = false := decide_eq_false (by unfold wrap64; omega)
    by_cases c : ((a + i : Nat) : Int) < (b.length : Int)
    · simp only [catenaryref01_GetInt.l0, if_pos c, gd]; exact J
    · simp only [catenaryref01_GetInt.l0, if_neg c]; exact J
  | m + 1, i, acc, hm, h0, h1 => by
    have hi4 : i ≤ 4 := by omega
    by_cases hlt : a + i < b.length
    · have c : ((a + i : Nat) : Int) < (b.length : Int) := by omega
      have gd : decide (wrap64 (((a + i : Nat) : Int) - (a : Int)) < 5) = true := decide_eq_true (by unfold wrap64; omega)
      have e2 : (0 : Int) ≤ ((a + i : Nat) : Int) := by omega
      have er : rd b ((a + i : Nat) : Int) = b[a + i] := by
        unfold rd
        rw [Int.toNat_natCast, List.getD_eq_getElem?_getD, List.getElem?_eq_getElem hlt]; rfl
      have hc := hb _ (List.getElem_mem hlt)
      have hm1 : 0 ≤ b[a + i] % 128 := by omega
      have hm2 : b[a + i] % 128 ≤ 127 := by omega
      have hz : b[a + i] < 128 → b[a + i] % 128 = 0 → b[a + i] = 0 := by omega
      have hz' : b[a + i] = 0 → b[a + i] % 128 = 0 := by omega
      have hge : ¬ b[a + i] < 128 → b[a + i] ≥ 128 := by omega
      have hlt' : b[a + i] < 128 → ¬ b[a + i] ≥ 128 := by omega
      have em : wrap64 (Int.tmod (b[a + i]) 128) = b[a + i] % 128 := by rw [Int.tmod_eq_emod_of_nonneg hc.1]; unfold wrap64; omega
      have ew : wrap64 (((a + i : Nat) : Int) + 1) = ((a + (i + 1) : Nat) : Int) := by unfold wrap64; omega
      have ex : wrap64 (wrap64 (((a + i : Nat) : Int) - (a : Int)) + 1) = ((i + 1 : Nat) : Int) := by unfold wrap64; omega
      have hm3 : m + (i + 1) = 5 := by omega
      have hi5 : i + 1 ≤ 5 := by omega
      have hi5' : i ≤ 5 := by omega
      have hdl := digit_lt acc (b[a + i] % 128) i h0 h1 hm1 hm2
      have harith : wrap64 (b[a + i] % 128 * Q7 i) = b[a + i] % 128 * Q7 i ∧ wrap64 (acc + b[a + i] % 128 * Q7 i) = acc + b[a + i] % 128 * Q7 i ∧ wrap64 (Q7 i * 128) = Q7 (i + 1) := arith7 acc _ i h0 h1 hm1 hm2 hi4
      obtain ⟨ek, ea, ep⟩ := harith
      rw [List.drop_eq_getElem_cons hlt]
      have hstep : dec (m + 1) i acc (b[a + i] :: b.drop (a + i + 1)) = (if b[a + i] < 128 then (if acc + (b[a + i] % 128) * Q7 i > 2147483647 ∨ (b[a + i] = 0 ∧ i > 0) then none else some (acc + (b[a + i] % 128) * Q7 i, i + 1)) else dec m (i + 1) (acc + (b[a + i] % 128) * Q7 i) (b.drop (a + i + 1))) := rfl
      rw [hstep]
      refine ev_succ ?_
      simp only [catenaryref01_GetInt.l0, if_pos c, gd]
      refine ev_succ ?_
      by_cases c1 : b[a + i] < 128
      · rw [if_pos c1]
        have c1' := hlt' c1
        have J : ∀ q : Bool, Ev (fun k => catenaryref01_GetInt.j3 k (acc + (b[a + i] % 128) * Q7 i) ((a + i : Nat) : Int) q) (if q = true then (0, 0, 11) else (acc + (b[a + i] % 128) * Q7 i, ((a + (i + 1) : Nat) : Int), 0)) := by
          intro q
          refine ev_succ ?_
          cases q with
          | true => simp only [catenaryref01_GetInt.j3, if_true]; exact Ev.now _
          | false => simp only [catenaryref01_GetInt.j3, Bool.false_eq_true, if_false, ew]; exact Ev.now _
        by_cases c2 : acc + (b[a + i] % 128) * Q7 i > 2147483647
        · rw [if_pos (Or.inl c2)]
          simp only [catenaryref01_GetInt.j2, if_true, if_pos e2, if_pos c, er, if_neg c1', em, ek, ea]
          refine Ev.bind (ref_big _ c2) ?_
          simp only [show ¬ ((14 : Int) = 0) by decide, if_false]
          exact J true
        · have hle7 : acc + (b[a + i] % 128) * Q7 i ≤ 2147483647 := Int.not_lt.1 c2
          have hri := ref_int 4 _ (by decide) hdl.1 (B74 _ hle7) hle7
          have hex := enc_exact acc (b[a + i] % 128) i hi4 h0 h1 hm1 hm2
          simp only [catenaryref01_GetInt.j2, if_true, if_pos e2, if_pos c, er, if_neg c1', em, ek, ea]
          refine Ev.bind hri ?_
          simp only [if_true, ex]
          by_cases c3 : b[a + i] = 0 ∧ i > 0
          · rw [if_pos (Or.inr c3)]
            have g : (((enc 4 (acc + (b[a + i] % 128) * Q7 i)).length : Int) != ((i + 1 : Nat) : Int)) = true := by
              rw [bne_iff_ne]
              intro h
              exact hex.1 (Int.ofNat.inj h) ⟨hz' c3.1, c3.2⟩
            rw [g]
            exact J true
          · rw [if_neg (fun h => h.elim (fun h => c2 h) (fun h => c3 h))]
            have g : (((enc 4 (acc + (b[a + i] % 128) * Q7 i)).length : Int) != ((i + 1 : Nat) : Int)) = false := by
              rw [bne_eq_false_iff_eq, hex.2 (fun h => c3 ⟨hz c1 h.1, h.2⟩)]
            rw [g]
            exact J false
      · rw [if_neg c1]
        have c1' := hge c1
        simp only [catenaryref01_GetInt.j2, if_true, if_pos e2, if_pos c, er, if_pos c1', em, ek, ea, ep, ew]
        have := rget_l0 b hb hl a ha m (i + 1) (acc + (b[a + i] % 128) * Q7 i) hm3 hdl.1 hdl.2
        exact this
    · have c : ¬ ((a + i : Nat) : Int) < (b.length : Int) := by omega
      rw [List.drop_eq_nil_of_le (by omega), dec_nil]
      refine ev_succ ?_
      simp only [catenaryref01_GetInt.l0, if_neg c]
      refine ev_succ ?_
      simp only [catenaryref01_GetInt.j2, Bool.false_eq_true, if_false]
      exact Ev.now _
theorem rget_ev (b : List Int) (hb : isY b) (hl : b.length < 1000000000000000) (a : Nat) (ha : a < 1000000000000000) : Ev (fun k => catenaryref01_GetInt.f k b (a : Int)) (outG (dec 5 0 0 (b.drop a)) a) := by
  have e1 : ¬ (a : Int) < 0 := by omega
  by_cases hle : a ≤ b.length
  · have e2 : decide ((a : Int) > (b.length : Int)) = false := decide_eq_false (by omega)
    simp only [catenaryref01_GetInt.f, if_neg e1, e2]
    refine ev_succ ?_
    simp only [catenaryref01_GetInt.j0, Bool.false_eq_true, if_false]
    have := rget_l0 b hb hl a ha 5 0 0 (by omega) (Int.le_refl _) (by rw [Q7_0]; decide)
    rw [Q7_0] at this
    exact this
  · have e2 : decide ((a : Int) > (b.length : Int)) = true := decide_eq_true (by omega)
    rw [List.drop_eq_nil_of_le (by omega), dec_nil]
    simp only [catenaryref01_GetInt.f, if_neg e1, e2]
    refine ev_succ ?_
    simp only [catenaryref01_GetInt.j0, if_true]
    exact Ev.now _
theorem dec_char : ∀ (m i : Nat) (acc : Int) (l : List Int), isY l → ∀ (n : Int) (c : Nat), dec (m + 1) i acc l = some (n, c) → ∃ (y : Int) (rest : List Int), 0 ≤ y ∧ n = acc + y * Q7 i ∧ l = enc m y ++ rest ∧ c = i + (enc m y).length ∧ n ≤ 2147483647 ∧ (i > 0 → y > 0)
  | m, i, acc, [], _, n, c, h => by cases h
  | m, i, acc, x :: xs, hl, n, c, h => by
    have hx := hl x (by simp)
    have hstep : dec (m + 1) i acc (x :: xs) = (if x < 128 then (if acc + (x % 128) * Q7 i > 2147483647 ∨ (x = 0 ∧ i > 0) then none else some (acc + (x % 128) * Q7 i, i + 1)) else dec m (i + 1) (acc + (x % 128) * Q7 i) xs) := rfl
    rw [hstep] at h
    by_cases c1 : x < 128
    · rw [if_pos c1] at h
      by_cases c2 : acc + (x % 128) * Q7 i > 2147483647 ∨ (x = 0 ∧ i > 0)
      · rw [if_pos c2] at h; cases h
      · rw [if_neg c2] at h
        have h := Option.some.inj h
        obtain ⟨e1, e2⟩ := Prod.mk.inj h
        have ex : x % 128 = x := by omega
        have en : enc m x = [x] := by
          cases m with
          | zero => rw [show enc 0 x = [x % 256] from rfl, show x % 256 = x by omega]
          | succ m => unfold enc; rw [if_neg (by omega), show x % 256 = x by omega]
        refine ⟨x, xs, hx.1, by rw [← e1, ex], by rw [en]; rfl, by rw [en]; exact e2.symm, by omega, fun hi => by omega⟩
    · rw [if_neg c1] at h
      cases m with
      | zero => cases h
      | succ m =>
        obtain ⟨y, rest, g1, g2, g3, g4, g5, g6⟩ := dec_char m (i + 1) _ xs (fun z hz => hl z (by simp [hz])) n c h
        have hy := g6 (by omega)
        have e1 : (x % 128 + 128 * y) / 128 = y := by omega
        have e2 : (x % 128 + 128 * y) % 128 + 128 = x := by omega
        have en : enc (m + 1) (x % 128 + 128 * y) = [x] ++ enc m y := by
          rw [enc_pos m _ (by omega), or128 _ (by omega), e1, e2]
        refine ⟨x % 128 + 128 * y, rest, by omega, ?_, ?_, ?_, g5, fun _ => by omega⟩
        · rw [g2, Q7_s, Int.add_mul, Int.mul_comm 128 y, Int.mul_assoc, Int.mul_comm 128 (Q7 i)]
          omega
        · rw [en, g3]; rfl
        · rw [en, g4, List.length_append, List.length_singleton]; omega
theorem dec_top (l : List Int) (hl : isY l) (n : Int) (c : Nat) (h : dec 5 0 0 l = some (n, c)) : 0 ≤ n ∧ n ≤ 2147483647 ∧ c = (enc 4 n).length ∧ ∃ rest, l = enc 4 n ++ rest := by
  obtain ⟨y, rest, h1, h2, h3, h4, h5, _⟩ := dec_char 4 0 0 l hl n c h
  rw [Q7_0] at h2
  have : n = y := by omega
  subst this
  exact ⟨h1, h5, by omega, rest, h3⟩
theorem alive : Ev (fun k => catenarylaw07_kvAlive.f k) true := Ev.of catenarylaw07_kvAlive.mono (k := 60) (by kernel_rfl)
theorem same_self (a : List Int) : catenaryref01_Same.f a a = some true := by
  unfold catenaryref01_Same.f
  rw [beq_self_eq_true]
theorem sameop_self (kd : Int) (n v w : List Int) (num : Int) : catenaryref07_SameOp.f kd n v w num kd n v w num = some true := by
  unfold catenaryref07_SameOp.f
  rw [if_pos rfl, if_pos rfl]
  simp only [same_self, Option.bind_some, if_true]
theorem ev_rounds {α : Type} {g : Nat → Option α} {r : α} (h : Ev g r) : ∃ k, g k = some r := by
  obtain ⟨K, hK⟩ := h
  exact ⟨K, hK K (Nat.le_refl _)⟩
def decB (b : List Int) (a : Nat) (most : Int) : Option (List Int × Nat) := match dec 5 0 0 (b.drop a) with
  | none => none
  | some x => if x.1 > most ∨ x.1 > (b.length : Int) - ((a + x.2 : Nat) : Int) then none else some ((b.drop (a + x.2)).take x.1.toNat, a + x.2 + x.1.toNat)
def outB (o : Option (List Int × Nat)) : List Int × Int × Int := match o with
  | some x => (x.1, (x.2 : Int), 0)
  | none => ([], 0, 11)
theorem dec_in (b : List Int) (hb : isY b) (a : Nat) (x : Int × Nat) (h : dec 5 0 0 (b.drop a) = some x) : 0 ≤ x.1 ∧ x.1 ≤ 2147483647 ∧ a + x.2 ≤ b.length ∧ x.2 ≤ 5 ∧ b.drop a = enc 4 x.1 ++ b.drop (a + x.2) := by
  obtain ⟨h1, h2, h3, rest, h4⟩ := dec_top (b.drop a) (isY_drop hb a) x.1 x.2 h
  have hl := congrArg List.length h4
  rw [List.length_drop, List.length_append, ← h3] at hl
  have h5 := enc_len 4 x.1
  have h6 : 1 ≤ (enc 4 x.1).length := by
    unfold enc; split
    · rw [List.length_cons]; omega
    · simp
  refine ⟨h1, h2, by omega, by omega, ?_⟩
  rw [← List.drop_drop, h4, h3, List.drop_left]
theorem oB_ev (b : List Int) (hb : isY b) (hl : b.length < 140737488355328) (a : Nat) (ha : a < 1000000000000000) (most : Int) (hm : most ≤ 2147483647) : Ev (fun k => octet_GetBytes.f k b (a : Int) most) (outB (decB b a most)) := by
  have bad : ∀ x y : Int, Ev (fun k => octet_GetBytes.j0 k b x y true) ([], 0, 11) := by
    intro x y
    refine ev_succ ?_
    simp only [octet_GetBytes.j0, if_true]
    exact Ev.now _
  simp only [octet_GetBytes.f]
  have o := oget_ev b hb (by omega) a ha
  unfold decB
  cases hd : dec 5 0 0 (b.drop a) with
  | none =>
    rw [hd] at o
    refine Ev.bind (show Ev _ ((0 : Int), (0 : Int), (11 : Int)) from o) ?_
    simp only [outB, show ¬ ((11 : Int) = 0) by decide, if_false]
    exact bad _ _
  | some x =>
    obtain ⟨h1, h2, h3, h4, _⟩ := dec_in b hb a x hd
    have ew : wrap64 ((b.length : Int) - ((a + x.2 : Nat) : Int)) = (b.length : Int) - ((a + x.2 : Nat) : Int) := by unfold wrap64; omega
    rw [hd] at o
    refine Ev.bind (show Ev _ (x.1, ((a + x.2 : Nat) : Int), (0 : Int)) from o) ?_
    simp only [if_true]
    by_cases c1 : x.1 > most
    · simp only [if_pos c1, if_pos (Or.inl c1), outB]
      exact bad _ _
    · by_cases c2 : x.1 > (b.length : Int) - ((a + x.2 : Nat) : Int)
      · simp only [if_neg c1, if_pos (Or.inr c2), outB, ew, decide_eq_true c2]
        exact bad _ _
      · have hn : ¬ (x.1 > most ∨ x.1 > (b.length : Int) - ((a + x.2 : Nat) : Int)) := fun q => q.elim c1 c2
        simp only [if_neg c1, if_neg hn, outB, ew, decide_eq_false c2]
        have e1 : (0 : Int) ≤ ((a + x.2 : Nat) : Int) := by omega
        have e2 : wrap64 (((a + x.2 : Nat) : Int) + x.1) = ((a + x.2 + x.1.toNat : Nat) : Int) := by unfold wrap64; omega
        have e3 : ((a + x.2 : Nat) : Int) ≤ ((a + x.2 + x.1.toNat : Nat) : Int) := by omega
        have e4 : ((a + x.2 + x.1.toNat : Nat) : Int) ≤ (b.length : Int) := by omega
        have es : (b.take (a + x.2 + x.1.toNat)).drop (a + x.2) = (b.drop (a + x.2)).take x.1.toNat := by rw [List.drop_take, show a + x.2 + x.1.toNat - (a + x.2) = x.1.toNat by omega]
        have ec : slices_Clone_byte_byte.f ((b.drop (a + x.2)).take x.1.toNat) = some ((b.drop (a + x.2)).take x.1.toNat) := by
          unfold slices_Clone_byte_byte.f
          rw [if_pos (by rw [List.length_take]; omega)]
        refine ev_succ ?_
        simp only [octet_GetBytes.j0, Bool.false_eq_true, if_false, e2, if_pos e1, if_pos e3, if_pos e4, Int.toNat_natCast, es, ec, Option.bind_some]
        exact Ev.now _
theorem rB_ev (b : List Int) (hb : isY b) (hl : b.length < 140737488355328) (a : Nat) (ha : a < 1000000000000000) (most : Int) (hm : most ≤ 2147483647) : Ev (fun k => catenaryref01_GetBytes.f k b (a : Int) most) (outB (decB b a most)) := by
  have bad : ∀ x y : Int, Ev (fun k => catenaryref01_GetBytes.j0 k b x y true) ([], 0, 11) := by
    intro x y
    refine ev_succ ?_
    simp only [catenaryref01_GetBytes.j0, if_true]
    exact Ev.now _
  simp only [catenaryref01_GetBytes.f]
  have o := rget_ev b hb (by omega) a ha
  unfold decB
  cases hd : dec 5 0 0 (b.drop a) with
  | none =>
    rw [hd] at o
    refine Ev.bind (show Ev _ ((0 : Int), (0 : Int), (11 : Int)) from o) ?_
    simp only [outB, show ¬ ((11 : Int) = 0) by decide, if_false]
    exact bad _ _
  | some x =>
    obtain ⟨h1, h2, h3, h4, _⟩ := dec_in b hb a x hd
    have ew : wrap64 ((b.length : Int) - ((a + x.2 : Nat) : Int)) = (b.length : Int) - ((a + x.2 : Nat) : Int) := by unfold wrap64; omega
    rw [hd] at o
    refine Ev.bind (show Ev _ (x.1, ((a + x.2 : Nat) : Int), (0 : Int)) from o) ?_
    simp only [if_true]
    by_cases c1 : x.1 > most
    · simp only [if_pos c1, if_pos (Or.inl c1), outB]
      exact bad _ _
    · by_cases c2 : x.1 > (b.length : Int) - ((a + x.2 : Nat) : Int)
      · simp only [if_neg c1, if_pos (Or.inr c2), outB, ew, decide_eq_true c2]
        exact bad _ _
      · have hn : ¬ (x.1 > most ∨ x.1 > (b.length : Int) - ((a + x.2 : Nat) : Int)) := fun q => q.elim c1 c2
        simp only [if_neg c1, if_neg hn, outB, ew, decide_eq_false c2]
        have e1 : (0 : Int) ≤ ((a + x.2 : Nat) : Int) := by omega
        have e2 : wrap64 (((a + x.2 : Nat) : Int) + x.1) = ((a + x.2 + x.1.toNat : Nat) : Int) := by unfold wrap64; omega
        have e3 : ((a + x.2 : Nat) : Int) ≤ ((a + x.2 + x.1.toNat : Nat) : Int) := by omega
        have e4 : ((a + x.2 + x.1.toNat : Nat) : Int) ≤ (b.length : Int) := by omega
        have es : (b.take (a + x.2 + x.1.toNat)).drop (a + x.2) = (b.drop (a + x.2)).take x.1.toNat := by rw [List.drop_take, show a + x.2 + x.1.toNat - (a + x.2) = x.1.toNat by omega]
        have ec : ([] : List Int).length + ((b.drop (a + x.2)).take x.1.toNat).length < 140737488355328 := by rw [List.length_take, List.length_nil]; omega
        refine ev_succ ?_
        simp only [catenaryref01_GetBytes.j0, Bool.false_eq_true, if_false, e2, if_pos e1, if_pos e3, if_pos e4, Int.toNat_natCast, es, Option.bind_some, if_pos ec, List.nil_append]
        exact Ev.now _
theorem decB_in (b : List Int) (hb : isY b) (a : Nat) (most : Int) (hm : most ≤ 1000) (x : List Int × Nat) (h : decB b a most = some x) : x.2 ≤ b.length ∧ (x.1.length : Int) ≤ most ∧ b.drop a = (enc 4 (x.1.length : Int) ++ x.1) ++ b.drop x.2 := by
  unfold decB at h
  cases hd : dec 5 0 0 (b.drop a) with
  | none => rw [hd] at h; cases h
  | some y =>
    rw [hd] at h
    obtain ⟨h1, h2, h3, h4, h5⟩ := dec_in b hb a y hd
    have h : (if y.1 > most ∨ y.1 > (b.length : Int) - ((a + y.2 : Nat) : Int) then none else some ((b.drop (a + y.2)).take y.1.toNat, a + y.2 + y.1.toNat)) = some x := h
    by_cases c : y.1 > most ∨ y.1 > (b.length : Int) - ((a + y.2 : Nat) : Int)
    · rw [if_pos c] at h; cases h
    · rw [if_neg c] at h
      have h := Option.some.inj h
      subst h
      have hlen : ((b.drop (a + y.2)).take y.1.toNat).length = y.1.toNat := by rw [List.length_take, List.length_drop]; omega
      refine ⟨?_, ?_, ?_⟩
      · show a + y.2 + y.1.toNat ≤ b.length; omega
      · show (((b.drop (a + y.2)).take y.1.toNat).length : Int) ≤ most
        rw [hlen]; omega
      · show b.drop a = (enc 4 (((b.drop (a + y.2)).take y.1.toNat).length : Int) ++ (b.drop (a + y.2)).take y.1.toNat) ++ b.drop (a + y.2 + y.1.toNat)
        rw [hlen, show ((y.1.toNat : Nat) : Int) = y.1 by omega, List.append_assoc, show b.drop (a + y.2 + y.1.toNat) = (b.drop (a + y.2)).drop y.1.toNat by rw [List.drop_drop], List.take_append_drop]
        exact h5
theorem decB_16 (b : List Int) (a : Nat) : decB b a 16 = match decB b a 64 with
    | some x => if (x.1.length : Int) ≤ 16 then some x else none
    | none => none := by
  unfold decB
  cases hd : dec 5 0 0 (b.drop a) with
  | none => rfl
  | some y =>
    simp only []
    by_cases c : y.1 > 64 ∨ y.1 > (b.length : Int) - ((a + y.2 : Nat) : Int)
    · rw [if_pos c, if_pos (by omega)]
    · rw [if_neg c]
      simp only []
      by_cases c1 : y.1 > 16
      · by_cases c0 : 0 ≤ y.1
        · have hlen : ((b.drop (a + y.2)).take y.1.toNat).length = y.1.toNat := by rw [List.length_take, List.length_drop]; omega
          rw [if_pos (Or.inl c1), hlen, if_neg (by omega)]
        · omega
      · have hlen : ((b.drop (a + y.2)).take y.1.toNat).length ≤ y.1.toNat := by rw [List.length_take]; omega
        rw [if_neg (by omega), if_pos (by omega)]
abbrev OpR := Int × List Int × List Int × List Int × Int × Int
def badR : OpR := (0, [], [], [], 0, 71)
def readR (b : List Int) : OpR := match dec 5 0 0 b with
  | none => badR
  | some x => match decB b x.2 64 with
    | none => badR
    | some n => match decB b n.2 64 with
      | none => badR
      | some v => match decB b v.2 64 with
        | none => badR
        | some w => match dec 5 0 0 (b.drop w.2) with
          | none => badR
          | some y => if w.2 + y.2 = b.length ∧ rightB x.1 n.1 v.1 w.1 y.1 = true then (x.1, n.1, v.1, w.1, y.1, 0) else badR
theorem rightB_name {kd : Int} {n v w : List Int} {num : Int} (h : rightB kd n v w num = true) : (n.length : Int) ≤ 16 := by
  unfold rightB at h
  simp only [Bool.and_eq_true, decide_eq_true_eq] at h
  obtain ⟨⟨⟨⟨⟨⟨⟨⟨_, a2⟩, _⟩, _⟩, _⟩, _⟩, _⟩, _⟩, _⟩ := h
  exact a2
theorem ref_end (b : List Int) (hb : isY b) (hl : b.length < 140737488355328) (kd : Int) (a : Nat) (ha : a ≤ b.length) (n v w : List Int) : Ev (fun k => catenaryref07_Read.l0 k b kd (a : Int) 3 n v w) (match dec 5 0 0 (b.drop a) with
          | none => badR
          | some y => if a + y.2 = b.length ∧ rightB kd n v w y.1 = true then (kd, n, v, w, y.1, 0) else badR) := by
  have J : ∀ (q : Bool) (u : Int), Ev (fun k => catenaryref07_Read.j1 k q kd n v w u) (if q = true then badR else (kd, n, v, w, u, 0)) := by
    intro q u
    refine ev_succ ?_
    cases q with
    | true => simp only [catenaryref07_Read.j1, if_true]; exact Ev.now _
    | false => simp only [catenaryref07_Read.j1, Bool.false_eq_true, if_false]; exact Ev.now _
  refine ev_succ ?_
  simp only [catenaryref07_Read.l0, show ¬ ((3 : Int) < 3) by decide, if_false]
  have o := rget_ev b hb (by omega) a (by omega)
  cases hd : dec 5 0 0 (b.drop a) with
  | none =>
    rw [hd] at o
    refine Ev.bind (show Ev _ ((0 : Int), (0 : Int), (11 : Int)) from o) ?_
    simp only [show ¬ ((11 : Int) = 0) by decide, if_false]
    exact J true _
  | some y =>
    rw [hd] at o
    refine Ev.bind (show Ev _ (y.1, ((a + y.2 : Nat) : Int), (0 : Int)) from o) ?_
    simp only [if_true]
    by_cases c : a + y.2 = b.length
    · have e : ((a + y.2 : Nat) : Int) = (b.length : Int) := by omega
      simp only [if_pos e]
      refine Ev.bind (ref_right kd n v w y.1) ?_
      cases hr : rightB kd n v w y.1 with
      | true => simp only [Bool.not_true, and_true, if_pos c]; exact J false _
      | false => simp only [Bool.not_false, Bool.false_eq_true, and_false, if_false]; exact J true _
    · have e : ¬ ((a + y.2 : Nat) : Int) = (b.length : Int) := by omega
      simp only [if_neg e]
      rw [if_neg (fun q => c q.1)]
      exact J true _
theorem ref_read (b : List Int) (hb : isY b) (hl : b.length < 140737488355328) : Ev (fun k => catenaryref07_Read.f k b) (readR b) := by
  have w1 : wrap64 (0 + 1) = 1 := by unfold wrap64; omega
  have w2 : wrap64 (1 + 1) = 2 := by unfold wrap64; omega
  have w3 : wrap64 (2 + 1) = 3 := by unfold wrap64; omega
  simp only [catenaryref07_Read.f]
  have o := rget_ev b hb (by omega) 0 (by decide)
  rw [List.drop_zero] at o
  unfold readR
  cases hd : dec 5 0 0 b with
  | none =>
    rw [hd] at o
    refine Ev.bind (show Ev _ ((0 : Int), (0 : Int), (11 : Int)) from o) ?_
    simp only [show ¬ ((11 : Int) = 0) by decide, if_false]
    exact Ev.now _
  | some x =>
    have h1 := dec_in b hb 0 x (by rw [List.drop_zero]; exact hd)
    rw [hd] at o
    refine Ev.bind (show Ev _ (x.1, ((0 + x.2 : Nat) : Int), (0 : Int)) from o) ?_
    simp only [if_true, Nat.zero_add]
    refine ev_succ ?_
    simp only [catenaryref07_Read.l0, show ((0 : Int) < 3) by decide, if_true]
    have o := rB_ev b hb hl x.2 (by omega) 64 (by decide)
    cases hn : decB b x.2 64 with
    | none =>
      rw [hn] at o
      refine Ev.bind (show Ev _ (([] : List Int), (0 : Int), (11 : Int)) from o) ?_
      simp only [show ¬ ((11 : Int) = 0) by decide, if_false]
      exact Ev.now _
    | some n =>
      have h2 := decB_in b hb x.2 64 (by decide) n hn
      rw [hn] at o
      refine Ev.bind (show Ev _ (n.1, (n.2 : Int), (0 : Int)) from o) ?_
      simp only [if_true, w1]
      refine ev_succ ?_
      simp only [catenaryref07_Read.l0, show ((1 : Int) < 3) by decide, if_true]
      have o := rB_ev b hb hl n.2 (by omega) 64 (by decide)
      cases hv : decB b n.2 64 with
      | none =>
        rw [hv] at o
        refine Ev.bind (show Ev _ (([] : List Int), (0 : Int), (11 : Int)) from o) ?_
        simp only [show ¬ ((11 : Int) = 0) by decide, if_false]
        exact Ev.now _
      | some v =>
        have h3 := decB_in b hb n.2 64 (by decide) v hv
        rw [hv] at o
        refine Ev.bind (show Ev _ (v.1, (v.2 : Int), (0 : Int)) from o) ?_
        simp only [if_true, show ¬ ((1 : Int) = 0) by decide, if_false, w2]
        refine ev_succ ?_
        simp only [catenaryref07_Read.l0, show ((2 : Int) < 3) by decide, if_true]
        have o := rB_ev b hb hl v.2 (by omega) 64 (by decide)
        cases hw : decB b v.2 64 with
        | none =>
          rw [hw] at o
          refine Ev.bind (show Ev _ (([] : List Int), (0 : Int), (11 : Int)) from o) ?_
          simp only [show ¬ ((11 : Int) = 0) by decide, if_false]
          exact Ev.now _
        | some w =>
          have h4 := decB_in b hb v.2 64 (by decide) w hw
          rw [hw] at o
          refine Ev.bind (show Ev _ (w.1, (w.2 : Int), (0 : Int)) from o) ?_
          simp only [if_true, show ¬ ((2 : Int) = 0) by decide, show ¬ ((2 : Int) = 1) by decide, if_false, w3]
          exact ref_end b hb hl x.1 w.2 h4.1 n.1 v.1 w.1
theorem kv_eval (b : List Int) (r1 : Int × Int × Int) (r2 r3 r4 : List Int × Int × Int) (r5 : Int × Int × Int) (h1 : Ev (fun k => octet_GetInt.f k b 0) r1) (h2 : Ev (fun k => octet_GetBytes.f k b r1.2.1 16) r2) (h3 : Ev (fun k => octet_GetBytes.f k b r2.2.1 64) r3) (h4 : Ev (fun k => octet_GetBytes.f k b r3.2.1 64) r4) (h5 : Ev (fun k => octet_GetInt.f k b r4.2.1) r5) :
    Ev (fun k => kv_Read.f k b) (if (r1.2.2 = 0 ∧ r2.2.2 = 0 ∧ r3.2.2 = 0 ∧ r4.2.2 = 0 ∧ r5.2.2 = 0) ∧ r5.2.1 = (b.length : Int) ∧ rightB r1.1 r2.1 r3.1 r4.1 r5.1 = true then (r1.1, r2.1, r3.1, r4.1, r5.1, 0) else badR) := by
  have J : ∀ (q : Bool), Ev (fun k => kv_Read.j0 k q r1.1 r2.1 r3.1 r4.1 r5.1) (if q = true then badR else (r1.1, r2.1, r3.1, r4.1, r5.1, 0)) := by
    intro q
    refine ev_succ ?_
    cases q with
    | true => simp only [kv_Read.j0, if_true]; exact Ev.now _
    | false => simp only [kv_Read.j0, Bool.false_eq_true, if_false]; exact Ev.now _
  simp only [kv_Read.f]
  refine Ev.bind h1 ?_
  refine Ev.bind h2 ?_
  refine Ev.bind h3 ?_
  refine Ev.bind h4 ?_
  refine Ev.bind h5 ?_
  by_cases hz : r1.2.2 = 0 ∧ r2.2.2 = 0 ∧ r3.2.2 = 0 ∧ r4.2.2 = 0 ∧ r5.2.2 = 0
  · have e : (!(r1.2.2 == 0) || (!(r2.2.2 == 0) || (!(r3.2.2 == 0) || (!(r4.2.2 == 0) || (!(r5.2.2 == 0)))))) = false := by
      rw [hz.1, hz.2.1, hz.2.2.1, hz.2.2.2.1, hz.2.2.2.2]; rfl
    simp only [e, Bool.false_eq_true, if_false]
    by_cases c : r5.2.1 = (b.length : Int)
    · simp only [if_pos c]
      refine Ev.bind (right_ev r1.1 r2.1 r3.1 r4.1 r5.1) ?_
      cases hr : rightB r1.1 r2.1 r3.1 r4.1 r5.1 with
      | true =>
        rw [if_pos ⟨hz, c, rfl⟩]
        exact J false
      | false =>
        rw [if_neg (fun q => by cases q.2.2)]
        exact J true
    · simp only [if_neg c]
      rw [if_neg (fun q => c q.2.1)]
      exact J true
  · have e : (!(r1.2.2 == 0) || (!(r2.2.2 == 0) || (!(r3.2.2 == 0) || (!(r4.2.2 == 0) || (!(r5.2.2 == 0)))))) = true := by
      by_cases a1 : r1.2.2 = 0 <;> by_cases a2 : r2.2.2 = 0 <;> by_cases a3 : r3.2.2 = 0 <;> by_cases a4 : r4.2.2 = 0 <;> by_cases a5 : r5.2.2 = 0 <;> simp_all
    simp only [e, if_true]
    rw [if_neg (fun q => hz q.1)]
    exact J true
theorem outB_at (b : List Int) (hb : isY b) (a : Nat) (most : Int) (hm : most ≤ 1000) : ∃ p : Nat, (outB (decB b a most)).2.1 = (p : Int) ∧ p ≤ b.length := by
  cases h : decB b a most with
  | none => exact ⟨0, rfl, Nat.zero_le _⟩
  | some x => exact ⟨x.2, rfl, (decB_in b hb a most hm x h).1⟩
theorem kv_read (b : List Int) (hb : isY b) (hl : b.length < 140737488355328) : Ev (fun k => kv_Read.f k b) (readR b) := by
  have o1 := oget_ev b hb (by omega) 0 (by decide)
  rw [List.drop_zero] at o1
  obtain ⟨p1, q1, l1⟩ : ∃ p : Nat, (outG (dec 5 0 0 b) 0).2.1 = (p : Int) ∧ p ≤ b.length := by
    cases h : dec 5 0 0 b with
    | none => exact ⟨0, rfl, Nat.zero_le _⟩
    | some x =>
      have := dec_in b hb 0 x (by rw [List.drop_zero]; exact h)
      exact ⟨0 + x.2, rfl, this.2.2.1⟩
  have o2 := oB_ev b hb hl p1 (by omega) 16 (by decide)
  obtain ⟨p2, q2, l2⟩ := outB_at b hb p1 16 (by decide)
  have o3 := oB_ev b hb hl p2 (by omega) 64 (by decide)
  obtain ⟨p3, q3, l3⟩ := outB_at b hb p2 64 (by decide)
  have o4 := oB_ev b hb hl p3 (by omega) 64 (by decide)
  obtain ⟨p4, q4, l4⟩ := outB_at b hb p3 64 (by decide)
  have o5 := oget_ev b hb (by omega) p4 (by omega)
  rw [← q1] at o2
  rw [← q2] at o3
  rw [← q3] at o4
  rw [← q4] at o5
  have key := kv_eval b _ _ _ _ _ o1 o2 o3 o4 o5
  have e : (if ((outG (dec 5 0 0 b) 0).2.2 = 0 ∧ (outB (decB b p1 16)).2.2 = 0 ∧ (outB (decB b p2 64)).2.2 = 0 ∧ (outB (decB b p3 64)).2.2 = 0 ∧ (outG (dec 5 0 0 (b.drop p4)) p4).2.2 = 0) ∧ (outG (dec 5 0 0 (b.drop p4)) p4).2.1 = (b.length : Int) ∧ rightB (outG (dec 5 0 0 b) 0).1 (outB (decB b p1 16)).1 (outB (decB b p2 64)).1 (outB (decB b p3 64)).1 (outG (dec 5 0 0 (b.drop p4)) p4).1 = true then ((outG (dec 5 0 0 b) 0).1, (outB (decB b p1 16)).1, (outB (decB b p2 64)).1, (outB (decB b p3 64)).1, (outG (dec 5 0 0 (b.drop p4)) p4).1, 0) else badR) = readR b := by
    cases hd : dec 5 0 0 b with
    | none =>
      rw [show readR b = badR by unfold readR; rw [hd]]
      exact if_neg (fun q => absurd q.1.1 (show ¬ ((11 : Int) = 0) by decide))
    | some x =>
      rw [hd] at q1
      have hp1 : p1 = x.2 := by
        have : ((0 + x.2 : Nat) : Int) = (p1 : Int) := q1
        omega
      subst hp1
      rw [decB_16] at q2 ⊢
      cases hn : decB b x.2 64 with
      | none =>
        rw [show readR b = badR by unfold readR; rw [hd]; simp only [hn]]
        exact if_neg (fun q => absurd q.1.2.1 (show ¬ ((11 : Int) = 0) by decide))
      | some n =>
        rw [hn] at q2
        by_cases c16 : (n.1.length : Int) ≤ 16
        · have e16 : (match (some n : Option (List Int × Nat)) with
              | some x => if (x.1.length : Int) ≤ 16 then some x else none
              | none => none) = some n := if_pos c16
          rw [e16] at q2 ⊢
          have hp2 : p2 = n.2 := by
            have : ((n.2 : Nat) : Int) = (p2 : Int) := q2
            omega
          subst hp2
          cases hv : decB b n.2 64 with
          | none =>
            rw [show readR b = badR by unfold readR; rw [hd]; simp only [hn, hv]]
            exact if_neg (fun q => absurd q.1.2.2.1 (show ¬ ((11 : Int) = 0) by decide))
          | some v =>
            rw [hv] at q3
            have hp3 : p3 = v.2 := by
              have : ((v.2 : Nat) : Int) = (p3 : Int) := q3
              omega
            subst hp3
            cases hw : decB b v.2 64 with
            | none =>
              rw [show readR b = badR by unfold readR; rw [hd]; simp only [hn, hv, hw]]
              exact if_neg (fun q => absurd q.1.2.2.2.1 (show ¬ ((11 : Int) = 0) by decide))
            | some w =>
              rw [hw] at q4
              have hp4 : p4 = w.2 := by
                have : ((w.2 : Nat) : Int) = (p4 : Int) := q4
                omega
              subst hp4
              cases hu : dec 5 0 0 (b.drop w.2) with
              | none =>
                rw [show readR b = badR by unfold readR; rw [hd]; simp only [hn, hv, hw, hu]]
                exact if_neg (fun q => absurd q.1.2.2.2.2 (show ¬ ((11 : Int) = 0) by decide))
              | some y =>
                rw [show readR b = (if w.2 + y.2 = b.length ∧ rightB x.1 n.1 v.1 w.1 y.1 = true then (x.1, n.1, v.1, w.1, y.1, 0) else badR) by unfold readR; rw [hd]; simp only [hn, hv, hw, hu]]
                by_cases c : w.2 + y.2 = b.length ∧ rightB x.1 n.1 v.1 w.1 y.1 = true
                · rw [if_pos c]
                  exact if_pos ⟨⟨rfl, rfl, rfl, rfl, rfl⟩, by show ((w.2 + y.2 : Nat) : Int) = _; have := c.1; omega, c.2⟩
                · rw [if_neg c]
                  exact if_neg (fun q => c ⟨by have h : ((w.2 + y.2 : Nat) : Int) = (b.length : Int) := q.2.1; omega, q.2.2⟩)
        · have e16 : (match (some n : Option (List Int × Nat)) with
              | some x => if (x.1.length : Int) ≤ 16 then some x else none
              | none => none) = none := if_neg c16
          rw [e16]
          have er : readR b = badR := by
            unfold readR
            rw [hd]
            simp only [hn]
            cases decB b n.2 64 with
            | none => rfl
            | some v =>
              simp only []
              cases decB b v.2 64 with
              | none => rfl
              | some w =>
                simp only []
                cases dec 5 0 0 (b.drop w.2) with
                | none => rfl
                | some y => exact if_neg (fun q => c16 (rightB_name q.2))
          rw [er]
          exact if_neg (fun q => absurd q.1.2.1 (show ¬ ((11 : Int) = 0) by decide))
  rw [e] at key
  exact key
theorem read_is (b : List Int) (hb : isY b) : readR b = badR ∨ ∃ kd n v w num, rightB kd n v w num = true ∧ b = opBytes kd n v w num ∧ readR b = (kd, n, v, w, num, 0) := by
  cases hd : dec 5 0 0 b with
  | none => left; unfold readR; rw [hd]
  | some x =>
    have h1 := dec_in b hb 0 x (by rw [List.drop_zero]; exact hd)
    rw [List.drop_zero, Nat.zero_add] at h1
    cases hn : decB b x.2 64 with
    | none => left; unfold readR; rw [hd]; simp only [hn]
    | some n =>
      have h2 := decB_in b hb x.2 64 (by decide) n hn
      cases hv : decB b n.2 64 with
      | none => left; unfold readR; rw [hd]; simp only [hn, hv]
      | some v =>
        have h3 := decB_in b hb n.2 64 (by decide) v hv
        cases hw : decB b v.2 64 with
        | none => left; unfold readR; rw [hd]; simp only [hn, hv, hw]
        | some w =>
          have h4 := decB_in b hb v.2 64 (by decide) w hw
          cases hu : dec 5 0 0 (b.drop w.2) with
          | none => left; unfold readR; rw [hd]; simp only [hn, hv, hw, hu]
          | some y =>
            have h5 := dec_in b hb w.2 y hu
            by_cases c : w.2 + y.2 = b.length ∧ rightB x.1 n.1 v.1 w.1 y.1 = true
            · right
              refine ⟨x.1, n.1, v.1, w.1, y.1, c.2, ?_, by unfold readR; rw [hd]; simp only [hn, hv, hw, hu, if_pos c]⟩
              have e5 : b.drop (w.2 + y.2) = [] := List.drop_eq_nil_of_le (by omega)
              have g := h1.2.2.2.2
              rw [h2.2.2, h3.2.2, h4.2.2, h5.2.2.2.2, e5] at g
              rw [g]
              unfold opBytes packed
              simp only [List.map_cons, List.map_nil, List.flatten_cons, List.flatten_nil, List.append_nil, List.append_assoc]
            · left; unfold readR; rw [hd]; simp only [hn, hv, hw, hu, if_neg c]
theorem KvReads : catenarylaw07_KvReads.Pure := by
  intro b gb
  have hl : b.length < 140737488355328 := by have := gb.2.1; omega
  have hb : isY b := by
    intro x hx
    have h1 := gb.2.2 x hx
    unfold Kd.gInt at h1
    have h2 : (decide (IntKind.u8.min ≤ x) && decide (x ≤ IntKind.u8.max)) = true := h1
    rw [Bool.and_eq_true, decide_eq_true_iff, decide_eq_true_iff] at h2
    have e1 : IntKind.u8.min = 0 := by decide
    have e2 : IntKind.u8.max = 255 := by decide
    rw [e1, e2] at h2
    omega
  have key : Ev (fun k => catenarylaw07_KvReads.f k b) true := by
    have en : ([] : List Int).length + b.length < 140737488355328 := by rw [List.length_nil]; omega
    simp only [catenarylaw07_KvReads.f]
    refine Ev.bind alive ?_
    simp only [if_true, Option.bind_some, if_pos en, List.nil_append]
    refine Ev.bind (kv_read b hb hl) ?_
    refine Ev.bind (ref_read b hb hl) ?_
    simp only [if_true, sameop_self, Option.bind_some, Bool.not_true]
    refine ev_succ ?_
    simp only [catenarylaw07_KvReads.j0, Bool.false_eq_true, if_false]
    rcases read_is b hb with h | ⟨kd, n, v, w, num, h1, h2, h3⟩
    · rw [h]
      refine Ev.bind (write_ev _ _ _ _ _) ?_
      simp only [badR, show ¬ ((71 : Int) = 0) by decide, if_false]
      exact Ev.now _
    · rw [h3]
      refine Ev.bind (write_ev _ _ _ _ _) ?_
      simp only [if_pos h1, if_true, ← h2, same_self, Option.bind_some]
      exact Ev.now _
  exact ev_rounds key
end Go.Proofs.Ytlafaiacbebfnaa.Pure
