/- LeaseDoes over lists and numbers alone: for all leases, every operation, any client and slot the law's function answers true. -/
import Derived.Test.YtkomibcmpckflaaPLeaseDoesx12
import Derived.KernelRfl
import Derived.Lib.Bytes
namespace Go.Proofs.Ytkomibcmpckflaa.Pure
open Go Go.RowKit Go.Proofs.Ytkomibcmpckflaa.PLeaseDoes Go.Proofs.YtkomibcmpckflaaW.PrintWords Go.Proofs.YtkomibcmpckflaaW.PrintLast Go.Proofs.YtkomibcmpckflaaW.PrintMore
set_option linter.unusedVariables false
set_option linter.unusedSimpArgs false
theorem w64 (i : Nat) (h : i < 1000000000000000000) : wrap64 ((i : Int) + 1) = ((i + 1 : Nat) : Int) := by unfold wrap64; omega
theorem ev_succ {α : Type} {g : Nat → Option α} {r : α} (h : Ev (fun k => g (k + 1)) r) : Ev g r := Ev.step (fun _ => rfl) h
theorem rdL (xs : List (List Int)) (i : Nat) (h : i < xs.length) : rd_L1 xs (i : Int) = xs[i] := by
  unfold rd_L1
  rw [Int.toNat_natCast, List.getD_eq_getElem?_getD, List.getElem?_eq_getElem h]; rfl
def enc : Nat → Int → List Int
  | 0, x => [x % 256]
  | n + 1, x => if x ≥ 128 then Go.bits .or .u8 (x % 256) 128 :: enc n (x / 128) else [x % 256]
theorem enc_pos (n : Nat) (x : Int) (h : x ≥ 128) : enc (n + 1) x = [Go.bits .or .u8 (x % 256) 128] ++ enc n (x / 128) := by
  show (if x ≥ 128 then Go.bits .or .u8 (x % 256) 128 :: enc n (x / 128) else [x % 256]) = _
  rw [if_pos h]; rfl
theorem enc_len : ∀ n x, (enc n x).length ≤ n + 1
  | 0, _ => Nat.le_refl _
  | n + 1, x => by
    unfold enc
    split
    · have := enc_len n (x / 128); rw [List.length_cons]; omega
    · simp
theorem int_l0 : ∀ (n : Nat) (x : Int) (acc : List Int), 0 ≤ x → x < 128 ^ (n + 1) → acc.length + n < 1000 → Ev (fun k => octet_Int.l0 k x acc) (acc ++ enc n x, 0)
  | 0, x, acc, h0, h1, h2 => by
    apply ev_succ
    have e1 : ¬ x ≥ 128 := by omega
    have e2 : acc.length < 140737488355328 := by omega
    simp only [octet_Int.l0, if_neg e1, if_pos e2]
    exact Ev.now _
  | n + 1, x, acc, h0, h1, h2 => by
    apply ev_succ
    have e2 : acc.length < 140737488355328 := by omega
    by_cases e1 : x ≥ 128
    · simp only [octet_Int.l0, if_pos e1, if_pos e2]
      have := int_l0 n (x / 128) (acc ++ [Go.bits .or .u8 (x % 256) 128]) (by omega) (by
        have e : (128 : Int) ^ (n + 1 + 1) = 128 ^ (n + 1) * 128 := Int.pow_succ _ _
        rw [e] at h1
        exact Int.ediv_lt_of_lt_mul (by decide) h1) (by simp; omega)
      rw [List.append_assoc] at this
      rw [enc_pos n x e1]
      exact this
    · simp only [octet_Int.l0, if_neg e1, if_pos e2]
      rw [show enc (n + 1) x = [x % 256] by unfold enc; rw [if_neg e1]]
      exact Ev.now _
theorem int_ev (x : Int) (h0 : 0 ≤ x) (h1 : x ≤ 2147483647) : Ev (fun k => octet_Int.f k x) (enc 4 x, 0) := by
  have e1 : ¬ x < 0 := by omega
  have e2 : decide (x > 2147483647) = false := decide_eq_false (by omega)
  simp only [octet_Int.f, if_neg e1, e2]
  apply ev_succ
  simp only [octet_Int.j0, Bool.false_eq_true, if_false]
  exact int_l0 4 x [] h0 (by omega) (by decide)
theorem cat_l1 (xs : List (List Int)) (hx : xs.length < 1000) : ∀ (d i : Nat) (acc : List Int), d + i = xs.length → acc.length + (xs.drop i).flatten.length < 140737488355328 →
    Ev (fun k => slices_Concat_byte_byte.l1 k acc xs (xs.length : Int) (i : Int)) (acc ++ (xs.drop i).flatten)
  | 0, i, acc, hd, hl => by
    apply ev_succ
    have e1 : ¬ (i : Int) < (xs.length : Int) := by omega
    simp only [slices_Concat_byte_byte.l1, if_neg e1]
    rw [List.drop_eq_nil_of_le (by omega)]
    rw [List.flatten_nil, List.append_nil]
    exact Ev.now _
  | d + 1, i, acc, hd, hl => by
    apply ev_succ
    have hi : i < xs.length := by omega
    have e1 : (i : Int) < (xs.length : Int) := by omega
    have e2 : (0 : Int) ≤ (i : Int) := by omega
    rw [List.drop_eq_getElem_cons hi, List.flatten_cons] at hl ⊢
    rw [List.length_append] at hl
    have e3 : acc.length + (xs[i]).length < 140737488355328 := by omega
    simp only [slices_Concat_byte_byte.l1, if_pos e1, if_pos e2, rdL xs i hi, if_pos e3, w64 i (by omega)]
    have := cat_l1 xs hx d (i + 1) (acc ++ xs[i]) (by omega) (by rw [List.length_append]; omega)
    rw [List.append_assoc] at this
    exact this
theorem cat_l0 (xs : List (List Int)) (hx : xs.length < 1000) (r : List Int) (h : ∀ s : Nat, s < 140737488355328 → Ev (fun k => (slices_Grow_byte_byte.f () (s : Int)).bind fun t117 => (slices_Concat_byte_byte.l1 k t117 xs (xs.length : Int) 0)) r) :
    ∀ (d i s : Nat), d + i = xs.length → s + (xs.drop i).flatten.length < 140737488355328 →
    Ev (fun k => slices_Concat_byte_byte.l0 k xs (s : Int) xs (xs.length : Int) (i : Int)) r
  | 0, i, s, hd, hl => by
    apply ev_succ
    have e1 : ¬ (i : Int) < (xs.length : Int) := by omega
    simp only [slices_Concat_byte_byte.l0, if_neg e1]
    exact h s (by omega)
  | d + 1, i, s, hd, hl => by
    apply ev_succ
    have hi : i < xs.length := by omega
    have e1 : (i : Int) < (xs.length : Int) := by omega
    have e2 : (0 : Int) ≤ (i : Int) := by omega
    rw [List.drop_eq_getElem_cons hi, List.flatten_cons, List.length_append] at hl
    have e3 : wrap64 ((s : Int) + ((xs[i]).length : Int)) = ((s + (xs[i]).length : Nat) : Int) := by unfold wrap64; omega
    have e4 : ¬ ((s + (xs[i]).length : Nat) : Int) < 0 := by omega
    simp only [slices_Concat_byte_byte.l0, if_pos e1, if_pos e2, rdL xs i hi, e3, if_neg e4, w64 i (by omega)]
    exact cat_l0 xs hx r h d (i + 1) (s + (xs[i]).length) (by omega) (by omega)
theorem cat_ev (xs : List (List Int)) (hx : xs.length < 1000) (hl : xs.flatten.length < 140737488355328) : Ev (fun k => slices_Concat_byte_byte.f k xs) xs.flatten := by
  simp only [slices_Concat_byte_byte.f]
  refine cat_l0 xs hx _ (fun s hs => ?_) xs.length 0 0 (by omega) (by simpa using hl)
  have e1 : (0 : Int) ≤ (s : Int) := by omega
  have e2 : ((s : Int)).toNat < 140737488355328 := by omega
  simp only [slices_Grow_byte_byte.f, if_pos e1, if_pos e2, Option.bind_some]
  exact cat_l1 xs hx xs.length 0 [] (by omega) (by simpa using hl)
theorem bytes_ev (l : List Int) (h : l.length ≤ 1000) : Ev (fun k => octet_Bytes.f k l) (enc 4 (l.length : Int) ++ l) := by
  simp only [octet_Bytes.f]
  refine Ev.bind (int_ev (l.length : Int) (by omega) (by omega)) ?_
  have := enc_len 4 (l.length : Int)
  refine Ev.bind (cat_ev [enc 4 (l.length : Int), l] (by simp) (by simp; omega)) ?_
  simp only [List.flatten_cons, List.flatten_nil, List.append_nil]
  exact Ev.now _
def packed (xs : List (List Int)) : List Int := (xs.map (fun l => enc 4 (l.length : Int) ++ l)).flatten
theorem pack_l0 (xs : List (List Int)) (hx : xs.length < 1000) (hb : ∀ x ∈ xs, x.length ≤ 1000) : ∀ (d i : Nat) (acc : List Int), d + i = xs.length → acc.length + d * 1005 < 140737488355328 →
    Ev (fun k => octet_Pack.l0 k acc xs (xs.length : Int) (i : Int)) (acc ++ packed (xs.drop i))
  | 0, i, acc, hd, hl => by
    apply ev_succ
    have e1 : ¬ (i : Int) < (xs.length : Int) := by omega
    simp only [octet_Pack.l0, if_neg e1]
    rw [List.drop_eq_nil_of_le (by omega)]
    rw [show packed [] = [] from rfl, List.append_nil]
    exact Ev.now _
  | d + 1, i, acc, hd, hl => by
    apply ev_succ
    have hi : i < xs.length := by omega
    have e1 : (i : Int) < (xs.length : Int) := by omega
    have e2 : (0 : Int) ≤ (i : Int) := by omega
    have hb1 := hb xs[i] (List.getElem_mem hi)
    have hn := enc_len 4 ((xs[i]).length : Int)
    rw [List.drop_eq_getElem_cons hi]
    have e3 : acc.length + (enc 4 ((xs[i]).length : Int) ++ xs[i]).length < 140737488355328 := by rw [List.length_append]; omega
    simp only [octet_Pack.l0, if_pos e1, if_pos e2, rdL xs i hi]
    refine Ev.bind (bytes_ev xs[i] hb1) ?_
    simp only [if_pos e3, w64 i (by omega)]
    have := pack_l0 xs hx hb d (i + 1) (acc ++ (enc 4 ((xs[i]).length : Int) ++ xs[i])) (by omega) (by rw [List.length_append, List.length_append]; omega)
    rw [List.append_assoc] at this
    exact this
theorem pack_ev (xs : List (List Int)) (hx : xs.length < 1000) (hb : ∀ x ∈ xs, x.length ≤ 1000) : Ev (fun k => octet_Pack.f k xs) (packed xs) := by
  simp only [octet_Pack.f]
  exact pack_l0 xs hx hb xs.length 0 [] (by omega) (by simp; omega)
def kindB (kd num : Int) : Bool := if kd = 5 ∨ kd = 6 then decide (num ≥ 1) && decide (num ≤ 1000) else decide (num = 0)
def rightB (kd : Int) (n v w : List Int) (num : Int) : Bool :=
  decide ((n.length : Int) ≥ 1) && decide ((n.length : Int) ≤ 16) && decide ((v.length : Int) ≤ 64) && decide ((w.length : Int) ≤ 64) && decide (kd ≥ 1) && decide (kd ≤ 8) &&
  (decide ((v.length : Int) = 0) || decide (kd = 2) || decide (kd = 3)) && (decide ((w.length : Int) = 0) || decide (kd = 3)) && kindB kd num
theorem right3 (k : Nat) (x3 x4 x5 x62 : Bool) (kd : Int) (n v w : List Int) (num : Int) : kv_right.j3 (k + 1) x3 x4 x5 (num == 0) x62 kd n v w num = some (decide (kd ≥ 1) && decide (kd ≤ 8) && x3 && x4 && x5 && (if x62 = true then decide (num ≥ 1) && decide (num ≤ 1000) else decide (num = 0))) := by
  by_cases h1 : kd ≥ 1 <;> by_cases h2 : kd ≤ 8 <;> by_cases h3 : num ≥ 1 <;> cases x3 <;> cases x4 <;> cases x5 <;> cases x62 <;> simp [kv_right.j3, h1, h2, h3]
  all_goals by_cases h4 : num = 0 <;> simp [h4]
theorem right2 (k : Nat) (x3 x4 x5 : Bool) (kd : Int) (n v w : List Int) (num : Int) : kv_right.j2 (k + 2) x3 x4 x5 kd n v w num = some (decide (kd ≥ 1) && decide (kd ≤ 8) && x3 && x4 && x5 && kindB kd num) := by
  unfold kindB
  simp only [kv_right.j2]
  by_cases h5 : kd = 5
  · rw [if_pos h5, right3, if_pos (Or.inl h5), if_pos rfl]
  · rw [if_neg h5, right3]
    by_cases h6 : kd = 6
    · rw [if_pos (Or.inr h6), if_pos (by rw [h6]; rfl)]
    · rw [if_neg (show ¬ (kd == 6) = true by simpa using h6), if_neg (by omega)]
theorem right1 (k : Nat) (x3 x4 : Bool) (kd : Int) (n v w : List Int) (num : Int) : kv_right.j1 (k + 3) x3 x4 kd n v w num = some (decide (kd ≥ 1) && decide (kd ≤ 8) && x3 && x4 && (decide ((w.length : Int) = 0) || decide (kd = 3)) && kindB kd num) := by
  simp only [kv_right.j1]
  by_cases h5 : (w.length : Int) = 0
  · rw [if_pos h5, right2, decide_eq_true h5, Bool.true_or]
  · rw [if_neg h5, right2, decide_eq_false h5, Bool.false_or]; rfl
theorem right0 (k : Nat) (x3 : Bool) (kd : Int) (n v w : List Int) (num : Int) : kv_right.j0 (k + 4) x3 kd n v w num = some (decide (kd ≥ 1) && decide (kd ≤ 8) && x3 && (decide ((v.length : Int) = 0) || decide (kd = 2) || decide (kd = 3)) && (decide ((w.length : Int) = 0) || decide (kd = 3)) && kindB kd num) := by
  simp only [kv_right.j0]
  by_cases h5 : (v.length : Int) = 0
  · rw [if_pos h5, right1, decide_eq_true h5, Bool.true_or, Bool.true_or]
  · rw [if_neg h5, decide_eq_false h5, Bool.false_or]
    by_cases h6 : kd = 2
    · rw [if_pos h6, right1, decide_eq_true h6, Bool.true_or]
    · rw [if_neg h6, right1, decide_eq_false h6, Bool.false_or]; rfl
theorem right_ev (kd : Int) (n v w : List Int) (num : Int) : Ev (fun k => kv_right.f k kd n v w num) (rightB kd n v w num) := by
  refine ⟨4, fun k hk => ?_⟩
  obtain ⟨k, rfl⟩ : ∃ m, k = m + 4 := ⟨k - 4, by omega⟩
  unfold kv_right.f rightB
  simp only [right0]
  by_cases h1 : (n.length : Int) ≥ 1 <;> by_cases h2 : (n.length : Int) ≤ 16 <;> by_cases h3 : (v.length : Int) ≤ 64 <;> by_cases h4 : (w.length : Int) ≤ 64 <;> simp only [if_pos, h1, h2, h3, h4, decide_true, decide_false, Bool.and_true, Bool.true_and, Bool.and_false, Bool.false_and, if_false]
def opBytes (kd : Int) (n v w : List Int) (num : Int) : List Int := enc 4 kd ++ packed [n, v, w] ++ enc 4 num
theorem write_ev (kd : Int) (n v w : List Int) (num : Int) : Ev (fun k => kv_Write.f k kd n v w num) (if rightB kd n v w num = true then (opBytes kd n v w num, 0) else ([], 71)) := by
  simp only [kv_Write.f]
  refine Ev.bind (right_ev kd n v w num) ?_
  by_cases h : rightB kd n v w num = true
  · simp only [if_pos h]
    have hk : 1 ≤ kd ∧ kd ≤ 8 ∧ 0 ≤ num ∧ num ≤ 1000 ∧ n.length ≤ 16 ∧ v.length ≤ 64 ∧ w.length ≤ 64 := by
      unfold rightB at h
      simp only [Bool.and_eq_true, decide_eq_true_eq] at h
      obtain ⟨⟨⟨⟨⟨⟨⟨⟨a1, a2⟩, a3⟩, a4⟩, a5⟩, a6⟩, a7⟩, a8⟩, a9⟩ := h
      unfold kindB at a9
      refine ⟨a5, a6, ?_, ?_, by omega, by omega, by omega⟩
      · split at a9 <;> simp only [Bool.and_eq_true, decide_eq_true_eq] at a9 <;> omega
      · split at a9 <;> simp only [Bool.and_eq_true, decide_eq_true_eq] at a9 <;> omega
    obtain ⟨b1, b2, b3, b4, b5, b6, b7⟩ := hk
    refine Ev.bind (int_ev kd (by omega) (by omega)) ?_
    refine Ev.bind (int_ev num (by omega) (by omega)) ?_
    have hb : ∀ x ∈ [n, v, w], x.length ≤ 1000 := by
      intro x hx
      simp only [List.mem_cons, List.not_mem_nil, or_false] at hx
      rcases hx with rfl | rfl | rfl <;> omega
    refine Ev.bind (pack_ev [n, v, w] (by simp) hb) ?_
    have l1 := enc_len 4 kd
    have l2 := enc_len 4 num
    have l3 := enc_len 4 (n.length : Int)
    have l4 := enc_len 4 (v.length : Int)
    have l5 := enc_len 4 (w.length : Int)
    refine Ev.bind (cat_ev [enc 4 kd, packed [n, v, w], enc 4 num] (by simp) (by simp [packed]; omega)) ?_
    rw [show [enc 4 kd, packed [n, v, w], enc 4 num].flatten = opBytes kd n v w num by simp [opBytes]]
    exact Ev.now _
  · simp only [if_neg h]
    exact Ev.now _
theorem cmp_refl : ∀ a : List UInt8, Lib.compareBytes a a = 0
  | [] => rfl
  | a :: ar => by unfold Lib.compareBytes; rw [if_neg (by simp), if_neg (by simp)]; exact cmp_refl ar
theorem cmp_eq0 : ∀ a b : List UInt8, Lib.compareBytes a b = 0 → a = b
  | [], [], _ => rfl
  | [], _ :: _, h => by simp [Lib.compareBytes] at h
  | _ :: _, [], h => by simp [Lib.compareBytes] at h
  | a :: ar, b :: bs, h => by
    unfold Lib.compareBytes at h
    split at h
    · cases h
    · split at h
      · cases h
      · rw [cmp_eq0 ar bs h]
        congr 1
        rename_i h1 h2
        exact UInt8.le_antisymm (UInt8.not_lt.1 h2) (UInt8.not_lt.1 h1)
theorem cmp_neg : ∀ a b : List UInt8, Lib.compareBytes b a = - Lib.compareBytes a b
  | [], [] => rfl
  | [], _ :: _ => by simp [Lib.compareBytes]
  | _ :: _, [] => by simp [Lib.compareBytes]
  | a :: ar, b :: bs => by
    unfold Lib.compareBytes
    by_cases h1 : a < b
    · rw [if_neg (UInt8.lt_asymm h1), if_pos h1, if_pos h1]; rfl
    · by_cases h2 : b < a
      · rw [if_pos h2, if_neg h1, if_pos h2]
      · rw [if_neg h2, if_neg h1, if_neg h1, if_neg h2]; exact cmp_neg ar bs
theorem cmp_trans : ∀ a b c : List UInt8, Lib.compareBytes a b < 0 → Lib.compareBytes b c < 0 → Lib.compareBytes a c < 0
  | [], _, [], h1, h2 => by
    rename_i b
    cases b with
    | nil => simp [Lib.compareBytes] at h1
    | cons x xs => simp [Lib.compareBytes] at h2
  | [], _, _ :: _, _, _ => by simp [Lib.compareBytes]
  | _ :: _, [], _, h1, _ => by simp [Lib.compareBytes] at h1
  | _ :: _, _ :: _, [], _, h2 => by simp [Lib.compareBytes] at h2
  | a :: ar, b :: bs, c :: cs, h1, h2 => by
    unfold Lib.compareBytes at h1 h2 ⊢
    by_cases h : a < c
    · rw [if_pos h]; decide
    · rw [if_neg h]
      by_cases g : c < a
      · exfalso
        by_cases p : a < b
        · by_cases q : b < c
          · exact h (UInt8.lt_trans p q)
          · rw [if_neg q] at h2
            by_cases q' : c < b
            · rw [if_pos q'] at h2; omega
            · have : b = c := UInt8.le_antisymm (UInt8.not_lt.1 q') (UInt8.not_lt.1 q)
              subst this
              exact h p
        · rw [if_neg p] at h1
          by_cases p' : b < a
          · rw [if_pos p'] at h1; omega
          · have : a = b := UInt8.le_antisymm (UInt8.not_lt.1 p') (UInt8.not_lt.1 p)
            subst this
            rw [if_neg h, if_pos g] at h2; omega
      · rw [if_neg g]
        have : a = c := UInt8.le_antisymm (UInt8.not_lt.1 g) (UInt8.not_lt.1 h)
        subst this
        by_cases p : a < b
        · rw [if_neg (UInt8.lt_asymm p), if_pos p] at h2; omega
        · rw [if_neg p] at h1
          by_cases p' : b < a
          · rw [if_pos p'] at h1; omega
          · rw [if_neg p'] at h1
            rw [if_neg p', if_neg p] at h2
            exact cmp_trans ar bs cs h1 h2
theorem right_bounds {kd : Int} {n v w : List Int} {num : Int} (h : rightB kd n v w num = true) : 1 ≤ kd ∧ kd ≤ 8 ∧ 0 ≤ num ∧ num ≤ 1000 ∧ n.length ≤ 16 ∧ v.length ≤ 64 ∧ w.length ≤ 64 := by
  unfold rightB at h
  simp only [Bool.and_eq_true, decide_eq_true_eq] at h
  obtain ⟨⟨⟨⟨⟨⟨⟨⟨a1, a2⟩, a3⟩, a4⟩, a5⟩, a6⟩, a7⟩, a8⟩, a9⟩ := h
  unfold kindB at a9
  refine ⟨a5, a6, ?_, ?_, by omega, by omega, by omega⟩
  · split at a9 <;> simp only [Bool.and_eq_true, decide_eq_true_eq] at a9 <;> omega
  · split at a9 <;> simp only [Bool.and_eq_true, decide_eq_true_eq] at a9 <;> omega
def B7 (m : Nat) : Int := 128 ^ (m + 1)
theorem B7_div (m : Nat) (y : Int) (h : y < B7 (m + 1)) : y / 128 < B7 m := by
  have e : B7 (m + 1) = B7 m * 128 := Int.pow_succ _ _
  rw [e] at h
  exact Int.ediv_lt_of_lt_mul (by decide) h
theorem or128 (y : Int) (h0 : 0 ≤ y) : Go.bits .or .u8 (y % 256) 128 = y % 128 + 128 := by
  have key : ∀ n : Fin 256, Go.bits .or .u8 ((n.val : Nat) : Int) 128 = ((n.val : Nat) : Int) % 128 + 128 := by decide +kernel
  have h := key ⟨(y % 256).toNat, by omega⟩
  have e : (((y % 256).toNat : Nat) : Int) = y % 256 := by omega
  rw [show ((⟨(y % 256).toNat, by omega⟩ : Fin 256).val) = (y % 256).toNat from rfl, e] at h
  rw [h]; omega
theorem B7_0 : B7 0 = 128 := by decide +kernel
theorem ref_int : ∀ (n : Nat) (x : Int), n ≤ 4 → 0 ≤ x → x < B7 n → x ≤ 2147483647 → Ev (fun k => catenaryref01_Int.f k x) (enc n x, 0)
  | 0, x, hn, h0, h1, h2 => by
    rw [B7_0] at h1
    have e1 : ¬ x < 0 := by omega
    have e2 : decide (x > 2147483647) = false := decide_eq_false (by omega)
    have e3 : x < 128 := h1
    refine ev_succ (ev_succ ?_)
    simp only [catenaryref01_Int.f, if_neg e1, e2, catenaryref01_Int.j0, Bool.false_eq_true, if_false, if_pos e3]
    exact Ev.now _
  | n + 1, x, hn, h0, h1, h2 => by
    have e1 : ¬ x < 0 := by omega
    have e2 : decide (x > 2147483647) = false := decide_eq_false (by omega)
    by_cases hg : x ≥ 128
    · have e3 : ¬ x < 128 := by omega
      have e4 : wrap64 (Int.tdiv x 128) = x / 128 := by
        rw [Int.tdiv_eq_ediv_of_nonneg h0]; unfold wrap64; omega
      have e5 : (wrap64 (Int.tmod x 128 + 128)) % 256 = Go.bits .or .u8 (x % 256) 128 := by
        rw [or128 x h0, Int.tmod_eq_emod_of_nonneg h0]; unfold wrap64; omega
      have hl := enc_len n (x / 128)
      have e6 : ([Go.bits .or .u8 (x % 256) 128] : List Int).length + (enc n (x / 128)).length < 140737488355328 := by rw [List.length_singleton]; omega
      refine ev_succ (ev_succ ?_)
      simp only [catenaryref01_Int.f, if_neg e1, e2, catenaryref01_Int.j0, Bool.false_eq_true, if_false, if_neg e3, e4, e5]
      refine Ev.bind (ref_int n (x / 128) (by omega) (by omega) (B7_div n x h1) (by omega)) ?_
      simp only [Option.bind_some, if_pos e6, enc_pos n x hg]
      exact Ev.now _
    · have e3 : x < 128 := by omega
      refine ev_succ (ev_succ ?_)
      simp only [catenaryref01_Int.f, if_neg e1, e2, catenaryref01_Int.j0, Bool.false_eq_true, if_false, if_pos e3]
      rw [show enc (n + 1) x = [x % 256] by unfold enc; rw [if_neg hg]]
      exact Ev.now _
theorem ref_right (kd : Int) (n v w : List Int) (num : Int) : Ev (fun k => catenaryref07_RightOp.f k kd n v w num) (rightB kd n v w num) := by
  refine ⟨4, fun k hk => ?_⟩
  obtain ⟨k, rfl⟩ : ∃ m, k = m + 4 := ⟨k - 4, by omega⟩
  have jt : catenaryref07_RightOp.j0 (k + 4) true kd n v w num = some false := by simp only [catenaryref07_RightOp.j0, if_true]
  unfold catenaryref07_RightOp.f rightB
  dsimp only
  by_cases h1 : kd < 1
  · rw [if_pos h1, jt, decide_eq_false (show ¬ kd ≥ 1 by omega)]; simp
  rw [if_neg h1, decide_eq_true (show kd ≥ 1 by omega)]
  by_cases h2 : kd > 8
  · rw [if_pos h2, jt, decide_eq_false (show ¬ kd ≤ 8 by omega)]; simp
  rw [if_neg h2, decide_eq_true (show kd ≤ 8 by omega)]
  by_cases h3 : (n.length : Int) = 0
  · rw [if_pos h3, jt, decide_eq_false (show ¬ (n.length : Int) ≥ 1 by omega)]; simp
  rw [if_neg h3, decide_eq_true (show (n.length : Int) ≥ 1 by omega)]
  by_cases h4 : (n.length : Int) > 16
  · rw [if_pos h4, jt, decide_eq_false (show ¬ (n.length : Int) ≤ 16 by omega)]; simp
  rw [if_neg h4, decide_eq_true (show (n.length : Int) ≤ 16 by omega)]
  by_cases h5 : (v.length : Int) > 64
  · rw [if_pos h5, jt, decide_eq_false (show ¬ (v.length : Int) ≤ 64 by omega)]; simp
  rw [if_neg h5, decide_eq_true (show (v.length : Int) ≤ 64 by omega)]
  by_cases h6 : (w.length : Int) > 64
  · rw [decide_eq_true h6, jt, decide_eq_false (show ¬ (w.length : Int) ≤ 64 by omega)]; simp
  rw [decide_eq_false h6, decide_eq_true (show (w.length : Int) ≤ 64 by omega)]
  simp only [catenaryref07_RightOp.j0, catenaryref07_RightOp.j1, Bool.false_eq_true, if_false, Bool.true_and]
  unfold kindB
  clear h3 h4 h5 h6
  generalize (v.length : Int) = V
  generalize (w.length : Int) = W
  by_cases k2 : kd = 2
  · subst k2
    by_cases q : W = 0 <;> by_cases q2 : num = 0 <;> simp [q, q2]
  by_cases k3 : kd = 3
  · subst k3
    by_cases q2 : num = 0 <;> simp [q2]
  by_cases k5 : kd = 5
  · subst k5
    by_cases q : V = 0 <;> by_cases q2 : W = 0 <;> by_cases q3 : num ≥ 1 <;> simp [q, q2, q3]
  by_cases k6 : kd = 6
  · subst k6
    by_cases q : V = 0 <;> by_cases q2 : W = 0 <;> by_cases q3 : num ≥ 1 <;> simp [q, q2, q3]
  by_cases q : V = 0 <;> by_cases q2 : W = 0 <;> by_cases q3 : num = 0 <;> simp [q, q2, q3, k2, k3, k5, k6]
def cmpI (a b : List Int) : Int := Lib.compareBytes (strOfNums a).data.toList (strOfNums b).data.toList
theorem cmpI_self (a : List Int) : cmpI a a = 0 := cmp_refl _
theorem cmpI_neg (a b : List Int) : cmpI b a = - cmpI a b := cmp_neg _ _
theorem cmpI_trans {a b c : List Int} (h1 : cmpI a b < 0) (h2 : cmpI b c < 0) : cmpI a c < 0 := cmp_trans _ _ _ h1 h2
theorem cmpI_eq {a b : List Int} (h : cmpI a b = 0) (c : List Int) : cmpI a c = cmpI b c := by
  unfold cmpI at *
  rw [cmp_eq0 _ _ h]
theorem rdT (xs : List S40) (i : Nat) (h : i < xs.length) : rd_T40 xs (i : Int) = xs[i] := by
  unfold rd_T40
  rw [Int.toNat_natCast, List.getD_eq_getElem?_getD, List.getElem?_eq_getElem h]; rfl
theorem mid_eq (lo hi : Nat) (h : lo < hi) (hh : hi < 4611686018427387904) : wrap64 ((IntKind.u64.wrap (wrap64 ((lo : Int) + (hi : Int)))) / 2) = (((lo + hi) / 2 : Nat) : Int) := by
  have e : IntKind.u64.wrap (wrap64 ((lo : Int) + (hi : Int))) = (lo : Int) + hi := by
    simp only [IntKind.wrap, IntKind.bits, IntKind.signed, wrap64]
    simp
    omega
  rw [e]; unfold wrap64; omega
def Sorted (l : List S40) : Prop := l.Pairwise (fun x y => cmpI x.f0 y.f0 < 0)
theorem sorted_at {l : List S40} (hs : Sorted l) {i j : Nat} (hj : j < l.length) (hij : i < j) : cmpI (l[i]'(by omega)).f0 (l[j]).f0 < 0 := List.pairwise_iff_getElem.1 hs i j (by omega) hj hij
theorem search_l0 (l : List S40) (n : List Int) (hs : Sorted l) (hx : l.length < 1000000) : ∀ (d lo hi : Nat), hi - lo ≤ d → lo ≤ hi → hi ≤ l.length → (∀ j (h : j < l.length), j < lo → cmpI (l[j]).f0 n < 0) → (∀ j (h : j < l.length), hi ≤ j → ¬ cmpI (l[j]).f0 n < 0) →
    ∃ i : Nat, i ≤ l.length ∧ (∀ j (h : j < l.length), j < i → cmpI (l[j]).f0 n < 0) ∧ (∀ j (h : j < l.length), i ≤ j → ¬ cmpI (l[j]).f0 n < 0) ∧
      Ev (fun k => api_Lease_byte.l0 k l n (l.length : Int) (lo : Int) (hi : Int)) ((i : Int), (if h : i < l.length then cmpI (l[i]).f0 n == 0 else false))
  | d, lo, hi, hd, hlh, hhl, hlo, hhi => by
    by_cases hlt : lo < hi
    · have hm := mid_eq lo hi hlt (by omega)
      have hml : (lo + hi) / 2 < l.length := by omega
      have e1 : (lo : Int) < (hi : Int) := by omega
      have e2 : (0 : Int) ≤ (((lo + hi) / 2 : Nat) : Int) := by omega
      have e3 : (((lo + hi) / 2 : Nat) : Int) < (l.length : Int) := by omega
      have ed : lease_Do_1.f (l[(lo + hi) / 2]).f0 (l[(lo + hi) / 2]).f1 (l[(lo + hi) / 2]).f2 n = some (cmpI (l[(lo + hi) / 2]).f0 n) := rfl
      have ew : wrap64 ((((lo + hi) / 2 : Nat) : Int) + 1) = (((lo + hi) / 2 + 1 : Nat) : Int) := w64 _ (by omega)
      cases d with
      | zero => omega
      | succ d =>
        by_cases hc : cmpI (l[(lo + hi) / 2]).f0 n < 0
        · obtain ⟨i, h1, h2, h3, h4⟩ := search_l0 l n hs hx d ((lo + hi) / 2 + 1) hi (by omega) (by omega) hhl (fun j h hj => by
            by_cases hq : j = (lo + hi) / 2
            · subst hq; exact hc
            · exact cmpI_trans (sorted_at hs hml (by omega)) hc) hhi
          refine ⟨i, h1, h2, h3, ?_⟩
          refine ev_succ ?_
          simp only [api_Lease_byte.l0, if_pos e1, hm, if_pos e2, if_pos e3, rdT l _ hml, ed, Option.bind_some, if_pos hc, ew]
          exact h4
        · obtain ⟨i, h1, h2, h3, h4⟩ := search_l0 l n hs hx d lo ((lo + hi) / 2) (by omega) (by omega) (by omega) hlo (fun j h hj hq => by
            by_cases hq2 : j = (lo + hi) / 2
            · subst hq2; exact hc hq
            · exact hc (cmpI_trans (sorted_at hs h (by omega)) hq))
          refine ⟨i, h1, h2, h3, ?_⟩
          refine ev_succ ?_
          simp only [api_Lease_byte.l0, if_pos e1, hm, if_pos e2, if_pos e3, rdT l _ hml, ed, Option.bind_some, if_neg hc]
          exact h4
    · have : lo = hi := by omega
      subst this
      have e1 : ¬ (lo : Int) < (lo : Int) := by omega
      refine ⟨lo, hhl, hlo, hhi, ?_⟩
      refine ev_succ ?_
      by_cases hl : lo < l.length
      · have e2 : (lo : Int) < (l.length : Int) := by omega
        have e3 : (0 : Int) ≤ (lo : Int) := by omega
        have ed : lease_Do_1.f (l[lo]).f0 (l[lo]).f1 (l[lo]).f2 n = some (cmpI (l[lo]).f0 n) := rfl
        simp only [api_Lease_byte.l0, if_neg e1, if_pos e2, if_pos e3, rdT l lo hl, ed, Option.bind_some, dif_pos hl]
        exact Ev.now _
      · have e2 : ¬ (lo : Int) < (l.length : Int) := by omega
        simp only [api_Lease_byte.l0, if_neg e1, if_neg e2, dif_neg hl]
        exact Ev.now _
theorem search_ev (l : List S40) (n : List Int) (hs : Sorted l) (hx : l.length < 1000000) :
    ∃ i : Nat, i ≤ l.length ∧ (∀ j (h : j < l.length), j < i → cmpI (l[j]).f0 n < 0) ∧ (∀ j (h : j < l.length), i ≤ j → ¬ cmpI (l[j]).f0 n < 0) ∧
      Ev (fun k => api_Lease_byte.f k l n ()) ((i : Int), (if h : i < l.length then cmpI (l[i]).f0 n == 0 else false)) := by
  simp only [api_Lease_byte.f]
  exact search_l0 l n hs hx l.length 0 l.length (by omega) (by omega) (Nat.le_refl _) (fun j _ h => absurd h (by omega)) (fun j h hj => absurd h (by omega))
def okL (x : S40) : Prop := (1 ≤ x.f0.length ∧ x.f0.length ≤ 16) ∧ (1 ≤ x.f1 ∧ x.f1 ≤ 4) ∧ 1 ≤ x.f2 ∧ x.f2 ≤ 2147483647
def goodAt (l : List S40) (i : Nat) (h : i < l.length) : Prop := okL (l[i]) ∧ ∀ _ : 0 < i, cmpI (l[i - 1]'(by omega)).f0 (l[i]).f0 < 0
def RightL (l : List S40) : Prop := (∀ x ∈ l, okL x) ∧ Sorted l ∧ l.length ≤ 16
theorem client_is (a : Int) : lease_client.f a = some (decide (1 ≤ a ∧ a ≤ 4)) := by
  unfold lease_client.f
  by_cases h : a ≥ 1
  · rw [if_pos h]
    by_cases h2 : a ≤ 4
    · rw [decide_eq_true h2, decide_eq_true ⟨h, h2⟩]
    · rw [decide_eq_false h2, decide_eq_false (fun q => h2 q.2)]
  · rw [if_neg h, decide_eq_false (fun q => h q.1)]
theorem right_l0 (l : List S40) (hx : l.length < 1000000000000000) : ∀ (d i : Nat), d + i = l.length → (Ev (fun k => lease_Right.l0 k l l (l.length : Int) (i : Int)) true ∧ (∀ j h, i ≤ j → goodAt l j h) ∧ l.length ≤ 16) ∨ (Ev (fun k => lease_Right.l0 k l l (l.length : Int) (i : Int)) false ∧ ¬ ((∀ j h, i ≤ j → goodAt l j h) ∧ l.length ≤ 16))
  | 0, i, hd => by
    have e1 : ¬ (i : Int) < (l.length : Int) := by omega
    by_cases hl : (l.length : Int) ≤ 16
    · refine Or.inl ⟨ev_succ ?_, fun j h hj => absurd h (by omega), by omega⟩
      simp only [lease_Right.l0, if_neg e1, decide_eq_true hl]
      exact Ev.now _
    · refine Or.inr ⟨ev_succ ?_, fun h => hl (by have := h.2; omega)⟩
      simp only [lease_Right.l0, if_neg e1, decide_eq_false hl]
      exact Ev.now _
  | d + 1, i, hd => by
    have hi : i < l.length := by omega
    have e1 : (i : Int) < (l.length : Int) := by omega
    have e2 : (0 : Int) ≤ (i : Int) := by omega
    have ew : wrap64 ((i : Int) + 1) = ((i + 1 : Nat) : Int) := w64 i (by omega)
    have jt : Ev (fun k => lease_Right.j1 k l l (l.length : Int) (i : Int) true) false := by
      refine ev_succ ?_
      simp only [lease_Right.j1, if_true]
      exact Ev.now _
    have jf : ∀ r, Ev (fun k => lease_Right.l0 k l l (l.length : Int) ((i + 1 : Nat) : Int)) r → Ev (fun k => lease_Right.j1 k l l (l.length : Int) (i : Int) false) r := by
      intro r h
      refine ev_succ ?_
      simp only [lease_Right.j1, Bool.false_eq_true, if_false, ew]
      exact h
    have body : (¬ goodAt l i hi → Ev (fun k => lease_Right.l0 k l l (l.length : Int) (i : Int)) false) ∧ (goodAt l i hi → ∀ r, Ev (fun k => lease_Right.l0 k l l (l.length : Int) ((i + 1 : Nat) : Int)) r → Ev (fun k => lease_Right.l0 k l l (l.length : Int) (i : Int)) r) := by
      have key : ∀ r, (¬ goodAt l i hi → Ev (fun k => lease_Right.j1 k l l (l.length : Int) (i : Int) true) r) → (goodAt l i hi → Ev (fun k => lease_Right.j1 k l l (l.length : Int) (i : Int) false) r) → Ev (fun k => lease_Right.l0 k l l (l.length : Int) (i : Int)) r := by
        intro r hb hg
        refine ev_succ ?_
        simp only [lease_Right.l0, if_pos e1, if_pos e2, rdT l i hi, client_is, Option.bind_some, decide_eq_true_eq]
        by_cases a1 : ((l[i]).f0.length : Int) < 1
        · simp only [if_pos a1]; exact hb (fun g => by have := g.1.1.1; omega)
        simp only [if_neg a1]
        by_cases a2 : ((l[i]).f0.length : Int) > 16
        · simp only [if_pos a2]; exact hb (fun g => by have := g.1.1.2; omega)
        simp only [if_neg a2]
        by_cases a3 : 1 ≤ (l[i]).f1 ∧ (l[i]).f1 ≤ 4
        · simp only [if_pos a3]
          by_cases a4 : (l[i]).f2 < 1
          · simp only [if_pos a4]; exact hb (fun g => by have := g.1.2.2.1; omega)
          simp only [if_neg a4]
          by_cases a5 : (l[i]).f2 > 2147483647
          · simp only [if_pos a5]; exact hb (fun g => by have := g.1.2.2.2; omega)
          simp only [if_neg a5]
          have ok : okL (l[i]) := ⟨⟨by omega, by omega⟩, a3, by omega, by omega⟩
          by_cases a6 : (i : Int) > 0
          · have ei : wrap64 ((i : Int) - 1) = ((i - 1 : Nat) : Int) := by unfold wrap64; omega
            have e3 : (0 : Int) ≤ ((i - 1 : Nat) : Int) := by omega
            have e4 : ((i - 1 : Nat) : Int) < (l.length : Int) := by omega
            have ec : bytes_Compare.f (l[i]).f0 (l[i - 1]).f0 = some (cmpI (l[i]).f0 (l[i - 1]).f0) := rfl
            simp only [if_pos a6, ei, if_pos e3, if_pos e4, rdT l (i - 1) (by omega), ec, Option.bind_some]
            have en := cmpI_neg (l[i - 1]).f0 (l[i]).f0
            by_cases a7 : cmpI (l[i]).f0 (l[i - 1]).f0 ≤ 0
            · simp only [decide_eq_true a7]; exact hb (fun g => by have := g.2 (by omega); omega)
            · simp only [decide_eq_false a7]; exact hg ⟨ok, fun _ => by omega⟩
          · simp only [if_neg a6]
            exact hg ⟨ok, fun h => absurd h (by omega)⟩
        · simp only [if_neg a3]; exact hb (fun g => a3 g.1.2.1)
      exact ⟨fun hb => key false (fun _ => jt) (fun g => absurd g hb), fun hg r h => key r (fun hb => absurd hg hb) (fun _ => jf r h)⟩
    by_cases hg : goodAt l i hi
    · rcases right_l0 l hx d (i + 1) (by omega) with ⟨h1, h2, h3⟩ | ⟨h1, h2⟩
      · refine Or.inl ⟨body.2 hg _ h1, fun j h hj => ?_, h3⟩
        by_cases hq : j = i
        · subst hq; exact hg
        · exact h2 j h (by omega)
      · exact Or.inr ⟨body.2 hg _ h1, fun h => h2 ⟨fun j hj hij => h.1 j hj (by omega), h.2⟩⟩
    · exact Or.inr ⟨body.1 hg, fun h => hg (h.1 i hi (Nat.le_refl _))⟩
theorem all_good (l : List S40) : ((∀ j h, 0 ≤ j → goodAt l j h) ∧ l.length ≤ 16) ↔ RightL l := by
  constructor
  · intro ⟨h1, h2⟩
    refine ⟨fun x hx => ?_, ?_, h2⟩
    · obtain ⟨j, hj, rfl⟩ := List.mem_iff_getElem.1 hx
      exact (h1 j hj (Nat.zero_le _)).1
    · refine List.pairwise_iff_getElem.2 ?_
      have step : ∀ d i (h : i + d + 1 < l.length), cmpI (l[i]'(by omega)).f0 (l[i + d + 1]).f0 < 0 := by
        intro d
        induction d with
        | zero => intro i h; exact (h1 (i + 0 + 1) h (Nat.zero_le _)).2 (by omega)
        | succ d ih =>
          intro i h
          exact cmpI_trans (ih i (by omega)) ((h1 (i + (d + 1) + 1) h (Nat.zero_le _)).2 (by omega))
      intro i j hi hj hij
      obtain ⟨d, rfl⟩ : ∃ d, j = i + d + 1 := ⟨j - i - 1, by omega⟩
      exact step d i hj
  · intro ⟨h1, h2, h3⟩
    refine ⟨fun j h _ => ⟨h1 _ (List.getElem_mem h), fun h0 => sorted_at h2 h (by omega)⟩, h3⟩
theorem Right_ev (l : List S40) (hx : l.length < 1000000000000000) : (Ev (fun k => lease_Right.f k l) true ∧ RightL l) ∨ (Ev (fun k => lease_Right.f k l) false ∧ ¬ RightL l) := by
  simp only [lease_Right.f]
  rcases right_l0 l hx l.length 0 (by omega) with ⟨h1, h2⟩ | ⟨h1, h2⟩
  · exact Or.inl ⟨h1, (all_good l).1 h2⟩
  · exact Or.inr ⟨h1, fun h => h2 ((all_good l).2 h)⟩
def live (now : Int) (l : List S40) : List S40 := l.filter (fun x => decide (x.f2 > now))
theorem clone_ok (x : S40) (h : x.f0.length < 140737488355328) : lease_clone.f x.f0 x.f1 x.f2 = some (x.f0, x.f1, x.f2) := by
  unfold lease_clone.f slices_Clone_byte_byte.f
  rw [if_pos h]; rfl
theorem do_loop (l : List S40) (hx : l.length < 3518437208883) (hn : ∀ x ∈ l, x.f0.length < 140737488355328) (who now : Int) (ok : Bool) (kd : Int) (n v w : List Int) (num : Int) (r : List S40 × Int × List Int) :
    ∀ (d i : Nat) (acc : List S40), d + i = l.length → acc.length ≤ i → Ev (fun k => lease_Do.l0 k who now (acc ++ (l.drop i).filter (fun x => !ok || decide (x.f2 > now))) ok l (l.length : Int) (l.length : Int) kd n v w num) r →
    Ev (fun k => lease_Do.l0 k who now acc ok l (l.length : Int) (i : Int) kd n v w num) r
  | 0, i, acc, hd, ha, h => by
    have : i = l.length := by omega
    subst this
    rw [List.drop_length, List.filter_nil, List.append_nil] at h
    exact h
  | d + 1, i, acc, hd, ha, h => by
    have hi : i < l.length := by omega
    have e1 : (i : Int) < (l.length : Int) := by omega
    have e2 : (0 : Int) ≤ (i : Int) := by omega
    have e3 : acc.length < 3518437208883 := by omega
    have ew : wrap64 ((i : Int) + 1) = ((i + 1 : Nat) : Int) := w64 i (by omega)
    have hc := clone_ok (l[i]) (hn _ (List.getElem_mem hi))
    rw [List.drop_eq_getElem_cons hi] at h
    have take : (!ok || decide ((l[i]).f2 > now)) = true → Ev (fun k => lease_Do.j2 k who now acc ok l (l.length : Int) (i : Int) true kd n v w num (l[i]).f0 (l[i]).f1 (l[i]).f2) r := by
      intro hb
      rw [List.filter_cons_of_pos (by simpa using hb)] at h
      refine ev_succ ?_
      simp only [lease_Do.j2, if_true, hc, Option.bind_some, if_pos e3, ew]
      refine do_loop l hx hn who now ok kd n v w num r d (i + 1) _ (by omega) (by rw [List.length_append, List.length_singleton]; omega) ?_
      rw [List.append_assoc, List.singleton_append]
      exact h
    have skip : (!ok || decide ((l[i]).f2 > now)) = false → Ev (fun k => lease_Do.j2 k who now acc ok l (l.length : Int) (i : Int) false kd n v w num (l[i]).f0 (l[i]).f1 (l[i]).f2) r := by
      intro hb
      rw [List.filter_cons_of_neg (by simpa using hb)] at h
      refine ev_succ ?_
      simp only [lease_Do.j2, Bool.false_eq_true, if_false, ew]
      exact do_loop l hx hn who now ok kd n v w num r d (i + 1) _ (by omega) (by omega) h
    refine ev_succ ?_
    simp only [lease_Do.l0, if_pos e1, if_pos e2, rdT l i hi]
    cases ok with
    | false =>
      simp only [Bool.false_eq_true, if_false]
      exact take rfl
    | true =>
      simp only [if_true]
      by_cases hl : (l[i]).f2 > now
      · have gd : ∀ q : Decidable ((l[i]).f2 > now), @decide _ q = true := fun q => decide_eq_true hl
        simp only [gd]
        exact take (by simpa using hl)
      · have gd : ∀ q : Decidable ((l[i]).f2 > now), @decide _ q = false := fun q => decide_eq_false hl
        simp only [gd]
        exact skip (by simpa using hl)
theorem do_bad (l : List S40) (hx : l.length < 3518437208883) (hn : ∀ x ∈ l, x.f0.length < 140737488355328) (who now : Int) (kd : Int) (n v w : List Int) (num : Int) : Ev (fun k => lease_Do.j0 k l who now [] false kd n v w num) (l, 5, []) := by
  refine ev_succ ?_
  simp only [lease_Do.j0]
  refine do_loop l hx hn who now false kd n v w num _ l.length 0 [] (by omega) (Nat.le_refl _) ?_
  have ef : ([] : List S40) ++ (l.drop 0).filter (fun x => !false || decide (x.f2 > now)) = l := by
    rw [List.drop_zero, List.nil_append]
    exact List.filter_eq_self.2 (fun _ _ => rfl)
  rw [ef]
  refine ev_succ ?_
  simp only [lease_Do.l0, Int.lt_irrefl, if_false, Bool.false_eq_true]
  exact Ev.now _
theorem live_right {l : List S40} (h : RightL l) (now : Int) : RightL (live now l) := by
  refine ⟨fun x hx => h.1 x (List.mem_filter.1 hx).1, List.Pairwise.filter _ h.2.1, Nat.le_trans (List.length_filter_le _ _) h.2.2⟩
def okDo (l : List S40) (kd : Int) (n v w : List Int) (num who now : Int) : Prop := RightL l ∧ rightB kd n v w num = true ∧ kd ≥ 5 ∧ (1 ≤ who ∧ who ≤ 4) ∧ 0 ≤ now ∧ now ≤ 2147482647
theorem do_any (l : List S40) (hx : l.length < 3518437208883) (hn : ∀ x ∈ l, x.f0.length < 140737488355328) (who now : Int) (kd : Int) (n v w : List Int) (num : Int) (r : List S40 × Int × List Int)
    (hg : okDo l kd n v w num who now → Ev (fun k => lease_Do.l0 k who now (live now l) true l (l.length : Int) (l.length : Int) kd n v w num) r) (hb : ¬ okDo l kd n v w num who now → r = (l, 5, [])) :
    Ev (fun k => lease_Do.f k l kd n v w num who now) r := by
  have bad : ¬ okDo l kd n v w num who now → Ev (fun k => lease_Do.j0 k l who now [] false kd n v w num) r := by
    intro h
    rw [hb h]
    exact do_bad l hx hn who now kd n v w num
  simp only [lease_Do.f]
  refine Ev.bind (write_ev kd n v w num) ?_
  rcases Right_ev l (by omega) with ⟨h1, h2⟩ | ⟨h1, h2⟩
  · refine Ev.bind h1 ?_
    by_cases b1 : rightB kd n v w num = true
    · by_cases b2 : kd ≥ 5
      · by_cases b3 : 1 ≤ who ∧ who ≤ 4
        · by_cases b4 : now ≥ 0
          · by_cases b5 : now ≤ 2147482647
            · simp only [if_true, if_pos b1, if_pos b2, client_is, decide_eq_true b3, Option.bind_some, if_pos b4, decide_eq_true b5]
              refine ev_succ ?_
              simp only [lease_Do.j0]
              refine do_loop l hx hn who now true kd n v w num _ l.length 0 [] (by omega) (Nat.le_refl _) ?_
              have ef : ([] : List S40) ++ (l.drop 0).filter (fun x => !true || decide (x.f2 > now)) = live now l := by
                rw [List.drop_zero, List.nil_append]; rfl
              rw [ef]
              exact hg ⟨h2, b1, b2, b3, b4, b5⟩
            · simp only [if_true, if_pos b1, if_pos b2, client_is, decide_eq_true b3, Option.bind_some, if_pos b4, decide_eq_false b5]
              exact bad (fun h => b5 h.2.2.2.2.2)
          · simp only [if_true, if_pos b1, if_pos b2, client_is, decide_eq_true b3, Option.bind_some, if_neg b4]
            exact bad (fun h => b4 h.2.2.2.2.1)
        · simp only [if_true, if_pos b1, if_pos b2, client_is, decide_eq_false b3, Option.bind_some, Bool.false_eq_true, if_false]
          exact bad (fun h => b3 h.2.2.2.1)
      · simp only [if_true, if_pos b1, if_neg b2]
        exact bad (fun h => b2 h.2.2.1)
    · simp only [if_true, if_neg b1, show ¬ ((71 : Int) = 0) by decide, if_false]
      exact bad (fun h => b1 h.2.1)
  · refine Ev.bind h1 ?_
    simp only [Bool.false_eq_true, if_false]
    exact bad (fun h => h2 h.1)
def eqB (a b : List Int) : Bool := (strOfNums a).toList == (strOfNums b).toList
theorem eqB_iff (a b : List Int) : eqB a b = true ↔ cmpI a b = 0 := by
  unfold eqB cmpI
  rw [Go.Lib.strOfNums_toList, Go.Lib.strOfNums_toList, beq_iff_eq]
  constructor
  · intro h
    show Lib.compareBytes (Go.Lib.bytesOf a) (Go.Lib.bytesOf b) = 0
    rw [h]; exact cmp_refl _
  · intro h
    exact cmp_eq0 _ _ h
def hq (n : List Int) (now : Int) (x : S40) : Bool := eqB x.f0 n && decide (x.f2 > now)
def hold (l : List S40) (n : List Int) (now : Int) : Int × Int := match l.find? (hq n now) with
  | some x => (x.f1, wrap64 (x.f2 - now))
  | none => (0, 0)
theorem holder_l0 (l : List S40) (hx : l.length < 1000000000000000) (n : List Int) (now : Int) : ∀ (d i : Nat), d + i = l.length → Ev (fun k => lease_Holder.l0 k n now l (l.length : Int) (i : Int)) (hold (l.drop i) n now)
  | 0, i, hd => by
    have e1 : ¬ (i : Int) < (l.length : Int) := by omega
    refine ev_succ ?_
    simp only [lease_Holder.l0, if_neg e1]
    rw [List.drop_eq_nil_of_le (by omega)]
    exact Ev.now _
  | d + 1, i, hd => by
    have hi : i < l.length := by omega
    have e1 : (i : Int) < (l.length : Int) := by omega
    have e2 : (0 : Int) ≤ (i : Int) := by omega
    have ew : wrap64 ((i : Int) + 1) = ((i + 1 : Nat) : Int) := w64 i (by omega)
    have ih := holder_l0 l hx n now d (i + 1) (by omega)
    have ee : bytes_Equal.f (l[i]).f0 n = some (eqB (l[i]).f0 n) := rfl
    rw [List.drop_eq_getElem_cons hi]
    refine ev_succ (ev_succ ?_)
    by_cases a1 : eqB (l[i]).f0 n = true
    · by_cases a2 : (l[i]).f2 > now
      · have gd : ∀ q : Decidable ((l[i]).f2 > now), @decide _ q = true := fun q => decide_eq_true a2
        simp only [lease_Holder.l0, lease_Holder.j1, if_pos e1, if_pos e2, rdT l i hi, ee, Option.bind_some, if_pos a1, gd, if_true]
        have : hold (l[i] :: l.drop (i + 1)) n now = ((l[i]).f1, wrap64 ((l[i]).f2 - now)) := by
          unfold hold
          rw [List.find?_cons_of_pos (by unfold hq; rw [a1]; simpa using a2)]
        rw [this]
        exact Ev.now _
      · have gd : ∀ q : Decidable ((l[i]).f2 > now), @decide _ q = false := fun q => decide_eq_false a2
        simp only [lease_Holder.l0, lease_Holder.j1, if_pos e1, if_pos e2, rdT l i hi, ee, Option.bind_some, if_pos a1, gd, Bool.false_eq_true, if_false, ew]
        have : hold (l[i] :: l.drop (i + 1)) n now = hold (l.drop (i + 1)) n now := by
          unfold hold
          rw [List.find?_cons_of_neg (by unfold hq; simp [a2])]
        rw [this]
        exact ih
    · have a1' : eqB (l[i]).f0 n = false := by simpa using a1
      simp only [lease_Holder.l0, lease_Holder.j1, if_pos e1, if_pos e2, rdT l i hi, ee, a1', Option.bind_some, Bool.false_eq_true, if_false, ew]
      have : hold (l[i] :: l.drop (i + 1)) n now = hold (l.drop (i + 1)) n now := by
        unfold hold
        rw [List.find?_cons_of_neg (by unfold hq; simp [a1'])]
      rw [this]
      exact ih
theorem holder_ev (l : List S40) (hx : l.length < 1000000000000000) (n : List Int) (now : Int) : Ev (fun k => lease_Holder.f k l n now) (hold l n now) := by
  simp only [lease_Holder.f]
  exact holder_l0 l hx n now l.length 0 (by omega)
theorem told_ev (a b : Int) (ha0 : 0 ≤ a) (ha : a ≤ 2147483647) (hb0 : 0 ≤ b) (hb : b ≤ 2147483647) : Ev (fun k => lease_told.f k a b) (enc 4 a ++ enc 4 b) := by
  have l1 := enc_len 4 a
  have l2 := enc_len 4 b
  simp only [lease_told.f]
  refine Ev.bind (int_ev a ha0 ha) ?_
  refine Ev.bind (int_ev b hb0 hb) ?_
  simp only [if_pos (show (enc 4 a).length + (enc 4 b).length < 140737488355328 by omega)]
  exact Ev.now _
def holdO (now : Int) : Option S40 → Int × Int
  | some x => (x.f1, wrap64 (x.f2 - now))
  | none => (0, 0)
theorem hold_eq (l : List S40) (n : List Int) (now : Int) : hold l n now = holdO now (l.find? (hq n now)) := by
  unfold hold holdO
  cases l.find? (hq n now) <;> rfl
def LAt (l : List S40) (n : List Int) (i : Nat) : Prop := i ≤ l.length ∧ (∀ j (h : j < l.length), j < i → cmpI (l[j]).f0 n < 0) ∧ (∀ j (h : j < l.length), i ≤ j → ¬ cmpI (l[j]).f0 n < 0)
theorem At_uniq {l : List S40} {n : List Int} {i i' : Nat} (h : LAt l n i) (h' : LAt l n i') : i = i' := by
  rcases Nat.lt_trichotomy i i' with g | g | g
  · exact absurd (h'.2.1 i (by have := h'.1; omega) g) (h.2.2 i (by have := h'.1; omega) (Nat.le_refl _))
  · exact g
  · exact absurd (h.2.1 i' (by have := h.1; omega) g) (h'.2.2 i' (by have := h.1; omega) (Nat.le_refl _))
theorem At_mk {A C : List S40} {n : List Int} {i : Nat} (hi : A.length = i) (hA : ∀ x ∈ A, cmpI x.f0 n < 0) (hC : ∀ x ∈ C, ¬ cmpI x.f0 n < 0) : LAt (A ++ C) n i := by
  subst hi
  refine ⟨by rw [List.length_append]; omega, fun j h hj => ?_, fun j h hj => ?_⟩
  · rw [List.getElem_append_left hj]; exact hA _ (List.getElem_mem hj)
  · rw [List.getElem_append_right hj]; exact hC _ (List.getElem_mem _)
theorem At_take {l : List S40} {n : List Int} {i : Nat} (h : LAt l n i) : ∀ x ∈ l.take i, cmpI x.f0 n < 0 := by
  intro x hx
  obtain ⟨j, hj, rfl⟩ := List.mem_iff_getElem.1 hx
  rw [List.length_take] at hj
  rw [List.getElem_take]
  exact h.2.1 j (by omega) (by omega)
theorem At_above {l : List S40} {n : List Int} {i : Nat} (hs : Sorted l) (h : LAt l n i) (hb : ∀ h : i < l.length, cmpI (l[i]).f0 n ≠ 0) : ∀ x ∈ l.drop i, cmpI n x.f0 < 0 := by
  intro x hx
  obtain ⟨j, hj, rfl⟩ := List.mem_iff_getElem.1 hx
  rw [List.length_drop] at hj
  rw [List.getElem_drop]
  have g1 := h.2.2 (i + j) (by omega) (by omega)
  have g2 := cmpI_neg n (l[i + j]'(by omega)).f0
  have g3 : cmpI (l[i + j]'(by omega)).f0 n ≠ 0 := by
    intro g
    by_cases hj0 : j = 0
    · subst hj0; exact hb (by omega) g
    · have s := sorted_at hs (i := i) (j := i + j) (by omega) (by omega)
      have g4 := h.2.2 i (by omega) (Nat.le_refl _)
      have g5 := cmpI_neg (l[i]'(by omega)).f0 (l[i + j]'(by omega)).f0
      rw [cmpI_eq g] at g5
      have g6 := cmpI_neg n (l[i]'(by omega)).f0
      omega
  omega
theorem above_not {n : List Int} {C : List S40} (h : ∀ x ∈ C, cmpI n x.f0 < 0) : ∀ x ∈ C, ¬ cmpI x.f0 n < 0 := by
  intro x hx
  have := h x hx
  have := cmpI_neg n x.f0
  omega
theorem k_split (L : List S40) (i : Nat) (h : i < L.length) : L = L.take i ++ (L[i] :: L.drop (i + 1)) := by
  rw [← List.drop_eq_getElem_cons h, List.take_append_drop]
def Dec (A : List S40) (P : Option S40) (D : List S40) (n : List Int) : Prop :=
  (∀ x ∈ A, cmpI x.f0 n < 0) ∧ (∀ e, P = some e → cmpI e.f0 n = 0) ∧ (∀ x ∈ D, cmpI n x.f0 < 0)
theorem Dec_at {A D : List S40} {P : Option S40} {n : List Int} (h : Dec A P D n) : LAt (A ++ (P.toList ++ D)) n A.length := by
  refine At_mk rfl h.1 (fun x hx => ?_)
  rcases List.mem_append.1 hx with g | g
  · have := h.2.1 x (by simpa using g)
    omega
  · exact above_not h.2.2 x g
theorem getM (A B : List S40) (a : S40) (h : A.length < (A ++ (a :: B)).length) : (A ++ (a :: B))[A.length] = a := by
  rw [List.getElem_append_right (Nat.le_refl _)]; simp
theorem takeM (A B : List S40) : (A ++ B).take A.length = A := by rw [List.take_append_of_le_length (Nat.le_refl _), List.take_of_length_le (Nat.le_refl _)]
theorem dropM (A B : List S40) (a : S40) : (A ++ (a :: B)).drop (A.length + 1) = B := by
  rw [List.drop_append, List.drop_of_length_le (by omega), show A.length + 1 - A.length = 1 by omega]; rfl
theorem l_split (l : List S40) (hs : Sorted l) (hl : l.length < 1000000) (n : List Int) : ∃ A P D, l = A ++ (P.toList ++ D) ∧ Dec A P D n := by
  obtain ⟨i, hi, hlo, hhi, _⟩ := search_ev l n hs hl
  have hat : LAt l n i := ⟨hi, hlo, hhi⟩
  by_cases hc : ∃ h : i < l.length, cmpI (l[i]).f0 n = 0
  · obtain ⟨h, hc⟩ := hc
    refine ⟨l.take i, some (l[i]), l.drop (i + 1), k_split l i h, At_take hat, fun e he => ?_, fun x hx => ?_⟩
    · cases he; exact hc
    · obtain ⟨j, hj, rfl⟩ := List.mem_iff_getElem.1 hx
      rw [List.length_drop] at hj
      rw [List.getElem_drop]
      have s := sorted_at hs (i := i) (j := i + 1 + j) (by omega) (by omega)
      rw [cmpI_eq hc] at s
      exact s
  · refine ⟨l.take i, none, l.drop i, (List.take_append_drop i l).symm, At_take hat, (fun e he => by cases he), At_above hs hat (fun h g => hc ⟨h, g⟩)⟩
def toldB (e : S40) (now : Int) : List Int := enc 4 e.f1 ++ enc 4 (e.f2 - now)
def lres (A D : List S40) (P : Option S40) (nm : List Int) (who now kd : Int) (n : List Int) (num : Int) : List S40 × Int × List Int := match P with
  | none => if kd = 5 then (if (A ++ D).length = 16 then (A ++ D, 3, []) else (A ++ (⟨n, who, now + num⟩ :: D), 0, [])) else (A ++ D, 1, [])
  | some e => if kd = 8 then (A ++ (e :: D), 0, toldB e now) else if e.f1 = who then (if kd = 7 then (A ++ D, 0, []) else (A ++ (⟨nm, who, now + num⟩ :: D), 0, [])) else (A ++ (e :: D), 4, toldB e now)
def nameOf (P : Option S40) : List Int := match P with
  | none => []
  | some e => e.f0
theorem ltail (l A D : List S40) (P : Option S40) (hL : RightL (A ++ (P.toList ++ D))) (who now : Int) (hv : ∀ x ∈ A ++ (P.toList ++ D), x.f2 > now) (kd : Int) (n v w : List Int) (num : Int) (hd : Dec A P D n) (hr : rightB kd n v w num = true) (h5 : kd ≥ 5) (h0 : 0 ≤ now) (h1 : now ≤ 2147482647) :
    Ev (fun k => lease_Do.l0 k who now (A ++ (P.toList ++ D)) true l (l.length : Int) (l.length : Int) kd n v w num) (lres A D P (nameOf P) who now kd n num) := by
  obtain ⟨b1, b2, b3, b4, b5, b6, b7⟩ := right_bounds hr
  have hl16 := hL.2.2
  have hnow : wrap64 (now + num) = now + num := by unfold wrap64; omega
  obtain ⟨i, hi, hlo, hhi, hev⟩ := search_ev (A ++ (P.toList ++ D)) n hL.2.1 (by omega)
  have hat : LAt (A ++ (P.toList ++ D)) n i := ⟨hi, hlo, hhi⟩
  obtain rfl := At_uniq hat (Dec_at hd)
  clear hlo hhi hat
  have e0 : (0 : Int) ≤ (A.length : Int) := by omega
  refine ev_succ ?_
  simp only [lease_Do.l0, Int.lt_irrefl, if_false, if_true]
  refine Ev.bind hev ?_
  cases P with
  | none =>
    have hb : (if h : A.length < (A ++ ((none : Option S40).toList ++ D)).length then cmpI ((A ++ ((none : Option S40).toList ++ D))[A.length]).f0 n == 0 else false) = false := by
      split
      · next h =>
        cases D with
        | nil => simp at h
        | cons d ds =>
          have h2 := hd.2.2 d (by simp)
          have e : (A ++ ((none : Option S40).toList ++ d :: ds))[A.length] = d := getM A ds d h
          rw [e]
          have := cmpI_neg d.f0 n
          rw [beq_eq_false_iff_ne]
          omega
      · rfl
    simp only [hb, Bool.false_eq_true, if_false]
    by_cases k5 : kd = 5
    · subst k5
      have e5 : ((5 : Int) != 5) = false := rfl
      rw [e5]
      refine ev_succ ?_
      simp only [lease_Do.j3, Bool.false_eq_true, if_false]
      refine ev_succ ?_
      by_cases hf : (A ++ D).length = 16
      · rw [show lres A D none (nameOf none) who now 5 n num = (A ++ D, 3, []) by unfold lres; simp only [if_true]; rw [if_pos hf]]
        have ef : (((A ++ ((none : Option S40).toList ++ D)).length : Int) == 16) = true := by
          show (((A ++ D).length : Int) == 16) = true
          rw [hf]; rfl
        simp only [lease_Do.j4, ef, if_true]
        exact Ev.now _
      · rw [show lres A D none (nameOf none) who now 5 n num = (A ++ (⟨n, who, now + num⟩ :: D), 0, []) by unfold lres; simp only [if_true]; rw [if_neg hf]]
        have ef : (((A ++ ((none : Option S40).toList ++ D)).length : Int) == 16) = false := by
          show (((A ++ D).length : Int) == 16) = false
          rw [beq_eq_false_iff_ne]; omega
        have e1 : (A.length : Int) ≤ ((A ++ ((none : Option S40).toList ++ D)).length : Int) := by omega
        have e2 : (A ++ ((none : Option S40).toList ++ D)).length < 3518437208883 := by omega
        have hcl : slices_Clone_byte_byte.f n = some n := by unfold slices_Clone_byte_byte.f; rw [if_pos (by omega)]
        have t1 : (A ++ ((none : Option S40).toList ++ D)).take A.length = A := takeM A _
        have t2 : (A ++ ((none : Option S40).toList ++ D)).drop A.length = D := by
          show (A ++ D).drop A.length = D
          exact List.drop_left
        simp only [lease_Do.j4, ef, Bool.false_eq_true, if_false, hcl, Option.bind_some, if_pos e0, if_pos e1, if_pos e2, Int.toNat_natCast, t1, t2, hnow]
        rw [List.append_assoc, List.singleton_append]
        exact Ev.now _
    · rw [show lres A D none (nameOf none) who now kd n num = (A ++ D, 1, []) by unfold lres; simp only []; rw [if_neg k5]]
      have e5 : (kd != 5) = true := by simpa using k5
      rw [e5]
      refine ev_succ ?_
      simp only [lease_Do.j3, if_true]
      exact Ev.now _
  | some e =>
    have hlt : A.length < (A ++ ((some e).toList ++ D)).length := by simp
    have hg : (A ++ ((some e).toList ++ D))[A.length] = e := getM A D e hlt
    have hb : (if h : A.length < (A ++ ((some e).toList ++ D)).length then cmpI ((A ++ ((some e).toList ++ D))[A.length]).f0 n == 0 else false) = true := by
      rw [dif_pos hlt, hg, hd.2.1 e rfl]; rfl
    have e1 : (A.length : Int) < ((A ++ ((some e).toList ++ D)).length : Int) := by omega
    have er : rd_T40 (A ++ ((some e).toList ++ D)) (A.length : Int) = e := by rw [rdT _ A.length hlt, hg]
    have hx := hL.1 e (by simp)
    have hxv := hv e (by simp)
    have hwr : wrap64 (e.f2 - now) = e.f2 - now := by have := hx.2.2.1; have := hx.2.2.2; unfold wrap64; omega
    have ht := told_ev e.f1 (e.f2 - now) (by have := hx.2.1.1; omega) (by have := hx.2.1.2; omega) (by omega) (by have := hx.2.2.2; omega)
    simp only [hb, if_true]
    refine ev_succ ?_
    simp only [lease_Do.j3, Bool.false_eq_true, if_false, if_true]
    refine ev_succ ?_
    by_cases k8 : kd = 8
    · rw [show lres A D (some e) (nameOf (some e)) who now kd n num = (A ++ (e :: D), 0, toldB e now) by unfold lres; simp only []; rw [if_pos k8]]
      simp only [lease_Do.j4, Bool.false_eq_true, if_false, if_true, if_pos k8, if_pos e0, if_pos e1, er, hwr]
      exact Ev.bind ht (Ev.now _)
    · by_cases ho : e.f1 = who
      · by_cases k7 : kd = 7
        · rw [show lres A D (some e) (nameOf (some e)) who now kd n num = (A ++ D, 0, []) by unfold lres; simp only []; rw [if_neg k8, if_pos ho, if_pos k7]]
          have eo : (A ++ ((some e).toList ++ D)).eraseIdx A.length = A ++ D := by
            rw [List.eraseIdx_eq_take_drop_succ, show (A ++ ((some e).toList ++ D)).take A.length = A from takeM A _, show (A ++ ((some e).toList ++ D)).drop (A.length + 1) = D from dropM A D e]
          simp only [lease_Do.j4, Bool.false_eq_true, if_false, if_true, if_neg k8, if_pos e0, if_pos e1, er, if_pos ho, if_pos k7, Int.toNat_natCast, eo]
          exact Ev.now _
        · rw [show lres A D (some e) (nameOf (some e)) who now kd n num = (A ++ (⟨e.f0, who, now + num⟩ :: D), 0, []) by unfold lres; simp only []; rw [if_neg k8, if_pos ho, if_neg k7]; rfl]
          have es : ∀ a, (A ++ ((some e).toList ++ D)).set A.length a = A ++ (a :: D) := fun a => by
            show (A ++ (e :: D)).set A.length a = _
            rw [List.set_append_right _ _ (Nat.le_refl _), Nat.sub_self, List.set_cons_zero]
          simp only [lease_Do.j4, Bool.false_eq_true, if_false, if_true, if_neg k8, if_pos e0, if_pos e1, er, if_pos ho, if_neg k7, Int.toNat_natCast, es, hnow]
          rw [ho]
          exact Ev.now _
      · rw [show lres A D (some e) (nameOf (some e)) who now kd n num = (A ++ (e :: D), 4, toldB e now) by unfold lres; simp only []; rw [if_neg k8, if_neg ho]]
        simp only [lease_Do.j4, Bool.false_eq_true, if_false, if_true, if_neg k8, if_pos e0, if_pos e1, er, if_neg ho, hwr]
        exact Ev.bind ht (Ev.now _)
theorem bless : ∀ a b : List UInt8, Op.bytesLess a b = decide (Lib.compareBytes a b < 0)
  | [], [] => rfl
  | _ :: _, [] => rfl
  | [], _ :: _ => rfl
  | a :: x, b :: y => by
    have ih := bless x y
    show (decide (a < b) || (a == b && Op.bytesLess x y)) = _
    rw [ih]
    by_cases h1 : a < b
    · rw [show Lib.compareBytes (a :: x) (b :: y) = -1 by unfold Lib.compareBytes; rw [if_pos h1], decide_eq_true h1]; rfl
    · by_cases h2 : b < a
      · rw [show Lib.compareBytes (a :: x) (b :: y) = 1 by unfold Lib.compareBytes; rw [if_neg h1, if_pos h2], decide_eq_false h1]
        have hne : (a == b) = false := by
          rw [beq_eq_false_iff_ne]
          intro e; subst e; exact h1 h2
        rw [hne]; rfl
      · have e : a = b := UInt8.le_antisymm (UInt8.not_lt.1 h2) (UInt8.not_lt.1 h1)
        rw [show Lib.compareBytes (a :: x) (b :: y) = Lib.compareBytes x y by conv => lhs; unfold Lib.compareBytes; rw [if_neg h1, if_neg h2], decide_eq_false h1, e]
        simp
theorem less_is (a b : List Int) : catenaryref07_Less.f a b = some (decide (cmpI a b < 0)) := by
  unfold catenaryref07_Less.f cmpI
  rw [bless, Go.Lib.strOfNums_toList, Go.Lib.strOfNums_toList]
  rfl
theorem same_is (a b : List Int) : catenaryref01_Same.f a b = some (decide (cmpI a b = 0)) := by
  show some (eqB a b) = _
  congr 1
  cases h : eqB a b with
  | true => rw [decide_eq_true ((eqB_iff _ _).1 h)]
  | false => symm; apply decide_eq_false; intro g; rw [(eqB_iff _ _).2 g] at h; cases h
theorem rlright_l0 (l : List S40) (hx : l.length < 1000000000000000) : ∀ (d i : Nat), d + i = l.length → (Ev (fun k => catenaryref08_Right.l0 k l l (l.length : Int) (i : Int)) true ∧ (∀ j h, i ≤ j → goodAt l j h)) ∨ (Ev (fun k => catenaryref08_Right.l0 k l l (l.length : Int) (i : Int)) false ∧ ¬ (∀ j h, i ≤ j → goodAt l j h))
  | 0, i, hd => by
    have e1 : ¬ (i : Int) < (l.length : Int) := by omega
    refine Or.inl ⟨ev_succ ?_, fun j h hj => absurd h (by omega)⟩
    simp only [catenaryref08_Right.l0, if_neg e1]
    exact Ev.now _
  | d + 1, i, hd => by
    have hi : i < l.length := by omega
    have e1 : (i : Int) < (l.length : Int) := by omega
    have e2 : (0 : Int) ≤ (i : Int) := by omega
    have ew : wrap64 ((i : Int) + 1) = ((i + 1 : Nat) : Int) := w64 i (by omega)
    have jt : Ev (fun k => catenaryref08_Right.j1 k l l (l.length : Int) (i : Int) true) false := by
      refine ev_succ ?_
      simp only [catenaryref08_Right.j1, if_true]
      exact Ev.now _
    have jf : ∀ r, Ev (fun k => catenaryref08_Right.l0 k l l (l.length : Int) ((i + 1 : Nat) : Int)) r → Ev (fun k => catenaryref08_Right.j1 k l l (l.length : Int) (i : Int) false) r := by
      intro r h
      refine ev_succ ?_
      simp only [catenaryref08_Right.j1, Bool.false_eq_true, if_false, ew]
      exact h
    have key : ∀ r, (¬ goodAt l i hi → Ev (fun k => catenaryref08_Right.j1 k l l (l.length : Int) (i : Int) true) r) → (goodAt l i hi → Ev (fun k => catenaryref08_Right.j1 k l l (l.length : Int) (i : Int) false) r) → Ev (fun k => catenaryref08_Right.l0 k l l (l.length : Int) (i : Int)) r := by
      intro r hb hg
      refine ev_succ ?_
      simp only [catenaryref08_Right.l0, if_pos e1, if_pos e2, rdT l i hi]
      by_cases a1 : ((l[i]).f0.length : Int) = 0
      · simp only [if_pos a1]; exact hb (fun g => by have := g.1.1.1; omega)
      simp only [if_neg a1]
      by_cases a2 : ((l[i]).f0.length : Int) > 16
      · simp only [if_pos a2]; exact hb (fun g => by have := g.1.1.2; omega)
      simp only [if_neg a2]
      by_cases a3 : (l[i]).f1 < 1
      · simp only [if_pos a3]; exact hb (fun g => by have := g.1.2.1.1; omega)
      simp only [if_neg a3]
      by_cases a4 : (l[i]).f1 > 4
      · simp only [if_pos a4]; exact hb (fun g => by have := g.1.2.1.2; omega)
      simp only [if_neg a4]
      by_cases a5 : (l[i]).f2 < 1
      · simp only [if_pos a5]; exact hb (fun g => by have := g.1.2.2.1; omega)
      simp only [if_neg a5]
      by_cases a7 : (l[i]).f2 > 2147483647
      · simp only [if_pos a7]; exact hb (fun g => by have := g.1.2.2.2; omega)
      simp only [if_neg a7]
      have ok : okL (l[i]) := ⟨⟨by omega, by omega⟩, ⟨by omega, by omega⟩, by omega, by omega⟩
      by_cases a6 : (i : Int) > 0
      · have ei : wrap64 ((i : Int) - 1) = ((i - 1 : Nat) : Int) := by unfold wrap64; omega
        have e3 : (0 : Int) ≤ ((i - 1 : Nat) : Int) := by omega
        have e4 : ((i - 1 : Nat) : Int) < (l.length : Int) := by omega
        simp only [if_pos a6, ei, if_pos e3, if_pos e4, rdT l (i - 1) (by omega), less_is, Option.bind_some]
        by_cases a8 : cmpI (l[i - 1]).f0 (l[i]).f0 < 0
        · simp only [decide_eq_true a8, Bool.not_true]; exact hg ⟨ok, fun _ => a8⟩
        · simp only [decide_eq_false a8, Bool.not_false]; exact hb (fun g => a8 (g.2 (by omega)))
      · simp only [if_neg a6]
        exact hg ⟨ok, fun h => absurd h (by omega)⟩
    by_cases hg : goodAt l i hi
    · rcases rlright_l0 l hx d (i + 1) (by omega) with ⟨h1, h2⟩ | ⟨h1, h2⟩
      · refine Or.inl ⟨key true (fun q => absurd hg q) (fun _ => jf _ h1), fun j h hj => ?_⟩
        by_cases hq : j = i
        · subst hq; exact hg
        · exact h2 j h (by omega)
      · exact Or.inr ⟨key false (fun q => absurd hg q) (fun _ => jf _ h1), fun h => h2 (fun j hj hij => h j hj (by omega))⟩
    · exact Or.inr ⟨key false (fun _ => jt) (fun q => absurd q hg), fun h => hg (h i hi (Nat.le_refl _))⟩
theorem rlRight_ev (l : List S40) (hx : l.length < 1000000000000000) : (Ev (fun k => catenaryref08_Right.f k l) true ∧ RightL l) ∨ (Ev (fun k => catenaryref08_Right.f k l) false ∧ ¬ RightL l) := by
  simp only [catenaryref08_Right.f]
  by_cases c : (l.length : Int) > 16
  · simp only [if_pos c]
    exact Or.inr ⟨Ev.now _, fun h => by have := h.2.2; omega⟩
  · simp only [if_neg c]
    rcases rlright_l0 l hx l.length 0 (by omega) with ⟨h1, h2⟩ | ⟨h1, h2⟩
    · exact Or.inl ⟨h1, (all_good l).1 ⟨h2, by omega⟩⟩
    · exact Or.inr ⟨h1, fun h => h2 ((all_good l).2 h).1⟩
theorem rholder_l0 (l : List S40) (hx : l.length < 1000000000000000) (n : List Int) (now : Int) : ∀ (d i : Nat), d + i = l.length → Ev (fun k => catenaryref08_Holder.l0 k n now l (l.length : Int) (i : Int)) (hold (l.drop i) n now)
  | 0, i, hd => by
    have e1 : ¬ (i : Int) < (l.length : Int) := by omega
    refine ev_succ ?_
    simp only [catenaryref08_Holder.l0, if_neg e1]
    rw [List.drop_eq_nil_of_le (by omega)]
    exact Ev.now _
  | d + 1, i, hd => by
    have hi : i < l.length := by omega
    have e1 : (i : Int) < (l.length : Int) := by omega
    have e2 : (0 : Int) ≤ (i : Int) := by omega
    have ew : wrap64 ((i : Int) + 1) = ((i + 1 : Nat) : Int) := w64 i (by omega)
    have ih := rholder_l0 l hx n now d (i + 1) (by omega)
    have ee : catenaryref01_Same.f (l[i]).f0 n = some (eqB (l[i]).f0 n) := rfl
    rw [List.drop_eq_getElem_cons hi]
    have no : hq n now (l[i]) = false → Ev (fun k => catenaryref08_Holder.j1 k n now l (l.length : Int) (i : Int) false (l[i]).f0 (l[i]).f1 (l[i]).f2) (hold (l[i] :: l.drop (i + 1)) n now) := by
      intro h
      have : hold (l[i] :: l.drop (i + 1)) n now = hold (l.drop (i + 1)) n now := by
        unfold hold
        rw [List.find?_cons_of_neg (by rw [h]; decide)]
      rw [this]
      refine ev_succ ?_
      simp only [catenaryref08_Holder.j1, Bool.false_eq_true, if_false, ew]
      exact ih
    refine ev_succ ?_
    by_cases a2 : (l[i]).f2 > now
    · simp only [catenaryref08_Holder.l0, if_pos e1, if_pos e2, rdT l i hi, if_pos a2, ee, Option.bind_some]
      cases a1 : eqB (l[i]).f0 n with
      | true =>
        have : hold (l[i] :: l.drop (i + 1)) n now = ((l[i]).f1, wrap64 ((l[i]).f2 - now)) := by
          unfold hold
          rw [List.find?_cons_of_pos (by unfold hq; rw [a1]; simpa using a2)]
        rw [this]
        refine ev_succ ?_
        simp only [catenaryref08_Holder.j1, if_true]
        exact Ev.now _
      | false => exact no (by unfold hq; rw [a1]; rfl)
    · simp only [catenaryref08_Holder.l0, if_pos e1, if_pos e2, rdT l i hi, if_neg a2]
      exact no (by unfold hq; rw [decide_eq_false a2, Bool.and_false])
theorem rholder_ev (l : List S40) (hx : l.length < 1000000000000000) (n : List Int) (now : Int) : Ev (fun k => catenaryref08_Holder.f k l n now) (hold l n now) := by
  simp only [catenaryref08_Holder.f]
  exact rholder_l0 l hx n now l.length 0 (by omega)
theorem rtold_ev (a b : Int) (ha0 : 0 ≤ a) (ha : a ≤ 2147483647) (hb0 : 0 ≤ b) (hb : b ≤ 2147483647) : Ev (fun k => catenaryref08_told.f k a b) (enc 4 a ++ enc 4 b) := by
  have l1 := enc_len 4 a
  have l2 := enc_len 4 b
  have h1 := ref_int 4 a (by decide) ha0 (by have : B7 4 = 34359738368 := by decide +kernel
                                             omega) ha
  have h2 := ref_int 4 b (by decide) hb0 (by have : B7 4 = 34359738368 := by decide +kernel
                                             omega) hb
  simp only [catenaryref08_told.f]
  refine Ev.bind h1 ?_
  refine Ev.bind h2 ?_
  simp only [if_pos (show (enc 4 a).length + (enc 4 b).length < 140737488355328 by omega)]
  exact Ev.now _
theorem lgetD (A : List S40) (x : S40) (B : List S40) : rd_T40 (A ++ (x :: B)) (A.length : Int) = x := by
  have h : A.length < (A ++ (x :: B)).length := by simp
  rw [rdT _ A.length h, getM A B x h]
theorem lwith_skip (n : List Int) (who t : Int) (put : Bool) : ∀ (X A B acc : List S40), (A ++ (X ++ B)).length < 1000000000000 → acc.length ≤ A.length + 1 → (∀ x ∈ X, cmpI x.f0 n ≠ 0 ∧ (put = true ∨ cmpI x.f0 n < 0)) → ∀ r, Ev (fun k => catenaryref08_With.l0 k (acc ++ X) put (A ++ (X ++ B)) ((A ++ (X ++ B)).length : Int) ((A.length + X.length : Nat) : Int) n who t) r → Ev (fun k => catenaryref08_With.l0 k acc put (A ++ (X ++ B)) ((A ++ (X ++ B)).length : Int) (A.length : Int) n who t) r
  | [], A, B, acc, _, _, _, r, h => by rw [List.append_nil] at h; exact h
  | x :: X, A, B, acc, hl, ha, hX, r, h => by
    have hlen : (A ++ (x :: X ++ B)).length = A.length + (X.length + 1 + B.length) := by simp only [List.length_append, List.length_cons]
    have e1 : (A.length : Int) < ((A ++ (x :: X ++ B)).length : Int) := by rw [hlen]; omega
    have e2 : (0 : Int) ≤ (A.length : Int) := by omega
    have e3 : acc.length < 3518437208883 := by omega
    have er : rd_T40 (A ++ (x :: X ++ B)) (A.length : Int) = x := lgetD A x (X ++ B)
    have ew : wrap64 ((A.length : Int) + 1) = ((A.length + 1 : Nat) : Int) := w64 _ (by omega)
    obtain ⟨hx1, hx2⟩ := hX x (by simp)
    have gd : catenaryref01_Same.f x.f0 n = some false := by rw [same_is, decide_eq_false hx1]
    have eL : A ++ (x :: X ++ B) = (A ++ [x]) ++ (X ++ B) := by simp
    have ih := lwith_skip n who t put X (A ++ [x]) B (acc ++ [x]) (by rw [← eL]; exact hl) (by simp; omega) (fun y hy => hX y (by simp [hy])) r
    rw [← eL] at ih
    have hlA : (A ++ [x]).length = A.length + 1 := by simp
    rw [hlA] at ih
    have J : Ev (fun k => catenaryref08_With.j1 k acc put (A ++ (x :: X ++ B)) ((A ++ (x :: X ++ B)).length : Int) (A.length : Int) false n who t x.f0 x.f1 x.f2) r := by
      refine ev_succ ?_
      simp only [catenaryref08_With.j1, Bool.false_eq_true, if_false]
      refine ev_succ ?_
      simp only [catenaryref08_With.j2, gd, Option.bind_some, Bool.false_eq_true, if_false, if_pos e3, ew]
      refine ih ?_
      rw [List.append_assoc, List.singleton_append, show A.length + 1 + X.length = A.length + (X.length + 1) by omega]
      rw [List.length_cons] at h
      exact h
    refine ev_succ ?_
    cases put with
    | true =>
      simp only [catenaryref08_With.l0, if_pos e1, if_pos e2, er, if_true]
      exact J
    | false =>
      have hx3 : cmpI x.f0 n < 0 := hx2.resolve_left (by decide)
      have gl : catenaryref07_Less.f x.f0 n = some true := by rw [less_is, decide_eq_true hx3]
      simp only [catenaryref08_With.l0, if_pos e1, if_pos e2, er, Bool.false_eq_true, if_false, gl, Option.bind_some, Bool.not_true]
      exact J
theorem lwith (A D : List S40) (P : Option S40) (n : List Int) (who t : Int) (hd : Dec A P D n) (hl : (A ++ (P.toList ++ D)).length < 1000000000) : Ev (fun k => catenaryref08_With.f k (A ++ (P.toList ++ D)) n who t) (A ++ (⟨n, who, t⟩ :: D)) := by
  simp only [catenaryref08_With.f]
  have hA : ∀ x ∈ A, cmpI x.f0 n ≠ 0 ∧ (false = true ∨ cmpI x.f0 n < 0) := fun x hx => by
    have := hd.1 x hx
    exact ⟨by omega, Or.inr (by omega)⟩
  have hD : ∀ x ∈ D, cmpI x.f0 n ≠ 0 ∧ (true = true ∨ cmpI x.f0 n < 0) := fun x hx => by
    have := hd.2.2 x hx
    have := cmpI_neg n x.f0
    exact ⟨by omega, Or.inl rfl⟩
  have s1 := lwith_skip n who t false A [] (P.toList ++ D) [] (by rw [List.nil_append]; omega) (by simp) hA
  simp only [List.nil_append, List.length_nil, Nat.zero_add] at s1
  refine s1 _ ?_
  have stop : ∀ (L acc : List S40) (m : Nat), m = L.length → Ev (fun k => catenaryref08_With.l0 k acc true L (L.length : Int) (m : Int) n who t) acc := by
    intro L acc m hm
    have e1 : ¬ (m : Int) < (L.length : Int) := by omega
    refine ev_succ ?_
    simp only [catenaryref08_With.l0, if_neg e1, if_true]
    exact Ev.now _
  cases P with
  | some e =>
    have e1 : (A.length : Int) < ((A ++ ((some e).toList ++ D)).length : Int) := by simp; omega
    have e2 : (0 : Int) ≤ (A.length : Int) := by omega
    have e3 : A.length < 3518437208883 := by simp only [List.length_append] at hl; omega
    have er : rd_T40 (A ++ ((some e).toList ++ D)) (A.length : Int) = e := lgetD A e D
    have hc := hd.2.1 e rfl
    have gd : catenaryref01_Same.f e.f0 n = some true := by rw [same_is, decide_eq_true hc]
    have gl : catenaryref07_Less.f e.f0 n = some false := by rw [less_is, decide_eq_false (show ¬ cmpI e.f0 n < 0 by omega)]
    have ew : wrap64 ((A.length : Int) + 1) = ((A.length + 1 : Nat) : Int) := w64 _ (by omega)
    refine ev_succ ?_
    simp only [catenaryref08_With.l0, if_pos e1, if_pos e2, er, Bool.false_eq_true, if_false, gl, Option.bind_some, Bool.not_false]
    refine ev_succ ?_
    simp only [catenaryref08_With.j1, if_true, if_pos e3]
    refine ev_succ ?_
    simp only [catenaryref08_With.j2, gd, Option.bind_some, if_true, ew]
    have s2 := lwith_skip n who t true D (A ++ [e]) [] (A ++ [⟨n, who, t⟩]) (by simp only [List.length_append] at hl ⊢; simp at hl ⊢; omega) (by simp) hD
    have eL : (A ++ [e]) ++ (D ++ []) = A ++ ((some e).toList ++ D) := by simp
    have hlA : (A ++ [e]).length = A.length + 1 := by simp
    rw [eL, hlA] at s2
    refine s2 _ ?_
    have := stop (A ++ ((some e).toList ++ D)) ((A ++ [⟨n, who, t⟩]) ++ D) (A.length + 1 + D.length) (by simp; omega)
    rw [List.append_assoc, List.singleton_append] at this ⊢
    exact this
  | none =>
    have e2 : (0 : Int) ≤ (A.length : Int) := by omega
    have e3 : A.length < 3518437208883 := by simp only [List.length_append] at hl; omega
    cases D with
    | nil =>
      have e1 : ¬ (A.length : Int) < ((A ++ ((none : Option S40).toList ++ ([] : List S40))).length : Int) := by simp
      refine ev_succ ?_
      simp only [catenaryref08_With.l0, if_neg e1, Bool.false_eq_true, if_false, if_pos e3]
      exact Ev.now _
    | cons d ds =>
      have hdd := hd.2.2 d (by simp)
      have e1 : (A.length : Int) < ((A ++ ((none : Option S40).toList ++ d :: ds)).length : Int) := by simp; omega
      have er : rd_T40 (A ++ ((none : Option S40).toList ++ d :: ds)) (A.length : Int) = d := lgetD A d ds
      have hdn := cmpI_neg n d.f0
      have gd : catenaryref01_Same.f d.f0 n = some false := by rw [same_is, decide_eq_false (hD d (by simp)).1]
      have gl : catenaryref07_Less.f d.f0 n = some false := by rw [less_is, decide_eq_false (show ¬ cmpI d.f0 n < 0 by omega)]
      have ew : wrap64 ((A.length : Int) + 1) = ((A.length + 1 : Nat) : Int) := w64 _ (by omega)
      have e4 : (A ++ [(⟨n, who, t⟩ : S40)]).length < 3518437208883 := by simp only [List.length_append] at hl ⊢; simp at hl ⊢; omega
      refine ev_succ ?_
      simp only [catenaryref08_With.l0, if_pos e1, if_pos e2, er, Bool.false_eq_true, if_false, gl, Option.bind_some, Bool.not_false]
      refine ev_succ ?_
      simp only [catenaryref08_With.j1, if_true, if_pos e3]
      refine ev_succ ?_
      simp only [catenaryref08_With.j2, gd, Option.bind_some, Bool.false_eq_true, if_false, if_pos e4, ew]
      have s2 := lwith_skip n who t true ds (A ++ [d]) [] ((A ++ [(⟨n, who, t⟩ : S40)]) ++ [d]) (by simp only [List.length_append] at hl ⊢; simp at hl ⊢; omega) (by simp) (fun x hx => hD x (by simp [hx]))
      have eL : (A ++ [d]) ++ (ds ++ []) = A ++ ((none : Option S40).toList ++ d :: ds) := by simp
      have hlA : (A ++ [d]).length = A.length + 1 := by simp
      rw [eL, hlA] at s2
      have eD : (⟨d.f0, d.f1, d.f2⟩ : S40) = d := rfl
      rw [eD]
      refine s2 _ ?_
      have := stop (A ++ ((none : Option S40).toList ++ d :: ds)) (((A ++ [(⟨n, who, t⟩ : S40)]) ++ [d]) ++ ds) (A.length + 1 + ds.length) (by simp; omega)
      rw [show ((A ++ [(⟨n, who, t⟩ : S40)]) ++ [d]) ++ ds = A ++ (⟨n, who, t⟩ :: d :: ds) by simp] at this ⊢
      exact this
def liveN (now : Int) (n : List Int) (l : List S40) : List S40 := (live now l).filter (fun x => decide (cmpI x.f0 n ≠ 0))
theorem rl_loop (l : List S40) (hx : l.length < 3518437208883) (who now : Int) (kd : Int) (n v w : List Int) (num : Int) (r : List S40 × Int × List Int) :
    ∀ (d i : Nat) (acc acd : List S40), d + i = l.length → acc.length ≤ i → acd.length ≤ i → Ev (fun k => catenaryref08_Do.l0 k who now (acc ++ live now (l.drop i)) (acd ++ liveN now n (l.drop i)) l (l.length : Int) (l.length : Int) kd n v w num) r →
    Ev (fun k => catenaryref08_Do.l0 k who now acc acd l (l.length : Int) (i : Int) kd n v w num) r
  | 0, i, acc, acd, hd, ha, hb, h => by
    have : i = l.length := by omega
    subst this
    have e1 : live now (l.drop l.length) = [] := by rw [List.drop_length]; rfl
    have e2 : liveN now n (l.drop l.length) = [] := by unfold liveN; rw [e1]; rfl
    rw [e1, e2, List.append_nil, List.append_nil] at h
    exact h
  | d + 1, i, acc, acd, hd, ha, hb, h => by
    have hi : i < l.length := by omega
    have e1 : (i : Int) < (l.length : Int) := by omega
    have e2 : (0 : Int) ≤ (i : Int) := by omega
    have e3 : acc.length < 3518437208883 := by omega
    have e4 : acd.length < 3518437208883 := by omega
    have ew : wrap64 ((i : Int) + 1) = ((i + 1 : Nat) : Int) := w64 i (by omega)
    have eD : (⟨(l[i]).f0, (l[i]).f1, (l[i]).f2⟩ : S40) = l[i] := rfl
    rw [List.drop_eq_getElem_cons hi] at h
    refine ev_succ ?_
    by_cases c : (l[i]).f2 ≤ now
    · have f1 : live now (l[i] :: l.drop (i + 1)) = live now (l.drop (i + 1)) := by
        unfold live
        rw [List.filter_cons_of_neg (by simpa using c)]
      have f2 : liveN now n (l[i] :: l.drop (i + 1)) = liveN now n (l.drop (i + 1)) := by unfold liveN; rw [f1]
      rw [f1, f2] at h
      simp only [catenaryref08_Do.l0, if_pos e1, if_pos e2, rdT l i hi, if_pos c, ew]
      exact rl_loop l hx who now kd n v w num r d (i + 1) acc acd (by omega) (by omega) (by omega) h
    · have f1 : live now (l[i] :: l.drop (i + 1)) = l[i] :: live now (l.drop (i + 1)) := by
        unfold live
        rw [List.filter_cons_of_pos (by simpa using c)]
      by_cases q : cmpI (l[i]).f0 n = 0
      · have f2 : liveN now n (l[i] :: l.drop (i + 1)) = liveN now n (l.drop (i + 1)) := by
          unfold liveN
          rw [f1, List.filter_cons_of_neg (by simpa using q)]
        have es : catenaryref01_Same.f (l[i]).f0 n = some true := by rw [same_is, decide_eq_true q]
        rw [f1, f2] at h
        simp only [catenaryref08_Do.l0, if_pos e1, if_pos e2, rdT l i hi, if_neg c, if_pos e3, Option.bind_some, es, if_true, ew, eD]
        refine rl_loop l hx who now kd n v w num r d (i + 1) (acc ++ [l[i]]) acd (by omega) (by simp; omega) (by omega) ?_
        rw [List.append_assoc, List.singleton_append]
        exact h
      · have f2 : liveN now n (l[i] :: l.drop (i + 1)) = l[i] :: liveN now n (l.drop (i + 1)) := by
          unfold liveN
          rw [f1, List.filter_cons_of_pos (by simpa using q)]
        have es : catenaryref01_Same.f (l[i]).f0 n = some false := by rw [same_is, decide_eq_false q]
        rw [f1, f2] at h
        simp only [catenaryref08_Do.l0, if_pos e1, if_pos e2, rdT l i hi, if_neg c, if_pos e3, Option.bind_some, es, Bool.false_eq_true, if_false, if_pos e4, ew, eD]
        refine rl_loop l hx who now kd n v w num r d (i + 1) (acc ++ [l[i]]) (acd ++ [l[i]]) (by omega) (by simp; omega) (by simp; omega) ?_
        rw [List.append_assoc, List.singleton_append, List.append_assoc, List.singleton_append]
        exact h
theorem hold_dec (A D : List S40) (P : Option S40) (n : List Int) (now : Int) (hd : Dec A P D n) (hv : ∀ x ∈ A ++ (P.toList ++ D), x.f2 > now) : hold (A ++ (P.toList ++ D)) n now = (match P with
    | some e => (e.f1, wrap64 (e.f2 - now))
    | none => (0, 0)) := by
  have hA : A.find? (hq n now) = none := by
    rw [List.find?_eq_none]
    intro x hx h
    have := (eqB_iff _ _).1 (Bool.and_eq_true_iff.1 h).1
    have := hd.1 x hx
    omega
  have hD : D.find? (hq n now) = none := by
    rw [List.find?_eq_none]
    intro x hx h
    have := (eqB_iff _ _).1 (Bool.and_eq_true_iff.1 h).1
    have := hd.2.2 x hx
    have := cmpI_neg n x.f0
    omega
  rw [hold_eq, List.find?_append, hA, Option.none_or, List.find?_append]
  cases P with
  | none =>
    show holdO now ((([] : List S40).find? (hq n now)).or (D.find? (hq n now))) = _
    rw [hD]; rfl
  | some e =>
    have he : hq n now e = true := by
      unfold hq
      rw [(eqB_iff _ _).2 (hd.2.1 e rfl), decide_eq_true (hv e (by simp))]; rfl
    show holdO now (([e].find? (hq n now)).or (D.find? (hq n now))) = _
    rw [List.find?_cons_of_pos he]; rfl
theorem without_dec (A D : List S40) (P : Option S40) (n : List Int) (hd : Dec A P D n) : (A ++ (P.toList ++ D)).filter (fun x => decide (cmpI x.f0 n ≠ 0)) = A ++ D := by
  have hA : A.filter (fun x => decide (cmpI x.f0 n ≠ 0)) = A := List.filter_eq_self.2 (fun x hx => by
    have := hd.1 x hx
    exact decide_eq_true (by omega))
  have hD : D.filter (fun x => decide (cmpI x.f0 n ≠ 0)) = D := List.filter_eq_self.2 (fun x hx => by
    have := hd.2.2 x hx
    have := cmpI_neg n x.f0
    exact decide_eq_true (by omega))
  rw [List.filter_append, List.filter_append, hA, hD]
  cases P with
  | none => rfl
  | some e =>
    show A ++ ([e].filter _ ++ D) = _
    rw [List.filter_cons_of_neg (by rw [hd.2.1 e rfl]; decide)]; rfl
theorem rltail (l A D : List S40) (P : Option S40) (hL : RightL (A ++ (P.toList ++ D))) (who now : Int) (hv : ∀ x ∈ A ++ (P.toList ++ D), x.f2 > now) (kd : Int) (n v w : List Int) (num : Int) (hd : Dec A P D n) (hr : rightB kd n v w num = true) (h5 : kd ≥ 5) (h0 : 0 ≤ now) (h1 : now ≤ 2147482647) :
    Ev (fun k => catenaryref08_Do.l0 k who now (A ++ (P.toList ++ D)) (A ++ D) l (l.length : Int) (l.length : Int) kd n v w num) (lres A D P n who now kd n num) := by
  obtain ⟨b1, b2, b3, b4, b5, b6, b7⟩ := right_bounds hr
  have hl16 := hL.2.2
  have hnow : wrap64 (now + num) = now + num := by unfold wrap64; omega
  have hw := lwith A D P n who (now + num) hd (by omega)
  have hh := rholder_ev (A ++ (P.toList ++ D)) (by omega) n now
  rw [hold_dec A D P n now hd hv] at hh
  refine ev_succ ?_
  simp only [catenaryref08_Do.l0, Int.lt_irrefl, if_false]
  cases P with
  | none =>
    refine Ev.bind (show Ev _ ((0 : Int), (0 : Int)) from hh) ?_
    simp only [if_true]
    by_cases k5 : kd = 5
    · subst k5
      have e5 : ((5 : Int) != 5) = false := rfl
      rw [e5]
      refine ev_succ ?_
      simp only [catenaryref08_Do.j2, Bool.false_eq_true, if_false, if_true]
      refine ev_succ ?_
      by_cases hf : (A ++ D).length = 16
      · rw [show lres A D none n who now 5 n num = (A ++ D, 3, []) by unfold lres; simp only [if_true]; rw [if_pos hf]]
        have ef : (((A ++ ((none : Option S40).toList ++ D)).length : Int) == 16) = true := by
          show (((A ++ D).length : Int) == 16) = true
          rw [hf]; rfl
        simp only [catenaryref08_Do.j3, ef, if_true]
        exact Ev.now _
      · rw [show lres A D none n who now 5 n num = (A ++ (⟨n, who, now + num⟩ :: D), 0, []) by unfold lres; simp only [if_true]; rw [if_neg hf]]
        have ef : (((A ++ ((none : Option S40).toList ++ D)).length : Int) == 16) = false := by
          show (((A ++ D).length : Int) == 16) = false
          rw [beq_eq_false_iff_ne]; omega
        simp only [catenaryref08_Do.j3, ef, Bool.false_eq_true, if_false, show ¬ ((5 : Int) = 8) by decide, if_true]
        refine ev_succ ?_
        simp only [catenaryref08_Do.j4, Bool.false_eq_true, if_false, show ¬ ((5 : Int) = 7) by decide, hnow]
        exact Ev.bind hw (Ev.now _)
    · rw [show lres A D none n who now kd n num = (A ++ D, 1, []) by unfold lres; simp only []; rw [if_neg k5]]
      have e5 : (kd != 5) = true := by simpa using k5
      rw [e5]
      refine ev_succ ?_
      simp only [catenaryref08_Do.j2, if_true]
      exact Ev.now _
  | some e =>
    have hx := hL.1 e (by simp)
    have hxv := hv e (by simp)
    have hwr : wrap64 (e.f2 - now) = e.f2 - now := by have := hx.2.2.1; have := hx.2.2.2; unfold wrap64; omega
    have ht := rtold_ev e.f1 (e.f2 - now) (by have := hx.2.1.1; omega) (by have := hx.2.1.2; omega) (by omega) (by have := hx.2.2.2; omega)
    have hne : ¬ e.f1 = 0 := by have := hx.2.1.1; omega
    have hh2 : Ev _ (e.f1, wrap64 (e.f2 - now)) := hh
    rw [hwr] at hh2
    refine Ev.bind hh2 ?_
    simp only [if_neg hne]
    refine ev_succ ?_
    simp only [catenaryref08_Do.j2, Bool.false_eq_true, if_false, if_neg hne]
    refine ev_succ ?_
    by_cases k8 : kd = 8
    · rw [show lres A D (some e) n who now kd n num = (A ++ (e :: D), 0, toldB e now) by unfold lres; simp only []; rw [if_pos k8]]
      simp only [catenaryref08_Do.j3, Bool.false_eq_true, if_false, if_pos k8]
      exact Ev.bind ht (Ev.now _)
    · simp only [catenaryref08_Do.j3, Bool.false_eq_true, if_false, if_neg k8, if_neg hne]
      refine ev_succ ?_
      by_cases ho : e.f1 = who
      · have eo : (e.f1 != who) = false := by rw [ho]; exact bne_self_eq_false _
        by_cases k7 : kd = 7
        · rw [show lres A D (some e) n who now kd n num = (A ++ D, 0, []) by unfold lres; simp only []; rw [if_neg k8, if_pos ho, if_pos k7]]
          simp only [catenaryref08_Do.j4, eo, Bool.false_eq_true, if_false, if_pos k7]
          exact Ev.now _
        · rw [show lres A D (some e) n who now kd n num = (A ++ (⟨n, who, now + num⟩ :: D), 0, []) by unfold lres; simp only []; rw [if_neg k8, if_pos ho, if_neg k7]]
          simp only [catenaryref08_Do.j4, eo, Bool.false_eq_true, if_false, if_neg k7, hnow]
          exact Ev.bind hw (Ev.now _)
      · have eo : (e.f1 != who) = true := by simpa using ho
        rw [show lres A D (some e) n who now kd n num = (A ++ (e :: D), 4, toldB e now) by unfold lres; simp only []; rw [if_neg k8, if_neg ho]]
        simp only [catenaryref08_Do.j4, eo, if_true]
        exact Ev.bind ht (Ev.now _)
theorem rl_any (l : List S40) (hx : l.length < 3518437208883) (who now : Int) (kd : Int) (n v w : List Int) (num : Int) (r : List S40 × Int × List Int)
    (hg : okDo l kd n v w num who now → Ev (fun k => catenaryref08_Do.l0 k who now (live now l) (liveN now n l) l (l.length : Int) (l.length : Int) kd n v w num) r) (hb : ¬ okDo l kd n v w num who now → r = (l, 5, [])) :
    Ev (fun k => catenaryref08_Do.f k l kd n v w num who now) r := by
  have bad : ¬ okDo l kd n v w num who now → Ev (fun k => catenaryref08_Do.j0 k l who now true kd n v w num) r := by
    intro h
    rw [hb h]
    refine ev_succ ?_
    simp only [catenaryref08_Do.j0, if_true]
    exact Ev.now _
  simp only [catenaryref08_Do.f]
  rcases rlRight_ev l (by omega) with ⟨h1, h2⟩ | ⟨h1, h2⟩
  · refine Ev.bind h1 ?_
    simp only [if_true]
    refine Ev.bind (ref_right kd n v w num) ?_
    by_cases b1 : rightB kd n v w num = true
    · simp only [if_pos b1]
      by_cases b2 : kd < 5
      · simp only [if_pos b2]; exact bad (fun h => by have := h.2.2.1; omega)
      by_cases b3 : who < 1
      · simp only [if_neg b2, if_pos b3]; exact bad (fun h => by have := h.2.2.2.1; omega)
      by_cases b4 : who > 4
      · simp only [if_neg b2, if_neg b3, if_pos b4]; exact bad (fun h => by have := h.2.2.2.1; omega)
      by_cases b5 : now < 0
      · simp only [if_neg b2, if_neg b3, if_neg b4, if_pos b5]; exact bad (fun h => by have := h.2.2.2.2.1; omega)
      by_cases b6 : now > 2147482647
      · simp only [if_neg b2, if_neg b3, if_neg b4, if_neg b5, decide_eq_true b6]; exact bad (fun h => by have := h.2.2.2.2.2; omega)
      · simp only [if_neg b2, if_neg b3, if_neg b4, if_neg b5, decide_eq_false b6]
        refine ev_succ ?_
        simp only [catenaryref08_Do.j0, Bool.false_eq_true, if_false]
        refine rl_loop l hx who now kd n v w num r l.length 0 [] [] (by omega) (Nat.le_refl _) (Nat.le_refl _) ?_
        rw [List.drop_zero, List.nil_append, List.nil_append]
        exact hg ⟨h2, b1, by omega, ⟨by omega, by omega⟩, by omega, by omega⟩
    · simp only [if_neg b1]
      exact bad (fun h => b1 h.2.1)
  · refine Ev.bind h1 ?_
    simp only [Bool.false_eq_true, if_false]
    exact bad (fun h => h2 h.1)
def SameL : List S40 → List S40 → Prop
  | [], [] => True
  | a :: x, b :: y => (cmpI a.f0 b.f0 = 0 ∧ a.f1 = b.f1 ∧ a.f2 = b.f2) ∧ SameL x y
  | _, _ => False
theorem SameL_refl : ∀ l : List S40, SameL l l
  | [] => trivial
  | a :: l => ⟨⟨cmpI_self _, rfl, rfl⟩, SameL_refl l⟩
theorem SameL_mid (a b : S40) (D : List S40) (h : cmpI a.f0 b.f0 = 0 ∧ a.f1 = b.f1 ∧ a.f2 = b.f2) : ∀ A : List S40, SameL (A ++ (a :: D)) (A ++ (b :: D))
  | [] => ⟨h, SameL_refl D⟩
  | x :: A => ⟨⟨cmpI_self _, rfl, rfl⟩, SameL_mid a b D h A⟩
theorem lres_same (A D : List S40) (P : Option S40) (who now kd : Int) (n : List Int) (num : Int) (hd : Dec A P D n) : ∃ a b c t, lres A D P (nameOf P) who now kd n num = (a, c, t) ∧ lres A D P n who now kd n num = (b, c, t) ∧ SameL a b := by
  cases P with
  | none => exact ⟨_, _, _, _, rfl, rfl, SameL_refl _⟩
  | some e =>
    by_cases k8 : kd = 8
    · exact ⟨A ++ (e :: D), A ++ (e :: D), 0, toldB e now, by unfold lres; simp only []; rw [if_pos k8], by unfold lres; simp only []; rw [if_pos k8], SameL_refl _⟩
    · by_cases ho : e.f1 = who
      · by_cases k7 : kd = 7
        · exact ⟨A ++ D, A ++ D, 0, [], by unfold lres; simp only []; rw [if_neg k8, if_pos ho, if_pos k7], by unfold lres; simp only []; rw [if_neg k8, if_pos ho, if_pos k7], SameL_refl _⟩
        · exact ⟨A ++ (⟨e.f0, who, now + num⟩ :: D), A ++ (⟨n, who, now + num⟩ :: D), 0, [], by unfold lres; simp only []; rw [if_neg k8, if_pos ho, if_neg k7]; rfl, by unfold lres; simp only []; rw [if_neg k8, if_pos ho, if_neg k7], SameL_mid ⟨e.f0, who, now + num⟩ ⟨n, who, now + num⟩ D ⟨hd.2.1 e rfl, rfl, rfl⟩ A⟩
      · exact ⟨A ++ (e :: D), A ++ (e :: D), 4, toldB e now, by unfold lres; simp only []; rw [if_neg k8, if_neg ho], by unfold lres; simp only []; rw [if_neg k8, if_neg ho], SameL_refl _⟩
theorem lsame_l0 : ∀ (a b X Y : List S40), X.length = Y.length → (X ++ a).length < 1000000000000000 → SameL a b → Ev (fun k => catenaryref08_Same.l0 k (X ++ a) (Y ++ b) ((X ++ a).length : Int) (X.length : Int)) true
  | [], [], X, Y, hXY, hl, _ => by
    have e1 : ¬ (X.length : Int) < ((X ++ ([] : List S40)).length : Int) := by simp
    refine ev_succ ?_
    simp only [catenaryref08_Same.l0, if_neg e1]
    exact Ev.now _
  | [], _ :: _, _, _, _, _, h => absurd h id
  | _ :: _, [], _, _, _, _, h => absurd h id
  | x :: a, y :: b, X, Y, hXY, hl, h => by
    have e1 : (X.length : Int) < ((X ++ x :: a).length : Int) := by rw [List.length_append, List.length_cons]; omega
    have e2 : (0 : Int) ≤ (X.length : Int) := by omega
    have e3 : (X.length : Int) < ((Y ++ y :: b).length : Int) := by rw [List.length_append, List.length_cons]; omega
    have r1 : rd_T40 (X ++ x :: a) (X.length : Int) = x := lgetD X x a
    have r2 : rd_T40 (Y ++ y :: b) (X.length : Int) = y := by rw [hXY]; exact lgetD Y y b
    have ew : wrap64 ((X.length : Int) + 1) = ((X.length + 1 : Nat) : Int) := w64 _ (by rw [List.length_append] at hl; omega)
    have es : catenaryref01_Same.f x.f0 y.f0 = some true := by rw [same_is, decide_eq_true h.1.1]
    have eb : (x.f2 != y.f2) = false := by rw [h.1.2.2]; exact bne_self_eq_false _
    have hl' : X.length < 1000000000000000 := by rw [List.length_append] at hl; omega
    have ih := lsame_l0 a b (X ++ [x]) (Y ++ [y]) (by simp [hXY]) (by simpa using hl) h.2
    have q1 : (X ++ [x]) ++ a = X ++ x :: a := by simp
    have q2 : (Y ++ [y]) ++ b = Y ++ y :: b := by simp
    have q3 : (X ++ [x]).length = X.length + 1 := by simp
    rw [q1, q2, q3] at ih
    refine ev_succ ?_
    simp only [catenaryref08_Same.l0, if_pos e1, if_pos e2, if_pos e3, r1, r2, es, Option.bind_some, if_true, if_pos h.1.2.1, eb]
    refine ev_succ ?_
    simp only [catenaryref08_Same.j1, Bool.false_eq_true, if_false, ew]
    exact ih
theorem SameL_len : ∀ {a b : List S40}, SameL a b → a.length = b.length
  | [], [], _ => rfl
  | [], _ :: _, h => absurd h id
  | _ :: _, [], h => absurd h id
  | _ :: a, _ :: b, h => by rw [List.length_cons, List.length_cons, SameL_len h.2]
theorem lsame_ev (a b : List S40) (hl : a.length < 1000000000000000) (h : SameL a b) : Ev (fun k => catenaryref08_Same.f k a b) true := by
  have e : (a.length : Int) = (b.length : Int) := by rw [SameL_len h]
  simp only [catenaryref08_Same.f, if_pos e]
  exact lsame_l0 a b [] [] rfl (by simpa using hl) h
theorem copyop (kd : Int) (n v w : List Int) (num : Int) (h1 : n.length < 140737488355328) (h2 : v.length < 140737488355328) (h3 : w.length < 140737488355328) : catenaryref07_CopyOp.f kd n v w num = some (kd, n, v, w, num) := by
  unfold catenaryref07_CopyOp.f
  simp only [Option.bind_some, List.length_nil, Nat.zero_add, if_pos h1, if_pos h2, if_pos h3, List.nil_append]
theorem same_self (a : List Int) : catenaryref01_Same.f a a = some true := by
  unfold catenaryref01_Same.f
  rw [beq_self_eq_true]
theorem sameop_self (kd : Int) (n v w : List Int) (num : Int) : catenaryref07_SameOp.f kd n v w num kd n v w num = some true := by
  unfold catenaryref07_SameOp.f
  rw [if_pos rfl, if_pos rfl]
  simp only [same_self, Option.bind_some, if_true]
theorem copy_l0 (l : List S40) (hx : l.length < 3518437208883) (hn : ∀ x ∈ l, x.f0.length < 140737488355328) : ∀ (d i : Nat) (acc : List S40), d + i = l.length → acc.length = i → Ev (fun k => catenaryref08_Copy.l0 k acc l (l.length : Int) (i : Int)) (acc ++ l.drop i)
  | 0, i, acc, hd, ha => by
    have e1 : ¬ (i : Int) < (l.length : Int) := by omega
    refine ev_succ ?_
    simp only [catenaryref08_Copy.l0, if_neg e1]
    rw [List.drop_eq_nil_of_le (by omega), List.append_nil]
    exact Ev.now _
  | d + 1, i, acc, hd, ha => by
    have hi : i < l.length := by omega
    have e1 : (i : Int) < (l.length : Int) := by omega
    have e2 : (0 : Int) ≤ (i : Int) := by omega
    have e3 : acc.length < 3518437208883 := by omega
    have ew : wrap64 ((i : Int) + 1) = ((i + 1 : Nat) : Int) := w64 i (by omega)
    have en : ([] : List Int).length + (l[i]).f0.length < 140737488355328 := by
      have := hn _ (List.getElem_mem hi)
      rw [List.length_nil]; omega
    have ih := copy_l0 l hx hn d (i + 1) (acc ++ [l[i]]) (by omega) (by rw [List.length_append, ha]; rfl)
    rw [List.append_assoc, List.singleton_append] at ih
    rw [List.drop_eq_getElem_cons hi]
    refine ev_succ ?_
    simp only [catenaryref08_Copy.l0, if_pos e1, if_pos e2, rdT l i hi, Option.bind_some, if_pos e3, if_pos en, List.nil_append, ew]
    exact ih
theorem copy_ev (l : List S40) (hx : l.length < 3518437208883) (hn : ∀ x ∈ l, x.f0.length < 140737488355328) : Ev (fun k => catenaryref08_Copy.f k l) l := by
  simp only [catenaryref08_Copy.f]
  exact copy_l0 l hx hn l.length 0 [] (by omega) rfl
theorem alive : Ev (fun k => catenarylaw08_leaseAlive.f k) true := Ev.of catenarylaw08_leaseAlive.mono (k := 60) (by kernel_rfl)
theorem ev_rounds {α : Type} {g : Nat → Option α} {r : α} (h : Ev g r) : ∃ k, g k = some r := by
  obtain ⟨K, hK⟩ := h
  exact ⟨K, hK K (Nat.le_refl _)⟩
theorem lres_len (A D : List S40) (P : Option S40) (nm : List Int) (who now kd : Int) (n : List Int) (num : Int) : (lres A D P nm who now kd n num).1.length ≤ A.length + D.length + 1 := by
  unfold lres
  cases P with
  | none => dsimp only; repeat' split
            all_goals (simp only [List.length_append, List.length_cons]; omega)
  | some e => dsimp only; repeat' split
              all_goals (simp only [List.length_append, List.length_cons]; omega)
theorem ldo_same2 (l : List S40) (hx : l.length < 3518437208883) (hn : ∀ x ∈ l, x.f0.length < 140737488355328) (who now : Int) (kd : Int) (n v w : List Int) (num : Int) :
    ∃ a b c t, Ev (fun k => lease_Do.f k l kd n v w num who now) (a, c, t) ∧ Ev (fun k => catenaryref08_Do.f k l kd n v w num who now) (b, c, t) ∧ SameL a b ∧ a.length < 1000000000000000 := by
  by_cases h : okDo l kd n v w num who now
  · obtain ⟨hR, b1, b2, b3, b4, b5⟩ := h
    have hRl := live_right hR now
    have hv : ∀ x ∈ live now l, x.f2 > now := fun x hx => by simpa [live] using (List.mem_filter.1 hx).2
    obtain ⟨A, P, D, e, hd⟩ := l_split (live now l) hRl.2.1 (by have := hRl.2.2; omega) n
    have hw : liveN now n l = A ++ D := by unfold liveN; rw [e]; exact without_dec A D P n hd
    rw [e] at hRl hv
    have g1 := ltail l A D P hRl who now hv kd n v w num hd b1 b2 b4 b5
    have g2 := rltail l A D P hRl who now hv kd n v w num hd b1 b2 b4 b5
    have hlen := lres_len A D P (nameOf P) who now kd n num
    obtain ⟨a, b, c, t, q1, q2, q3⟩ := lres_same A D P who now kd n num hd
    rw [q1] at g1 hlen
    rw [q2] at g2
    have h16 := hRl.2.2
    rw [List.length_append, List.length_append] at h16
    have hlen' : a.length ≤ A.length + D.length + 1 := hlen
    exact ⟨a, b, c, t, do_any l hx hn who now kd n v w num _ (fun _ => by rw [e]; exact g1) (fun q => absurd ⟨hR, b1, b2, b3, b4, b5⟩ q), rl_any l hx who now kd n v w num _ (fun _ => by rw [e, hw]; exact g2) (fun q => absurd ⟨hR, b1, b2, b3, b4, b5⟩ q), q3, by omega⟩
  · exact ⟨l, l, 5, [], do_any l hx hn who now kd n v w num _ (fun q => absurd q h) (fun _ => rfl), rl_any l hx who now kd n v w num _ (fun q => absurd q h) (fun _ => rfl), SameL_refl l, by omega⟩
theorem ld_l0 (l : List S40) (hx : l.length < 1000000000000000) (out : List S40) (ho : out.length < 1000000000000000) (kd : Int) (n v w : List Int) (num : Int) : ∀ (d i : Nat), d + i = out.length → Ev (fun k => catenarylaw08_LeaseDoes.l0 k l l out (out.length : Int) (i : Int) kd n v w num kd n v w num) true
  | 0, i, hd => by
    have e1 : ¬ (i : Int) < (out.length : Int) := by omega
    refine ev_succ ?_
    simp only [catenarylaw08_LeaseDoes.l0, if_neg e1]
    refine Ev.bind (lsame_ev l l hx (SameL_refl l)) ?_
    simp only [if_true, sameop_self, Option.bind_some]
    exact Ev.now _
  | d + 1, i, hd => by
    have e1 : (i : Int) < (out.length : Int) := by omega
    have e2 : (0 : Int) ≤ (i : Int) := by omega
    have ew : wrap64 ((i : Int) + 1) = ((i + 1 : Nat) : Int) := w64 i (by omega)
    refine ev_succ ?_
    simp only [catenarylaw08_LeaseDoes.l0, if_pos e1, if_pos e2, ew]
    exact ld_l0 l hx out ho kd n v w num d (i + 1) (by omega)
theorem lsameres (c : Int) (v : List Int) : catenaryref07_SameResult.f c v c v = some true := by
  unfold catenaryref07_SameResult.f
  rw [if_pos rfl, same_self]
  rfl
theorem LeaseDoes : catenarylaw08_LeaseDoes.Pure := by
  intro l kd n v w num who now gl _ g1 g2 g3 _ _ _
  apply ev_rounds
  have hx : l.length < 3518437208883 := by have := gl.2.1; omega
  have hn : ∀ x ∈ l, x.f0.length < 140737488355328 := fun x hx => by have := (gl.2.2 x hx).1.2.1; omega
  have ca := copyop kd n v w num (by have := g1.2.1; omega) (by have := g2.2.1; omega) (by have := g3.2.1; omega)
  obtain ⟨a, b, c, t, h1, h2, hs, ha⟩ := ldo_same2 l hx hn who now kd n v w num
  simp only [catenarylaw08_LeaseDoes.f]
  refine Ev.bind alive ?_
  simp only [if_true]
  refine Ev.bind (copy_ev l hx hn) ?_
  simp only [ca, Option.bind_some]
  refine Ev.bind h1 ?_
  refine Ev.bind h2 ?_
  refine Ev.bind (holder_ev l (by omega) n now) ?_
  refine Ev.bind (rholder_ev l (by omega) n now) ?_
  have last : Ev (fun k => (catenaryref08_Same.f k a b).bind fun t428 => (if t428 = true then ((catenaryref07_SameResult.f c t c t).bind fun t429 => (if t429 = true then (if True then (catenarylaw08_LeaseDoes.j0 k l l a false kd n v w num kd n v w num) else (catenarylaw08_LeaseDoes.j0 k l l a true kd n v w num kd n v w num)) else (catenarylaw08_LeaseDoes.j0 k l l a true kd n v w num kd n v w num))) else (catenarylaw08_LeaseDoes.j0 k l l a true kd n v w num kd n v w num))) true := by
    refine Ev.bind (lsame_ev a b ha hs) ?_
    simp only [if_true, lsameres, Option.bind_some]
    refine ev_succ ?_
    simp only [catenarylaw08_LeaseDoes.j0, Bool.false_eq_true, if_false]
    exact ld_l0 l (by omega) a ha kd n v w num a.length 0 (by omega)
  rcases Right_ev l (by omega) with ⟨r1, q1⟩ | ⟨r1, q1⟩
  · rcases rlRight_ev l (by omega) with ⟨r2, q2⟩ | ⟨r2, q2⟩
    · refine Ev.bind r1 ?_
      refine Ev.bind r2 ?_
      simp only [bne_self_eq_false, Bool.false_eq_true, if_false]
      exact last
    · exact absurd q1 q2
  · rcases rlRight_ev l (by omega) with ⟨r2, q2⟩ | ⟨r2, q2⟩
    · exact absurd q2 q1
    · refine Ev.bind r1 ?_
      refine Ev.bind r2 ?_
      simp only [bne_self_eq_false, Bool.false_eq_true, if_false]
      exact last
end Go.Proofs.Ytkomibcmpckflaa.Pure
