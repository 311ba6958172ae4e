/- The pure statement. -/
import Derived.Test.YtkomibcmpckflaaPLeaseKeepsx8
import Derived.Lib.Bytes
namespace Go.Proofs.Ytkomibcmpckflaa.Pure
open Go Go.RowKit Go.Proofs.Ytkomibcmpckflaa.PLeaseKeeps Go.Proofs.YtkomibcmpckflaaW.PrintWords Go.Proofs.YtkomibcmpckflaaW.PrintLast Go.Proofs.YtkomibcmpckflaaW.PrintMore
set_option linter.unusedVariables false
set_option linter.unusedSimpArgs false
theorem w64 (i : Nat) (h : i < 1000000000000000000) : wrap64 ((i : Int) + 1) = ((i + 1 : Nat) : Int) := by unfold wrap64; omega
theorem ev_succ {α : Type} {g : Nat → Option α} {r : α} (h : Ev (fun k => g (k + 1)) r) : Ev g r := Ev.step (fun _ => rfl) h
theorem rdL (xs : List (List Int)) (i : Nat) (h : i < xs.length) : rd_L1 xs (i : Int) = xs[i] := by
  unfold rd_L1
  rw [Int.toNat_natCast, List.getD_eq_getElem?_getD, List.getElem?_eq_getElem h]; rfl
def enc : Nat → Int → List Int
  | 0, x => [x % 256]
  | n + 1, x => if x ≥ 128 then Go.bits .or .u8 (x % 256) 128 :: enc n (x / 128) else [x % 256]
theorem enc_pos (n : Nat) (x : Int) (h : x ≥ 128) : enc (n + 1) x = [Go.bits .or .u8 (x % 256) 128] ++ enc n (x / 128) := by
  show (if x ≥ 128 then Go.bits .or .u8 (x % 256) 128 :: enc n (x / 128) else [x % 256]) = _
  rw [if_pos h]; rfl
theorem enc_len : ∀ n x, (enc n x).length ≤ n + 1
  | 0, _ => Nat.le_refl _
  | n + 1, x => by
    unfold enc
    split
    · have := enc_len n (x / 128); rw [List.length_cons]; omega
    · simp
theorem int_l0 : ∀ (n : Nat) (x : Int) (acc : List Int), 0 ≤ x → x < 128 ^ (n + 1) → acc.length + n < 1000 → Ev (fun k => octet_Int.l0 k x acc) (acc ++ enc n x, 0)
  | 0, x, acc, h0, h1, h2 => by
    apply ev_succ
    have e1 : ¬ x ≥ 128 := by omega
    have e2 : acc.length < 140737488355328 := by omega
    simp only [octet_Int.l0, if_neg e1, if_pos e2]
    exact Ev.now _
  | n + 1, x, acc, h0, h1, h2 => by
    apply ev_succ
    have e2 : acc.length < 140737488355328 := by omega
    by_cases e1 : x ≥ 128
    · simp only [octet_Int.l0, if_pos e1, if_pos e2]
      have := int_l0 n (x / 128) (acc ++ [Go.bits .or .u8 (x % 256) 128]) (by omega) (by
        have e : (128 : Int) ^ (n + 1 + 1) = 128 ^ (n + 1) * 128 := Int.pow_succ _ _
        rw [e] at h1
        exact Int.ediv_lt_of_lt_mul (by decide) h1) (by simp; omega)
      rw [List.append_assoc] at this
      rw [enc_pos n x e1]
      exact this
    · simp only [octet_Int.l0, if_neg e1, if_pos e2]
      rw [show enc (n + 1) x = [x % 256] by unfold enc; rw [if_neg e1]]
      exact Ev.now _
theorem int_ev (x : Int) (h0 : 0 ≤ x) (h1 : x ≤ 2147483647) : Ev (fun k => octet_Int.f k x) (enc 4 x, 0) := by
  have e1 : ¬ x < 0 := by omega
  have e2 : decide (x > 2147483647) = false := decide_eq_false (by omega)
  simp only [octet_Int.f, if_neg e1, e2]
  apply ev_succ
  simp only [octet_Int.j0, Bool.false_eq_true, if_false]
  exact int_l0 4 x [] h0 (by omega) (by decide)
theorem cat_l1 (xs : List (List Int)) (hx : xs.length < 1000) : ∀ (d i : Nat) (acc : List Int), d + i = xs.length → acc.length + (xs.drop i).flatten.length < 140737488355328 →
    Ev (fun k => slices_Concat_byte_byte.l1 k acc xs (xs.length : Int) (i : Int)) (acc ++ (xs.drop i).flatten)
  | 0, i, acc, hd, hl => by
    apply ev_succ
    have e1 : ¬ (i : Int) < (xs.length : Int) := by omega
    simp only [slices_Concat_byte_byte.l1, if_neg e1]
    rw [List.drop_eq_nil_of_le (by omega)]
    rw [List.flatten_nil, List.append_nil]
    exact Ev.now _
  | d + 1, i, acc, hd, hl => by
    apply ev_succ
    have hi : i < xs.length := by omega
    have e1 : (i : Int) < (xs.length : Int) := by omega
    have e2 : (0 : Int) ≤ (i : Int) := by omega
    rw [List.drop_eq_getElem_cons hi, List.flatten_cons] at hl ⊢
    rw [List.length_append] at hl
    have e3 : acc.length + (xs[i]).length < 140737488355328 := by omega
    simp only [slices_Concat_byte_byte.l1, if_pos e1, if_pos e2, rdL xs i hi, if_pos e3, w64 i (by omega)]
    have := cat_l1 xs hx d (i + 1) (acc ++ xs[i]) (by omega) (by rw [List.length_append]; omega)
    rw [List.append_assoc] at this
    exact this
theorem cat_l0 (xs : List (List Int)) (hx : xs.length < 1000) (r : List Int) (h : ∀ s : Nat, s < 140737488355328 → Ev (fun k => (slices_Grow_byte_byte.f () (s : Int)).bind fun t117 => (slices_Concat_byte_byte.l1 k t117 xs (xs.length : Int) 0)) r) :
    ∀ (d i s : Nat), d + i = xs.length → s + (xs.drop i).flatten.length < 140737488355328 →
    Ev (fun k => slices_Concat_byte_byte.l0 k xs (s : Int) xs (xs.length : Int) (i : Int)) r
  | 0, i, s, hd, hl => by
    apply ev_succ
    have e1 : ¬ (i : Int) < (xs.length : Int) := by omega
    simp only [slices_Concat_byte_byte.l0, if_neg e1]
    exact h s (by omega)
  | d + 1, i, s, hd, hl => by
    apply ev_succ
    have hi : i < xs.length := by omega
    have e1 : (i : Int) < (xs.length : Int) := by omega
    have e2 : (0 : Int) ≤ (i : Int) := by omega
    rw [List.drop_eq_getElem_cons hi, List.flatten_cons, List.length_append] at hl
    have e3 : wrap64 ((s : Int) + ((xs[i]).length : Int)) = ((s + (xs[i]).length : Nat) : Int) := by unfold wrap64; omega
    have e4 : ¬ ((s + (xs[i]).length : Nat) : Int) < 0 := by omega
    simp only [slices_Concat_byte_byte.l0, if_pos e1, if_pos e2, rdL xs i hi, e3, if_neg e4, w64 i (by omega)]
    exact cat_l0 xs hx r h d (i + 1) (s + (xs[i]).length) (by omega) (by omega)
theorem cat_ev (xs : List (List Int)) (hx : xs.length < 1000) (hl : xs.flatten.length < 140737488355328) : Ev (fun k => slices_Concat_byte_byte.f k xs) xs.flatten := by
  simp only [slices_Concat_byte_byte.f]
  refine cat_l0 xs hx _ (fun s hs => ?_) xs.length 0 0 (by omega) (by simpa using hl)
  have e1 : (0 : Int) ≤ (s : Int) := by omega
  have e2 : ((s : Int)).toNat < 140737488355328 := by omega
  simp only [slices_Grow_byte_byte.f, if_pos e1, if_pos e2, Option.bind_some]
  exact cat_l1 xs hx xs.length 0 [] (by omega) (by simpa using hl)
theorem bytes_ev (l : List Int) (h : l.length ≤ 1000) : Ev (fun k => octet_Bytes.f k l) (enc 4 (l.length : Int) ++ l) := by
  simp only [octet_Bytes.f]
  refine Ev.bind (int_ev (l.length : Int) (by omega) (by omega)) ?_
  have := enc_len 4 (l.length : Int)
  refine Ev.bind (cat_ev [enc 4 (l.length : Int), l] (by simp) (by simp; omega)) ?_
  simp only [List.flatten_cons, List.flatten_nil, List.append_nil]
  exact Ev.now _
def packed (xs : List (List Int)) : List Int := (xs.map (fun l => enc 4 (l.length : Int) ++ l)).flatten
theorem pack_l0 (xs : List (List Int)) (hx : xs.length < 1000) (hb : ∀ x ∈ xs, x.length ≤ 1000) : ∀ (d i : Nat) (acc : List Int), d + i = xs.length → acc.length + d * 1005 < 140737488355328 →
    Ev (fun k => octet_Pack.l0 k acc xs (xs.length : Int) (i : Int)) (acc ++ packed (xs.drop i))
  | 0, i, acc, hd, hl => by
    apply ev_succ
    have e1 : ¬ (i : Int) < (xs.length : Int) := by omega
    simp only [octet_Pack.l0, if_neg e1]
    rw [List.drop_eq_nil_of_le (by omega)]
    rw [show packed [] = [] from rfl, List.append_nil]
    exact Ev.now _
  | d + 1, i, acc, hd, hl => by
    apply ev_succ
    have hi : i < xs.length := by omega
    have e1 : (i : Int) < (xs.length : Int) := by omega
    have e2 : (0 : Int) ≤ (i : Int) := by omega
    have hb1 := hb xs[i] (List.getElem_mem hi)
    have hn := enc_len 4 ((xs[i]).length : Int)
    rw [List.drop_eq_getElem_cons hi]
    have e3 : acc.length + (enc 4 ((xs[i]).length : Int) ++ xs[i]).length < 140737488355328 := by rw [List.length_append]; omega
    simp only [octet_Pack.l0, if_pos e1, if_pos e2, rdL xs i hi]
    refine Ev.bind (bytes_ev xs[i] hb1) ?_
    simp only [if_pos e3, w64 i (by omega)]
    have := pack_l0 xs hx hb d (i + 1) (acc ++ (enc 4 ((xs[i]).length : Int) ++ xs[i])) (by omega) (by rw [List.length_append, List.length_append]; omega)
    rw [List.append_assoc] at this
    exact this
theorem pack_ev (xs : List (List Int)) (hx : xs.length < 1000) (hb : ∀ x ∈ xs, x.length ≤ 1000) : Ev (fun k => octet_Pack.f k xs) (packed xs) := by
  simp only [octet_Pack.f]
  exact pack_l0 xs hx hb xs.length 0 [] (by omega) (by simp; omega)
def kindB (kd num : Int) : Bool := if kd = 5 ∨ kd = 6 then decide (num ≥ 1) && decide (num ≤ 1000) else decide (num = 0)
def rightB (kd : Int) (n v w : List Int) (num : Int) : Bool :=
  decide ((n.length : Int) ≥ 1) && decide ((n.length : Int) ≤ 16) && decide ((v.length : Int) ≤ 64) && decide ((w.length : Int) ≤ 64) && decide (kd ≥ 1) && decide (kd ≤ 8) &&
  (decide ((v.length : Int) = 0) || decide (kd = 2) || decide (kd = 3)) && (decide ((w.length : Int) = 0) || decide (kd = 3)) && kindB kd num
theorem right3 (k : Nat) (x3 x4 x5 x62 : Bool) (kd : Int) (n v w : List Int) (num : Int) : kv_right.j3 (k + 1) x3 x4 x5 (num == 0) x62 kd n v w num = some (decide (kd ≥ 1) && decide (kd ≤ 8) && x3 && x4 && x5 && (if x62 = true then decide (num ≥ 1) && decide (num ≤ 1000) else decide (num = 0))) := by
  by_cases h1 : kd ≥ 1 <;> by_cases h2 : kd ≤ 8 <;> by_cases h3 : num ≥ 1 <;> cases x3 <;> cases x4 <;> cases x5 <;> cases x62 <;> simp [kv_right.j3, h1, h2, h3]
  all_goals by_cases h4 : num = 0 <;> simp [h4]
theorem right2 (k : Nat) (x3 x4 x5 : Bool) (kd : Int) (n v w : List Int) (num : Int) : kv_right.j2 (k + 2) x3 x4 x5 kd n v w num = some (decide (kd ≥ 1) && decide (kd ≤ 8) && x3 && x4 && x5 && kindB kd num) := by
  unfold kindB
  simp only [kv_right.j2]
  by_cases h5 : kd = 5
  · rw [if_pos h5, right3, if_pos (Or.inl h5), if_pos rfl]
  · rw [if_neg h5, right3]
    by_cases h6 : kd = 6
    · rw [if_pos (Or.inr h6), if_pos (by rw [h6]; rfl)]
    · rw [if_neg (show ¬ (kd == 6) = true by simpa using h6), if_neg (by omega)]
theorem right1 (k : Nat) (x3 x4 : Bool) (kd : Int) (n v w : List Int) (num : Int) : kv_right.j1 (k + 3) x3 x4 kd n v w num = some (decide (kd ≥ 1) && decide (kd ≤ 8) && x3 && x4 && (decide ((w.length : Int) = 0) || decide (kd = 3)) && kindB kd num) := by
  simp only [kv_right.j1]
  by_cases h5 : (w.length : Int) = 0
  · rw [if_pos h5, right2, decide_eq_true h5, Bool.true_or]
  · rw [if_neg h5, right2, decide_eq_false h5, Bool.false_or]; rfl
theorem right0 (k : Nat) (x3 : Bool) (kd : Int) (n v w : List Int) (num : Int) : kv_right.j0 (k + 4) x3 kd n v w num = some (decide (kd ≥ 1) && decide (kd ≤ 8) && x3 && (decide ((v.length : Int) = 0) || decide (kd = 2) || decide (kd = 3)) && (decide ((w.length : Int) = 0) || decide (kd = 3)) && kindB kd num) := by
  simp only [kv_right.j0]
  by_cases h5 : (v.length : Int) = 0
  · rw [if_pos h5, right1, decide_eq_true h5, Bool.true_or, Bool.true_or]
  · rw [if_neg h5, decide_eq_false h5, Bool.false_or]
    by_cases h6 : kd = 2
    · rw [if_pos h6, right1, decide_eq_true h6, Bool.true_or]
    · rw [if_neg h6, right1, decide_eq_false h6, Bool.false_or]; rfl
theorem right_ev (kd : Int) (n v w : List Int) (num : Int) : Ev (fun k => kv_right.f k kd n v w num) (rightB kd n v w num) := by
  refine ⟨4, fun k hk => ?_⟩
  obtain ⟨k, rfl⟩ : ∃ m, k = m + 4 := ⟨k - 4, by omega⟩
  unfold kv_right.f rightB
  simp only [right0]
  by_cases h1 : (n.length : Int) ≥ 1 <;> by_cases h2 : (n.length : Int) ≤ 16 <;> by_cases h3 : (v.length : Int) ≤ 64 <;> by_cases h4 : (w.length : Int) ≤ 64 <;> simp only [if_pos, h1, h2, h3, h4, decide_true, decide_false, Bool.and_true, Bool.true_and, Bool.and_false, Bool.false_and, if_false]
def opBytes (kd : Int) (n v w : List Int) (num : Int) : List Int := enc 4 kd ++ packed [n, v, w] ++ enc 4 num
theorem write_ev (kd : Int) (n v w : List Int) (num : Int) : Ev (fun k => kv_Write.f k kd n v w num) (if rightB kd n v w num = true then (opBytes kd n v w num, 0) else ([], 71)) := by
  simp only [kv_Write.f]
  refine Ev.bind (right_ev kd n v w num) ?_
  by_cases h : rightB kd n v w num = true
  · simp only [if_pos h]
    have hk : 1 ≤ kd ∧ kd ≤ 8 ∧ 0 ≤ num ∧ num ≤ 1000 ∧ n.length ≤ 16 ∧ v.length ≤ 64 ∧ w.length ≤ 64 := by
      unfold rightB at h
      simp only [Bool.and_eq_true, decide_eq_true_eq] at h
      obtain ⟨⟨⟨⟨⟨⟨⟨⟨a1, a2⟩, a3⟩, a4⟩, a5⟩, a6⟩, a7⟩, a8⟩, a9⟩ := h
      unfold kindB at a9
      refine ⟨a5, a6, ?_, ?_, by omega, by omega, by omega⟩
      · split at a9 <;> simp only [Bool.and_eq_true, decide_eq_true_eq] at a9 <;> omega
      · split at a9 <;> simp only [Bool.and_eq_true, decide_eq_true_eq] at a9 <;> omega
    obtain ⟨b1, b2, b3, b4, b5, b6, b7⟩ := hk
    refine Ev.bind (int_ev kd (by omega) (by omega)) ?_
    refine Ev.bind (int_ev num (by omega) (by omega)) ?_
    have hb : ∀ x ∈ [n, v, w], x.length ≤ 1000 := by
      intro x hx
      simp only [List.mem_cons, List.not_mem_nil, or_false] at hx
      rcases hx with rfl | rfl | rfl <;> omega
    refine Ev.bind (pack_ev [n, v, w] (by simp) hb) ?_
    have l1 := enc_len 4 kd
    have l2 := enc_len 4 num
    have l3 := enc_len 4 (n.length : Int)
    have l4 := enc_len 4 (v.length : Int)
    have l5 := enc_len 4 (w.length : Int)
    refine Ev.bind (cat_ev [enc 4 kd, packed [n, v, w], enc 4 num] (by simp) (by simp [packed]; omega)) ?_
    rw [show [enc 4 kd, packed [n, v, w], enc 4 num].flatten = opBytes kd n v w num by simp [opBytes]]
    exact Ev.now _
  · simp only [if_neg h]
    exact Ev.now _


theorem cmp_refl : ∀ a : List UInt8, Lib.compareBytes a a = 0
  | [] => rfl
  | a :: ar => by unfold Lib.compareBytes; rw [if_neg (by simp), if_neg (by simp)]; exact cmp_refl ar
theorem cmp_eq0 : ∀ a b : List UInt8, Lib.compareBytes a b = 0 → a = b
  | [], [], _ => rfl
  | [], _ :: _, h => by simp [Lib.compareBytes] at h
  | _ :: _, [], h => by simp [Lib.compareBytes] at h
  | a :: ar, b :: bs, h => by
    unfold Lib.compareBytes at h
    split at h
    · cases h
    · split at h
      · cases h
      · rw [cmp_eq0 ar bs h]
        congr 1
        rename_i h1 h2
        exact UInt8.le_antisymm (UInt8.not_lt.1 h2) (UInt8.not_lt.1 h1)
theorem cmp_neg : ∀ a b : List UInt8, Lib.compareBytes b a = - Lib.compareBytes a b
  | [], [] => rfl
  | [], _ :: _ => by simp [Lib.compareBytes]
  | _ :: _, [] => by simp [Lib.compareBytes]
  | a :: ar, b :: bs => by
    unfold Lib.compareBytes
    by_cases h1 : a < b
    · rw [if_neg (UInt8.lt_asymm h1), if_pos h1, if_pos h1]; rfl
    · by_cases h2 : b < a
      · rw [if_pos h2, if_neg h1, if_pos h2]
      · rw [if_neg h2, if_neg h1, if_neg h1, if_neg h2]; exact cmp_neg ar bs
theorem cmp_trans : ∀ a b c : List UInt8, Lib.compareBytes a b < 0 → Lib.compareBytes b c < 0 → Lib.compareBytes a c < 0
  | [], _, [], h1, h2 => by
    rename_i b
    cases b with
    | nil => simp [Lib.compareBytes] at h1
    | cons x xs => simp [Lib.compareBytes] at h2
  | [], _, _ :: _, _, _ => by simp [Lib.compareBytes]
  | _ :: _, [], _, h1, _ => by simp [Lib.compareBytes] at h1
  | _ :: _, _ :: _, [], _, h2 => by simp [Lib.compareBytes] at h2
  | a :: ar, b :: bs, c :: cs, h1, h2 => by
    unfold Lib.compareBytes at h1 h2 ⊢
    by_cases h : a < c
    · rw [if_pos h]; decide
    · rw [if_neg h]
      by_cases g : c < a
      · exfalso
        by_cases p : a < b
        · by_cases q : b < c
          · exact h (UInt8.lt_trans p q)
          · rw [if_neg q] at h2
            by_cases q' : c < b
            · rw [if_pos q'] at h2; omega
            · have : b = c := UInt8.le_antisymm (UInt8.not_lt.1 q') (UInt8.not_lt.1 q)
              subst this
              exact h p
        · rw [if_neg p] at h1
          by_cases p' : b < a
          · rw [if_pos p'] at h1; omega
          · have : a = b := UInt8.le_antisymm (UInt8.not_lt.1 p') (UInt8.not_lt.1 p)
            subst this
            rw [if_neg h, if_pos g] at h2; omega
      · rw [if_neg g]
        have : a = c := UInt8.le_antisymm (UInt8.not_lt.1 g) (UInt8.not_lt.1 h)
        subst this
        by_cases p : a < b
        · rw [if_neg (UInt8.lt_asymm p), if_pos p] at h2; omega
        · rw [if_neg p] at h1
          by_cases p' : b < a
          · rw [if_pos p'] at h1; omega
          · rw [if_neg p'] at h1
            rw [if_neg p', if_neg p] at h2
            exact cmp_trans ar bs cs h1 h2
theorem cmp_vals (a b : List UInt8) : Lib.compareBytes a b = -1 ∨ Lib.compareBytes a b = 0 ∨ Lib.compareBytes a b = 1 := by
  induction a generalizing b with
  | nil => cases b <;> simp [Lib.compareBytes]
  | cons a ar ih =>
    cases b with
    | nil => simp [Lib.compareBytes]
    | cons b bs =>
      unfold Lib.compareBytes
      split
      · simp
      · split
        · simp
        · exact ih bs
theorem right_bounds {kd : Int} {n v w : List Int} {num : Int} (h : rightB kd n v w num = true) : 1 ≤ kd ∧ kd ≤ 8 ∧ 0 ≤ num ∧ num ≤ 1000 ∧ n.length ≤ 16 ∧ v.length ≤ 64 ∧ w.length ≤ 64 := by
  unfold rightB at h
  simp only [Bool.and_eq_true, decide_eq_true_eq] at h
  obtain ⟨⟨⟨⟨⟨⟨⟨⟨a1, a2⟩, a3⟩, a4⟩, a5⟩, a6⟩, a7⟩, a8⟩, a9⟩ := h
  unfold kindB at a9
  refine ⟨a5, a6, ?_, ?_, by omega, by omega, by omega⟩
  · split at a9 <;> simp only [Bool.and_eq_true, decide_eq_true_eq] at a9 <;> omega
  · split at a9 <;> simp only [Bool.and_eq_true, decide_eq_true_eq] at a9 <;> omega
def cmpI (a b : List Int) : Int := Lib.compareBytes (strOfNums a).data.toList (strOfNums b).data.toList
theorem cmpI_self (a : List Int) : cmpI a a = 0 := cmp_refl _
theorem cmpI_neg (a b : List Int) : cmpI b a = - cmpI a b := cmp_neg _ _
theorem cmpI_trans {a b c : List Int} (h1 : cmpI a b < 0) (h2 : cmpI b c < 0) : cmpI a c < 0 := cmp_trans _ _ _ h1 h2
theorem cmpI_eq {a b : List Int} (h : cmpI a b = 0) (c : List Int) : cmpI a c = cmpI b c := by
  unfold cmpI at *
  rw [cmp_eq0 _ _ h]
theorem rdT (xs : List S40) (i : Nat) (h : i < xs.length) : rd_T40 xs (i : Int) = xs[i] := by
  unfold rd_T40
  rw [Int.toNat_natCast, List.getD_eq_getElem?_getD, List.getElem?_eq_getElem h]; rfl
theorem mid_eq (lo hi : Nat) (h : lo < hi) (hh : hi < 4611686018427387904) : wrap64 ((IntKind.u64.wrap (wrap64 ((lo : Int) + (hi : Int)))) / 2) = (((lo + hi) / 2 : Nat) : Int) := by
  have e : IntKind.u64.wrap (wrap64 ((lo : Int) + (hi : Int))) = (lo : Int) + hi := by
    simp only [IntKind.wrap, IntKind.bits, IntKind.signed, wrap64]
    simp
    omega
  rw [e]; unfold wrap64; omega
def Sorted (l : List S40) : Prop := l.Pairwise (fun x y => cmpI x.f0 y.f0 < 0)
theorem sorted_at {l : List S40} (hs : Sorted l) {i j : Nat} (hj : j < l.length) (hij : i < j) : cmpI (l[i]'(by omega)).f0 (l[j]).f0 < 0 := List.pairwise_iff_getElem.1 hs i j (by omega) hj hij
theorem search_l0 (l : List S40) (n : List Int) (hs : Sorted l) (hx : l.length < 1000000) : ∀ (d lo hi : Nat), hi - lo ≤ d → lo ≤ hi → hi ≤ l.length → (∀ j (h : j < l.length), j < lo → cmpI (l[j]).f0 n < 0) → (∀ j (h : j < l.length), hi ≤ j → ¬ cmpI (l[j]).f0 n < 0) →
    ∃ i : Nat, i ≤ l.length ∧ (∀ j (h : j < l.length), j < i → cmpI (l[j]).f0 n < 0) ∧ (∀ j (h : j < l.length), i ≤ j → ¬ cmpI (l[j]).f0 n < 0) ∧
      Ev (fun k => api_Lease_byte.l0 k l n (l.length : Int) (lo : Int) (hi : Int)) ((i : Int), (if h : i < l.length then cmpI (l[i]).f0 n == 0 else false))
  | d, lo, hi, hd, hlh, hhl, hlo, hhi => by
    by_cases hlt : lo < hi
    · have hm := mid_eq lo hi hlt (by omega)
      have hml : (lo + hi) / 2 < l.length := by omega
      have e1 : (lo : Int) < (hi : Int) := by omega
      have e2 : (0 : Int) ≤ (((lo + hi) / 2 : Nat) : Int) := by omega
      have e3 : (((lo + hi) / 2 : Nat) : Int) < (l.length : Int) := by omega
      have ed : lease_Do_1.f (l[(lo + hi) / 2]).f0 (l[(lo + hi) / 2]).f1 (l[(lo + hi) / 2]).f2 n = some (cmpI (l[(lo + hi) / 2]).f0 n) := rfl
      have ew : wrap64 ((((lo + hi) / 2 : Nat) : Int) + 1) = (((lo + hi) / 2 + 1 : Nat) : Int) := w64 _ (by omega)
      cases d with
      | zero => omega
      | succ d =>
        by_cases hc : cmpI (l[(lo + hi) / 2]).f0 n < 0
        · obtain ⟨i, h1, h2, h3, h4⟩ := search_l0 l n hs hx d ((lo + hi) / 2 + 1) hi (by omega) (by omega) hhl (fun j h hj => by
            by_cases hq : j = (lo + hi) / 2
            · subst hq; exact hc
            · exact cmpI_trans (sorted_at hs hml (by omega)) hc) hhi
          refine ⟨i, h1, h2, h3, ?_⟩
          refine ev_succ ?_
          simp only [api_Lease_byte.l0, if_pos e1, hm, if_pos e2, if_pos e3, rdT l _ hml, ed, Option.bind_some, if_pos hc, ew]
          exact h4
        · obtain ⟨i, h1, h2, h3, h4⟩ := search_l0 l n hs hx d lo ((lo + hi) / 2) (by omega) (by omega) (by omega) hlo (fun j h hj hq => by
            by_cases hq2 : j = (lo + hi) / 2
            · subst hq2; exact hc hq
            · exact hc (cmpI_trans (sorted_at hs h (by omega)) hq))
          refine ⟨i, h1, h2, h3, ?_⟩
          refine ev_succ ?_
          simp only [api_Lease_byte.l0, if_pos e1, hm, if_pos e2, if_pos e3, rdT l _ hml, ed, Option.bind_some, if_neg hc]
          exact h4
    · have : lo = hi := by omega
      subst this
      have e1 : ¬ (lo : Int) < (lo : Int) := by omega
      refine ⟨lo, hhl, hlo, hhi, ?_⟩
      refine ev_succ ?_
      by_cases hl : lo < l.length
      · have e2 : (lo : Int) < (l.length : Int) := by omega
        have e3 : (0 : Int) ≤ (lo : Int) := by omega
        have ed : lease_Do_1.f (l[lo]).f0 (l[lo]).f1 (l[lo]).f2 n = some (cmpI (l[lo]).f0 n) := rfl
        simp only [api_Lease_byte.l0, if_neg e1, if_pos e2, if_pos e3, rdT l lo hl, ed, Option.bind_some, dif_pos hl]
        exact Ev.now _
      · have e2 : ¬ (lo : Int) < (l.length : Int) := by omega
        simp only [api_Lease_byte.l0, if_neg e1, if_neg e2, dif_neg hl]
        exact Ev.now _
theorem search_ev (l : List S40) (n : List Int) (hs : Sorted l) (hx : l.length < 1000000) :
    ∃ i : Nat, i ≤ l.length ∧ (∀ j (h : j < l.length), j < i → cmpI (l[j]).f0 n < 0) ∧ (∀ j (h : j < l.length), i ≤ j → ¬ cmpI (l[j]).f0 n < 0) ∧
      Ev (fun k => api_Lease_byte.f k l n ()) ((i : Int), (if h : i < l.length then cmpI (l[i]).f0 n == 0 else false)) := by
  simp only [api_Lease_byte.f]
  exact search_l0 l n hs hx l.length 0 l.length (by omega) (by omega) (Nat.le_refl _) (fun j _ h => absurd h (by omega)) (fun j h hj => absurd h (by omega))
def okL (x : S40) : Prop := (1 ≤ x.f0.length ∧ x.f0.length ≤ 16) ∧ (1 ≤ x.f1 ∧ x.f1 ≤ 4) ∧ 1 ≤ x.f2 ∧ x.f2 ≤ 2147483647
def goodAt (l : List S40) (i : Nat) (h : i < l.length) : Prop := okL (l[i]) ∧ ∀ _ : 0 < i, cmpI (l[i - 1]'(by omega)).f0 (l[i]).f0 < 0
def RightL (l : List S40) : Prop := (∀ x ∈ l, okL x) ∧ Sorted l ∧ l.length ≤ 16
theorem client_is (a : Int) : lease_client.f a = some (decide (1 ≤ a ∧ a ≤ 4)) := by
  unfold lease_client.f
  by_cases h : a ≥ 1
  · rw [if_pos h]
    by_cases h2 : a ≤ 4
    · rw [decide_eq_true h2, decide_eq_true ⟨h, h2⟩]
    · rw [decide_eq_false h2, decide_eq_false (fun q => h2 q.2)]
  · rw [if_neg h, decide_eq_false (fun q => h q.1)]
theorem right_l0 (l : List S40) (hx : l.length < 1000000000000000) : ∀ (d i : Nat), d + i = l.length → (Ev (fun k => lease_Right.l0 k l l (l.length : Int) (i : Int)) true ∧ (∀ j h, i ≤ j → goodAt l j h) ∧ l.length ≤ 16) ∨ (Ev (fun k => lease_Right.l0 k l l (l.length : Int) (i : Int)) false ∧ ¬ ((∀ j h, i ≤ j → goodAt l j h) ∧ l.length ≤ 16))
  | 0, i, hd => by
    have e1 : ¬ (i : Int) < (l.length : Int) := by omega
    by_cases hl : (l.length : Int) ≤ 16
    · refine Or.inl ⟨ev_succ ?_, fun j h hj => absurd h (by omega), by omega⟩
      simp only [lease_Right.l0, if_neg e1, decide_eq_true hl]
      exact Ev.now _
    · refine Or.inr ⟨ev_succ ?_, fun h => hl (by have := h.2; omega)⟩
      simp only [lease_Right.l0, if_neg e1, decide_eq_false hl]
      exact Ev.now _
  | d + 1, i, hd => by
    have hi : i < l.length := by omega
    have e1 : (i : Int) < (l.length : Int) := by omega
    have e2 : (0 : Int) ≤ (i : Int) := by omega
    have ew : wrap64 ((i : Int) + 1) = ((i + 1 : Nat) : Int) := w64 i (by omega)
    have jt : Ev (fun k => lease_Right.j1 k l l (l.length : Int) (i : Int) true) false := by
      refine ev_succ ?_
      simp only [lease_Right.j1, if_true]
      exact Ev.now _
    have jf : ∀ r, Ev (fun k => lease_Right.l0 k l l (l.length : Int) ((i + 1 : Nat) : Int)) r → Ev (fun k => lease_Right.j1 k l l (l.length : Int) (i : Int) false) r := by
      intro r h
      refine ev_succ ?_
      simp only [lease_Right.j1, Bool.false_eq_true, if_false, ew]
      exact h
    have body : (¬ goodAt l i hi → Ev (fun k => lease_Right.l0 k l l (l.length : Int) (i : Int)) false) ∧ (goodAt l i hi → ∀ r, Ev (fun k => lease_Right.l0 k l l (l.length : Int) ((i + 1 : Nat) : Int)) r → Ev (fun k => lease_Right.l0 k l l (l.length : Int) (i : Int)) r) := by
      have key : ∀ r, (¬ goodAt l i hi → Ev (fun k => lease_Right.j1 k l l (l.length : Int) (i : Int) true) r) → (goodAt l i hi → Ev (fun k => lease_Right.j1 k l l (l.length : Int) (i : Int) false) r) → Ev (fun k => lease_Right.l0 k l l (l.length : Int) (i : Int)) r := by
        intro r hb hg
        refine ev_succ ?_
        simp only [lease_Right.l0, if_pos e1, if_pos e2, rdT l i hi, client_is, Option.bind_some, decide_eq_true_eq]
        by_cases a1 : ((l[i]).f0.length : Int) < 1
        · simp only [if_pos a1]; exact hb (fun g => by have := g.1.1.1; omega)
        simp only [if_neg a1]
        by_cases a2 : ((l[i]).f0.length : Int) > 16
        · simp only [if_pos a2]; exact hb (fun g => by have := g.1.1.2; omega)
        simp only [if_neg a2]
        by_cases a3 : 1 ≤ (l[i]).f1 ∧ (l[i]).f1 ≤ 4
        · simp only [if_pos a3]
          by_cases a4 : (l[i]).f2 < 1
          · simp only [if_pos a4]; exact hb (fun g => by have := g.1.2.2.1; omega)
          simp only [if_neg a4]
          by_cases a5 : (l[i]).f2 > 2147483647
          · simp only [if_pos a5]; exact hb (fun g => by have := g.1.2.2.2; omega)
          simp only [if_neg a5]
          have ok : okL (l[i]) := ⟨⟨by omega, by omega⟩, a3, by omega, by omega⟩
          by_cases a6 : (i : Int) > 0
          · have ei : wrap64 ((i : Int) - 1) = ((i - 1 : Nat) : Int) := by unfold wrap64; omega
            have e3 : (0 : Int) ≤ ((i - 1 : Nat) : Int) := by omega
            have e4 : ((i - 1 : Nat) : Int) < (l.length : Int) := by omega
            have ec : bytes_Compare.f (l[i]).f0 (l[i - 1]).f0 = some (cmpI (l[i]).f0 (l[i - 1]).f0) := rfl
            simp only [if_pos a6, ei, if_pos e3, if_pos e4, rdT l (i - 1) (by omega), ec, Option.bind_some]
            have en := cmpI_neg (l[i - 1]).f0 (l[i]).f0
            by_cases a7 : cmpI (l[i]).f0 (l[i - 1]).f0 ≤ 0
            · simp only [decide_eq_true a7]; exact hb (fun g => by have := g.2 (by omega); omega)
            · simp only [decide_eq_false a7]; exact hg ⟨ok, fun _ => by omega⟩
          · simp only [if_neg a6]
            exact hg ⟨ok, fun h => absurd h (by omega)⟩
        · simp only [if_neg a3]; exact hb (fun g => a3 g.1.2.1)
      exact ⟨fun hb => key false (fun _ => jt) (fun g => absurd g hb), fun hg r h => key r (fun hb => absurd hg hb) (fun _ => jf r h)⟩
    by_cases hg : goodAt l i hi
    · rcases right_l0 l hx d (i + 1) (by omega) with ⟨h1, h2, h3⟩ | ⟨h1, h2⟩
      · refine Or.inl ⟨body.2 hg _ h1, fun j h hj => ?_, h3⟩
        by_cases hq : j = i
        · subst hq; exact hg
        · exact h2 j h (by omega)
      · exact Or.inr ⟨body.2 hg _ h1, fun h => h2 ⟨fun j hj hij => h.1 j hj (by omega), h.2⟩⟩
    · exact Or.inr ⟨body.1 hg, fun h => hg (h.1 i hi (Nat.le_refl _))⟩
theorem all_good (l : List S40) : ((∀ j h, 0 ≤ j → goodAt l j h) ∧ l.length ≤ 16) ↔ RightL l := by
  constructor
  · intro ⟨h1, h2⟩
    refine ⟨fun x hx => ?_, ?_, h2⟩
    · obtain ⟨j, hj, rfl⟩ := List.mem_iff_getElem.1 hx
      exact (h1 j hj (Nat.zero_le _)).1
    · refine List.pairwise_iff_getElem.2 ?_
      have step : ∀ d i (h : i + d + 1 < l.length), cmpI (l[i]'(by omega)).f0 (l[i + d + 1]).f0 < 0 := by
        intro d
        induction d with
        | zero => intro i h; exact (h1 (i + 0 + 1) h (Nat.zero_le _)).2 (by omega)
        | succ d ih =>
          intro i h
          exact cmpI_trans (ih i (by omega)) ((h1 (i + (d + 1) + 1) h (Nat.zero_le _)).2 (by omega))
      intro i j hi hj hij
      obtain ⟨d, rfl⟩ : ∃ d, j = i + d + 1 := ⟨j - i - 1, by omega⟩
      exact step d i hj
  · intro ⟨h1, h2, h3⟩
    refine ⟨fun j h _ => ⟨h1 _ (List.getElem_mem h), fun h0 => sorted_at h2 h (by omega)⟩, h3⟩
theorem Right_ev (l : List S40) (hx : l.length < 1000000000000000) : (Ev (fun k => lease_Right.f k l) true ∧ RightL l) ∨ (Ev (fun k => lease_Right.f k l) false ∧ ¬ RightL l) := by
  simp only [lease_Right.f]
  rcases right_l0 l hx l.length 0 (by omega) with ⟨h1, h2⟩ | ⟨h1, h2⟩
  · exact Or.inl ⟨h1, (all_good l).1 h2⟩
  · exact Or.inr ⟨h1, fun h => h2 ((all_good l).2 h)⟩
def live (now : Int) (l : List S40) : List S40 := l.filter (fun x => decide (x.f2 > now))
theorem clone_ok (x : S40) (h : x.f0.length < 140737488355328) : lease_clone.f x.f0 x.f1 x.f2 = some (x.f0, x.f1, x.f2) := by
  unfold lease_clone.f slices_Clone_byte_byte.f
  rw [if_pos h]; rfl
theorem do_loop (l : List S40) (hx : l.length < 3518437208883) (hn : ∀ x ∈ l, x.f0.length < 140737488355328) (who now : Int) (ok : Bool) (kd : Int) (n v w : List Int) (num : Int) (r : List S40 × Int × List Int) :
    ∀ (d i : Nat) (acc : List S40), d + i = l.length → acc.length ≤ i → Ev (fun k => lease_Do.l0 k who now (acc ++ (l.drop i).filter (fun x => !ok || decide (x.f2 > now))) ok l (l.length : Int) (l.length : Int) kd n v w num) r →
    Ev (fun k => lease_Do.l0 k who now acc ok l (l.length : Int) (i : Int) kd n v w num) r
  | 0, i, acc, hd, ha, h => by
    have : i = l.length := by omega
    subst this
    rw [List.drop_length, List.filter_nil, List.append_nil] at h
    exact h
  | d + 1, i, acc, hd, ha, h => by
    have hi : i < l.length := by omega
    have e1 : (i : Int) < (l.length : Int) := by omega
    have e2 : (0 : Int) ≤ (i : Int) := by omega
    have e3 : acc.length < 3518437208883 := by omega
    have ew : wrap64 ((i : Int) + 1) = ((i + 1 : Nat) : Int) := w64 i (by omega)
    have hc := clone_ok (l[i]) (hn _ (List.getElem_mem hi))
    rw [List.drop_eq_getElem_cons hi] at h
    have take : (!ok || decide ((l[i]).f2 > now)) = true → Ev (fun k => lease_Do.j2 k who now acc ok l (l.length : Int) (i : Int) true kd n v w num (l[i]).f0 (l[i]).f1 (l[i]).f2) r := by
      intro hb
      rw [List.filter_cons_of_pos (by simpa using hb)] at h
      refine ev_succ ?_
      simp only [lease_Do.j2, if_true, hc, Option.bind_some, if_pos e3, ew]
      refine do_loop l hx hn who now ok kd n v w num r d (i + 1) _ (by omega) (by rw [List.length_append, List.length_singleton]; omega) ?_
      rw [List.append_assoc, List.singleton_append]
      exact h
    have skip : (!ok || decide ((l[i]).f2 > now)) = false → Ev (fun k => lease_Do.j2 k who now acc ok l (l.length : Int) (i : Int) false kd n v w num (l[i]).f0 (l[i]).f1 (l[i]).f2) r := by
      intro hb
      rw [List.filter_cons_of_neg (by simpa using hb)] at h
      refine ev_succ ?_
      simp only [lease_Do.j2, Bool.false_eq_true, if_false, ew]
      exact do_loop l hx hn who now ok kd n v w num r d (i + 1) _ (by omega) (by omega) h
    refine ev_succ ?_
    simp only [lease_Do.l0, if_pos e1, if_pos e2, rdT l i hi]
    cases ok with
    | false =>
      simp only [Bool.false_eq_true, if_false]
      exact take rfl
    | true =>
      simp only [if_true]
      by_cases hl : (l[i]).f2 > now
      · have gd : ∀ q : Decidable ((l[i]).f2 > now), @decide _ q = true := fun q => decide_eq_true hl
        simp only [gd]
        exact take (by simpa using hl)
      · have gd : ∀ q : Decidable ((l[i]).f2 > now), @decide _ q = false := fun q => decide_eq_false hl
        simp only [gd]
        exact skip (by simpa using hl)
theorem do_bad (l : List S40) (hx : l.length < 3518437208883) (hn : ∀ x ∈ l, x.f0.length < 140737488355328) (who now : Int) (kd : Int) (n v w : List Int) (num : Int) : Ev (fun k => lease_Do.j0 k l who now [] false kd n v w num) (l, 5, []) := by
  refine ev_succ ?_
  simp only [lease_Do.j0]
  refine do_loop l hx hn who now false kd n v w num _ l.length 0 [] (by omega) (Nat.le_refl _) ?_
  have ef : ([] : List S40) ++ (l.drop 0).filter (fun x => !false || decide (x.f2 > now)) = l := by
    rw [List.drop_zero, List.nil_append]
    exact List.filter_eq_self.2 (fun _ _ => rfl)
  rw [ef]
  refine ev_succ ?_
  simp only [lease_Do.l0, Int.lt_irrefl, if_false, Bool.false_eq_true]
  exact Ev.now _
theorem live_right {l : List S40} (h : RightL l) (now : Int) : RightL (live now l) := by
  refine ⟨fun x hx => h.1 x (List.mem_filter.1 hx).1, List.Pairwise.filter _ h.2.1, Nat.le_trans (List.length_filter_le _ _) h.2.2⟩
def okDo (l : List S40) (kd : Int) (n v w : List Int) (num who now : Int) : Prop := RightL l ∧ rightB kd n v w num = true ∧ kd ≥ 5 ∧ (1 ≤ who ∧ who ≤ 4) ∧ 0 ≤ now ∧ now ≤ 2147482647
theorem do_any (l : List S40) (hx : l.length < 3518437208883) (hn : ∀ x ∈ l, x.f0.length < 140737488355328) (who now : Int) (kd : Int) (n v w : List Int) (num : Int) (r : List S40 × Int × List Int)
    (hg : okDo l kd n v w num who now → Ev (fun k => lease_Do.l0 k who now (live now l) true l (l.length : Int) (l.length : Int) kd n v w num) r) (hb : ¬ okDo l kd n v w num who now → r = (l, 5, [])) :
    Ev (fun k => lease_Do.f k l kd n v w num who now) r := by
  have bad : ¬ okDo l kd n v w num who now → Ev (fun k => lease_Do.j0 k l who now [] false kd n v w num) r := by
    intro h
    rw [hb h]
    exact do_bad l hx hn who now kd n v w num
  simp only [lease_Do.f]
  refine Ev.bind (write_ev kd n v w num) ?_
  rcases Right_ev l (by omega) with ⟨h1, h2⟩ | ⟨h1, h2⟩
  · refine Ev.bind h1 ?_
    by_cases b1 : rightB kd n v w num = true
    · by_cases b2 : kd ≥ 5
      · by_cases b3 : 1 ≤ who ∧ who ≤ 4
        · by_cases b4 : now ≥ 0
          · by_cases b5 : now ≤ 2147482647
            · simp only [if_true, if_pos b1, if_pos b2, client_is, decide_eq_true b3, Option.bind_some, if_pos b4, decide_eq_true b5]
              refine ev_succ ?_
              simp only [lease_Do.j0]
              refine do_loop l hx hn who now true kd n v w num _ l.length 0 [] (by omega) (Nat.le_refl _) ?_
              have ef : ([] : List S40) ++ (l.drop 0).filter (fun x => !true || decide (x.f2 > now)) = live now l := by
                rw [List.drop_zero, List.nil_append]; rfl
              rw [ef]
              exact hg ⟨h2, b1, b2, b3, b4, b5⟩
            · simp only [if_true, if_pos b1, if_pos b2, client_is, decide_eq_true b3, Option.bind_some, if_pos b4, decide_eq_false b5]
              exact bad (fun h => b5 h.2.2.2.2.2)
          · simp only [if_true, if_pos b1, if_pos b2, client_is, decide_eq_true b3, Option.bind_some, if_neg b4]
            exact bad (fun h => b4 h.2.2.2.2.1)
        · simp only [if_true, if_pos b1, if_pos b2, client_is, decide_eq_false b3, Option.bind_some, Bool.false_eq_true, if_false]
          exact bad (fun h => b3 h.2.2.2.1)
      · simp only [if_true, if_pos b1, if_neg b2]
        exact bad (fun h => b2 h.2.2.1)
    · simp only [if_true, if_neg b1, show ¬ ((71 : Int) = 0) by decide, if_false]
      exact bad (fun h => b1 h.2.1)
  · refine Ev.bind h1 ?_
    simp only [Bool.false_eq_true, if_false]
    exact bad (fun h => h2 h.1)
def eqB (a b : List Int) : Bool := (strOfNums a).toList == (strOfNums b).toList
theorem eqB_iff (a b : List Int) : eqB a b = true ↔ cmpI a b = 0 := by
  unfold eqB cmpI
  rw [Go.Lib.strOfNums_toList, Go.Lib.strOfNums_toList, beq_iff_eq]
  constructor
  · intro h
    show Lib.compareBytes (Go.Lib.bytesOf a) (Go.Lib.bytesOf b) = 0
    rw [h]; exact cmp_refl _
  · intro h
    exact cmp_eq0 _ _ h
def hq (n : List Int) (now : Int) (x : S40) : Bool := eqB x.f0 n && decide (x.f2 > now)
def hold (l : List S40) (n : List Int) (now : Int) : Int × Int := match l.find? (hq n now) with
  | some x => (x.f1, wrap64 (x.f2 - now))
  | none => (0, 0)
theorem holder_l0 (l : List S40) (hx : l.length < 1000000000000000) (n : List Int) (now : Int) : ∀ (d i : Nat), d + i = l.length → Ev (fun k => lease_Holder.l0 k n now l (l.length : Int) (i : Int)) (hold (l.drop i) n now)
  | 0, i, hd => by
    have e1 : ¬ (i : Int) < (l.length : Int) := by omega
    refine ev_succ ?_
    simp only [lease_Holder.l0, if_neg e1]
    rw [List.drop_eq_nil_of_le (by omega)]
    exact Ev.now _
  | d + 1, i, hd => by
    have hi : i < l.length := by omega
    have e1 : (i : Int) < (l.length : Int) := by omega
    have e2 : (0 : Int) ≤ (i : Int) := by omega
    have ew : wrap64 ((i : Int) + 1) = ((i + 1 : Nat) : Int) := w64 i (by omega)
    have ih := holder_l0 l hx n now d (i + 1) (by omega)
    have ee : bytes_Equal.f (l[i]).f0 n = some (eqB (l[i]).f0 n) := rfl
    rw [List.drop_eq_getElem_cons hi]
    refine ev_succ (ev_succ ?_)
    by_cases a1 : eqB (l[i]).f0 n = true
    · by_cases a2 : (l[i]).f2 > now
      · have gd : ∀ q : Decidable ((l[i]).f2 > now), @decide _ q = true := fun q => decide_eq_true a2
        simp only [lease_Holder.l0, lease_Holder.j1, if_pos e1, if_pos e2, rdT l i hi, ee, Option.bind_some, if_pos a1, gd, if_true]
        have : hold (l[i] :: l.drop (i + 1)) n now = ((l[i]).f1, wrap64 ((l[i]).f2 - now)) := by
          unfold hold
          rw [List.find?_cons_of_pos (by unfold hq; rw [a1]; simpa using a2)]
        rw [this]
        exact Ev.now _
      · have gd : ∀ q : Decidable ((l[i]).f2 > now), @decide _ q = false := fun q => decide_eq_false a2
        simp only [lease_Holder.l0, lease_Holder.j1, if_pos e1, if_pos e2, rdT l i hi, ee, Option.bind_some, if_pos a1, gd, Bool.false_eq_true, if_false, ew]
        have : hold (l[i] :: l.drop (i + 1)) n now = hold (l.drop (i + 1)) n now := by
          unfold hold
          rw [List.find?_cons_of_neg (by unfold hq; simp [a2])]
        rw [this]
        exact ih
    · have a1' : eqB (l[i]).f0 n = false := by simpa using a1
      simp only [lease_Holder.l0, lease_Holder.j1, if_pos e1, if_pos e2, rdT l i hi, ee, a1', Option.bind_some, Bool.false_eq_true, if_false, ew]
      have : hold (l[i] :: l.drop (i + 1)) n now = hold (l.drop (i + 1)) n now := by
        unfold hold
        rw [List.find?_cons_of_neg (by unfold hq; simp [a1'])]
      rw [this]
      exact ih
theorem holder_ev (l : List S40) (hx : l.length < 1000000000000000) (n : List Int) (now : Int) : Ev (fun k => lease_Holder.f k l n now) (hold l n now) := by
  simp only [lease_Holder.f]
  exact holder_l0 l hx n now l.length 0 (by omega)
theorem told_ev (a b : Int) (ha0 : 0 ≤ a) (ha : a ≤ 2147483647) (hb0 : 0 ≤ b) (hb : b ≤ 2147483647) : Ev (fun k => lease_told.f k a b) (enc 4 a ++ enc 4 b) := by
  have l1 := enc_len 4 a
  have l2 := enc_len 4 b
  simp only [lease_told.f]
  refine Ev.bind (int_ev a ha0 ha) ?_
  refine Ev.bind (int_ev b hb0 hb) ?_
  simp only [if_pos (show (enc 4 a).length + (enc 4 b).length < 140737488355328 by omega)]
  exact Ev.now _
def holdO (now : Int) : Option S40 → Int × Int
  | some x => (x.f1, wrap64 (x.f2 - now))
  | none => (0, 0)
theorem hold_eq (l : List S40) (n : List Int) (now : Int) : hold l n now = holdO now (l.find? (hq n now)) := by
  unfold hold holdO
  cases l.find? (hq n now) <;> rfl
theorem split_at (L : List S40) (i : Nat) (h : i < L.length) : L = L.take i ++ (L[i] :: L.drop (i + 1)) := by
  rw [← List.drop_eq_getElem_cons h, List.take_append_drop]
theorem find_mid (q : S40 → Bool) (A B : List S40) (a : S40) : (A ++ (a :: B)).find? q = (A.find? q).or (if q a = true then some a else B.find? q) := by
  rw [List.find?_append, List.find?_cons]
  cases q a <;> rfl
theorem keep_mid (now who : Int) (m : List Int) (A B : List S40) (a : S40) (hw : a.f1 = who) (out : List S40)
    (ho : out.find? (hq m now) = (A.find? (hq m now)).or (if hq m now a = true then out.find? (hq m now) else B.find? (hq m now))) :
    (hold (A ++ (a :: B)) m now).1 = who ∨ hold out m now = hold (A ++ (a :: B)) m now := by
  rw [hold_eq, hold_eq, find_mid]
  by_cases h : hq m now a = true
  · rw [if_pos h] at ho ⊢
    cases hA : A.find? (hq m now) with
    | none => exact Or.inl hw
    | some x => rw [hA] at ho; rw [ho]; exact Or.inr rfl
  · rw [if_neg h] at ho ⊢
    rw [ho]; exact Or.inr rfl
theorem no_take {L : List S40} {n : List Int} (now : Int) {i : Nat} (h : ∀ j (h : j < L.length), j < i → cmpI (L[j]).f0 n < 0) : (L.take i).find? (hq n now) = none := by
  rw [List.find?_eq_none]
  intro x hx hqx
  obtain ⟨j, hj, rfl⟩ := List.mem_iff_getElem.1 hx
  have hj2 : j < i ∧ j < L.length := by rw [List.length_take] at hj; omega
  rw [List.getElem_take] at hqx
  unfold hq at hqx
  have := (eqB_iff _ _).1 (Bool.and_eq_true_iff.1 hqx).1
  have := h j hj2.2 hj2.1
  omega
theorem no_drop {L : List S40} {n : List Int} (now : Int) {i : Nat} (hs : Sorted L) (hi : i < L.length) (hc : cmpI (L[i]).f0 n = 0) : (L.drop (i + 1)).find? (hq n now) = none := by
  rw [List.find?_eq_none]
  intro x hx hqx
  obtain ⟨j, hj, rfl⟩ := List.mem_iff_getElem.1 hx
  rw [List.length_drop] at hj
  rw [List.getElem_drop] at hqx
  unfold hq at hqx
  have e := (eqB_iff _ _).1 (Bool.and_eq_true_iff.1 hqx).1
  have h1 := sorted_at hs (i := i) (j := i + 1 + j) (by omega) (by omega)
  rw [cmpI_eq hc] at h1
  have := cmpI_neg n (L[i + 1 + j]'(by omega)).f0
  omega
theorem do_tail (l L : List S40) (hL : RightL L) (who now : Int) (hv : ∀ x ∈ L, x.f2 > now) (kd : Int) (n v w : List Int) (num : Int) (hr : rightB kd n v w num = true) (h5 : kd ≥ 5) (hw : 1 ≤ who ∧ who ≤ 4) (h0 : 0 ≤ now) (h1 : now ≤ 2147482647) :
    ∃ out c x, Ev (fun k => lease_Do.l0 k who now L true l (l.length : Int) (l.length : Int) kd n v w num) (out, c, x) ∧ RightL out ∧ (∀ m, (hold L m now).1 = 0 ∨ (hold L m now).1 = who ∨ hold out m now = hold L m now) ∧ (c = 0 → kd = 5 ∨ kd = 6 → hold out n now = (who, num)) ∧ (c = 0 → kd = 7 → (hold out n now).1 = 0) := by
  obtain ⟨b1, b2, b3, b4, b5, b6, b7⟩ := right_bounds hr
  have hn1 : 1 ≤ n.length := by
    unfold rightB at hr
    simp only [Bool.and_eq_true, decide_eq_true_eq] at hr
    obtain ⟨⟨⟨⟨⟨⟨⟨⟨a1, _⟩, _⟩, _⟩, _⟩, _⟩, _⟩, _⟩, _⟩ := hr
    omega
  have hk : kd = 5 ∨ kd = 6 → 1 ≤ num := by
    intro hk
    unfold rightB kindB at hr
    simp only [Bool.and_eq_true, decide_eq_true_eq, if_pos hk] at hr
    exact hr.2.1
  obtain ⟨i, hi, hlo, hhi, hev⟩ := search_ev L n hL.2.1 (by have := hL.2.2; omega)
  have hl16 := hL.2.2
  have hnow : wrap64 (now + num) = now + num := by unfold wrap64; omega
  have start : ∀ r, Ev (fun k => if (if h : i < L.length then cmpI (L[i]).f0 n == 0 else false) = true then lease_Do.j3 k who now L (i : Int) (if h : i < L.length then cmpI (L[i]).f0 n == 0 else false) false kd n v w num else lease_Do.j3 k who now L (i : Int) (if h : i < L.length then cmpI (L[i]).f0 n == 0 else false) (kd != 5) kd n v w num) r → Ev (fun k => lease_Do.l0 k who now L true l (l.length : Int) (l.length : Int) kd n v w num) r := by
    intro r h
    refine ev_succ ?_
    simp only [lease_Do.l0, Int.lt_irrefl, if_false, if_true]
    exact Ev.bind hev h
  have same : ∀ m, (hold L m now).1 = 0 ∨ (hold L m now).1 = who ∨ hold L m now = hold L m now := fun m => Or.inr (Or.inr rfl)
  have e0 : (0 : Int) ≤ (i : Int) := by omega
  by_cases hf : (if h : i < L.length then cmpI (L[i]).f0 n == 0 else false) = true
  · have hil : i < L.length := by
      by_cases h : i < L.length
      · exact h
      · rw [dif_neg h] at hf; cases hf
    have hc : cmpI (L[i]).f0 n = 0 := by rw [dif_pos hil] at hf; simpa using hf
    have e1 : (i : Int) < (L.length : Int) := by omega
    have hx := hL.1 _ (List.getElem_mem hil)
    have hxv := hv _ (List.getElem_mem hil)
    have hwr : wrap64 ((L[i]).f2 - now) = (L[i]).f2 - now := by have := hx.2.2.1; have := hx.2.2.2; unfold wrap64; omega
    have ht := told_ev (L[i]).f1 ((L[i]).f2 - now) (by have := hx.2.1.1; omega) (by have := hx.2.1.2; omega) (by omega) (by have := hx.2.2.2; omega)
    have go : ∀ r, Ev (fun k => lease_Do.j4 k who now L (i : Int) true false kd n v w num) r → Ev (fun k => lease_Do.l0 k who now L true l (l.length : Int) (l.length : Int) kd n v w num) r := by
      intro r h
      refine start r ?_
      simp only [hf, if_true]
      refine ev_succ ?_
      simp only [lease_Do.j3, Bool.false_eq_true, if_false, if_true]
      exact h
    by_cases k8 : kd = 8
    · refine ⟨L, 0, enc 4 (L[i]).f1 ++ enc 4 ((L[i]).f2 - now), go _ (ev_succ ?_), hL, same, fun _ h => absurd h (by omega), fun _ h => absurd h (by omega)⟩
      simp only [lease_Do.j4, Bool.false_eq_true, if_false, if_true, if_pos k8, if_pos e0, if_pos e1, rdT L i hil, hwr]
      exact Ev.bind ht (Ev.now _)
    by_cases ho : (L[i]).f1 = who
    · have sp := split_at L i hil
      by_cases k7 : kd = 7
      · have eo : L.eraseIdx i = L.take i ++ L.drop (i + 1) := List.eraseIdx_eq_take_drop_succ L i
        refine ⟨L.eraseIdx i, 0, [], go _ (ev_succ ?_), ?_, ?_, fun _ h => absurd h (by omega), ?_⟩
        · simp only [lease_Do.j4, Bool.false_eq_true, if_false, if_true, if_neg k8, if_pos e0, if_pos e1, rdT L i hil, if_pos ho, if_pos k7, Int.toNat_natCast]
          exact Ev.now _
        · exact ⟨fun x hx => hL.1 x ((List.eraseIdx_sublist L i).subset hx), List.Pairwise.sublist (List.eraseIdx_sublist L i) hL.2.1, Nat.le_trans (List.eraseIdx_sublist L i).length_le hl16⟩
        · intro m
          have h := keep_mid now who m (L.take i) (L.drop (i + 1)) (L[i]) ho (L.eraseIdx i)
          rw [← sp] at h
          by_cases hm : hq m now (L[i]) = true
          · cases hA : (L.take i).find? (hq m now) with
            | none =>
              right; left
              rw [hold_eq, sp, find_mid, hA, if_pos hm]
              exact ho
            | some x =>
              right; right
              rw [hold_eq, hold_eq, eo, List.find?_append, hA]
              conv => rhs; rw [sp, find_mid, hA]
              rfl
          · exact Or.inr (h (by rw [if_neg hm, eo, List.find?_append]))
        · intro _ _
          rw [hold_eq, eo, List.find?_append, no_take now hlo, no_drop now hL.2.1 hil hc]
          rfl
      · have h56 : kd = 5 ∨ kd = 6 := by omega
        have hnum := hk h56
        have es : L.set i ⟨(L[i]).f0, (L[i]).f1, now + num⟩ = L.take i ++ (⟨(L[i]).f0, (L[i]).f1, now + num⟩ :: L.drop (i + 1)) := by
          rw [List.set_eq_take_append_cons_drop, if_pos hil]
        have hqa : ∀ m, hq m now ⟨(L[i]).f0, (L[i]).f1, now + num⟩ = hq m now (L[i]) := by
          intro m
          unfold hq
          show (eqB (L[i]).f0 m && decide (now + num > now)) = _
          rw [decide_eq_true (show now + num > now by omega), decide_eq_true hxv]
        refine ⟨L.set i ⟨(L[i]).f0, (L[i]).f1, now + num⟩, 0, [], go _ (ev_succ ?_), ?_, ?_, ?_, fun _ h => absurd h k7⟩
        · simp only [lease_Do.j4, Bool.false_eq_true, if_false, if_true, if_neg k8, if_pos e0, if_pos e1, rdT L i hil, if_pos ho, if_neg k7, Int.toNat_natCast, hnow]
          exact Ev.now _
        · refine ⟨fun x hxm => ?_, ?_, by rw [List.length_set]; exact hl16⟩
          · rcases List.mem_or_eq_of_mem_set hxm with h | h
            · exact hL.1 x h
            · subst h
              exact ⟨hx.1, hx.2.1, show 1 ≤ now + num by omega, show now + num ≤ 2147483647 by omega⟩
          · have hp := hL.2.1
            rw [es]
            unfold Sorted at hp ⊢
            rw [sp] at hp
            rw [List.pairwise_append] at hp ⊢
            refine ⟨hp.1, ?_, fun a ha b hb => ?_⟩
            · have hp2 := hp.2.1
              rw [List.pairwise_cons] at hp2 ⊢
              exact hp2
            · rcases List.mem_cons.1 hb with h | h
              · subst h
                show cmpI a.f0 (L[i]).f0 < 0
                exact hp.2.2 a ha (L[i]) (List.mem_cons_self ..)
              · exact hp.2.2 a ha b (List.mem_cons_of_mem _ h)
        · intro m
          by_cases hm : hq m now (L[i]) = true
          · cases hA : (L.take i).find? (hq m now) with
            | none =>
              right; left
              rw [hold_eq, sp, find_mid, hA, if_pos hm]
              exact ho
            | some x =>
              right; right
              rw [hold_eq, hold_eq, es, find_mid, hA]
              conv => rhs; rw [sp, find_mid, hA]
              rfl
          · right; right
            rw [hold_eq, hold_eq, es, find_mid, hqa, if_neg hm]
            conv => rhs; rw [sp, find_mid, if_neg hm]
        · intro _ _
          rw [hold_eq, es, find_mid, no_take now hlo, hqa, if_pos (by unfold hq; rw [(eqB_iff _ _).2 hc, decide_eq_true hxv]; rfl)]
          show ((L[i]).f1, wrap64 (now + num - now)) = (who, num)
          rw [ho, show wrap64 (now + num - now) = num by unfold wrap64; omega]
    · refine ⟨L, 4, enc 4 (L[i]).f1 ++ enc 4 ((L[i]).f2 - now), go _ (ev_succ ?_), hL, same, fun h => absurd h (by decide), fun h => absurd h (by decide)⟩
      simp only [lease_Do.j4, Bool.false_eq_true, if_false, if_true, if_neg k8, if_pos e0, if_pos e1, rdT L i hil, if_neg ho, hwr]
      exact Ev.bind ht (Ev.now _)
  · have hf' : (if h : i < L.length then cmpI (L[i]).f0 n == 0 else false) = false := by simpa using hf
    by_cases k5 : kd = 5
    · have hnum := hk (Or.inl k5)
      have go : ∀ r, Ev (fun k => lease_Do.j4 k who now L (i : Int) false ((L.length : Int) == 16) kd n v w num) r → Ev (fun k => lease_Do.l0 k who now L true l (l.length : Int) (l.length : Int) kd n v w num) r := by
        intro r h
        refine start r ?_
        have ek : (kd != 5) = false := by rw [k5]; rfl
        simp only [hf', Bool.false_eq_true, if_false, ek]
        refine ev_succ ?_
        simp only [lease_Do.j3, Bool.false_eq_true, if_false]
        exact h
      by_cases hfull : L.length = 16
      · have ef : ((L.length : Int) == 16) = true := by rw [hfull]; rfl
        refine ⟨L, 3, [], go _ (ev_succ ?_), hL, same, fun h => absurd h (by decide), fun h => absurd h (by decide)⟩
        simp only [lease_Do.j4, ef, if_true]
        exact Ev.now _
      · have ef : ((L.length : Int) == 16) = false := by simp; omega
        have e1 : (i : Int) ≤ (L.length : Int) := by omega
        have e2 : L.length < 3518437208883 := by omega
        have hcl : slices_Clone_byte_byte.f n = some n := by unfold slices_Clone_byte_byte.f; rw [if_pos (by omega)]
        have hhi2 : ∀ x ∈ L.drop i, cmpI n x.f0 < 0 := by
          intro x hx
          obtain ⟨j, hj, rfl⟩ := List.mem_iff_getElem.1 hx
          rw [List.length_drop] at hj
          rw [List.getElem_drop]
          have g1 := hhi (i + j) (by omega) (by omega)
          have g2 := cmpI_neg n (L[i + j]'(by omega)).f0
          have g3 : cmpI (L[i + j]'(by omega)).f0 n ≠ 0 := by
            intro g
            by_cases hj0 : j = 0
            · subst hj0
              rw [dif_pos (show i < L.length by omega)] at hf'
              exact absurd g (by simpa using hf')
            · have s := sorted_at hL.2.1 (i := i) (j := i + j) (by omega) (by omega)
              have g4 := hhi i (by omega) (Nat.le_refl _)
              have g5 := cmpI_neg (L[i]'(by omega)).f0 (L[i + j]'(by omega)).f0
              rw [cmpI_eq g] at g5
              have g6 := cmpI_neg n (L[i]'(by omega)).f0
              omega
          omega
        have htk : ∀ x ∈ L.take i, cmpI x.f0 n < 0 := by
          intro x hx
          obtain ⟨j, hj, rfl⟩ := List.mem_iff_getElem.1 hx
          rw [List.length_take] at hj
          rw [List.getElem_take]
          exact hlo j (by omega) (by omega)
        refine ⟨L.take i ++ (⟨n, who, now + num⟩ :: L.drop i), 0, [], go _ (ev_succ ?_), ?_, ?_, ?_, fun _ h => absurd h (by omega)⟩
        · simp only [lease_Do.j4, ef, Bool.false_eq_true, if_false, hcl, Option.bind_some, if_pos e0, if_pos e1, if_pos e2, Int.toNat_natCast, hnow]
          rw [List.append_assoc, List.singleton_append]
          exact Ev.now _
        · refine ⟨fun x hxm => ?_, ?_, ?_⟩
          · rcases List.mem_append.1 hxm with h | h
            · exact hL.1 x (List.mem_of_mem_take h)
            · rcases List.mem_cons.1 h with h | h
              · subst h
                exact ⟨⟨hn1, b5⟩, hw, show 1 ≤ now + num by omega, show now + num ≤ 2147483647 by omega⟩
              · exact hL.1 x (List.mem_of_mem_drop h)
          · unfold Sorted
            rw [List.pairwise_append, List.pairwise_cons]
            refine ⟨List.Pairwise.sublist (List.take_sublist i L) hL.2.1, ⟨hhi2, List.Pairwise.sublist (List.drop_sublist i L) hL.2.1⟩, fun a ha b hb => ?_⟩
            rcases List.mem_cons.1 hb with h | h
            · subst h; exact htk a ha
            · exact cmpI_trans (htk a ha) (hhi2 b h)
          · rw [List.length_append, List.length_cons, List.length_take, List.length_drop]; omega
        · intro m
          have hsp : L = L.take i ++ L.drop i := (List.take_append_drop i L).symm
          by_cases hm : hq m now ⟨n, who, now + num⟩ = true
          · left
            have hno : L.find? (hq m now) = none := by
              rw [List.find?_eq_none]
              intro x hx hqx
              have g1 := (eqB_iff _ _).1 (Bool.and_eq_true_iff.1 (show (eqB n m && decide (now + num > now)) = true from hm)).1
              have g2 := (eqB_iff _ _).1 (Bool.and_eq_true_iff.1 (show (eqB x.f0 m && decide (x.f2 > now)) = true from hqx)).1
              have g3 := cmpI_neg x.f0 n
              have g4 : cmpI n x.f0 = 0 := by
                rw [cmpI_eq g1 x.f0]
                have := cmpI_neg x.f0 m
                omega
              rw [hsp] at hx
              rcases List.mem_append.1 hx with h | h
              · have := htk x h; omega
              · have := hhi2 x h; omega
            rw [hold_eq, hno]; rfl
          · right; right
            rw [hold_eq, hold_eq, find_mid, if_neg hm]
            conv => rhs; rw [hsp, List.find?_append]
        · intro _ _
          rw [hold_eq, find_mid, no_take now hlo, if_pos (by unfold hq; rw [(eqB_iff _ _).2 (cmpI_self n)]; simp; omega)]
          show (who, wrap64 (now + num - now)) = (who, num)
          rw [show wrap64 (now + num - now) = num by unfold wrap64; omega]
    · have ek : (kd != 5) = true := by simpa using k5
      refine ⟨L, 1, [], start _ ?_, hL, same, fun h => absurd h (by decide), fun h => absurd h (by decide)⟩
      simp only [hf', Bool.false_eq_true, if_false, ek]
      refine ev_succ ?_
      simp only [lease_Do.j3, if_true]
      exact Ev.now _
theorem copyop (kd : Int) (n v w : List Int) (num : Int) (h1 : n.length < 140737488355328) (h2 : v.length < 140737488355328) (h3 : w.length < 140737488355328) : catenaryref07_CopyOp.f kd n v w num = some (kd, n, v, w, num) := by
  unfold catenaryref07_CopyOp.f
  simp only [Option.bind_some, List.length_nil, Nat.zero_add, if_pos h1, if_pos h2, if_pos h3, List.nil_append]
theorem copy_l0 (l : List S40) (hx : l.length < 3518437208883) (hn : ∀ x ∈ l, x.f0.length < 140737488355328) : ∀ (d i : Nat) (acc : List S40), d + i = l.length → acc.length = i → Ev (fun k => catenaryref08_Copy.l0 k acc l (l.length : Int) (i : Int)) (acc ++ l.drop i)
  | 0, i, acc, hd, ha => by
    have e1 : ¬ (i : Int) < (l.length : Int) := by omega
    refine ev_succ ?_
    simp only [catenaryref08_Copy.l0, if_neg e1]
    rw [List.drop_eq_nil_of_le (by omega), List.append_nil]
    exact Ev.now _
  | d + 1, i, acc, hd, ha => by
    have hi : i < l.length := by omega
    have e1 : (i : Int) < (l.length : Int) := by omega
    have e2 : (0 : Int) ≤ (i : Int) := by omega
    have e3 : acc.length < 3518437208883 := by omega
    have ew : wrap64 ((i : Int) + 1) = ((i + 1 : Nat) : Int) := w64 i (by omega)
    have en : ([] : List Int).length + (l[i]).f0.length < 140737488355328 := by
      have := hn _ (List.getElem_mem hi)
      rw [List.length_nil]; omega
    have ih := copy_l0 l hx hn d (i + 1) (acc ++ [l[i]]) (by omega) (by rw [List.length_append, ha]; rfl)
    rw [List.append_assoc, List.singleton_append] at ih
    rw [List.drop_eq_getElem_cons hi]
    refine ev_succ ?_
    simp only [catenaryref08_Copy.l0, if_pos e1, if_pos e2, rdT l i hi, Option.bind_some, if_pos e3, if_pos en, List.nil_append, ew]
    exact ih
theorem copy_ev (l : List S40) (hx : l.length < 3518437208883) (hn : ∀ x ∈ l, x.f0.length < 140737488355328) : Ev (fun k => catenaryref08_Copy.f k l) l := by
  simp only [catenaryref08_Copy.f]
  exact copy_l0 l hx hn l.length 0 [] (by omega) rfl
theorem hold_live (l : List S40) (m : List Int) (now : Int) : hold (live now l) m now = hold l m now := by
  rw [hold_eq, hold_eq]
  congr 1
  induction l with
  | nil => rfl
  | cons a l ih =>
    unfold live at ih ⊢
    by_cases h : a.f2 > now
    · rw [List.filter_cons_of_pos (by simpa using h), List.find?_cons, List.find?_cons, ih]
    · rw [List.filter_cons_of_neg (by simpa using h), List.find?_cons, ih]
      rw [show hq m now a = false by unfold hq; rw [decide_eq_false h, Bool.and_false]]
theorem do_keeps (l : List S40) (hx : l.length < 3518437208883) (hn : ∀ x ∈ l, x.f0.length < 140737488355328) (hR : RightL l) (who now : Int) (kd : Int) (n v w : List Int) (num : Int) :
    ∃ out c x, Ev (fun k => lease_Do.f k l kd n v w num who now) (out, c, x) ∧ RightL out ∧ (∀ m, (hold l m now).1 = 0 ∨ (hold l m now).1 = who ∨ hold out m now = hold l m now) ∧ (c = 0 → kd = 5 ∨ kd = 6 → hold out n now = (who, num)) ∧ (c = 0 → kd = 7 → (hold out n now).1 = 0) := by
  by_cases h : okDo l kd n v w num who now
  · obtain ⟨_, b1, b2, b3, b4, b5⟩ := h
    obtain ⟨out, c, x, h1, h2, h3, h4, h5⟩ := do_tail l (live now l) (live_right hR now) who now (fun x hx => by simpa [live] using (List.mem_filter.1 hx).2) kd n v w num b1 b2 b3 b4 b5
    refine ⟨out, c, x, do_any l hx hn who now kd n v w num _ (fun _ => h1) (fun q => absurd ⟨hR, b1, b2, b3, b4, b5⟩ q), h2, fun m => ?_, h4, h5⟩
    have := h3 m
    rw [hold_live] at this
    exact this
  · exact ⟨l, 5, [], do_any l hx hn who now kd n v w num _ (fun q => absurd q h) (fun _ => rfl), hR, fun m => Or.inr (Or.inr rfl), fun q => absurd q (by decide), fun q => absurd q (by decide)⟩
theorem alive : Ev (fun k => catenarylaw08_leaseAlive.f k) true := Ev.of catenarylaw08_leaseAlive.mono (k := 60) (by kernel_rfl)
theorem keeps_end (hn0 hn1 c kd num who : Int) (b : Bool) (v1 v2 v3 v4 : List Int) (t now : Int) (h1 : b = true → hn0 = who ∧ hn1 = num) (h2 : b = false → c = 0 → kd = 7 → hn0 = 0) :
    Ev (fun k => catenarylaw08_LeaseKeeps.j2 k hn0 hn1 b kd v1 v2 v3 num who now c v4) true := by
  refine ev_succ ?_
  cases b with
  | true =>
    obtain ⟨rfl, rfl⟩ := h1 rfl
    simp only [catenarylaw08_LeaseKeeps.j2, if_true, beq_self_eq_true]
    exact Ev.now _
  | false =>
    simp only [catenarylaw08_LeaseKeeps.j2, Bool.false_eq_true, if_false]
    by_cases hc : c = 0
    · by_cases hk : kd = 7
      · simp only [if_pos hc, if_pos hk, h2 rfl hc hk, beq_self_eq_true]
        exact Ev.now _
      · simp only [if_pos hc, if_neg hk]
        exact Ev.now _
    · simp only [if_neg hc]
      exact Ev.now _
theorem keeps_l0 (l out : List S40) (hx : l.length < 3518437208883) (ho : out.length < 3518437208883) (who now : Int) (kd : Int) (n v w : List Int) (num c : Int) (x : List Int)
    (h3 : ∀ m, (hold l m now).1 = 0 ∨ (hold l m now).1 = who ∨ hold out m now = hold l m now) (h4 : c = 0 → kd = 5 ∨ kd = 6 → hold out n now = (who, num)) (h5 : c = 0 → kd = 7 → (hold out n now).1 = 0) :
    ∀ (d i : Nat), d + i = l.length → Ev (fun k => catenarylaw08_LeaseKeeps.l0 k l out l (l.length : Int) (i : Int) kd n v w num who now c x) true
  | 0, i, hd => by
    have e1 : ¬ (i : Int) < (l.length : Int) := by omega
    refine ev_succ ?_
    simp only [catenarylaw08_LeaseKeeps.l0, if_neg e1]
    refine Ev.bind (holder_ev out (by omega) n now) ?_
    by_cases hc : c = 0
    · by_cases k5 : kd = 5
      · simp only [if_pos hc, if_pos k5]
        have := h4 hc (Or.inl k5)
        rw [this]
        exact keeps_end _ _ _ _ _ _ _ _ _ _ _ 0 _ (fun _ => ⟨rfl, rfl⟩) (fun h => absurd h (by decide))
      · simp only [if_pos hc, if_neg k5]
        exact keeps_end _ _ _ _ _ _ _ _ _ _ _ 0 _ (fun h => by rw [h4 hc (Or.inr (by simpa using h))]; exact ⟨rfl, rfl⟩) (fun _ _ h => h5 hc h)
    · simp only [if_neg hc]
      exact keeps_end _ _ _ _ _ _ _ _ _ _ _ 0 _ (fun h => absurd h (by decide)) (fun _ h => absurd h hc)
  | d + 1, i, hd => by
    have hi : i < l.length := by omega
    have e1 : (i : Int) < (l.length : Int) := by omega
    have e2 : (0 : Int) ≤ (i : Int) := by omega
    have ew : wrap64 ((i : Int) + 1) = ((i + 1 : Nat) : Int) := w64 i (by omega)
    have ih := keeps_l0 l out hx ho who now kd n v w num c x h3 h4 h5 d (i + 1) (by omega)
    have jf : Ev (fun k => catenarylaw08_LeaseKeeps.j1 k l out l (l.length : Int) (i : Int) false kd n v w num who now c x) true := by
      refine ev_succ ?_
      simp only [catenarylaw08_LeaseKeeps.j1, Bool.false_eq_true, if_false, ew]
      exact ih
    refine ev_succ ?_
    simp only [catenarylaw08_LeaseKeeps.l0, if_pos e1, if_pos e2, rdT l i hi]
    refine Ev.bind (holder_ev l (by omega) (l[i]).f0 now) ?_
    refine Ev.bind (holder_ev out (by omega) (l[i]).f0 now) ?_
    by_cases a1 : (hold l (l[i]).f0 now).1 = 0
    · simp only [if_pos a1]; exact jf
    by_cases a2 : (hold l (l[i]).f0 now).1 = who
    · simp only [if_neg a1, if_pos a2]; exact jf
    have a3 : hold out (l[i]).f0 now = hold l (l[i]).f0 now := by
      rcases h3 (l[i]).f0 with h | h | h
      · exact absurd h a1
      · exact absurd h a2
      · exact h
    simp only [if_neg a1, if_neg a2, a3, if_true, bne_self_eq_false]
    exact jf
theorem ev_rounds {α : Type} {g : Nat → Option α} {r : α} (h : Ev g r) : ∃ k, g k = some r := by
  obtain ⟨K, hK⟩ := h
  exact ⟨K, hK K (Nat.le_refl _)⟩
theorem LeaseKeeps : catenarylaw08_LeaseKeeps.Pure := by
  intro l kd n v w num who now gl _ g1 g2 g3 _ _ _
  apply ev_rounds
  have hx : l.length < 3518437208883 := by have := gl.2.1; omega
  have hn : ∀ x ∈ l, x.f0.length < 140737488355328 := fun x hx => by have := (gl.2.2 x hx).1.2.1; omega
  simp only [catenarylaw08_LeaseKeeps.f]
  refine Ev.bind alive ?_
  simp only [if_true]
  rcases Right_ev l (by omega) with ⟨h1, hR⟩ | ⟨h1, hR⟩
  · refine Ev.bind h1 ?_
    simp only [if_true]
    refine Ev.bind (copy_ev l hx hn) ?_
    simp only [copyop kd n v w num (by have := g1.2.1; omega) (by have := g2.2.1; omega) (by have := g3.2.1; omega), Option.bind_some]
    obtain ⟨out, c, x, d1, d2, d3, d4, d5⟩ := do_keeps l hx hn hR who now kd n v w num
    refine Ev.bind d1 ?_
    have ho := d2.2.2
    rcases Right_ev out (by omega) with ⟨q1, _⟩ | ⟨_, q2⟩
    · refine Ev.bind q1 ?_
      simp only [if_true]
      exact keeps_l0 l out hx (by omega) who now kd n v w num c x d3 d4 d5 l.length 0 (by omega)
    · exact absurd d2 q2
  · refine Ev.bind h1 ?_
    simp only [Bool.false_eq_true, if_false]
    exact Ev.now _
end Go.Proofs.Ytkomibcmpckflaa.Pure
