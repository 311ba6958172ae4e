/- The pure statement. -/
import Derived.Test.YtkomibcmpckflaaPLeaseOverx8
namespace Go.Proofs.Ytkomibcmpckflaa.Pure
open Go.RowKit Go.Proofs.Ytkomibcmpckflaa.PLeaseOver Go.Proofs.YtkomibcmpckflaaW.PrintWords Go.Proofs.YtkomibcmpckflaaW.PrintLast Go.Proofs.YtkomibcmpckflaaW.PrintMore
theorem w64 (i : Nat) (h : i < 1000000000000000000) : wrap64 ((i : Int) + 1) = ((i + 1 : Nat) : Int) := by unfold wrap64; omega
theorem ev_succ {α : Type} {g : Nat → Option α} {r : α} (h : Ev (fun k => g (k + 1)) r) : Ev g r := Ev.step (fun _ => rfl) h
theorem rdL (xs : List (List Int)) (i : Nat) (h : i < xs.length) : rd_L1 xs (i : Int) = xs[i] := by
  unfold rd_L1
  rw [Int.toNat_natCast, List.getD_eq_getElem?_getD, List.getElem?_eq_getElem h]; rfl
def enc : Nat → Int → List Int
  | 0, x => [x % 256]
  | n + 1, x => if x ≥ 128 then Go.bits .or .u8 (x % 256) 128 :: enc n (x / 128) else [x % 256]
theorem enc_pos (n : Nat) (x : Int) (h : x ≥ 128) : enc (n + 1) x = [Go.bits .or .u8 (x % 256) 128] ++ enc n (x / 128) := by
  show (if x ≥ 128 then Go.bits .or .u8 (x % 256) 128 :: enc n (x / 128) else [x % 256]) = _
  rw [if_pos h]; rfl
theorem enc_len : ∀ n x, (enc n x).length ≤ n + 1
  | 0, _ => Nat.le_refl _
  | n + 1, x => by
    unfold enc
    split
    · have := enc_len n (x / 128); rw [List.length_cons]; omega
    · simp
theorem int_l0 : ∀ (n : Nat) (x : Int) (acc : List Int), 0 ≤ x → x < 128 ^ (n + 1) → acc.length + n < 1000 → Ev (fun k => octet_Int.l0 k x acc) (acc ++ enc n x, 0)
  | 0, x, acc, h0, h1, h2 => by
    apply ev_succ
    have e1 : ¬ x ≥ 128 := by omega
    have e2 : acc.length < 140737488355328 := by omega
    simp only [octet_Int.l0, if_neg e1, if_pos e2]
    exact Ev.now _
  | n + 1, x, acc, h0, h1, h2 => by
    apply ev_succ
    have e2 : acc.length < 140737488355328 := by omega
    by_cases e1 : x ≥ 128
    · simp only [octet_Int.l0, if_pos e1, if_pos e2]
      have := int_l0 n (x / 128) (acc ++ [Go.bits .or .u8 (x % 256) 128]) (by omega) (by
        have e : (128 : Int) ^ (n + 1 + 1) = 128 ^ (n + 1) * 128 := Int.pow_succ _ _
        rw [e] at h1
        exact Int.ediv_lt_of_lt_mul (by decide) h1) (by simp; omega)
      rw [List.append_assoc] at this
      rw [enc_pos n x e1]
      exact this
    · simp only [octet_Int.l0, if_neg e1, if_pos e2]
      rw [show enc (n + 1) x = [x % 256] by unfold enc; rw [if_neg e1]]
      exact Ev.now _
theorem int_ev (x : Int) (h0 : 0 ≤ x) (h1 : x ≤ 2147483647) : Ev (fun k => octet_Int.f k x) (enc 4 x, 0) := by
  have e1 : ¬ x < 0 := by omega
  have e2 : decide (x > 2147483647) = false := decide_eq_false (by omega)
  simp only [octet_Int.f, if_neg e1, e2]
  apply ev_succ
  simp only [octet_Int.j0, Bool.false_eq_true, if_false]
  exact int_l0 4 x [] h0 (by omega) (by decide)
theorem cat_l1 (xs : List (List Int)) (hx : xs.length < 1000) : ∀ (d i : Nat) (acc : List Int), d + i = xs.length → acc.length + (xs.drop i).flatten.length < 140737488355328 →
    Ev (fun k => slices_Concat_byte_byte.l1 k acc xs (xs.length : Int) (i : Int)) (acc ++ (xs.drop i).flatten)
  | 0, i, acc, hd, hl => by
    apply ev_succ
    have e1 : ¬ (i : Int) < (xs.length : Int) := by omega
    simp only [slices_Concat_byte_byte.l1, if_neg e1]
    rw [List.drop_eq_nil_of_le (by omega)]
    rw [List.flatten_nil, List.append_nil]
    exact Ev.now _
  | d + 1, i, acc, hd, hl => by
    apply ev_succ
    have hi : i < xs.length := by omega
    have e1 : (i : Int) < (xs.length : Int) := by omega
    have e2 : (0 : Int) ≤ (i : Int) := by omega
    rw [List.drop_eq_getElem_cons hi, List.flatten_cons] at hl ⊢
    rw [List.length_append] at hl
    have e3 : acc.length + (xs[i]).length < 140737488355328 := by omega
    simp only [slices_Concat_byte_byte.l1, if_pos e1, if_pos e2, rdL xs i hi, if_pos e3, w64 i (by omega)]
    have := cat_l1 xs hx d (i + 1) (acc ++ xs[i]) (by omega) (by rw [List.length_append]; omega)
    rw [List.append_assoc] at this
    exact this
theorem cat_l0 (xs : List (List Int)) (hx : xs.length < 1000) (r : List Int) (h : ∀ s : Nat, s < 140737488355328 → Ev (fun k => (slices_Grow_byte_byte.f () (s : Int)).bind fun t117 => (slices_Concat_byte_byte.l1 k t117 xs (xs.length : Int) 0)) r) :
    ∀ (d i s : Nat), d + i = xs.length → s + (xs.drop i).flatten.length < 140737488355328 →
    Ev (fun k => slices_Concat_byte_byte.l0 k xs (s : Int) xs (xs.length : Int) (i : Int)) r
  | 0, i, s, hd, hl => by
    apply ev_succ
    have e1 : ¬ (i : Int) < (xs.length : Int) := by omega
    simp only [slices_Concat_byte_byte.l0, if_neg e1]
    exact h s (by omega)
  | d + 1, i, s, hd, hl => by
    apply ev_succ
    have hi : i < xs.length := by omega
    have e1 : (i : Int) < (xs.length : Int) := by omega
    have e2 : (0 : Int) ≤ (i : Int) := by omega
    rw [List.drop_eq_getElem_cons hi, List.flatten_cons, List.length_append] at hl
    have e3 : wrap64 ((s : Int) + ((xs[i]).length : Int)) = ((s + (xs[i]).length : Nat) : Int) := by unfold wrap64; omega
    have e4 : ¬ ((s + (xs[i]).length : Nat) : Int) < 0 := by omega
    simp only [slices_Concat_byte_byte.l0, if_pos e1, if_pos e2, rdL xs i hi, e3, if_neg e4, w64 i (by omega)]
    exact cat_l0 xs hx r h d (i + 1) (s + (xs[i]).length) (by omega) (by omega)
theorem cat_ev (xs : List (List Int)) (hx : xs.length < 1000) (hl : xs.flatten.length < 140737488355328) : Ev (fun k => slices_Concat_byte_byte.f k xs) xs.flatten := by
  simp only [slices_Concat_byte_byte.f]
  refine cat_l0 xs hx _ (fun s hs => ?_) xs.length 0 0 (by omega) (by simpa using hl)
  have e1 : (0 : Int) ≤ (s : Int) := by omega
  have e2 : ((s : Int)).toNat < 140737488355328 := by omega
  simp only [slices_Grow_byte_byte.f, if_pos e1, if_pos e2, Option.bind_some]
  exact cat_l1 xs hx xs.length 0 [] (by omega) (by simpa using hl)
theorem bytes_ev (l : List Int) (h : l.length ≤ 1000) : Ev (fun k => octet_Bytes.f k l) (enc 4 (l.length : Int) ++ l) := by
  simp only [octet_Bytes.f]
  refine Ev.bind (int_ev (l.length : Int) (by omega) (by omega)) ?_
  have := enc_len 4 (l.length : Int)
  refine Ev.bind (cat_ev [enc 4 (l.length : Int), l] (by simp) (by simp; omega)) ?_
  simp only [List.flatten_cons, List.flatten_nil, List.append_nil]
  exact Ev.now _
def packed (xs : List (List Int)) : List Int := (xs.map (fun l => enc 4 (l.length : Int) ++ l)).flatten
theorem pack_l0 (xs : List (List Int)) (hx : xs.length < 1000) (hb : ∀ x ∈ xs, x.length ≤ 1000) : ∀ (d i : Nat) (acc : List Int), d + i = xs.length → acc.length + d * 1005 < 140737488355328 →
    Ev (fun k => octet_Pack.l0 k acc xs (xs.length : Int) (i : Int)) (acc ++ packed (xs.drop i))
  | 0, i, acc, hd, hl => by
    apply ev_succ
    have e1 : ¬ (i : Int) < (xs.length : Int) := by omega
    simp only [octet_Pack.l0, if_neg e1]
    rw [List.drop_eq_nil_of_le (by omega)]
    rw [show packed [] = [] from rfl, List.append_nil]
    exact Ev.now _
  | d + 1, i, acc, hd, hl => by
    apply ev_succ
    have hi : i < xs.length := by omega
    have e1 : (i : Int) < (xs.length : Int) := by omega
    have e2 : (0 : Int) ≤ (i : Int) := by omega
    have hb1 := hb xs[i] (List.getElem_mem hi)
    have hn := enc_len 4 ((xs[i]).length : Int)
    rw [List.drop_eq_getElem_cons hi]
    have e3 : acc.length + (enc 4 ((xs[i]).length : Int) ++ xs[i]).length < 140737488355328 := by rw [List.length_append]; omega
    simp only [octet_Pack.l0, if_pos e1, if_pos e2, rdL xs i hi]
    refine Ev.bind (bytes_ev xs[i] hb1) ?_
    simp only [if_pos e3, w64 i (by omega)]
    have := pack_l0 xs hx hb d (i + 1) (acc ++ (enc 4 ((xs[i]).length : Int) ++ xs[i])) (by omega) (by rw [List.length_append, List.length_append]; omega)
    rw [List.append_assoc] at this
    exact this
theorem pack_ev (xs : List (List Int)) (hx : xs.length < 1000) (hb : ∀ x ∈ xs, x.length ≤ 1000) : Ev (fun k => octet_Pack.f k xs) (packed xs) := by
  simp only [octet_Pack.f]
  exact pack_l0 xs hx hb xs.length 0 [] (by omega) (by simp; omega)
def kindB (kd num : Int) : Bool := if kd = 5 ∨ kd = 6 then decide (num ≥ 1) && decide (num ≤ 1000) else decide (num = 0)
def rightB (kd : Int) (n v w : List Int) (num : Int) : Bool :=
  decide ((n.length : Int) ≥ 1) && decide ((n.length : Int) ≤ 16) && decide ((v.length : Int) ≤ 64) && decide ((w.length : Int) ≤ 64) && decide (kd ≥ 1) && decide (kd ≤ 8) &&
  (decide ((v.length : Int) = 0) || decide (kd = 2) || decide (kd = 3)) && (decide ((w.length : Int) = 0) || decide (kd = 3)) && kindB kd num
theorem right3 (k : Nat) (x3 x4 x5 x62 : Bool) (kd : Int) (n v w : List Int) (num : Int) : kv_right.j3 (k + 1) x3 x4 x5 (num == 0) x62 kd n v w num = some (decide (kd ≥ 1) && decide (kd ≤ 8) && x3 && x4 && x5 && (if x62 = true then decide (num ≥ 1) && decide (num ≤ 1000) else decide (num = 0))) := by
  by_cases h1 : kd ≥ 1 <;> by_cases h2 : kd ≤ 8 <;> by_cases h3 : num ≥ 1 <;> cases x3 <;> cases x4 <;> cases x5 <;> cases x62 <;> simp [kv_right.j3, h1, h2, h3]
  all_goals by_cases h4 : num = 0 <;> simp [h4]
theorem right2 (k : Nat) (x3 x4 x5 : Bool) (kd : Int) (n v w : List Int) (num : Int) : kv_right.j2 (k + 2) x3 x4 x5 kd n v w num = some (decide (kd ≥ 1) && decide (kd ≤ 8) && x3 && x4 && x5 && kindB kd num) := by
  unfold kindB
  simp only [kv_right.j2]
  by_cases h5 : kd = 5
  · rw [if_pos h5, right3, if_pos (Or.inl h5), if_pos rfl]
  · rw [if_neg h5, right3]
    by_cases h6 : kd = 6
    · rw [if_pos (Or.inr h6), if_pos (by rw [h6]; rfl)]
    · rw [if_neg (show ¬ (kd == 6) = true by simpa using h6), if_neg (by omega)]
theorem right1 (k : Nat) (x3 x4 : Bool) (kd : Int) (n v w : List Int) (num : Int) : kv_right.j1 (k + 3) x3 x4 kd n v w num = some (decide (kd ≥ 1) && decide (kd ≤ 8) && x3 && x4 && (decide ((w.length : Int) = 0) || decide (kd = 3)) && kindB kd num) := by
  simp only [kv_right.j1]
  by_cases h5 : (w.length : Int) = 0
  · rw [if_pos h5, right2, decide_eq_true h5, Bool.true_or]
  · rw [if_neg h5, right2, decide_eq_false h5, Bool.false_or]; rfl
theorem right0 (k : Nat) (x3 : Bool) (kd : Int) (n v w : List Int) (num : Int) : kv_right.j0 (k + 4) x3 kd n v w num = some (decide (kd ≥ 1) && decide (kd ≤ 8) && x3 && (decide ((v.length : Int) = 0) || decide (kd = 2) || decide (kd = 3)) && (decide ((w.length : Int) = 0) || decide (kd = 3)) && kindB kd num) := by
  simp only [kv_right.j0]
  by_cases h5 : (v.length : Int) = 0
  · rw [if_pos h5, right1, decide_eq_true h5, Bool.true_or, Bool.true_or]
  · rw [if_neg h5, decide_eq_false h5, Bool.false_or]
    by_cases h6 : kd = 2
    · rw [if_pos h6, right1, decide_eq_true h6, Bool.true_or]
    · rw [if_neg h6, right1, decide_eq_false h6, Bool.false_or]; rfl
theorem right_ev (kd : Int) (n v w : List Int) (num : Int) : Ev (fun k => kv_right.f k kd n v w num) (rightB kd n v w num) := by
  refine ⟨4, fun k hk => ?_⟩
  obtain ⟨k, rfl⟩ : ∃ m, k = m + 4 := ⟨k - 4, by omega⟩
  unfold kv_right.f rightB
  simp only [right0]
  by_cases h1 : (n.length : Int) ≥ 1 <;> by_cases h2 : (n.length : Int) ≤ 16 <;> by_cases h3 : (v.length : Int) ≤ 64 <;> by_cases h4 : (w.length : Int) ≤ 64 <;> simp only [if_pos, h1, h2, h3, h4, decide_true, decide_false, Bool.and_true, Bool.true_and, Bool.and_false, Bool.false_and, if_false]
def opBytes (kd : Int) (n v w : List Int) (num : Int) : List Int := enc 4 kd ++ packed [n, v, w] ++ enc 4 num
theorem write_ev (kd : Int) (n v w : List Int) (num : Int) : Ev (fun k => kv_Write.f k kd n v w num) (if rightB kd n v w num = true then (opBytes kd n v w num, 0) else ([], 71)) := by
  simp only [kv_Write.f]
  refine Ev.bind (right_ev kd n v w num) ?_
  by_cases h : rightB kd n v w num = true
  · simp only [if_pos h]
    have hk : 1 ≤ kd ∧ kd ≤ 8 ∧ 0 ≤ num ∧ num ≤ 1000 ∧ n.length ≤ 16 ∧ v.length ≤ 64 ∧ w.length ≤ 64 := by
      unfold rightB at h
      simp only [Bool.and_eq_true, decide_eq_true_eq] at h
      obtain ⟨⟨⟨⟨⟨⟨⟨⟨a1, a2⟩, a3⟩, a4⟩, a5⟩, a6⟩, a7⟩, a8⟩, a9⟩ := h
      unfold kindB at a9
      refine ⟨a5, a6, ?_, ?_, by omega, by omega, by omega⟩
      · split at a9 <;> simp only [Bool.and_eq_true, decide_eq_true_eq] at a9 <;> omega
      · split at a9 <;> simp only [Bool.and_eq_true, decide_eq_true_eq] at a9 <;> omega
    obtain ⟨b1, b2, b3, b4, b5, b6, b7⟩ := hk
    refine Ev.bind (int_ev kd (by omega) (by omega)) ?_
    refine Ev.bind (int_ev num (by omega) (by omega)) ?_
    have hb : ∀ x ∈ [n, v, w], x.length ≤ 1000 := by
      intro x hx
      simp only [List.mem_cons, List.not_mem_nil, or_false] at hx
      rcases hx with rfl | rfl | rfl <;> omega
    refine Ev.bind (pack_ev [n, v, w] (by simp) hb) ?_
    have l1 := enc_len 4 kd
    have l2 := enc_len 4 num
    have l3 := enc_len 4 (n.length : Int)
    have l4 := enc_len 4 (v.length : Int)
    have l5 := enc_len 4 (w.length : Int)
    refine Ev.bind (cat_ev [enc 4 kd, packed [n, v, w], enc 4 num] (by simp) (by simp [packed]; omega)) ?_
    rw [show [enc 4 kd, packed [n, v, w], enc 4 num].flatten = opBytes kd n v w num by simp [opBytes]]
    exact Ev.now _
  · simp only [if_neg h]
    exact Ev.now _


theorem cmp_refl : ∀ a : List UInt8, Lib.compareBytes a a = 0
  | [] => rfl
  | a :: ar => by unfold Lib.compareBytes; rw [if_neg (by simp), if_neg (by simp)]; exact cmp_refl ar
theorem cmp_eq0 : ∀ a b : List UInt8, Lib.compareBytes a b = 0 → a = b
  | [], [], _ => rfl
  | [], _ :: _, h => by simp [Lib.compareBytes] at h
  | _ :: _, [], h => by simp [Lib.compareBytes] at h
  | a :: ar, b :: bs, h => by
    unfold Lib.compareBytes at h
    split at h
    · cases h
    · split at h
      · cases h
      · rw [cmp_eq0 ar bs h]
        congr 1
        rename_i h1 h2
        exact UInt8.le_antisymm (UInt8.not_lt.1 h2) (UInt8.not_lt.1 h1)
theorem cmp_neg : ∀ a b : List UInt8, Lib.compareBytes b a = - Lib.compareBytes a b
  | [], [] => rfl
  | [], _ :: _ => by simp [Lib.compareBytes]
  | _ :: _, [] => by simp [Lib.compareBytes]
  | a :: ar, b :: bs => by
    unfold Lib.compareBytes
    by_cases h1 : a < b
    · rw [if_neg (UInt8.lt_asymm h1), if_pos h1, if_pos h1]; rfl
    · by_cases h2 : b < a
      · rw [if_pos h2, if_neg h1, if_pos h2]
      · rw [if_neg h2, if_neg h1, if_neg h1, if_neg h2]; exact cmp_neg ar bs
theorem cmp_trans : ∀ a b c : List UInt8, Lib.compareBytes a b < 0 → Lib.compareBytes b c < 0 → Lib.compareBytes a c < 0
  | [], _, [], h1, h2 => by
    rename_i b
    cases b with
    | nil => simp [Lib.compareBytes] at h1
    | cons x xs => simp [Lib.compareBytes] at h2
  | [], _, _ :: _, _, _ => by simp [Lib.compareBytes]
  | _ :: _, [], _, h1, _ => by simp [Lib.compareBytes] at h1
  | _ :: _, _ :: _, [], _, h2 => by simp [Lib.compareBytes] at h2
  | a :: ar, b :: bs, c :: cs, h1, h2 => by
    unfold Lib.compareBytes at h1 h2 ⊢
    by_cases h : a < c
    · rw [if_pos h]; decide
    · rw [if_neg h]
      by_cases g : c < a
      · exfalso
        by_cases p : a < b
        · by_cases q : b < c
          · exact h (UInt8.lt_trans p q)
          · rw [if_neg q] at h2
            by_cases q' : c < b
            · rw [if_pos q'] at h2; omega
            · have : b = c := UInt8.le_antisymm (UInt8.not_lt.1 q') (UInt8.not_lt.1 q)
              subst this
              exact h p
        · rw [if_neg p] at h1
          by_cases p' : b < a
          · rw [if_pos p'] at h1; omega
          · have : a = b := UInt8.le_antisymm (UInt8.not_lt.1 p') (UInt8.not_lt.1 p)
            subst this
            rw [if_neg h, if_pos g] at h2; omega
      · rw [if_neg g]
        have : a = c := UInt8.le_antisymm (UInt8.not_lt.1 g) (UInt8.not_lt.1 h)
        subst this
        by_cases p : a < b
        · rw [if_neg (UInt8.lt_asymm p), if_pos p] at h2; omega
        · rw [if_neg p] at h1
          by_cases p' : b < a
          · rw [if_pos p'] at h1; omega
          · rw [if_neg p'] at h1
            rw [if_neg p', if_neg p] at h2
            exact cmp_trans ar bs cs h1 h2
theorem cmp_vals (a b : List UInt8) : Lib.compareBytes a b = -1 ∨ Lib.compareBytes a b = 0 ∨ Lib.compareBytes a b = 1 := by
  induction a generalizing b with
  | nil => cases b <;> simp [Lib.compareBytes]
  | cons a ar ih =>
    cases b with
    | nil => simp [Lib.compareBytes]
    | cons b bs =>
      unfold Lib.compareBytes
      split
      · simp
      · split
        · simp
        · exact ih bs
theorem ev_up {α : Type} {g : Nat → Option α} {r : α} (h : Ev g r) : Ev (fun k => g (k + 1)) r := by
  obtain ⟨K, hK⟩ := h
  exact ⟨K, fun k hk => hK (k + 1) (by omega)⟩
theorem cmp_self (a : List Int) : bytes_Compare.f a a = some 0 := by
  unfold bytes_Compare.f
  rw [cmp_refl]
theorem eq_self (a : List Int) : bytes_Equal.f a a = some true := by
  unfold bytes_Equal.f
  rw [beq_self_eq_true]
theorem right5 (n : List Int) (num : Int) (h0 : 1 ≤ n.length) (h1 : n.length ≤ 16) (h2 : 1 ≤ num) (h3 : num ≤ 1000) : rightB 5 n [] [] num = true := by
  unfold rightB kindB
  simp
  omega
theorem client_ok (a : Int) (h0 : 1 ≤ a) (h1 : a ≤ 4) : lease_client.f a = some true := by
  unfold lease_client.f
  rw [if_pos (show a ≥ 1 from h0), decide_eq_true h1]
theorem rdT0 (x : S40) (l : List S40) : rd_T40 (x :: l) 0 = x := by
  rw [show rd_T40 (x :: l) 0 = x from rfl]
theorem right_nil : Ev (fun k => lease_Right.f k []) true := by
  simp only [lease_Right.f]
  apply ev_succ
  simp only [lease_Right.l0]
  exact Ev.now _
theorem right_one (x : S40) (h0 : 1 ≤ x.f0.length) (h1 : x.f0.length ≤ 16) (h2 : 1 ≤ x.f1) (h3 : x.f1 ≤ 4) (h4 : 1 ≤ x.f2) (h5 : x.f2 ≤ 2147483647) : Ev (fun k => lease_Right.f k [x]) true := by
  have e1 : ¬ (x.f0.length : Int) < 1 := by omega
  have e2 : ¬ (x.f0.length : Int) > 16 := by omega
  have e3 : ¬ x.f2 < 1 := by omega
  have e4 : ¬ x.f2 > 2147483647 := by omega
  have e5 : (0 : Int) < (([x] : List S40).length : Int) := by simp
  have e6 : ¬ (1 : Int) < (([x] : List S40).length : Int) := by simp
  have e7 : ¬ wrap64 (0 + 1) < (([x] : List S40).length : Int) := by simp [wrap64]
  simp only [lease_Right.f]
  refine ev_succ (ev_succ (ev_succ ?_))
  simp only [lease_Right.l0, lease_Right.j1, if_pos e5, rdT0, if_neg e1, if_neg e2, client_ok x.f1 h2 h3, Option.bind_some, if_neg e3, if_neg e4, if_neg e7, if_true, Bool.false_eq_true, if_false, Int.le_refl, Int.lt_irrefl, gt_iff_lt]
  exact Ev.now _
theorem search_nil (n : List Int) : Ev (fun k => api_Lease_byte.f k [] n ()) (0, false) := by
  simp only [api_Lease_byte.f]
  refine ev_succ ?_
  simp only [api_Lease_byte.l0, List.length_nil, Int.ofNat_zero, Int.lt_irrefl, if_false]
  exact Ev.now _
theorem search_one (x : S40) : Ev (fun k => api_Lease_byte.f k [x] x.f0 ()) (0, true) := by
  have m0 : wrap64 ((IntKind.u64.wrap (wrap64 (0 + (([x] : List S40).length : Int)))) / 2) = 0 := by
    rw [show (([x] : List S40).length : Int) = 1 from rfl]; kernel_rfl
  have e5 : (0 : Int) < (([x] : List S40).length : Int) := by simp
  have e6 : (0 : Int) < 1 := by decide
  have d1 : lease_Do_1.f x.f0 x.f1 x.f2 x.f0 = some 0 := by
    unfold lease_Do_1.f
    rw [cmp_self]; rfl
  simp only [api_Lease_byte.f]
  refine ev_succ (ev_succ ?_)
  simp only [api_Lease_byte.l0, m0, if_pos e5, rdT0, d1, Option.bind_some, Int.lt_irrefl, if_false, Int.le_refl, if_true]
  exact Ev.now _
theorem tail_nil (who now : Int) (xs : List S40) (i : Int) (hi : ¬ i < (xs.length : Int)) (n : List Int) (num : Int) (hn : n.length ≤ 16) (h0 : 0 ≤ now) (h1 : now ≤ 2147482647) (h2 : 1 ≤ num) (h3 : num ≤ 1000) :
    Ev (fun k => lease_Do.l0 k who now [] true xs (xs.length : Int) i 5 n [] [] num) ([⟨n, who, now + num⟩], 0, []) := by
  have hw : wrap64 (now + num) = now + num := by unfold wrap64; omega
  have hc : slices_Clone_byte_byte.f n = some n := by
    unfold slices_Clone_byte_byte.f
    rw [if_pos (by omega)]
  refine ev_succ ?_
  simp only [lease_Do.l0, if_neg hi, if_true]
  refine Ev.bind (search_nil n) ?_
  refine ev_succ (ev_succ ?_)
  have e1 : ¬ (((5 : Int) != 5) = true) := by decide
  have e2 : ((([] : List S40).length : Int) == 16) = false := by rfl
  have e3 : ([] : List S40).length < 3518437208883 := by decide
  have e4 : (0 : Int) ≤ (([] : List S40).length : Int) := by decide
  simp only [lease_Do.j3, lease_Do.j4, Bool.false_eq_true, if_false, if_neg e1, e2, hc, Option.bind_some, Int.le_refl, if_true, if_pos e3, if_pos e4, hw]
  exact Ev.now _
theorem do_nil (n : List Int) (num who now : Int) (hn0 : 1 ≤ n.length) (hn : n.length ≤ 16) (h0 : 0 ≤ now) (h1 : now ≤ 2147482647) (h2 : 1 ≤ num) (h3 : num ≤ 1000) (h4 : 1 ≤ who) (h5 : who ≤ 4) :
    Ev (fun k => lease_Do.f k [] 5 n [] [] num who now) ([⟨n, who, now + num⟩], 0, []) := by
  have e1 : (5 : Int) ≥ 5 := by decide
  have e2 : now ≥ 0 := h0
  have e3 : decide (now ≤ 2147482647) = true := decide_eq_true h1
  simp only [lease_Do.f]
  refine Ev.bind (write_ev 5 n [] [] num) ?_
  simp only [right5 n num hn0 hn h2 h3, if_true]
  refine Ev.bind right_nil ?_
  simp only [if_true, if_pos e1, client_ok who h4 h5, Option.bind_some, if_pos e2, e3]
  refine ev_succ ?_
  simp only [lease_Do.j0]
  exact tail_nil who now [] 0 (by decide) n num hn h0 h1 h2 h3
theorem tail_one (who now : Int) (x : S40) (xs : List S40) (i : Int) (hi : ¬ i < (xs.length : Int)) (num : Int) (hu0 : 1 ≤ x.f2) (hu : x.f2 ≤ 2147483647) (ho0 : 1 ≤ x.f1) (ho : x.f1 ≤ 4) (h0 : 0 ≤ now) (h1 : now ≤ 2147482647) (hl : now < x.f2) :
    ∃ l v, Ev (fun k => lease_Do.l0 k who now [x] true xs (xs.length : Int) i 5 x.f0 [] [] num) (l, (if x.f1 = who then 0 else 4), v) := by
  have hw : wrap64 (x.f2 - now) = x.f2 - now := by unfold wrap64; omega
  have e5 : (0 : Int) < (([x] : List S40).length : Int) := by simp
  by_cases hq : x.f1 = who
  · refine ⟨[x].set 0 ⟨x.f0, x.f1, wrap64 (now + num)⟩, [], ?_⟩
    refine ev_succ ?_
    simp only [lease_Do.l0, if_neg hi, if_true]
    refine Ev.bind (search_one x) ?_
    refine ev_succ (ev_succ ?_)
    simp only [lease_Do.j3, lease_Do.j4, Bool.false_eq_true, if_false, Int.le_refl, if_true, if_pos e5, rdT0, if_pos hq, show ¬ ((5 : Int) = 8) by decide, show ¬ ((5 : Int) = 7) by decide]
    exact Ev.now _
  · refine ⟨[x], enc 4 x.f1 ++ enc 4 (x.f2 - now), ?_⟩
    refine ev_succ ?_
    simp only [lease_Do.l0, if_neg hi, if_true]
    refine Ev.bind (search_one x) ?_
    refine ev_succ (ev_succ ?_)
    simp only [lease_Do.j3, lease_Do.j4, Bool.false_eq_true, if_false, Int.le_refl, if_true, if_pos e5, rdT0, if_neg hq, show ¬ ((5 : Int) = 8) by decide, show ¬ ((5 : Int) = 7) by decide, hw]
    have l1 := enc_len 4 x.f1
    have l2 := enc_len 4 (x.f2 - now)
    have ht : Ev (fun k => lease_told.f k x.f1 (x.f2 - now)) (enc 4 x.f1 ++ enc 4 (x.f2 - now)) := by
      simp only [lease_told.f]
      refine Ev.bind (int_ev x.f1 (by omega) (by omega)) ?_
      refine Ev.bind (int_ev (x.f2 - now) (by omega) (by omega)) ?_
      simp only [if_pos (show (enc 4 x.f1).length + (enc 4 (x.f2 - now)).length < 140737488355328 by omega)]
      exact Ev.now _
    refine Ev.bind ht ?_
    exact Ev.now _
theorem do_one (x : S40) (num who now : Int) (hn0 : 1 ≤ x.f0.length) (hn : x.f0.length ≤ 16) (hu0 : 1 ≤ x.f2) (hu : x.f2 ≤ 2147483647) (ho0 : 1 ≤ x.f1) (ho : x.f1 ≤ 4) (h0 : 0 ≤ now) (h1 : now ≤ 2147482647) (h2 : 1 ≤ num) (h3 : num ≤ 1000) (h4 : 1 ≤ who) (h5 : who ≤ 4) :
    ∃ l v, Ev (fun k => lease_Do.f k [x] 5 x.f0 [] [] num who now) (l, (if now < x.f2 ∧ x.f1 ≠ who then 4 else 0), v) := by
  have e1 : (5 : Int) ≥ 5 := by decide
  have e2 : now ≥ 0 := h0
  have e3 : decide (now ≤ 2147482647) = true := decide_eq_true h1
  have e5 : (0 : Int) < (([x] : List S40).length : Int) := by simp
  have e6 : ¬ wrap64 (0 + 1) < (([x] : List S40).length : Int) := by simp [wrap64]
  have hc : lease_clone.f x.f0 x.f1 x.f2 = some (x.f0, x.f1, x.f2) := by
    unfold lease_clone.f slices_Clone_byte_byte.f
    rw [if_pos (by omega)]; rfl
  have en : ([] : List S40).length < 3518437208883 := by decide
  have key : ∀ (l : List S40) (c : Int) (v : List Int), Ev (fun k => lease_Do.l0 k who now (if now < x.f2 then [x] else []) true [x] (([x] : List S40).length : Int) (wrap64 (0 + 1)) 5 x.f0 [] [] num) (l, c, v) → Ev (fun k => lease_Do.f k [x] 5 x.f0 [] [] num who now) (l, c, v) := by
    intro l c v hk
    simp only [lease_Do.f]
    refine Ev.bind (write_ev 5 x.f0 [] [] num) ?_
    simp only [right5 x.f0 num hn0 hn h2 h3, if_true]
    refine Ev.bind (right_one x hn0 hn ho0 ho hu0 hu) ?_
    simp only [if_true, if_pos e1, client_ok who h4 h5, Option.bind_some, if_pos e2, e3]
    refine ev_succ (ev_succ (ev_succ ?_))
    by_cases hl : now < x.f2
    · rw [if_pos hl] at hk
      have gd : ∀ i : Decidable (x.f2 > now), @decide (x.f2 > now) i = true := fun i => decide_eq_true hl
      simp only [lease_Do.j0, lease_Do.l0, lease_Do.j2, if_pos e5, if_true, rdT0, Int.le_refl, gd, hc, Option.bind_some, if_pos en]
      exact hk
    · rw [if_neg hl] at hk
      have gd : ∀ i : Decidable (x.f2 > now), @decide (x.f2 > now) i = false := fun i => decide_eq_false (fun h => hl h)
      simp only [lease_Do.j0, lease_Do.l0, lease_Do.j2, if_pos e5, if_true, rdT0, Int.le_refl, gd, Bool.false_eq_true, if_false]
      exact hk
  by_cases hl : now < x.f2
  · obtain ⟨l, v, he⟩ := tail_one who now x [x] (wrap64 (0 + 1)) e6 num hu0 hu ho0 ho h0 h1 hl
    refine ⟨l, v, ?_⟩
    have ec : (if now < x.f2 ∧ x.f1 ≠ who then (4 : Int) else 0) = (if x.f1 = who then 0 else 4) := by
      by_cases hq : x.f1 = who
      · rw [if_neg (fun h => h.2 hq), if_pos hq]
      · rw [if_pos ⟨hl, hq⟩, if_neg hq]
    rw [ec]
    refine key _ _ _ ?_
    rw [if_pos hl]
    exact he
  · refine ⟨[⟨x.f0, who, now + num⟩], [], ?_⟩
    rw [if_neg (fun h => hl h.1)]
    refine key _ _ _ ?_
    rw [if_neg hl]
    exact tail_nil who now [x] (wrap64 (0 + 1)) e6 x.f0 num hn h0 h1 h2 h3
theorem holder_one (x : S40) (now : Int) (h0 : 0 ≤ now) (h1 : now ≤ 2147483647) (hu0 : 1 ≤ x.f2) (hu : x.f2 ≤ 2147483647) : Ev (fun k => lease_Holder.f k [x] x.f0 now) (if now < x.f2 then (x.f1, x.f2 - now) else (0, 0)) := by
  have hw : wrap64 (x.f2 - now) = x.f2 - now := by unfold wrap64; omega
  have e5 : (0 : Int) < (([x] : List S40).length : Int) := by simp
  have e6 : ¬ wrap64 (0 + 1) < (([x] : List S40).length : Int) := by simp [wrap64]
  simp only [lease_Holder.f]
  refine ev_succ (ev_succ (ev_succ ?_))
  by_cases hl : now < x.f2
  · have gd : ∀ i : Decidable (x.f2 > now), @decide (x.f2 > now) i = true := fun i => decide_eq_true hl
    simp only [lease_Holder.l0, lease_Holder.j1, if_pos e5, rdT0, eq_self, Option.bind_some, Int.le_refl, if_true, gd, hw, if_pos hl]
    exact Ev.now _
  · have gd : ∀ i : Decidable (x.f2 > now), @decide (x.f2 > now) i = false := fun i => decide_eq_false (fun h => hl h)
    simp only [lease_Holder.l0, lease_Holder.j1, if_pos e5, rdT0, eq_self, Option.bind_some, Int.le_refl, if_true, gd, if_neg e6, if_neg hl, Bool.false_eq_true, if_false]
    exact Ev.now _
theorem copy_one (x : S40) (h : x.f0.length ≤ 16) : Ev (fun k => catenaryref08_Copy.f k [x]) [x] := by
  have e5 : (0 : Int) < (([x] : List S40).length : Int) := by simp
  have e6 : ¬ wrap64 (0 + 1) < (([x] : List S40).length : Int) := by simp [wrap64]
  have en : ([] : List S40).length < 3518437208883 := by decide
  have el : ([] : List Int).length + x.f0.length < 140737488355328 := by simp; omega
  simp only [catenaryref08_Copy.f]
  refine ev_succ (ev_succ ?_)
  simp only [catenaryref08_Copy.l0, if_pos e5, rdT0, Option.bind_some, Int.le_refl, if_true, if_pos en, if_pos el, if_neg e6, List.nil_append]
  exact Ev.now _
theorem alive : Ev (fun k => catenarylaw08_leaseAlive.f k) true := Ev.of catenarylaw08_leaseAlive.mono (k := 60) (by kernel_rfl)
theorem over_in (n : List Int) (c d t m : Int) (hn0 : 1 ≤ n.length) (hn : n.length ≤ 16) (hc0 : 1 ≤ c) (hc : c ≤ 4) (hd0 : 1 ≤ d) (hd : d ≤ 4) (ht0 : 0 ≤ t) (ht : t ≤ 1000000) (hm0 : 1 ≤ m) (hm : m ≤ 1000) :
    Ev (fun k => catenarylaw08_LeaseOver.j0 k n false c d t m) true := by
  have w1 : wrap64 (t + m) = t + m := by unfold wrap64; omega
  have w2 : wrap64 (t + m - 1) = t + m - 1 := by unfold wrap64; omega
  refine ev_succ ?_
  simp only [catenarylaw08_LeaseOver.j0, Bool.false_eq_true, if_false, w1, w2]
  refine Ev.bind (do_nil n m c t hn0 hn ht0 (by omega) hm0 hm hc0 hc) ?_
  refine Ev.bind (copy_one ⟨n, c, t + m⟩ hn) ?_
  obtain ⟨l1, v1, e1⟩ := do_one ⟨n, c, t + m⟩ m d (t + m - 1) hn0 hn (show 1 ≤ t + m by omega) (show t + m ≤ 2147483647 by omega) hc0 hc (by omega) (by omega) hm0 hm hd0 hd
  obtain ⟨l2, v2, e2⟩ := do_one ⟨n, c, t + m⟩ m d (t + m) hn0 hn (show 1 ≤ t + m by omega) (show t + m ≤ 2147483647 by omega) hc0 hc (by omega) (by omega) hm0 hm hd0 hd
  refine Ev.bind e1 ?_
  refine Ev.bind (copy_one ⟨n, c, t + m⟩ hn) ?_
  refine Ev.bind e2 ?_
  refine Ev.bind (holder_one ⟨n, c, t + m⟩ (t + m - 1) (by omega) (by omega) (show 1 ≤ t + m by omega) (show t + m ≤ 2147483647 by omega)) ?_
  refine Ev.bind (holder_one ⟨n, c, t + m⟩ (t + m) (by omega) (by omega) (show 1 ≤ t + m by omega) (show t + m ≤ 2147483647 by omega)) ?_
  have p1 : t + m - 1 < t + m := by omega
  have p2 : ¬ t + m < t + m := by omega
  simp only [p1, p2, if_true, if_false, true_and, false_and]
  by_cases hq : c = d
  · simp only [hq, ne_eq, not_true_eq_false, if_false, show (((0 : Int) == 4) = (d != d)) by simp, beq_self_eq_true, if_true]
    exact Ev.now _
  · have q1 : (c != d) = true := by simpa using hq
    simp only [hq, ne_eq, not_false_eq_true, if_true, q1, beq_self_eq_true]
    exact Ev.now _
theorem over_out (n : List Int) (c d t m : Int) : Ev (fun k => catenarylaw08_LeaseOver.j0 k n true c d t m) true := by
  refine ev_succ ?_
  simp only [catenarylaw08_LeaseOver.j0, if_true]
  exact Ev.now _
theorem LeaseOver : catenarylaw08_LeaseOver.Pure := by
  intro n c d t m _ _ _ _ _
  apply Ev.rounds
  simp only [catenarylaw08_LeaseOver.f]
  refine Ev.bind alive ?_
  simp only [if_true]
  by_cases h0 : (n.length : Int) < 1
  · simp only [if_pos h0]; exact over_out _ _ _ _ _
  simp only [if_neg h0]
  by_cases h1 : (n.length : Int) > 16
  · simp only [if_pos h1]; exact over_out _ _ _ _ _
  simp only [if_neg h1]
  by_cases h2 : c < 1
  · simp only [if_pos h2]; exact over_out _ _ _ _ _
  simp only [if_neg h2]
  by_cases h3 : c > 4
  · simp only [if_pos h3]; exact over_out _ _ _ _ _
  simp only [if_neg h3]
  by_cases h4 : d < 1
  · simp only [if_pos h4]; exact over_out _ _ _ _ _
  simp only [if_neg h4]
  by_cases h5 : d > 4
  · simp only [if_pos h5]; exact over_out _ _ _ _ _
  simp only [if_neg h5]
  by_cases h6 : t < 0
  · simp only [if_pos h6]; exact over_out _ _ _ _ _
  simp only [if_neg h6]
  by_cases h7 : t > 1000000
  · simp only [if_pos h7]; exact over_out _ _ _ _ _
  simp only [if_neg h7]
  by_cases h8 : m < 1
  · simp only [if_pos h8]; exact over_out _ _ _ _ _
  simp only [if_neg h8]
  by_cases h9 : m > 1000
  · simp only [decide_eq_true h9]; exact over_out _ _ _ _ _
  simp only [decide_eq_false h9]
  exact over_in n c d t m (by omega) (by omega) (by omega) (by omega) (by omega) (by omega) (by omega) (by omega) (by omega) (by omega)
end Go.Proofs.Ytkomibcmpckflaa.Pure
