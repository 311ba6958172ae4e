/- KvDoes over lists and numbers alone: for every list of entries and every operation the law's function answers true. -/
import Derived.Test.YtlafaiacbebfnaaPKvDoesx11
import Derived.KernelRfl
import Derived.Lib.Bytes
namespace Go.Proofs.Ytlafaiacbebfnaa.Pure
open Go Go.RowKit Go.Proofs.Ytlafaiacbebfnaa.PKvDoes Go.Proofs.YtlafaiacbebfnaaW.PrintWords Go.Proofs.YtlafaiacbebfnaaW.PrintLast Go.Proofs.YtlafaiacbebfnaaW.PrintMore
set_option linter.unusedVariables false
set_option linter.unusedSimpArgs false
theorem w64 (i : Nat) (h : i < 1000000000000000000) : wrap64 ((i : Int) + 1) = ((i + 1 : Nat) : Int) := by unfold wrap64; omega
theorem ev_succ {α : Type} {g : Nat → Option α} {r : α} (h : Ev (fun k => g (k + 1)) r) : Ev g r := Ev.step (fun _ => rfl) h
theorem rdL (xs : List (List Int)) (i : Nat) (h : i < xs.length) : rd_L1 xs (i : Int) = xs[i] := by
  unfold rd_L1
  rw [Int.toNat_natCast, List.getD_eq_getElem?_getD, List.getElem?_eq_getElem h]; rfl
def enc : Nat → Int → List Int
  | 0, x => [x % 256]
  | n + 1, x => if x ≥ 128 then Go.bits .or .u8 (x % 256) 128 :: enc n (x / 128) else [x % 256]
theorem enc_pos (n : Nat) (x : Int) (h : x ≥ 128) : enc (n + 1) x = [Go.bits .or .u8 (x % 256) 128] ++ enc n (x / 128) := by
  show (if x ≥ 128 then Go.bits .or .u8 (x % 256) 128 :: enc n (x / 128) else [x % 256]) = _
  rw [if_pos h]; rfl
theorem enc_len : ∀ n x, (enc n x).length ≤ n + 1
  | 0, _ => Nat.le_refl _
  | n + 1, x => by
    unfold enc
    split
    · have := enc_len n (x / 128); rw [List.length_cons]; omega
    · simp
def packed (xs : List (List Int)) : List Int := (xs.map (fun l => enc 4 (l.length : Int) ++ l)).flatten
def kindB (kd num : Int) : Bool := if kd = 5 ∨ kd = 6 then decide (num ≥ 1) && decide (num ≤ 1000) else decide (num = 0)
def rightB (kd : Int) (n v w : List Int) (num : Int) : Bool :=
  decide ((n.length : Int) ≥ 1) && decide ((n.length : Int) ≤ 16) && decide ((v.length : Int) ≤ 64) && decide ((w.length : Int) ≤ 64) && decide (kd ≥ 1) && decide (kd ≤ 8) &&
  (decide ((v.length : Int) = 0) || decide (kd = 2) || decide (kd = 3)) && (decide ((w.length : Int) = 0) || decide (kd = 3)) && kindB kd num
theorem right3 (k : Nat) (x3 x4 x5 x62 : Bool) (kd : Int) (n v w : List Int) (num : Int) : kv_right.j3 (k + 1) x3 x4 x5 (num == 0) x62 kd n v w num = some (decide (kd ≥ 1) && decide (kd ≤ 8) && x3 && x4 && x5 && (if x62 = true then decide (num ≥ 1) && decide (num ≤ 1000) else decide (num = 0))) := by
  by_cases h1 : kd ≥ 1 <;> by_cases h2 : kd ≤ 8 <;> by_cases h3 : num ≥ 1 <;> cases x3 <;> cases x4 <;> cases x5 <;> cases x62 <;> simp [kv_right.j3, h1, h2, h3]
  all_goals by_cases h4 : num = 0 <;> simp [h4]
theorem right2 (k : Nat) (x3 x4 x5 : Bool) (kd : Int) (n v w : List Int) (num : Int) : kv_right.j2 (k + 2) x3 x4 x5 kd n v w num = some (decide (kd ≥ 1) && decide (kd ≤ 8) && x3 && x4 && x5 && kindB kd num) := by
  unfold kindB
  simp only [kv_right.j2]
  by_cases h5 : kd = 5
  · rw [if_pos h5, right3, if_pos (Or.inl h5), if_pos rfl]
  · rw [if_neg h5, right3]
    by_cases h6 : kd = 6
    · rw [if_pos (Or.inr h6), if_pos (by rw [h6]; rfl)]
    · rw [if_neg (show ¬ (kd == 6) = true by simpa using h6), if_neg (by omega)]
theorem right1 (k : Nat) (x3 x4 : Bool) (kd : Int) (n v w : List Int) (num : Int) : kv_right.j1 (k + 3) x3 x4 kd n v w num = some (decide (kd ≥ 1) && decide (kd ≤ 8) && x3 && x4 && (decide ((w.length : Int) = 0) || decide (kd = 3)) && kindB kd num) := by
  simp only [kv_right.j1]
  by_cases h5 : (w.length : Int) = 0
  · rw [if_pos h5, right2, decide_eq_true h5, Bool.true_or]
  · rw [if_neg h5, right2, decide_eq_false h5, Bool.false_or]; rfl
theorem right0 (k : Nat) (x3 : Bool) (kd : Int) (n v w : List Int) (num : Int) : kv_right.j0 (k + 4) x3 kd n v w num = some (decide (kd ≥ 1) && decide (kd ≤ 8) && x3 && (decide ((v.length : Int) = 0) || decide (kd = 2) || decide (kd = 3)) && (decide ((w.length : Int) = 0) || decide (kd = 3)) && kindB kd num) := by
  simp only [kv_right.j0]
  by_cases h5 : (v.length : Int) = 0
  · rw [if_pos h5, right1, decide_eq_true h5, Bool.true_or, Bool.true_or]
  · rw [if_neg h5, decide_eq_false h5, Bool.false_or]
    by_cases h6 : kd = 2
    · rw [if_pos h6, right1, decide_eq_true h6, Bool.true_or]
    · rw [if_neg h6, right1, decide_eq_false h6, Bool.false_or]; rfl
theorem right_ev (kd : Int) (n v w : List Int) (num : Int) : Ev (fun k => kv_right.f k kd n v w num) (rightB kd n v w num) := by
  refine ⟨4, fun k hk => ?_⟩
  obtain ⟨k, rfl⟩ : ∃ m, k = m + 4 := ⟨k - 4, by omega⟩
  unfold kv_right.f rightB
  simp only [right0]
  by_cases h1 : (n.length : Int) ≥ 1 <;> by_cases h2 : (n.length : Int) ≤ 16 <;> by_cases h3 : (v.length : Int) ≤ 64 <;> by_cases h4 : (w.length : Int) ≤ 64 <;> simp only [if_pos, h1, h2, h3, h4, decide_true, decide_false, Bool.and_true, Bool.true_and, Bool.and_false, Bool.false_and, if_false]
def opBytes (kd : Int) (n v w : List Int) (num : Int) : List Int := enc 4 kd ++ packed [n, v, w] ++ enc 4 num
theorem cmp_refl : ∀ a : List UInt8, Lib.compareBytes a a = 0
  | [] => rfl
  | a :: ar => by unfold Lib.compareBytes; rw [if_neg (by simp), if_neg (by simp)]; exact cmp_refl ar
theorem cmp_eq0 : ∀ a b : List UInt8, Lib.compareBytes a b = 0 → a = b
  | [], [], _ => rfl
  | [], _ :: _, h => by simp [Lib.compareBytes] at h
  | _ :: _, [], h => by simp [Lib.compareBytes] at h
  | a :: ar, b :: bs, h => by
    unfold Lib.compareBytes at h
    split at h
    · cases h
    · split at h
      · cases h
      · rw [cmp_eq0 ar bs h]
        congr 1
        rename_i h1 h2
        exact UInt8.le_antisymm (UInt8.not_lt.1 h2) (UInt8.not_lt.1 h1)
theorem cmp_neg : ∀ a b : List UInt8, Lib.compareBytes b a = - Lib.compareBytes a b
  | [], [] => rfl
  | [], _ :: _ => by simp [Lib.compareBytes]
  | _ :: _, [] => by simp [Lib.compareBytes]
  | a :: ar, b :: bs => by
    unfold Lib.compareBytes
    by_cases h1 : a < b
    · rw [if_neg (UInt8.lt_asymm h1), if_pos h1, if_pos h1]; rfl
    · by_cases h2 : b < a
      · rw [if_pos h2, if_neg h1, if_pos h2]
      · rw [if_neg h2, if_neg h1, if_neg h1, if_neg h2]; exact cmp_neg ar bs
theorem cmp_trans : ∀ a b c : List UInt8, Lib.compareBytes a b < 0 → Lib.compareBytes b c < 0 → Lib.compareBytes a c < 0
  | [], _, [], h1, h2 => by
    rename_i b
    cases b with
    | nil => simp [Lib.compareBytes] at h1
    | cons x xs => simp [Lib.compareBytes] at h2
  | [], _, _ :: _, _, _ => by simp [Lib.compareBytes]
  | _ :: _, [], _, h1, _ => by simp [Lib.compareBytes] at h1
  | _ :: _, _ :: _, [], _, h2 => by simp [Lib.compareBytes] at h2
  | a :: ar, b :: bs, c :: cs, h1, h2 => by
    unfold Lib.compareBytes at h1 h2 ⊢
    by_cases h : a < c
    · rw [if_pos h]; decide
    · rw [if_neg h]
      by_cases g : c < a
      · exfalso
        by_cases p : a < b
        · by_cases q : b < c
          · exact h (UInt8.lt_trans p q)
          · rw [if_neg q] at h2
            by_cases q' : c < b
            · rw [if_pos q'] at h2; omega
            · have : b = c := UInt8.le_antisymm (UInt8.not_lt.1 q') (UInt8.not_lt.1 q)
              subst this
              exact h p
        · rw [if_neg p] at h1
          by_cases p' : b < a
          · rw [if_pos p'] at h1; omega
          · have : a = b := UInt8.le_antisymm (UInt8.not_lt.1 p') (UInt8.not_lt.1 p)
            subst this
            rw [if_neg h, if_pos g] at h2; omega
      · rw [if_neg g]
        have : a = c := UInt8.le_antisymm (UInt8.not_lt.1 g) (UInt8.not_lt.1 h)
        subst this
        by_cases p : a < b
        · rw [if_neg (UInt8.lt_asymm p), if_pos p] at h2; omega
        · rw [if_neg p] at h1
          by_cases p' : b < a
          · rw [if_pos p'] at h1; omega
          · rw [if_neg p'] at h1
            rw [if_neg p', if_neg p] at h2
            exact cmp_trans ar bs cs h1 h2
theorem cmp_vals (a b : List UInt8) : Lib.compareBytes a b = -1 ∨ Lib.compareBytes a b = 0 ∨ Lib.compareBytes a b = 1 := by
  induction a generalizing b with
  | nil => cases b <;> simp [Lib.compareBytes]
  | cons a ar ih =>
    cases b with
    | nil => simp [Lib.compareBytes]
    | cons b bs =>
      unfold Lib.compareBytes
      split
      · simp
      · split
        · simp
        · exact ih bs
theorem right_bounds {kd : Int} {n v w : List Int} {num : Int} (h : rightB kd n v w num = true) : 1 ≤ kd ∧ kd ≤ 8 ∧ 0 ≤ num ∧ num ≤ 1000 ∧ n.length ≤ 16 ∧ v.length ≤ 64 ∧ w.length ≤ 64 := by
  unfold rightB at h
  simp only [Bool.and_eq_true, decide_eq_true_eq] at h
  obtain ⟨⟨⟨⟨⟨⟨⟨⟨a1, a2⟩, a3⟩, a4⟩, a5⟩, a6⟩, a7⟩, a8⟩, a9⟩ := h
  unfold kindB at a9
  refine ⟨a5, a6, ?_, ?_, by omega, by omega, by omega⟩
  · split at a9 <;> simp only [Bool.and_eq_true, decide_eq_true_eq] at a9 <;> omega
  · split at a9 <;> simp only [Bool.and_eq_true, decide_eq_true_eq] at a9 <;> omega
def B7 (m : Nat) : Int := 128 ^ (m + 1)
theorem B7_div (m : Nat) (y : Int) (h : y < B7 (m + 1)) : y / 128 < B7 m := by
  have e : B7 (m + 1) = B7 m * 128 := Int.pow_succ _ _
  rw [e] at h
  exact Int.ediv_lt_of_lt_mul (by decide) h
theorem ref_right (kd : Int) (n v w : List Int) (num : Int) : Ev (fun k => catenaryref07_RightOp.f k kd n v w num) (rightB kd n v w num) := by
  refine ⟨4, fun k hk => ?_⟩
  obtain ⟨k, rfl⟩ : ∃ m, k = m + 4 := ⟨k - 4, by omega⟩
  have jt : catenaryref07_RightOp.j0 (k + 4) true kd n v w num = some false := by simp only [catenaryref07_RightOp.j0, if_true]
  unfold catenaryref07_RightOp.f rightB
  dsimp only
  by_cases h1 : kd < 1
  · rw [if_pos h1, jt, decide_eq_false (show ¬ kd ≥ 1 by omega)]; simp
  rw [if_neg h1, decide_eq_true (show kd ≥ 1 by omega)]
  by_cases h2 : kd > 8
  · rw [if_pos h2, jt, decide_eq_false (show ¬ kd ≤ 8 by omega)]; simp
  rw [if_neg h2, decide_eq_true (show kd ≤ 8 by omega)]
  by_cases h3 : (n.length : Int) = 0
  · rw [if_pos h3, jt, decide_eq_false (show ¬ (n.length : Int) ≥ 1 by omega)]; simp
  rw [if_neg h3, decide_eq_true (show (n.length : Int) ≥ 1 by omega)]
  by_cases h4 : (n.length : Int) > 16
  · rw [if_pos h4, jt, decide_eq_false (show ¬ (n.length : Int) ≤ 16 by omega)]; simp
  rw [if_neg h4, decide_eq_true (show (n.length : Int) ≤ 16 by omega)]
  by_cases h5 : (v.length : Int) > 64
  · rw [if_pos h5, jt, decide_eq_false (show ¬ (v.length : Int) ≤ 64 by omega)]; simp
  rw [if_neg h5, decide_eq_true (show (v.length : Int) ≤ 64 by omega)]
  by_cases h6 : (w.length : Int) > 64
  · rw [decide_eq_true h6, jt, decide_eq_false (show ¬ (w.length : Int) ≤ 64 by omega)]; simp
  rw [decide_eq_false h6, decide_eq_true (show (w.length : Int) ≤ 64 by omega)]
  simp only [catenaryref07_RightOp.j0, catenaryref07_RightOp.j1, Bool.false_eq_true, if_false, Bool.true_and]
  unfold kindB
  clear h3 h4 h5 h6
  generalize (v.length : Int) = V
  generalize (w.length : Int) = W
  by_cases k2 : kd = 2
  · subst k2
    by_cases q : W = 0 <;> by_cases q2 : num = 0 <;> simp [q, q2]
  by_cases k3 : kd = 3
  · subst k3
    by_cases q2 : num = 0 <;> simp [q2]
  by_cases k5 : kd = 5
  · subst k5
    by_cases q : V = 0 <;> by_cases q2 : W = 0 <;> by_cases q3 : num ≥ 1 <;> simp [q, q2, q3]
  by_cases k6 : kd = 6
  · subst k6
    by_cases q : V = 0 <;> by_cases q2 : W = 0 <;> by_cases q3 : num ≥ 1 <;> simp [q, q2, q3]
  by_cases q : V = 0 <;> by_cases q2 : W = 0 <;> by_cases q3 : num = 0 <;> simp [q, q2, q3, k2, k3, k5, k6]
def cmpI (a b : List Int) : Int := Lib.compareBytes (strOfNums a).data.toList (strOfNums b).data.toList
theorem cmpI_self (a : List Int) : cmpI a a = 0 := cmp_refl _
theorem cmpI_neg (a b : List Int) : cmpI b a = - cmpI a b := cmp_neg _ _
theorem cmpI_trans {a b c : List Int} (h1 : cmpI a b < 0) (h2 : cmpI b c < 0) : cmpI a c < 0 := cmp_trans _ _ _ h1 h2
theorem cmpI_eq {a b : List Int} (h : cmpI a b = 0) (c : List Int) : cmpI a c = cmpI b c := by
  unfold cmpI at *
  rw [cmp_eq0 _ _ h]
theorem rdT (xs : List S37) (i : Nat) (h : i < xs.length) : rd_T37 xs (i : Int) = xs[i] := by
  unfold rd_T37
  rw [Int.toNat_natCast, List.getD_eq_getElem?_getD, List.getElem?_eq_getElem h]; rfl
theorem mid_eq (lo hi : Nat) (h : lo < hi) (hh : hi < 4611686018427387904) : wrap64 ((IntKind.u64.wrap (wrap64 ((lo : Int) + (hi : Int)))) / 2) = (((lo + hi) / 2 : Nat) : Int) := by
  have e : IntKind.u64.wrap (wrap64 ((lo : Int) + (hi : Int))) = (lo : Int) + hi := by
    simp only [IntKind.wrap, IntKind.bits, IntKind.signed, wrap64]
    simp
    omega
  rw [e]; unfold wrap64; omega
def Sorted (l : List S37) : Prop := l.Pairwise (fun x y => cmpI x.f0 y.f0 < 0)
theorem sorted_at {l : List S37} (hs : Sorted l) {i j : Nat} (hj : j < l.length) (hij : i < j) : cmpI (l[i]'(by omega)).f0 (l[j]).f0 < 0 := List.pairwise_iff_getElem.1 hs i j (by omega) hj hij
theorem search_l0 (l : List S37) (n : List Int) (hs : Sorted l) (hx : l.length < 1000000) : ∀ (d lo hi : Nat), hi - lo ≤ d → lo ≤ hi → hi ≤ l.length → (∀ j (h : j < l.length), j < lo → cmpI (l[j]).f0 n < 0) → (∀ j (h : j < l.length), hi ≤ j → ¬ cmpI (l[j]).f0 n < 0) →
    ∃ i : Nat, i ≤ l.length ∧ (∀ j (h : j < l.length), j < i → cmpI (l[j]).f0 n < 0) ∧ (∀ j (h : j < l.length), i ≤ j → ¬ cmpI (l[j]).f0 n < 0) ∧
      Ev (fun k => api_Entry_byte.l0 k l n (l.length : Int) (lo : Int) (hi : Int)) ((i : Int), (if h : i < l.length then cmpI (l[i]).f0 n == 0 else false))
  | d, lo, hi, hd, hlh, hhl, hlo, hhi => by
    by_cases hlt : lo < hi
    · have hm := mid_eq lo hi hlt (by omega)
      have hml : (lo + hi) / 2 < l.length := by omega
      have e1 : (lo : Int) < (hi : Int) := by omega
      have e2 : (0 : Int) ≤ (((lo + hi) / 2 : Nat) : Int) := by omega
      have e3 : (((lo + hi) / 2 : Nat) : Int) < (l.length : Int) := by omega
      have ed : kv_Do_1.f (l[(lo + hi) / 2]).f0 (l[(lo + hi) / 2]).f1 n = some (cmpI (l[(lo + hi) / 2]).f0 n) := rfl
      have ew : wrap64 ((((lo + hi) / 2 : Nat) : Int) + 1) = (((lo + hi) / 2 + 1 : Nat) : Int) := w64 _ (by omega)
      cases d with
      | zero => omega
      | succ d =>
        by_cases hc : cmpI (l[(lo + hi) / 2]).f0 n < 0
        · obtain ⟨i, h1, h2, h3, h4⟩ := search_l0 l n hs hx d ((lo + hi) / 2 + 1) hi (by omega) (by omega) hhl (fun j h hj => by
            by_cases hq : j = (lo + hi) / 2
            · subst hq; exact hc
            · exact cmpI_trans (sorted_at hs hml (by omega)) hc) hhi
          refine ⟨i, h1, h2, h3, ?_⟩
          refine ev_succ ?_
          simp only [api_Entry_byte.l0, if_pos e1, hm, if_pos e2, if_pos e3, rdT l _ hml, ed, Option.bind_some, if_pos hc, ew]
          exact h4
        · obtain ⟨i, h1, h2, h3, h4⟩ := search_l0 l n hs hx d lo ((lo + hi) / 2) (by omega) (by omega) (by omega) hlo (fun j h hj hq => by
            by_cases hq2 : j = (lo + hi) / 2
            · subst hq2; exact hc hq
            · exact hc (cmpI_trans (sorted_at hs h (by omega)) hq))
          refine ⟨i, h1, h2, h3, ?_⟩
          refine ev_succ ?_
          simp only [api_Entry_byte.l0, if_pos e1, hm, if_pos e2, if_pos e3, rdT l _ hml, ed, Option.bind_some, if_neg hc]
          exact h4
    · have : lo = hi := by omega
      subst this
      have e1 : ¬ (lo : Int) < (lo : Int) := by omega
      refine ⟨lo, hhl, hlo, hhi, ?_⟩
      refine ev_succ ?_
      by_cases hl : lo < l.length
      · have e2 : (lo : Int) < (l.length : Int) := by omega
        have e3 : (0 : Int) ≤ (lo : Int) := by omega
        have ed : kv_Do_1.f (l[lo]).f0 (l[lo]).f1 n = some (cmpI (l[lo]).f0 n) := rfl
        simp only [api_Entry_byte.l0, if_neg e1, if_pos e2, if_pos e3, rdT l lo hl, ed, Option.bind_some, dif_pos hl]
        exact Ev.now _
      · have e2 : ¬ (lo : Int) < (l.length : Int) := by omega
        simp only [api_Entry_byte.l0, if_neg e1, if_neg e2, dif_neg hl]
        exact Ev.now _
theorem search_ev (l : List S37) (n : List Int) (hs : Sorted l) (hx : l.length < 1000000) :
    ∃ i : Nat, i ≤ l.length ∧ (∀ j (h : j < l.length), j < i → cmpI (l[j]).f0 n < 0) ∧ (∀ j (h : j < l.length), i ≤ j → ¬ cmpI (l[j]).f0 n < 0) ∧
      Ev (fun k => api_Entry_byte.f k l n ()) ((i : Int), (if h : i < l.length then cmpI (l[i]).f0 n == 0 else false)) := by
  simp only [api_Entry_byte.f]
  exact search_l0 l n hs hx l.length 0 l.length (by omega) (by omega) (Nat.le_refl _) (fun j _ h => absurd h (by omega)) (fun j h hj => absurd h (by omega))
def okL (x : S37) : Prop := (1 ≤ x.f0.length ∧ x.f0.length ≤ 16) ∧ x.f1.length ≤ 64
def goodAt (l : List S37) (i : Nat) (h : i < l.length) : Prop := okL (l[i]) ∧ ∀ _ : 0 < i, cmpI (l[i - 1]'(by omega)).f0 (l[i]).f0 < 0
def RightL (l : List S37) : Prop := (∀ x ∈ l, okL x) ∧ Sorted l ∧ l.length ≤ 64
theorem right_l0 (l : List S37) (hx : l.length < 1000000000000000) : ∀ (d i : Nat), d + i = l.length → (Ev (fun k => kv_Right.l0 k l l (l.length : Int) (i : Int)) true ∧ (∀ j h, i ≤ j → goodAt l j h) ∧ l.length ≤ 64) ∨ (Ev (fun k => kv_Right.l0 k l l (l.length : Int) (i : Int)) false ∧ ¬ ((∀ j h, i ≤ j → goodAt l j h) ∧ l.length ≤ 64))
  | 0, i, hd => by
    have e1 : ¬ (i : Int) < (l.length : Int) := by omega
    by_cases hl : (l.length : Int) ≤ 64
    · refine Or.inl ⟨ev_succ ?_, fun j h hj => absurd h (by omega), by omega⟩
      simp only [kv_Right.l0, if_neg e1, decide_eq_true hl]
      exact Ev.now _
    · refine Or.inr ⟨ev_succ ?_, fun h => hl (by have := h.2; omega)⟩
      simp only [kv_Right.l0, if_neg e1, decide_eq_false hl]
      exact Ev.now _
  | d + 1, i, hd => by
    have hi : i < l.length := by omega
    have e1 : (i : Int) < (l.length : Int) := by omega
    have e2 : (0 : Int) ≤ (i : Int) := by omega
    have ew : wrap64 ((i : Int) + 1) = ((i + 1 : Nat) : Int) := w64 i (by omega)
    have jt : Ev (fun k => kv_Right.j1 k l l (l.length : Int) (i : Int) true) false := by
      refine ev_succ ?_
      simp only [kv_Right.j1, if_true]
      exact Ev.now _
    have jf : ∀ r, Ev (fun k => kv_Right.l0 k l l (l.length : Int) ((i + 1 : Nat) : Int)) r → Ev (fun k => kv_Right.j1 k l l (l.length : Int) (i : Int) false) r := by
      intro r h
      refine ev_succ ?_
      simp only [kv_Right.j1, Bool.false_eq_true, if_false, ew]
      exact h
    have body : (¬ goodAt l i hi → Ev (fun k => kv_Right.l0 k l l (l.length : Int) (i : Int)) false) ∧ (goodAt l i hi → ∀ r, Ev (fun k => kv_Right.l0 k l l (l.length : Int) ((i + 1 : Nat) : Int)) r → Ev (fun k => kv_Right.l0 k l l (l.length : Int) (i : Int)) r) := by
      have key : ∀ r, (¬ goodAt l i hi → Ev (fun k => kv_Right.j1 k l l (l.length : Int) (i : Int) true) r) → (goodAt l i hi → Ev (fun k => kv_Right.j1 k l l (l.length : Int) (i : Int) false) r) → Ev (fun k => kv_Right.l0 k l l (l.length : Int) (i : Int)) r := by
        intro r hb hg
        refine ev_succ ?_
        simp only [kv_Right.l0, if_pos e1, if_pos e2, rdT l i hi]
        by_cases a1 : ((l[i]).f0.length : Int) < 1
        · simp only [if_pos a1]; exact hb (fun g => by have := g.1.1.1; omega)
        simp only [if_neg a1]
        by_cases a2 : ((l[i]).f0.length : Int) > 16
        · simp only [if_pos a2]; exact hb (fun g => by have := g.1.1.2; omega)
        simp only [if_neg a2]
        by_cases a3 : ((l[i]).f1.length : Int) > 64
        · simp only [if_pos a3]; exact hb (fun g => by have := g.1.2; omega)
        · simp only [if_neg a3]
          have ok : okL (l[i]) := ⟨⟨by omega, by omega⟩, by omega⟩
          by_cases a6 : (i : Int) > 0
          · have ei : wrap64 ((i : Int) - 1) = ((i - 1 : Nat) : Int) := by unfold wrap64; omega
            have e3 : (0 : Int) ≤ ((i - 1 : Nat) : Int) := by omega
            have e4 : ((i - 1 : Nat) : Int) < (l.length : Int) := by omega
            have ec : bytes_Compare.f (l[i]).f0 (l[i - 1]).f0 = some (cmpI (l[i]).f0 (l[i - 1]).f0) := rfl
            simp only [if_pos a6, ei, if_pos e3, if_pos e4, rdT l (i - 1) (by omega), ec, Option.bind_some]
            have en := cmpI_neg (l[i - 1]).f0 (l[i]).f0
            by_cases a7 : cmpI (l[i]).f0 (l[i - 1]).f0 ≤ 0
            · simp only [decide_eq_true a7]; exact hb (fun g => by have := g.2 (by omega); omega)
            · simp only [decide_eq_false a7]; exact hg ⟨ok, fun _ => by omega⟩
          · simp only [if_neg a6]
            exact hg ⟨ok, fun h => absurd h (by omega)⟩
      exact ⟨fun hb => key false (fun _ => jt) (fun g => absurd g hb), fun hg r h => key r (fun hb => absurd hg hb) (fun _ => jf r h)⟩
    by_cases hg : goodAt l i hi
    · rcases right_l0 l hx d (i + 1) (by omega) with ⟨h1, h2, h3⟩ | ⟨h1, h2⟩
      · refine Or.inl ⟨body.2 hg _ h1, fun j h hj => ?_, h3⟩
        by_cases hq : j = i
        · subst hq; exact hg
        · exact h2 j h (by omega)
      · exact Or.inr ⟨body.2 hg _ h1, fun h => h2 ⟨fun j hj hij => h.1 j hj (by omega), h.2⟩⟩
    · exact Or.inr ⟨body.1 hg, fun h => hg (h.1 i hi (Nat.le_refl _))⟩
theorem all_good (l : List S37) : ((∀ j h, 0 ≤ j → goodAt l j h) ∧ l.length ≤ 64) ↔ RightL l := by
  constructor
  · intro ⟨h1, h2⟩
    refine ⟨fun x hx => ?_, ?_, h2⟩
    · obtain ⟨j, hj, rfl⟩ := List.mem_iff_getElem.1 hx
      exact (h1 j hj (Nat.zero_le _)).1
    · refine List.pairwise_iff_getElem.2 ?_
      have step : ∀ d i (h : i + d + 1 < l.length), cmpI (l[i]'(by omega)).f0 (l[i + d + 1]).f0 < 0 := by
        intro d
        induction d with
        | zero => intro i h; exact (h1 (i + 0 + 1) h (Nat.zero_le _)).2 (by omega)
        | succ d ih =>
          intro i h
          exact cmpI_trans (ih i (by omega)) ((h1 (i + (d + 1) + 1) h (Nat.zero_le _)).2 (by omega))
      intro i j hi hj hij
      obtain ⟨d, rfl⟩ : ∃ d, j = i + d + 1 := ⟨j - i - 1, by omega⟩
      exact step d i hj
  · intro ⟨h1, h2, h3⟩
    refine ⟨fun j h _ => ⟨h1 _ (List.getElem_mem h), fun h0 => sorted_at h2 h (by omega)⟩, h3⟩
theorem Right_ev (l : List S37) (hx : l.length < 1000000000000000) : (Ev (fun k => kv_Right.f k l) true ∧ RightL l) ∨ (Ev (fun k => kv_Right.f k l) false ∧ ¬ RightL l) := by
  simp only [kv_Right.f]
  rcases right_l0 l hx l.length 0 (by omega) with ⟨h1, h2⟩ | ⟨h1, h2⟩
  · exact Or.inl ⟨h1, (all_good l).1 h2⟩
  · exact Or.inr ⟨h1, fun h => h2 ((all_good l).2 h)⟩
theorem kclone_l0 (l : List S37) (hx : l.length < 2932031007402) (hn : ∀ x ∈ l, x.f0.length < 140737488355328 ∧ x.f1.length < 140737488355328) : ∀ (d i : Nat) (acc : List S37), d + i = l.length → acc.length = i → Ev (fun k => kv_clone.l0 k acc l (l.length : Int) (i : Int)) (acc ++ l.drop i)
  | 0, i, acc, hd, ha => by
    have e1 : ¬ (i : Int) < (l.length : Int) := by omega
    refine ev_succ ?_
    simp only [kv_clone.l0, if_neg e1]
    rw [List.drop_eq_nil_of_le (by omega), List.append_nil]
    exact Ev.now _
  | d + 1, i, acc, hd, ha => by
    have hi : i < l.length := by omega
    have e1 : (i : Int) < (l.length : Int) := by omega
    have e2 : (0 : Int) ≤ (i : Int) := by omega
    have e3 : acc.length < 2932031007402 := by omega
    have ew : wrap64 ((i : Int) + 1) = ((i + 1 : Nat) : Int) := w64 i (by omega)
    have hh := hn _ (List.getElem_mem hi)
    have c1 : slices_Clone_byte_byte.f (l[i]).f0 = some (l[i]).f0 := by unfold slices_Clone_byte_byte.f; rw [if_pos hh.1]
    have c2 : slices_Clone_byte_byte.f (l[i]).f1 = some (l[i]).f1 := by unfold slices_Clone_byte_byte.f; rw [if_pos hh.2]
    have ih := kclone_l0 l hx hn d (i + 1) (acc ++ [l[i]]) (by omega) (by rw [List.length_append, ha]; rfl)
    rw [List.append_assoc, List.singleton_append] at ih
    rw [List.drop_eq_getElem_cons hi]
    refine ev_succ ?_
    simp only [kv_clone.l0, if_pos e1, if_pos e2, rdT l i hi, c1, c2, Option.bind_some, if_pos e3, ew]
    exact ih
theorem kclone_ev (l : List S37) (hx : l.length < 2932031007402) (hn : ∀ x ∈ l, x.f0.length < 140737488355328 ∧ x.f1.length < 140737488355328) : Ev (fun k => kv_clone.f k l) l := by
  simp only [kv_clone.f]
  exact kclone_l0 l hx hn l.length 0 [] (by omega) rfl
def okDo (l : List S37) (kd : Int) (n v w : List Int) (num : Int) : Prop := RightL l ∧ rightB kd n v w num = true ∧ kd ≤ 4
theorem kdo_any (l : List S37) (hx : l.length < 2932031007402) (hn : ∀ x ∈ l, x.f0.length < 140737488355328 ∧ x.f1.length < 140737488355328) (kd : Int) (n v w : List Int) (num : Int) (r : List S37 × Int × List Int)
    (hg : okDo l kd n v w num → Ev (fun k => kv_Do.j0 k l false kd n v w num) r) (hb : ¬ okDo l kd n v w num → r = (l, 5, [])) :
    Ev (fun k => kv_Do.f k l kd n v w num) r := by
  have bad : ¬ okDo l kd n v w num → Ev (fun k => kv_Do.j0 k l true kd n v w num) r := by
    intro h
    rw [hb h]
    refine ev_succ ?_
    simp only [kv_Do.j0, if_true]
    exact Ev.now _
  simp only [kv_Do.f]
  refine Ev.bind (kclone_ev l hx hn) ?_
  rcases Right_ev l (by omega) with ⟨h1, h2⟩ | ⟨h1, h2⟩
  · refine Ev.bind h1 ?_
    simp only [if_true]
    refine Ev.bind (right_ev kd n v w num) ?_
    by_cases b1 : rightB kd n v w num = true
    · simp only [if_pos b1]
      by_cases b2 : kd > 4
      · simp only [decide_eq_true b2]
        exact bad (fun h => by have := h.2.2; omega)
      · simp only [decide_eq_false b2]
        exact hg ⟨h2, b1, by omega⟩
    · simp only [if_neg b1]
      exact bad (fun h => b1 h.2.1)
  · refine Ev.bind h1 ?_
    simp only [Bool.false_eq_true, if_false]
    exact bad (fun h => h2 h.1)
theorem rdT_mid (A B : List S37) (a : S37) (i : Nat) (h : A.length = i) : rd_T37 (A ++ (a :: B)) (i : Int) = a := by
  rw [rdT _ i (by rw [List.length_append, List.length_cons]; omega)]
  rw [List.getElem_append_right (by omega)]
  simp [h]
theorem set_mid (A B : List S37) (a b : S37) (i : Nat) (h : A.length = i) : (A ++ (a :: B)).set i b = A ++ (b :: B) := by
  subst h
  rw [List.set_append_right _ _ (Nat.le_refl _), Nat.sub_self, List.set_cons_zero]
inductive KOut (l : List S37) (n v w : List Int) (i : Nat) : Bool → Int → List S37 × Int × List Int → Prop
  | missing (kd : Int) (h : kd ≠ 2) : KOut l n v w i false kd (l, 1, [])
  | get (h : i < l.length) : KOut l n v w i true 1 (l, 0, (l[i]).f1)
  | put (h : i < l.length) : KOut l n v w i true 2 (l.take i ++ (⟨(l[i]).f0, v⟩ :: l.drop (i + 1)), 0, [])
  | full (h : l.length = 64) : KOut l n v w i false 2 (l, 3, [])
  | add (h : l.length ≠ 64) : KOut l n v w i false 2 (l.take i ++ (⟨n, v⟩ :: l.drop i), 0, [])
  | swap (h : i < l.length) (e : cmpI (l[i]).f1 v = 0) : KOut l n v w i true 3 (l.take i ++ (⟨(l[i]).f0, w⟩ :: l.drop (i + 1)), 0, [])
  | differs (h : i < l.length) (e : cmpI (l[i]).f1 v ≠ 0) : KOut l n v w i true 3 (l, 2, (l[i]).f1)
  | delete (h : i < l.length) : KOut l n v w i true 4 (l.take i ++ l.drop (i + 1), 0, [])
def eqB (a b : List Int) : Bool := (strOfNums a).toList == (strOfNums b).toList
theorem eqB_iff (a b : List Int) : eqB a b = true ↔ cmpI a b = 0 := by
  unfold eqB cmpI
  rw [Go.Lib.strOfNums_toList, Go.Lib.strOfNums_toList, beq_iff_eq]
  constructor
  · intro h
    show Lib.compareBytes (Go.Lib.bytesOf a) (Go.Lib.bytesOf b) = 0
    rw [h]; exact cmp_refl _
  · intro h
    exact cmp_eq0 _ _ h
theorem kj2 (l : List S37) (i : Nat) (h : i < l.length) (kd : Int) (n v w : List Int) (num : Int) (hv : v.length ≤ 64) : Ev (fun k => kv_Do.j2 k l (i : Int) kd n v w num) (l.set i ⟨(l[i]).f0, v⟩, 0, []) := by
  have e0 : (0 : Int) ≤ (i : Int) := by omega
  have e1 : (i : Int) < (l.length : Int) := by omega
  have c1 : slices_Clone_byte_byte.f v = some v := by unfold slices_Clone_byte_byte.f; rw [if_pos (by omega)]
  refine ev_succ ?_
  simp only [kv_Do.j2, c1, Option.bind_some, if_pos e0, if_pos e1, rdT l i h, Int.toNat_natCast]
  exact Ev.now _
theorem kdo_tail (l : List S37) (hL : RightL l) (kd : Int) (n v w : List Int) (num : Int) (hr : rightB kd n v w num = true) (h4 : kd ≤ 4) :
    ∃ (i : Nat) (b : Bool) (r : List S37 × Int × List Int), i ≤ l.length ∧ (∀ j (h : j < l.length), j < i → cmpI (l[j]).f0 n < 0) ∧ (∀ j (h : j < l.length), i ≤ j → ¬ cmpI (l[j]).f0 n < 0) ∧ b = (if h : i < l.length then cmpI (l[i]).f0 n == 0 else false) ∧ KOut l n v w i b kd r ∧ Ev (fun k => kv_Do.j0 k l false kd n v w num) r := by
  obtain ⟨b1, b2, b3, b4, b5, b6, b7⟩ := right_bounds hr
  obtain ⟨i, hi, hlo, hhi, hev⟩ := search_ev l n hL.2.1 (by have := hL.2.2; omega)
  have hl := hL.2.2
  have e0 : (0 : Int) ≤ (i : Int) := by omega
  have start : ∀ r, Ev (fun k => kv_Do.j1 k l (i : Int) (if h : i < l.length then cmpI (l[i]).f0 n == 0 else false) (if (if h : i < l.length then cmpI (l[i]).f0 n == 0 else false) = true then false else (kd != 2)) kd n v w num) r → Ev (fun k => kv_Do.j0 k l false kd n v w num) r := by
    intro r h
    refine ev_succ ?_
    simp only [kv_Do.j0, Bool.false_eq_true, if_false]
    refine Ev.bind hev ?_
    by_cases hb : (if h : i < l.length then cmpI (l[i]).f0 n == 0 else false) = true
    · simp only [hb, if_true] at h ⊢; exact h
    · have hb' : (if h : i < l.length then cmpI (l[i]).f0 n == 0 else false) = false := by simpa using hb
      simp only [hb', Bool.false_eq_true, if_false] at h ⊢; exact h
  by_cases hb : (if h : i < l.length then cmpI (l[i]).f0 n == 0 else false) = true
  · have hil : i < l.length := by
      by_cases h : i < l.length
      · exact h
      · rw [dif_neg h] at hb; cases hb
    have e1 : (i : Int) < (l.length : Int) := by omega
    have hx := hL.1 _ (List.getElem_mem hil)
    have c1 : slices_Clone_byte_byte.f (l[i]).f1 = some (l[i]).f1 := by unfold slices_Clone_byte_byte.f; rw [if_pos (by have := hx.2; omega)]
    have c2 : slices_Clone_byte_byte.f w = some w := by unfold slices_Clone_byte_byte.f; rw [if_pos (by omega)]
    have ee : bytes_Equal.f (l[i]).f1 v = some (eqB (l[i]).f1 v) := rfl
    rw [hb] at start
    simp only [if_true] at start
    have hset : ∀ a, l.set i a = l.take i ++ (a :: l.drop (i + 1)) := fun a => by rw [List.set_eq_take_append_cons_drop, if_pos hil]
    have hk : kd = 1 ∨ kd = 2 ∨ kd = 3 ∨ kd = 4 := by omega
    rcases hk with rfl | rfl | rfl | rfl
    · refine ⟨i, true, _, hi, hlo, hhi, hb.symm, KOut.get hil, start _ (ev_succ ?_)⟩
      simp only [kv_Do.j1, Bool.false_eq_true, if_false, if_true, if_pos e0, if_pos e1, rdT l i hil, c1, Option.bind_some]
      exact Ev.now _
    · refine ⟨i, true, _, hi, hlo, hhi, hb.symm, KOut.put hil, start _ (ev_succ ?_)⟩
      simp only [kv_Do.j1, Bool.false_eq_true, if_false, if_true, show ¬ ((2 : Int) = 1) by decide]
      have := kj2 l i hil 2 n v w num b6
      rw [hset] at this
      exact this
    · by_cases he : cmpI (l[i]).f1 v = 0
      · refine ⟨i, true, _, hi, hlo, hhi, hb.symm, KOut.swap hil he, start _ (ev_succ ?_)⟩
        simp only [kv_Do.j1, Bool.false_eq_true, if_false, if_true, if_pos e0, if_pos e1, rdT l i hil, ee, (eqB_iff _ _).2 he, c2, Option.bind_some, Int.toNat_natCast, hset, show ¬ ((3 : Int) = 1) by decide, show ¬ ((3 : Int) = 2) by decide]
        exact Ev.now _
      · have hq : eqB (l[i]).f1 v = false := by
          cases h : eqB (l[i]).f1 v with
          | false => rfl
          | true => exact absurd ((eqB_iff _ _).1 h) he
        refine ⟨i, true, _, hi, hlo, hhi, hb.symm, KOut.differs hil he, start _ (ev_succ ?_)⟩
        simp only [kv_Do.j1, Bool.false_eq_true, if_false, if_true, if_pos e0, if_pos e1, rdT l i hil, ee, hq, c1, Option.bind_some, show ¬ ((3 : Int) = 1) by decide, show ¬ ((3 : Int) = 2) by decide]
        exact Ev.now _
    · refine ⟨i, true, _, hi, hlo, hhi, hb.symm, KOut.delete hil, start _ (ev_succ ?_)⟩
      simp only [kv_Do.j1, Bool.false_eq_true, if_false, if_true, if_pos e0, if_pos e1, Int.toNat_natCast, List.eraseIdx_eq_take_drop_succ, show ¬ ((4 : Int) = 1) by decide, show ¬ ((4 : Int) = 2) by decide, show ¬ ((4 : Int) = 3) by decide]
      exact Ev.now _
  · have hb' : (if h : i < l.length then cmpI (l[i]).f0 n == 0 else false) = false := by simpa using hb
    rw [hb'] at start
    simp only [Bool.false_eq_true, if_false] at start
    by_cases k2 : kd = 2
    · subst k2
      have en : ((2 : Int) != 2) = false := by decide
      rw [en] at start
      by_cases hf : l.length = 64
      · refine ⟨i, false, _, hi, hlo, hhi, hb'.symm, KOut.full hf, start _ (ev_succ ?_)⟩
        simp only [kv_Do.j1, Bool.false_eq_true, if_false, if_true, show ¬ ((2 : Int) = 1) by decide, if_pos (show (l.length : Int) = 64 by omega)]
        exact Ev.now _
      · have c3 : slices_Clone_byte_byte.f n = some n := by unfold slices_Clone_byte_byte.f; rw [if_pos (by omega)]
        refine ⟨i, false, _, hi, hlo, hhi, hb'.symm, KOut.add hf, start _ (ev_succ ?_)⟩
        simp only [kv_Do.j1, Bool.false_eq_true, if_false, if_true, show ¬ ((2 : Int) = 1) by decide, if_neg (show ¬ (l.length : Int) = 64 by omega), c3, Option.bind_some, if_pos e0, if_pos (show (i : Int) ≤ (l.length : Int) by omega), if_pos (show l.length < 2932031007402 by omega), Int.toNat_natCast]
        rw [List.append_assoc, List.singleton_append]
        have ht : (l.take i).length = i := by rw [List.length_take]; omega
        have hm : i < (l.take i ++ ((⟨n, []⟩ : S37) :: l.drop i)).length := by rw [List.length_append, List.length_cons, ht]; omega
        have := kj2 (l.take i ++ ((⟨n, []⟩ : S37) :: l.drop i)) i hm 2 n v w num b6
        rw [set_mid _ _ _ _ i ht] at this
        have hg : (l.take i ++ ((⟨n, []⟩ : S37) :: l.drop i))[i] = ⟨n, []⟩ := by
          rw [← rdT _ i hm, rdT_mid _ _ _ i ht]
        rw [hg] at this
        exact this
    · have en : (kd != 2) = true := by simpa using k2
      rw [en] at start
      refine ⟨i, false, _, hi, hlo, hhi, hb'.symm, KOut.missing kd k2, start _ (ev_succ ?_)⟩
      simp only [kv_Do.j1, if_true]
      exact Ev.now _
def hq (m : List Int) (x : S37) : Bool := eqB x.f0 m
def At (l : List S37) (n : List Int) (i : Nat) : Prop := i ≤ l.length ∧ (∀ j (h : j < l.length), j < i → cmpI (l[j]).f0 n < 0) ∧ (∀ j (h : j < l.length), i ≤ j → ¬ cmpI (l[j]).f0 n < 0)
theorem At_uniq {l : List S37} {n : List Int} {i i' : Nat} (h : At l n i) (h' : At l n i') : i = i' := by
  rcases Nat.lt_trichotomy i i' with g | g | g
  · exact absurd (h'.2.1 i (by have := h'.1; omega) g) (h.2.2 i (by have := h'.1; omega) (Nat.le_refl _))
  · exact g
  · exact absurd (h.2.1 i' (by have := h.1; omega) g) (h'.2.2 i' (by have := h.1; omega) (Nat.le_refl _))
theorem At_mk {A C : List S37} {n : List Int} {i : Nat} (hi : A.length = i) (hA : ∀ x ∈ A, cmpI x.f0 n < 0) (hC : ∀ x ∈ C, ¬ cmpI x.f0 n < 0) : At (A ++ C) n i := by
  subst hi
  refine ⟨by rw [List.length_append]; omega, fun j h hj => ?_, fun j h hj => ?_⟩
  · rw [List.getElem_append_left hj]; exact hA _ (List.getElem_mem hj)
  · rw [List.getElem_append_right hj]; exact hC _ (List.getElem_mem _)
theorem At_take {l : List S37} {n : List Int} {i : Nat} (h : At l n i) : ∀ x ∈ l.take i, cmpI x.f0 n < 0 := by
  intro x hx
  obtain ⟨j, hj, rfl⟩ := List.mem_iff_getElem.1 hx
  rw [List.length_take] at hj
  rw [List.getElem_take]
  exact h.2.1 j (by omega) (by omega)
theorem At_drop {l : List S37} {n : List Int} {i : Nat} (h : At l n i) : ∀ x ∈ l.drop i, ¬ cmpI x.f0 n < 0 := by
  intro x hx
  obtain ⟨j, hj, rfl⟩ := List.mem_iff_getElem.1 hx
  rw [List.length_drop] at hj
  rw [List.getElem_drop]
  exact h.2.2 (i + j) (by omega) (by omega)
theorem At_above {l : List S37} {n : List Int} {i : Nat} (hs : Sorted l) (h : At l n i) (hb : ∀ h : i < l.length, cmpI (l[i]).f0 n ≠ 0) : ∀ x ∈ l.drop i, cmpI n x.f0 < 0 := by
  intro x hx
  obtain ⟨j, hj, rfl⟩ := List.mem_iff_getElem.1 hx
  rw [List.length_drop] at hj
  rw [List.getElem_drop]
  have g1 := h.2.2 (i + j) (by omega) (by omega)
  have g2 := cmpI_neg n (l[i + j]'(by omega)).f0
  have g3 : cmpI (l[i + j]'(by omega)).f0 n ≠ 0 := by
    intro g
    by_cases hj0 : j = 0
    · subst hj0; exact hb (by omega) g
    · have s := sorted_at hs (i := i) (j := i + j) (by omega) (by omega)
      have g4 := h.2.2 i (by omega) (Nat.le_refl _)
      have g5 := cmpI_neg (l[i]'(by omega)).f0 (l[i + j]'(by omega)).f0
      rw [cmpI_eq g] at g5
      have g6 := cmpI_neg n (l[i]'(by omega)).f0
      omega
  omega
theorem above_not {n : List Int} {C : List S37} (h : ∀ x ∈ C, cmpI n x.f0 < 0) : ∀ x ∈ C, ¬ cmpI x.f0 n < 0 := by
  intro x hx
  have := h x hx
  have := cmpI_neg n x.f0
  omega
theorem drop_succ_sub (l : List S37) (i : Nat) : ∀ x ∈ l.drop (i + 1), x ∈ l.drop i := by
  intro x hx
  rw [← List.drop_drop] at hx
  exact List.mem_of_mem_drop hx
theorem k_split (L : List S37) (i : Nat) (h : i < L.length) : L = L.take i ++ (L[i] :: L.drop (i + 1)) := by
  rw [← List.drop_eq_getElem_cons h, List.take_append_drop]
theorem k_find_mid (q : S37 → Bool) (A B : List S37) (a : S37) : (A ++ (a :: B)).find? q = (A.find? q).or (if q a = true then some a else B.find? q) := by
  rw [List.find?_append, List.find?_cons]
  cases q a <;> rfl
theorem k_right_set {L : List S37} (hL : RightL L) (i : Nat) (h : i < L.length) (v : List Int) (hv : v.length ≤ 64) : RightL (L.take i ++ (⟨(L[i]).f0, v⟩ :: L.drop (i + 1))) := by
  have sp := k_split L i h
  have hx := hL.1 _ (List.getElem_mem h)
  refine ⟨fun x hm => ?_, ?_, ?_⟩
  · rcases List.mem_append.1 hm with g | g
    · exact hL.1 x (List.mem_of_mem_take g)
    · rcases List.mem_cons.1 g with g | g
      · subst g; exact ⟨hx.1, hv⟩
      · exact hL.1 x (List.mem_of_mem_drop g)
  · have hp := hL.2.1
    unfold Sorted at hp ⊢
    rw [sp] at hp
    rw [List.pairwise_append] at hp ⊢
    refine ⟨hp.1, ?_, fun a ha b hb => ?_⟩
    · have hp2 := hp.2.1
      rw [List.pairwise_cons] at hp2 ⊢
      exact hp2
    · rcases List.mem_cons.1 hb with g | g
      · subst g
        exact hp.2.2 a ha (L[i]) (List.mem_cons_self ..)
      · exact hp.2.2 a ha b (List.mem_cons_of_mem _ g)
  · have := hL.2.2
    rw [List.length_append, List.length_cons, List.length_take, List.length_drop]; omega
theorem k_right_del {L : List S37} (hL : RightL L) (i : Nat) : RightL (L.take i ++ L.drop (i + 1)) := by
  rw [← List.eraseIdx_eq_take_drop_succ]
  exact ⟨fun x hx => hL.1 x ((List.eraseIdx_sublist L i).subset hx), List.Pairwise.sublist (List.eraseIdx_sublist L i) hL.2.1, Nat.le_trans (List.eraseIdx_sublist L i).length_le hL.2.2⟩
theorem k_right_add {L : List S37} (hL : RightL L) {n : List Int} {i : Nat} (h : At L n i) (hab : ∀ x ∈ L.drop i, cmpI n x.f0 < 0) (v : List Int) (hv : v.length ≤ 64) (hn : 1 ≤ n.length ∧ n.length ≤ 16) (hl : L.length ≠ 64) : RightL (L.take i ++ (⟨n, v⟩ :: L.drop i)) := by
  refine ⟨fun x hm => ?_, ?_, ?_⟩
  · rcases List.mem_append.1 hm with g | g
    · exact hL.1 x (List.mem_of_mem_take g)
    · rcases List.mem_cons.1 g with g | g
      · subst g; exact ⟨hn, hv⟩
      · exact hL.1 x (List.mem_of_mem_drop g)
  · unfold Sorted
    rw [List.pairwise_append, List.pairwise_cons]
    refine ⟨List.Pairwise.sublist (List.take_sublist i L) hL.2.1, ⟨hab, List.Pairwise.sublist (List.drop_sublist i L) hL.2.1⟩, fun a ha b hb => ?_⟩
    rcases List.mem_cons.1 hb with g | g
    · subst g; exact At_take h a ha
    · exact cmpI_trans (At_take h a ha) (hab b g)
  · have := hL.2.2
    have := h.1
    rw [List.length_append, List.length_cons, List.length_take, List.length_drop]; omega
theorem hq_ne {a : S37} {n m : List Int} (hc : cmpI a.f0 n = 0) (hm : cmpI m n ≠ 0) : ¬ hq m a = true := by
  unfold hq
  rw [eqB_iff, cmpI_eq hc m]
  have := cmpI_neg m n
  omega
def Got (out : List S37) (n v : List Int) : Prop := ∃ i, At out n i ∧ ∃ h : i < out.length, cmpI (out[i]).f0 n = 0 ∧ (out[i]).f1 = v
def Miss (out : List S37) (n : List Int) : Prop := ∃ i, At out n i ∧ ∀ h : i < out.length, cmpI (out[i]).f0 n ≠ 0
theorem Got_mid {A B : List S37} {a : S37} {n v : List Int} (hA : ∀ x ∈ A, cmpI x.f0 n < 0) (hB : ∀ x ∈ B, ¬ cmpI x.f0 n < 0) (ha : cmpI a.f0 n = 0) (hv : a.f1 = v) : Got (A ++ (a :: B)) n v := by
  have hl : A.length < (A ++ (a :: B)).length := by rw [List.length_append, List.length_cons]; omega
  have hg : (A ++ (a :: B))[A.length] = a := by rw [List.getElem_append_right (Nat.le_refl _)]; simp
  refine ⟨A.length, At_mk rfl hA (fun x hx => ?_), hl, by rw [hg]; exact ha, by rw [hg]; exact hv⟩
  rcases List.mem_cons.1 hx with g | g
  · subst g; omega
  · exact hB x g
theorem Miss_mid {A C : List S37} {n : List Int} (hA : ∀ x ∈ A, cmpI x.f0 n < 0) (hC : ∀ x ∈ C, cmpI n x.f0 < 0) : Miss (A ++ C) n := by
  refine ⟨A.length, At_mk rfl hA (above_not hC), fun h => ?_⟩
  rw [List.getElem_append_right (Nat.le_refl _)]
  have h2 := hC _ (List.getElem_mem (l := C) (n := A.length - A.length) (by rw [List.length_append] at h; omega))
  have := cmpI_neg n (C[A.length - A.length]'(by rw [List.length_append] at h; omega)).f0
  omega
theorem kd_keeps (l : List S37) (hx : l.length < 2932031007402) (hn : ∀ x ∈ l, x.f0.length < 140737488355328 ∧ x.f1.length < 140737488355328) (hR : RightL l) (kd : Int) (n v w : List Int) (num : Int) :
    ∃ out c x, Ev (fun k => kv_Do.f k l kd n v w num) (out, c, x) ∧ RightL out ∧ (∀ m, cmpI m n ≠ 0 → out.find? (hq m) = l.find? (hq m)) ∧ (c = 0 → kd = 2 → Got out n v) ∧ (c = 0 → kd = 3 → Got out n w) ∧ (kd = 4 → c ≠ 5 → Miss out n) ∧ (c ≠ 5 → 1 ≤ n.length ∧ n.length ≤ 16) := by
  by_cases h : okDo l kd n v w num
  · obtain ⟨_, hr, h4⟩ := h
    obtain ⟨b1, b2, b3, b4, b5, b6, b7⟩ := right_bounds hr
    have hn1 : 1 ≤ n.length := by
      unfold rightB at hr
      simp only [Bool.and_eq_true, decide_eq_true_eq] at hr
      obtain ⟨⟨⟨⟨⟨⟨⟨⟨a1, _⟩, _⟩, _⟩, _⟩, _⟩, _⟩, _⟩, _⟩ := hr
      omega
    obtain ⟨i, b, r, hi, hlo, hhi, hb, hk, hev⟩ := kdo_tail l hR kd n v w num hr h4
    have hat : At l n i := ⟨hi, hlo, hhi⟩
    have hev2 : Ev (fun k => kv_Do.f k l kd n v w num) r := kdo_any l hx hn kd n v w num r (fun _ => hev) (fun q => absurd ⟨hR, hr, h4⟩ q)
    have hT : b = true → ∀ h : i < l.length, cmpI (l[i]).f0 n = 0 := by
      intro g h
      rw [g, dif_pos h] at hb
      simpa using hb.symm
    have hF : b = false → ∀ h : i < l.length, cmpI (l[i]).f0 n ≠ 0 := by
      intro g h
      rw [g, dif_pos h] at hb
      simpa using hb.symm
    have hdel : ∀ (h : i < l.length), cmpI (l[i]).f0 n = 0 → ∀ x ∈ l.drop (i + 1), cmpI n x.f0 < 0 := by
      intro h hc x hx
      obtain ⟨j, hj, rfl⟩ := List.mem_iff_getElem.1 hx
      rw [List.length_drop] at hj
      rw [List.getElem_drop]
      have s := sorted_at hR.2.1 (i := i) (j := i + 1 + j) (by omega) (by omega)
      rw [cmpI_eq hc] at s
      exact s
    have hnot := fun x hx => At_drop hat x (drop_succ_sub l i x hx)
    have keepset : ∀ (h : i < l.length) (hc : cmpI (l[i]).f0 n = 0) (u m : List Int), cmpI m n ≠ 0 → (l.take i ++ (⟨(l[i]).f0, u⟩ :: l.drop (i + 1))).find? (hq m) = l.find? (hq m) := by
      intro h hc u m hm
      conv => rhs; rw [k_split l i h]
      rw [k_find_mid, k_find_mid, if_neg (hq_ne hc hm), if_neg (hq_ne (a := ⟨(l[i]).f0, u⟩) hc hm)]
    refine ⟨r.1, r.2.1, r.2.2, hev2, ?_⟩
    cases hk with
    | missing _ hkd =>
      exact ⟨hR, fun _ _ => rfl, fun g => absurd g (show ¬ ((1 : Int) = 0) by decide), fun g => absurd g (show ¬ ((1 : Int) = 0) by decide), fun _ _ => ⟨i, hat, hF rfl⟩, fun _ => ⟨hn1, b5⟩⟩
    | get hil => exact ⟨hR, fun _ _ => rfl, fun _ g => absurd g (by decide), fun _ g => absurd g (by decide), fun g => absurd g (by decide), fun _ => ⟨hn1, b5⟩⟩
    | put hil => exact ⟨k_right_set hR i hil v b6, fun m hm => keepset hil (hT rfl hil) v m hm, fun _ _ => Got_mid (At_take hat) hnot (hT rfl hil) rfl, fun _ g => absurd g (by decide), fun g => absurd g (by decide), fun _ => ⟨hn1, b5⟩⟩
    | full hf => exact ⟨hR, fun _ _ => rfl, fun g => absurd g (show ¬ ((3 : Int) = 0) by decide), fun g => absurd g (show ¬ ((3 : Int) = 0) by decide), fun g => absurd g (by decide), fun _ => ⟨hn1, b5⟩⟩
    | add hf =>
      have hab := At_above hR.2.1 hat (hF rfl)
      refine ⟨k_right_add hR hat hab v b6 ⟨hn1, b5⟩ hf, fun m hm => ?_, fun _ _ => Got_mid (At_take hat) (At_drop hat) (cmpI_self n) rfl, fun _ g => absurd g (by decide), fun g => absurd g (by decide), fun _ => ⟨hn1, b5⟩⟩
      show (l.take i ++ (⟨n, v⟩ :: l.drop i)).find? (hq m) = _
      rw [k_find_mid, if_neg (hq_ne (a := ⟨n, v⟩) (cmpI_self n) hm)]
      conv => rhs; rw [← List.take_append_drop i l, List.find?_append]
    | swap hil he => exact ⟨k_right_set hR i hil w b7, fun m hm => keepset hil (hT rfl hil) w m hm, fun _ g => absurd g (by decide), fun _ _ => Got_mid (At_take hat) hnot (hT rfl hil) rfl, fun g => absurd g (by decide), fun _ => ⟨hn1, b5⟩⟩
    | differs hil he => exact ⟨hR, fun _ _ => rfl, fun g => absurd g (show ¬ ((2 : Int) = 0) by decide), fun g => absurd g (show ¬ ((2 : Int) = 0) by decide), fun g => absurd g (by decide), fun _ => ⟨hn1, b5⟩⟩
    | delete hil =>
      refine ⟨k_right_del hR i, fun m hm => ?_, fun _ g => absurd g (by decide), fun _ g => absurd g (by decide), fun _ _ => Miss_mid (At_take hat) (hdel hil (hT rfl hil)), fun _ => ⟨hn1, b5⟩⟩
      show (l.take i ++ l.drop (i + 1)).find? (hq m) = _
      conv => rhs; rw [k_split l i hil]
      rw [k_find_mid, if_neg (hq_ne (hT rfl hil) hm), List.find?_append]
  · exact ⟨l, 5, [], kdo_any l hx hn kd n v w num _ (fun q => absurd q h) (fun _ => rfl), hR, fun _ _ => rfl, fun q => absurd q (by decide), fun q => absurd q (by decide), fun _ q => absurd rfl q, fun q => absurd rfl q⟩
theorem right_get {n : List Int} (h : 1 ≤ n.length ∧ n.length ≤ 16) : rightB 1 n [] [] 0 = true := by
  unfold rightB
  rw [decide_eq_true (show (n.length : Int) ≥ 1 by omega), decide_eq_true (show (n.length : Int) ≤ 16 by omega)]
  rfl
theorem kget_ev (out : List S37) (hx : out.length < 2932031007402) (hn : ∀ x ∈ out, x.f0.length < 140737488355328 ∧ x.f1.length < 140737488355328) (hR : RightL out) (n : List Int) :
    ∃ c x, Ev (fun k => kv_Do.f k out 1 n [] [] 0) (out, c, x) ∧ (1 ≤ n.length ∧ n.length ≤ 16 → (∀ v, Got out n v → c = 0 ∧ x = v) ∧ (Miss out n → c = 1)) := by
  by_cases hl : 1 ≤ n.length ∧ n.length ≤ 16
  · have hr := right_get hl
    obtain ⟨i, b, r, hi, hlo, hhi, hb, hk, hev⟩ := kdo_tail out hR 1 n [] [] 0 hr (by decide)
    have hat : At out n i := ⟨hi, hlo, hhi⟩
    have hev2 : Ev (fun k => kv_Do.f k out 1 n [] [] 0) r := kdo_any out hx hn 1 n [] [] 0 r (fun _ => hev) (fun q => absurd ⟨hR, hr, by decide⟩ q)
    cases hk with
    | missing _ hkd =>
      refine ⟨1, [], hev2, fun _ => ⟨fun v ⟨i', h1, h2, h3, h4⟩ => ?_, fun _ => rfl⟩⟩
      obtain rfl := At_uniq hat h1
      rw [dif_pos h2, h3] at hb
      exact absurd hb (by decide)
    | get hil =>
      refine ⟨0, _, hev2, fun _ => ⟨fun v ⟨i', h1, h2, h3, h4⟩ => ?_, fun ⟨i', h1, h2⟩ => ?_⟩⟩
      · obtain rfl := At_uniq hat h1
        exact ⟨rfl, h4⟩
      · obtain rfl := At_uniq hat h1
        rw [dif_pos hil] at hb
        exact absurd (by simpa using hb.symm) (h2 hil)
  · refine ⟨5, [], kdo_any out hx hn 1 n [] [] 0 _ (fun q => ?_) (fun _ => rfl), fun q => absurd q hl⟩
    have hr := q.2.1
    unfold rightB at hr
    simp only [Bool.and_eq_true, decide_eq_true_eq] at hr
    obtain ⟨⟨⟨⟨⟨⟨⟨⟨a1, a2⟩, _⟩, _⟩, _⟩, _⟩, _⟩, _⟩, _⟩ := hr
    exact absurd ⟨by omega, by omega⟩ hl
theorem find_l0 (l : List S37) (m : List Int) (hx : l.length < 1000000000000000) : ∀ (d i : Nat), d + i = l.length → (Ev (fun k => catenaryref07_Find.l0 k m l (l.length : Int) (i : Int)) (-1) ∧ (l.drop i).find? (hq m) = none) ∨ (∃ j, ∃ h : j < l.length, Ev (fun k => catenaryref07_Find.l0 k m l (l.length : Int) (i : Int)) (j : Int) ∧ (l.drop i).find? (hq m) = some (l[j]))
  | 0, i, hd => by
    have e1 : ¬ (i : Int) < (l.length : Int) := by omega
    refine Or.inl ⟨ev_succ ?_, by rw [List.drop_eq_nil_of_le (by omega)]; rfl⟩
    simp only [catenaryref07_Find.l0, if_neg e1]
    exact Ev.now _
  | d + 1, i, hd => by
    have hi : i < l.length := by omega
    have e1 : (i : Int) < (l.length : Int) := by omega
    have e2 : (0 : Int) ≤ (i : Int) := by omega
    have ew : wrap64 ((i : Int) + 1) = ((i + 1 : Nat) : Int) := w64 i (by omega)
    have es : catenaryref01_Same.f (l[i]).f0 m = some (hq m (l[i])) := rfl
    rw [List.drop_eq_getElem_cons hi, List.find?_cons]
    have step : ∀ r, (hq m (l[i]) = true → r = (i : Int)) → (hq m (l[i]) = false → Ev (fun k => catenaryref07_Find.l0 k m l (l.length : Int) ((i + 1 : Nat) : Int)) r) → Ev (fun k => catenaryref07_Find.l0 k m l (l.length : Int) (i : Int)) r := by
      intro r h1 h2
      refine ev_succ ?_
      simp only [catenaryref07_Find.l0, if_pos e1, if_pos e2, rdT l i hi, es, Option.bind_some, ew]
      cases hh : hq m (l[i]) with
      | true => simp only [if_true]; rw [h1 hh]; exact Ev.now _
      | false => simp only [Bool.false_eq_true, if_false]; exact h2 hh
    cases hh : hq m (l[i]) with
    | true => exact Or.inr ⟨i, hi, step _ (fun _ => rfl) (fun g => by rw [hh] at g; cases g), rfl⟩
    | false =>
      rcases find_l0 l m hx d (i + 1) (by omega) with ⟨h1, h2⟩ | ⟨j, h, h1, h2⟩
      · exact Or.inl ⟨step _ (fun g => by rw [hh] at g; cases g) (fun _ => h1), h2⟩
      · exact Or.inr ⟨j, h, step _ (fun g => by rw [hh] at g; cases g) (fun _ => h1), h2⟩
theorem find_ev (l : List S37) (m : List Int) (hx : l.length < 1000000000000000) : (Ev (fun k => catenaryref07_Find.f k l m) (-1) ∧ l.find? (hq m) = none) ∨ (∃ j, ∃ h : j < l.length, Ev (fun k => catenaryref07_Find.f k l m) (j : Int) ∧ l.find? (hq m) = some (l[j])) := by
  simp only [catenaryref07_Find.f]
  have := find_l0 l m hx l.length 0 (by omega)
  rw [List.drop_zero] at this
  exact this
theorem kcopy_l0 (l : List S37) (hx : l.length < 2932031007402) (hn : ∀ x ∈ l, x.f0.length < 140737488355328 ∧ x.f1.length < 140737488355328) : ∀ (d i : Nat) (acc : List S37), d + i = l.length → acc.length = i → Ev (fun k => catenaryref07_Copy.l0 k acc l (l.length : Int) (i : Int)) (acc ++ l.drop i)
  | 0, i, acc, hd, ha => by
    have e1 : ¬ (i : Int) < (l.length : Int) := by omega
    refine ev_succ ?_
    simp only [catenaryref07_Copy.l0, if_neg e1]
    rw [List.drop_eq_nil_of_le (by omega), List.append_nil]
    exact Ev.now _
  | d + 1, i, acc, hd, ha => by
    have hi : i < l.length := by omega
    have e1 : (i : Int) < (l.length : Int) := by omega
    have e2 : (0 : Int) ≤ (i : Int) := by omega
    have e3 : acc.length < 2932031007402 := by omega
    have ew : wrap64 ((i : Int) + 1) = ((i + 1 : Nat) : Int) := w64 i (by omega)
    have en : ([] : List Int).length + (l[i]).f0.length < 140737488355328 := by
      have := (hn _ (List.getElem_mem hi)).1
      rw [List.length_nil]; omega
    have en2 : ([] : List Int).length + (l[i]).f1.length < 140737488355328 := by
      have := (hn _ (List.getElem_mem hi)).2
      rw [List.length_nil]; omega
    have ih := kcopy_l0 l hx hn d (i + 1) (acc ++ [l[i]]) (by omega) (by rw [List.length_append, ha]; rfl)
    rw [List.append_assoc, List.singleton_append] at ih
    rw [List.drop_eq_getElem_cons hi]
    refine ev_succ ?_
    simp only [catenaryref07_Copy.l0, if_pos e1, if_pos e2, rdT l i hi, Option.bind_some, if_pos e3, if_pos en, if_pos en2, List.nil_append, ew]
    exact ih
theorem kcopy_ev (l : List S37) (hx : l.length < 2932031007402) (hn : ∀ x ∈ l, x.f0.length < 140737488355328 ∧ x.f1.length < 140737488355328) : Ev (fun k => catenaryref07_Copy.f k l) l := by
  simp only [catenaryref07_Copy.f]
  exact kcopy_l0 l hx hn l.length 0 [] (by omega) rfl
theorem kalive : Ev (fun k => catenarylaw07_kvAlive.f k) true := Ev.of catenarylaw07_kvAlive.mono (k := 60) (by kernel_rfl)
theorem copyop (kd : Int) (n v w : List Int) (num : Int) (h1 : n.length < 140737488355328) (h2 : v.length < 140737488355328) (h3 : w.length < 140737488355328) : catenaryref07_CopyOp.f kd n v w num = some (kd, n, v, w, num) := by
  unfold catenaryref07_CopyOp.f
  simp only [Option.bind_some, List.length_nil, Nat.zero_add, if_pos h1, if_pos h2, if_pos h3, List.nil_append]
theorem ev_rounds {α : Type} {g : Nat → Option α} {r : α} (h : Ev g r) : ∃ k, g k = some r := by
  obtain ⟨K, hK⟩ := h
  exact ⟨K, hK K (Nat.le_refl _)⟩
theorem right_lens {l : List S37} (h : RightL l) : l.length < 2932031007402 ∧ ∀ x ∈ l, x.f0.length < 140737488355328 ∧ x.f1.length < 140737488355328 :=
  ⟨by have := h.2.2; omega, fun x hx => by have g := h.1 x hx; have g1 := g.1.2; have g2 := g.2; omega⟩
theorem Ev_uniq {α : Type} {g : Nat → Option α} {a b : α} (h1 : Ev g a) (h2 : Ev g b) : a = b := by
  obtain ⟨K1, h1⟩ := h1
  obtain ⟨K2, h2⟩ := h2
  have e1 := h1 (K1 + K2) (by omega)
  have e2 := h2 (K1 + K2) (by omega)
  rw [e1] at e2
  exact Option.some.inj e2
def okOp (kd : Int) (n v w : List Int) (num : Int) : Prop := rightB kd n v w num = true ∧ kd ≤ 4
instance (kd : Int) (n v w : List Int) (num : Int) : Decidable (okOp kd n v w num) := by unfold okOp; exact inferInstance
def pstep (kd : Int) (n v w : List Int) (num : Int) (P : Option S37) : Option S37 × Int × List Int :=
  if okOp kd n v w num then
    match P with
    | none => if kd = 2 then (some ⟨n, v⟩, 0, []) else (none, 1, [])
    | some e => if kd = 1 then (some e, 0, e.f1) else if kd = 2 then (some ⟨e.f0, v⟩, 0, []) else if kd = 3 then (if cmpI e.f1 v = 0 then (some ⟨e.f0, w⟩, 0, []) else (some e, 2, e.f1)) else (none, 0, [])
  else (P, 5, [])
theorem pstep_none {kd : Int} {n v w : List Int} {num : Int} (h : okOp kd n v w num) : pstep kd n v w num none = (if kd = 2 then (some ⟨n, v⟩, 0, []) else (none, 1, [])) := by
  unfold pstep; rw [if_pos h]
theorem pstep_some {kd : Int} {n v w : List Int} {num : Int} (h : okOp kd n v w num) (e : S37) : pstep kd n v w num (some e) = (if kd = 1 then (some e, 0, e.f1) else if kd = 2 then (some ⟨e.f0, v⟩, 0, []) else if kd = 3 then (if cmpI e.f1 v = 0 then (some ⟨e.f0, w⟩, 0, []) else (some e, 2, e.f1)) else (none, 0, [])) := by
  unfold pstep; rw [if_pos h]
def Dec (A : List S37) (P : Option S37) (D : List S37) (n : List Int) : Prop :=
  (∀ x ∈ A, cmpI x.f0 n < 0) ∧ (∀ e, P = some e → cmpI e.f0 n = 0) ∧ (∀ x ∈ D, cmpI n x.f0 < 0)
theorem Dec_at {A D : List S37} {P : Option S37} {n : List Int} (h : Dec A P D n) : At (A ++ (P.toList ++ D)) n A.length := by
  refine At_mk rfl h.1 (fun x hx => ?_)
  rcases List.mem_append.1 hx with g | g
  · have := h.2.1 x (by simpa using g)
    omega
  · exact above_not h.2.2 x g
theorem getM (A B : List S37) (a : S37) (h : A.length < (A ++ (a :: B)).length) : (A ++ (a :: B))[A.length] = a := by
  rw [List.getElem_append_right (Nat.le_refl _)]; simp
theorem takeM (A B : List S37) : (A ++ B).take A.length = A := by rw [List.take_append_of_le_length (Nat.le_refl _), List.take_of_length_le (Nat.le_refl _)]
theorem dropM (A B : List S37) (a : S37) : (A ++ (a :: B)).drop (A.length + 1) = B := by
  rw [List.drop_append, List.drop_of_length_le (by omega), show A.length + 1 - A.length = 1 by omega]; rfl
theorem step_full (A D : List S37) (P : Option S37) (kd : Int) (n v w : List Int) (num : Int) (hd : Dec A P D n) (hR : RightL (A ++ (P.toList ++ D))) :
    Ev (fun k => kv_Do.f k (A ++ (P.toList ++ D)) kd n v w num) (if okOp kd n v w num ∧ P = none ∧ kd = 2 ∧ (A ++ (P.toList ++ D)).length = 64 then (A ++ (P.toList ++ D), 3, []) else (A ++ ((pstep kd n v w num P).1.toList ++ D), (pstep kd n v w num P).2)) := by
  have hx := (right_lens hR).1
  have hn := (right_lens hR).2
  by_cases hok : okOp kd n v w num
  · obtain ⟨i, b, r, hi, hlo, hhi, hb, hk, hev⟩ := kdo_tail _ hR kd n v w num hok.1 hok.2
    have hat : At (A ++ (P.toList ++ D)) n i := ⟨hi, hlo, hhi⟩
    obtain rfl := At_uniq hat (Dec_at hd)
    have hev2 := kdo_any _ hx hn kd n v w num r (fun _ => hev) (fun q => absurd ⟨hR, hok.1, hok.2⟩ q)
    cases P with
    | none =>
      rw [pstep_none hok]
      have hb0 : b = false := by
        rw [hb]
        split
        · next h =>
          cases D with
          | nil => simp at h
          | cons d ds =>
            have h2 := hd.2.2 d (by simp)
            have e : (A ++ ((none : Option S37).toList ++ d :: ds))[A.length] = d := getM A ds d h
            rw [e]
            have := cmpI_neg d.f0 n
            rw [beq_eq_false_iff_ne]
            omega
        · rfl
      subst hb0
      cases hk with
      | missing _ hkd =>
        rw [if_neg (fun g => hkd g.2.2.1)]
        simp only [if_neg hkd]
        exact hev2
      | full hf => rw [if_pos ⟨hok, rfl, rfl, hf⟩]; exact hev2
      | add hf =>
        rw [if_neg (fun g => hf g.2.2.2)]
        simp only [if_true]
        have e1 : (A ++ ((none : Option S37).toList ++ D)).take A.length = A := takeM A D
        have e2 : (A ++ ((none : Option S37).toList ++ D)).drop A.length = D := by
          show (A ++ D).drop A.length = D
          exact List.drop_left
        rw [e1, e2] at hev2
        exact hev2
    | some e =>
      rw [pstep_some hok]
      have hlt : A.length < (A ++ ((some e).toList ++ D)).length := by simp
      have hg : (A ++ ((some e).toList ++ D))[A.length] = e := getM A D e hlt
      have hb1 : b = true := by rw [hb, dif_pos hlt, hg, hd.2.1 e rfl]; rfl
      subst hb1
      have e1 : (A ++ ((some e).toList ++ D)).take A.length = A := takeM A _
      have e2 : (A ++ ((some e).toList ++ D)).drop (A.length + 1) = D := dropM A D e
      rw [if_neg (fun g => by cases g.2.1)]
      cases hk with
      | get h => simp only [if_true]; rw [hg] at hev2; exact hev2
      | put h =>
        simp only [show ¬ ((2 : Int) = 1) by decide, if_false, if_true]
        rw [hg, e1, e2] at hev2
        exact hev2
      | swap h he =>
        rw [hg] at he
        simp only [show ¬ ((3 : Int) = 1) by decide, show ¬ ((3 : Int) = 2) by decide, if_false, if_true, if_pos he]
        rw [hg, e1, e2] at hev2
        exact hev2
      | differs h he =>
        rw [hg] at he
        simp only [show ¬ ((3 : Int) = 1) by decide, show ¬ ((3 : Int) = 2) by decide, if_false, if_true, if_neg he]
        rw [hg] at hev2
        exact hev2
      | delete h =>
        simp only [show ¬ ((4 : Int) = 1) by decide, show ¬ ((4 : Int) = 2) by decide, show ¬ ((4 : Int) = 3) by decide, if_false]
        rw [e1, e2] at hev2
        exact hev2
  · rw [if_neg (fun g => hok g.1)]
    have hs : pstep kd n v w num P = (P, 5, []) := by unfold pstep; rw [if_neg hok]
    rw [hs]
    exact kdo_any _ hx hn kd n v w num _ (fun q => absurd q.2 hok) (fun _ => rfl)
theorem step_ev (A D : List S37) (P : Option S37) (kd : Int) (n v w : List Int) (num : Int) (hd : Dec A P D n) (hR : RightL (A ++ (P.toList ++ D))) (hl : (A ++ (P.toList ++ D)).length < 64) :
    Ev (fun k => kv_Do.f k (A ++ (P.toList ++ D)) kd n v w num) (A ++ ((pstep kd n v w num P).1.toList ++ D), (pstep kd n v w num P).2) := by
  have h := step_full A D P kd n v w num hd hR
  rw [if_neg (fun g => by have := g.2.2.2; omega)] at h
  exact h
theorem pstep_name (kd : Int) (n v w : List Int) (num : Int) (P : Option S37) (h : ∀ e, P = some e → cmpI e.f0 n = 0) : ∀ e, (pstep kd n v w num P).1 = some e → cmpI e.f0 n = 0 := by
  intro e
  unfold pstep
  split
  · cases P with
    | none =>
      dsimp only
      split
      · intro g; cases g; exact cmpI_self n
      · intro g; cases g
    | some a =>
      have ha := h a rfl
      dsimp only
      repeat' split
      all_goals (intro g; cases g; try exact ha)
  · exact h e
theorem split_at (l : List S37) (hs : Sorted l) (hl : l.length < 1000000) (n : List Int) : ∃ A P D, l = A ++ (P.toList ++ D) ∧ Dec A P D n := by
  obtain ⟨i, hi, hlo, hhi, _⟩ := search_ev l n hs hl
  have hat : At l n i := ⟨hi, hlo, hhi⟩
  by_cases hc : ∃ h : i < l.length, cmpI (l[i]).f0 n = 0
  · obtain ⟨h, hc⟩ := hc
    refine ⟨l.take i, some (l[i]), l.drop (i + 1), k_split l i h, At_take hat, fun e he => ?_, fun x hx => ?_⟩
    · cases he; exact hc
    · obtain ⟨j, hj, rfl⟩ := List.mem_iff_getElem.1 hx
      rw [List.length_drop] at hj
      rw [List.getElem_drop]
      have s := sorted_at hs (i := i) (j := i + 1 + j) (by omega) (by omega)
      rw [cmpI_eq hc] at s
      exact s
  · refine ⟨l.take i, none, l.drop i, (List.take_append_drop i l).symm, At_take hat, (fun e he => by cases he), At_above hs hat (fun h g => hc ⟨h, g⟩)⟩
theorem step_right (A D : List S37) (P : Option S37) (kd : Int) (n v w : List Int) (num : Int) (hd : Dec A P D n) (hR : RightL (A ++ (P.toList ++ D))) (hl : (A ++ (P.toList ++ D)).length < 64) : RightL (A ++ ((pstep kd n v w num P).1.toList ++ D)) := by
  obtain ⟨out, c, x, h1, h2, _⟩ := kd_keeps _ (right_lens hR).1 (right_lens hR).2 hR kd n v w num
  have := Ev_uniq h1 (step_ev A D P kd n v w num hd hR hl)
  rw [(Prod.mk.inj this).1] at h2
  exact h2
theorem opt_len (P : Option S37) : P.toList.length ≤ 1 := by cases P <;> simp
theorem commute_lt (l : List S37) (hR : RightL l) (hl : l.length ≤ 62) (ka : Int) (na va wa : List Int) (ua : Int) (kb : Int) (nb vb wb : List Int) (ub : Int) (hlt : cmpI na nb < 0) :
    ∃ o1 o2 o xa xb, Ev (fun k => kv_Do.f k l ka na va wa ua) (o1, xa) ∧ Ev (fun k => kv_Do.f k o1 kb nb vb wb ub) (o, xb) ∧ Ev (fun k => kv_Do.f k l kb nb vb wb ub) (o2, xb) ∧ Ev (fun k => kv_Do.f k o2 ka na va wa ua) (o, xa) := by
  obtain ⟨A, P, D0, rfl, hd⟩ := split_at l hR.2.1 (by omega) na
  have hs0 : Sorted D0 := by
    have h := hR.2.1
    unfold Sorted at h ⊢
    exact (List.pairwise_append.1 (List.pairwise_append.1 h).2.1).2.1
  have hl0 : D0.length < 1000000 := by simp only [List.length_append] at hl; omega
  obtain ⟨B, Q, C, rfl, hq⟩ := split_at D0 hs0 hl0 nb
  have hPb : ∀ P' : Option S37, (∀ e, P' = some e → cmpI e.f0 na = 0) → Dec (A ++ (P'.toList ++ B)) Q C nb := by
    intro P' hP'
    refine ⟨fun x hx => ?_, hq.2.1, hq.2.2⟩
    rcases List.mem_append.1 hx with g | g
    · exact cmpI_trans (hd.1 x g) hlt
    · rcases List.mem_append.1 g with g | g
      · rw [cmpI_eq (hP' x (by simpa using g))]; exact hlt
      · exact hq.1 x g
  have hQa : ∀ Q' : Option S37, (∀ e, Q' = some e → cmpI e.f0 nb = 0) → Dec A P (B ++ (Q'.toList ++ C)) na := by
    intro Q' hQ'
    refine ⟨hd.1, hd.2.1, fun x hx => ?_⟩
    rcases List.mem_append.1 hx with g | g
    · exact hd.2.2 x (List.mem_append.2 (Or.inl g))
    · rcases List.mem_append.1 g with g | g
      · have e := hQ' x (by simpa using g)
        have e1 := cmpI_neg na x.f0
        rw [cmpI_eq e] at e1
        have e2 := cmpI_neg na nb
        omega
      · exact cmpI_trans hlt (hq.2.2 x g)
  have asc : ∀ P' Q' : Option S37, A ++ (P'.toList ++ (B ++ (Q'.toList ++ C))) = (A ++ (P'.toList ++ B)) ++ (Q'.toList ++ C) := by
    intro P' Q'; simp only [List.append_assoc]
  have hlen : ∀ P' Q' : Option S37, A.length + B.length + C.length + P'.toList.length + Q'.toList.length = (A ++ (P'.toList ++ (B ++ (Q'.toList ++ C)))).length := by
    intro P' Q'; simp only [List.length_append]; omega
  have hPn := pstep_name ka na va wa ua P hd.2.1
  have hQn := pstep_name kb nb vb wb ub Q hq.2.1
  have l00 := hlen P Q
  have l1 := opt_len (pstep ka na va wa ua P).1
  have l2 := opt_len (pstep kb nb vb wb ub Q).1
  have l10 := hlen (pstep ka na va wa ua P).1 Q
  have l01 := hlen P (pstep kb nb vb wb ub Q).1
  have R1 := step_right A _ P ka na va wa ua hd hR (by omega)
  have hR' := hR
  rw [asc] at hR'
  have R2 := step_right _ C Q kb nb vb wb ub (hPb P hd.2.1) hR' (by rw [← asc]; omega)
  have E1 := step_ev A _ P ka na va wa ua hd hR (by omega)
  have E2 := step_ev _ C Q kb nb vb wb ub (hPb P hd.2.1) hR' (by rw [← asc]; omega)
  rw [← asc, ← asc] at E2
  rw [← asc] at R2
  have E4 := step_ev A _ P ka na va wa ua (hQa _ hQn) R2 (by omega)
  rw [asc] at R1
  have E3 := step_ev _ C Q kb nb vb wb ub (hPb _ hPn) R1 (by rw [← asc]; omega)
  rw [← asc, ← asc] at E3
  exact ⟨_, _, _, _, _, E1, E3, E2, E4⟩
theorem commute (l : List S37) (hR : RightL l) (hl : l.length ≤ 62) (ka : Int) (na va wa : List Int) (ua : Int) (kb : Int) (nb vb wb : List Int) (ub : Int) (hne : cmpI na nb ≠ 0) :
    ∃ o1 o2 o xa xb, Ev (fun k => kv_Do.f k l ka na va wa ua) (o1, xa) ∧ Ev (fun k => kv_Do.f k o1 kb nb vb wb ub) (o, xb) ∧ Ev (fun k => kv_Do.f k l kb nb vb wb ub) (o2, xb) ∧ Ev (fun k => kv_Do.f k o2 ka na va wa ua) (o, xa) := by
  by_cases h : cmpI na nb < 0
  · exact commute_lt l hR hl ka na va wa ua kb nb vb wb ub h
  · have e := cmpI_neg na nb
    obtain ⟨o1, o2, o, xa, xb, h1, h2, h3, h4⟩ := commute_lt l hR hl kb nb vb wb ub ka na va wa ua (by omega)
    exact ⟨o2, o1, o, xb, xa, h3, h4, h1, h2⟩
theorem bless : ∀ a b : List UInt8, Op.bytesLess a b = decide (Lib.compareBytes a b < 0)
  | [], [] => rfl
  | _ :: _, [] => rfl
  | [], _ :: _ => rfl
  | a :: x, b :: y => by
    have ih := bless x y
    show (decide (a < b) || (a == b && Op.bytesLess x y)) = _
    rw [ih]
    by_cases h1 : a < b
    · rw [show Lib.compareBytes (a :: x) (b :: y) = -1 by unfold Lib.compareBytes; rw [if_pos h1], decide_eq_true h1]; rfl
    · by_cases h2 : b < a
      · rw [show Lib.compareBytes (a :: x) (b :: y) = 1 by unfold Lib.compareBytes; rw [if_neg h1, if_pos h2], decide_eq_false h1]
        have hne : (a == b) = false := by
          rw [beq_eq_false_iff_ne]
          intro e; subst e; exact h1 h2
        rw [hne]; rfl
      · have e : a = b := UInt8.le_antisymm (UInt8.not_lt.1 h2) (UInt8.not_lt.1 h1)
        rw [show Lib.compareBytes (a :: x) (b :: y) = Lib.compareBytes x y by conv => lhs; unfold Lib.compareBytes; rw [if_neg h1, if_neg h2], decide_eq_false h1, e]
        simp
theorem less_is (a b : List Int) : catenaryref07_Less.f a b = some (decide (cmpI a b < 0)) := by
  unfold catenaryref07_Less.f cmpI
  rw [bless, Go.Lib.strOfNums_toList, Go.Lib.strOfNums_toList]
  rfl
theorem same_is (a b : List Int) : catenaryref01_Same.f a b = some (decide (cmpI a b = 0)) := by
  show some (eqB a b) = _
  congr 1
  cases h : eqB a b with
  | true => rw [decide_eq_true ((eqB_iff _ _).1 h)]
  | false => symm; apply decide_eq_false; intro g; rw [(eqB_iff _ _).2 g] at h; cases h
theorem rright_l0 (l : List S37) (hx : l.length < 1000000000000000) : ∀ (d i : Nat), d + i = l.length → (Ev (fun k => catenaryref07_Right.l0 k l l (l.length : Int) (i : Int)) true ∧ (∀ j h, i ≤ j → goodAt l j h)) ∨ (Ev (fun k => catenaryref07_Right.l0 k l l (l.length : Int) (i : Int)) false ∧ ¬ (∀ j h, i ≤ j → goodAt l j h))
  | 0, i, hd => by
    have e1 : ¬ (i : Int) < (l.length : Int) := by omega
    refine Or.inl ⟨ev_succ ?_, fun j h hj => absurd h (by omega)⟩
    simp only [catenaryref07_Right.l0, if_neg e1]
    exact Ev.now _
  | d + 1, i, hd => by
    have hi : i < l.length := by omega
    have e1 : (i : Int) < (l.length : Int) := by omega
    have e2 : (0 : Int) ≤ (i : Int) := by omega
    have ew : wrap64 ((i : Int) + 1) = ((i + 1 : Nat) : Int) := w64 i (by omega)
    have jt : Ev (fun k => catenaryref07_Right.j1 k l l (l.length : Int) (i : Int) true) false := by
      refine ev_succ ?_
      simp only [catenaryref07_Right.j1, if_true]
      exact Ev.now _
    have jf : ∀ r, Ev (fun k => catenaryref07_Right.l0 k l l (l.length : Int) ((i + 1 : Nat) : Int)) r → Ev (fun k => catenaryref07_Right.j1 k l l (l.length : Int) (i : Int) false) r := by
      intro r h
      refine ev_succ ?_
      simp only [catenaryref07_Right.j1, Bool.false_eq_true, if_false, ew]
      exact h
    have key : ∀ r, (¬ goodAt l i hi → Ev (fun k => catenaryref07_Right.j1 k l l (l.length : Int) (i : Int) true) r) → (goodAt l i hi → Ev (fun k => catenaryref07_Right.j1 k l l (l.length : Int) (i : Int) false) r) → Ev (fun k => catenaryref07_Right.l0 k l l (l.length : Int) (i : Int)) r := by
      intro r hb hg
      refine ev_succ ?_
      simp only [catenaryref07_Right.l0, if_pos e1, if_pos e2, rdT l i hi]
      by_cases a1 : ((l[i]).f0.length : Int) = 0
      · simp only [if_pos a1]; exact hb (fun g => by have := g.1.1.1; omega)
      simp only [if_neg a1]
      by_cases a2 : ((l[i]).f0.length : Int) > 16
      · simp only [if_pos a2]; exact hb (fun g => by have := g.1.1.2; omega)
      simp only [if_neg a2]
      by_cases a3 : ((l[i]).f1.length : Int) > 64
      · simp only [if_pos a3]; exact hb (fun g => by have := g.1.2; omega)
      · simp only [if_neg a3]
        have ok : okL (l[i]) := ⟨⟨by omega, by omega⟩, by omega⟩
        by_cases a6 : (i : Int) > 0
        · have ei : wrap64 ((i : Int) - 1) = ((i - 1 : Nat) : Int) := by unfold wrap64; omega
          have e3 : (0 : Int) ≤ ((i - 1 : Nat) : Int) := by omega
          have e4 : ((i - 1 : Nat) : Int) < (l.length : Int) := by omega
          simp only [if_pos a6, ei, if_pos e3, if_pos e4, rdT l (i - 1) (by omega), less_is, Option.bind_some]
          by_cases a7 : cmpI (l[i - 1]).f0 (l[i]).f0 < 0
          · simp only [decide_eq_true a7, Bool.not_true]; exact hg ⟨ok, fun _ => a7⟩
          · simp only [decide_eq_false a7, Bool.not_false]; exact hb (fun g => a7 (g.2 (by omega)))
        · simp only [if_neg a6]
          exact hg ⟨ok, fun h => absurd h (by omega)⟩
    by_cases hg : goodAt l i hi
    · rcases rright_l0 l hx d (i + 1) (by omega) with ⟨h1, h2⟩ | ⟨h1, h2⟩
      · refine Or.inl ⟨key true (fun q => absurd hg q) (fun _ => jf _ h1), fun j h hj => ?_⟩
        by_cases hq : j = i
        · subst hq; exact hg
        · exact h2 j h (by omega)
      · exact Or.inr ⟨key false (fun q => absurd hg q) (fun _ => jf _ h1), fun h => h2 (fun j hj hij => h j hj (by omega))⟩
    · exact Or.inr ⟨key false (fun _ => jt) (fun q => absurd q hg), fun h => hg (h i hi (Nat.le_refl _))⟩
theorem rRight_ev (l : List S37) (hx : l.length < 1000000000000000) : (Ev (fun k => catenaryref07_Right.f k l) true ∧ RightL l) ∨ (Ev (fun k => catenaryref07_Right.f k l) false ∧ ¬ RightL l) := by
  simp only [catenaryref07_Right.f]
  by_cases c : (l.length : Int) > 64
  · simp only [if_pos c]
    exact Or.inr ⟨Ev.now _, fun h => by have := h.2.2; omega⟩
  · simp only [if_neg c]
    rcases rright_l0 l hx l.length 0 (by omega) with ⟨h1, h2⟩ | ⟨h1, h2⟩
    · exact Or.inl ⟨h1, (all_good l).1 ⟨h2, by omega⟩⟩
    · exact Or.inr ⟨h1, fun h => h2 ((all_good l).2 h).1⟩
theorem getD_in (A : List S37) (x : S37) (B : List S37) (i : Nat) (h : A.length = i) : rd_T37 (A ++ (x :: B)) (i : Int) = x := rdT_mid A B x i h
theorem rfind_skip (n : List Int) : ∀ (X A B : List S37), (A ++ (X ++ B)).length < 1000000000000000 → (∀ x ∈ X, cmpI x.f0 n ≠ 0) → ∀ r, Ev (fun k => catenaryref07_Find.l0 k n (A ++ (X ++ B)) ((A ++ (X ++ B)).length : Int) ((A.length + X.length : Nat) : Int)) r → Ev (fun k => catenaryref07_Find.l0 k n (A ++ (X ++ B)) ((A ++ (X ++ B)).length : Int) (A.length : Int)) r
  | [], A, B, _, _, r, h => h
  | x :: X, A, B, hl, hX, r, h => by
    have hlen : (A ++ (x :: X ++ B)).length = A.length + (X.length + 1 + B.length) := by simp only [List.length_append, List.length_cons]
    have e1 : (A.length : Int) < ((A ++ (x :: X ++ B)).length : Int) := by rw [hlen]; omega
    have e2 : (0 : Int) ≤ (A.length : Int) := by omega
    have er : rd_T37 (A ++ (x :: X ++ B)) (A.length : Int) = x := getD_in A x (X ++ B) A.length rfl
    have ew : wrap64 ((A.length : Int) + 1) = ((A.length + 1 : Nat) : Int) := w64 _ (by omega)
    have gd : ∀ q : Decidable (cmpI x.f0 n = 0), @decide _ q = false := fun q => decide_eq_false (hX x (by simp))
    have eL : A ++ (x :: X ++ B) = (A ++ [x]) ++ (X ++ B) := by simp
    have ih := rfind_skip n X (A ++ [x]) B (by rw [← eL]; exact hl) (fun y hy => hX y (by simp [hy])) r
    rw [← eL] at ih
    refine ev_succ ?_
    simp only [catenaryref07_Find.l0, if_pos e1, if_pos e2, er, same_is, Option.bind_some, gd, Bool.false_eq_true, if_false, ew]
    have hlA : (A ++ [x]).length = A.length + 1 := by simp
    rw [hlA] at ih
    refine ih ?_
    rw [List.length_cons] at h
    rw [show A.length + 1 + X.length = A.length + (X.length + 1) by omega]
    exact h
theorem rfind (A D : List S37) (P : Option S37) (n : List Int) (hd : Dec A P D n) (hl : (A ++ (P.toList ++ D)).length < 1000000000000000) : Ev (fun k => catenaryref07_Find.f k (A ++ (P.toList ++ D)) n) (if P.isSome = true then (A.length : Int) else -1) := by
  simp only [catenaryref07_Find.f]
  have hA : ∀ x ∈ A, cmpI x.f0 n ≠ 0 := fun x hx h => by have := hd.1 x hx; omega
  have hD : ∀ x ∈ D, cmpI x.f0 n ≠ 0 := fun x hx h => by have := hd.2.2 x hx; have := cmpI_neg n x.f0; omega
  have s1 := rfind_skip n A [] (P.toList ++ D) (by simpa using hl) hA
  simp only [List.nil_append, List.length_nil, Nat.zero_add] at s1
  refine s1 _ ?_
  cases P with
  | some e =>
    have e1 : (A.length : Int) < ((A ++ ((some e).toList ++ D)).length : Int) := by simp; omega
    have e2 : (0 : Int) ≤ (A.length : Int) := by omega
    have er : rd_T37 (A ++ ((some e).toList ++ D)) (A.length : Int) = e := getD_in A e D A.length rfl
    have gd : ∀ q : Decidable (cmpI e.f0 n = 0), @decide _ q = true := fun q => decide_eq_true (hd.2.1 e rfl)
    refine ev_succ ?_
    simp only [catenaryref07_Find.l0, if_pos e1, if_pos e2, er, same_is, Option.bind_some, gd, if_true, Option.isSome_some]
    exact Ev.now _
  | none =>
    have s2 := rfind_skip n D A [] (by simpa using hl) hD
    simp only [List.append_nil] at s2
    refine s2 _ ?_
    have e1 : ¬ ((A.length + D.length : Nat) : Int) < ((A ++ D).length : Int) := by rw [List.length_append]; omega
    refine ev_succ ?_
    simp only [catenaryref07_Find.l0, Option.toList_none, List.nil_append, if_neg e1, Option.isSome_none, Bool.false_eq_true, if_false]
    exact Ev.now _
theorem rwith_skip (n v : List Int) (put : Bool) : ∀ (X A B acc : List S37), (A ++ (X ++ B)).length < 1000000000000 → acc.length ≤ A.length + 1 → (∀ x ∈ X, cmpI x.f0 n ≠ 0 ∧ (put = true ∨ ¬ cmpI n x.f0 < 0)) → ∀ r, Ev (fun k => catenaryref07_With.l0 k n v (acc ++ X) put (A ++ (X ++ B)) ((A ++ (X ++ B)).length : Int) ((A.length + X.length : Nat) : Int)) r → Ev (fun k => catenaryref07_With.l0 k n v acc put (A ++ (X ++ B)) ((A ++ (X ++ B)).length : Int) (A.length : Int)) r
  | [], A, B, acc, _, _, _, r, h => by rw [List.append_nil] at h; exact h
  | x :: X, A, B, acc, hl, ha, hX, r, h => by
    have hlen : (A ++ (x :: X ++ B)).length = A.length + (X.length + 1 + B.length) := by simp only [List.length_append, List.length_cons]
    have e1 : (A.length : Int) < ((A ++ (x :: X ++ B)).length : Int) := by rw [hlen]; omega
    have e2 : (0 : Int) ≤ (A.length : Int) := by omega
    have e3 : acc.length < 2932031007402 := by omega
    have er : rd_T37 (A ++ (x :: X ++ B)) (A.length : Int) = x := getD_in A x (X ++ B) A.length rfl
    have ew : wrap64 ((A.length : Int) + 1) = ((A.length + 1 : Nat) : Int) := w64 _ (by omega)
    obtain ⟨hx1, hx2⟩ := hX x (by simp)
    have gd : ∀ q : Decidable (cmpI x.f0 n = 0), @decide _ q = false := fun q => decide_eq_false hx1
    have eL : A ++ (x :: X ++ B) = (A ++ [x]) ++ (X ++ B) := by simp
    have ih := rwith_skip n v put X (A ++ [x]) B (acc ++ [x]) (by rw [← eL]; exact hl) (by simp; omega) (fun y hy => hX y (by simp [hy])) r
    rw [← eL] at ih
    have hlA : (A ++ [x]).length = A.length + 1 := by simp
    rw [hlA] at ih
    have J : Ev (fun k => catenaryref07_With.j1 k n v acc put (A ++ (x :: X ++ B)) ((A ++ (x :: X ++ B)).length : Int) (A.length : Int) false x.f0 x.f1) r := by
      refine ev_succ ?_
      simp only [catenaryref07_With.j1, Bool.false_eq_true, if_false]
      refine ev_succ ?_
      simp only [catenaryref07_With.j2, same_is, Option.bind_some, gd, Bool.false_eq_true, if_false, if_pos e3, ew]
      refine ih ?_
      rw [List.append_assoc, List.singleton_append, show A.length + 1 + X.length = A.length + (X.length + 1) by omega]
      rw [List.length_cons] at h
      exact h
    refine ev_succ ?_
    cases put with
    | true =>
      simp only [catenaryref07_With.l0, if_pos e1, if_pos e2, er, if_true]
      exact J
    | false =>
      have hx3 : ¬ cmpI n x.f0 < 0 := hx2.resolve_left (by decide)
      have gl : ∀ q : Decidable (cmpI n x.f0 < 0), @decide _ q = false := fun q => decide_eq_false hx3
      simp only [catenaryref07_With.l0, if_pos e1, if_pos e2, er, Bool.false_eq_true, if_false, less_is, Option.bind_some, gl]
      exact J
theorem rwith (A D : List S37) (P : Option S37) (n v : List Int) (hd : Dec A P D n) (hl : (A ++ (P.toList ++ D)).length < 1000000000) : Ev (fun k => catenaryref07_With.f k (A ++ (P.toList ++ D)) n v) (A ++ (⟨(match P with | some e => e.f0 | none => n), v⟩ :: D)) := by
  simp only [catenaryref07_With.f]
  have hA : ∀ x ∈ A, cmpI x.f0 n ≠ 0 ∧ (false = true ∨ ¬ cmpI n x.f0 < 0) := fun x hx => by
    have := hd.1 x hx
    have := cmpI_neg n x.f0
    exact ⟨by omega, Or.inr (by omega)⟩
  have hD : ∀ x ∈ D, cmpI x.f0 n ≠ 0 ∧ (true = true ∨ ¬ cmpI n x.f0 < 0) := fun x hx => by
    have := hd.2.2 x hx
    have := cmpI_neg n x.f0
    exact ⟨by omega, Or.inl rfl⟩
  have s1 := rwith_skip n v false A [] (P.toList ++ D) [] (by rw [List.nil_append]; omega) (by simp) hA
  simp only [List.nil_append, List.length_nil, Nat.zero_add] at s1
  refine s1 _ ?_
  have stop : ∀ (L acc : List S37) (m : Nat), m = L.length → Ev (fun k => catenaryref07_With.l0 k n v acc true L (L.length : Int) (m : Int)) acc := by
    intro L acc m hm
    have e1 : ¬ (m : Int) < (L.length : Int) := by omega
    refine ev_succ ?_
    simp only [catenaryref07_With.l0, if_neg e1, if_true]
    exact Ev.now _
  cases P with
  | some e =>
    have e1 : (A.length : Int) < ((A ++ ((some e).toList ++ D)).length : Int) := by simp; omega
    have e2 : (0 : Int) ≤ (A.length : Int) := by omega
    have e3 : A.length < 2932031007402 := by simp only [List.length_append] at hl; omega
    have er : rd_T37 (A ++ ((some e).toList ++ D)) (A.length : Int) = e := getD_in A e D A.length rfl
    have hc := hd.2.1 e rfl
    have gd : ∀ q : Decidable (cmpI e.f0 n = 0), @decide _ q = true := fun q => decide_eq_true hc
    have gl : ∀ q : Decidable (cmpI n e.f0 < 0), @decide _ q = false := fun q => decide_eq_false (by have := cmpI_neg n e.f0; omega)
    have ew : wrap64 ((A.length : Int) + 1) = ((A.length + 1 : Nat) : Int) := w64 _ (by omega)
    refine ev_succ ?_
    simp only [catenaryref07_With.l0, if_pos e1, if_pos e2, er, Bool.false_eq_true, if_false, less_is, Option.bind_some, gl]
    refine ev_succ ?_
    simp only [catenaryref07_With.j1, Bool.false_eq_true, if_false]
    refine ev_succ ?_
    simp only [catenaryref07_With.j2, same_is, Option.bind_some, gd, if_true, if_pos e3, ew]
    have s2 := rwith_skip n v true D (A ++ [e]) [] (A ++ [⟨e.f0, v⟩]) (by simp only [List.length_append] at hl ⊢; simp at hl ⊢; omega) (by simp) hD
    have eL : (A ++ [e]) ++ (D ++ []) = A ++ ((some e).toList ++ D) := by simp
    have hlA : (A ++ [e]).length = A.length + 1 := by simp
    rw [eL, hlA] at s2
    refine s2 _ ?_
    have := stop (A ++ ((some e).toList ++ D)) ((A ++ [⟨e.f0, v⟩]) ++ D) (A.length + 1 + D.length) (by simp; omega)
    rw [List.append_assoc, List.singleton_append] at this ⊢
    exact this
  | none =>
    have e2 : (0 : Int) ≤ (A.length : Int) := by omega
    have e3 : A.length < 2932031007402 := by simp only [List.length_append] at hl; omega
    cases D with
    | nil =>
      have e1 : ¬ (A.length : Int) < ((A ++ ((none : Option S37).toList ++ ([] : List S37))).length : Int) := by simp
      refine ev_succ ?_
      simp only [catenaryref07_With.l0, if_neg e1, Bool.false_eq_true, if_false, if_pos e3]
      exact Ev.now _
    | cons d ds =>
      have hdd := hd.2.2 d (by simp)
      have e1 : (A.length : Int) < ((A ++ ((none : Option S37).toList ++ d :: ds)).length : Int) := by simp; omega
      have er : rd_T37 (A ++ ((none : Option S37).toList ++ d :: ds)) (A.length : Int) = d := getD_in A d ds A.length rfl
      have gd : ∀ q : Decidable (cmpI d.f0 n = 0), @decide _ q = false := fun q => decide_eq_false (hD d (by simp)).1
      have gl : ∀ q : Decidable (cmpI n d.f0 < 0), @decide _ q = true := fun q => decide_eq_true hdd
      have ew : wrap64 ((A.length : Int) + 1) = ((A.length + 1 : Nat) : Int) := w64 _ (by omega)
      have e4 : (A ++ [(⟨n, v⟩ : S37)]).length < 2932031007402 := by simp only [List.length_append] at hl ⊢; simp at hl ⊢; omega
      refine ev_succ ?_
      simp only [catenaryref07_With.l0, if_pos e1, if_pos e2, er, Bool.false_eq_true, if_false, less_is, Option.bind_some, gl]
      refine ev_succ ?_
      simp only [catenaryref07_With.j1, if_true, if_pos e3]
      refine ev_succ ?_
      simp only [catenaryref07_With.j2, same_is, Option.bind_some, gd, Bool.false_eq_true, if_false, if_pos e4, ew]
      have s2 := rwith_skip n v true ds (A ++ [d]) [] ((A ++ [(⟨n, v⟩ : S37)]) ++ [d]) (by simp only [List.length_append] at hl ⊢; simp at hl ⊢; omega) (by simp) (fun x hx => hD x (by simp [hx]))
      have eL : (A ++ [d]) ++ (ds ++ []) = A ++ ((none : Option S37).toList ++ d :: ds) := by simp
      have hlA : (A ++ [d]).length = A.length + 1 := by simp
      rw [eL, hlA] at s2
      have eD : (⟨d.f0, d.f1⟩ : S37) = d := rfl
      rw [eD]
      refine s2 _ ?_
      have := stop (A ++ ((none : Option S37).toList ++ d :: ds)) (((A ++ [(⟨n, v⟩ : S37)]) ++ [d]) ++ ds) (A.length + 1 + ds.length) (by simp; omega)
      rw [show ((A ++ [(⟨n, v⟩ : S37)]) ++ [d]) ++ ds = A ++ (⟨n, v⟩ :: d :: ds) by simp] at this ⊢
      exact this
def kres (A D : List S37) (P : Option S37) (kd : Int) (n v w : List Int) (num : Int) : List S37 × Int × List Int :=
  if okOp kd n v w num ∧ P = none ∧ kd = 2 ∧ (A ++ (P.toList ++ D)).length = 64 then (A ++ (P.toList ++ D), 3, []) else (A ++ ((pstep kd n v w num P).1.toList ++ D), (pstep kd n v w num P).2)
theorem kres_some {A D : List S37} {e : S37} {kd : Int} {n v w : List Int} {num : Int} : kres A D (some e) kd n v w num = (A ++ ((pstep kd n v w num (some e)).1.toList ++ D), (pstep kd n v w num (some e)).2) := by
  unfold kres; rw [if_neg (fun g => by cases g.2.1)]
theorem kres_none {A D : List S37} {kd : Int} {n v w : List Int} {num : Int} (h : kd = 2 → (A ++ ((none : Option S37).toList ++ D)).length ≠ 64) : kres A D none kd n v w num = (A ++ ((pstep kd n v w num none).1.toList ++ D), (pstep kd n v w num none).2) := by
  unfold kres; rw [if_neg (fun g => h g.2.2.1 g.2.2.2)]
theorem rdo_full (A D : List S37) (P : Option S37) (kd : Int) (n v w : List Int) (num : Int) (hd : Dec A P D n) (hR : RightL (A ++ (P.toList ++ D))) :
    Ev (fun k => catenaryref07_Do.f k (A ++ (P.toList ++ D)) kd n v w num) (kres A D P kd n v w num) := by
  have h64 := hR.2.2
  have bad : ¬ okOp kd n v w num → Ev (fun k => catenaryref07_Do.j0 k (A ++ (P.toList ++ D)) true kd n v w num) (kres A D P kd n v w num) := by
    intro hok
    rw [show kres A D P kd n v w num = (A ++ (P.toList ++ D), 5, []) by unfold kres; rw [if_neg (fun g => hok g.1), show pstep kd n v w num P = (P, 5, []) by unfold pstep; rw [if_neg hok]]]
    refine ev_succ ?_
    simp only [catenaryref07_Do.j0, if_true]
    exact Ev.now _
  simp only [catenaryref07_Do.f]
  rcases rRight_ev (A ++ (P.toList ++ D)) (by omega) with ⟨h1, _⟩ | ⟨_, h2⟩
  · refine Ev.bind h1 ?_
    simp only [if_true]
    refine Ev.bind (ref_right kd n v w num) ?_
    cases hr : rightB kd n v w num with
    | false =>
      simp only [Bool.false_eq_true, if_false]
      exact bad (fun g => by rw [g.1] at hr; cases hr)
    | true =>
      simp only [if_true]
      by_cases c4 : kd > 4
      · simp only [decide_eq_true c4]
        exact bad (fun g => by have := g.2; omega)
      · have hok : okOp kd n v w num := ⟨hr, by omega⟩
        obtain ⟨b1, b2, b3, b4, b5, b6, b7⟩ := right_bounds hr
        simp only [decide_eq_false c4]
        refine ev_succ ?_
        simp only [catenaryref07_Do.j0, Bool.false_eq_true, if_false]
        refine Ev.bind (rfind A D P n hd (by omega)) ?_
        cases P with
        | none =>
          simp only [Option.isSome_none, Bool.false_eq_true, if_false, show ((-1 : Int) < 0) by decide, if_true]
          by_cases c2 : kd = 2
          · subst c2
            have e2 : ((2 : Int) != 2) = false := rfl
            simp only [e2]
            refine ev_succ ?_
            simp only [catenaryref07_Do.j1, Bool.false_eq_true, if_false, show ¬ ((2 : Int) = 1) by decide, if_true, show ((-1 : Int) < 0) by decide]
            refine ev_succ ?_
            by_cases cf : (A ++ ((none : Option S37).toList ++ D)).length = 64
            · rw [show kres A D none 2 n v w num = (A ++ ((none : Option S37).toList ++ D), 3, []) by unfold kres; rw [if_pos ⟨hok, rfl, rfl, cf⟩]]
              have e : (((A ++ ((none : Option S37).toList ++ D)).length : Int) == 64) = true := by rw [cf]; rfl
              simp only [catenaryref07_Do.j2, e, if_true]
              exact Ev.now _
            · rw [kres_none (fun _ => cf), pstep_none hok, if_pos rfl]
              have e : (((A ++ ((none : Option S37).toList ++ D)).length : Int) == 64) = false := by rw [beq_eq_false_iff_ne]; omega
              simp only [catenaryref07_Do.j2, e, Bool.false_eq_true, if_false]
              refine Ev.bind (rwith A D none n v hd (by omega)) ?_
              exact Ev.now _
          · rw [kres_none (fun g => absurd g c2), pstep_none hok, if_neg c2]
            have e2 : (kd != 2) = true := by simpa using c2
            simp only [e2]
            refine ev_succ ?_
            simp only [catenaryref07_Do.j1, if_true]
            exact Ev.now _
        | some e =>
          rw [kres_some, pstep_some hok]
          have a0 : ¬ (A.length : Int) < 0 := by omega
          have a1 : (0 : Int) ≤ (A.length : Int) := by omega
          have a2 : (A.length : Int) < ((A ++ ((some e).toList ++ D)).length : Int) := by simp; omega
          have a2' : (A.length : Int) ≤ ((A ++ ((some e).toList ++ D)).length : Int) := by omega
          have er : rd_T37 (A ++ ((some e).toList ++ D)) (A.length : Int) = e := getD_in A e D A.length rfl
          simp only [Option.isSome_some, if_true, if_neg a0]
          refine ev_succ ?_
          have hk : kd = 1 ∨ kd = 2 ∨ kd = 3 ∨ kd = 4 := by omega
          rcases hk with rfl | rfl | rfl | rfl
          · simp only [catenaryref07_Do.j1, Bool.false_eq_true, if_false, if_true, if_pos a1, if_pos a2, er]
            exact Ev.now _
          · simp only [catenaryref07_Do.j1, Bool.false_eq_true, if_false, if_true, if_neg a0, show ¬ ((2 : Int) = 1) by decide]
            refine ev_succ ?_
            simp only [catenaryref07_Do.j2, Bool.false_eq_true, if_false]
            refine Ev.bind (rwith A D (some e) n v hd (by omega)) ?_
            exact Ev.now _
          · have hl9 : (A ++ ((some e).toList ++ D)).length < 1000000000 := by omega
            have step : ∀ k, catenaryref07_Do.j1 (k + 1) (A ++ ((some e).toList ++ D)) (A.length : Int) false 3 n v w num = ((catenaryref01_Same.f e.f1 v).bind fun t267 => (if t267 = true then ((catenaryref07_With.f k (A ++ ((some e).toList ++ D)) n w).bind fun t269 => (some (t269, 0, ([] : List Int)))) else (some ((A ++ ((some e).toList ++ D)), 2, e.f1)))) := by
              intro k
              rw [catenaryref07_Do.j1, if_neg (by decide), if_neg (by decide), if_neg (by decide), if_pos rfl, if_pos a1, if_pos a2, er]
            simp only [step]
            by_cases he : cmpI e.f1 v = 0
            · rw [if_neg (show ¬ ((3 : Int) = 1) by decide), if_neg (show ¬ ((3 : Int) = 2) by decide), if_pos trivial, if_pos he]
              refine Ev.bind (a := true) ⟨0, fun _ _ => by rw [same_is, decide_eq_true he]⟩ ?_
              simp only [if_true]
              refine Ev.bind (rwith A D (some e) n w hd hl9) ?_
              exact Ev.now _
            · rw [if_neg (show ¬ ((3 : Int) = 1) by decide), if_neg (show ¬ ((3 : Int) = 2) by decide), if_pos trivial, if_neg he]
              refine Ev.bind (a := false) ⟨0, fun _ _ => by rw [same_is, decide_eq_false he]⟩ ?_
              simp only [Bool.false_eq_true, if_false]
              exact Ev.now _
          · have t1 : (A ++ ((some e).toList ++ D)).take A.length = A := takeM A _
            have t2 : (A ++ ((some e).toList ++ D)).drop (A.length + 1) = D := dropM A D e
            have ew : wrap64 ((A.length : Int) + 1) = ((A.length + 1 : Nat) : Int) := w64 _ (by simp only [List.length_append] at h64; omega)
            have a3 : (0 : Int) ≤ ((A.length + 1 : Nat) : Int) := by omega
            have a4 : ((A.length + 1 : Nat) : Int) ≤ ((A ++ ((some e).toList ++ D)).length : Int) := by simp; omega
            have a5 : ([] : List S37).length + A.length < 2932031007402 := by simp only [List.length_append] at h64; rw [List.length_nil]; omega
            have a6 : A.length + D.length < 2932031007402 := by simp only [List.length_append] at h64; omega
            simp only [catenaryref07_Do.j1, Bool.false_eq_true, if_false, show ¬ ((4 : Int) = 1) by decide, show ¬ ((4 : Int) = 2) by decide, show ¬ ((4 : Int) = 3) by decide, Option.bind_some, if_pos a1, if_pos a2', Int.toNat_natCast, t1, if_pos a5, List.nil_append, ew, if_pos a3, if_pos a4, t2, if_pos a6]
            exact Ev.now _
  · exact absurd hR h2
theorem rdo_bad (l : List S37) (hx : l.length < 1000000000000000) (hR : ¬ RightL l) (kd : Int) (n v w : List Int) (num : Int) : Ev (fun k => catenaryref07_Do.f k l kd n v w num) (l, 5, []) := by
  simp only [catenaryref07_Do.f]
  rcases rRight_ev l hx with ⟨_, h2⟩ | ⟨h1, _⟩
  · exact absurd h2 hR
  · refine Ev.bind h1 ?_
    simp only [Bool.false_eq_true, if_false]
    refine ev_succ ?_
    simp only [catenaryref07_Do.j0, if_true]
    exact Ev.now _
/-- The program's and the document's operation come to the same. -/
theorem do_same (l : List S37) (hx : l.length < 2932031007402) (hn : ∀ x ∈ l, x.f0.length < 140737488355328 ∧ x.f1.length < 140737488355328) (kd : Int) (n v w : List Int) (num : Int) : ∃ r, Ev (fun k => kv_Do.f k l kd n v w num) r ∧ Ev (fun k => catenaryref07_Do.f k l kd n v w num) r := by
  by_cases hR : RightL l
  · obtain ⟨A, P, D, rfl, hd⟩ := split_at l hR.2.1 (by have := hR.2.2; omega) n
    exact ⟨_, step_full A D P kd n v w num hd hR, rdo_full A D P kd n v w num hd hR⟩
  · exact ⟨_, kdo_any l hx hn kd n v w num _ (fun q => absurd q.1 hR) (fun _ => rfl), rdo_bad l (by omega) hR kd n v w num⟩
theorem same_l0 (l : List S37) (hx : l.length < 1000000000000000) : ∀ (d i : Nat), d + i = l.length → Ev (fun k => catenaryref07_Same.l0 k l l (l.length : Int) (i : Int)) true
  | 0, i, hd => by
    have e1 : ¬ (i : Int) < (l.length : Int) := by omega
    refine ev_succ ?_
    simp only [catenaryref07_Same.l0, if_neg e1]
    exact Ev.now _
  | d + 1, i, hd => by
    have hi : i < l.length := by omega
    have e1 : (i : Int) < (l.length : Int) := by omega
    have e2 : (0 : Int) ≤ (i : Int) := by omega
    have ew : wrap64 ((i : Int) + 1) = ((i + 1 : Nat) : Int) := w64 i (by omega)
    have es : ∀ a : List Int, catenaryref01_Same.f a a = some true := fun a => by
      show some (eqB a a) = _
      rw [(eqB_iff _ _).2 (cmpI_self a)]
    have ih := same_l0 l hx d (i + 1) (by omega)
    refine ev_succ ?_
    simp only [catenaryref07_Same.l0, if_pos e1, if_pos e2, rdT l i hi, es, Option.bind_some, if_true, Bool.not_true]
    refine ev_succ ?_
    simp only [catenaryref07_Same.j1, Bool.false_eq_true, if_false, ew]
    exact ih
theorem same_ev (l : List S37) (hx : l.length < 1000000000000000) : Ev (fun k => catenaryref07_Same.f k l l) true := by
  simp only [catenaryref07_Same.f, if_true]
  exact same_l0 l hx l.length 0 (by omega)
theorem sameres (c : Int) (v : List Int) : catenaryref07_SameResult.f c v c v = some true := by
  unfold catenaryref07_SameResult.f
  rw [if_pos rfl]
  show (some (eqB v v)).bind _ = _
  rw [(eqB_iff _ _).2 (cmpI_self v)]
  rfl
theorem same_self (a : List Int) : catenaryref01_Same.f a a = some true := by
  unfold catenaryref01_Same.f
  rw [beq_self_eq_true]
theorem sameop_self (kd : Int) (n v w : List Int) (num : Int) : catenaryref07_SameOp.f kd n v w num kd n v w num = some true := by
  unfold catenaryref07_SameOp.f
  rw [if_pos rfl, if_pos rfl]
  simp only [same_self, Option.bind_some, if_true]
theorem pstep_len (kd : Int) (n v w : List Int) (num : Int) (P : Option S37) (h : ∀ e, P = some e → e.f1.length ≤ 64) : (pstep kd n v w num P).2.2.length ≤ 64 ∧ (pstep kd n v w num P).1.toList.length ≤ 1 := by
  refine ⟨?_, opt_len _⟩
  unfold pstep
  split
  · cases P with
    | none => dsimp only; split <;> simp
    | some e =>
      have := h e rfl
      dsimp only
      repeat' split
      all_goals first | exact this | simp
  · simp
theorem do_same2 (l : List S37) (hx : l.length < 2932031007402) (hn : ∀ x ∈ l, x.f0.length < 140737488355328 ∧ x.f1.length < 140737488355328) (kd : Int) (n v w : List Int) (num : Int) : ∃ out c x, Ev (fun k => kv_Do.f k l kd n v w num) (out, c, x) ∧ Ev (fun k => catenaryref07_Do.f k l kd n v w num) (out, c, x) ∧ out.length < 1000000000000000 ∧ x.length ≤ 64 := by
  by_cases hR : RightL l
  · obtain ⟨A, P, D, rfl, hd⟩ := split_at l hR.2.1 (by have := hR.2.2; omega) n
    have h64 := hR.2.2
    have hP : ∀ e, P = some e → e.f1.length ≤ 64 := by
      intro e he
      subst he
      exact (hR.1 e (by simp)).2
    have hl := pstep_len kd n v w num P hP
    have hk : (kres A D P kd n v w num).1.length < 1000000000000000 ∧ (kres A D P kd n v w num).2.2.length ≤ 64 := by
      unfold kres
      split
      · exact ⟨by dsimp only; omega, by simp⟩
      · refine ⟨?_, hl.1⟩
        dsimp only
        rw [List.length_append, List.length_append] at h64 ⊢
        omega
    exact ⟨(kres A D P kd n v w num).1, (kres A D P kd n v w num).2.1, (kres A D P kd n v w num).2.2, step_full A D P kd n v w num hd hR, rdo_full A D P kd n v w num hd hR, hk.1, hk.2⟩
  · exact ⟨l, 5, [], kdo_any l hx hn kd n v w num _ (fun q => absurd q.1 hR) (fun _ => rfl), rdo_bad l (by omega) hR kd n v w num, by omega, by simp⟩
theorem kd_l1 (l : List S37) (hx : l.length < 1000000000000000) (kd : Int) (n v w : List Int) (num c : Int) : ∀ (d i : Nat) (x : List Int), d + i = x.length → x.length ≤ 64 → Ev (fun k => catenarylaw07_KvDoes.l1 k l l (x.length : Int) (i : Int) kd n v w num kd n v w num c x) true
  | 0, i, x, hd, h64 => by
    have e1 : ¬ (i : Int) < (x.length : Int) := by omega
    refine ev_succ ?_
    simp only [catenarylaw07_KvDoes.l1, if_neg e1]
    refine Ev.bind (same_ev l hx) ?_
    simp only [if_true, sameop_self, Option.bind_some]
    exact Ev.now _
  | d + 1, i, x, hd, h64 => by
    have e1 : (i : Int) < (x.length : Int) := by omega
    have e2 : (0 : Int) ≤ (i : Int) := by omega
    have ew : wrap64 ((i : Int) + 1) = ((i + 1 : Nat) : Int) := w64 i (by omega)
    have ih := kd_l1 l hx kd n v w num c d (i + 1) (x.set (i : Int).toNat (Go.bits .xor .u8 (rd x (i : Int)) 255)) (by rw [List.length_set]; omega) (by rw [List.length_set]; exact h64)
    rw [List.length_set] at ih
    refine ev_succ ?_
    simp only [catenarylaw07_KvDoes.l1, if_pos e1, if_pos e2, ew]
    exact ih
theorem kd_l0 (l : List S37) (hx : l.length < 1000000000000000) (out : List S37) (ho : out.length < 1000000000000000) (kd : Int) (n v w : List Int) (num c : Int) (x : List Int) (h64 : x.length ≤ 64) : ∀ (d i : Nat), d + i = out.length → Ev (fun k => catenarylaw07_KvDoes.l0 k l l out (out.length : Int) (i : Int) kd n v w num kd n v w num c x) true
  | 0, i, hd => by
    have e1 : ¬ (i : Int) < (out.length : Int) := by omega
    refine ev_succ ?_
    simp only [catenarylaw07_KvDoes.l0, if_neg e1]
    exact kd_l1 l hx kd n v w num c x.length 0 x (by omega) h64
  | d + 1, i, hd => by
    have e1 : (i : Int) < (out.length : Int) := by omega
    have e2 : (0 : Int) ≤ (i : Int) := by omega
    have ew : wrap64 ((i : Int) + 1) = ((i + 1 : Nat) : Int) := w64 i (by omega)
    refine ev_succ ?_
    simp only [catenarylaw07_KvDoes.l0, if_pos e1, if_pos e2, ew]
    exact kd_l0 l hx out ho kd n v w num c x h64 d (i + 1) (by omega)
theorem KvDoes : catenarylaw07_KvDoes.Pure := by
  intro l kd n v w num gl _ g1 g2 g3 _
  apply ev_rounds
  have hx : l.length < 2932031007402 := by have := gl.2.1; omega
  have hn : ∀ x ∈ l, x.f0.length < 140737488355328 ∧ x.f1.length < 140737488355328 := fun x hx => ⟨by have := (gl.2.2 x hx).1.2.1; omega, by have := (gl.2.2 x hx).2.2.1; omega⟩
  have ca := copyop kd n v w num (by have := g1.2.1; omega) (by have := g2.2.1; omega) (by have := g3.2.1; omega)
  obtain ⟨out, c, x, h1, h2, ho, h64⟩ := do_same2 l hx hn kd n v w num
  simp only [catenarylaw07_KvDoes.f]
  refine Ev.bind kalive ?_
  simp only [if_true]
  refine Ev.bind (kcopy_ev l hx hn) ?_
  simp only [ca, Option.bind_some]
  refine Ev.bind h1 ?_
  refine Ev.bind h2 ?_
  have last : Ev (fun k => (catenaryref07_Same.f k out out).bind fun t340 => (if t340 = true then ((catenaryref07_SameResult.f c x c x).bind fun t341 => (catenarylaw07_KvDoes.j0 k l l out (!t341) kd n v w num kd n v w num c x)) else (catenarylaw07_KvDoes.j0 k l l out true kd n v w num kd n v w num c x))) true := by
    refine Ev.bind (same_ev out ho) ?_
    simp only [if_true, sameres, Option.bind_some, Bool.not_true]
    refine ev_succ ?_
    simp only [catenarylaw07_KvDoes.j0, Bool.false_eq_true, if_false]
    exact kd_l0 l (by omega) out ho kd n v w num c x h64 out.length 0 (by omega)
  rcases Right_ev l (by omega) with ⟨r1, q1⟩ | ⟨r1, q1⟩
  · rcases rRight_ev l (by omega) with ⟨r2, q2⟩ | ⟨r2, q2⟩
    · refine Ev.bind r1 ?_
      refine Ev.bind r2 ?_
      simp only [bne_self_eq_false, Bool.false_eq_true, if_false]
      exact last
    · exact absurd q1 q2
  · rcases rRight_ev l (by omega) with ⟨r2, q2⟩ | ⟨r2, q2⟩
    · exact absurd q2 q1
    · refine Ev.bind r1 ?_
      refine Ev.bind r2 ?_
      simp only [bne_self_eq_false, Bool.false_eq_true, if_false]
      exact last
end Go.Proofs.Ytlafaiacbebfnaa.Pure
