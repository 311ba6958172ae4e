/- The pure statement. -/
import Derived.Test.YtlnfiknllnonhaaPVoteUnlikex5
import Derived.KernelRfl
import Derived.Lib.Bytes
namespace Go.Proofs.Ytlnfiknllnonhaa.Pure
open Go Go.RowKit Go.Proofs.Ytlnfiknllnonhaa.PVoteUnlike Go.Proofs.YtlnfiknllnonhaaW.PrintWords Go.Proofs.YtlnfiknllnonhaaW.PrintLast Go.Proofs.YtlnfiknllnonhaaW.PrintMore
set_option linter.unusedVariables false
set_option linter.unusedSimpArgs false
theorem w64 (i : Nat) (h : i < 1000000000000000000) : wrap64 ((i : Int) + 1) = ((i + 1 : Nat) : Int) := by unfold wrap64; omega
theorem ev_succ {α : Type} {g : Nat → Option α} {r : α} (h : Ev (fun k => g (k + 1)) r) : Ev g r := Ev.step (fun _ => rfl) h
theorem rdL (xs : List (List Int)) (i : Nat) (h : i < xs.length) : rd_L2 xs (i : Int) = xs[i] := by
  unfold rd_L2
  rw [Int.toNat_natCast, List.getD_eq_getElem?_getD, List.getElem?_eq_getElem h]; rfl
def enc : Nat → Int → List Int
  | 0, x => [x % 256]
  | n + 1, x => if x ≥ 128 then Go.bits .or .u8 (x % 256) 128 :: enc n (x / 128) else [x % 256]
theorem enc_pos (n : Nat) (x : Int) (h : x ≥ 128) : enc (n + 1) x = [Go.bits .or .u8 (x % 256) 128] ++ enc n (x / 128) := by
  show (if x ≥ 128 then Go.bits .or .u8 (x % 256) 128 :: enc n (x / 128) else [x % 256]) = _
  rw [if_pos h]; rfl
theorem enc_len : ∀ n x, (enc n x).length ≤ n + 1
  | 0, _ => Nat.le_refl _
  | n + 1, x => by
    unfold enc
    split
    · have := enc_len n (x / 128); rw [List.length_cons]; omega
    · simp
theorem int_l0 : ∀ (n : Nat) (x : Int) (acc : List Int), 0 ≤ x → x < 128 ^ (n + 1) → acc.length + n < 1000 → Ev (fun k => octet_Int.l0 k x acc) (acc ++ enc n x, 0)
  | 0, x, acc, h0, h1, h2 => by
    apply ev_succ
    have e1 : ¬ x ≥ 128 := by omega
    have e2 : acc.length < 140737488355328 := by omega
    simp only [octet_Int.l0, if_neg e1, if_pos e2]
    exact Ev.now _
  | n + 1, x, acc, h0, h1, h2 => by
    apply ev_succ
    have e2 : acc.length < 140737488355328 := by omega
    by_cases e1 : x ≥ 128
    · simp only [octet_Int.l0, if_pos e1, if_pos e2]
      have := int_l0 n (x / 128) (acc ++ [Go.bits .or .u8 (x % 256) 128]) (by omega) (by
        have e : (128 : Int) ^ (n + 1 + 1) = 128 ^ (n + 1) * 128 := Int.pow_succ _ _
        rw [e] at h1
        exact Int.ediv_lt_of_lt_mul (by decide) h1) (by simp; omega)
      rw [List.append_assoc] at this
      rw [enc_pos n x e1]
      exact this
    · simp only [octet_Int.l0, if_neg e1, if_pos e2]
      rw [show enc (n + 1) x = [x % 256] by unfold enc; rw [if_neg e1]]
      exact Ev.now _
theorem int_ev (x : Int) (h0 : 0 ≤ x) (h1 : x ≤ 2147483647) : Ev (fun k => octet_Int.f k x) (enc 4 x, 0) := by
  have e1 : ¬ x < 0 := by omega
  have e2 : decide (x > 2147483647) = false := decide_eq_false (by omega)
  simp only [octet_Int.f, if_neg e1, e2]
  apply ev_succ
  simp only [octet_Int.j0, Bool.false_eq_true, if_false]
  exact int_l0 4 x [] h0 (by omega) (by decide)
theorem cat_l1 (xs : List (List Int)) (hx : xs.length < 1000) : ∀ (d i : Nat) (acc : List Int), d + i = xs.length → acc.length + (xs.drop i).flatten.length < 140737488355328 →
    Ev (fun k => slices_Concat_byte_byte.l1 k acc xs (xs.length : Int) (i : Int)) (acc ++ (xs.drop i).flatten)
  | 0, i, acc, hd, hl => by
    apply ev_succ
    have e1 : ¬ (i : Int) < (xs.length : Int) := by omega
    simp only [slices_Concat_byte_byte.l1, if_neg e1]
    rw [List.drop_eq_nil_of_le (by omega)]
    rw [List.flatten_nil, List.append_nil]
    exact Ev.now _
  | d + 1, i, acc, hd, hl => by
    apply ev_succ
    have hi : i < xs.length := by omega
    have e1 : (i : Int) < (xs.length : Int) := by omega
    have e2 : (0 : Int) ≤ (i : Int) := by omega
    rw [List.drop_eq_getElem_cons hi, List.flatten_cons] at hl ⊢
    rw [List.length_append] at hl
    have e3 : acc.length + (xs[i]).length < 140737488355328 := by omega
    simp only [slices_Concat_byte_byte.l1, if_pos e1, if_pos e2, rdL xs i hi, if_pos e3, w64 i (by omega)]
    have := cat_l1 xs hx d (i + 1) (acc ++ xs[i]) (by omega) (by rw [List.length_append]; omega)
    rw [List.append_assoc] at this
    exact this
theorem cat_l0 (xs : List (List Int)) (hx : xs.length < 1000) (r : List Int) (h : ∀ s : Nat, s < 140737488355328 → Ev (fun k => (slices_Grow_byte_byte.f () (s : Int)).bind fun t117 => (slices_Concat_byte_byte.l1 k t117 xs (xs.length : Int) 0)) r) :
    ∀ (d i s : Nat), d + i = xs.length → s + (xs.drop i).flatten.length < 140737488355328 →
    Ev (fun k => slices_Concat_byte_byte.l0 k xs (s : Int) xs (xs.length : Int) (i : Int)) r
  | 0, i, s, hd, hl => by
    apply ev_succ
    have e1 : ¬ (i : Int) < (xs.length : Int) := by omega
    simp only [slices_Concat_byte_byte.l0, if_neg e1]
    exact h s (by omega)
  | d + 1, i, s, hd, hl => by
    apply ev_succ
    have hi : i < xs.length := by omega
    have e1 : (i : Int) < (xs.length : Int) := by omega
    have e2 : (0 : Int) ≤ (i : Int) := by omega
    rw [List.drop_eq_getElem_cons hi, List.flatten_cons, List.length_append] at hl
    have e3 : wrap64 ((s : Int) + ((xs[i]).length : Int)) = ((s + (xs[i]).length : Nat) : Int) := by unfold wrap64; omega
    have e4 : ¬ ((s + (xs[i]).length : Nat) : Int) < 0 := by omega
    simp only [slices_Concat_byte_byte.l0, if_pos e1, if_pos e2, rdL xs i hi, e3, if_neg e4, w64 i (by omega)]
    exact cat_l0 xs hx r h d (i + 1) (s + (xs[i]).length) (by omega) (by omega)
theorem cat_ev (xs : List (List Int)) (hx : xs.length < 1000) (hl : xs.flatten.length < 140737488355328) : Ev (fun k => slices_Concat_byte_byte.f k xs) xs.flatten := by
  simp only [slices_Concat_byte_byte.f]
  refine cat_l0 xs hx _ (fun s hs => ?_) xs.length 0 0 (by omega) (by simpa using hl)
  have e1 : (0 : Int) ≤ (s : Int) := by omega
  have e2 : ((s : Int)).toNat < 140737488355328 := by omega
  simp only [slices_Grow_byte_byte.f, if_pos e1, if_pos e2, Option.bind_some]
  exact cat_l1 xs hx xs.length 0 [] (by omega) (by simpa using hl)
theorem or128 (y : Int) (h0 : 0 ≤ y) : Go.bits .or .u8 (y % 256) 128 = y % 128 + 128 := by
  have key : ∀ n : Fin 256, Go.bits .or .u8 ((n.val : Nat) : Int) 128 = ((n.val : Nat) : Int) % 128 + 128 := by decide +kernel
  have h := key ⟨(y % 256).toNat, by omega⟩
  have e : (((y % 256).toNat : Nat) : Int) = y % 256 := by omega
  rw [show ((⟨(y % 256).toNat, by omega⟩ : Fin 256).val) = (y % 256).toNat from rfl, e] at h
  rw [h]; omega
def encX (x : Int) : List Int := if 0 ≤ x ∧ x ≤ 2147483647 then enc 4 x else []
theorem encX_len (x : Int) : (encX x).length ≤ 5 := by
  unfold encX; split
  · exact enc_len 4 x
  · simp
theorem int_evX (x : Int) : Ev (fun k => octet_Int.f k x) (encX x, if 0 ≤ x ∧ x ≤ 2147483647 then 0 else 14) := by
  by_cases h : 0 ≤ x ∧ x ≤ 2147483647
  · rw [show encX x = enc 4 x by unfold encX; rw [if_pos h], if_pos h]
    exact int_ev x h.1 h.2
  · rw [show encX x = [] by unfold encX; rw [if_neg h], if_neg h]
    by_cases e1 : x < 0
    · simp only [octet_Int.f, if_pos e1]
      apply ev_succ
      simp only [octet_Int.j0, if_true]
      exact Ev.now _
    · have e2 : decide (x > 2147483647) = true := decide_eq_true (by omega)
      simp only [octet_Int.f, if_neg e1, e2]
      apply ev_succ
      simp only [octet_Int.j0, if_true]
      exact Ev.now _
def bytesX (l : List Int) : List Int := encX (l.length : Int) ++ l
def packX (xs : List (List Int)) : List Int := (xs.map bytesX).flatten
theorem packX_cons (x : List Int) (xs : List (List Int)) : packX (x :: xs) = bytesX x ++ packX xs := by unfold packX; rw [List.map_cons, List.flatten_cons]
theorem packX_app (xs ys : List (List Int)) : packX (xs ++ ys) = packX xs ++ packX ys := by unfold packX; rw [List.map_append, List.flatten_append]
theorem bytes_evX (l : List Int) (h : (bytesX l).length < 140737488355328) : Ev (fun k => octet_Bytes.f k l) (bytesX l) := by
  simp only [octet_Bytes.f]
  refine Ev.bind (int_evX (l.length : Int)) ?_
  have e : [encX (l.length : Int), l].flatten = bytesX l := by simp [bytesX]
  refine Ev.bind (cat_ev [encX (l.length : Int), l] (by simp) (by rw [e]; exact h)) ?_
  rw [e]
  exact Ev.now _
theorem pack_l0X (xs : List (List Int)) (hx : xs.length < 1000) : ∀ (d i : Nat) (acc : List Int), d + i = xs.length → acc.length + (packX (xs.drop i)).length < 140737488355328 →
    Ev (fun k => octet_Pack.l0 k acc xs (xs.length : Int) (i : Int)) (acc ++ packX (xs.drop i))
  | 0, i, acc, hd, hl => by
    apply ev_succ
    have e1 : ¬ (i : Int) < (xs.length : Int) := by omega
    simp only [octet_Pack.l0, if_neg e1]
    rw [List.drop_eq_nil_of_le (by omega)]
    rw [show packX [] = [] from rfl, List.append_nil]
    exact Ev.now _
  | d + 1, i, acc, hd, hl => by
    apply ev_succ
    have hi : i < xs.length := by omega
    have e1 : (i : Int) < (xs.length : Int) := by omega
    have e2 : (0 : Int) ≤ (i : Int) := by omega
    rw [List.drop_eq_getElem_cons hi, packX_cons] at hl ⊢
    rw [List.length_append] at hl
    have e3 : acc.length + (bytesX xs[i]).length < 140737488355328 := by omega
    simp only [octet_Pack.l0, if_pos e1, if_pos e2, rdL xs i hi]
    refine Ev.bind (bytes_evX xs[i] (by omega)) ?_
    simp only [if_pos e3, w64 i (by omega)]
    have := pack_l0X xs hx d (i + 1) (acc ++ bytesX xs[i]) (by omega) (by rw [List.length_append]; omega)
    rw [List.append_assoc] at this
    exact this
theorem pack_evX (xs : List (List Int)) (hx : xs.length < 1000) (h : (packX xs).length < 140737488355328) : Ev (fun k => octet_Pack.f k xs) (packX xs) := by
  simp only [octet_Pack.f]
  exact pack_l0X xs hx xs.length 0 [] (by omega) (by simpa using h)
def le8 (x : Int) : List Int := [x / 2 ^ (8 * 0) % 256, x / 2 ^ (8 * 1) % 256, x / 2 ^ (8 * 2) % 256, x / 2 ^ (8 * 3) % 256, x / 2 ^ (8 * 4) % 256, x / 2 ^ (8 * 5) % 256, x / 2 ^ (8 * 6) % 256, x / 2 ^ (8 * 7) % 256]
def numsX (l : List Int) : List Int := (l.map le8).flatten
theorem le8_at (x3 : List Int) (x : Int) : x3 ++ le8 x = ((((((((x3 ++ [x / 2 ^ (8 * 0) % 256]) ++ [x / 2 ^ (8 * 1) % 256]) ++ [x / 2 ^ (8 * 2) % 256]) ++ [x / 2 ^ (8 * 3) % 256]) ++ [x / 2 ^ (8 * 4) % 256]) ++ [x / 2 ^ (8 * 5) % 256]) ++ [x / 2 ^ (8 * 6) % 256]) ++ [x / 2 ^ (8 * 7) % 256]) := by
  unfold le8
  simp only [List.append_assoc, List.cons_append, List.nil_append]
theorem nums_step (x3 : List Int) (x5 : Int) (x7 : List Int) (x8 x9 : Int) (i : Nat) (hi : i < 8) (hl : x3.length < 1000) (r : List Int)
    (h : Ev (fun k => vote_nums.l1 k (x3 ++ [x5 / 2 ^ (8 * i) % 256]) x5 x7 x8 x9 ((i + 1 : Nat) : Int)) r) : Ev (fun k => vote_nums.l1 k x3 x5 x7 x8 x9 (i : Int)) r := by
  apply ev_succ
  have e1 : (i : Int) < 8 := by omega
  have e0 : wrap64 (8 * (i : Int)) = ((8 * i : Nat) : Int) := by unfold wrap64; omega
  have e2 : (0 : Int) ≤ ((8 * i : Nat) : Int) := by omega
  have e3 : x3.length < 140737488355328 := by omega
  have e4 : shr .i64 x5 ((8 * i : Nat) : Int) = x5 / 2 ^ (8 * i) := by
    unfold shr
    rw [Int.toNat_natCast, Nat.min_eq_left (Nat.le_trans (show 8 * i ≤ 56 by omega) (by decide))]
  simp only [vote_nums.l1, e0, if_pos e1, if_pos e2, if_pos e3, e4, w64 i (by omega)]
  exact h
theorem nums_in (x3 : List Int) (x5 : Int) (x7 : List Int) (x8 x9 : Int) (hl : x3.length < 900) (r : List Int)
    (h : Ev (fun k => vote_nums.l0 k (x3 ++ le8 x5) x7 x8 (wrap64 (x9 + 1))) r) : Ev (fun k => vote_nums.l1 k x3 x5 x7 x8 x9 0) r := by
  rw [le8_at] at h
  refine nums_step _ _ _ _ _ 0 (by omega) (by omega) _ ?_
  refine nums_step _ _ _ _ _ 1 (by omega) (by simp; omega) _ ?_
  refine nums_step _ _ _ _ _ 2 (by omega) (by simp; omega) _ ?_
  refine nums_step _ _ _ _ _ 3 (by omega) (by simp; omega) _ ?_
  refine nums_step _ _ _ _ _ 4 (by omega) (by simp; omega) _ ?_
  refine nums_step _ _ _ _ _ 5 (by omega) (by simp; omega) _ ?_
  refine nums_step _ _ _ _ _ 6 (by omega) (by simp; omega) _ ?_
  refine nums_step _ _ _ _ _ 7 (by omega) (by simp; omega) _ ?_
  apply ev_succ
  have e : ¬ (((7 + 1 : Nat) : Int)) < 8 := by omega
  simp only [vote_nums.l1, if_neg e]
  exact h
theorem rd_at (xs : List Int) (i : Nat) (h : i < xs.length) : rd xs (i : Int) = xs[i] := by
  unfold rd
  rw [Int.toNat_natCast, List.getD_eq_getElem?_getD, List.getElem?_eq_getElem h]; rfl
theorem nums_l0 (xs : List Int) (hx : xs.length < 100) : ∀ (d i : Nat) (acc : List Int), d + i = xs.length → acc.length + d * 8 < 900 →
    Ev (fun k => vote_nums.l0 k acc xs (xs.length : Int) (i : Int)) (acc ++ numsX (xs.drop i))
  | 0, i, acc, hd, hl => by
    apply ev_succ
    have e1 : ¬ (i : Int) < (xs.length : Int) := by omega
    simp only [vote_nums.l0, if_neg e1]
    rw [List.drop_eq_nil_of_le (by omega), show numsX [] = [] from rfl, List.append_nil]
    exact Ev.now _
  | d + 1, i, acc, hd, hl => by
    apply ev_succ
    have hi : i < xs.length := by omega
    have e1 : (i : Int) < (xs.length : Int) := by omega
    have e2 : (0 : Int) ≤ (i : Int) := by omega
    rw [List.drop_eq_getElem_cons hi, show numsX (xs[i] :: xs.drop (i + 1)) = le8 xs[i] ++ numsX (xs.drop (i + 1)) from rfl, ← List.append_assoc]
    simp only [vote_nums.l0, if_pos e1, if_pos e2, rd_at xs i hi]
    refine nums_in acc xs[i] xs _ _ (by omega) _ ?_
    rw [w64 i (by omega)]
    exact nums_l0 xs hx d (i + 1) (acc ++ le8 xs[i]) (by omega) (by rw [List.length_append, show (le8 xs[i]).length = 8 from rfl]; omega)
theorem nums_ev (xs : List Int) (hx : xs.length < 100) : Ev (fun k => vote_nums.f k xs) (numsX xs) := by
  simp only [vote_nums.f]
  exact nums_l0 xs hx xs.length 0 [] (by omega) (by simp; omega)
def u8at (x : Int) (i : Nat) : Int := x % 2 ^ 64 / 2 ^ (8 * i)
theorem u8_facts (x : Int) (i : Nat) (hi : i < 8) : Int.tmod (u8at x i) 256 % 256 = x / 2 ^ (8 * i) % 256 ∧ IntKind.u64.wrap (Int.tdiv (u8at x i) 256) = u8at x (i + 1) := by
  have h0 : 0 ≤ u8at x i := Int.ediv_nonneg (by omega) (Int.pow_nonneg (by decide))
  have hw : ∀ y : Int, IntKind.u64.wrap y = y % 2 ^ 64 := fun _ => rfl
  rw [Int.tmod_eq_emod_of_nonneg h0, Int.tdiv_eq_ediv_of_nonneg h0, hw]
  clear h0 hw
  unfold u8at
  have : i = 0 ∨ i = 1 ∨ i = 2 ∨ i = 3 ∨ i = 4 ∨ i = 5 ∨ i = 6 ∨ i = 7 := by omega
  rcases this with rfl | rfl | rfl | rfl | rfl | rfl | rfl | rfl <;> omega
abbrev okB := Go.Proofs.Ytlnfiknllnonhaa.Sha.okB
abbrev shaR := Go.Proofs.Ytlnfiknllnonhaa.Sha.shaR
def isB (l : List Int) : Prop := ∀ b ∈ l, 0 ≤ b ∧ b < 256
theorem isB_nil : isB [] := fun _ h => by simp at h
theorem isB_app {a b : List Int} (ha : isB a) (hb : isB b) : isB (a ++ b) := fun x h => (List.mem_append.1 h).elim (ha x) (hb x)
theorem okB_of (l : List Int) (h1 : l.length < 140737488352000) (h2 : isB l) : okB l = true := by
  show Go.Proofs.Ytlnfiknllnonhaa.Sha.okB l = true
  unfold Go.Proofs.Ytlnfiknllnonhaa.Sha.okB
  rw [Bool.and_eq_true, decide_eq_true_iff, List.all_eq_true]
  exact ⟨h1, fun b hb => by have := h2 b hb; simp [this.1, this.2]⟩
theorem isB_enc : ∀ (n : Nat) (x : Int), 0 ≤ x → isB (enc n x)
  | 0, x, h => fun b hb => by
    rw [show enc 0 x = [x % 256] from rfl, List.mem_singleton] at hb
    omega
  | n + 1, x, h => fun b hb => by
    by_cases h1 : x ≥ 128
    · rw [enc_pos n x h1, or128 x h] at hb
      rcases List.mem_append.1 hb with hb | hb
      · rw [List.mem_singleton] at hb; omega
      · exact isB_enc n (x / 128) (by omega) b hb
    · rw [show enc (n + 1) x = [x % 256] by unfold enc; rw [if_neg h1], List.mem_singleton] at hb
      omega
theorem isB_encX (x : Int) : isB (encX x) := by
  unfold encX
  split
  · next h => exact isB_enc 4 x h.1
  · exact isB_nil
theorem isB_packX : ∀ (xs : List (List Int)), (∀ x ∈ xs, isB x) → isB (packX xs)
  | [], _ => isB_nil
  | x :: xs, h => by
    rw [packX_cons]
    exact isB_app (isB_app (isB_encX _) (h x (by simp))) (isB_packX xs (fun y hy => h y (by simp [hy])))
theorem isB_nums : ∀ l : List Int, isB (numsX l)
  | [] => isB_nil
  | x :: l => by
    rw [show numsX (x :: l) = le8 x ++ numsX l from rfl]
    refine isB_app (fun b hb => ?_) (isB_nums l)
    unfold le8 at hb
    simp only [List.mem_cons, List.not_mem_nil, or_false] at hb
    omega
def signP : List Int := [115, 105, 103, 110]
def goodK (key : Int) : Prop := 0 ≤ key ∧ key ≤ 127
instance (key : Int) : Decidable (goodK key) := by unfold goodK; exact inferInstance
def textX (key : Int) (dom : List Int) (parts : List (List Int)) : List Int := if goodK key then packX ([signP, encX key, dom] ++ parts) else []
def signX (key : Int) (dom : List Int) (parts : List (List Int)) : List Int := if goodK key then shaR (textX key dom parts) else []
theorem keyright (key : Int) : key_right.f key = some (decide (goodK key)) := by
  unfold key_right.f goodK
  by_cases h : key ≥ 0
  · rw [if_pos h]; congr 1; apply decide_eq_decide.2; omega
  · rw [if_neg h]; congr 1; symm; apply decide_eq_false; omega
theorem keytext_ev (key : Int) (dom : ByteArray) (parts : List (List Int)) (hp : parts.length < 900) (hd : (bytesOf dom).length < 1000) (h : (packX ([signP, encX key, bytesOf dom] ++ parts)).length < 140737488355328) :
    Ev (fun k => key_Text.f k key dom parts) (textX key (bytesOf dom) parts) := by
  simp only [key_Text.f, keyright, Option.bind_some]
  unfold textX
  by_cases hk : goodK key
  · simp only [decide_eq_true hk, if_true, if_pos hk]
    refine Ev.bind (int_evX key) ?_
    have e1 : (bytesOf dom).length ≤ 9223372036854775807 := by omega
    simp only [if_pos e1]
    rw [packX_app] at h ⊢
    rw [List.length_append] at h
    refine Ev.bind (pack_evX [signP, encX key, bytesOf dom] (by simp) (by omega)) ?_
    refine Ev.bind (pack_evX parts (by omega) (by omega)) ?_
    simp only [if_pos h]
    exact Ev.now _
  · simp only [decide_eq_false hk, Bool.false_eq_true, if_false, if_neg hk]
    exact Ev.now _
theorem sha_ev (l : List Int) (h : okB l = true) : sha_Sum.f l = some (shaR l) := by unfold sha_Sum.f; exact if_pos h
theorem textX_B (key : Int) (dom : List Int) (parts : List (List Int)) (hd : isB dom) (hp : ∀ x ∈ parts, isB x) : isB (textX key dom parts) := by
  unfold textX
  split
  · refine isB_packX _ (fun x hx => ?_)
    rcases List.mem_append.1 hx with hx | hx
    · simp only [List.mem_cons, List.not_mem_nil, or_false] at hx
      rcases hx with rfl | rfl | rfl
      · unfold signP; intro b hb; simp only [List.mem_cons, List.not_mem_nil, or_false] at hb; omega
      · exact isB_encX _
      · exact hd
    · exact hp x hx
  · exact isB_nil
theorem textX_le (key : Int) (dom : List Int) (parts : List (List Int)) : (textX key dom parts).length ≤ (packX ([signP, encX key, dom] ++ parts)).length := by
  unfold textX; split
  · exact Nat.le_refl _
  · simp
theorem keysign_ev (key : Int) (dom : ByteArray) (parts : List (List Int)) (hp : parts.length < 900) (hd : (bytesOf dom).length < 1000) (h : (packX ([signP, encX key, bytesOf dom] ++ parts)).length < 140737488352000) (hdb : isB (bytesOf dom)) (hpb : ∀ x ∈ parts, isB x) :
    Ev (fun k => key_Sign.f k key dom parts) (signX key (bytesOf dom) parts) := by
  have hok : okB (textX key (bytesOf dom) parts) = true := okB_of _ (Nat.lt_of_le_of_lt (textX_le _ _ _) h) (textX_B _ _ _ hdb hpb)
  simp only [key_Sign.f, keyright, Option.bind_some]
  unfold signX
  by_cases hk : goodK key
  · simp only [decide_eq_true hk, if_true, if_pos hk]
    refine Ev.bind (keytext_ev key dom parts hp hd (by omega)) ?_
    simp only [sha_ev _ hok, Option.bind_some]
    exact Ev.now _
  · simp only [decide_eq_false hk, Bool.false_eq_true, if_false, if_neg hk]
    exact Ev.now _
def repX (s : Int) : Int := if 0 ≤ s ∧ s ≤ 15 then s else -1
theorem rep_ev (s : Int) : Ev (fun k => key_Replica.f k s) (repX s) := by
  have go : ∀ b : Bool, b = decide (¬ (0 ≤ s ∧ s ≤ 15)) → Ev (fun k => key_Replica.j0 k s b) (repX s) := by
    intro b hb
    subst hb
    apply ev_succ
    unfold repX
    by_cases h : 0 ≤ s ∧ s ≤ 15
    · have e0 : decide (¬ (0 ≤ s ∧ s ≤ 15)) = false := decide_eq_false (fun g => g h)
      simp only [key_Replica.j0, e0, Bool.false_eq_true, if_false, if_pos h]
      exact Ev.now _
    · have e0 : decide (¬ (0 ≤ s ∧ s ≤ 15)) = true := decide_eq_true h
      simp only [key_Replica.j0, e0, if_true, if_neg h]
      exact Ev.now _
  simp only [key_Replica.f]
  by_cases h0 : s < 0
  · simp only [if_pos h0]
    exact go true (by symm; apply decide_eq_true; omega)
  · simp only [if_neg h0]
    exact go _ (by apply decide_eq_decide.2; omega)
def domV : ByteArray := ⟨#[118, 111, 116, 101]⟩
theorem domV_len : (bytesOf domV).length = 4 := rfl
theorem domV_B : isB (bytesOf domV) := by
  intro b hb
  rw [show bytesOf domV = [118, 111, 116, 101] from rfl] at hb
  simp only [List.mem_cons, List.not_mem_nil, or_false] at hb
  omega
def partsX (a v t s : Int) (body : List Int) : List (List Int) := [numsX [a, v, t, s], body]
theorem bytesX_len (l : List Int) : (bytesX l).length ≤ l.length + 5 := by
  unfold bytesX; rw [List.length_append]; have := encX_len (l.length : Int); omega
structure Fits (key : Int) (dom : ByteArray) (parts : List (List Int)) : Prop where
  hp : parts.length < 900
  hd : (bytesOf dom).length < 1000
  h : (packX ([signP, encX key, bytesOf dom] ++ parts)).length < 140737488352000
  hdb : isB (bytesOf dom)
  hpb : ∀ x ∈ parts, isB x
theorem fitsV (key a v t s : Int) (body : List Int) (hl : body.length ≤ 140737488351232) (hb : isB body) : Fits key domV (partsX a v t s body) := by
  refine ⟨by unfold partsX; simp, by rw [domV_len]; decide, ?_, domV_B, ?_⟩
  · unfold partsX
    rw [packX_app, packX_cons, packX_cons, packX_cons, packX_cons, packX_cons, show packX [] = [] from rfl]
    simp only [List.length_append, List.append_nil]
    have h1 := bytesX_len signP
    have h2 := bytesX_len (encX key)
    have h3 := bytesX_len (bytesOf domV)
    have h4 := bytesX_len (numsX [a, v, t, s])
    have h5 := bytesX_len body
    have h6 := encX_len key
    rw [show signP.length = 4 from rfl] at h1
    rw [domV_len] at h3
    rw [show (numsX [a, v, t, s]).length = 32 from rfl] at h4
    omega
  · intro x hx
    unfold partsX at hx
    simp only [List.mem_cons, List.not_mem_nil, or_false] at hx
    rcases hx with rfl | rfl
    · exact isB_nums _
    · exact hb
theorem voted_ev (a v t s : Int) (body : List Int) (sg : Int) : Ev (fun k => vote_voted.f k a v t s body sg) (repX sg, domV, partsX a v t s body) := by
  simp only [vote_voted.f]
  refine Ev.bind (rep_ev sg) ?_
  refine Ev.bind (nums_ev [a, v, t, s] (by simp)) ?_
  exact Ev.now _
def sigV (a v t s : Int) (body : List Int) (sg : Int) : List Int := signX (repX sg) (bytesOf domV) (partsX a v t s body)
def textV (a v t s : Int) (body : List Int) (sg : Int) : List Int := textX (repX sg) (bytesOf domV) (partsX a v t s body)
theorem make_ev (a v t s : Int) (body : List Int) (sg : Int) (hl : body.length ≤ 140737488351232) (hb : isB body) : Ev (fun k => vote_Make.f k a v t s body sg) (sg, sigV a v t s body sg) := by
  have F := fitsV (repX sg) a v t s body hl hb
  simp only [vote_Make.f]
  refine Ev.bind (voted_ev a v t s body sg) ?_
  simp only [vote_signed_sign.f]
  refine Ev.bind (Ev.bind (keysign_ev _ _ _ F.hp F.hd F.h F.hdb F.hpb) (Ev.now _)) ?_
  exact Ev.now _
theorem text_ev (a v t s : Int) (body : List Int) (sg : Int) (hl : body.length ≤ 140737488351232) (hb : isB body) : Ev (fun k => vote_Text.f k a v t s body sg) (textV a v t s body sg) := by
  have F := fitsV (repX sg) a v t s body hl hb
  simp only [vote_Text.f]
  refine Ev.bind (voted_ev a v t s body sg) ?_
  simp only [vote_signed_text.f]
  refine Ev.bind (Ev.bind (keytext_ev _ _ _ F.hp F.hd (by have := F.h; omega)) (Ev.now _)) ?_
  exact Ev.now _
def eqS (a b : List Int) : Bool := (strOfNums a).toList == (strOfNums b).toList
theorem eqS_self (a : List Int) : eqS a a = true := by unfold eqS; exact beq_self_eq_true _
def rightV (a v t s : Int) (body : List Int) (sg : Int) (sig : List Int) : Bool := if goodK (repX sg) then eqS sig (sigV a v t s body sg) else false
theorem right_ev (a v t s : Int) (body : List Int) (sg : Int) (sig : List Int) (hl : body.length ≤ 140737488351232) (hb : isB body) : Ev (fun k => vote_Right.f k a v t s body sg sig) (rightV a v t s body sg sig) := by
  have F := fitsV (repX sg) a v t s body hl hb
  have es : ∀ a b : List Int, bytes_Equal.f a b = some (eqS a b) := fun _ _ => rfl
  simp only [vote_Right.f]
  refine Ev.bind (voted_ev a v t s body sg) ?_
  refine Ev.bind (a := rightV a v t s body sg sig) ?_ (Ev.now _)
  simp only [vote_signed_verify.f]
  refine Ev.bind (a := rightV a v t s body sg sig) ?_ (Ev.now _)
  simp only [key_Verify.f, keyright, Option.bind_some]
  unfold rightV
  by_cases hk : goodK (repX sg)
  · simp only [decide_eq_true hk, if_true, if_pos hk]
    refine Ev.bind (keysign_ev _ _ _ F.hp F.hd F.h F.hdb F.hpb) ?_
    simp only [es, Option.bind_some]
    exact Ev.now _
  · simp only [decide_eq_false hk, Bool.false_eq_true, if_false, if_neg hk]
    exact Ev.now _
theorem isB_of (l : List Int) (h : Kd.gSl 1 (Kd.gInt .u8) l) : l.length ≤ 140737488351232 ∧ isB l := by
  refine ⟨by have := h.2.1; omega, fun b hb => ?_⟩
  have h1 := h.2.2 b hb
  unfold Kd.gInt at h1
  have h2 : (decide (IntKind.u8.min ≤ b) && decide (b ≤ IntKind.u8.max)) = true := h1
  rw [Bool.and_eq_true, decide_eq_true_iff, decide_eq_true_iff] at h2
  have e1 : IntKind.u8.min = 0 := by decide
  have e2 : IntKind.u8.max = 255 := by decide
  rw [e1, e2] at h2
  omega
theorem valive : Ev (fun k => catenarylaw06_voteAlive.f k) true := Ev.of catenarylaw06_voteAlive.mono (k := 60) (by kernel_rfl)
theorem enc_small (n : Nat) (x : Int) (h0 : 0 ≤ x) (h : x < 128) : enc n x = [x] := by
  have e : x % 256 = x := by omega
  cases n with
  | zero => show [x % 256] = _; rw [e]
  | succ n =>
    show (if x ≥ 128 then Go.bits .or .u8 (x % 256) 128 :: enc n (x / 128) else [x % 256]) = _
    rw [if_neg (by omega), e]
theorem encX_small (x : Int) (h0 : 0 ≤ x) (h : x < 128) : encX x = [x] := by
  unfold encX
  rw [if_pos ⟨h0, by omega⟩, enc_small 4 x h0 h]
theorem enc_mono : ∀ (n : Nat) (x y : Int), 0 ≤ x → x ≤ y → (enc n x).length ≤ (enc n y).length
  | 0, _, _, _, _ => Nat.le_refl _
  | n + 1, x, y, h0, h => by
    unfold enc
    by_cases h1 : x ≥ 128
    · rw [if_pos h1, if_pos (by omega), List.length_cons, List.length_cons]
      exact Nat.succ_le_succ (enc_mono n (x / 128) (y / 128) (by omega) (by omega))
    · rw [if_neg h1]
      split
      · rw [List.length_cons]; simp
      · simp
theorem bytesX_inj (p q : List Int) (hp : p.length ≤ 2147483647) (hq : q.length ≤ 2147483647) (h : bytesX p = bytesX q) : p = q := by
  have hl := congrArg List.length h
  unfold bytesX at h hl
  rw [List.length_append, List.length_append] at hl
  have e : ∀ l : List Int, l.length ≤ 2147483647 → encX (l.length : Int) = enc 4 (l.length : Int) := fun l hh => by unfold encX; rw [if_pos (by omega)]
  rw [e p hp, e q hq] at hl
  have hn : p.length = q.length := by
    rcases Nat.lt_trichotomy p.length q.length with g | g | g
    · have := enc_mono 4 (p.length : Int) (q.length : Int) (by omega) (by omega); omega
    · exact g
    · have := enc_mono 4 (q.length : Int) (p.length : Int) (by omega) (by omega); omega
  rw [hn] at h
  exact List.append_cancel_left h
theorem le8_inj (x y : Int) (hx : -9223372036854775808 ≤ x ∧ x ≤ 9223372036854775807) (hy : -9223372036854775808 ≤ y ∧ y ≤ 9223372036854775807) (h : le8 x = le8 y) : x = y := by
  unfold le8 at h
  simp only [List.cons.injEq, and_true] at h
  obtain ⟨h0, h1, h2, h3, h4, h5, h6, h7⟩ := h
  omega
def inI (x : Int) : Prop := -9223372036854775808 ≤ x ∧ x ≤ 9223372036854775807
theorem numsX4_inj (a v t s a' v' t' s' : Int) (h1 : inI a) (h2 : inI v) (h3 : inI t) (h4 : inI s) (h1' : inI a') (h2' : inI v') (h3' : inI t') (h4' : inI s') (h : numsX [a, v, t, s] = numsX [a', v', t', s']) : a = a' ∧ v = v' ∧ t = t' ∧ s = s' := by
  have e : ∀ a v t s : Int, numsX [a, v, t, s] = le8 a ++ (le8 v ++ (le8 t ++ (le8 s ++ []))) := fun _ _ _ _ => rfl
  rw [e, e] at h
  obtain ⟨g1, h⟩ := List.append_inj h rfl
  obtain ⟨g2, h⟩ := List.append_inj h rfl
  obtain ⟨g3, h⟩ := List.append_inj h rfl
  obtain ⟨g4, h⟩ := List.append_inj h rfl
  exact ⟨le8_inj _ _ h1 h1' g1, le8_inj _ _ h2 h2' g2, le8_inj _ _ h3 h3' g3, le8_inj _ _ h4 h4' g4⟩
theorem textV_in (a v t s : Int) (body : List Int) (sg : Int) (h : 0 ≤ sg ∧ sg ≤ 15) : textV a v t s body sg = [4, 115, 105, 103, 110, 1] ++ ([sg] ++ ([4, 118, 111, 116, 101] ++ ([32] ++ (numsX [a, v, t, s] ++ bytesX body)))) := by
  have e1 : repX sg = sg := by unfold repX; rw [if_pos h]
  have e2 : goodK sg := ⟨h.1, by omega⟩
  unfold textV textX partsX
  rw [e1, if_pos e2, packX_app, packX_cons, packX_cons, packX_cons, packX_cons, packX_cons, show packX [] = [] from rfl, encX_small sg h.1 (by omega)]
  have b1 : bytesX signP = [4, 115, 105, 103, 110] := by unfold bytesX; rw [show ((signP.length : Nat) : Int) = 4 from rfl, encX_small 4 (by decide) (by decide)]; rfl
  have b2 : bytesX [sg] = [1, sg] := by unfold bytesX; rw [show ((([sg] : List Int).length : Nat) : Int) = 1 from rfl, encX_small 1 (by decide) (by decide)]; rfl
  have b3 : bytesX (bytesOf domV) = [4, 118, 111, 116, 101] := by unfold bytesX; rw [show (((bytesOf domV).length : Nat) : Int) = 4 from rfl, encX_small 4 (by decide) (by decide)]; rfl
  have b4 : bytesX (numsX [a, v, t, s]) = [32] ++ numsX [a, v, t, s] := by unfold bytesX; rw [show (((numsX [a, v, t, s]).length : Nat) : Int) = 32 from rfl, encX_small 32 (by decide) (by decide)]
  rw [b1, b2, b3, b4]
  simp only [List.append_assoc, List.cons_append, List.nil_append, List.append_nil]
theorem textV_out (a v t s : Int) (body : List Int) (sg : Int) (h : ¬ (0 ≤ sg ∧ sg ≤ 15)) : textV a v t s body sg = [] := by
  have e1 : repX sg = -1 := by unfold repX; rw [if_neg h]
  have e2 : ¬ goodK (-1) := by unfold goodK; omega
  unfold textV textX
  rw [e1, if_neg e2]
theorem textV_inj (a v t s : Int) (body : List Int) (sg a' v' t' s' : Int) (body' : List Int) (sg' : Int) (h1 : inI a) (h2 : inI v) (h3 : inI t) (h4 : inI s) (h1' : inI a') (h2' : inI v') (h3' : inI t') (h4' : inI s')
    (hg : 0 ≤ sg ∧ sg ≤ 15) (hg' : 0 ≤ sg' ∧ sg' ≤ 15) (hb : body.length ≤ 2147483647) (hb' : body'.length ≤ 2147483647) (h : textV a v t s body sg = textV a' v' t' s' body' sg') : (a = a' ∧ v = v' ∧ t = t' ∧ s = s') ∧ body = body' ∧ sg = sg' := by
  rw [textV_in _ _ _ _ _ _ hg, textV_in _ _ _ _ _ _ hg'] at h
  have h := List.append_cancel_left h
  obtain ⟨g1, h⟩ := List.append_inj h rfl
  have h := List.append_cancel_left (List.append_cancel_left h)
  obtain ⟨g2, h⟩ := List.append_inj h rfl
  refine ⟨numsX4_inj _ _ _ _ _ _ _ _ h1 h2 h3 h4 h1' h2' h3' h4' g2, bytesX_inj _ _ hb hb' h, ?_⟩
  simpa using g1
theorem eqS_iff (a b : List Int) (ha : isB a) (hb : isB b) : eqS a b = true ↔ a = b := by
  constructor
  · intro h
    unfold eqS at h
    rw [Go.Lib.strOfNums_toList, Go.Lib.strOfNums_toList, beq_iff_eq] at h
    have key : ∀ (a b : List Int), isB a → isB b → Go.Lib.bytesOf a = Go.Lib.bytesOf b → a = b := by
      intro a
      induction a with
      | nil => intro b _ _ h; cases b with
        | nil => rfl
        | cons y ys => simp [Go.Lib.bytesOf] at h
      | cons x xs ih => intro b ha hb h; cases b with
        | nil => simp [Go.Lib.bytesOf] at h
        | cons y ys =>
          simp only [Go.Lib.bytesOf, List.map_cons, List.cons.injEq] at h
          have hx := ha x (by simp)
          have hy := hb y (by simp)
          have e1 := congrArg UInt8.toNat h.1
          rw [UInt8.toNat_ofNat', UInt8.toNat_ofNat'] at e1
          rw [ih ys (fun z hz => ha z (by simp [hz])) (fun z hz => hb z (by simp [hz])) (by simp only [Go.Lib.bytesOf]; exact h.2)]
          congr 1
          omega
    exact key a b ha hb h
  · intro h; rw [h]; exact eqS_self b
def PureB : Prop := ∀ (a v t s : Int) (body : List Int) (a' v' t' s' : Int) (body' : List Int) (g g' : Int), (Kd.gInt .i64) a → (Kd.gInt .i64) v → (Kd.gInt .i64) t → (Kd.gInt .i64) s → (Kd.gSl 1 (Kd.gInt .u8)) body → (Kd.gInt .i64) a' → (Kd.gInt .i64) v' → (Kd.gInt .i64) t' → (Kd.gInt .i64) s' → (Kd.gSl 1 (Kd.gInt .u8)) body' → (Kd.gInt .i64) g → (Kd.gInt .i64) g' → body.length ≤ 1048576 → body'.length ≤ 1048576 → ∃ k, catenarylaw06_VoteUnlike.f k a v t s body a' v' t' s' body' g g' = some true
theorem inI_of {x : Int} (h : (Kd.gInt .i64) x) : inI x := by
  unfold Kd.gInt at h
  have h2 : (decide (IntKind.i64.min ≤ x) && decide (x ≤ IntKind.i64.max)) = true := h
  rw [Bool.and_eq_true, decide_eq_true_iff, decide_eq_true_iff] at h2
  have e1 : IntKind.i64.min = -9223372036854775808 := by decide
  have e2 : IntKind.i64.max = 9223372036854775807 := by decide
  rw [e1, e2] at h2
  exact h2
theorem isB_textV (a v t s : Int) (body : List Int) (sg : Int) (hb : isB body) : isB (textV a v t s body sg) := by
  unfold textV partsX
  refine textX_B _ _ _ domV_B (fun x hx => ?_)
  simp only [List.mem_cons, List.not_mem_nil, or_false] at hx
  rcases hx with rfl | rfl
  · exact isB_nums _
  · exact hb
theorem VoteUnlike : PureB := by
  intro a v t s body a' v' t' s' body' g g' h1 h2 h3 h4 hbody h1' h2' h3' h4' hbody' hg hg' hs hs'
  obtain ⟨hl, hb⟩ := isB_of body hbody
  obtain ⟨hl', hb'⟩ := isB_of body' hbody'
  have es : ∀ a b : List Int, catenaryref01_Same.f a b = some (eqS a b) := fun _ _ => rfl
  have J1t : ∀ (sm : Bool), ¬ (0 ≤ g ∧ g ≤ 15 ∧ 0 ≤ g' ∧ g' ≤ 15) → Ev (fun k => catenarylaw06_VoteUnlike.j1 k (textV a v t s body g) (textV a' v' t' s' body' g') sm true g g') true := by
    intro sm _
    apply ev_succ
    simp only [catenarylaw06_VoteUnlike.j1, if_true]
    by_cases h : 0 ≤ g ∧ g ≤ 15
    · have e : ((textV a v t s body g).length : Int) > 0 := by
        rw [textV_in _ _ _ _ _ _ h, List.length_append, List.length_cons]
        omega
      rw [if_pos h.1, decide_eq_true h.2, decide_eq_true e]
      exact Ev.now _
    · have e : ¬ ((textV a v t s body g).length : Int) > 0 := by
        rw [textV_out _ _ _ _ _ _ h]; decide
      rw [decide_eq_false e]
      by_cases h0 : g ≥ 0
      · rw [if_pos h0, decide_eq_false (show ¬ g ≤ 15 by omega)]
        exact Ev.now _
      · rw [if_neg h0]
        exact Ev.now _
  have J1f : ∀ (sm : Bool), (0 ≤ g ∧ g ≤ 15 ∧ 0 ≤ g' ∧ g' ≤ 15) → sm = eqS (textV a v t s body g) (textV a' v' t' s' body' g') → Ev (fun k => catenarylaw06_VoteUnlike.j1 k (textV a v t s body g) (textV a' v' t' s' body' g') sm false g g') true := by
    intro sm _ hsm
    apply ev_succ
    simp only [catenarylaw06_VoteUnlike.j1, Bool.false_eq_true, if_false, es, Option.bind_some, hsm, beq_self_eq_true]
    exact Ev.now _
  have J0 : ∀ sm : Bool, ((0 ≤ g ∧ g ≤ 15 ∧ 0 ≤ g' ∧ g' ≤ 15) → sm = eqS (textV a v t s body g) (textV a' v' t' s' body' g')) → Ev (fun k => catenarylaw06_VoteUnlike.j0 k (textV a v t s body g) (textV a' v' t' s' body' g') sm g g') true := by
    intro sm hsm
    apply ev_succ
    by_cases c1 : g < 0
    · simp only [catenarylaw06_VoteUnlike.j0, if_pos c1]
      exact J1t sm (by omega)
    by_cases c2 : g > 15
    · simp only [catenarylaw06_VoteUnlike.j0, if_neg c1, if_pos c2]
      exact J1t sm (by omega)
    by_cases c3 : g' < 0
    · simp only [catenarylaw06_VoteUnlike.j0, if_neg c1, if_neg c2, if_pos c3]
      exact J1t sm (by omega)
    by_cases c4 : g' > 15
    · simp only [catenarylaw06_VoteUnlike.j0, if_neg c1, if_neg c2, if_neg c3, decide_eq_true c4]
      exact J1t sm (by omega)
    · simp only [catenarylaw06_VoteUnlike.j0, if_neg c1, if_neg c2, if_neg c3, decide_eq_false c4]
      exact J1f sm (by omega) (hsm (by omega))
  have tinj : (0 ≤ g ∧ g ≤ 15 ∧ 0 ≤ g' ∧ g' ≤ 15) → eqS (textV a v t s body g) (textV a' v' t' s' body' g') = true → (a = a' ∧ v = v' ∧ t = t' ∧ s = s') ∧ body = body' ∧ g = g' := by
    intro hr he
    have := (eqS_iff _ _ (isB_textV _ _ _ _ _ _ hb) (isB_textV _ _ _ _ _ _ hb')).1 he
    exact textV_inj a v t s body g a' v' t' s' body' g' (inI_of h1) (inI_of h2) (inI_of h3) (inI_of h4) (inI_of h1') (inI_of h2') (inI_of h3') (inI_of h4') ⟨hr.1, hr.2.1⟩ hr.2.2 (by omega) (by omega) this
  have tno : ¬ ((a = a' ∧ v = v' ∧ t = t' ∧ s = s') ∧ body = body' ∧ g = g') → (0 ≤ g ∧ g ≤ 15 ∧ 0 ≤ g' ∧ g' ≤ 15) → false = eqS (textV a v t s body g) (textV a' v' t' s' body' g') := by
    intro hn hr
    cases he : eqS (textV a v t s body g) (textV a' v' t' s' body' g') with
    | false => rfl
    | true => exact absurd (tinj hr he) hn
  have key : Ev (fun k => catenarylaw06_VoteUnlike.f k a v t s body a' v' t' s' body' g g') true := by
    simp only [catenarylaw06_VoteUnlike.f]
    refine Ev.bind valive ?_
    have e1 : ([] : List Int).length + body.length < 140737488355328 := by rw [List.length_nil]; omega
    have e2 : ([] : List Int).length + body'.length < 140737488355328 := by rw [List.length_nil]; omega
    simp only [if_true, Option.bind_some, if_pos e1, List.nil_append]
    refine Ev.bind (text_ev a v t s body g hl hb) ?_
    simp only [if_pos e2]
    refine Ev.bind (text_ev a' v' t' s' body' g' hl' hb') ?_
    by_cases c1 : a = a'
    · simp only [if_pos c1]
      by_cases c2 : v = v' ∧ t = t'
      · have q2 : (v == v' && t == t') = true := by rw [c2.1, c2.2]; simp
        simp only [if_pos q2]
        by_cases c3 : s = s'
        · simp only [if_pos c3, es, Option.bind_some]
          by_cases c4 : body = body'
          · have q4 : eqS body body' = true := by rw [c4]; exact eqS_self _
            simp only [if_pos q4]
            refine J0 _ (fun hr => ?_)
            by_cases c5 : g = g'
            · rw [c1, c2.1, c2.2, c3, c4, c5, eqS_self]; simp
            · rw [show (g == g') = false by simpa using c5]
              exact tno (fun q => c5 q.2.2) hr
          · have q4 : ¬ eqS body body' = true := fun q => c4 ((eqS_iff _ _ hb hb').1 q)
            simp only [if_neg q4]
            exact J0 _ (tno (fun q => c4 q.2.1))
        · simp only [if_neg c3]; exact J0 _ (tno (fun q => c3 q.1.2.2.2))
      · have q2 : ¬ (v == v' && t == t') = true := by simpa using c2
        simp only [if_neg q2]; exact J0 _ (tno (fun q => c2 ⟨q.1.2.1, q.1.2.2.1⟩))
    · simp only [if_neg c1]; exact J0 _ (tno (fun q => c1 q.1.1))
  exact key.rounds
end Go.Proofs.Ytlnfiknllnonhaa.Pure
