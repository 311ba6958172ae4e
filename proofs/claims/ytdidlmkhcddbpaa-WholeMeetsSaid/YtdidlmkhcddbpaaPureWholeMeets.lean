/- The pure statement. -/
import Derived.Test.YtdidlmkhcddbpaaPWholeMeetsx5
import Derived.KernelRfl
import Derived.Lib.Bytes
namespace Go.Proofs.Ytdidlmkhcddbpaa.Pure
open Go Go.RowKit Go.Proofs.Ytdidlmkhcddbpaa.PWholeMeets Go.Proofs.YtdidlmkhcddbpaaW.PrintWords Go.Proofs.YtdidlmkhcddbpaaW.PrintLast Go.Proofs.YtdidlmkhcddbpaaW.PrintMore
set_option linter.unusedVariables false
set_option linter.unusedSimpArgs false
theorem w64 (i : Nat) (h : i < 1000000000000000000) : wrap64 ((i : Int) + 1) = ((i + 1 : Nat) : Int) := by unfold wrap64; omega
theorem ev_succ {α : Type} {g : Nat → Option α} {r : α} (h : Ev (fun k => g (k + 1)) r) : Ev g r := Ev.step (fun _ => rfl) h
theorem rdL (xs : List (List Int)) (i : Nat) (h : i < xs.length) : rd_L2 xs (i : Int) = xs[i] := by
  unfold rd_L2
  rw [Int.toNat_natCast, List.getD_eq_getElem?_getD, List.getElem?_eq_getElem h]; rfl
def enc : Nat → Int → List Int
  | 0, x => [x % 256]
  | n + 1, x => if x ≥ 128 then Go.bits .or .u8 (x % 256) 128 :: enc n (x / 128) else [x % 256]
theorem enc_pos (n : Nat) (x : Int) (h : x ≥ 128) : enc (n + 1) x = [Go.bits .or .u8 (x % 256) 128] ++ enc n (x / 128) := by
  show (if x ≥ 128 then Go.bits .or .u8 (x % 256) 128 :: enc n (x / 128) else [x % 256]) = _
  rw [if_pos h]; rfl
theorem enc_len : ∀ n x, (enc n x).length ≤ n + 1
  | 0, _ => Nat.le_refl _
  | n + 1, x => by
    unfold enc
    split
    · have := enc_len n (x / 128); rw [List.length_cons]; omega
    · simp
theorem int_l0 : ∀ (n : Nat) (x : Int) (acc : List Int), 0 ≤ x → x < 128 ^ (n + 1) → acc.length + n < 1000 → Ev (fun k => octet_Int.l0 k x acc) (acc ++ enc n x, 0)
  | 0, x, acc, h0, h1, h2 => by
    apply ev_succ
    have e1 : ¬ x ≥ 128 := by omega
    have e2 : acc.length < 140737488355328 := by omega
    simp only [octet_Int.l0, if_neg e1, if_pos e2]
    exact Ev.now _
  | n + 1, x, acc, h0, h1, h2 => by
    apply ev_succ
    have e2 : acc.length < 140737488355328 := by omega
    by_cases e1 : x ≥ 128
    · simp only [octet_Int.l0, if_pos e1, if_pos e2]
      have := int_l0 n (x / 128) (acc ++ [Go.bits .or .u8 (x % 256) 128]) (by omega) (by
        have e : (128 : Int) ^ (n + 1 + 1) = 128 ^ (n + 1) * 128 := Int.pow_succ _ _
        rw [e] at h1
        exact Int.ediv_lt_of_lt_mul (by decide) h1) (by simp; omega)
      rw [List.append_assoc] at this
      rw [enc_pos n x e1]
      exact this
    · simp only [octet_Int.l0, if_neg e1, if_pos e2]
      rw [show enc (n + 1) x = [x % 256] by unfold enc; rw [if_neg e1]]
      exact Ev.now _
theorem int_ev (x : Int) (h0 : 0 ≤ x) (h1 : x ≤ 2147483647) : Ev (fun k => octet_Int.f k x) (enc 4 x, 0) := by
  have e1 : ¬ x < 0 := by omega
  have e2 : decide (x > 2147483647) = false := decide_eq_false (by omega)
  simp only [octet_Int.f, if_neg e1, e2]
  apply ev_succ
  simp only [octet_Int.j0, Bool.false_eq_true, if_false]
  exact int_l0 4 x [] h0 (by omega) (by decide)
theorem cat_l1 (xs : List (List Int)) (hx : xs.length < 1000) : ∀ (d i : Nat) (acc : List Int), d + i = xs.length → acc.length + (xs.drop i).flatten.length < 140737488355328 →
    Ev (fun k => slices_Concat_byte_byte.l1 k acc xs (xs.length : Int) (i : Int)) (acc ++ (xs.drop i).flatten)
  | 0, i, acc, hd, hl => by
    apply ev_succ
    have e1 : ¬ (i : Int) < (xs.length : Int) := by omega
    simp only [slices_Concat_byte_byte.l1, if_neg e1]
    rw [List.drop_eq_nil_of_le (by omega)]
    rw [List.flatten_nil, List.append_nil]
    exact Ev.now _
  | d + 1, i, acc, hd, hl => by
    apply ev_succ
    have hi : i < xs.length := by omega
    have e1 : (i : Int) < (xs.length : Int) := by omega
    have e2 : (0 : Int) ≤ (i : Int) := by omega
    rw [List.drop_eq_getElem_cons hi, List.flatten_cons] at hl ⊢
    rw [List.length_append] at hl
    have e3 : acc.length + (xs[i]).length < 140737488355328 := by omega
    simp only [slices_Concat_byte_byte.l1, if_pos e1, if_pos e2, rdL xs i hi, if_pos e3, w64 i (by omega)]
    have := cat_l1 xs hx d (i + 1) (acc ++ xs[i]) (by omega) (by rw [List.length_append]; omega)
    rw [List.append_assoc] at this
    exact this
theorem cat_l0 (xs : List (List Int)) (hx : xs.length < 1000) (r : List Int) (h : ∀ s : Nat, s < 140737488355328 → Ev (fun k => (slices_Grow_byte_byte.f () (s : Int)).bind fun t117 => (slices_Concat_byte_byte.l1 k t117 xs (xs.length : Int) 0)) r) :
    ∀ (d i s : Nat), d + i = xs.length → s + (xs.drop i).flatten.length < 140737488355328 →
    Ev (fun k => slices_Concat_byte_byte.l0 k xs (s : Int) xs (xs.length : Int) (i : Int)) r
  | 0, i, s, hd, hl => by
    apply ev_succ
    have e1 : ¬ (i : Int) < (xs.length : Int) := by omega
    simp only [slices_Concat_byte_byte.l0, if_neg e1]
    exact h s (by omega)
  | d + 1, i, s, hd, hl => by
    apply ev_succ
    have hi : i < xs.length := by omega
    have e1 : (i : Int) < (xs.length : Int) := by omega
    have e2 : (0 : Int) ≤ (i : Int) := by omega
    rw [List.drop_eq_getElem_cons hi, List.flatten_cons, List.length_append] at hl
    have e3 : wrap64 ((s : Int) + ((xs[i]).length : Int)) = ((s + (xs[i]).length : Nat) : Int) := by unfold wrap64; omega
    have e4 : ¬ ((s + (xs[i]).length : Nat) : Int) < 0 := by omega
    simp only [slices_Concat_byte_byte.l0, if_pos e1, if_pos e2, rdL xs i hi, e3, if_neg e4, w64 i (by omega)]
    exact cat_l0 xs hx r h d (i + 1) (s + (xs[i]).length) (by omega) (by omega)
theorem cat_ev (xs : List (List Int)) (hx : xs.length < 1000) (hl : xs.flatten.length < 140737488355328) : Ev (fun k => slices_Concat_byte_byte.f k xs) xs.flatten := by
  simp only [slices_Concat_byte_byte.f]
  refine cat_l0 xs hx _ (fun s hs => ?_) xs.length 0 0 (by omega) (by simpa using hl)
  have e1 : (0 : Int) ≤ (s : Int) := by omega
  have e2 : ((s : Int)).toNat < 140737488355328 := by omega
  simp only [slices_Grow_byte_byte.f, if_pos e1, if_pos e2, Option.bind_some]
  exact cat_l1 xs hx xs.length 0 [] (by omega) (by simpa using hl)
theorem or128 (y : Int) (h0 : 0 ≤ y) : Go.bits .or .u8 (y % 256) 128 = y % 128 + 128 := by
  have key : ∀ n : Fin 256, Go.bits .or .u8 ((n.val : Nat) : Int) 128 = ((n.val : Nat) : Int) % 128 + 128 := by decide +kernel
  have h := key ⟨(y % 256).toNat, by omega⟩
  have e : (((y % 256).toNat : Nat) : Int) = y % 256 := by omega
  rw [show ((⟨(y % 256).toNat, by omega⟩ : Fin 256).val) = (y % 256).toNat from rfl, e] at h
  rw [h]; omega
def encX (x : Int) : List Int := if 0 ≤ x ∧ x ≤ 2147483647 then enc 4 x else []
theorem encX_len (x : Int) : (encX x).length ≤ 5 := by
  unfold encX; split
  · exact enc_len 4 x
  · simp
theorem int_evX (x : Int) : Ev (fun k => octet_Int.f k x) (encX x, if 0 ≤ x ∧ x ≤ 2147483647 then 0 else 14) := by
  by_cases h : 0 ≤ x ∧ x ≤ 2147483647
  · rw [show encX x = enc 4 x by unfold encX; rw [if_pos h], if_pos h]
    exact int_ev x h.1 h.2
  · rw [show encX x = [] by unfold encX; rw [if_neg h], if_neg h]
    by_cases e1 : x < 0
    · simp only [octet_Int.f, if_pos e1]
      apply ev_succ
      simp only [octet_Int.j0, if_true]
      exact Ev.now _
    · have e2 : decide (x > 2147483647) = true := decide_eq_true (by omega)
      simp only [octet_Int.f, if_neg e1, e2]
      apply ev_succ
      simp only [octet_Int.j0, if_true]
      exact Ev.now _
def bytesX (l : List Int) : List Int := encX (l.length : Int) ++ l
def packX (xs : List (List Int)) : List Int := (xs.map bytesX).flatten
theorem packX_cons (x : List Int) (xs : List (List Int)) : packX (x :: xs) = bytesX x ++ packX xs := by unfold packX; rw [List.map_cons, List.flatten_cons]
theorem packX_app (xs ys : List (List Int)) : packX (xs ++ ys) = packX xs ++ packX ys := by unfold packX; rw [List.map_append, List.flatten_append]
theorem bytes_evX (l : List Int) (h : (bytesX l).length < 140737488355328) : Ev (fun k => octet_Bytes.f k l) (bytesX l) := by
  simp only [octet_Bytes.f]
  refine Ev.bind (int_evX (l.length : Int)) ?_
  have e : [encX (l.length : Int), l].flatten = bytesX l := by simp [bytesX]
  refine Ev.bind (cat_ev [encX (l.length : Int), l] (by simp) (by rw [e]; exact h)) ?_
  rw [e]
  exact Ev.now _
theorem pack_l0X (xs : List (List Int)) (hx : xs.length < 1000) : ∀ (d i : Nat) (acc : List Int), d + i = xs.length → acc.length + (packX (xs.drop i)).length < 140737488355328 →
    Ev (fun k => octet_Pack.l0 k acc xs (xs.length : Int) (i : Int)) (acc ++ packX (xs.drop i))
  | 0, i, acc, hd, hl => by
    apply ev_succ
    have e1 : ¬ (i : Int) < (xs.length : Int) := by omega
    simp only [octet_Pack.l0, if_neg e1]
    rw [List.drop_eq_nil_of_le (by omega)]
    rw [show packX [] = [] from rfl, List.append_nil]
    exact Ev.now _
  | d + 1, i, acc, hd, hl => by
    apply ev_succ
    have hi : i < xs.length := by omega
    have e1 : (i : Int) < (xs.length : Int) := by omega
    have e2 : (0 : Int) ≤ (i : Int) := by omega
    rw [List.drop_eq_getElem_cons hi, packX_cons] at hl ⊢
    rw [List.length_append] at hl
    have e3 : acc.length + (bytesX xs[i]).length < 140737488355328 := by omega
    simp only [octet_Pack.l0, if_pos e1, if_pos e2, rdL xs i hi]
    refine Ev.bind (bytes_evX xs[i] (by omega)) ?_
    simp only [if_pos e3, w64 i (by omega)]
    have := pack_l0X xs hx d (i + 1) (acc ++ bytesX xs[i]) (by omega) (by rw [List.length_append]; omega)
    rw [List.append_assoc] at this
    exact this
theorem pack_evX (xs : List (List Int)) (hx : xs.length < 1000) (h : (packX xs).length < 140737488355328) : Ev (fun k => octet_Pack.f k xs) (packX xs) := by
  simp only [octet_Pack.f]
  exact pack_l0X xs hx xs.length 0 [] (by omega) (by simpa using h)
def le8 (x : Int) : List Int := [x / 2 ^ (8 * 0) % 256, x / 2 ^ (8 * 1) % 256, x / 2 ^ (8 * 2) % 256, x / 2 ^ (8 * 3) % 256, x / 2 ^ (8 * 4) % 256, x / 2 ^ (8 * 5) % 256, x / 2 ^ (8 * 6) % 256, x / 2 ^ (8 * 7) % 256]
def numsX (l : List Int) : List Int := (l.map le8).flatten
theorem le8_at (x3 : List Int) (x : Int) : x3 ++ le8 x = ((((((((x3 ++ [x / 2 ^ (8 * 0) % 256]) ++ [x / 2 ^ (8 * 1) % 256]) ++ [x / 2 ^ (8 * 2) % 256]) ++ [x / 2 ^ (8 * 3) % 256]) ++ [x / 2 ^ (8 * 4) % 256]) ++ [x / 2 ^ (8 * 5) % 256]) ++ [x / 2 ^ (8 * 6) % 256]) ++ [x / 2 ^ (8 * 7) % 256]) := by
  unfold le8
  simp only [List.append_assoc, List.cons_append, List.nil_append]
theorem nums_step (x3 : List Int) (x5 : Int) (x7 : List Int) (x8 x9 : Int) (i : Nat) (hi : i < 8) (hl : x3.length < 1000) (r : List Int)
    (h : Ev (fun k => vote_nums.l1 k (x3 ++ [x5 / 2 ^ (8 * i) % 256]) x5 x7 x8 x9 ((i + 1 : Nat) : Int)) r) : Ev (fun k => vote_nums.l1 k x3 x5 x7 x8 x9 (i : Int)) r := by
  apply ev_succ
  have e1 : (i : Int) < 8 := by omega
  have e0 : wrap64 (8 * (i : Int)) = ((8 * i : Nat) : Int) := by unfold wrap64; omega
  have e2 : (0 : Int) ≤ ((8 * i : Nat) : Int) := by omega
  have e3 : x3.length < 140737488355328 := by omega
  have e4 : shr .i64 x5 ((8 * i : Nat) : Int) = x5 / 2 ^ (8 * i) := by
    unfold shr
    rw [Int.toNat_natCast, Nat.min_eq_left (Nat.le_trans (show 8 * i ≤ 56 by omega) (by decide))]
  simp only [vote_nums.l1, e0, if_pos e1, if_pos e2, if_pos e3, e4, w64 i (by omega)]
  exact h
theorem nums_in (x3 : List Int) (x5 : Int) (x7 : List Int) (x8 x9 : Int) (hl : x3.length < 900) (r : List Int)
    (h : Ev (fun k => vote_nums.l0 k (x3 ++ le8 x5) x7 x8 (wrap64 (x9 + 1))) r) : Ev (fun k => vote_nums.l1 k x3 x5 x7 x8 x9 0) r := by
  rw [le8_at] at h
  refine nums_step _ _ _ _ _ 0 (by omega) (by omega) _ ?_
  refine nums_step _ _ _ _ _ 1 (by omega) (by simp; omega) _ ?_
  refine nums_step _ _ _ _ _ 2 (by omega) (by simp; omega) _ ?_
  refine nums_step _ _ _ _ _ 3 (by omega) (by simp; omega) _ ?_
  refine nums_step _ _ _ _ _ 4 (by omega) (by simp; omega) _ ?_
  refine nums_step _ _ _ _ _ 5 (by omega) (by simp; omega) _ ?_
  refine nums_step _ _ _ _ _ 6 (by omega) (by simp; omega) _ ?_
  refine nums_step _ _ _ _ _ 7 (by omega) (by simp; omega) _ ?_
  apply ev_succ
  have e : ¬ (((7 + 1 : Nat) : Int)) < 8 := by omega
  simp only [vote_nums.l1, if_neg e]
  exact h
theorem rd_at (xs : List Int) (i : Nat) (h : i < xs.length) : rd xs (i : Int) = xs[i] := by
  unfold rd
  rw [Int.toNat_natCast, List.getD_eq_getElem?_getD, List.getElem?_eq_getElem h]; rfl
theorem nums_l0 (xs : List Int) (hx : xs.length < 100) : ∀ (d i : Nat) (acc : List Int), d + i = xs.length → acc.length + d * 8 < 900 →
    Ev (fun k => vote_nums.l0 k acc xs (xs.length : Int) (i : Int)) (acc ++ numsX (xs.drop i))
  | 0, i, acc, hd, hl => by
    apply ev_succ
    have e1 : ¬ (i : Int) < (xs.length : Int) := by omega
    simp only [vote_nums.l0, if_neg e1]
    rw [List.drop_eq_nil_of_le (by omega), show numsX [] = [] from rfl, List.append_nil]
    exact Ev.now _
  | d + 1, i, acc, hd, hl => by
    apply ev_succ
    have hi : i < xs.length := by omega
    have e1 : (i : Int) < (xs.length : Int) := by omega
    have e2 : (0 : Int) ≤ (i : Int) := by omega
    rw [List.drop_eq_getElem_cons hi, show numsX (xs[i] :: xs.drop (i + 1)) = le8 xs[i] ++ numsX (xs.drop (i + 1)) from rfl, ← List.append_assoc]
    simp only [vote_nums.l0, if_pos e1, if_pos e2, rd_at xs i hi]
    refine nums_in acc xs[i] xs _ _ (by omega) _ ?_
    rw [w64 i (by omega)]
    exact nums_l0 xs hx d (i + 1) (acc ++ le8 xs[i]) (by omega) (by rw [List.length_append, show (le8 xs[i]).length = 8 from rfl]; omega)
theorem nums_ev (xs : List Int) (hx : xs.length < 100) : Ev (fun k => vote_nums.f k xs) (numsX xs) := by
  simp only [vote_nums.f]
  exact nums_l0 xs hx xs.length 0 [] (by omega) (by simp; omega)
def u8at (x : Int) (i : Nat) : Int := x % 2 ^ 64 / 2 ^ (8 * i)
theorem u8_facts (x : Int) (i : Nat) (hi : i < 8) : Int.tmod (u8at x i) 256 % 256 = x / 2 ^ (8 * i) % 256 ∧ IntKind.u64.wrap (Int.tdiv (u8at x i) 256) = u8at x (i + 1) := by
  have h0 : 0 ≤ u8at x i := Int.ediv_nonneg (by omega) (Int.pow_nonneg (by decide))
  have hw : ∀ y : Int, IntKind.u64.wrap y = y % 2 ^ 64 := fun _ => rfl
  rw [Int.tmod_eq_emod_of_nonneg h0, Int.tdiv_eq_ediv_of_nonneg h0, hw]
  clear h0 hw
  unfold u8at
  have : i = 0 ∨ i = 1 ∨ i = 2 ∨ i = 3 ∨ i = 4 ∨ i = 5 ∨ i = 6 ∨ i = 7 := by omega
  rcases this with rfl | rfl | rfl | rfl | rfl | rfl | rfl | rfl <;> omega
abbrev okB := Go.Proofs.Ytdidlmkhcddbpaa.Sha.okB
abbrev shaR := Go.Proofs.Ytdidlmkhcddbpaa.Sha.shaR
def isB (l : List Int) : Prop := ∀ b ∈ l, 0 ≤ b ∧ b < 256
theorem isB_nil : isB [] := fun _ h => by simp at h
theorem isB_app {a b : List Int} (ha : isB a) (hb : isB b) : isB (a ++ b) := fun x h => (List.mem_append.1 h).elim (ha x) (hb x)
theorem okB_of (l : List Int) (h1 : l.length < 140737488352000) (h2 : isB l) : okB l = true := by
  show Go.Proofs.Ytdidlmkhcddbpaa.Sha.okB l = true
  unfold Go.Proofs.Ytdidlmkhcddbpaa.Sha.okB
  rw [Bool.and_eq_true, decide_eq_true_iff, List.all_eq_true]
  exact ⟨h1, fun b hb => by have := h2 b hb; simp [this.1, this.2]⟩
theorem isB_enc : ∀ (n : Nat) (x : Int), 0 ≤ x → isB (enc n x)
  | 0, x, h => fun b hb => by
    rw [show enc 0 x = [x % 256] from rfl, List.mem_singleton] at hb
    omega
  | n + 1, x, h => fun b hb => by
    by_cases h1 : x ≥ 128
    · rw [enc_pos n x h1, or128 x h] at hb
      rcases List.mem_append.1 hb with hb | hb
      · rw [List.mem_singleton] at hb; omega
      · exact isB_enc n (x / 128) (by omega) b hb
    · rw [show enc (n + 1) x = [x % 256] by unfold enc; rw [if_neg h1], List.mem_singleton] at hb
      omega
theorem isB_encX (x : Int) : isB (encX x) := by
  unfold encX
  split
  · next h => exact isB_enc 4 x h.1
  · exact isB_nil
theorem isB_packX : ∀ (xs : List (List Int)), (∀ x ∈ xs, isB x) → isB (packX xs)
  | [], _ => isB_nil
  | x :: xs, h => by
    rw [packX_cons]
    exact isB_app (isB_app (isB_encX _) (h x (by simp))) (isB_packX xs (fun y hy => h y (by simp [hy])))
theorem isB_nums : ∀ l : List Int, isB (numsX l)
  | [] => isB_nil
  | x :: l => by
    rw [show numsX (x :: l) = le8 x ++ numsX l from rfl]
    refine isB_app (fun b hb => ?_) (isB_nums l)
    unfold le8 at hb
    simp only [List.mem_cons, List.not_mem_nil, or_false] at hb
    omega
def signP : List Int := [115, 105, 103, 110]
def goodK (key : Int) : Prop := 0 ≤ key ∧ key ≤ 127
instance (key : Int) : Decidable (goodK key) := by unfold goodK; exact inferInstance
def textX (key : Int) (dom : List Int) (parts : List (List Int)) : List Int := if goodK key then packX ([signP, encX key, dom] ++ parts) else []
def signX (key : Int) (dom : List Int) (parts : List (List Int)) : List Int := if goodK key then shaR (textX key dom parts) else []
theorem keyright (key : Int) : key_right.f key = some (decide (goodK key)) := by
  unfold key_right.f goodK
  by_cases h : key ≥ 0
  · rw [if_pos h]; congr 1; apply decide_eq_decide.2; omega
  · rw [if_neg h]; congr 1; symm; apply decide_eq_false; omega
theorem keytext_ev (key : Int) (dom : ByteArray) (parts : List (List Int)) (hp : parts.length < 900) (hd : (bytesOf dom).length < 1000) (h : (packX ([signP, encX key, bytesOf dom] ++ parts)).length < 140737488355328) :
    Ev (fun k => key_Text.f k key dom parts) (textX key (bytesOf dom) parts) := by
  simp only [key_Text.f, keyright, Option.bind_some]
  unfold textX
  by_cases hk : goodK key
  · simp only [decide_eq_true hk, if_true, if_pos hk]
    refine Ev.bind (int_evX key) ?_
    have e1 : (bytesOf dom).length ≤ 9223372036854775807 := by omega
    simp only [if_pos e1]
    rw [packX_app] at h ⊢
    rw [List.length_append] at h
    refine Ev.bind (pack_evX [signP, encX key, bytesOf dom] (by simp) (by omega)) ?_
    refine Ev.bind (pack_evX parts (by omega) (by omega)) ?_
    simp only [if_pos h]
    exact Ev.now _
  · simp only [decide_eq_false hk, Bool.false_eq_true, if_false, if_neg hk]
    exact Ev.now _
theorem sha_ev (l : List Int) (h : okB l = true) : sha_Sum.f l = some (shaR l) := by unfold sha_Sum.f; exact if_pos h
theorem textX_B (key : Int) (dom : List Int) (parts : List (List Int)) (hd : isB dom) (hp : ∀ x ∈ parts, isB x) : isB (textX key dom parts) := by
  unfold textX
  split
  · refine isB_packX _ (fun x hx => ?_)
    rcases List.mem_append.1 hx with hx | hx
    · simp only [List.mem_cons, List.not_mem_nil, or_false] at hx
      rcases hx with rfl | rfl | rfl
      · unfold signP; intro b hb; simp only [List.mem_cons, List.not_mem_nil, or_false] at hb; omega
      · exact isB_encX _
      · exact hd
    · exact hp x hx
  · exact isB_nil
theorem textX_le (key : Int) (dom : List Int) (parts : List (List Int)) : (textX key dom parts).length ≤ (packX ([signP, encX key, dom] ++ parts)).length := by
  unfold textX; split
  · exact Nat.le_refl _
  · simp
theorem keysign_ev (key : Int) (dom : ByteArray) (parts : List (List Int)) (hp : parts.length < 900) (hd : (bytesOf dom).length < 1000) (h : (packX ([signP, encX key, bytesOf dom] ++ parts)).length < 140737488352000) (hdb : isB (bytesOf dom)) (hpb : ∀ x ∈ parts, isB x) :
    Ev (fun k => key_Sign.f k key dom parts) (signX key (bytesOf dom) parts) := by
  have hok : okB (textX key (bytesOf dom) parts) = true := okB_of _ (Nat.lt_of_le_of_lt (textX_le _ _ _) h) (textX_B _ _ _ hdb hpb)
  simp only [key_Sign.f, keyright, Option.bind_some]
  unfold signX
  by_cases hk : goodK key
  · simp only [decide_eq_true hk, if_true, if_pos hk]
    refine Ev.bind (keytext_ev key dom parts hp hd (by omega)) ?_
    simp only [sha_ev _ hok, Option.bind_some]
    exact Ev.now _
  · simp only [decide_eq_false hk, Bool.false_eq_true, if_false, if_neg hk]
    exact Ev.now _
def repX (s : Int) : Int := if 0 ≤ s ∧ s ≤ 15 then s else -1
theorem rep_ev (s : Int) : Ev (fun k => key_Replica.f k s) (repX s) := by
  have go : ∀ b : Bool, b = decide (¬ (0 ≤ s ∧ s ≤ 15)) → Ev (fun k => key_Replica.j0 k s b) (repX s) := by
    intro b hb
    subst hb
    apply ev_succ
    unfold repX
    by_cases h : 0 ≤ s ∧ s ≤ 15
    · have e0 : decide (¬ (0 ≤ s ∧ s ≤ 15)) = false := decide_eq_false (fun g => g h)
      simp only [key_Replica.j0, e0, Bool.false_eq_true, if_false, if_pos h]
      exact Ev.now _
    · have e0 : decide (¬ (0 ≤ s ∧ s ≤ 15)) = true := decide_eq_true h
      simp only [key_Replica.j0, e0, if_true, if_neg h]
      exact Ev.now _
  simp only [key_Replica.f]
  by_cases h0 : s < 0
  · simp only [if_pos h0]
    exact go true (by symm; apply decide_eq_true; omega)
  · simp only [if_neg h0]
    exact go _ (by apply decide_eq_decide.2; omega)
def domV : ByteArray := ⟨#[118, 111, 116, 101]⟩
theorem domV_len : (bytesOf domV).length = 4 := rfl
theorem domV_B : isB (bytesOf domV) := by
  intro b hb
  rw [show bytesOf domV = [118, 111, 116, 101] from rfl] at hb
  simp only [List.mem_cons, List.not_mem_nil, or_false] at hb
  omega
def partsX (a v t s : Int) (body : List Int) : List (List Int) := [numsX [a, v, t, s], body]
theorem bytesX_len (l : List Int) : (bytesX l).length ≤ l.length + 5 := by
  unfold bytesX; rw [List.length_append]; have := encX_len (l.length : Int); omega
structure Fits (key : Int) (dom : ByteArray) (parts : List (List Int)) : Prop where
  hp : parts.length < 900
  hd : (bytesOf dom).length < 1000
  h : (packX ([signP, encX key, bytesOf dom] ++ parts)).length < 140737488352000
  hdb : isB (bytesOf dom)
  hpb : ∀ x ∈ parts, isB x
theorem fitsV (key a v t s : Int) (body : List Int) (hl : body.length ≤ 140737488351232) (hb : isB body) : Fits key domV (partsX a v t s body) := by
  refine ⟨by unfold partsX; simp, by rw [domV_len]; decide, ?_, domV_B, ?_⟩
  · unfold partsX
    rw [packX_app, packX_cons, packX_cons, packX_cons, packX_cons, packX_cons, show packX [] = [] from rfl]
    simp only [List.length_append, List.append_nil]
    have h1 := bytesX_len signP
    have h2 := bytesX_len (encX key)
    have h3 := bytesX_len (bytesOf domV)
    have h4 := bytesX_len (numsX [a, v, t, s])
    have h5 := bytesX_len body
    have h6 := encX_len key
    rw [show signP.length = 4 from rfl] at h1
    rw [domV_len] at h3
    rw [show (numsX [a, v, t, s]).length = 32 from rfl] at h4
    omega
  · intro x hx
    unfold partsX at hx
    simp only [List.mem_cons, List.not_mem_nil, or_false] at hx
    rcases hx with rfl | rfl
    · exact isB_nums _
    · exact hb
theorem voted_ev (a v t s : Int) (body : List Int) (sg : Int) : Ev (fun k => vote_voted.f k a v t s body sg) (repX sg, domV, partsX a v t s body) := by
  simp only [vote_voted.f]
  refine Ev.bind (rep_ev sg) ?_
  refine Ev.bind (nums_ev [a, v, t, s] (by simp)) ?_
  exact Ev.now _
def sigV (a v t s : Int) (body : List Int) (sg : Int) : List Int := signX (repX sg) (bytesOf domV) (partsX a v t s body)
def textV (a v t s : Int) (body : List Int) (sg : Int) : List Int := textX (repX sg) (bytesOf domV) (partsX a v t s body)
theorem make_ev (a v t s : Int) (body : List Int) (sg : Int) (hl : body.length ≤ 140737488351232) (hb : isB body) : Ev (fun k => vote_Make.f k a v t s body sg) (sg, sigV a v t s body sg) := by
  have F := fitsV (repX sg) a v t s body hl hb
  simp only [vote_Make.f]
  refine Ev.bind (voted_ev a v t s body sg) ?_
  simp only [vote_signed_sign.f]
  refine Ev.bind (Ev.bind (keysign_ev _ _ _ F.hp F.hd F.h F.hdb F.hpb) (Ev.now _)) ?_
  exact Ev.now _
def eqS (a b : List Int) : Bool := (strOfNums a).toList == (strOfNums b).toList
theorem eqS_self (a : List Int) : eqS a a = true := by unfold eqS; exact beq_self_eq_true _
def rightV (a v t s : Int) (body : List Int) (sg : Int) (sig : List Int) : Bool := if goodK (repX sg) then eqS sig (sigV a v t s body sg) else false
theorem right_ev (a v t s : Int) (body : List Int) (sg : Int) (sig : List Int) (hl : body.length ≤ 140737488351232) (hb : isB body) : Ev (fun k => vote_Right.f k a v t s body sg sig) (rightV a v t s body sg sig) := by
  have F := fitsV (repX sg) a v t s body hl hb
  have es : ∀ a b : List Int, bytes_Equal.f a b = some (eqS a b) := fun _ _ => rfl
  simp only [vote_Right.f]
  refine Ev.bind (voted_ev a v t s body sg) ?_
  refine Ev.bind (a := rightV a v t s body sg sig) ?_ (Ev.now _)
  simp only [vote_signed_verify.f]
  refine Ev.bind (a := rightV a v t s body sg sig) ?_ (Ev.now _)
  simp only [key_Verify.f, keyright, Option.bind_some]
  unfold rightV
  by_cases hk : goodK (repX sg)
  · simp only [decide_eq_true hk, if_true, if_pos hk]
    refine Ev.bind (keysign_ev _ _ _ F.hp F.hd F.h F.hdb F.hpb) ?_
    simp only [es, Option.bind_some]
    exact Ev.now _
  · simp only [decide_eq_false hk, Bool.false_eq_true, if_false, if_neg hk]
    exact Ev.now _
theorem isB_of (l : List Int) (h : Kd.gSl 1 (Kd.gInt .u8) l) : l.length ≤ 140737488351232 ∧ isB l := by
  refine ⟨by have := h.2.1; omega, fun b hb => ?_⟩
  have h1 := h.2.2 b hb
  unfold Kd.gInt at h1
  have h2 : (decide (IntKind.u8.min ≤ b) && decide (b ≤ IntKind.u8.max)) = true := h1
  rw [Bool.and_eq_true, decide_eq_true_iff, decide_eq_true_iff] at h2
  have e1 : IntKind.u8.min = 0 := by decide
  have e2 : IntKind.u8.max = 255 := by decide
  rw [e1, e2] at h2
  omega
theorem rdS (xs : List S25) (i : Nat) (h : i < xs.length) : rd_T25 xs (i : Int) = xs[i] := by
  unfold rd_T25
  rw [Int.toNat_natCast, List.getD_eq_getElem?_getD, List.getElem?_eq_getElem h]; rfl
theorem copyv_l0 (l : List S25) (hx : l.length < 4398046511104) (hn : ∀ x ∈ l, x.f1.length < 140737488355328) : ∀ (d i : Nat) (acc : List S25), d + i = l.length → acc.length = i → Ev (fun k => catenaryref05_CopyVotes.l0 k acc l (l.length : Int) (i : Int)) (acc ++ l.drop i)
  | 0, i, acc, hd, ha => by
    have e1 : ¬ (i : Int) < (l.length : Int) := by omega
    refine ev_succ ?_
    simp only [catenaryref05_CopyVotes.l0, if_neg e1]
    rw [List.drop_eq_nil_of_le (by omega), List.append_nil]
    exact Ev.now _
  | d + 1, i, acc, hd, ha => by
    have hi : i < l.length := by omega
    have e1 : (i : Int) < (l.length : Int) := by omega
    have e2 : (0 : Int) ≤ (i : Int) := by omega
    have e3 : acc.length < 4398046511104 := by omega
    have ew : wrap64 ((i : Int) + 1) = ((i + 1 : Nat) : Int) := w64 i (by omega)
    have en : ([] : List Int).length + (l[i]).f1.length < 140737488355328 := by
      have := hn _ (List.getElem_mem hi)
      rw [List.length_nil]; omega
    have ih := copyv_l0 l hx hn d (i + 1) (acc ++ [l[i]]) (by omega) (by rw [List.length_append, ha]; rfl)
    rw [List.append_assoc, List.singleton_append] at ih
    rw [List.drop_eq_getElem_cons hi]
    refine ev_succ ?_
    simp only [catenaryref05_CopyVotes.l0, if_pos e1, if_pos e2, rdS l i hi, Option.bind_some, if_pos e3, if_pos en, List.nil_append, ew]
    exact ih
theorem copyv_ev (l : List S25) (hx : l.length < 4398046511104) (hn : ∀ x ∈ l, x.f1.length < 140737488355328) : Ev (fun k => catenaryref05_CopyVotes.f k l) l := by
  simp only [catenaryref05_CopyVotes.f]
  exact copyv_l0 l hx hn l.length 0 [] (by omega) rfl
def rightN (n : Int) : Prop := n = 4 ∨ n = 7 ∨ n = 10 ∨ n = 13 ∨ n = 16
theorem rightN_is (n : Int) : ∃ b, ballot_Right.f n = some b ∧ (b = true → rightN n) ∧ (rightN n → b = true) := by
  unfold ballot_Right.f rightN
  by_cases h1 : n ≥ 4
  · by_cases h2 : n ≤ 16
    · rw [if_pos h1, if_pos h2]
      have hm : Int.tmod n 3 = n % 3 := Int.tmod_eq_emod_of_nonneg (by omega)
      refine ⟨_, rfl, fun h => ?_, fun h => ?_⟩
      · rw [hm] at h
        have : n % 3 = 1 := by simpa using h
        omega
      · rw [hm, beq_iff_eq]; omega
    · rw [if_pos h1, if_neg h2]
      exact ⟨_, rfl, (fun h => by cases h), (fun h => by omega)⟩
  · rw [if_neg h1]
    exact ⟨_, rfl, (fun h => by cases h), (fun h => by omega)⟩
theorem times_is (n c d : Int) (h : rightN n) (hc : 0 ≤ c ∧ c ≤ 2) (hd : 0 ≤ d ∧ d ≤ 1) : ballot_times.f n c d = some ((n / 3) * c + d) := by
  obtain ⟨b, h1, _, h3⟩ := rightN_is n
  unfold ballot_times.f
  rw [h1, h3 h]
  simp only [Option.bind_some, if_true]
  have : c = 0 ∨ c = 1 ∨ c = 2 := by omega
  have e : Int.tdiv n 3 = n / 3 := Int.tdiv_eq_ediv_of_nonneg (by unfold rightN at h; omega)
  rw [e]
  unfold rightN at h
  rcases h with rfl | rfl | rfl | rfl | rfl <;> rcases this with rfl | rfl | rfl <;> (congr 1; unfold wrap64; omega)
def signers (l : List S25) : List Int := l.map (·.f0)
def Inc (lo n : Int) : List Int → Prop
  | [] => True
  | x :: xs => lo < x ∧ x < n ∧ Inc x n xs
theorem cert_l0 (a s : Int) (body : List Int) (n : Int) (v t : Int) (l : List S25) (hx : l.length < 4398046511104) (hbl : body.length ≤ 140737488351232) (hb : isB body) : ∀ (d i : Nat) (last : Int), d + i = l.length →
    ∃ r, Ev (fun k => vote_Cert.l0 k a s body n last l (l.length : Int) (i : Int) v t) r ∧ (r = true → Inc last n (signers (l.drop i)))
  | 0, i, last, hd => by
    have e1 : ¬ (i : Int) < (l.length : Int) := by omega
    refine ⟨true, ev_succ ?_, fun _ => ?_⟩
    · simp only [vote_Cert.l0, if_neg e1]
      exact Ev.now _
    · rw [List.drop_eq_nil_of_le (by omega)]; trivial
  | d + 1, i, last, hd => by
    have hi : i < l.length := by omega
    have e1 : (i : Int) < (l.length : Int) := by omega
    have e2 : (0 : Int) ≤ (i : Int) := by omega
    have ew : wrap64 ((i : Int) + 1) = ((i + 1 : Nat) : Int) := w64 i (by omega)
    have bad : Ev (fun k => vote_Cert.j2 k a s body n l (l.length : Int) (i : Int) true v t (l[i]).f0 (l[i]).f1) false := by
      refine ev_succ ?_
      simp only [vote_Cert.j2, if_true]
      exact Ev.now _
    by_cases c1 : (l[i]).f0 ≤ last
    · refine ⟨false, ev_succ ?_, (fun h => by cases h)⟩
      simp only [vote_Cert.l0, if_pos e1, if_pos e2, rdS l i hi, if_pos c1]
      exact bad
    by_cases c2 : (l[i]).f0 ≥ n
    · refine ⟨false, ev_succ ?_, (fun h => by cases h)⟩
      simp only [vote_Cert.l0, if_pos e1, if_pos e2, rdS l i hi, if_neg c1, if_pos c2]
      exact bad
    have hr := right_ev a v t s body (l[i]).f0 (l[i]).f1 hbl hb
    cases hv : rightV a v t s body (l[i]).f0 (l[i]).f1 with
    | false =>
      rw [hv] at hr
      refine ⟨false, ev_succ ?_, (fun h => by cases h)⟩
      simp only [vote_Cert.l0, if_pos e1, if_pos e2, rdS l i hi, if_neg c1, if_neg c2]
      refine Ev.bind hr ?_
      exact bad
    | true =>
      rw [hv] at hr
      obtain ⟨r, h1, h2⟩ := cert_l0 a s body n v t l hx hbl hb d (i + 1) (l[i]).f0 (by omega)
      refine ⟨r, ev_succ ?_, fun h => ?_⟩
      · simp only [vote_Cert.l0, if_pos e1, if_pos e2, rdS l i hi, if_neg c1, if_neg c2]
        refine Ev.bind hr ?_
        refine ev_succ ?_
        simp only [vote_Cert.j2, Bool.not_true, Bool.false_eq_true, if_false, ew]
        exact h1
      · rw [List.drop_eq_getElem_cons hi]
        refine ⟨?_, ?_, h2 h⟩
        · show last < (l[i]).f0; omega
        · show (l[i]).f0 < n; omega
theorem cert_ev (a v t s : Int) (body : List Int) (l : List S25) (n : Int) (hx : l.length < 4398046511104) (hbl : body.length ≤ 140737488351232) (hb : isB body) :
    ∃ r, Ev (fun k => vote_Cert.f k a v t s body l n) r ∧ (r = true → rightN n ∧ (l.length : Int) = (n / 3) * 2 + 1 ∧ Inc (-1) n (signers l)) := by
  obtain ⟨b, h1, h2, h3⟩ := rightN_is n
  have bad : Ev (fun k => vote_Cert.j0 k a s body l n true v t) false := by
    refine ev_succ ?_
    simp only [vote_Cert.j0, if_true]
    exact Ev.now _
  cases b with
  | false =>
    refine ⟨false, ?_, (fun h => by cases h)⟩
    simp only [vote_Cert.f, h1, Option.bind_some, Bool.false_eq_true, if_false]
    exact bad
  | true =>
    have hn := h2 rfl
    have hq : ballot_Quorum.f n = some ((n / 3) * 2 + 1) := by unfold ballot_Quorum.f; rw [times_is n 2 1 hn (by omega) (by omega)]; rfl
    by_cases hl : (l.length : Int) = (n / 3) * 2 + 1
    · obtain ⟨r, g1, g2⟩ := cert_l0 a s body n v t l hx hbl hb l.length 0 (-1) (by omega)
      have e : ((l.length : Int) != (n / 3) * 2 + 1) = false := by rw [hl]; exact bne_self_eq_false _
      refine ⟨r, ?_, fun h => ⟨hn, hl, by have := g2 h; rwa [List.drop_zero] at this⟩⟩
      simp only [vote_Cert.f, h1, Option.bind_some, if_true, hq, e]
      refine ev_succ ?_
      simp only [vote_Cert.j0, Bool.false_eq_true, if_false]
      exact g1
    · have e : ((l.length : Int) != (n / 3) * 2 + 1) = true := by simpa using hl
      refine ⟨false, ?_, (fun h => by cases h)⟩
      simp only [vote_Cert.f, h1, Option.bind_some, if_true, hq, e]
      exact bad
def cnt (x : Int) : List Int → Nat
  | [] => 0
  | y :: ys => (if x = y then 1 else 0) + cnt x ys
def prs : List Int → List Int → Nat
  | [], _ => 0
  | x :: xs, B => cnt x B + prs xs B
theorem prs_mono : ∀ (A : List Int) (y : Int) (B : List Int), prs A B ≤ prs A (y :: B)
  | [], _, _ => Nat.le_refl _
  | x :: xs, y, B => by
    have := prs_mono xs y B
    show cnt x B + prs xs B ≤ ((if x = y then 1 else 0) + cnt x B) + prs xs (y :: B)
    omega
theorem inc_len : ∀ (lo n : Int) (A : List Int), Inc lo n A → A ≠ [] → (A.length : Int) ≤ n - lo - 1
  | lo, n, [], _, h => absurd rfl h
  | lo, n, [x], h, _ => by have := h.1; have := h.2.1; simp only [List.length_cons, List.length_nil]; omega
  | lo, n, x :: y :: ys, h, _ => by
    have := inc_len x n (y :: ys) h.2.2 (by simp)
    have := h.1
    rw [List.length_cons]; omega
theorem inc_lo {lo lo' n : Int} : ∀ {A : List Int}, Inc lo n A → (∀ x, A.head? = some x → lo' < x) → Inc lo' n A
  | [], _, _ => trivial
  | x :: xs, h, hx => ⟨hx x rfl, h.2.1, h.2.2⟩
theorem meet : ∀ (m : Nat) (lo n : Int) (A B : List Int), A.length + B.length ≤ m → Inc lo n A → Inc lo n B → A ≠ [] ∨ B ≠ [] → (A.length : Int) + (B.length : Int) ≤ (n - lo - 1) + (prs A B : Int)
  | _, lo, n, [], B, _, _, hB, h => by
    have hB0 : B ≠ [] := h.resolve_left (fun g => g rfl)
    have := inc_len lo n B hB hB0
    show (0 : Int) + (B.length : Int) ≤ (n - lo - 1) + (0 : Nat)
    omega
  | _, lo, n, x :: xs, [], _, hA, _, _ => by
    have := inc_len lo n (x :: xs) hA (by simp)
    simp only [List.length_nil]
    omega
  | 0, lo, n, x :: xs, y :: ys, hm, _, _, _ => by simp at hm
  | m + 1, lo, n, x :: xs, y :: ys, hm, hA, hB, _ => by
    rw [List.length_cons, List.length_cons] at hm
    have hx := hA.1
    have hy := hB.1
    rcases Int.lt_trichotomy x y with g | g | g
    · have := meet m x n xs (y :: ys) (by rw [List.length_cons]; omega) hA.2.2 ⟨g, hB.2.1, hB.2.2⟩ (Or.inr (by simp))
      rw [List.length_cons] at this
      rw [List.length_cons, List.length_cons]
      show _ ≤ (n - lo - 1) + ((cnt x (y :: ys) + prs xs (y :: ys) : Nat) : Int)
      omega
    · subst g
      have hp := prs_mono xs x ys
      have hc : cnt x (x :: ys) = 1 + cnt x ys := by show (if x = x then 1 else 0) + cnt x ys = _; rw [if_pos rfl]
      rw [List.length_cons, List.length_cons]
      show _ ≤ (n - lo - 1) + ((cnt x (x :: ys) + prs xs (x :: ys) : Nat) : Int)
      rw [hc]
      have hx2 := hA.2.1
      by_cases he : xs ≠ [] ∨ ys ≠ []
      · have := meet m x n xs ys (by omega) hA.2.2 hB.2.2 he
        omega
      · have e1 : xs = [] := Classical.byContradiction (fun h => he (Or.inl h))
        have e2 : ys = [] := Classical.byContradiction (fun h => he (Or.inr h))
        subst e1; subst e2
        simp only [List.length_nil]
        omega
    · have := meet m y n (x :: xs) ys (by rw [List.length_cons]; omega) ⟨g, hA.2.1, hA.2.2⟩ hB.2.2 (Or.inl (by simp))
      have hp := prs_mono (x :: xs) y ys
      rw [List.length_cons] at this
      rw [List.length_cons, List.length_cons]
      omega
theorem cnt_le (x : Int) : ∀ B : List Int, cnt x B ≤ B.length
  | [] => Nat.le_refl _
  | y :: ys => by
    have := cnt_le x ys
    rw [List.length_cons]
    show (if x = y then 1 else 0) + cnt x ys ≤ _
    split <;> omega
theorem in_l1 (n : Int) (l : List S25) (b : List S25) (x5 x6 : Int) (f0 : Int) (f1 : List Int) (hb : b.length ≤ 11) (r : Bool) : ∀ (d j both : Nat), d + j = b.length → both + d ≤ 1000 →
    Ev (fun k => catenarytop_WholeMeets.l0 k n b ((both + cnt f0 (signers (b.drop j)) : Nat) : Int) l x5 (wrap64 (x6 + 1))) r →
    Ev (fun k => catenarytop_WholeMeets.l1 k n b (both : Int) l x5 x6 b (b.length : Int) (j : Int) f0 f1) r
  | 0, j, both, hd, hbo, h => by
    have e1 : ¬ (j : Int) < (b.length : Int) := by omega
    rw [List.drop_eq_nil_of_le (by omega)] at h
    refine ev_succ ?_
    simp only [catenarytop_WholeMeets.l1, if_neg e1]
    exact h
  | d + 1, j, both, hd, hbo, h => by
    have hj : j < b.length := by omega
    have e1 : (j : Int) < (b.length : Int) := by omega
    have e2 : (0 : Int) ≤ (j : Int) := by omega
    have ew : wrap64 ((j : Int) + 1) = ((j + 1 : Nat) : Int) := w64 j (by omega)
    have eb : wrap64 ((both : Int) + 1) = ((both + 1 : Nat) : Int) := w64 both (by omega)
    rw [List.drop_eq_getElem_cons hj] at h
    have hc : cnt f0 (signers (b[j] :: b.drop (j + 1))) = (if f0 = (b[j]).f0 then 1 else 0) + cnt f0 (signers (b.drop (j + 1))) := rfl
    rw [hc] at h
    refine ev_succ ?_
    by_cases c : f0 = (b[j]).f0
    · rw [if_pos c] at h
      simp only [catenarytop_WholeMeets.l1, if_pos e1, if_pos e2, rdS b j hj, if_pos c, ew, eb]
      refine in_l1 n l b x5 x6 f0 f1 hb r d (j + 1) (both + 1) (by omega) (by omega) ?_
      rw [Nat.add_assoc]
      exact h
    · rw [if_neg c] at h
      simp only [catenarytop_WholeMeets.l1, if_pos e1, if_pos e2, rdS b j hj, if_neg c, ew]
      refine in_l1 n l b x5 x6 f0 f1 hb r d (j + 1) both (by omega) (by omega) ?_
      rw [Nat.zero_add] at h
      exact h
theorem out_l0 (n : Int) (l b : List S25) (ha : l.length ≤ 11) (hb : b.length ≤ 11) (r : Bool) : ∀ (d i both : Nat), d + i = l.length → both + d * 11 ≤ 900 →
    Ev (fun k => catenarytop_WholeMeets.l0 k n b ((both + prs (signers (l.drop i)) (signers b) : Nat) : Int) l (l.length : Int) (l.length : Int)) r →
    Ev (fun k => catenarytop_WholeMeets.l0 k n b (both : Int) l (l.length : Int) (i : Int)) r
  | 0, i, both, hd, hbo, h => by
    rw [List.drop_eq_nil_of_le (by omega)] at h
    have e : i = l.length := by omega
    rw [e]
    exact h
  | d + 1, i, both, hd, hbo, h => by
    have hi : i < l.length := by omega
    have e1 : (i : Int) < (l.length : Int) := by omega
    have e2 : (0 : Int) ≤ (i : Int) := by omega
    have ew : wrap64 ((i : Int) + 1) = ((i + 1 : Nat) : Int) := w64 i (by omega)
    rw [List.drop_eq_getElem_cons hi] at h
    have hp : prs (signers (l[i] :: l.drop (i + 1))) (signers b) = cnt (l[i]).f0 (signers b) + prs (signers (l.drop (i + 1))) (signers b) := rfl
    rw [hp] at h
    have hc := cnt_le (l[i]).f0 (signers b)
    have hsl : (signers b).length = b.length := List.length_map ..
    refine ev_succ ?_
    simp only [catenarytop_WholeMeets.l0, if_pos e1, if_pos e2, rdS l i hi]
    refine in_l1 n l b (l.length : Int) (i : Int) (l[i]).f0 (l[i]).f1 hb r b.length 0 both (by omega) (by omega) ?_
    rw [ew, List.drop_zero]
    refine out_l0 n l b ha hb r d (i + 1) (both + cnt (l[i]).f0 (signers b)) (by omega) (by omega) ?_
    rw [Nat.add_assoc]
    exact h
theorem isB1 (x : Int) (h0 : 0 ≤ x) (h : x < 256) : isB [x] := by
  intro b hb
  rw [List.mem_singleton] at hb
  omega
theorem notright : rightV 2 0 0 1 [1] 3 (sigV 2 0 0 1 [] 3) = false := by kernel_rfl
theorem WholeMeets : catenarytop_WholeMeets.Pure := by
  intro n l b _ gl gb
  have hx : l.length < 4398046511104 := by have := gl.2.1; omega
  have hy : b.length < 4398046511104 := by have := gb.2.1; omega
  have hn : ∀ x ∈ l, x.f1.length < 140737488355328 := fun x hx => by have := (gl.2.2 x hx).2.2.1; omega
  have hm : ∀ x ∈ b, x.f1.length < 140737488355328 := fun x hx => by have := (gb.2.2 x hx).2.2.1; omega
  have j1t : Ev (fun k => catenarytop_WholeMeets.j1 k n l b true) true := by
    refine ev_succ ?_
    simp only [catenarytop_WholeMeets.j1, if_true]
    exact Ev.now _
  have key : Ev (fun k => catenarytop_WholeMeets.f k n l b) true := by
    simp only [catenarytop_WholeMeets.f]
    refine Ev.bind (make_ev 2 0 0 1 [] 3 (by simp) isB_nil) ?_
    refine Ev.bind (right_ev 2 0 0 1 [] 3 (sigV 2 0 0 1 [] 3) (by simp) isB_nil) ?_
    have e1 : rightV 2 0 0 1 [] 3 (sigV 2 0 0 1 [] 3) = true := by
      unfold rightV
      rw [if_pos (by decide), eqS_self]
    simp only [e1, if_true]
    refine Ev.bind (right_ev 2 0 0 1 [1] 3 (sigV 2 0 0 1 [] 3) (by simp) (isB1 1 (by decide) (by decide))) ?_
    rw [notright]
    refine ev_succ ?_
    simp only [catenarytop_WholeMeets.j0, Bool.false_eq_true, if_false]
    refine Ev.bind (copyv_ev l hx hn) ?_
    obtain ⟨r1, c1, c2⟩ := cert_ev 2 0 0 1 [1] l n hx (by simp) (isB1 1 (by decide) (by decide))
    refine Ev.bind c1 ?_
    cases r1 with
    | false => simp only [Bool.false_eq_true, if_false]; exact j1t
    | true =>
      simp only [if_true]
      refine Ev.bind (copyv_ev b hy hm) ?_
      obtain ⟨r2, d1, d2⟩ := cert_ev 2 0 0 1 [2] b n hy (by simp) (isB1 2 (by decide) (by decide))
      refine Ev.bind d1 ?_
      cases r2 with
      | false => exact j1t
      | true =>
        obtain ⟨hr, hl, hi⟩ := c2 rfl
        obtain ⟨_, hl2, hi2⟩ := d2 rfl
        have hq : n / 3 ≤ 5 ∧ 1 ≤ n / 3 ∧ n = 3 * (n / 3) + 1 := by unfold rightN at hr; omega
        refine ev_succ ?_
        simp only [Bool.not_true, catenarytop_WholeMeets.j1, Bool.false_eq_true, if_false]
        refine out_l0 n l b (by omega) (by omega) true l.length 0 0 (by omega) (by omega) ?_
        rw [Nat.zero_add, List.drop_zero]
        have hw : ballot_Weak.f n = some (n / 3 * 1 + 1) := by unfold ballot_Weak.f; rw [times_is n 1 1 hr (by omega) (by omega)]; rfl
        have hf : ballot_Faults.f n = some (n / 3 * 1 + 0) := by unfold ballot_Faults.f; rw [times_is n 1 0 hr (by omega) (by omega)]; rfl
        have hsl : (signers l).length = l.length := List.length_map ..
        have hsb : (signers b).length = b.length := List.length_map ..
        have hm := meet _ (-1) n (signers l) (signers b) (Nat.le_refl _) hi hi2 (Or.inl (by
          intro g
          rw [g] at hsl
          rw [List.length_nil] at hsl
          omega))
        rw [hsl, hsb] at hm
        refine ev_succ ?_
        have g1 : ((prs (signers l) (signers b) : Nat) : Int) ≥ n / 3 * 1 + 1 := by omega
        have g2 : decide (((prs (signers l) (signers b) : Nat) : Int) > n / 3 * 1 + 0) = true := decide_eq_true (by omega)
        simp only [catenarytop_WholeMeets.l0, Int.lt_irrefl, if_false, hw, Option.bind_some, if_pos g1, hf, g2]
        exact Ev.now _
  exact key.rounds
end Go.Proofs.Ytdidlmkhcddbpaa.Pure
