/- The pure statement. -/
import Derived.Test.YtlnfiknllnonhaaPVoteAsksx9
import Derived.KernelRfl
namespace Go.Proofs.Ytlnfiknllnonhaa.Pure
open Go Go.RowKit Go.Proofs.Ytlnfiknllnonhaa.PVoteAsks Go.Proofs.YtlnfiknllnonhaaW.PrintWords Go.Proofs.YtlnfiknllnonhaaW.PrintLast Go.Proofs.YtlnfiknllnonhaaW.PrintMore
set_option linter.unusedVariables false
set_option linter.unusedSimpArgs false
theorem w64 (i : Nat) (h : i < 1000000000000000000) : wrap64 ((i : Int) + 1) = ((i + 1 : Nat) : Int) := by unfold wrap64; omega
theorem ev_succ {α : Type} {g : Nat → Option α} {r : α} (h : Ev (fun k => g (k + 1)) r) : Ev g r := Ev.step (fun _ => rfl) h
theorem rdL (xs : List (List Int)) (i : Nat) (h : i < xs.length) : rd_L2 xs (i : Int) = xs[i] := by
  unfold rd_L2
  rw [Int.toNat_natCast, List.getD_eq_getElem?_getD, List.getElem?_eq_getElem h]; rfl
def enc : Nat → Int → List Int
  | 0, x => [x % 256]
  | n + 1, x => if x ≥ 128 then Go.bits .or .u8 (x % 256) 128 :: enc n (x / 128) else [x % 256]
theorem enc_pos (n : Nat) (x : Int) (h : x ≥ 128) : enc (n + 1) x = [Go.bits .or .u8 (x % 256) 128] ++ enc n (x / 128) := by
  show (if x ≥ 128 then Go.bits .or .u8 (x % 256) 128 :: enc n (x / 128) else [x % 256]) = _
  rw [if_pos h]; rfl
theorem enc_len : ∀ n x, (enc n x).length ≤ n + 1
  | 0, _ => Nat.le_refl _
  | n + 1, x => by
    unfold enc
    split
    · have := enc_len n (x / 128); rw [List.length_cons]; omega
    · simp
theorem int_l0 : ∀ (n : Nat) (x : Int) (acc : List Int), 0 ≤ x → x < 128 ^ (n + 1) → acc.length + n < 1000 → Ev (fun k => octet_Int.l0 k x acc) (acc ++ enc n x, 0)
  | 0, x, acc, h0, h1, h2 => by
    apply ev_succ
    have e1 : ¬ x ≥ 128 := by omega
    have e2 : acc.length < 140737488355328 := by omega
    simp only [octet_Int.l0, if_neg e1, if_pos e2]
    exact Ev.now _
  | n + 1, x, acc, h0, h1, h2 => by
    apply ev_succ
    have e2 : acc.length < 140737488355328 := by omega
    by_cases e1 : x ≥ 128
    · simp only [octet_Int.l0, if_pos e1, if_pos e2]
      have := int_l0 n (x / 128) (acc ++ [Go.bits .or .u8 (x % 256) 128]) (by omega) (by
        have e : (128 : Int) ^ (n + 1 + 1) = 128 ^ (n + 1) * 128 := Int.pow_succ _ _
        rw [e] at h1
        exact Int.ediv_lt_of_lt_mul (by decide) h1) (by simp; omega)
      rw [List.append_assoc] at this
      rw [enc_pos n x e1]
      exact this
    · simp only [octet_Int.l0, if_neg e1, if_pos e2]
      rw [show enc (n + 1) x = [x % 256] by unfold enc; rw [if_neg e1]]
      exact Ev.now _
theorem int_ev (x : Int) (h0 : 0 ≤ x) (h1 : x ≤ 2147483647) : Ev (fun k => octet_Int.f k x) (enc 4 x, 0) := by
  have e1 : ¬ x < 0 := by omega
  have e2 : decide (x > 2147483647) = false := decide_eq_false (by omega)
  simp only [octet_Int.f, if_neg e1, e2]
  apply ev_succ
  simp only [octet_Int.j0, Bool.false_eq_true, if_false]
  exact int_l0 4 x [] h0 (by omega) (by decide)
theorem cat_l1 (xs : List (List Int)) (hx : xs.length < 1000) : ∀ (d i : Nat) (acc : List Int), d + i = xs.length → acc.length + (xs.drop i).flatten.length < 140737488355328 →
    Ev (fun k => slices_Concat_byte_byte.l1 k acc xs (xs.length : Int) (i : Int)) (acc ++ (xs.drop i).flatten)
  | 0, i, acc, hd, hl => by
    apply ev_succ
    have e1 : ¬ (i : Int) < (xs.length : Int) := by omega
    simp only [slices_Concat_byte_byte.l1, if_neg e1]
    rw [List.drop_eq_nil_of_le (by omega)]
    rw [List.flatten_nil, List.append_nil]
    exact Ev.now _
  | d + 1, i, acc, hd, hl => by
    apply ev_succ
    have hi : i < xs.length := by omega
    have e1 : (i : Int) < (xs.length : Int) := by omega
    have e2 : (0 : Int) ≤ (i : Int) := by omega
    rw [List.drop_eq_getElem_cons hi, List.flatten_cons] at hl ⊢
    rw [List.length_append] at hl
    have e3 : acc.length + (xs[i]).length < 140737488355328 := by omega
    simp only [slices_Concat_byte_byte.l1, if_pos e1, if_pos e2, rdL xs i hi, if_pos e3, w64 i (by omega)]
    have := cat_l1 xs hx d (i + 1) (acc ++ xs[i]) (by omega) (by rw [List.length_append]; omega)
    rw [List.append_assoc] at this
    exact this
theorem cat_l0 (xs : List (List Int)) (hx : xs.length < 1000) (r : List Int) (h : ∀ s : Nat, s < 140737488355328 → Ev (fun k => (slices_Grow_byte_byte.f () (s : Int)).bind fun t117 => (slices_Concat_byte_byte.l1 k t117 xs (xs.length : Int) 0)) r) :
    ∀ (d i s : Nat), d + i = xs.length → s + (xs.drop i).flatten.length < 140737488355328 →
    Ev (fun k => slices_Concat_byte_byte.l0 k xs (s : Int) xs (xs.length : Int) (i : Int)) r
  | 0, i, s, hd, hl => by
    apply ev_succ
    have e1 : ¬ (i : Int) < (xs.length : Int) := by omega
    simp only [slices_Concat_byte_byte.l0, if_neg e1]
    exact h s (by omega)
  | d + 1, i, s, hd, hl => by
    apply ev_succ
    have hi : i < xs.length := by omega
    have e1 : (i : Int) < (xs.length : Int) := by omega
    have e2 : (0 : Int) ≤ (i : Int) := by omega
    rw [List.drop_eq_getElem_cons hi, List.flatten_cons, List.length_append] at hl
    have e3 : wrap64 ((s : Int) + ((xs[i]).length : Int)) = ((s + (xs[i]).length : Nat) : Int) := by unfold wrap64; omega
    have e4 : ¬ ((s + (xs[i]).length : Nat) : Int) < 0 := by omega
    simp only [slices_Concat_byte_byte.l0, if_pos e1, if_pos e2, rdL xs i hi, e3, if_neg e4, w64 i (by omega)]
    exact cat_l0 xs hx r h d (i + 1) (s + (xs[i]).length) (by omega) (by omega)
theorem cat_ev (xs : List (List Int)) (hx : xs.length < 1000) (hl : xs.flatten.length < 140737488355328) : Ev (fun k => slices_Concat_byte_byte.f k xs) xs.flatten := by
  simp only [slices_Concat_byte_byte.f]
  refine cat_l0 xs hx _ (fun s hs => ?_) xs.length 0 0 (by omega) (by simpa using hl)
  have e1 : (0 : Int) ≤ (s : Int) := by omega
  have e2 : ((s : Int)).toNat < 140737488355328 := by omega
  simp only [slices_Grow_byte_byte.f, if_pos e1, if_pos e2, Option.bind_some]
  exact cat_l1 xs hx xs.length 0 [] (by omega) (by simpa using hl)
theorem or128 (y : Int) (h0 : 0 ≤ y) : Go.bits .or .u8 (y % 256) 128 = y % 128 + 128 := by
  have key : ∀ n : Fin 256, Go.bits .or .u8 ((n.val : Nat) : Int) 128 = ((n.val : Nat) : Int) % 128 + 128 := by decide +kernel
  have h := key ⟨(y % 256).toNat, by omega⟩
  have e : (((y % 256).toNat : Nat) : Int) = y % 256 := by omega
  rw [show ((⟨(y % 256).toNat, by omega⟩ : Fin 256).val) = (y % 256).toNat from rfl, e] at h
  rw [h]; omega

def encX (x : Int) : List Int := if 0 ≤ x ∧ x ≤ 2147483647 then enc 4 x else []
theorem encX_len (x : Int) : (encX x).length ≤ 5 := by
  unfold encX; split
  · exact enc_len 4 x
  · simp
theorem int_evX (x : Int) : Ev (fun k => octet_Int.f k x) (encX x, if 0 ≤ x ∧ x ≤ 2147483647 then 0 else 14) := by
  by_cases h : 0 ≤ x ∧ x ≤ 2147483647
  · rw [show encX x = enc 4 x by unfold encX; rw [if_pos h], if_pos h]
    exact int_ev x h.1 h.2
  · rw [show encX x = [] by unfold encX; rw [if_neg h], if_neg h]
    by_cases e1 : x < 0
    · simp only [octet_Int.f, if_pos e1]
      apply ev_succ
      simp only [octet_Int.j0, if_true]
      exact Ev.now _
    · have e2 : decide (x > 2147483647) = true := decide_eq_true (by omega)
      simp only [octet_Int.f, if_neg e1, e2]
      apply ev_succ
      simp only [octet_Int.j0, if_true]
      exact Ev.now _
def bytesX (l : List Int) : List Int := encX (l.length : Int) ++ l
def packX (xs : List (List Int)) : List Int := (xs.map bytesX).flatten
theorem packX_cons (x : List Int) (xs : List (List Int)) : packX (x :: xs) = bytesX x ++ packX xs := by unfold packX; rw [List.map_cons, List.flatten_cons]
theorem packX_app (xs ys : List (List Int)) : packX (xs ++ ys) = packX xs ++ packX ys := by unfold packX; rw [List.map_append, List.flatten_append]
theorem bytes_evX (l : List Int) (h : (bytesX l).length < 140737488355328) : Ev (fun k => octet_Bytes.f k l) (bytesX l) := by
  simp only [octet_Bytes.f]
  refine Ev.bind (int_evX (l.length : Int)) ?_
  have e : [encX (l.length : Int), l].flatten = bytesX l := by simp [bytesX]
  refine Ev.bind (cat_ev [encX (l.length : Int), l] (by simp) (by rw [e]; exact h)) ?_
  rw [e]
  exact Ev.now _
theorem pack_l0X (xs : List (List Int)) (hx : xs.length < 1000) : ∀ (d i : Nat) (acc : List Int), d + i = xs.length → acc.length + (packX (xs.drop i)).length < 140737488355328 →
    Ev (fun k => octet_Pack.l0 k acc xs (xs.length : Int) (i : Int)) (acc ++ packX (xs.drop i))
  | 0, i, acc, hd, hl => by
    apply ev_succ
    have e1 : ¬ (i : Int) < (xs.length : Int) := by omega
    simp only [octet_Pack.l0, if_neg e1]
    rw [List.drop_eq_nil_of_le (by omega)]
    rw [show packX [] = [] from rfl, List.append_nil]
    exact Ev.now _
  | d + 1, i, acc, hd, hl => by
    apply ev_succ
    have hi : i < xs.length := by omega
    have e1 : (i : Int) < (xs.length : Int) := by omega
    have e2 : (0 : Int) ≤ (i : Int) := by omega
    rw [List.drop_eq_getElem_cons hi, packX_cons] at hl ⊢
    rw [List.length_append] at hl
    have e3 : acc.length + (bytesX xs[i]).length < 140737488355328 := by omega
    simp only [octet_Pack.l0, if_pos e1, if_pos e2, rdL xs i hi]
    refine Ev.bind (bytes_evX xs[i] (by omega)) ?_
    simp only [if_pos e3, w64 i (by omega)]
    have := pack_l0X xs hx d (i + 1) (acc ++ bytesX xs[i]) (by omega) (by rw [List.length_append]; omega)
    rw [List.append_assoc] at this
    exact this
theorem pack_evX (xs : List (List Int)) (hx : xs.length < 1000) (h : (packX xs).length < 140737488355328) : Ev (fun k => octet_Pack.f k xs) (packX xs) := by
  simp only [octet_Pack.f]
  exact pack_l0X xs hx xs.length 0 [] (by omega) (by simpa using h)
theorem rint_go : ∀ (n : Nat) (x : Int), n ≤ 4 → 0 ≤ x → x < 128 ^ (n + 1) → x ≤ 2147483647 → Ev (fun k => catenaryref01_Int.f k x) (enc n x, 0)
  | 0, x, hn, h0, h1, h2 => by
    apply ev_succ
    have e1 : ¬ x < 0 := by omega
    have e2 : decide (x > 2147483647) = false := decide_eq_false (by omega)
    simp only [catenaryref01_Int.f, if_neg e1, e2]
    apply ev_succ
    have e3 : x < 128 := by omega
    simp only [catenaryref01_Int.j0, Bool.false_eq_true, if_false, if_pos e3]
    exact Ev.now _
  | n + 1, x, hn, h0, h1, h2 => by
    apply ev_succ
    have e1 : ¬ x < 0 := by omega
    have e2 : decide (x > 2147483647) = false := decide_eq_false (by omega)
    simp only [catenaryref01_Int.f, if_neg e1, e2]
    apply ev_succ
    by_cases e3 : x < 128
    · simp only [catenaryref01_Int.j0, Bool.false_eq_true, if_false, if_pos e3]
      rw [show enc (n + 1) x = [x % 256] by unfold enc; rw [if_neg (by omega)]]
      exact Ev.now _
    · have hq : 0 ≤ x / 128 ∧ x / 128 ≤ 2147483647 ∧ x / 128 < 128 ^ (n + 1) := by
        refine ⟨by omega, by omega, ?_⟩
        have e : (128 : Int) ^ (n + 1 + 1) = 128 ^ (n + 1) * 128 := Int.pow_succ _ _
        rw [e] at h1
        exact Int.ediv_lt_of_lt_mul (by decide) h1
      have ih := rint_go n (x / 128) (by omega) hq.1 hq.2.2 hq.2.1
      clear h1 hq
      have e4 : wrap64 (Int.tdiv x 128) = x / 128 := by rw [Int.tdiv_eq_ediv_of_nonneg h0]; unfold wrap64; omega
      have e5 : wrap64 (Int.tmod x 128 + 128) % 256 = Go.bits .or .u8 (x % 256) 128 := by rw [or128 x h0, Int.tmod_eq_emod_of_nonneg h0]; unfold wrap64; omega
      simp only [catenaryref01_Int.j0, Bool.false_eq_true, if_false, if_neg e3, e4, e5]
      refine Ev.bind ih ?_
      have hl := enc_len n (x / 128)
      rw [enc_pos n x (by omega)]
      have e7 : ([Go.bits .or .u8 (x % 256) 128] : List Int).length + (enc n (x / 128)).length < 140737488355328 := by
        rw [List.length_singleton]
        omega
      simp only [Option.bind_some, if_pos e7]
      exact Ev.now _
theorem rint_evX (x : Int) : Ev (fun k => catenaryref01_Int.f k x) (encX x, if 0 ≤ x ∧ x ≤ 2147483647 then 0 else 14) := by
  by_cases h : 0 ≤ x ∧ x ≤ 2147483647
  · rw [show encX x = enc 4 x by unfold encX; rw [if_pos h], if_pos h]
    exact rint_go 4 x (by decide) h.1 (by omega) h.2
  · rw [show encX x = [] by unfold encX; rw [if_neg h], if_neg h]
    apply ev_succ
    by_cases e1 : x < 0
    · simp only [catenaryref01_Int.f, if_pos e1]
      apply ev_succ
      simp only [catenaryref01_Int.j0, if_true]
      exact Ev.now _
    · have e2 : decide (x > 2147483647) = true := decide_eq_true (by omega)
      simp only [catenaryref01_Int.f, if_neg e1, e2]
      apply ev_succ
      simp only [catenaryref01_Int.j0, if_true]
      exact Ev.now _
theorem rbytes_evX (l : List Int) (h : (bytesX l).length < 140737488355328) : Ev (fun k => catenaryref01_Bytes.f k l) (bytesX l) := by
  simp only [catenaryref01_Bytes.f]
  refine Ev.bind (rint_evX (l.length : Int)) ?_
  have e : (encX (l.length : Int)).length + l.length < 140737488355328 := by unfold bytesX at h; rw [List.length_append] at h; exact h
  simp only [if_pos e]
  exact Ev.now _
theorem rpack_l0X (xs : List (List Int)) (hx : xs.length < 1000) : ∀ (d i : Nat) (acc : List Int), d + i = xs.length → acc.length + (packX (xs.drop i)).length < 140737488355328 →
    Ev (fun k => catenaryref01_Pack.l0 k acc xs (xs.length : Int) (i : Int)) (acc ++ packX (xs.drop i))
  | 0, i, acc, hd, hl => by
    apply ev_succ
    have e1 : ¬ (i : Int) < (xs.length : Int) := by omega
    simp only [catenaryref01_Pack.l0, if_neg e1]
    rw [List.drop_eq_nil_of_le (by omega)]
    rw [show packX [] = [] from rfl, List.append_nil]
    exact Ev.now _
  | d + 1, i, acc, hd, hl => by
    apply ev_succ
    have hi : i < xs.length := by omega
    have e1 : (i : Int) < (xs.length : Int) := by omega
    have e2 : (0 : Int) ≤ (i : Int) := by omega
    rw [List.drop_eq_getElem_cons hi, packX_cons] at hl ⊢
    rw [List.length_append] at hl
    have e3 : acc.length + (bytesX xs[i]).length < 140737488355328 := by omega
    simp only [catenaryref01_Pack.l0, if_pos e1, if_pos e2, rdL xs i hi]
    refine Ev.bind (rbytes_evX xs[i] (by omega)) ?_
    simp only [if_pos e3, w64 i (by omega)]
    have := rpack_l0X xs hx d (i + 1) (acc ++ bytesX xs[i]) (by omega) (by rw [List.length_append]; omega)
    rw [List.append_assoc] at this
    exact this
theorem rpack_evX (xs : List (List Int)) (hx : xs.length < 1000) (h : (packX xs).length < 140737488355328) : Ev (fun k => catenaryref01_Pack.f k xs) (packX xs) := by
  simp only [catenaryref01_Pack.f]
  exact rpack_l0X xs hx xs.length 0 [] (by omega) (by simpa using h)
def le8 (x : Int) : List Int := [x / 2 ^ (8 * 0) % 256, x / 2 ^ (8 * 1) % 256, x / 2 ^ (8 * 2) % 256, x / 2 ^ (8 * 3) % 256, x / 2 ^ (8 * 4) % 256, x / 2 ^ (8 * 5) % 256, x / 2 ^ (8 * 6) % 256, x / 2 ^ (8 * 7) % 256]
def numsX (l : List Int) : List Int := (l.map le8).flatten
theorem le8_at (x3 : List Int) (x : Int) : x3 ++ le8 x = ((((((((x3 ++ [x / 2 ^ (8 * 0) % 256]) ++ [x / 2 ^ (8 * 1) % 256]) ++ [x / 2 ^ (8 * 2) % 256]) ++ [x / 2 ^ (8 * 3) % 256]) ++ [x / 2 ^ (8 * 4) % 256]) ++ [x / 2 ^ (8 * 5) % 256]) ++ [x / 2 ^ (8 * 6) % 256]) ++ [x / 2 ^ (8 * 7) % 256]) := by
  unfold le8
  simp only [List.append_assoc, List.cons_append, List.nil_append]
theorem nums_step (x3 : List Int) (x5 : Int) (x7 : List Int) (x8 x9 : Int) (i : Nat) (hi : i < 8) (hl : x3.length < 1000) (r : List Int)
    (h : Ev (fun k => vote_nums.l1 k (x3 ++ [x5 / 2 ^ (8 * i) % 256]) x5 x7 x8 x9 ((i + 1 : Nat) : Int)) r) : Ev (fun k => vote_nums.l1 k x3 x5 x7 x8 x9 (i : Int)) r := by
  apply ev_succ
  have e1 : (i : Int) < 8 := by omega
  have e0 : wrap64 (8 * (i : Int)) = ((8 * i : Nat) : Int) := by unfold wrap64; omega
  have e2 : (0 : Int) ≤ ((8 * i : Nat) : Int) := by omega
  have e3 : x3.length < 140737488355328 := by omega
  have e4 : shr .i64 x5 ((8 * i : Nat) : Int) = x5 / 2 ^ (8 * i) := by
    unfold shr
    rw [Int.toNat_natCast, Nat.min_eq_left (Nat.le_trans (show 8 * i ≤ 56 by omega) (by decide))]
  simp only [vote_nums.l1, e0, if_pos e1, if_pos e2, if_pos e3, e4, w64 i (by omega)]
  exact h
theorem nums_in (x3 : List Int) (x5 : Int) (x7 : List Int) (x8 x9 : Int) (hl : x3.length < 900) (r : List Int)
    (h : Ev (fun k => vote_nums.l0 k (x3 ++ le8 x5) x7 x8 (wrap64 (x9 + 1))) r) : Ev (fun k => vote_nums.l1 k x3 x5 x7 x8 x9 0) r := by
  rw [le8_at] at h
  refine nums_step _ _ _ _ _ 0 (by omega) (by omega) _ ?_
  refine nums_step _ _ _ _ _ 1 (by omega) (by simp; omega) _ ?_
  refine nums_step _ _ _ _ _ 2 (by omega) (by simp; omega) _ ?_
  refine nums_step _ _ _ _ _ 3 (by omega) (by simp; omega) _ ?_
  refine nums_step _ _ _ _ _ 4 (by omega) (by simp; omega) _ ?_
  refine nums_step _ _ _ _ _ 5 (by omega) (by simp; omega) _ ?_
  refine nums_step _ _ _ _ _ 6 (by omega) (by simp; omega) _ ?_
  refine nums_step _ _ _ _ _ 7 (by omega) (by simp; omega) _ ?_
  apply ev_succ
  have e : ¬ (((7 + 1 : Nat) : Int)) < 8 := by omega
  simp only [vote_nums.l1, if_neg e]
  exact h
theorem rd_at (xs : List Int) (i : Nat) (h : i < xs.length) : rd xs (i : Int) = xs[i] := by
  unfold rd
  rw [Int.toNat_natCast, List.getD_eq_getElem?_getD, List.getElem?_eq_getElem h]; rfl
theorem nums_l0 (xs : List Int) (hx : xs.length < 100) : ∀ (d i : Nat) (acc : List Int), d + i = xs.length → acc.length + d * 8 < 900 →
    Ev (fun k => vote_nums.l0 k acc xs (xs.length : Int) (i : Int)) (acc ++ numsX (xs.drop i))
  | 0, i, acc, hd, hl => by
    apply ev_succ
    have e1 : ¬ (i : Int) < (xs.length : Int) := by omega
    simp only [vote_nums.l0, if_neg e1]
    rw [List.drop_eq_nil_of_le (by omega), show numsX [] = [] from rfl, List.append_nil]
    exact Ev.now _
  | d + 1, i, acc, hd, hl => by
    apply ev_succ
    have hi : i < xs.length := by omega
    have e1 : (i : Int) < (xs.length : Int) := by omega
    have e2 : (0 : Int) ≤ (i : Int) := by omega
    rw [List.drop_eq_getElem_cons hi, show numsX (xs[i] :: xs.drop (i + 1)) = le8 xs[i] ++ numsX (xs.drop (i + 1)) from rfl, ← List.append_assoc]
    simp only [vote_nums.l0, if_pos e1, if_pos e2, rd_at xs i hi]
    refine nums_in acc xs[i] xs _ _ (by omega) _ ?_
    rw [w64 i (by omega)]
    exact nums_l0 xs hx d (i + 1) (acc ++ le8 xs[i]) (by omega) (by rw [List.length_append, show (le8 xs[i]).length = 8 from rfl]; omega)
theorem nums_ev (xs : List Int) (hx : xs.length < 100) : Ev (fun k => vote_nums.f k xs) (numsX xs) := by
  simp only [vote_nums.f]
  exact nums_l0 xs hx xs.length 0 [] (by omega) (by simp; omega)
def u8at (x : Int) (i : Nat) : Int := x % 2 ^ 64 / 2 ^ (8 * i)
theorem u8_facts (x : Int) (i : Nat) (hi : i < 8) : Int.tmod (u8at x i) 256 % 256 = x / 2 ^ (8 * i) % 256 ∧ IntKind.u64.wrap (Int.tdiv (u8at x i) 256) = u8at x (i + 1) := by
  have h0 : 0 ≤ u8at x i := Int.ediv_nonneg (by omega) (Int.pow_nonneg (by decide))
  have hw : ∀ y : Int, IntKind.u64.wrap y = y % 2 ^ 64 := fun _ => rfl
  rw [Int.tmod_eq_emod_of_nonneg h0, Int.tdiv_eq_ediv_of_nonneg h0, hw]
  clear h0 hw
  unfold u8at
  have : i = 0 ∨ i = 1 ∨ i = 2 ∨ i = 3 ∨ i = 4 ∨ i = 5 ∨ i = 6 ∨ i = 7 := by omega
  rcases this with rfl | rfl | rfl | rfl | rfl | rfl | rfl | rfl <;> omega
theorem rnums_step (x3 : List Int) (x : Int) (x9 : List Int) (x10 x11 : Int) (i : Nat) (hi : i < 8) (hl : x3.length < 1000) (r : List Int)
    (h : Ev (fun k => catenaryref06_Nums.l1 k (x3 ++ [x / 2 ^ (8 * i) % 256]) (u8at x (i + 1)) ((i + 1 : Nat) : Int) x9 x10 x11) r) : Ev (fun k => catenaryref06_Nums.l1 k x3 (u8at x i) (i : Int) x9 x10 x11) r := by
  apply ev_succ
  have e1 : (i : Int) < 8 := by omega
  have e3 : x3.length < 140737488355328 := by omega
  simp only [catenaryref06_Nums.l1, if_pos e1, if_pos e3, (u8_facts x i hi).1, (u8_facts x i hi).2, w64 i (by omega)]
  exact h
theorem rnums_in (x3 : List Int) (x : Int) (x9 : List Int) (x10 x11 : Int) (hl : x3.length < 900) (r : List Int)
    (h : Ev (fun k => catenaryref06_Nums.l0 k (x3 ++ le8 x) x9 x10 (wrap64 (x11 + 1))) r) : Ev (fun k => catenaryref06_Nums.l1 k x3 (IntKind.u64.wrap x) 0 x9 x10 x11) r := by
  rw [le8_at] at h
  rw [show IntKind.u64.wrap x = u8at x 0 by unfold u8at; rw [show IntKind.u64.wrap x = x % 2 ^ 64 from rfl]; omega]
  refine rnums_step _ _ _ _ _ 0 (by omega) (by omega) _ ?_
  refine rnums_step _ _ _ _ _ 1 (by omega) (by simp; omega) _ ?_
  refine rnums_step _ _ _ _ _ 2 (by omega) (by simp; omega) _ ?_
  refine rnums_step _ _ _ _ _ 3 (by omega) (by simp; omega) _ ?_
  refine rnums_step _ _ _ _ _ 4 (by omega) (by simp; omega) _ ?_
  refine rnums_step _ _ _ _ _ 5 (by omega) (by simp; omega) _ ?_
  refine rnums_step _ _ _ _ _ 6 (by omega) (by simp; omega) _ ?_
  refine rnums_step _ _ _ _ _ 7 (by omega) (by simp; omega) _ ?_
  apply ev_succ
  have e : ¬ (((7 + 1 : Nat) : Int)) < 8 := by omega
  simp only [catenaryref06_Nums.l1, if_neg e]
  exact h
theorem rnums_l0 (xs : List Int) (hx : xs.length < 100) : ∀ (d i : Nat) (acc : List Int), d + i = xs.length → acc.length + d * 8 < 900 →
    Ev (fun k => catenaryref06_Nums.l0 k acc xs (xs.length : Int) (i : Int)) (acc ++ numsX (xs.drop i))
  | 0, i, acc, hd, hl => by
    apply ev_succ
    have e1 : ¬ (i : Int) < (xs.length : Int) := by omega
    simp only [catenaryref06_Nums.l0, if_neg e1]
    rw [List.drop_eq_nil_of_le (by omega), show numsX [] = [] from rfl, List.append_nil]
    exact Ev.now _
  | d + 1, i, acc, hd, hl => by
    apply ev_succ
    have hi : i < xs.length := by omega
    have e1 : (i : Int) < (xs.length : Int) := by omega
    have e2 : (0 : Int) ≤ (i : Int) := by omega
    rw [List.drop_eq_getElem_cons hi, show numsX (xs[i] :: xs.drop (i + 1)) = le8 xs[i] ++ numsX (xs.drop (i + 1)) from rfl, ← List.append_assoc]
    simp only [catenaryref06_Nums.l0, if_pos e1, if_pos e2, rd_at xs i hi]
    refine rnums_in acc xs[i] xs _ _ (by omega) _ ?_
    rw [w64 i (by omega)]
    exact rnums_l0 xs hx d (i + 1) (acc ++ le8 xs[i]) (by omega) (by rw [List.length_append, show (le8 xs[i]).length = 8 from rfl]; omega)
theorem rnums_ev (xs : List Int) (hx : xs.length < 100) : Ev (fun k => catenaryref06_Nums.f k xs) (numsX xs) := by
  simp only [catenaryref06_Nums.f]
  exact rnums_l0 xs hx xs.length 0 [] (by omega) (by simp; omega)
abbrev okB := Go.Proofs.Ytlnfiknllnonhaa.Sha.okB
abbrev shaR := Go.Proofs.Ytlnfiknllnonhaa.Sha.shaR
def isB (l : List Int) : Prop := ∀ b ∈ l, 0 ≤ b ∧ b < 256
theorem isB_nil : isB [] := fun _ h => by simp at h
theorem isB_app {a b : List Int} (ha : isB a) (hb : isB b) : isB (a ++ b) := fun x h => (List.mem_append.1 h).elim (ha x) (hb x)
theorem okB_of (l : List Int) (h1 : l.length < 140737488352000) (h2 : isB l) : okB l = true := by
  show Go.Proofs.Ytlnfiknllnonhaa.Sha.okB l = true
  unfold Go.Proofs.Ytlnfiknllnonhaa.Sha.okB
  rw [Bool.and_eq_true, decide_eq_true_iff, List.all_eq_true]
  exact ⟨h1, fun b hb => by have := h2 b hb; simp [this.1, this.2]⟩
theorem isB_enc : ∀ (n : Nat) (x : Int), 0 ≤ x → isB (enc n x)
  | 0, x, h => fun b hb => by
    rw [show enc 0 x = [x % 256] from rfl, List.mem_singleton] at hb
    omega
  | n + 1, x, h => fun b hb => by
    by_cases h1 : x ≥ 128
    · rw [enc_pos n x h1, or128 x h] at hb
      rcases List.mem_append.1 hb with hb | hb
      · rw [List.mem_singleton] at hb; omega
      · exact isB_enc n (x / 128) (by omega) b hb
    · rw [show enc (n + 1) x = [x % 256] by unfold enc; rw [if_neg h1], List.mem_singleton] at hb
      omega
theorem isB_encX (x : Int) : isB (encX x) := by
  unfold encX
  split
  · next h => exact isB_enc 4 x h.1
  · exact isB_nil
theorem isB_packX : ∀ (xs : List (List Int)), (∀ x ∈ xs, isB x) → isB (packX xs)
  | [], _ => isB_nil
  | x :: xs, h => by
    rw [packX_cons]
    exact isB_app (isB_app (isB_encX _) (h x (by simp))) (isB_packX xs (fun y hy => h y (by simp [hy])))
theorem isB_nums : ∀ l : List Int, isB (numsX l)
  | [] => isB_nil
  | x :: l => by
    rw [show numsX (x :: l) = le8 x ++ numsX l from rfl]
    refine isB_app (fun b hb => ?_) (isB_nums l)
    unfold le8 at hb
    simp only [List.mem_cons, List.not_mem_nil, or_false] at hb
    omega
def signP : List Int := [115, 105, 103, 110]
def goodK (key : Int) : Prop := 0 ≤ key ∧ key ≤ 127
instance (key : Int) : Decidable (goodK key) := by unfold goodK; exact inferInstance
def textX (key : Int) (dom : List Int) (parts : List (List Int)) : List Int := if goodK key then packX ([signP, encX key, dom] ++ parts) else []
def signX (key : Int) (dom : List Int) (parts : List (List Int)) : List Int := if goodK key then shaR (textX key dom parts) else []
theorem keyright (key : Int) : key_right.f key = some (decide (goodK key)) := by
  unfold key_right.f goodK
  by_cases h : key ≥ 0
  · rw [if_pos h]; congr 1; apply decide_eq_decide.2; omega
  · rw [if_neg h]; congr 1; symm; apply decide_eq_false; omega
theorem keytext_ev (key : Int) (dom : ByteArray) (parts : List (List Int)) (hp : parts.length < 900) (hd : (bytesOf dom).length < 1000) (h : (packX ([signP, encX key, bytesOf dom] ++ parts)).length < 140737488355328) :
    Ev (fun k => key_Text.f k key dom parts) (textX key (bytesOf dom) parts) := by
  simp only [key_Text.f, keyright, Option.bind_some]
  unfold textX
  by_cases hk : goodK key
  · simp only [decide_eq_true hk, if_true, if_pos hk]
    refine Ev.bind (int_evX key) ?_
    have e1 : (bytesOf dom).length ≤ 9223372036854775807 := by omega
    simp only [if_pos e1]
    rw [packX_app] at h ⊢
    rw [List.length_append] at h
    refine Ev.bind (pack_evX [signP, encX key, bytesOf dom] (by simp) (by omega)) ?_
    refine Ev.bind (pack_evX parts (by omega) (by omega)) ?_
    simp only [if_pos h]
    exact Ev.now _
  · simp only [decide_eq_false hk, Bool.false_eq_true, if_false, if_neg hk]
    exact Ev.now _
theorem rtext_ev (key : Int) (dom : ByteArray) (parts : List (List Int)) (hp : parts.length < 900) (hd : (bytesOf dom).length < 1000) (h : (packX ([signP, encX key, bytesOf dom] ++ parts)).length < 140737488355328) :
    Ev (fun k => catenaryref03_Text.f k key dom parts) (textX key (bytesOf dom) parts) := by
  have go : ∀ b : Bool, b = decide (¬ goodK key) → Ev (fun k => catenaryref03_Text.j0 k key dom parts b) (textX key (bytesOf dom) parts) := by
    intro b hb
    subst hb
    apply ev_succ
    unfold textX
    by_cases hk : goodK key
    · have e0 : decide (¬ goodK key) = false := decide_eq_false (fun h => h hk)
      simp only [catenaryref03_Text.j0, e0, Bool.false_eq_true, if_false, if_pos hk]
      refine Ev.bind (rint_evX key) ?_
      have e1 : (bytesOf dom).length ≤ 9223372036854775807 := by omega
      have e2 : ([([115, 105, 103, 110] : List Int), encX key, bytesOf dom] : List (List Int)).length + parts.length < 5864062014805 := by
        rw [show ([([115, 105, 103, 110] : List Int), encX key, bytesOf dom] : List (List Int)).length = 3 from rfl]; omega
      simp only [if_pos e1, Option.bind_some, if_pos e2]
      refine Ev.bind (rpack_evX ([signP, encX key, bytesOf dom] ++ parts) (by simp; omega) h) ?_
      exact Ev.now _
    · have e0 : decide (¬ goodK key) = true := decide_eq_true hk
      simp only [catenaryref03_Text.j0, e0, if_true, if_neg hk]
      exact Ev.now _
  simp only [catenaryref03_Text.f]
  by_cases h0 : key < 0
  · simp only [if_pos h0]
    exact go true (by symm; apply decide_eq_true; unfold goodK; omega)
  · simp only [if_neg h0]
    exact go _ (by apply decide_eq_decide.2; unfold goodK; omega)
theorem sha_ev (l : List Int) (h : okB l = true) : sha_Sum.f l = some (shaR l) := by unfold sha_Sum.f; exact if_pos h
theorem rsha_ev (l : List Int) (h : okB l = true) : catenaryref02_Sum.f l = some (shaR l) := by unfold catenaryref02_Sum.f; exact if_pos h
theorem textX_B (key : Int) (dom : List Int) (parts : List (List Int)) (hd : isB dom) (hp : ∀ x ∈ parts, isB x) : isB (textX key dom parts) := by
  unfold textX
  split
  · refine isB_packX _ (fun x hx => ?_)
    rcases List.mem_append.1 hx with hx | hx
    · simp only [List.mem_cons, List.not_mem_nil, or_false] at hx
      rcases hx with rfl | rfl | rfl
      · unfold signP; intro b hb; simp only [List.mem_cons, List.not_mem_nil, or_false] at hb; omega
      · exact isB_encX _
      · exact hd
    · exact hp x hx
  · exact isB_nil
theorem textX_le (key : Int) (dom : List Int) (parts : List (List Int)) : (textX key dom parts).length ≤ (packX ([signP, encX key, dom] ++ parts)).length := by
  unfold textX; split
  · exact Nat.le_refl _
  · simp
theorem keysign_ev (key : Int) (dom : ByteArray) (parts : List (List Int)) (hp : parts.length < 900) (hd : (bytesOf dom).length < 1000) (h : (packX ([signP, encX key, bytesOf dom] ++ parts)).length < 140737488352000) (hdb : isB (bytesOf dom)) (hpb : ∀ x ∈ parts, isB x) :
    Ev (fun k => key_Sign.f k key dom parts) (signX key (bytesOf dom) parts) := by
  have hok : okB (textX key (bytesOf dom) parts) = true := okB_of _ (Nat.lt_of_le_of_lt (textX_le _ _ _) h) (textX_B _ _ _ hdb hpb)
  simp only [key_Sign.f, keyright, Option.bind_some]
  unfold signX
  by_cases hk : goodK key
  · simp only [decide_eq_true hk, if_true, if_pos hk]
    refine Ev.bind (keytext_ev key dom parts hp hd (by omega)) ?_
    simp only [sha_ev _ hok, Option.bind_some]
    exact Ev.now _
  · simp only [decide_eq_false hk, Bool.false_eq_true, if_false, if_neg hk]
    exact Ev.now _
theorem rsign_ev (key : Int) (dom : ByteArray) (parts : List (List Int)) (hp : parts.length < 900) (hd : (bytesOf dom).length < 1000) (h : (packX ([signP, encX key, bytesOf dom] ++ parts)).length < 140737488352000) (hdb : isB (bytesOf dom)) (hpb : ∀ x ∈ parts, isB x) :
    Ev (fun k => catenaryref03_Sign.f k key dom parts) (signX key (bytesOf dom) parts) := by
  have hok : okB (textX key (bytesOf dom) parts) = true := okB_of _ (Nat.lt_of_le_of_lt (textX_le _ _ _) h) (textX_B _ _ _ hdb hpb)
  simp only [catenaryref03_Sign.f]
  refine Ev.bind (rtext_ev key dom parts hp hd (by omega)) ?_
  by_cases hk : goodK key
  · have e0 : ¬ ((textX key (bytesOf dom) parts).length : Int) = 0 := by
      unfold textX
      rw [if_pos hk, List.cons_append, packX_cons, List.length_append]
      unfold bytesX
      rw [List.length_append, show signP.length = 4 from rfl]
      omega
    simp only [if_neg e0, rsha_ev _ hok, Option.bind_some]
    rw [show signX key (bytesOf dom) parts = shaR (textX key (bytesOf dom) parts) by unfold signX; rw [if_pos hk]]
    exact Ev.now _
  · have e0 : ((textX key (bytesOf dom) parts).length : Int) = 0 := by
      unfold textX
      rw [if_neg hk]; rfl
    simp only [if_pos e0]
    rw [show signX key (bytesOf dom) parts = [] by unfold signX; rw [if_neg hk]]
    exact Ev.now _
theorem bytesX_len (l : List Int) : (bytesX l).length ≤ l.length + 5 := by
  unfold bytesX; rw [List.length_append]; have := encX_len (l.length : Int); omega
structure Fits (key : Int) (dom : ByteArray) (parts : List (List Int)) : Prop where
  hp : parts.length < 900
  hd : (bytesOf dom).length < 1000
  h : (packX ([signP, encX key, bytesOf dom] ++ parts)).length < 140737488352000
  hdb : isB (bytesOf dom)
  hpb : ∀ x ∈ parts, isB x
def eqS (a b : List Int) : Bool := (strOfNums a).toList == (strOfNums b).toList
theorem eqS_self (a : List Int) : eqS a a = true := by unfold eqS; exact beq_self_eq_true _
theorem isB_of (l : List Int) (h : Kd.gSl 1 (Kd.gInt .u8) l) : l.length ≤ 140737488351232 ∧ isB l := by
  refine ⟨by have := h.2.1; omega, fun b hb => ?_⟩
  have h1 := h.2.2 b hb
  unfold Kd.gInt at h1
  have h2 : (decide (IntKind.u8.min ≤ b) && decide (b ≤ IntKind.u8.max)) = true := h1
  rw [Bool.and_eq_true, decide_eq_true_iff, decide_eq_true_iff] at h2
  have e1 : IntKind.u8.min = 0 := by decide
  have e2 : IntKind.u8.max = 255 := by decide
  rw [e1, e2] at h2
  omega
def cliX (j : Int) : Int := if 1 ≤ j ∧ j ≤ 27 then 100 + j else -1
theorem w100 (j : Int) (h : 1 ≤ j ∧ j ≤ 27) : wrap64 (100 + j) = 100 + j := by unfold wrap64; omega
theorem cli_ev (s : Int) : Ev (fun k => key_Client.f k s) (cliX s) := by
  have go : ∀ b : Bool, b = decide (¬ (1 ≤ s ∧ s ≤ 27)) → Ev (fun k => key_Client.j0 k s b) (cliX s) := by
    intro b hb
    subst hb
    apply ev_succ
    unfold cliX
    by_cases h : 1 ≤ s ∧ s ≤ 27
    · have e0 : decide (¬ (1 ≤ s ∧ s ≤ 27)) = false := decide_eq_false (fun g => g h)
      simp only [key_Client.j0, e0, Bool.false_eq_true, if_false, if_pos h, w100 s h]
      exact Ev.now _
    · have e0 : decide (¬ (1 ≤ s ∧ s ≤ 27)) = true := decide_eq_true h
      simp only [key_Client.j0, e0, if_true, if_neg h]
      exact Ev.now _
  simp only [key_Client.f]
  by_cases h0 : s < 1
  · simp only [if_pos h0]
    exact go true (by symm; apply decide_eq_true; omega)
  · simp only [if_neg h0]
    exact go _ (by apply decide_eq_decide.2; omega)
theorem rcli_ev (s : Int) : Ev (fun k => catenaryref03_Client.f k s) (cliX s) := by
  have go : ∀ b : Bool, b = decide (1 ≤ s ∧ s ≤ 27) → Ev (fun k => catenaryref03_Client.j0 k s b) (cliX s) := by
    intro b hb
    subst hb
    apply ev_succ
    unfold cliX
    by_cases h : 1 ≤ s ∧ s ≤ 27
    · simp only [catenaryref03_Client.j0, decide_eq_true h, if_true, if_pos h, w100 s h]
      exact Ev.now _
    · simp only [catenaryref03_Client.j0, decide_eq_false h, Bool.false_eq_true, if_false, if_neg h]
      exact Ev.now _
  simp only [catenaryref03_Client.f]
  by_cases h0 : s ≥ 1
  · simp only [if_pos h0]
    exact go _ (by apply decide_eq_decide.2; omega)
  · simp only [if_neg h0]
    exact go false (by symm; apply decide_eq_false; omega)
def domR : ByteArray := ⟨#[114, 101, 113, 117, 101, 115, 116]⟩
theorem domR_len : (bytesOf domR).length = 7 := rfl
theorem domR_B : isB (bytesOf domR) := by
  intro b hb
  rw [show bytesOf domR = [114, 101, 113, 117, 101, 115, 116] from rfl] at hb
  simp only [List.mem_cons, List.not_mem_nil, or_false] at hb
  omega
def partsR (c s : Int) (op : List Int) : List (List Int) := [numsX [c, s], op]
theorem fitsR (key c s : Int) (op : List Int) (hl : op.length ≤ 140737488351232) (hb : isB op) : Fits key domR (partsR c s op) := by
  refine ⟨by unfold partsR; simp, by rw [domR_len]; decide, ?_, domR_B, ?_⟩
  · unfold partsR
    rw [packX_app, packX_cons, packX_cons, packX_cons, packX_cons, packX_cons, show packX [] = [] from rfl]
    simp only [List.length_append, List.append_nil]
    have h1 := bytesX_len signP
    have h2 := bytesX_len (encX key)
    have h3 := bytesX_len (bytesOf domR)
    have h4 := bytesX_len (numsX [c, s])
    have h5 := bytesX_len op
    have h6 := encX_len key
    rw [show signP.length = 4 from rfl] at h1
    rw [domR_len] at h3
    rw [show (numsX [c, s]).length = 16 from rfl] at h4
    omega
  · intro x hx
    unfold partsR at hx
    simp only [List.mem_cons, List.not_mem_nil, or_false] at hx
    rcases hx with rfl | rfl
    · exact isB_nums _
    · exact hb
def sigR (c s : Int) (op : List Int) : List Int := signX (cliX c) (bytesOf domR) (partsR c s op)
def textR (c s : Int) (op : List Int) : List Int := textX (cliX c) (bytesOf domR) (partsR c s op)
theorem asked_ev (c s : Int) (op sig : List Int) : Ev (fun k => vote_asked.f k c s op sig) (cliX c, domR, partsR c s op) := by
  simp only [vote_asked.f]
  refine Ev.bind (cli_ev c) ?_
  refine Ev.bind (nums_ev [c, s] (by simp)) ?_
  exact Ev.now _
theorem ask_ev (c s : Int) (op sig : List Int) (hl : op.length ≤ 140737488351232) (hb : isB op) : Ev (fun k => vote_Ask.f k c s op sig) (c, s, op, sigR c s op) := by
  have F := fitsR (cliX c) c s op hl hb
  have e1 : op.length < 140737488355328 := by omega
  simp only [vote_Ask.f, slices_Clone_byte_byte.f, if_pos e1, Option.bind_some]
  refine Ev.bind (asked_ev c s op sig) ?_
  simp only [vote_signed_sign.f]
  refine Ev.bind (Ev.bind (keysign_ev _ _ _ F.hp F.hd F.h F.hdb F.hpb) (Ev.now _)) ?_
  exact Ev.now _
theorem rask_ev (c s : Int) (op sig : List Int) (hl : op.length ≤ 140737488351232) (hb : isB op) : Ev (fun k => catenaryref06_Ask.f k c s op sig) (c, s, op, sigR c s op) := by
  have F := fitsR (cliX c) c s op hl hb
  simp only [catenaryref06_Ask.f]
  refine Ev.bind (rcli_ev c) ?_
  refine Ev.bind (rnums_ev [c, s] (by simp)) ?_
  refine Ev.bind (rsign_ev _ domR _ F.hp F.hd F.h F.hdb F.hpb) ?_
  exact Ev.now _
theorem asktext_ev (c s : Int) (op sig : List Int) (hl : op.length ≤ 140737488351232) (hb : isB op) : Ev (fun k => vote_AskText.f k c s op sig) (textR c s op) := by
  have F := fitsR (cliX c) c s op hl hb
  simp only [vote_AskText.f]
  refine Ev.bind (asked_ev c s op sig) ?_
  simp only [vote_signed_text.f]
  refine Ev.bind (Ev.bind (keytext_ev _ _ _ F.hp F.hd (by have := F.h; omega)) (Ev.now _)) ?_
  exact Ev.now _
theorem rasktext_ev (c s : Int) (op sig : List Int) (hl : op.length ≤ 140737488351232) (hb : isB op) : Ev (fun k => catenaryref06_AskText.f k c s op sig) (textR c s op) := by
  have F := fitsR (cliX c) c s op hl hb
  simp only [catenaryref06_AskText.f]
  refine Ev.bind (rcli_ev c) ?_
  refine Ev.bind (rnums_ev [c, s] (by simp)) ?_
  refine Ev.bind (rtext_ev _ domR _ F.hp F.hd (Nat.lt_trans F.h (by decide))) ?_
  exact Ev.now _
def goodR (c s : Int) (op : List Int) : Prop := 1 ≤ c ∧ c ≤ 4 ∧ 1 ≤ s ∧ s ≤ 2147483647 ∧ 1 ≤ op.length ∧ op.length ≤ 256
instance (c s : Int) (op : List Int) : Decidable (goodR c s op) := by unfold goodR; exact inferInstance
def askedR (c s : Int) (op sig : List Int) : Bool := if goodR c s op then eqS sig (sigR c s op) else false
theorem goodR_K (c s : Int) (op : List Int) (h : goodR c s op) : goodK (cliX c) := by
  unfold goodR at h
  unfold goodK cliX
  rw [if_pos (by omega)]
  omega
theorem asked2_ev (c s : Int) (op sig : List Int) (hl : op.length ≤ 140737488351232) (hb : isB op) : Ev (fun k => vote_Asked.f k c s op sig) (askedR c s op sig) := by
  have F := fitsR (cliX c) c s op hl hb
  have es : ∀ a b : List Int, bytes_Equal.f a b = some (eqS a b) := fun _ _ => rfl
  have go : ∀ b : Bool, b = decide (1 ≤ c ∧ c ≤ 4 ∧ 1 ≤ s ∧ s ≤ 2147483647) → Ev (fun k => vote_Asked.j0 k b c s op sig) (askedR c s op sig) := by
    intro b hb
    subst hb
    apply ev_succ
    unfold askedR
    by_cases h : goodR c s op
    · have e0 : decide (1 ≤ c ∧ c ≤ 4 ∧ 1 ≤ s ∧ s ≤ 2147483647) = true := decide_eq_true (by unfold goodR at h; omega)
      have e1 : (op.length : Int) ≥ 1 := by unfold goodR at h; omega
      have e2 : (op.length : Int) ≤ 256 := by unfold goodR at h; omega
      simp only [vote_Asked.j0, e0, if_true, if_pos e1, if_pos e2, if_pos h]
      refine Ev.bind (asked_ev c s op sig) ?_
      refine Ev.bind (a := eqS sig (sigR c s op)) ?_ (Ev.now _)
      simp only [vote_signed_verify.f]
      refine Ev.bind (a := eqS sig (sigR c s op)) ?_ (Ev.now _)
      simp only [key_Verify.f, keyright, Option.bind_some, decide_eq_true (goodR_K c s op h), if_true]
      refine Ev.bind (keysign_ev _ _ _ F.hp F.hd F.h F.hdb F.hpb) ?_
      simp only [es, Option.bind_some]
      exact Ev.now _
    · simp only [vote_Asked.j0, if_neg h]
      by_cases e0 : 1 ≤ c ∧ c ≤ 4 ∧ 1 ≤ s ∧ s ≤ 2147483647
      · simp only [decide_eq_true e0, if_true]
        by_cases e1 : (op.length : Int) ≥ 1
        · have e2 : ¬ (op.length : Int) ≤ 256 := by unfold goodR at h; omega
          simp only [if_pos e1, if_neg e2]
          exact Ev.now _
        · simp only [if_neg e1]
          exact Ev.now _
      · simp only [decide_eq_false e0, Bool.false_eq_true, if_false]
        exact Ev.now _
  simp only [vote_Asked.f]
  by_cases h1 : c ≥ 1
  · by_cases h2 : c ≤ 4
    · by_cases h3 : s ≥ 1
      · simp only [if_pos h1, if_pos h2, if_pos h3]
        exact go _ (by apply decide_eq_decide.2; omega)
      · simp only [if_pos h1, if_pos h2, if_neg h3]
        exact go _ (by symm; apply decide_eq_false; omega)
    · simp only [if_pos h1, if_neg h2]
      exact go _ (by symm; apply decide_eq_false; omega)
  · simp only [if_neg h1]
    exact go _ (by symm; apply decide_eq_false; omega)
theorem rasked2_ev (c s : Int) (op sig : List Int) (hl : op.length ≤ 140737488351232) (hb : isB op) : Ev (fun k => catenaryref06_Asked.f k c s op sig) (askedR c s op sig) := by
  have es : ∀ a b : List Int, catenaryref01_Same.f a b = some (eqS a b) := fun _ _ => rfl
  have go : ∀ b : Bool, b = decide (¬ goodR c s op) → Ev (fun k => catenaryref06_Asked.j0 k b c s op sig) (askedR c s op sig) := by
    intro b hb
    subst hb
    apply ev_succ
    unfold askedR
    by_cases h : goodR c s op
    · have e0 : decide (¬ goodR c s op) = false := decide_eq_false (fun g => g h)
      simp only [catenaryref06_Asked.j0, e0, Bool.false_eq_true, if_false, if_pos h]
      refine Ev.bind (rask_ev c s op sig hl ‹_›) ?_
      simp only [es, Option.bind_some]
      exact Ev.now _
    · have e0 : decide (¬ goodR c s op) = true := decide_eq_true h
      simp only [catenaryref06_Asked.j0, e0, if_true, if_neg h]
      exact Ev.now _
  simp only [catenaryref06_Asked.f]
  by_cases h1 : c < 1
  · simp only [if_pos h1]; exact go _ (by symm; apply decide_eq_true; unfold goodR; omega)
  by_cases h2 : c > 4
  · simp only [if_neg h1, if_pos h2]; exact go _ (by symm; apply decide_eq_true; unfold goodR; omega)
  by_cases h3 : s < 1
  · simp only [if_neg h1, if_neg h2, if_pos h3]; exact go _ (by symm; apply decide_eq_true; unfold goodR; omega)
  by_cases h4 : s > 2147483647
  · simp only [if_neg h1, if_neg h2, if_neg h3, if_pos h4]; exact go _ (by symm; apply decide_eq_true; unfold goodR; omega)
  by_cases h5 : (op.length : Int) < 1
  · simp only [if_neg h1, if_neg h2, if_neg h3, if_neg h4, if_pos h5]; exact go _ (by symm; apply decide_eq_true; unfold goodR; omega)
  simp only [if_neg h1, if_neg h2, if_neg h3, if_neg h4, if_neg h5]
  exact go _ (by apply decide_eq_decide.2; unfold goodR; omega)
theorem valive : Ev (fun k => catenarylaw06_voteAlive.f k) true := Ev.of catenarylaw06_voteAlive.mono (k := 60) (by kernel_rfl)
theorem VoteAsks : catenarylaw06_VoteAsks.Pure := by
  intro c s op sig _ _ hop hsig
  obtain ⟨hl, hb⟩ := isB_of op hop
  obtain ⟨hl2, _⟩ := isB_of sig hsig
  have es : ∀ a b : List Int, catenaryref01_Same.f a b = some (eqS a b) := fun _ _ => rfl
  have j1 : ∀ b : Bool, b = decide (goodR c s op) → Ev (fun k => catenarylaw06_VoteAsks.j1 k b c s op (sigR c s op)) true := by
    intro b hb'
    subst hb'
    apply ev_succ
    simp only [catenarylaw06_VoteAsks.j1]
    refine Ev.bind (asked2_ev c s op (sigR c s op) hl hb) ?_
    have e : (askedR c s op (sigR c s op) == decide (goodR c s op)) = true := by
      unfold askedR
      by_cases h : goodR c s op
      · rw [if_pos h, decide_eq_true h, eqS_self]; rfl
      · rw [if_neg h, decide_eq_false h]; rfl
    rw [e]
    exact Ev.now _
  have key : Ev (fun k => catenarylaw06_VoteAsks.f k c s op sig) true := by
    simp only [catenarylaw06_VoteAsks.f]
    refine Ev.bind valive ?_
    have e1 : ([] : List Int).length + op.length < 140737488355328 := by rw [List.length_nil]; omega
    have e2 : ([] : List Int).length + sig.length < 140737488355328 := by rw [List.length_nil]; omega
    simp only [catenaryref05_CopyReq.f, if_true, Option.bind_some, if_pos e1, if_pos e2, List.nil_append]
    refine Ev.bind (ask_ev c s op sig hl hb) ?_
    refine Ev.bind (rask_ev c s op sig hl hb) ?_
    simp only [catenaryref05_SameReq.f, es, eqS_self, Option.bind_some, if_true]
    refine Ev.bind (asktext_ev c s op sig hl hb) ?_
    refine Ev.bind (rasktext_ev c s op sig hl hb) ?_
    simp only [eqS_self, Option.bind_some, if_true]
    refine Ev.bind (asked2_ev c s op sig hl hb) ?_
    refine Ev.bind (rasked2_ev c s op sig hl hb) ?_
    simp only [bne_self_eq_false, Bool.false_eq_true, if_false, Bool.not_true]
    apply ev_succ
    simp only [catenarylaw06_VoteAsks.j0, Bool.false_eq_true, if_false]
    by_cases h1 : c ≥ 1
    · by_cases h2 : c ≤ 4
      · by_cases h3 : s ≥ 1
        · by_cases h4 : s ≤ 2147483647
          · by_cases h5 : (op.length : Int) ≥ 1
            · simp only [if_pos h1, if_pos h2, if_pos h3, if_pos h4, if_pos h5]
              exact j1 _ (by apply decide_eq_decide.2; unfold goodR; omega)
            · simp only [if_pos h1, if_pos h2, if_pos h3, if_pos h4, if_neg h5]
              exact j1 _ (by symm; apply decide_eq_false; unfold goodR; omega)
          · simp only [if_pos h1, if_pos h2, if_pos h3, if_neg h4]
            exact j1 _ (by symm; apply decide_eq_false; unfold goodR; omega)
        · simp only [if_pos h1, if_pos h2, if_neg h3]
          exact j1 _ (by symm; apply decide_eq_false; unfold goodR; omega)
      · simp only [if_pos h1, if_neg h2]
        exact j1 _ (by symm; apply decide_eq_false; unfold goodR; omega)
    · simp only [if_neg h1]
      exact j1 _ (by symm; apply decide_eq_false; unfold goodR; omega)
  exact key.rounds
end Go.Proofs.Ytlnfiknllnonhaa.Pure
