/- The hash SHA-256: the walks of the program's text and of the document's. -/
import Derived.Test.YtlnfiknllnonhaaSha1
import Derived.Test.YtlnfiknllnonhaaSha2
import Derived.Test.YtlnfiknllnonhaaSha4
import Derived.Test.YtlnfiknllnonhaaSha5
import Derived.Test.YtlnfiknllnonhaaSha7
import Derived.Test.YtlnfiknllnonhaaSha8
import Derived.Test.YtlnfiknllnonhaaSha9
import Derived.Test.YtlnfiknllnonhaaSha10
import Derived.Test.YtlnfiknllnonhaaSha11
import Derived.Test.YtlnfiknllnonhaaSha0
namespace Go.Proofs.Ytlnfiknllnonhaa.Sha
open Go Go.RowKit Go.Proofs.YtlnfiknllnonhaaW.PrintWords Go.Proofs.YtlnfiknllnonhaaW.PrintLast Go.Proofs.YtlnfiknllnonhaaW.PrintMore
set_option linter.unusedVariables false
set_option linter.unusedSimpArgs false
theorem blocks_congr (l l' : List Int) (st : List Nat) : ∀ n : Nat, (∀ i : Nat, i < 64 * n → rd l (i : Int) = rd l' (i : Int)) → blocks l n st = blocks l' n st
 | 0, _ => rfl
 | n + 1, h => by
  show comp (blocks l n st) _ = comp (blocks l' n st) _
  rw [blocks_congr l l' st n (fun i hi => h i (by omega))]
  exact comp_ext _ _ _ (fun i hi => by rw [h (64 * n + i) (by omega)])
theorem rd_app_r (A T : List Int) (i : Nat) : rd (A ++ T) ((A.length + i : Nat) : Int) = rd T (i : Int) := by
 unfold rd
 rw [Int.toNat_natCast, Int.toNat_natCast, List.getD_eq_getElem?_getD, List.getD_eq_getElem?_getD, List.getElem?_append_right (by omega), Nat.add_sub_cancel_left]
theorem rd_app_l (A T : List Int) (i : Nat) (h : i < A.length) : rd (A ++ T) (i : Int) = rd A (i : Int) := by
 unfold rd
 rw [Int.toNat_natCast, List.getD_eq_getElem?_getD, List.getD_eq_getElem?_getD, List.getElem?_append_left h]
theorem blocks_shift (A T : List Int) (q : Nat) (hA : A.length = 64 * q) (st : List Nat) : ∀ m, blocks (A ++ T) (q + m) st = blocks T m (blocks (A ++ T) q st)
 | 0 => rfl
 | m + 1 => by
  show comp (blocks (A ++ T) (q + m) st) _ = comp (blocks T m (blocks (A ++ T) q st)) _
  rw [blocks_shift A T q hA st m]
  refine comp_ext _ _ _ (fun i _ => ?_)
  have := rd_app_r A T (64 * m + i)
  rw [hA] at this
  show (rd (A ++ T) ((64 * (q + m) + i : Nat) : Int)).toNat = (rd T ((64 * m + i : Nat) : Int)).toNat
  rw [show 64 * (q + m) + i = 64 * q + (64 * m + i) by omega, this]
def shaR (l : List Int) : List Int := outB (blocks (tailB l l.length) ((tailB l l.length).length / 64) S0)
theorem shaI_R (l : List Int) : shaI l = shaR l := by
 unfold shaI shaR
 congr 1
 have hlen : (restB l).length = l.length % 64 := by unfold restB; rw [List.length_drop]; omega
 have hsplit : tailB l l.length = l.take (64 * (l.length / 64)) ++ tailB (restB l) l.length := by
  unfold tailB
  rw [show Zn (restB l).length = Zn l.length by rw [hlen]; unfold Zn; congr 2; omega]
  have h0 : l.take (64 * (l.length / 64)) ++ restB l = l := List.take_append_drop _ _
  generalize lenB l.length 8 = L8
  generalize Zn l.length = Z
  simp only [← List.append_assoc]
  rw [h0]
 have hA : (l.take (64 * (l.length / 64))).length = 64 * (l.length / 64) := by rw [List.length_take]; omega
 have e1 : (tailB l l.length).length / 64 = l.length / 64 + (tailB (restB l) l.length).length / 64 := by
  rw [hsplit, List.length_append, hA]; omega
 rw [e1, hsplit, blocks_shift _ _ _ hA]
 congr 1
 refine blocks_congr _ _ _ _ (fun i hi => ?_)
 rw [rd_app_l _ _ _ (by omega)]
 unfold rd
 rw [Int.toNat_natCast, List.getD_eq_getElem?_getD, List.getD_eq_getElem?_getD, List.getElem?_take, if_pos hi]
def okB (l : List Int) : Bool := decide (l.length < 140737488352000) && l.all (fun b => decide (0 ≤ b) && decide (b < 256))
theorem okB_iff (l : List Int) : okB l = true ↔ l.length < 140737488352000 ∧ bytes8 l := by
 unfold okB bytes8
 simp [List.all_eq_true]
theorem shaR_len (l : List Int) : (shaR l).length = 32 := by
 unfold shaR
 rw [outB_len, blocks_len]
theorem prog_sum (w : World) (A : Option Addr) (c : Nat) (l : List Int) (hr : Kd.C (Kd.int .u8) w A l.length l) (hc : l.length ≤ c) (h : okB l = true) :
  Calls Try.prog 64 #[.slice A l.length c] w fun e w' => ∃ v0, e = .returned v0 ∧ Kd.R (Kd.int .u8) 5 w' w.heap.size (fun _ => True) v0 (shaR l) ∧ Below w.heap.size w w' := by
 rw [← shaI_R]
 exact sum_any w A c l hr hc ((okB_iff l).1 h).2 ((okB_iff l).1 h).1
theorem ref_sum (w : World) (A : Option Addr) (c : Nat) (l : List Int) (hr : Kd.C (Kd.int .u8) w A l.length l) (h : okB l = true) :
  Calls Try.prog 53 #[.slice A l.length c] w fun e w' => ∃ v0, e = .returned v0 ∧ Kd.R (Kd.int .u8) 5 w' w.heap.size (fun _ => True) v0 (shaR l) ∧ Below w.heap.size w w' :=
 refSum w A c l hr ((okB_iff l).1 h).2 ((okB_iff l).1 h).1
end Go.Proofs.Ytlnfiknllnonhaa.Sha
