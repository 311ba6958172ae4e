-- Written by a program of this session's (an extension of the kit's print)
/- An element put in at a place, or taken out, by a call of the library's own text (slices.Insert, slices.Delete). -/
import Derived.Test.YtllnbmmciejmoaaWWords
import Derived.Test.YtllnbmmciejmoaaWApart
import Derived.Test.YtllnbmmciejmoaaWLast
import Derived.Test.YtllnbmmciejmoaaWMore
import Derived.Test.YtllnbmmciejmoaaWMid
import Derived.Test.YtllnbmmciejmoaaWShare
import Derived.Lib.SlBytesConst
import Derived.ChangeKeysEq
import Derived.Lib.ConvBytes
namespace Go.Proofs.YtllnbmmciejmoaaW.PrintWords
open Go.RowKit
set_option linter.unusedVariables false
theorem Reps.take_ {α : Type} {R : α → List Value → Prop} {size : Nat} {ps : List α} {cs : List Value} (h : Reps R size ps cs) (i : Nat) (hi : i ≤ ps.length) : Reps R size (ps.take i) (cs.take (i * size)) := by
  refine ⟨?_, fun j p hj => ?_⟩
  · rw [List.length_take, List.length_take, h.1, Nat.min_eq_left hi, Nat.min_eq_left (Nat.mul_le_mul_right _ hi)]
  · have hj' : j < i := by
      have := (List.getElem?_eq_some_iff.1 hj).1
      rw [List.length_take] at this
      omega
    rw [List.getElem?_take_of_lt hj'] at hj
    have h2 := h.2 j p hj
    have e : (List.drop (j * size) (cs.take (i * size))).take size = (List.drop (j * size) cs).take size := by
      rw [List.drop_take, List.take_take, Nat.min_eq_left]
      have : (j + 1) * size ≤ i * size := Nat.mul_le_mul_right _ (by omega)
      rw [Nat.add_mul, Nat.one_mul] at this
      omega
    rw [e]
    exact h2
namespace Kd
theorem C_past {α : Type} {d : Kd α} {w w1 : World} {A : Option Addr} {n m : Nat} {xs : List α} (h : d.C w A n xs) (hb : Below (w.drewN m).heap.size (w.drewN m) w1) : d.C w1 A n xs := C_below (C_drewN h m) hb
end Kd
/-- The later of two worlds: what stood in the first stands in it as it was (found by itself: blocks laid, draws). -/
abbrev BelC (w w' : World) : Prop := Nonempty (PLift (Below w.heap.size w w'))
theorem BelC.out {w w' : World} (h : BelC w w') : Below w.heap.size w w' := h.elim (fun x => x.down)
instance belC_refl (w : World) : BelC w w := ⟨⟨Below.refl _ _⟩⟩
instance belC_alloc (w w' : World) (o : Obj) [h : BelC w w'] : BelC w (w'.alloc o) := ⟨⟨below_alloc h.out o⟩⟩
instance belC_drewN (w w' : World) (m : Nat) [h : BelC w w'] : BelC w (w'.drewN m) := ⟨⟨pw_below_drewN h.out m⟩⟩
instance belC_drew (w w' : World) [h : BelC w w'] : BelC w w'.drew := ⟨⟨below_drew h.out⟩⟩
theorem blk_u {w w' : World} [h' : BelC w w'] {g : Nat} {o : Obj} (h : w.heap[g]? = some o) : w'.heap[g]? = some o := (h'.out.block g (blk_lt h)).trans h
theorem below_u {w W W1 : World} [h' : BelC W1 W] (h : Below w.heap.size w W1) : Below w.heap.size w W :=
  ⟨h'.out.os.trans h.os, h'.out.tape.trans h.tape, h'.out.output.trans h.output, Nat.le_trans h.size h'.out.size, fun k hk => (h'.out.block k (Nat.lt_of_lt_of_le hk h.size)).trans (h.block k hk)⟩
namespace Kd
theorem Ru {α : Type} {d : Kd α} {e base : Nat} {ok : Nat → Prop} {w w' : World} {v : Value} {xs : List α} [h' : BelC w w'] (h : d.R e w base ok v xs) : d.R e w' base ok v xs := R_below h h'.out
theorem Su {α : Type} {d : Kd α} {e base : Nat} {ok : Nat → Prop} {w w' : World} {v : Value} {xs : List α} [h' : BelC w w'] (h : d.S e w base ok v xs) : d.S e w' base ok v xs := S_below h h'.out
theorem Cu {α : Type} {d : Kd α} {w w' : World} {A : Option Addr} {n : Nat} {xs : List α} [h' : BelC w w'] (h : d.C w A n xs) : d.C w' A n xs := C_below h h'.out
end Kd
end Go.Proofs.YtllnbmmciejmoaaW.PrintWords
