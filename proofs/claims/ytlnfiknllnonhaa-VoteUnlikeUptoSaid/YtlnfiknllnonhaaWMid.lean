-- Written by a program of this session's (an extension of the kit's print)
/- Rows of the call's own whose spare cells are written: what 'clear' of the tail leaves. -/
import Derived.Test.YtlnfiknllnonhaaWWords
import Derived.Laws.IdiomCopy
import Derived.Lib.SliceRun
import Derived.Lib.Overlaps
namespace Go.Proofs.YtlnfiknllnonhaaW.PrintWords
open Go.RowKit
theorem grown_trans {w w1 w2 : World} {row : Option Nat} (h : w.grownBy w1 row) (k : w1.grownBy w2 row) : w.grownBy w2 row :=
  ⟨k.os.trans h.os, k.tape.trans h.tape, k.output.trans h.output, Nat.le_trans h.size k.size, fun i hi hn => (k.block i (Nat.lt_of_lt_of_le hi h.size) hn).trans (h.block i hi hn)⟩
theorem grown_drew {w w1 : World} {row : Option Nat} (h : w.drew.grownBy w1 row) : w.grownBy w1 row := ⟨h.os, h.tape, h.output, h.size, h.block⟩
namespace Kd
end Kd
end Go.Proofs.YtlnfiknllnonhaaW.PrintWords
