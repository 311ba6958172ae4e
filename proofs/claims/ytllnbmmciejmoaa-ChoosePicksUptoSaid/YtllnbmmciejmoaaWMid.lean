-- Written by a program of this session's (an extension of the kit's print)
/- Rows of the call's own whose spare cells are written: what 'clear' of the tail leaves. -/
import Derived.Test.YtllnbmmciejmoaaWWords
import Derived.Laws.IdiomCopy
import Derived.Lib.SliceRun
import Derived.Lib.Overlaps
namespace Go.Proofs.YtllnbmmciejmoaaW.PrintWords
open Go.RowKit
namespace Kd
end Kd
end Go.Proofs.YtllnbmmciejmoaaW.PrintWords
