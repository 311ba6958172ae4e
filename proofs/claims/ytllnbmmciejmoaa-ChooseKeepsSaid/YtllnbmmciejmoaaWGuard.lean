-- Written by a program of this session's (an extension of the kit's print)
import Derived.Test.YtllnbmmciejmoaaWWords
/-! ### 58. A guarded operation whose guard is known to want it: the same goal without the guard -/
namespace Go.Proofs.YtllnbmmciejmoaaW.PrintWords
open Go.RowKit
end Go.Proofs.YtllnbmmciejmoaaW.PrintWords
