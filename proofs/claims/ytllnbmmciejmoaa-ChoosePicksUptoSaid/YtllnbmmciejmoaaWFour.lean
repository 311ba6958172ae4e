-- Written by a program of this session's (an extension of the kit's print)
import Derived.Test.YtllnbmmciejmoaaWTab
/-! ### 56. Four, five, six operations that may come up next, in any order -/
namespace Go.Proofs.YtllnbmmciejmoaaW.PrintLast
end Go.Proofs.YtllnbmmciejmoaaW.PrintLast
