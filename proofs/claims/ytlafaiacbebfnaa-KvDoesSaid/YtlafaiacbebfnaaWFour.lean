-- Written by a program of this session's (an extension of the kit's print)
import Derived.Test.YtlafaiacbebfnaaWTab
/-! ### 56. Four, five, six operations that may come up next, in any order -/
namespace Go.Proofs.YtlafaiacbebfnaaW.PrintLast
end Go.Proofs.YtlafaiacbebfnaaW.PrintLast
