-- Written by a program of this session's (an extension of the kit's print)
import Derived.Test.YtlnfiknllnonhaaWTab
/-! ### 56. Four, five, six operations that may come up next, in any order -/
namespace Go.Proofs.YtlnfiknllnonhaaW.PrintLast
end Go.Proofs.YtlnfiknllnonhaaW.PrintLast
