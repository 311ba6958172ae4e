-- Written by a program of this session's (an extension of the kit's print)
import Derived.Test.YtkomibcmpckflaaWTab
/-! ### 56. Four, five, six operations that may come up next, in any order -/
namespace Go.Proofs.YtkomibcmpckflaaW.PrintLast
end Go.Proofs.YtkomibcmpckflaaW.PrintLast
