-- Written by a program of this session's (an extension of the kit's print)
import Derived.Test.YtkomibcmpckflaaWTab
/-! ### 57. A region of open order by ONE relation over what is listed so far: each operation is shown once, whatever came up before it -/
namespace Go.Proofs.YtkomibcmpckflaaW.PrintLast
end Go.Proofs.YtkomibcmpckflaaW.PrintLast
