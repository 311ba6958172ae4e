-- Written by a program of this session's (an extension of the kit's print)
import Derived.Test.YtkomibcmpckflaaWFootNe
/-! ### 54. Behind orders that were drawn quietly: the same facts at the world's new name; a flat row's foot -/
namespace Go.Proofs.YtkomibcmpckflaaW.PrintWords
open Go.RowKit
namespace Kd
end Kd
end Go.Proofs.YtkomibcmpckflaaW.PrintWords
