-- Written by a program of this session's (an extension of the kit's print)
import Derived.Test.YtkomibcmpckflaaWN
/-! ### 52. A row that stays read whatever happens to a block (a set of blocks) doesn't lie there -/
namespace Go.Proofs.YtkomibcmpckflaaW.PrintWords
open Go.RowKit
namespace Kd
end Kd
end Go.Proofs.YtkomibcmpckflaaW.PrintWords
