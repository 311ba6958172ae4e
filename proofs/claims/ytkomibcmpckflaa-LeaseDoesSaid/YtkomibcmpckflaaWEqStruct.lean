-- Written by a program of this session's (an extension of the kit's print)
import Derived.Test.YtkomibcmpckflaaWWords
import Derived.Laws.StructEq
/-! ### 53. '==' of structs as_ one Bool -/
namespace Go.Proofs.YtkomibcmpckflaaW.PrintWords
open Go.RowKit
end Go.Proofs.YtkomibcmpckflaaW.PrintWords
