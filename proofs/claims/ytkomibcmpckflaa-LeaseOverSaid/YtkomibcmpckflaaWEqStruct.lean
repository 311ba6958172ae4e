-- Written by a program of this session's (an extension of the kit's print): what a row needs of its words
import Derived.Test.YtkomibcmpckflaaWWords
import Derived.Laws.StructEq
/-! ### 53. '==' of structs as_ one Bool -/
namespace Go.Proofs.YtkomibcmpckflaaW.PrintWords
open Go.RowKit
end Go.Proofs.YtkomibcmpckflaaW.PrintWords
