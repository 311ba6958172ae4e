-- Written by a program of this session's (an extension of the kit's print)
import Derived.Test.YtllnbmmciejmoaaWWords
import Derived.Laws.StructEq
/-! ### 53. '==' of structs as_ one Bool -/
namespace Go.Proofs.YtllnbmmciejmoaaW.PrintWords
open Go.RowKit
end Go.Proofs.YtllnbmmciejmoaaW.PrintWords
