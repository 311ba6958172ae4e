-- Written by a program of this session's (an extension of the kit's print)
import Derived.Test.YtlafaiacbebfnaaWWords
import Derived.Laws.StructEq
/-! ### 53. '==' of structs as_ one Bool -/
namespace Go.Proofs.YtlafaiacbebfnaaW.PrintWords
open Go.RowKit
end Go.Proofs.YtlafaiacbebfnaaW.PrintWords
