-- Written by a program of this session's (an extension of the kit's print)
import Derived.Test.YtlnfiknllnonhaaWInv
import Derived.Test.YtlnfiknllnonhaaWFootNe
namespace Go.Proofs.YtlnfiknllnonhaaW.PrintWords
open Go.RowKit
end Go.Proofs.YtlnfiknllnonhaaW.PrintWords
namespace Go.Proofs.YtlnfiknllnonhaaW.PrintLast
end Go.Proofs.YtlnfiknllnonhaaW.PrintLast
