-- Written by a program of this session's (an extension of the kit's print)
/- Bytes that the library's own machine code reads: bytes.Compare. -/
import Derived.Test.YtlnfiknllnonhaaWWords
import Derived.Lib.Bytealg
import Derived.Laws.Externs
namespace Go.Proofs.YtlnfiknllnonhaaW.PrintWords
open Go.RowKit
end Go.Proofs.YtlnfiknllnonhaaW.PrintWords
