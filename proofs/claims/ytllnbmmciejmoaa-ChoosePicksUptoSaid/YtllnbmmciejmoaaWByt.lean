-- Written by a program of this session's (an extension of the kit's print)
/- Bytes that the library's own machine code reads: bytes.Compare. -/
import Derived.Test.YtllnbmmciejmoaaWWords
import Derived.Lib.Bytealg
import Derived.Laws.Externs
namespace Go.Proofs.YtllnbmmciejmoaaW.PrintWords
open Go.RowKit
end Go.Proofs.YtllnbmmciejmoaaW.PrintWords
