-- Written by a program of this session's (an extension of the kit's print)
import Derived.Test.YtllnbmmciejmoaaWInv
import Derived.Test.YtllnbmmciejmoaaWFootNe
namespace Go.Proofs.YtllnbmmciejmoaaW.PrintWords
open Go.RowKit
end Go.Proofs.YtllnbmmciejmoaaW.PrintWords
namespace Go.Proofs.YtllnbmmciejmoaaW.PrintLast
end Go.Proofs.YtllnbmmciejmoaaW.PrintLast
