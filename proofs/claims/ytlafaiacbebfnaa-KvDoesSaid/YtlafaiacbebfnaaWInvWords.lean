-- Written by a program of this session's (an extension of the kit's print)
import Derived.Test.YtlafaiacbebfnaaWInv
import Derived.Test.YtlafaiacbebfnaaWFootNe
namespace Go.Proofs.YtlafaiacbebfnaaW.PrintWords
open Go.RowKit
end Go.Proofs.YtlafaiacbebfnaaW.PrintWords
namespace Go.Proofs.YtlafaiacbebfnaaW.PrintLast
end Go.Proofs.YtlafaiacbebfnaaW.PrintLast
