-- Written by a program of this session's (an extension of the kit's print)
import Derived.Test.YtkomibcmpckflaaWInv
import Derived.Test.YtkomibcmpckflaaWFootNe
namespace Go.Proofs.YtkomibcmpckflaaW.PrintWords
open Go.RowKit
end Go.Proofs.YtkomibcmpckflaaW.PrintWords
namespace Go.Proofs.YtkomibcmpckflaaW.PrintLast
end Go.Proofs.YtkomibcmpckflaaW.PrintLast
