-- Written by a program of this session's (an extension of the kit's print): what a row needs of its words
import Derived.Test.YtkomibcmpckflaaWFoot
/-! ### 45. What a call keeps: all but the blocks of S (the rows that it was given to write) and what is new since -/
namespace Go.Proofs.YtkomibcmpckflaaW.PrintWords
open Go.RowKit
namespace Kd
end Kd
end Go.Proofs.YtkomibcmpckflaaW.PrintWords
