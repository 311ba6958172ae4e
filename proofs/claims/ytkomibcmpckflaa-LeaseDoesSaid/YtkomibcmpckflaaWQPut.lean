-- Written by a program of this session's (an extension of the kit's print)
import Derived.Test.YtkomibcmpckflaaWWords
import Derived.Test.YtkomibcmpckflaaWLast
/-! ### 39. Stores into a row that may begin inside its block (Q): Q_form, Q_elem, Q_seg; scalars: Q_cell, Q_putg -/
namespace Go.Proofs.YtkomibcmpckflaaW.PrintWords
open Go.RowKit
namespace Kd
end Kd
end Go.Proofs.YtkomibcmpckflaaW.PrintWords
