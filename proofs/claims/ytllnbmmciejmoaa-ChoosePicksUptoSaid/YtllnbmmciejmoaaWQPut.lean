-- Written by a program of this session's (an extension of the kit's print)
import Derived.Test.YtllnbmmciejmoaaWWords
import Derived.Test.YtllnbmmciejmoaaWLast
/-! ### 39. Stores into a row that may begin inside its block (Q): Q_form, Q_elem, Q_seg; scalars: Q_cell, Q_putg -/
namespace Go.Proofs.YtllnbmmciejmoaaW.PrintWords
open Go.RowKit
namespace Kd
end Kd
end Go.Proofs.YtllnbmmciejmoaaW.PrintWords
