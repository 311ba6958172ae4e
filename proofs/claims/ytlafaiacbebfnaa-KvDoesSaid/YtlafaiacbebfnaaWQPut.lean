-- Written by a program of this session's (an extension of the kit's print)
import Derived.Test.YtlafaiacbebfnaaWWords
import Derived.Test.YtlafaiacbebfnaaWLast
/-! ### 39. Stores into a row that may begin inside its block (Q): Q_form, Q_elem, Q_seg; scalars: Q_cell, Q_putg -/
namespace Go.Proofs.YtlafaiacbebfnaaW.PrintWords
open Go.RowKit
namespace Kd
end Kd
end Go.Proofs.YtlafaiacbebfnaaW.PrintWords
