-- Written by a program of this session's (an extension of the kit's print)
import Derived.Test.YtlafaiacbebfnaaWN
/-! ### 48. N's events: append, a whole row appended, zeros appended, literals, make, stores, cuts, an element taken out -/
namespace Go.Proofs.YtlafaiacbebfnaaW.PrintWords
open Go.RowKit
namespace Kd
end Kd
end Go.Proofs.YtlafaiacbebfnaaW.PrintWords
