-- Written by a program of this session's (an extension of the kit's print)
import Derived.Test.YtlafaiacbebfnaaWWords
/-! ### 41. Arrays '[n]T' as_ values: a kind (a field, an element of a row), an element read, an element set -/
namespace Go.Proofs.YtlafaiacbebfnaaW.PrintWords
open Go.RowKit
namespace Kd
end Kd
end Go.Proofs.YtlafaiacbebfnaaW.PrintWords
