/- The law ClockNames: the clock's chapter example holds and the limit is 8 (a wait of 1024): no conditions. -/
import Derived.Test.YtjdcjdkfdaeieaaPClockNamesx1
namespace Go.Proofs.Ytjdcjdkfdaeieaa.Pure
open Go.RowKit Go.Proofs.Ytjdcjdkfdaeieaa.PClockNames Go.Proofs.YtjdcjdkfdaeieaaW.PrintWords Go.Proofs.YtjdcjdkfdaeieaaW.PrintLast

theorem ClockNames : catenarylaw14_ClockNames.Pure := by
  unfold catenarylaw14_ClockNames.Pure
  decide +kernel

end Go.Proofs.Ytjdcjdkfdaeieaa.Pure
