-- Written by a program of this session's (an extension of the kit's print)
import Derived.Test.YtjdcjdkfdaeieaaProg
import Derived.Below
import Derived.Deep.Draws
import Derived.Deep.AppendLies
import Derived.Maps.AppendAt
import Derived.OwnWalk
import Derived.Laws.BytesArg
import Derived.Laws.MakeOwn
import Derived.Laws.OwnMore
import Derived.Deep.OwnRows
import Derived.Tactics
import Derived.Lib.ConvBytes
import Derived.Laws.Slices
import Derived.WalkKit
import Derived.KernelRfl
import Derived.RowKit3
import Derived.Deep.LoopGhost
import Derived.Deep.QuietTactic
import Derived.BigQuiet
import Derived.WideLaws
import Derived.Deep.DeepCutAuto
import Derived.Deep.CutBlock
import Derived.Deep.RegionHeld3
import Derived.Laws.Rows
import Derived.Lib.AppendStr
import Derived.ArgAppend
import Derived.Laws.IdiomCopy
import Derived.OrdersHeld
import Derived.Laws.BitsLemmas
import Derived.RowKit
import Derived.Test.YtjdcjdkfdaeieaaWWords
import Derived.Test.YtjdcjdkfdaeieaaWLast
import Derived.Test.YtjdcjdkfdaeieaaWTab
import Derived.Test.YtjdcjdkfdaeieaaWFour
import Derived.Test.YtjdcjdkfdaeieaaWQPut
import Derived.Test.YtjdcjdkfdaeieaaWApart
import Derived.Test.YtjdcjdkfdaeieaaWArr
import Derived.Test.YtjdcjdkfdaeieaaWZeros
import Derived.Test.YtjdcjdkfdaeieaaWFoot
import Derived.Test.YtjdcjdkfdaeieaaWKept
import Derived.Test.YtjdcjdkfdaeieaaWShare
import Derived.Test.YtjdcjdkfdaeieaaWN
import Derived.Test.YtjdcjdkfdaeieaaWFootNe
import Derived.Test.YtjdcjdkfdaeieaaWAt
import Derived.Test.YtjdcjdkfdaeieaaWEqStruct
import Derived.Test.YtjdcjdkfdaeieaaWRepsOne
import Derived.Test.YtjdcjdkfdaeieaaWInv
import Derived.Test.YtjdcjdkfdaeieaaWInvWords
import Derived.Test.YtjdcjdkfdaeieaaWGuard
import Derived.Test.YtjdcjdkfdaeieaaWNEv
import Derived.Test.YtjdcjdkfdaeieaaWMore
namespace Go.Proofs.Ytjdcjdkfdaeieaa.PClockNames
open Go.RowKit Go.Proofs.YtjdcjdkfdaeieaaW.PrintWords Go.Proofs.YtjdcjdkfdaeieaaW.PrintLast Go.Proofs.YtjdcjdkfdaeieaaW.PrintMore
attribute [local go_sem] max2_int min2_int max_two min_two max_three min_three max_four min_four   -- for this text's walks alone
set_option linter.unusedVariables false
set_option linter.unusedSimpArgs false



def errW : Option Int → Value
  | none => .nilIface
  | some c => .iface 0 (.int .i64 c)
theorem errW_none : errW none = .nilIface := rfl
theorem errW_some (c : Int) : errW (some c) = .iface 0 (.int .i64 c) := rfl

-- the values' own types

end Go.Proofs.Ytjdcjdkfdaeieaa.PClockNames
