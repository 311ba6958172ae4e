/- The hash SHA-256: the walks of the program's text and of the document's. -/
import Derived.Test.YtdidlmkhcddbpaaProg
import Derived.WalkSpells
import Derived.Deep.RegionLaw
import Derived.Lib.AppendZerosOnto
import Derived.Laws.Externs
import Derived.Lib.Bytealg
import Derived.ChangeKeysEq
import Derived.Lib.SlBytesConst
import Derived.Below
import Derived.Deep.Draws
import Derived.Deep.AppendLies
import Derived.Maps.AppendAt
import Derived.OwnWalk
import Derived.Laws.CopyOwn
import Derived.StillTailTactics
import Derived.BigQuiet
import Derived.Laws.BytesArg
import Derived.Laws.MakeOwn
import Derived.Laws.OwnMore
import Derived.Deep.OwnRows
import Derived.Tactics
import Derived.Lib.ConvBytes
import Derived.Laws.Slices
import Derived.WalkKit
import Derived.KernelRfl
import Derived.RowKit3
import Derived.Deep.LoopGhost
import Derived.Deep.QuietTactic
import Derived.BigQuiet
import Derived.WideLaws
import Derived.Deep.DeepCutAuto
import Derived.Deep.CutBlock
import Derived.Deep.RegionHeld3
import Derived.Laws.Rows
import Derived.Lib.AppendStr
import Derived.ArgAppend
import Derived.Laws.IdiomCopy
import Derived.OrdersHeld
import Derived.Laws.BitsLemmas
import Derived.RowKit
import Derived.Test.YtdidlmkhcddbpaaWWords
import Derived.Test.YtdidlmkhcddbpaaWLast
import Derived.Test.YtdidlmkhcddbpaaWTab
import Derived.Test.YtdidlmkhcddbpaaWFour
import Derived.Test.YtdidlmkhcddbpaaWQPut
import Derived.Test.YtdidlmkhcddbpaaWApart
import Derived.Test.YtdidlmkhcddbpaaWArr
import Derived.Test.YtdidlmkhcddbpaaWZeros
import Derived.Test.YtdidlmkhcddbpaaWFoot
import Derived.Test.YtdidlmkhcddbpaaWKept
import Derived.Test.YtdidlmkhcddbpaaWShare
import Derived.Test.YtdidlmkhcddbpaaWN
import Derived.Test.YtdidlmkhcddbpaaWFootNe
import Derived.Test.YtdidlmkhcddbpaaWAt
import Derived.Test.YtdidlmkhcddbpaaWEqStruct
import Derived.Test.YtdidlmkhcddbpaaWRepsOne
import Derived.Test.YtdidlmkhcddbpaaWInv
import Derived.Test.YtdidlmkhcddbpaaWInvWords
import Derived.Test.YtdidlmkhcddbpaaWGuard
import Derived.Test.YtdidlmkhcddbpaaWNEv
import Derived.Test.YtdidlmkhcddbpaaWMore
import Derived.Test.YtdidlmkhcddbpaaWOpen
import Derived.Test.YtdidlmkhcddbpaaSha1
import Derived.Test.YtdidlmkhcddbpaaSha2
import Derived.Test.YtdidlmkhcddbpaaSha4
import Derived.Test.YtdidlmkhcddbpaaSha5
import Derived.Test.YtdidlmkhcddbpaaSha0
import Derived.Test.YtdidlmkhcddbpaaWMore
import Derived.Test.YtdidlmkhcddbpaaWMid
namespace Go.Proofs.Ytdidlmkhcddbpaa.Sha
open Go Go.RowKit Go.Proofs.YtdidlmkhcddbpaaW.PrintWords Go.Proofs.YtdidlmkhcddbpaaW.PrintLast Go.Proofs.YtdidlmkhcddbpaaW.PrintMore
set_option linter.unusedVariables false
set_option linter.unusedSimpArgs false
def wpN (p : Nat → Nat) : Nat → Nat
  | 0 => 0
  | j + 1 => wpN p j * 256 + p j
theorem wpN_lt (p : Nat → Nat) (hp : ∀ i, p i < 256) : ∀ j, wpN p j < 256 ^ j
  | 0 => Nat.one_pos
  | j + 1 => by
    have := wpN_lt p hp j
    have h := hp j
    show wpN p j * 256 + p j < 256 ^ (j + 1)
    rw [Nat.pow_succ]; omega
theorem wpN_4 (p : Nat → Nat) (t : Nat) : wpN (fun i => p (4 * t + i)) 4 = wordN p t := by
  show (((0 * 256 + p (4 * t + 0)) * 256 + p (4 * t + 1)) * 256 + p (4 * t + 2)) * 256 + p (4 * t + 3) = _
  unfold wordN
  simp only [Nat.zero_mul, Nat.zero_add, Nat.add_zero]
theorem rd_byte {l : List Int} (h : bytes8 l) (i : Int) : 0 ≤ rd l i ∧ rd l i < 256 := by
  unfold rd
  rw [List.getD_eq_getElem?_getD]
  by_cases hi : i.toNat < l.length
  · rw [List.getElem?_eq_getElem hi]; exact h _ (List.getElem_mem hi)
  · rw [List.getElem?_eq_none (by omega)]; decide
end Go.Proofs.Ytdidlmkhcddbpaa.Sha
