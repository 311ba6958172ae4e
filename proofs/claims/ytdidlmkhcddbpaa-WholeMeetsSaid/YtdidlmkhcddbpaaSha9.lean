/- The hash SHA-256: the walks of the program's text and of the document's. -/
import Derived.Test.YtdidlmkhcddbpaaProg
import Derived.WalkSpells
import Derived.Deep.RegionLaw
import Derived.Lib.AppendZerosOnto
import Derived.Laws.Externs
import Derived.Lib.Bytealg
import Derived.ChangeKeysEq
import Derived.Lib.SlBytesConst
import Derived.Below
import Derived.Deep.Draws
import Derived.Deep.AppendLies
import Derived.Maps.AppendAt
import Derived.OwnWalk
import Derived.Laws.CopyOwn
import Derived.StillTailTactics
import Derived.BigQuiet
import Derived.Laws.BytesArg
import Derived.Laws.MakeOwn
import Derived.Laws.OwnMore
import Derived.Deep.OwnRows
import Derived.Tactics
import Derived.Lib.ConvBytes
import Derived.Laws.Slices
import Derived.WalkKit
import Derived.KernelRfl
import Derived.RowKit3
import Derived.Deep.LoopGhost
import Derived.Deep.QuietTactic
import Derived.BigQuiet
import Derived.WideLaws
import Derived.Deep.DeepCutAuto
import Derived.Deep.CutBlock
import Derived.Deep.RegionHeld3
import Derived.Laws.Rows
import Derived.Lib.AppendStr
import Derived.ArgAppend
import Derived.Laws.IdiomCopy
import Derived.OrdersHeld
import Derived.Laws.BitsLemmas
import Derived.RowKit
import Derived.Test.YtdidlmkhcddbpaaWWords
import Derived.Test.YtdidlmkhcddbpaaWLast
import Derived.Test.YtdidlmkhcddbpaaWTab
import Derived.Test.YtdidlmkhcddbpaaWFour
import Derived.Test.YtdidlmkhcddbpaaWQPut
import Derived.Test.YtdidlmkhcddbpaaWApart
import Derived.Test.YtdidlmkhcddbpaaWArr
import Derived.Test.YtdidlmkhcddbpaaWZeros
import Derived.Test.YtdidlmkhcddbpaaWFoot
import Derived.Test.YtdidlmkhcddbpaaWKept
import Derived.Test.YtdidlmkhcddbpaaWShare
import Derived.Test.YtdidlmkhcddbpaaWN
import Derived.Test.YtdidlmkhcddbpaaWFootNe
import Derived.Test.YtdidlmkhcddbpaaWAt
import Derived.Test.YtdidlmkhcddbpaaWEqStruct
import Derived.Test.YtdidlmkhcddbpaaWRepsOne
import Derived.Test.YtdidlmkhcddbpaaWInv
import Derived.Test.YtdidlmkhcddbpaaWInvWords
import Derived.Test.YtdidlmkhcddbpaaWGuard
import Derived.Test.YtdidlmkhcddbpaaWNEv
import Derived.Test.YtdidlmkhcddbpaaWMore
import Derived.Test.YtdidlmkhcddbpaaWOpen
import Derived.Test.YtdidlmkhcddbpaaSha1
import Derived.Test.YtdidlmkhcddbpaaSha2
import Derived.Test.YtdidlmkhcddbpaaSha4
import Derived.Test.YtdidlmkhcddbpaaSha5
import Derived.Test.YtdidlmkhcddbpaaSha7
import Derived.Test.YtdidlmkhcddbpaaSha0
import Derived.Test.YtdidlmkhcddbpaaWMore
import Derived.Test.YtdidlmkhcddbpaaWMid
namespace Go.Proofs.Ytdidlmkhcddbpaa.Sha
open Go Go.RowKit Go.Proofs.YtdidlmkhcddbpaaW.PrintWords Go.Proofs.YtdidlmkhcddbpaaW.PrintLast Go.Proofs.YtdidlmkhcddbpaaW.PrintMore
set_option linter.unusedVariables false
set_option linter.unusedSimpArgs false
theorem bit_M (i : Nat) (h : i < 32) : Nat.testBit 4294967295 i = true := by
  rw [show 4294967295 = 2 ^ 32 - 1 by decide, Nat.testBit_two_pow_sub_one]; simpa using h
theorem ch_o (e f g : Nat) (lf : f < 4294967296) (lg : g < 4294967296) : ((e &&& f) ||| ((e ^^^ 4294967295) &&& g)) = chN e f g := by
  unfold chN
  apply Nat.eq_of_testBit_eq
  intro i
  simp only [Nat.testBit_or, Nat.testBit_and, Nat.testBit_xor]
  by_cases h : i < 32
  · rw [bit_M i h]
    cases Nat.testBit e i <;> cases Nat.testBit f i <;> cases Nat.testBit g i <;> rfl
  · have hf : Nat.testBit f i = false := Nat.testBit_lt_two_pow (Nat.lt_of_lt_of_le lf (by rw [show 4294967296 = 2 ^ 32 by decide]; exact Nat.pow_le_pow_right (by decide) (by omega)))
    have hg : Nat.testBit g i = false := Nat.testBit_lt_two_pow (Nat.lt_of_lt_of_le lg (by rw [show 4294967296 = 2 ^ 32 by decide]; exact Nat.pow_le_pow_right (by decide) (by omega)))
    rw [hf, hg]
    simp
theorem maj_o (a b c : Nat) : ((a &&& b) ||| (a &&& c)) ||| (b &&& c) = majN a b c := by
  unfold majN
  apply Nat.eq_of_testBit_eq
  intro i
  simp only [Nat.testBit_or, Nat.testBit_and, Nat.testBit_xor]
  cases Nat.testBit a i <;> cases Nat.testBit b i <;> cases Nat.testBit c i <;> rfl
theorem t1_or3 (k w e f g h : Nat) (le : e < 4294967296) (lf : f < 4294967296) (lg : g < 4294967296) :
    ((h : Int) + bits .xor .u32 (bits .xor .u32 ((rorN e 6 : Nat) : Int) ((rorN e 11 : Nat) : Int)) ((rorN e 25 : Nat) : Int) + bits .or .u32 (bits .and .u32 (e : Int) (f : Int)) (bits .and .u32 (bits .xor .u32 (e : Int) 4294967295) (g : Int)) + (k : Int) + (w : Int)) % 4294967296 = ((t1N k w e f g h : Nat) : Int) := by
  rw [show (4294967295 : Int) = ((4294967295 : Nat) : Int) from rfl, and32 _ _ le lf, xor32 _ _ le (by decide), and32 _ _ (xor_lt _ _ le (by decide)) lg, or32 _ _ (and_lt _ _ lf) (and_lt _ _ lg), ch_o e f g lf lg, xor3 _ _ _ (ror_lt _ _ le) (ror_lt _ _ le) (ror_lt _ _ le)]
  have e1 : ∀ a b : Nat, ((h : Int) + (a : Int) + (b : Int) + (k : Int) + (w : Int)) % 4294967296 = (((((h + a) % 4294967296 + b) % 4294967296 + k) % 4294967296 + w) % 4294967296 : Nat) := by intro a b; omega
  exact e1 _ _
theorem t2_or3 (a b c : Nat) (la : a < 4294967296) (lb : b < 4294967296) (lc : c < 4294967296) :
    (bits .xor .u32 (bits .xor .u32 ((rorN a 2 : Nat) : Int) ((rorN a 13 : Nat) : Int)) ((rorN a 22 : Nat) : Int) + bits .or .u32 (bits .or .u32 (bits .and .u32 (a : Int) (b : Int)) (bits .and .u32 (a : Int) (c : Int))) (bits .and .u32 (b : Int) (c : Int))) % 4294967296 = ((t2N a b c : Nat) : Int) := by
  rw [and32 _ _ la lb, and32 _ _ la lc, and32 _ _ lb lc, or32 _ _ (and_lt _ _ lb) (and_lt _ _ lc), or32 _ _ (or_lt _ _ (and_lt _ _ lb) (and_lt _ _ lc)) (and_lt _ _ lc), maj_o, xor3 _ _ _ (ror_lt _ _ la) (ror_lt _ _ la) (ror_lt _ _ la)]
  have e1 : ∀ a b : Nat, ((a : Int) + (b : Int)) % 4294967296 = (((a + b) % 4294967296 : Nat) : Int) := by intro a b; omega
  exact e1 _ _
end Go.Proofs.Ytdidlmkhcddbpaa.Sha
