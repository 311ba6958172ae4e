/- The hash: its words and rounds, as plain arithmetic. -/
import Derived.Test.YtlnfiknllnonhaaProg
import Derived.WalkSpells
import Derived.Deep.RegionLaw
import Derived.Lib.AppendZerosOnto
import Derived.Laws.Externs
import Derived.Lib.Bytealg
import Derived.ChangeKeysEq
import Derived.Lib.SlBytesConst
import Derived.Below
import Derived.Deep.Draws
import Derived.Deep.AppendLies
import Derived.Maps.AppendAt
import Derived.OwnWalk
import Derived.Laws.CopyOwn
import Derived.StillTailTactics
import Derived.BigQuiet
import Derived.Laws.BytesArg
import Derived.Laws.MakeOwn
import Derived.Laws.OwnMore
import Derived.Deep.OwnRows
import Derived.Tactics
import Derived.Lib.ConvBytes
import Derived.Laws.Slices
import Derived.WalkKit
import Derived.KernelRfl
import Derived.RowKit3
import Derived.Deep.LoopGhost
import Derived.Deep.QuietTactic
import Derived.WideLaws
import Derived.Deep.DeepCutAuto
import Derived.Deep.CutBlock
import Derived.Deep.RegionHeld3
import Derived.Laws.Rows
import Derived.Lib.AppendStr
import Derived.ArgAppend
import Derived.Laws.IdiomCopy
import Derived.OrdersHeld
import Derived.Laws.BitsLemmas
import Derived.RowKit
import Derived.Test.YtlnfiknllnonhaaWWords
import Derived.Test.YtlnfiknllnonhaaWLast
import Derived.Test.YtlnfiknllnonhaaWTab
import Derived.Test.YtlnfiknllnonhaaWFour
import Derived.Test.YtlnfiknllnonhaaWQPut
import Derived.Test.YtlnfiknllnonhaaWApart
import Derived.Test.YtlnfiknllnonhaaWArr
import Derived.Test.YtlnfiknllnonhaaWZeros
import Derived.Test.YtlnfiknllnonhaaWFoot
import Derived.Test.YtlnfiknllnonhaaWKept
import Derived.Test.YtlnfiknllnonhaaWShare
import Derived.Test.YtlnfiknllnonhaaWN
import Derived.Test.YtlnfiknllnonhaaWFootNe
import Derived.Test.YtlnfiknllnonhaaWAt
import Derived.Test.YtlnfiknllnonhaaWEqStruct
import Derived.Test.YtlnfiknllnonhaaWRepsOne
import Derived.Test.YtlnfiknllnonhaaWInv
import Derived.Test.YtlnfiknllnonhaaWInvWords
import Derived.Test.YtlnfiknllnonhaaWGuard
import Derived.Test.YtlnfiknllnonhaaWNEv
import Derived.Test.YtlnfiknllnonhaaWMore
import Derived.Test.YtlnfiknllnonhaaWOpen
import Derived.Test.YtlnfiknllnonhaaWMid
import Derived.Laws.Bits64
import Derived.Laws.Bits64b
namespace Go.Proofs.Ytlnfiknllnonhaa.Sha
open Go
def M32 : Nat := 4294967296
def rorN (x n : Nat) : Nat := x / 2 ^ n ||| x * 2 ^ (32 - n) % 4294967296
def sg0 (x : Nat) : Nat := (rorN x 7 ^^^ rorN x 18) ^^^ x / 8
def sg1 (x : Nat) : Nat := (rorN x 17 ^^^ rorN x 19) ^^^ x / 1024
def bs0 (x : Nat) : Nat := (rorN x 2 ^^^ rorN x 13) ^^^ rorN x 22
def bs1 (x : Nat) : Nat := (rorN x 6 ^^^ rorN x 11) ^^^ rorN x 25
theorem w32 (n : Int) : IntKind.u32.wrap n = n % 4294967296 := by simp [IntKind.wrap, IntKind.bits, IntKind.signed]
theorem ofInt32 (a : Nat) (ha : a < 4294967296) : (BitVec.ofInt 32 (a : Int)).toNat = a := by
  rw [BitVec.ofInt_natCast, BitVec.toNat_ofNat]; exact Nat.mod_eq_of_lt (by omega)
theorem xor32 (a b : Nat) (ha : a < 4294967296) (hb : b < 4294967296) : bits .xor .u32 (a : Int) (b : Int) = ((a ^^^ b : Nat) : Int) := by
  have hx : a ^^^ b < 2 ^ 32 := Nat.xor_lt_two_pow (by omega) (by omega)
  show IntKind.u32.wrap ((BitVec.ofInt 32 (a : Int) ^^^ BitVec.ofInt 32 (b : Int)).toNat : Int) = _
  rw [BitVec.toNat_xor, ofInt32 a ha, ofInt32 b hb, w32]
  omega
theorem or32 (a b : Nat) (ha : a < 4294967296) (hb : b < 4294967296) : bits .or .u32 (a : Int) (b : Int) = ((a ||| b : Nat) : Int) := by
  have hx : a ||| b < 2 ^ 32 := Nat.or_lt_two_pow (by omega) (by omega)
  show IntKind.u32.wrap ((BitVec.ofInt 32 (a : Int) ||| BitVec.ofInt 32 (b : Int)).toNat : Int) = _
  rw [BitVec.toNat_or, ofInt32 a ha, ofInt32 b hb, w32]
  omega
theorem and32 (a b : Nat) (ha : a < 4294967296) (hb : b < 4294967296) : bits .and .u32 (a : Int) (b : Int) = ((a &&& b : Nat) : Int) := by
  have hx : a &&& b < 2 ^ 32 := Nat.and_lt_two_pow _ (by omega)
  show IntKind.u32.wrap ((BitVec.ofInt 32 (a : Int) &&& BitVec.ofInt 32 (b : Int)).toNat : Int) = _
  rw [BitVec.toNat_and, ofInt32 a ha, ofInt32 b hb, w32]
  omega
theorem xor_lt (a b : Nat) (ha : a < 4294967296) (hb : b < 4294967296) : a ^^^ b < 4294967296 := Nat.xor_lt_two_pow (n := 32) (by omega) (by omega)
theorem or_lt (a b : Nat) (ha : a < 4294967296) (hb : b < 4294967296) : a ||| b < 4294967296 := Nat.or_lt_two_pow (n := 32) (by omega) (by omega)
theorem and_lt (a b : Nat) (hb : b < 4294967296) : a &&& b < 4294967296 := Nat.and_lt_two_pow (n := 32) _ (by omega)
theorem ror_lt (x n : Nat) (hx : x < 4294967296) : rorN x n < 4294967296 := or_lt _ _ (Nat.lt_of_le_of_lt (Nat.div_le_self _ _) hx) (Nat.mod_lt _ (by decide))
theorem add32 (a b : Nat) : ((a : Int) + (b : Int)) % 4294967296 = (((a + b) % 4294967296 : Nat) : Int) := by omega
def KS : List Nat := [1116352408, 1899447441, 3049323471, 3921009573, 961987163, 1508970993, 2453635748, 2870763221, 3624381080, 310598401, 607225278, 1426881987, 1925078388, 2162078206, 2614888103, 3248222580, 3835390401, 4022224774, 264347078, 604807628, 770255983, 1249150122, 1555081692, 1996064986, 2554220882, 2821834349, 2952996808, 3210313671, 3336571891, 3584528711, 113926993, 338241895, 666307205, 773529912, 1294757372, 1396182291, 1695183700, 1986661051, 2177026350, 2456956037, 2730485921, 2820302411, 3259730800, 3345764771, 3516065817, 3600352804, 4094571909, 275423344, 430227734, 506948616, 659060556, 883997877, 958139571, 1322822218, 1537002063, 1747873779, 1955562222, 2024104815, 2227730452, 2361852424, 2428436474, 2756734187, 3204031479, 3329325298]
def S0 : List Nat := [1779033703, 3144134277, 1013904242, 2773480762, 1359893119, 2600822924, 528734635, 1541459225]
def wordN (p : Nat → Nat) (t : Nat) : Nat := ((p (4 * t) * 256 + p (4 * t + 1)) * 256 + p (4 * t + 2)) * 256 + p (4 * t + 3)
def nxt (w : List Nat) (t : Nat) : Nat := (((sg1 (w.getD (t - 2) 0) + w.getD (t - 7) 0) % 4294967296 + sg0 (w.getD (t - 15) 0)) % 4294967296 + w.getD (t - 16) 0) % 4294967296
def sched (p : Nat → Nat) : Nat → List Nat
  | 0 => []
  | t + 1 => sched p t ++ [if t < 16 then wordN p t else nxt (sched p t) t]
def chN (e f g : Nat) : Nat := (e &&& f) ^^^ ((e ^^^ 4294967295) &&& g)
def majN (a b c : Nat) : Nat := ((a &&& b) ^^^ (a &&& c)) ^^^ (b &&& c)
def t1N (k w e f g h : Nat) : Nat := ((((h + bs1 e) % 4294967296 + chN e f g) % 4294967296 + k) % 4294967296 + w) % 4294967296
def t2N (a b c : Nat) : Nat := (bs0 a + majN a b c) % 4294967296
def rnd (k w : Nat) : List Nat → List Nat
  | [a, b, c, d, e, f, g, h] => [(t1N k w e f g h + t2N a b c) % 4294967296, a, b, c, (d + t1N k w e f g h) % 4294967296, e, f, g]
  | _ => []
def rnds (ws : List Nat) : Nat → List Nat → List Nat
  | 0, v => v
  | t + 1, v => rnd (KS.getD t 0) (ws.getD t 0) (rnds ws t v)
def comp (st : List Nat) (p : Nat → Nat) : List Nat := List.zipWith (fun x y => (x + y) % 4294967296) st (rnds (sched p 64) 64 st)
def W32 (l : List Nat) : Prop := ∀ x ∈ l, x < 4294967296
theorem sched_len (p : Nat → Nat) : ∀ t, (sched p t).length = t
  | 0 => rfl
  | t + 1 => by show (sched p t ++ _).length = _; rw [List.length_append, sched_len p t]; rfl
theorem wordN_lt (p : Nat → Nat) (hp : ∀ i, p i < 256) (t : Nat) : wordN p t < 4294967296 := by
  have a := hp (4 * t); have b := hp (4 * t + 1); have c := hp (4 * t + 2); have d := hp (4 * t + 3)
  unfold wordN; omega
theorem W32_get {l : List Nat} (h : W32 l) (j : Nat) : l.getD j 0 < 4294967296 := by
  rw [List.getD_eq_getElem?_getD]
  by_cases hj : j < l.length
  · rw [List.getElem?_eq_getElem hj]; exact h _ (List.getElem_mem hj)
  · rw [List.getElem?_eq_none (by omega)]; decide
theorem W32_snoc {l : List Nat} {x : Nat} (h : W32 l) (hx : x < 4294967296) : W32 (l ++ [x]) := by
  intro y hy
  rcases List.mem_append.1 hy with g | g
  · exact h y g
  · rw [List.mem_singleton.1 g]; exact hx
theorem W32_sched (p : Nat → Nat) (hp : ∀ i, p i < 256) : ∀ t, W32 (sched p t)
  | 0 => fun _ h => absurd h (by simp [sched])
  | t + 1 => W32_snoc (W32_sched p hp t) (by split; · exact wordN_lt p hp t
                                             · exact Nat.mod_lt _ (by decide))
theorem rnds_len (ws : List Nat) (v : List Nat) (hv : v.length = 8) : ∀ t, (rnds ws t v).length = 8
  | 0 => hv
  | t + 1 => by
    have ih := rnds_len ws v hv t
    show (rnd _ _ (rnds ws t v)).length = 8
    match rnds ws t v, ih with
    | [_, _, _, _, _, _, _, _], _ => rfl
theorem len8 {v : List Nat} (h : v.length = 8) : ∃ a b c d e f g i, v = [a, b, c, d, e, f, g, i] := by
  match v, h with
  | [a, b, c, d, e, f, g, i], _ => exact ⟨a, b, c, d, e, f, g, i, rfl⟩
theorem W32_rnds (ws : List Nat) (v : List Nat) (hv : v.length = 8) (h : W32 v) : ∀ t, W32 (rnds ws t v)
  | 0 => h
  | t + 1 => by
    have ih := W32_rnds ws v hv h t
    show W32 (rnd _ _ (rnds ws t v))
    obtain ⟨a, b, c, d, e, f, g, i, he⟩ := len8 (rnds_len ws v hv t)
    rw [he] at ih ⊢
    intro x hx
    simp only [rnd, List.mem_cons, List.not_mem_nil, or_false] at hx
    rcases hx with rfl | rfl | rfl | rfl | rfl | rfl | rfl | rfl
    · exact Nat.mod_lt _ (by decide)
    all_goals first | exact Nat.mod_lt _ (by decide) | exact ih _ (by simp)
end Go.Proofs.Ytlnfiknllnonhaa.Sha
