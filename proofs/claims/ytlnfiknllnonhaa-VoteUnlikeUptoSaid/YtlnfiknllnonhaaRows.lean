/-
  No cell of these rows narrows 'for every input' (looked for: loops, veiled, ifaces, maps, wideKeys, modest, calm, conditions, laid).
  DERIVED. THE GIVEN ROWS OF THIS SEAT. 5 by the template 'for every input the law returns true; each argument reads behind the call as it read before'; 0 by the template 'total and deterministic' (their statements: YtlnfiknllnonhaaTotals.lean).
  GIVEN WITH THE SEED: the statements are not yours to turn. If you find one false, say at which input.
  Laid BY PROGRAM, IN A SANDBOX (cutbox-rows.mjs): the forced cells as the released guide's own fill.sh prints them over the translation 9e7e728ccc18e95a… (all of the seat's roots in one cut). By AI agents, Wed Nov 11 2026. No macro, syntax, notation, axiom, sorry.
-/
import Derived.Test.YtlnfiknllnonhaaChecked
import GoSem.Claim
import GoSem.ClaimJoined
import GoSem.ClaimMapViews
import Derived.JoinedTies
import Derived.KernelRfl
namespace Go.Proofs.Ytlnfiknllnonhaa
/- THE CELL 'sum', in the pinned program and in every row, IS THE sha256 OF THE DUMP (.gsa) THAT YtlnfiknllnonhaaProg.lean LOADS. Nothing in Lean hashes anything: it is a label: what it is worth is what the hold of that sum in a sandbox is worth. -/
noncomputable def Try.pinned : Pinned := { name := "ytlnfiknllnonhaa", sum := "9e7e728ccc18e95a3abd35908dda4ef9685bf3aef048d2c496f32d9d31de68a8", checked := Try.checked }
namespace Rows
def none {H : Type} : Left H := { results := [], args := [] }

/-- 'catenarylaw06.VoteNames': WHATEVER THE INPUT: true; the input reads as it did. -/
def voteNamesSpec : ChangeSpec := { name := "voteNames", fn := fun _ => fun
  | [] => { results := [.lit (.bool true)], args := [] }
  | _ => none }
def voteNamesRow : OpenClaim := { program := "ytlnfiknllnonhaa", sum := "9e7e728ccc18e95a3abd35908dda4ef9685bf3aef048d2c496f32d9d31de68a8", func := "catenary/catenarylaw06.VoteNames", spec := "voteNames", apart := false }
def VoteNamesSaid : Prop := voteNamesRow.holds Try.pinned (OpenSpec.ofChange voteNamesSpec)

/-- ITS FALSE NEIGHBOUR: 'it returns false'. Refute it at one input. -/
def voteNamesWrong : ChangeSpec := { name := "voteNames", fn := fun _ => fun
  | [] => { results := [.lit (.bool false)], args := [] }
  | _ => none }
def VoteNamesWrongFalsely : Prop := voteNamesRow.holds Try.pinned (OpenSpec.ofChange voteNamesWrong)

/-- 'catenarylaw06.VoteMakes': WHATEVER THE INPUT: true; the input reads as it did. -/
def voteMakesSpec : ChangeSpec := { name := "voteMakes", fn := fun _ => fun
  | [d1, d2, d3] => { results := [.lit (.bool true)], args := [d1, d2, d3] }
  | _ => none }
def voteMakesRow : OpenClaim := { program := "ytlnfiknllnonhaa", sum := "9e7e728ccc18e95a3abd35908dda4ef9685bf3aef048d2c496f32d9d31de68a8", func := "catenary/catenarylaw06.VoteMakes", spec := "voteMakes", recurses := true, apart := false }
def VoteMakesSaid : Prop := voteMakesRow.holds Try.pinned (OpenSpec.ofChange voteMakesSpec)

/-- ITS FALSE NEIGHBOUR: 'it returns false'. Refute it at one input. -/
def voteMakesWrong : ChangeSpec := { name := "voteMakes", fn := fun _ => fun
  | [d1, d2, d3] => { results := [.lit (.bool false)], args := [d1, d2, d3] }
  | _ => none }
def VoteMakesWrongFalsely : Prop := voteMakesRow.holds Try.pinned (OpenSpec.ofChange voteMakesWrong)

/-- 'catenarylaw06.VoteUnlike': WHATEVER THE INPUT: true; the input reads as it did. -/
def voteUnlikeSpec : ChangeSpec := { name := "voteUnlike", fn := fun _ => fun
  | [d1, d2, d3] => { results := [.lit (.bool true)], args := [d1, d2, d3] }
  | _ => none }
def voteUnlikeRow : OpenClaim := { program := "ytlnfiknllnonhaa", sum := "9e7e728ccc18e95a3abd35908dda4ef9685bf3aef048d2c496f32d9d31de68a8", func := "catenary/catenarylaw06.VoteUnlike", spec := "voteUnlike", apart := false }
def VoteUnlikeSaid : Prop := voteUnlikeRow.holds Try.pinned (OpenSpec.ofChange voteUnlikeSpec)

/-- ITS FALSE NEIGHBOUR: 'it returns false'. Refute it at one input. -/
def voteUnlikeWrong : ChangeSpec := { name := "voteUnlike", fn := fun _ => fun
  | [d1, d2, d3] => { results := [.lit (.bool false)], args := [d1, d2, d3] }
  | _ => none }
def VoteUnlikeWrongFalsely : Prop := voteUnlikeRow.holds Try.pinned (OpenSpec.ofChange voteUnlikeWrong)

/-- 'catenarylaw06.VoteAsks': WHATEVER THE INPUT: true; the input reads as it did. -/
def voteAsksSpec : ChangeSpec := { name := "voteAsks", fn := fun _ => fun
  | [d] => { results := [.lit (.bool true)], args := [d] }
  | _ => none }
def voteAsksRow : OpenClaim := { program := "ytlnfiknllnonhaa", sum := "9e7e728ccc18e95a3abd35908dda4ef9685bf3aef048d2c496f32d9d31de68a8", func := "catenary/catenarylaw06.VoteAsks", spec := "voteAsks", recurses := true, apart := false }
def VoteAsksSaid : Prop := voteAsksRow.holds Try.pinned (OpenSpec.ofChange voteAsksSpec)

/-- ITS FALSE NEIGHBOUR: 'it returns false'. Refute it at one input. -/
def voteAsksWrong : ChangeSpec := { name := "voteAsks", fn := fun _ => fun
  | [d] => { results := [.lit (.bool false)], args := [d] }
  | _ => none }
def VoteAsksWrongFalsely : Prop := voteAsksRow.holds Try.pinned (OpenSpec.ofChange voteAsksWrong)

/-- 'catenarylaw06.VoteCerts': WHATEVER THE INPUT: true; the input reads as it did. -/
def voteCertsSpec : ChangeSpec := { name := "voteCerts", fn := fun _ => fun
  | [d1, d2, d3] => { results := [.lit (.bool true)], args := [d1, d2, d3] }
  | _ => none }
def voteCertsRow : OpenClaim := { program := "ytlnfiknllnonhaa", sum := "9e7e728ccc18e95a3abd35908dda4ef9685bf3aef048d2c496f32d9d31de68a8", func := "catenary/catenarylaw06.VoteCerts", spec := "voteCerts", unfollowed := true, recurses := true, apart := false }
def VoteCertsSaid : Prop := voteCertsRow.holds Try.pinned (OpenSpec.ofChange voteCertsSpec)

/-- ITS FALSE NEIGHBOUR: 'it returns false'. Refute it at one input. -/
def voteCertsWrong : ChangeSpec := { name := "voteCerts", fn := fun _ => fun
  | [d1, d2, d3] => { results := [.lit (.bool false)], args := [d1, d2, d3] }
  | _ => none }
def VoteCertsWrongFalsely : Prop := voteCertsRow.holds Try.pinned (OpenSpec.ofChange voteCertsWrong)

/- THE SECOND FORM. 'bulk': how many values and letters a reading holds, each counted each time it is reached (what is shared counts as often as it is met; a slice's spare places count too). A statement '..UptoSaid' is the law's where the arguments, and the package variables that the reading takes, are together of bulk at most 1048576: NARROWER than '..Said'. Prove '..Said' where nothing that the law and all that it calls make is longer than what came in: it says more and counts as full. Else prove '..UptoSaid'. A law counts once. -/
mutual
def uptoBulk {H : Type} : DataW H → Nat
  | .lit (.string bytes) => bytes.length + 1
  | .lit _ => 1
  | .nil => 1
  | .ptr d => uptoBulk d + 1
  | .slice elems spare => uptoBulkAll elems + uptoBulkAll spare + 1
  | .agg parts => uptoBulkAll parts + 1
  | .iface _ d => uptoBulk d + 1
  | .map entries => uptoBulkEntries entries + 1
  | .held _ => 1
def uptoBulkAll {H : Type} : List (DataW H) → Nat
  | [] => 0
  | d :: r => uptoBulk d + uptoBulkAll r
def uptoBulkEntries {H : Type} : List (Lit × DataW H) → Nat
  | [] => 0
  | x :: r => uptoBulkEntry x + uptoBulkEntries r
def uptoBulkEntry {H : Type} : Lit × DataW H → Nat
  | (.string bytes, d) => bytes.length + uptoBulk d + 1
  | (_, d) => uptoBulk d + 1
 end
def uptoSmall : (H : Type) → List (DataW H) → Bool := fun _ ds => decide (uptoBulkAll ds ≤ 1048576)
def OpenSpec.upto (s : _root_.Go.ChangeSpec) : _root_.Go.OpenSpec := { _root_.Go.OpenSpec.ofChange s with cond := some uptoSmall }

/-- 'catenarylaw06.VoteNames', WHERE WHAT IT READS IS OF BULK AT MOST 1048576: true; the input reads as it did. -/
def voteNamesUptoRow : OpenClaim := { program := "ytlnfiknllnonhaa", sum := "9e7e728ccc18e95a3abd35908dda4ef9685bf3aef048d2c496f32d9d31de68a8", func := "catenary/catenarylaw06.VoteNames", spec := "voteNames", apart := false, narrowed := true }
def VoteNamesUptoSaid : Prop := voteNamesUptoRow.holds Try.pinned (OpenSpec.upto voteNamesSpec)

/-- 'catenarylaw06.VoteMakes', WHERE WHAT IT READS IS OF BULK AT MOST 1048576: true; the input reads as it did. -/
def voteMakesUptoRow : OpenClaim := { program := "ytlnfiknllnonhaa", sum := "9e7e728ccc18e95a3abd35908dda4ef9685bf3aef048d2c496f32d9d31de68a8", func := "catenary/catenarylaw06.VoteMakes", spec := "voteMakes", recurses := true, apart := false, narrowed := true }
def VoteMakesUptoSaid : Prop := voteMakesUptoRow.holds Try.pinned (OpenSpec.upto voteMakesSpec)

/-- 'catenarylaw06.VoteUnlike', WHERE WHAT IT READS IS OF BULK AT MOST 1048576: true; the input reads as it did. -/
def voteUnlikeUptoRow : OpenClaim := { program := "ytlnfiknllnonhaa", sum := "9e7e728ccc18e95a3abd35908dda4ef9685bf3aef048d2c496f32d9d31de68a8", func := "catenary/catenarylaw06.VoteUnlike", spec := "voteUnlike", apart := false, narrowed := true }
def VoteUnlikeUptoSaid : Prop := voteUnlikeUptoRow.holds Try.pinned (OpenSpec.upto voteUnlikeSpec)

/-- 'catenarylaw06.VoteAsks', WHERE WHAT IT READS IS OF BULK AT MOST 1048576: true; the input reads as it did. -/
def voteAsksUptoRow : OpenClaim := { program := "ytlnfiknllnonhaa", sum := "9e7e728ccc18e95a3abd35908dda4ef9685bf3aef048d2c496f32d9d31de68a8", func := "catenary/catenarylaw06.VoteAsks", spec := "voteAsks", recurses := true, apart := false, narrowed := true }
def VoteAsksUptoSaid : Prop := voteAsksUptoRow.holds Try.pinned (OpenSpec.upto voteAsksSpec)

/-- 'catenarylaw06.VoteCerts', WHERE WHAT IT READS IS OF BULK AT MOST 1048576: true; the input reads as it did. -/
def voteCertsUptoRow : OpenClaim := { program := "ytlnfiknllnonhaa", sum := "9e7e728ccc18e95a3abd35908dda4ef9685bf3aef048d2c496f32d9d31de68a8", func := "catenary/catenarylaw06.VoteCerts", spec := "voteCerts", unfollowed := true, recurses := true, apart := false, narrowed := true }
def VoteCertsUptoSaid : Prop := voteCertsUptoRow.holds Try.pinned (OpenSpec.upto voteCertsSpec)

end Rows
end Go.Proofs.Ytlnfiknllnonhaa
