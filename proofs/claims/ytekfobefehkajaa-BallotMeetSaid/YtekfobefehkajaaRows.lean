/-
  No cell of these rows narrows 'for every input' (looked for: loops, veiled, ifaces, maps, wideKeys, modest, calm, conditions, laid).
  DERIVED. THE GIVEN ROWS OF THIS SEAT. 8 by the template 'for every input the law returns true; each argument reads behind the call as it read before'; 0 by the template 'total and deterministic' (their statements: YtekfobefehkajaaTotals.lean).
  GIVEN WITH THE SEED: the statements are not yours to turn. If you find one false, say at which input.
  Laid BY PROGRAM, IN A SANDBOX (cutbox-rows.mjs): the forced cells as the released guide's own fill.sh prints them over the translation 6d80988fea8f845e… (all of the seat's roots in one cut). By AI agents, Wed Nov 11 2026. No macro, syntax, notation, axiom, sorry.
-/
import Derived.Test.YtekfobefehkajaaChecked
import GoSem.Claim
import GoSem.ClaimJoined
import GoSem.ClaimMapViews
import Derived.JoinedTies
import Derived.KernelRfl
namespace Go.Proofs.Ytekfobefehkajaa
/- THE CELL 'sum', in the pinned program and in every row, IS THE sha256 OF THE DUMP (.gsa) THAT YtekfobefehkajaaProg.lean LOADS. Nothing in Lean hashes anything: it is a label: what it is worth is what the hold of that sum in a sandbox is worth. -/
noncomputable def Try.pinned : Pinned := { name := "ytekfobefehkajaa", sum := "6d80988fea8f845e55be5bdf3e2aac9c19bfeee7a63e069939b939530a39a001", checked := Try.checked }
namespace Rows
def none {H : Type} : Left H := { results := [], args := [] }

/-- 'catenarylaw04.BallotShifts': WHATEVER THE INPUT: true; the input reads as it did. -/
def ballotShiftsSpec : ChangeSpec := { name := "ballotShifts", fn := fun _ => fun
  | [d1, d2, d3] => { results := [.lit (.bool true)], args := [d1, d2, d3] }
  | _ => none }
def ballotShiftsRow : OpenClaim := { program := "ytekfobefehkajaa", sum := "6d80988fea8f845e55be5bdf3e2aac9c19bfeee7a63e069939b939530a39a001", func := "catenary/catenarylaw04.BallotShifts", spec := "ballotShifts", inPlace := ["slices.overlaps[int]"], unfollowed := true, recurses := true, apart := false }
def BallotShiftsSaid : Prop := ballotShiftsRow.holds Try.pinned (OpenSpec.ofChange ballotShiftsSpec)

/-- ITS FALSE NEIGHBOUR: 'it returns false'. Refute it at one input. -/
def ballotShiftsWrong : ChangeSpec := { name := "ballotShifts", fn := fun _ => fun
  | [d1, d2, d3] => { results := [.lit (.bool false)], args := [d1, d2, d3] }
  | _ => none }
def BallotShiftsWrongFalsely : Prop := ballotShiftsRow.holds Try.pinned (OpenSpec.ofChange ballotShiftsWrong)

/-- 'catenarylaw04.BallotMoves': WHATEVER THE INPUT: true; the input reads as it did. -/
def ballotMovesSpec : ChangeSpec := { name := "ballotMoves", fn := fun _ => fun
  | [d1, d2] => { results := [.lit (.bool true)], args := [d1, d2] }
  | _ => none }
def ballotMovesRow : OpenClaim := { program := "ytekfobefehkajaa", sum := "6d80988fea8f845e55be5bdf3e2aac9c19bfeee7a63e069939b939530a39a001", func := "catenary/catenarylaw04.BallotMoves", spec := "ballotMoves", inPlace := ["slices.overlaps[int]"], unfollowed := true, recurses := true, apart := false }
def BallotMovesSaid : Prop := ballotMovesRow.holds Try.pinned (OpenSpec.ofChange ballotMovesSpec)

/-- ITS FALSE NEIGHBOUR: 'it returns false'. Refute it at one input. -/
def ballotMovesWrong : ChangeSpec := { name := "ballotMoves", fn := fun _ => fun
  | [d1, d2] => { results := [.lit (.bool false)], args := [d1, d2] }
  | _ => none }
def BallotMovesWrongFalsely : Prop := ballotMovesRow.holds Try.pinned (OpenSpec.ofChange ballotMovesWrong)

/-- 'catenarylaw04.BallotClears': WHATEVER THE INPUT: true; the input reads as it did. -/
def ballotClearsSpec : ChangeSpec := { name := "ballotClears", fn := fun _ => fun
  | [d1, d2] => { results := [.lit (.bool true)], args := [d1, d2] }
  | _ => none }
def ballotClearsRow : OpenClaim := { program := "ytekfobefehkajaa", sum := "6d80988fea8f845e55be5bdf3e2aac9c19bfeee7a63e069939b939530a39a001", func := "catenary/catenarylaw04.BallotClears", spec := "ballotClears", inPlace := ["slices.overlaps[int]"], unfollowed := true, recurses := true, apart := false }
def BallotClearsSaid : Prop := ballotClearsRow.holds Try.pinned (OpenSpec.ofChange ballotClearsSpec)

/-- ITS FALSE NEIGHBOUR: 'it returns false'. Refute it at one input. -/
def ballotClearsWrong : ChangeSpec := { name := "ballotClears", fn := fun _ => fun
  | [d1, d2] => { results := [.lit (.bool false)], args := [d1, d2] }
  | _ => none }
def BallotClearsWrongFalsely : Prop := ballotClearsRow.holds Try.pinned (OpenSpec.ofChange ballotClearsWrong)

/-- 'catenarylaw04.BallotNames': WHATEVER THE INPUT: true; the input reads as it did. -/
def ballotNamesSpec : ChangeSpec := { name := "ballotNames", fn := fun _ => fun
  | [] => { results := [.lit (.bool true)], args := [] }
  | _ => none }
def ballotNamesRow : OpenClaim := { program := "ytekfobefehkajaa", sum := "6d80988fea8f845e55be5bdf3e2aac9c19bfeee7a63e069939b939530a39a001", func := "catenary/catenarylaw04.BallotNames", spec := "ballotNames", inPlace := ["slices.overlaps[int]"], unfollowed := true, recurses := true, apart := false }
def BallotNamesSaid : Prop := ballotNamesRow.holds Try.pinned (OpenSpec.ofChange ballotNamesSpec)

/-- ITS FALSE NEIGHBOUR: 'it returns false'. Refute it at one input. -/
def ballotNamesWrong : ChangeSpec := { name := "ballotNames", fn := fun _ => fun
  | [] => { results := [.lit (.bool false)], args := [] }
  | _ => none }
def BallotNamesWrongFalsely : Prop := ballotNamesRow.holds Try.pinned (OpenSpec.ofChange ballotNamesWrong)

/-- 'catenarylaw04.BallotMeet': WHATEVER THE INPUT: true; the input reads as it did. -/
def ballotMeetSpec : ChangeSpec := { name := "ballotMeet", fn := fun _ => fun
  | [d1, d2, d3] => { results := [.lit (.bool true)], args := [d1, d2, d3] }
  | _ => none }
def ballotMeetRow : OpenClaim := { program := "ytekfobefehkajaa", sum := "6d80988fea8f845e55be5bdf3e2aac9c19bfeee7a63e069939b939530a39a001", func := "catenary/catenarylaw04.BallotMeet", spec := "ballotMeet", inPlace := ["slices.overlaps[int]"], unfollowed := true, recurses := true, apart := false }
def BallotMeetSaid : Prop := ballotMeetRow.holds Try.pinned (OpenSpec.ofChange ballotMeetSpec)

/-- ITS FALSE NEIGHBOUR: 'it returns false'. Refute it at one input. -/
def ballotMeetWrong : ChangeSpec := { name := "ballotMeet", fn := fun _ => fun
  | [d1, d2, d3] => { results := [.lit (.bool false)], args := [d1, d2, d3] }
  | _ => none }
def BallotMeetWrongFalsely : Prop := ballotMeetRow.holds Try.pinned (OpenSpec.ofChange ballotMeetWrong)

/-- 'catenarylaw04.BallotOrders': WHATEVER THE INPUT: true; the input reads as it did. -/
def ballotOrdersSpec : ChangeSpec := { name := "ballotOrders", fn := fun _ => fun
  | [d1, d2, d3] => { results := [.lit (.bool true)], args := [d1, d2, d3] }
  | _ => none }
def ballotOrdersRow : OpenClaim := { program := "ytekfobefehkajaa", sum := "6d80988fea8f845e55be5bdf3e2aac9c19bfeee7a63e069939b939530a39a001", func := "catenary/catenarylaw04.BallotOrders", spec := "ballotOrders", inPlace := ["slices.overlaps[int]"], unfollowed := true, recurses := true, apart := false }
def BallotOrdersSaid : Prop := ballotOrdersRow.holds Try.pinned (OpenSpec.ofChange ballotOrdersSpec)

/-- ITS FALSE NEIGHBOUR: 'it returns false'. Refute it at one input. -/
def ballotOrdersWrong : ChangeSpec := { name := "ballotOrders", fn := fun _ => fun
  | [d1, d2, d3] => { results := [.lit (.bool false)], args := [d1, d2, d3] }
  | _ => none }
def BallotOrdersWrongFalsely : Prop := ballotOrdersRow.holds Try.pinned (OpenSpec.ofChange ballotOrdersWrong)

/-- 'catenarylaw04.BallotSorts': WHATEVER THE INPUT: true; the input reads as it did. -/
def ballotSortsSpec : ChangeSpec := { name := "ballotSorts", fn := fun _ => fun
  | [d1, d2, d3] => { results := [.lit (.bool true)], args := [d1, d2, d3] }
  | _ => none }
def ballotSortsRow : OpenClaim := { program := "ytekfobefehkajaa", sum := "6d80988fea8f845e55be5bdf3e2aac9c19bfeee7a63e069939b939530a39a001", func := "catenary/catenarylaw04.BallotSorts", spec := "ballotSorts", inPlace := ["slices.overlaps[int]"], unfollowed := true, recurses := true, apart := false }
def BallotSortsSaid : Prop := ballotSortsRow.holds Try.pinned (OpenSpec.ofChange ballotSortsSpec)

/-- ITS FALSE NEIGHBOUR: 'it returns false'. Refute it at one input. -/
def ballotSortsWrong : ChangeSpec := { name := "ballotSorts", fn := fun _ => fun
  | [d1, d2, d3] => { results := [.lit (.bool false)], args := [d1, d2, d3] }
  | _ => none }
def BallotSortsWrongFalsely : Prop := ballotSortsRow.holds Try.pinned (OpenSpec.ofChange ballotSortsWrong)

/-- 'catenarylaw04.BallotNumbers': WHATEVER THE INPUT: true; the input reads as it did. -/
def ballotNumbersSpec : ChangeSpec := { name := "ballotNumbers", fn := fun _ => fun
  | [d1, d2, d3] => { results := [.lit (.bool true)], args := [d1, d2, d3] }
  | _ => none }
def ballotNumbersRow : OpenClaim := { program := "ytekfobefehkajaa", sum := "6d80988fea8f845e55be5bdf3e2aac9c19bfeee7a63e069939b939530a39a001", func := "catenary/catenarylaw04.BallotNumbers", spec := "ballotNumbers", inPlace := ["slices.overlaps[int]"], unfollowed := true, recurses := true, apart := false }
def BallotNumbersSaid : Prop := ballotNumbersRow.holds Try.pinned (OpenSpec.ofChange ballotNumbersSpec)

/-- ITS FALSE NEIGHBOUR: 'it returns false'. Refute it at one input. -/
def ballotNumbersWrong : ChangeSpec := { name := "ballotNumbers", fn := fun _ => fun
  | [d1, d2, d3] => { results := [.lit (.bool false)], args := [d1, d2, d3] }
  | _ => none }
def BallotNumbersWrongFalsely : Prop := ballotNumbersRow.holds Try.pinned (OpenSpec.ofChange ballotNumbersWrong)

/- THE SECOND FORM. 'bulk': how many values and letters a reading holds, each counted each time it is reached (what is shared counts as often as it is met; a slice's spare places count too). A statement '..UptoSaid' is the law's where the arguments, and the package variables that the reading takes, are together of bulk at most 1048576: NARROWER than '..Said'. Prove '..Said' where nothing that the law and all that it calls make is longer than what came in: it says more and counts as full. Else prove '..UptoSaid'. A law counts once. -/
mutual
def uptoBulk {H : Type} : DataW H → Nat
  | .lit (.string bytes) => bytes.length + 1
  | .lit _ => 1
  | .nil => 1
  | .ptr d => uptoBulk d + 1
  | .slice elems spare => uptoBulkAll elems + uptoBulkAll spare + 1
  | .agg parts => uptoBulkAll parts + 1
  | .iface _ d => uptoBulk d + 1
  | .map entries => uptoBulkEntries entries + 1
  | .held _ => 1
def uptoBulkAll {H : Type} : List (DataW H) → Nat
  | [] => 0
  | d :: r => uptoBulk d + uptoBulkAll r
def uptoBulkEntries {H : Type} : List (Lit × DataW H) → Nat
  | [] => 0
  | x :: r => uptoBulkEntry x + uptoBulkEntries r
def uptoBulkEntry {H : Type} : Lit × DataW H → Nat
  | (.string bytes, d) => bytes.length + uptoBulk d + 1
  | (_, d) => uptoBulk d + 1
 end
def uptoSmall : (H : Type) → List (DataW H) → Bool := fun _ ds => decide (uptoBulkAll ds ≤ 1048576)
def OpenSpec.upto (s : _root_.Go.ChangeSpec) : _root_.Go.OpenSpec := { _root_.Go.OpenSpec.ofChange s with cond := some uptoSmall }

/-- 'catenarylaw04.BallotShifts', WHERE WHAT IT READS IS OF BULK AT MOST 1048576: true; the input reads as it did. -/
def ballotShiftsUptoRow : OpenClaim := { program := "ytekfobefehkajaa", sum := "6d80988fea8f845e55be5bdf3e2aac9c19bfeee7a63e069939b939530a39a001", func := "catenary/catenarylaw04.BallotShifts", spec := "ballotShifts", inPlace := ["slices.overlaps[int]"], unfollowed := true, recurses := true, apart := false, narrowed := true }
def BallotShiftsUptoSaid : Prop := ballotShiftsUptoRow.holds Try.pinned (OpenSpec.upto ballotShiftsSpec)

/-- 'catenarylaw04.BallotMoves', WHERE WHAT IT READS IS OF BULK AT MOST 1048576: true; the input reads as it did. -/
def ballotMovesUptoRow : OpenClaim := { program := "ytekfobefehkajaa", sum := "6d80988fea8f845e55be5bdf3e2aac9c19bfeee7a63e069939b939530a39a001", func := "catenary/catenarylaw04.BallotMoves", spec := "ballotMoves", inPlace := ["slices.overlaps[int]"], unfollowed := true, recurses := true, apart := false, narrowed := true }
def BallotMovesUptoSaid : Prop := ballotMovesUptoRow.holds Try.pinned (OpenSpec.upto ballotMovesSpec)

/-- 'catenarylaw04.BallotClears', WHERE WHAT IT READS IS OF BULK AT MOST 1048576: true; the input reads as it did. -/
def ballotClearsUptoRow : OpenClaim := { program := "ytekfobefehkajaa", sum := "6d80988fea8f845e55be5bdf3e2aac9c19bfeee7a63e069939b939530a39a001", func := "catenary/catenarylaw04.BallotClears", spec := "ballotClears", inPlace := ["slices.overlaps[int]"], unfollowed := true, recurses := true, apart := false, narrowed := true }
def BallotClearsUptoSaid : Prop := ballotClearsUptoRow.holds Try.pinned (OpenSpec.upto ballotClearsSpec)

/-- 'catenarylaw04.BallotNames', WHERE WHAT IT READS IS OF BULK AT MOST 1048576: true; the input reads as it did. -/
def ballotNamesUptoRow : OpenClaim := { program := "ytekfobefehkajaa", sum := "6d80988fea8f845e55be5bdf3e2aac9c19bfeee7a63e069939b939530a39a001", func := "catenary/catenarylaw04.BallotNames", spec := "ballotNames", inPlace := ["slices.overlaps[int]"], unfollowed := true, recurses := true, apart := false, narrowed := true }
def BallotNamesUptoSaid : Prop := ballotNamesUptoRow.holds Try.pinned (OpenSpec.upto ballotNamesSpec)

/-- 'catenarylaw04.BallotMeet', WHERE WHAT IT READS IS OF BULK AT MOST 1048576: true; the input reads as it did. -/
def ballotMeetUptoRow : OpenClaim := { program := "ytekfobefehkajaa", sum := "6d80988fea8f845e55be5bdf3e2aac9c19bfeee7a63e069939b939530a39a001", func := "catenary/catenarylaw04.BallotMeet", spec := "ballotMeet", inPlace := ["slices.overlaps[int]"], unfollowed := true, recurses := true, apart := false, narrowed := true }
def BallotMeetUptoSaid : Prop := ballotMeetUptoRow.holds Try.pinned (OpenSpec.upto ballotMeetSpec)

/-- 'catenarylaw04.BallotOrders', WHERE WHAT IT READS IS OF BULK AT MOST 1048576: true; the input reads as it did. -/
def ballotOrdersUptoRow : OpenClaim := { program := "ytekfobefehkajaa", sum := "6d80988fea8f845e55be5bdf3e2aac9c19bfeee7a63e069939b939530a39a001", func := "catenary/catenarylaw04.BallotOrders", spec := "ballotOrders", inPlace := ["slices.overlaps[int]"], unfollowed := true, recurses := true, apart := false, narrowed := true }
def BallotOrdersUptoSaid : Prop := ballotOrdersUptoRow.holds Try.pinned (OpenSpec.upto ballotOrdersSpec)

/-- 'catenarylaw04.BallotSorts', WHERE WHAT IT READS IS OF BULK AT MOST 1048576: true; the input reads as it did. -/
def ballotSortsUptoRow : OpenClaim := { program := "ytekfobefehkajaa", sum := "6d80988fea8f845e55be5bdf3e2aac9c19bfeee7a63e069939b939530a39a001", func := "catenary/catenarylaw04.BallotSorts", spec := "ballotSorts", inPlace := ["slices.overlaps[int]"], unfollowed := true, recurses := true, apart := false, narrowed := true }
def BallotSortsUptoSaid : Prop := ballotSortsUptoRow.holds Try.pinned (OpenSpec.upto ballotSortsSpec)

/-- 'catenarylaw04.BallotNumbers', WHERE WHAT IT READS IS OF BULK AT MOST 1048576: true; the input reads as it did. -/
def ballotNumbersUptoRow : OpenClaim := { program := "ytekfobefehkajaa", sum := "6d80988fea8f845e55be5bdf3e2aac9c19bfeee7a63e069939b939530a39a001", func := "catenary/catenarylaw04.BallotNumbers", spec := "ballotNumbers", inPlace := ["slices.overlaps[int]"], unfollowed := true, recurses := true, apart := false, narrowed := true }
def BallotNumbersUptoSaid : Prop := ballotNumbersUptoRow.holds Try.pinned (OpenSpec.upto ballotNumbersSpec)

end Rows
end Go.Proofs.Ytekfobefehkajaa
