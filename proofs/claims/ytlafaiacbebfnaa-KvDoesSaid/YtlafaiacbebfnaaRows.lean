/-
  No cell of these rows narrows 'for every input' (looked for: loops, veiled, ifaces, maps, wideKeys, modest, calm, conditions, laid).
  DERIVED. THE GIVEN ROWS OF THIS SEAT. 6 by the template 'for every input the law returns true; each argument reads behind the call as it read before'; 0 by the template 'total and deterministic' (their statements: YtlafaiacbebfnaaTotals.lean).
  GIVEN WITH THE SEED: the statements are not yours to turn. If you find one false, say at which input.
  Laid BY PROGRAM, IN A SANDBOX (cutbox-rows.mjs): the forced cells as the released guide's own fill.sh prints them over the translation 21a31d6fcf681798… (all of the seat's roots in one cut). By AI agents, Wed Nov 11 2026. No macro, syntax, notation, axiom, sorry.
-/
import Derived.Test.YtlafaiacbebfnaaChecked
import GoSem.Claim
import GoSem.ClaimJoined
import GoSem.ClaimMapViews
import Derived.JoinedTies
import Derived.KernelRfl
namespace Go.Proofs.Ytlafaiacbebfnaa
/- THE CELL 'sum', in the pinned program and in every row, IS THE sha256 OF THE DUMP (.gsa) THAT YtlafaiacbebfnaaProg.lean LOADS. Nothing in Lean hashes anything: it is a label: what it is worth is what the hold of that sum in a sandbox is worth. -/
noncomputable def Try.pinned : Pinned := { name := "ytlafaiacbebfnaa", sum := "21a31d6fcf681798608a3d172dfc342f2f043b282fc08fd077d8a13c5f022497", checked := Try.checked }
namespace Rows
def none {H : Type} : Left H := { results := [], args := [] }

/-- 'catenarylaw07.KvNames': WHATEVER THE INPUT: true; the input reads as it did. -/
def kvNamesSpec : ChangeSpec := { name := "kvNames", fn := fun _ => fun
  | [] => { results := [.lit (.bool true)], args := [] }
  | _ => none }
def kvNamesRow : OpenClaim := { program := "ytlafaiacbebfnaa", sum := "21a31d6fcf681798608a3d172dfc342f2f043b282fc08fd077d8a13c5f022497", func := "catenary/catenarylaw07.KvNames", spec := "kvNames", inPlace := ["internal/bytealg.Compare", "slices.overlaps[catenary/api.Entry]"], unfollowed := true, recurses := true, apart := false }
def KvNamesSaid : Prop := kvNamesRow.holds Try.pinned (OpenSpec.ofChange kvNamesSpec)

/-- ITS FALSE NEIGHBOUR: 'it returns false'. Refute it at one input. -/
def kvNamesWrong : ChangeSpec := { name := "kvNames", fn := fun _ => fun
  | [] => { results := [.lit (.bool false)], args := [] }
  | _ => none }
def KvNamesWrongFalsely : Prop := kvNamesRow.holds Try.pinned (OpenSpec.ofChange kvNamesWrong)

/-- 'catenarylaw07.KvDoes': WHATEVER THE INPUT: true; the input reads as it did. -/
def kvDoesSpec : ChangeSpec := { name := "kvDoes", fn := fun _ => fun
  | [d1, d2] => { results := [.lit (.bool true)], args := [d1, d2] }
  | _ => none }
def kvDoesRow : OpenClaim := { program := "ytlafaiacbebfnaa", sum := "21a31d6fcf681798608a3d172dfc342f2f043b282fc08fd077d8a13c5f022497", func := "catenary/catenarylaw07.KvDoes", spec := "kvDoes", inPlace := ["internal/bytealg.Compare", "slices.overlaps[catenary/api.Entry]"], unfollowed := true, recurses := true, apart := false }
def KvDoesSaid : Prop := kvDoesRow.holds Try.pinned (OpenSpec.ofChange kvDoesSpec)

/-- ITS FALSE NEIGHBOUR: 'it returns false'. Refute it at one input. -/
def kvDoesWrong : ChangeSpec := { name := "kvDoes", fn := fun _ => fun
  | [d1, d2] => { results := [.lit (.bool false)], args := [d1, d2] }
  | _ => none }
def KvDoesWrongFalsely : Prop := kvDoesRow.holds Try.pinned (OpenSpec.ofChange kvDoesWrong)

/-- 'catenarylaw07.KvKeeps': WHATEVER THE INPUT: true; the input reads as it did. -/
def kvKeepsSpec : ChangeSpec := { name := "kvKeeps", fn := fun _ => fun
  | [d1, d2, d3] => { results := [.lit (.bool true)], args := [d1, d2, d3] }
  | _ => none }
def kvKeepsRow : OpenClaim := { program := "ytlafaiacbebfnaa", sum := "21a31d6fcf681798608a3d172dfc342f2f043b282fc08fd077d8a13c5f022497", func := "catenary/catenarylaw07.KvKeeps", spec := "kvKeeps", inPlace := ["internal/bytealg.Compare", "slices.overlaps[catenary/api.Entry]"], unfollowed := true, recurses := true, apart := false }
def KvKeepsSaid : Prop := kvKeepsRow.holds Try.pinned (OpenSpec.ofChange kvKeepsSpec)

/-- ITS FALSE NEIGHBOUR: 'it returns false'. Refute it at one input. -/
def kvKeepsWrong : ChangeSpec := { name := "kvKeeps", fn := fun _ => fun
  | [d1, d2, d3] => { results := [.lit (.bool false)], args := [d1, d2, d3] }
  | _ => none }
def KvKeepsWrongFalsely : Prop := kvKeepsRow.holds Try.pinned (OpenSpec.ofChange kvKeepsWrong)

/-- 'catenarylaw07.KvCommutes': WHATEVER THE INPUT: true; the input reads as it did. -/
def kvCommutesSpec : ChangeSpec := { name := "kvCommutes", fn := fun _ => fun
  | [d1, d2, d3] => { results := [.lit (.bool true)], args := [d1, d2, d3] }
  | _ => none }
def kvCommutesRow : OpenClaim := { program := "ytlafaiacbebfnaa", sum := "21a31d6fcf681798608a3d172dfc342f2f043b282fc08fd077d8a13c5f022497", func := "catenary/catenarylaw07.KvCommutes", spec := "kvCommutes", inPlace := ["internal/bytealg.Compare", "slices.overlaps[catenary/api.Entry]"], unfollowed := true, recurses := true, apart := false }
def KvCommutesSaid : Prop := kvCommutesRow.holds Try.pinned (OpenSpec.ofChange kvCommutesSpec)

/-- ITS FALSE NEIGHBOUR: 'it returns false'. Refute it at one input. -/
def kvCommutesWrong : ChangeSpec := { name := "kvCommutes", fn := fun _ => fun
  | [d1, d2, d3] => { results := [.lit (.bool false)], args := [d1, d2, d3] }
  | _ => none }
def KvCommutesWrongFalsely : Prop := kvCommutesRow.holds Try.pinned (OpenSpec.ofChange kvCommutesWrong)

/-- 'catenarylaw07.KvWrites': WHATEVER THE INPUT: true; the input reads as it did. -/
def kvWritesSpec : ChangeSpec := { name := "kvWrites", fn := fun _ => fun
  | [d] => { results := [.lit (.bool true)], args := [d] }
  | _ => none }
def kvWritesRow : OpenClaim := { program := "ytlafaiacbebfnaa", sum := "21a31d6fcf681798608a3d172dfc342f2f043b282fc08fd077d8a13c5f022497", func := "catenary/catenarylaw07.KvWrites", spec := "kvWrites", inPlace := ["internal/bytealg.Compare", "slices.overlaps[catenary/api.Entry]"], unfollowed := true, recurses := true, apart := false }
def KvWritesSaid : Prop := kvWritesRow.holds Try.pinned (OpenSpec.ofChange kvWritesSpec)

/-- ITS FALSE NEIGHBOUR: 'it returns false'. Refute it at one input. -/
def kvWritesWrong : ChangeSpec := { name := "kvWrites", fn := fun _ => fun
  | [d] => { results := [.lit (.bool false)], args := [d] }
  | _ => none }
def KvWritesWrongFalsely : Prop := kvWritesRow.holds Try.pinned (OpenSpec.ofChange kvWritesWrong)

/-- 'catenarylaw07.KvReads': WHATEVER THE INPUT: true; the input reads as it did. -/
def kvReadsSpec : ChangeSpec := { name := "kvReads", fn := fun _ => fun
  | [d] => { results := [.lit (.bool true)], args := [d] }
  | _ => none }
def kvReadsRow : OpenClaim := { program := "ytlafaiacbebfnaa", sum := "21a31d6fcf681798608a3d172dfc342f2f043b282fc08fd077d8a13c5f022497", func := "catenary/catenarylaw07.KvReads", spec := "kvReads", inPlace := ["internal/bytealg.Compare", "slices.overlaps[catenary/api.Entry]"], unfollowed := true, recurses := true, apart := false }
def KvReadsSaid : Prop := kvReadsRow.holds Try.pinned (OpenSpec.ofChange kvReadsSpec)

/-- ITS FALSE NEIGHBOUR: 'it returns false'. Refute it at one input. -/
def kvReadsWrong : ChangeSpec := { name := "kvReads", fn := fun _ => fun
  | [d] => { results := [.lit (.bool false)], args := [d] }
  | _ => none }
def KvReadsWrongFalsely : Prop := kvReadsRow.holds Try.pinned (OpenSpec.ofChange kvReadsWrong)

/- THE SECOND FORM. 'bulk': how many values and letters a reading holds, each counted each time it is reached (what is shared counts as often as it is met; a slice's spare places count too). A statement '..UptoSaid' is the law's where the arguments, and the package variables that the reading takes, are together of bulk at most 1048576: NARROWER than '..Said'. Prove '..Said' where nothing that the law and all that it calls make is longer than what came in: it says more and counts as full. Else prove '..UptoSaid'. A law counts once. -/
mutual
def uptoBulk {H : Type} : DataW H → Nat
  | .lit (.string bytes) => bytes.length + 1
  | .lit _ => 1
  | .nil => 1
  | .ptr d => uptoBulk d + 1
  | .slice elems spare => uptoBulkAll elems + uptoBulkAll spare + 1
  | .agg parts => uptoBulkAll parts + 1
  | .iface _ d => uptoBulk d + 1
  | .map entries => uptoBulkEntries entries + 1
  | .held _ => 1
def uptoBulkAll {H : Type} : List (DataW H) → Nat
  | [] => 0
  | d :: r => uptoBulk d + uptoBulkAll r
def uptoBulkEntries {H : Type} : List (Lit × DataW H) → Nat
  | [] => 0
  | x :: r => uptoBulkEntry x + uptoBulkEntries r
def uptoBulkEntry {H : Type} : Lit × DataW H → Nat
  | (.string bytes, d) => bytes.length + uptoBulk d + 1
  | (_, d) => uptoBulk d + 1
 end
def uptoSmall : (H : Type) → List (DataW H) → Bool := fun _ ds => decide (uptoBulkAll ds ≤ 1048576)
def OpenSpec.upto (s : _root_.Go.ChangeSpec) : _root_.Go.OpenSpec := { _root_.Go.OpenSpec.ofChange s with cond := some uptoSmall }

/-- 'catenarylaw07.KvNames', WHERE WHAT IT READS IS OF BULK AT MOST 1048576: true; the input reads as it did. -/
def kvNamesUptoRow : OpenClaim := { program := "ytlafaiacbebfnaa", sum := "21a31d6fcf681798608a3d172dfc342f2f043b282fc08fd077d8a13c5f022497", func := "catenary/catenarylaw07.KvNames", spec := "kvNames", inPlace := ["internal/bytealg.Compare", "slices.overlaps[catenary/api.Entry]"], unfollowed := true, recurses := true, apart := false, narrowed := true }
def KvNamesUptoSaid : Prop := kvNamesUptoRow.holds Try.pinned (OpenSpec.upto kvNamesSpec)

/-- 'catenarylaw07.KvDoes', WHERE WHAT IT READS IS OF BULK AT MOST 1048576: true; the input reads as it did. -/
def kvDoesUptoRow : OpenClaim := { program := "ytlafaiacbebfnaa", sum := "21a31d6fcf681798608a3d172dfc342f2f043b282fc08fd077d8a13c5f022497", func := "catenary/catenarylaw07.KvDoes", spec := "kvDoes", inPlace := ["internal/bytealg.Compare", "slices.overlaps[catenary/api.Entry]"], unfollowed := true, recurses := true, apart := false, narrowed := true }
def KvDoesUptoSaid : Prop := kvDoesUptoRow.holds Try.pinned (OpenSpec.upto kvDoesSpec)

/-- 'catenarylaw07.KvKeeps', WHERE WHAT IT READS IS OF BULK AT MOST 1048576: true; the input reads as it did. -/
def kvKeepsUptoRow : OpenClaim := { program := "ytlafaiacbebfnaa", sum := "21a31d6fcf681798608a3d172dfc342f2f043b282fc08fd077d8a13c5f022497", func := "catenary/catenarylaw07.KvKeeps", spec := "kvKeeps", inPlace := ["internal/bytealg.Compare", "slices.overlaps[catenary/api.Entry]"], unfollowed := true, recurses := true, apart := false, narrowed := true }
def KvKeepsUptoSaid : Prop := kvKeepsUptoRow.holds Try.pinned (OpenSpec.upto kvKeepsSpec)

/-- 'catenarylaw07.KvCommutes', WHERE WHAT IT READS IS OF BULK AT MOST 1048576: true; the input reads as it did. -/
def kvCommutesUptoRow : OpenClaim := { program := "ytlafaiacbebfnaa", sum := "21a31d6fcf681798608a3d172dfc342f2f043b282fc08fd077d8a13c5f022497", func := "catenary/catenarylaw07.KvCommutes", spec := "kvCommutes", inPlace := ["internal/bytealg.Compare", "slices.overlaps[catenary/api.Entry]"], unfollowed := true, recurses := true, apart := false, narrowed := true }
def KvCommutesUptoSaid : Prop := kvCommutesUptoRow.holds Try.pinned (OpenSpec.upto kvCommutesSpec)

/-- 'catenarylaw07.KvWrites', WHERE WHAT IT READS IS OF BULK AT MOST 1048576: true; the input reads as it did. -/
def kvWritesUptoRow : OpenClaim := { program := "ytlafaiacbebfnaa", sum := "21a31d6fcf681798608a3d172dfc342f2f043b282fc08fd077d8a13c5f022497", func := "catenary/catenarylaw07.KvWrites", spec := "kvWrites", inPlace := ["internal/bytealg.Compare", "slices.overlaps[catenary/api.Entry]"], unfollowed := true, recurses := true, apart := false, narrowed := true }
def KvWritesUptoSaid : Prop := kvWritesUptoRow.holds Try.pinned (OpenSpec.upto kvWritesSpec)

/-- 'catenarylaw07.KvReads', WHERE WHAT IT READS IS OF BULK AT MOST 1048576: true; the input reads as it did. -/
def kvReadsUptoRow : OpenClaim := { program := "ytlafaiacbebfnaa", sum := "21a31d6fcf681798608a3d172dfc342f2f043b282fc08fd077d8a13c5f022497", func := "catenary/catenarylaw07.KvReads", spec := "kvReads", inPlace := ["internal/bytealg.Compare", "slices.overlaps[catenary/api.Entry]"], unfollowed := true, recurses := true, apart := false, narrowed := true }
def KvReadsUptoSaid : Prop := kvReadsUptoRow.holds Try.pinned (OpenSpec.upto kvReadsSpec)

end Rows
end Go.Proofs.Ytlafaiacbebfnaa
