/-
  No cell of these rows narrows 'for every input' (looked for: loops, veiled, ifaces, maps, wideKeys, modest, calm, conditions, laid).
  DERIVED. THE GIVEN ROWS OF THIS SEAT. 4 by the template 'for every input the law returns true; each argument reads behind the call as it read before'; 0 by the template 'total and deterministic' (their statements: YtkomibcmpckflaaTotals.lean).
  GIVEN WITH THE SEED: the statements are not yours to turn. If you find one false, say at which input.
  Laid BY PROGRAM, IN A SANDBOX (cutbox-rows.mjs): the forced cells as the released guide's own fill.sh prints them over the translation ec50f686c9d748a2… (all of the seat's roots in one cut). By AI agents, Wed Nov 11 2026. No macro, syntax, notation, axiom, sorry.
-/
import Derived.Test.YtkomibcmpckflaaChecked
import GoSem.Claim
import GoSem.ClaimJoined
import GoSem.ClaimMapViews
import Derived.JoinedTies
import Derived.KernelRfl
namespace Go.Proofs.Ytkomibcmpckflaa
/- THE CELL 'sum', in the pinned program and in every row, IS THE sha256 OF THE DUMP (.gsa) THAT YtkomibcmpckflaaProg.lean LOADS. Nothing in Lean hashes anything: it is a label: what it is worth is what the hold of that sum in a sandbox is worth. -/
noncomputable def Try.pinned : Pinned := { name := "ytkomibcmpckflaa", sum := "ec50f686c9d748a24b2a5272b9dd9443c808482b24f88b56955d2946cbd30562", checked := Try.checked }
namespace Rows
def none {H : Type} : Left H := { results := [], args := [] }

/-- 'catenarylaw08.LeaseNames': WHATEVER THE INPUT: true; the input reads as it did. -/
def leaseNamesSpec : ChangeSpec := { name := "leaseNames", fn := fun _ => fun
  | [] => { results := [.lit (.bool true)], args := [] }
  | _ => none }
def leaseNamesRow : OpenClaim := { program := "ytkomibcmpckflaa", sum := "ec50f686c9d748a24b2a5272b9dd9443c808482b24f88b56955d2946cbd30562", func := "catenary/catenarylaw08.LeaseNames", spec := "leaseNames", inPlace := ["internal/bytealg.Compare", "slices.overlaps[catenary/api.Lease]"], unfollowed := true, recurses := true, apart := false }
def LeaseNamesSaid : Prop := leaseNamesRow.holds Try.pinned (OpenSpec.ofChange leaseNamesSpec)

/-- ITS FALSE NEIGHBOUR: 'it returns false'. Refute it at one input. -/
def leaseNamesWrong : ChangeSpec := { name := "leaseNames", fn := fun _ => fun
  | [] => { results := [.lit (.bool false)], args := [] }
  | _ => none }
def LeaseNamesWrongFalsely : Prop := leaseNamesRow.holds Try.pinned (OpenSpec.ofChange leaseNamesWrong)

/-- 'catenarylaw08.LeaseDoes': WHATEVER THE INPUT: true; the input reads as it did. -/
def leaseDoesSpec : ChangeSpec := { name := "leaseDoes", fn := fun _ => fun
  | [d1, d2, d3] => { results := [.lit (.bool true)], args := [d1, d2, d3] }
  | _ => none }
def leaseDoesRow : OpenClaim := { program := "ytkomibcmpckflaa", sum := "ec50f686c9d748a24b2a5272b9dd9443c808482b24f88b56955d2946cbd30562", func := "catenary/catenarylaw08.LeaseDoes", spec := "leaseDoes", inPlace := ["internal/bytealg.Compare", "slices.overlaps[catenary/api.Lease]"], unfollowed := true, recurses := true, apart := false }
def LeaseDoesSaid : Prop := leaseDoesRow.holds Try.pinned (OpenSpec.ofChange leaseDoesSpec)

/-- ITS FALSE NEIGHBOUR: 'it returns false'. Refute it at one input. -/
def leaseDoesWrong : ChangeSpec := { name := "leaseDoes", fn := fun _ => fun
  | [d1, d2, d3] => { results := [.lit (.bool false)], args := [d1, d2, d3] }
  | _ => none }
def LeaseDoesWrongFalsely : Prop := leaseDoesRow.holds Try.pinned (OpenSpec.ofChange leaseDoesWrong)

/-- 'catenarylaw08.LeaseKeeps': WHATEVER THE INPUT: true; the input reads as it did. -/
def leaseKeepsSpec : ChangeSpec := { name := "leaseKeeps", fn := fun _ => fun
  | [d1, d2, d3] => { results := [.lit (.bool true)], args := [d1, d2, d3] }
  | _ => none }
def leaseKeepsRow : OpenClaim := { program := "ytkomibcmpckflaa", sum := "ec50f686c9d748a24b2a5272b9dd9443c808482b24f88b56955d2946cbd30562", func := "catenary/catenarylaw08.LeaseKeeps", spec := "leaseKeeps", inPlace := ["internal/bytealg.Compare", "slices.overlaps[catenary/api.Lease]"], unfollowed := true, recurses := true, apart := false }
def LeaseKeepsSaid : Prop := leaseKeepsRow.holds Try.pinned (OpenSpec.ofChange leaseKeepsSpec)

/-- ITS FALSE NEIGHBOUR: 'it returns false'. Refute it at one input. -/
def leaseKeepsWrong : ChangeSpec := { name := "leaseKeeps", fn := fun _ => fun
  | [d1, d2, d3] => { results := [.lit (.bool false)], args := [d1, d2, d3] }
  | _ => none }
def LeaseKeepsWrongFalsely : Prop := leaseKeepsRow.holds Try.pinned (OpenSpec.ofChange leaseKeepsWrong)

/-- 'catenarylaw08.LeaseOver': WHATEVER THE INPUT: true; the input reads as it did. -/
def leaseOverSpec : ChangeSpec := { name := "leaseOver", fn := fun _ => fun
  | [d1, d2, d3] => { results := [.lit (.bool true)], args := [d1, d2, d3] }
  | _ => none }
def leaseOverRow : OpenClaim := { program := "ytkomibcmpckflaa", sum := "ec50f686c9d748a24b2a5272b9dd9443c808482b24f88b56955d2946cbd30562", func := "catenary/catenarylaw08.LeaseOver", spec := "leaseOver", inPlace := ["internal/bytealg.Compare", "slices.overlaps[catenary/api.Lease]"], unfollowed := true, recurses := true, apart := false }
def LeaseOverSaid : Prop := leaseOverRow.holds Try.pinned (OpenSpec.ofChange leaseOverSpec)

/-- ITS FALSE NEIGHBOUR: 'it returns false'. Refute it at one input. -/
def leaseOverWrong : ChangeSpec := { name := "leaseOver", fn := fun _ => fun
  | [d1, d2, d3] => { results := [.lit (.bool false)], args := [d1, d2, d3] }
  | _ => none }
def LeaseOverWrongFalsely : Prop := leaseOverRow.holds Try.pinned (OpenSpec.ofChange leaseOverWrong)

/- THE SECOND FORM. 'bulk': how many values and letters a reading holds, each counted each time it is reached (what is shared counts as often as it is met; a slice's spare places count too). A statement '..UptoSaid' is the law's where the arguments, and the package variables that the reading takes, are together of bulk at most 1048576: NARROWER than '..Said'. Prove '..Said' where nothing that the law and all that it calls make is longer than what came in: it says more and counts as full. Else prove '..UptoSaid'. A law counts once. -/
mutual
def uptoBulk {H : Type} : DataW H → Nat
  | .lit (.string bytes) => bytes.length + 1
  | .lit _ => 1
  | .nil => 1
  | .ptr d => uptoBulk d + 1
  | .slice elems spare => uptoBulkAll elems + uptoBulkAll spare + 1
  | .agg parts => uptoBulkAll parts + 1
  | .iface _ d => uptoBulk d + 1
  | .map entries => uptoBulkEntries entries + 1
  | .held _ => 1
def uptoBulkAll {H : Type} : List (DataW H) → Nat
  | [] => 0
  | d :: r => uptoBulk d + uptoBulkAll r
def uptoBulkEntries {H : Type} : List (Lit × DataW H) → Nat
  | [] => 0
  | x :: r => uptoBulkEntry x + uptoBulkEntries r
def uptoBulkEntry {H : Type} : Lit × DataW H → Nat
  | (.string bytes, d) => bytes.length + uptoBulk d + 1
  | (_, d) => uptoBulk d + 1
 end
def uptoSmall : (H : Type) → List (DataW H) → Bool := fun _ ds => decide (uptoBulkAll ds ≤ 1048576)
def OpenSpec.upto (s : _root_.Go.ChangeSpec) : _root_.Go.OpenSpec := { _root_.Go.OpenSpec.ofChange s with cond := some uptoSmall }

/-- 'catenarylaw08.LeaseNames', WHERE WHAT IT READS IS OF BULK AT MOST 1048576: true; the input reads as it did. -/
def leaseNamesUptoRow : OpenClaim := { program := "ytkomibcmpckflaa", sum := "ec50f686c9d748a24b2a5272b9dd9443c808482b24f88b56955d2946cbd30562", func := "catenary/catenarylaw08.LeaseNames", spec := "leaseNames", inPlace := ["internal/bytealg.Compare", "slices.overlaps[catenary/api.Lease]"], unfollowed := true, recurses := true, apart := false, narrowed := true }
def LeaseNamesUptoSaid : Prop := leaseNamesUptoRow.holds Try.pinned (OpenSpec.upto leaseNamesSpec)

/-- 'catenarylaw08.LeaseDoes', WHERE WHAT IT READS IS OF BULK AT MOST 1048576: true; the input reads as it did. -/
def leaseDoesUptoRow : OpenClaim := { program := "ytkomibcmpckflaa", sum := "ec50f686c9d748a24b2a5272b9dd9443c808482b24f88b56955d2946cbd30562", func := "catenary/catenarylaw08.LeaseDoes", spec := "leaseDoes", inPlace := ["internal/bytealg.Compare", "slices.overlaps[catenary/api.Lease]"], unfollowed := true, recurses := true, apart := false, narrowed := true }
def LeaseDoesUptoSaid : Prop := leaseDoesUptoRow.holds Try.pinned (OpenSpec.upto leaseDoesSpec)

/-- 'catenarylaw08.LeaseKeeps', WHERE WHAT IT READS IS OF BULK AT MOST 1048576: true; the input reads as it did. -/
def leaseKeepsUptoRow : OpenClaim := { program := "ytkomibcmpckflaa", sum := "ec50f686c9d748a24b2a5272b9dd9443c808482b24f88b56955d2946cbd30562", func := "catenary/catenarylaw08.LeaseKeeps", spec := "leaseKeeps", inPlace := ["internal/bytealg.Compare", "slices.overlaps[catenary/api.Lease]"], unfollowed := true, recurses := true, apart := false, narrowed := true }
def LeaseKeepsUptoSaid : Prop := leaseKeepsUptoRow.holds Try.pinned (OpenSpec.upto leaseKeepsSpec)

/-- 'catenarylaw08.LeaseOver', WHERE WHAT IT READS IS OF BULK AT MOST 1048576: true; the input reads as it did. -/
def leaseOverUptoRow : OpenClaim := { program := "ytkomibcmpckflaa", sum := "ec50f686c9d748a24b2a5272b9dd9443c808482b24f88b56955d2946cbd30562", func := "catenary/catenarylaw08.LeaseOver", spec := "leaseOver", inPlace := ["internal/bytealg.Compare", "slices.overlaps[catenary/api.Lease]"], unfollowed := true, recurses := true, apart := false, narrowed := true }
def LeaseOverUptoSaid : Prop := leaseOverUptoRow.holds Try.pinned (OpenSpec.upto leaseOverSpec)

end Rows
end Go.Proofs.Ytkomibcmpckflaa
