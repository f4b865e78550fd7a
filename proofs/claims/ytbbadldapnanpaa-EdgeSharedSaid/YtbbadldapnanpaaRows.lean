/-
  No cell of these rows narrows 'for every input' (looked for: loops, veiled, ifaces, maps, wideKeys, modest, calm, conditions, laid).
  DERIVED. THE GIVEN ROWS OF THIS SEAT. 4 by the template 'for every input the law returns true; each argument reads behind the call as it read before'; 0 by the template 'total and deterministic' (their statements: YtbbadldapnanpaaTotals.lean).
  GIVEN WITH THE SEED: the statements are not yours to turn. If you find one false, say at which input.
  Laid BY PROGRAM, IN A SANDBOX (cutbox-rows.mjs): the forced cells as the released guide's own fill.sh prints them over the translation 8eb552ff16dc881c… (all of the seat's roots in one cut). By AI agents, Wed Nov 11 2026. No macro, syntax, notation, axiom, sorry.
-/
import Derived.Test.YtbbadldapnanpaaChecked
import GoSem.Claim
import GoSem.ClaimJoined
import GoSem.ClaimMapViews
import Derived.JoinedTies
import Derived.KernelRfl
namespace Go.Proofs.Ytbbadldapnanpaa
/- THE CELL 'sum', in the pinned program and in every row, IS THE sha256 OF THE DUMP (.gsa) THAT YtbbadldapnanpaaProg.lean LOADS. Nothing in Lean hashes anything: it is a label: what it is worth is what the hold of that sum in a sandbox is worth. -/
noncomputable def Try.pinned : Pinned := { name := "ytbbadldapnanpaa", sum := "8eb552ff16dc881c15be11ff5010ea6da554ccbbf7fe2efc9ea6aa8b2e510699", checked := Try.checked }
namespace Rows
def none {H : Type} : Left H := { results := [], args := [] }

/-- 'temperalaw12.EdgeHas': WHATEVER THE INPUT: true; the input reads as it did. -/
def edgeHasSpec : ChangeSpec := { name := "edgeHas", fn := fun _ => fun
  | [d1, d2, d3] => { results := [.lit (.bool true)], args := [d1, d2, d3] }
  | _ => none }
def edgeHasRow : OpenClaim := { program := "ytbbadldapnanpaa", sum := "8eb552ff16dc881c15be11ff5010ea6da554ccbbf7fe2efc9ea6aa8b2e510699", func := "tempera/temperalaw12.EdgeHas", spec := "edgeHas", apart := false }
def EdgeHasSaid : Prop := edgeHasRow.holds Try.pinned (OpenSpec.ofChange edgeHasSpec)

/-- ITS FALSE NEIGHBOUR: 'it returns false'. Refute it at one input. -/
def edgeHasWrong : ChangeSpec := { name := "edgeHas", fn := fun _ => fun
  | [d1, d2, d3] => { results := [.lit (.bool false)], args := [d1, d2, d3] }
  | _ => none }
def EdgeHasWrongFalsely : Prop := edgeHasRow.holds Try.pinned (OpenSpec.ofChange edgeHasWrong)

/-- 'temperalaw12.EdgeShared': WHATEVER THE INPUT: true; the input reads as it did. -/
def edgeSharedSpec : ChangeSpec := { name := "edgeShared", fn := fun _ => fun
  | [d1, d2, d3] => { results := [.lit (.bool true)], args := [d1, d2, d3] }
  | _ => none }
def edgeSharedRow : OpenClaim := { program := "ytbbadldapnanpaa", sum := "8eb552ff16dc881c15be11ff5010ea6da554ccbbf7fe2efc9ea6aa8b2e510699", func := "tempera/temperalaw12.EdgeShared", spec := "edgeShared", apart := false }
def EdgeSharedSaid : Prop := edgeSharedRow.holds Try.pinned (OpenSpec.ofChange edgeSharedSpec)

/-- ITS FALSE NEIGHBOUR: 'it returns false'. Refute it at one input. -/
def edgeSharedWrong : ChangeSpec := { name := "edgeShared", fn := fun _ => fun
  | [d1, d2, d3] => { results := [.lit (.bool false)], args := [d1, d2, d3] }
  | _ => none }
def EdgeSharedWrongFalsely : Prop := edgeSharedRow.holds Try.pinned (OpenSpec.ofChange edgeSharedWrong)

/-- 'temperalaw12.EdgeFan': WHATEVER THE INPUT: true; the input reads as it did. -/
def edgeFanSpec : ChangeSpec := { name := "edgeFan", fn := fun _ => fun
  | [d1, d2, d3] => { results := [.lit (.bool true)], args := [d1, d2, d3] }
  | _ => none }
def edgeFanRow : OpenClaim := { program := "ytbbadldapnanpaa", sum := "8eb552ff16dc881c15be11ff5010ea6da554ccbbf7fe2efc9ea6aa8b2e510699", func := "tempera/temperalaw12.EdgeFan", spec := "edgeFan", apart := false }
def EdgeFanSaid : Prop := edgeFanRow.holds Try.pinned (OpenSpec.ofChange edgeFanSpec)

/-- ITS FALSE NEIGHBOUR: 'it returns false'. Refute it at one input. -/
def edgeFanWrong : ChangeSpec := { name := "edgeFan", fn := fun _ => fun
  | [d1, d2, d3] => { results := [.lit (.bool false)], args := [d1, d2, d3] }
  | _ => none }
def EdgeFanWrongFalsely : Prop := edgeFanRow.holds Try.pinned (OpenSpec.ofChange edgeFanWrong)

/-- 'temperalaw12.EdgeSides': WHATEVER THE INPUT: true; the input reads as it did. -/
def edgeSidesSpec : ChangeSpec := { name := "edgeSides", fn := fun _ => fun
  | [d] => { results := [.lit (.bool true)], args := [d] }
  | _ => none }
def edgeSidesRow : OpenClaim := { program := "ytbbadldapnanpaa", sum := "8eb552ff16dc881c15be11ff5010ea6da554ccbbf7fe2efc9ea6aa8b2e510699", func := "tempera/temperalaw12.EdgeSides", spec := "edgeSides", apart := false }
def EdgeSidesSaid : Prop := edgeSidesRow.holds Try.pinned (OpenSpec.ofChange edgeSidesSpec)

/-- ITS FALSE NEIGHBOUR: 'it returns false'. Refute it at one input. -/
def edgeSidesWrong : ChangeSpec := { name := "edgeSides", fn := fun _ => fun
  | [d] => { results := [.lit (.bool false)], args := [d] }
  | _ => none }
def EdgeSidesWrongFalsely : Prop := edgeSidesRow.holds Try.pinned (OpenSpec.ofChange edgeSidesWrong)

/- THE SECOND FORM. 'bulk': how many values and letters a reading holds, each counted each time it is reached (what is shared counts as often as it is met; a slice's spare places count too). A statement '..UptoSaid' is the law's where the arguments, and the package variables that the reading takes, are together of bulk at most 1048576: NARROWER than '..Said'. Prove '..Said' where nothing that the law and all that it calls make is longer than what came in: it says more and counts as full. Else prove '..UptoSaid'. A law counts once. -/
mutual
def uptoBulk {H : Type} : DataW H → Nat
  | .lit (.string bytes) => bytes.length + 1
  | .lit _ => 1
  | .nil => 1
  | .ptr d => uptoBulk d + 1
  | .slice elems spare => uptoBulkAll elems + uptoBulkAll spare + 1
  | .agg parts => uptoBulkAll parts + 1
  | .iface _ d => uptoBulk d + 1
  | .map entries => uptoBulkEntries entries + 1
  | .held _ => 1
def uptoBulkAll {H : Type} : List (DataW H) → Nat
  | [] => 0
  | d :: r => uptoBulk d + uptoBulkAll r
def uptoBulkEntries {H : Type} : List (Lit × DataW H) → Nat
  | [] => 0
  | x :: r => uptoBulkEntry x + uptoBulkEntries r
def uptoBulkEntry {H : Type} : Lit × DataW H → Nat
  | (.string bytes, d) => bytes.length + uptoBulk d + 1
  | (_, d) => uptoBulk d + 1
 end
def uptoSmall : (H : Type) → List (DataW H) → Bool := fun _ ds => decide (uptoBulkAll ds ≤ 1048576)
def OpenSpec.upto (s : _root_.Go.ChangeSpec) : _root_.Go.OpenSpec := { _root_.Go.OpenSpec.ofChange s with cond := some uptoSmall }

/-- 'temperalaw12.EdgeHas', WHERE WHAT IT READS IS OF BULK AT MOST 1048576: true; the input reads as it did. -/
def edgeHasUptoRow : OpenClaim := { program := "ytbbadldapnanpaa", sum := "8eb552ff16dc881c15be11ff5010ea6da554ccbbf7fe2efc9ea6aa8b2e510699", func := "tempera/temperalaw12.EdgeHas", spec := "edgeHas", apart := false, narrowed := true }
def EdgeHasUptoSaid : Prop := edgeHasUptoRow.holds Try.pinned (OpenSpec.upto edgeHasSpec)

/-- 'temperalaw12.EdgeShared', WHERE WHAT IT READS IS OF BULK AT MOST 1048576: true; the input reads as it did. -/
def edgeSharedUptoRow : OpenClaim := { program := "ytbbadldapnanpaa", sum := "8eb552ff16dc881c15be11ff5010ea6da554ccbbf7fe2efc9ea6aa8b2e510699", func := "tempera/temperalaw12.EdgeShared", spec := "edgeShared", apart := false, narrowed := true }
def EdgeSharedUptoSaid : Prop := edgeSharedUptoRow.holds Try.pinned (OpenSpec.upto edgeSharedSpec)

/-- 'temperalaw12.EdgeFan', WHERE WHAT IT READS IS OF BULK AT MOST 1048576: true; the input reads as it did. -/
def edgeFanUptoRow : OpenClaim := { program := "ytbbadldapnanpaa", sum := "8eb552ff16dc881c15be11ff5010ea6da554ccbbf7fe2efc9ea6aa8b2e510699", func := "tempera/temperalaw12.EdgeFan", spec := "edgeFan", apart := false, narrowed := true }
def EdgeFanUptoSaid : Prop := edgeFanUptoRow.holds Try.pinned (OpenSpec.upto edgeFanSpec)

/-- 'temperalaw12.EdgeSides', WHERE WHAT IT READS IS OF BULK AT MOST 1048576: true; the input reads as it did. -/
def edgeSidesUptoRow : OpenClaim := { program := "ytbbadldapnanpaa", sum := "8eb552ff16dc881c15be11ff5010ea6da554ccbbf7fe2efc9ea6aa8b2e510699", func := "tempera/temperalaw12.EdgeSides", spec := "edgeSides", apart := false, narrowed := true }
def EdgeSidesUptoSaid : Prop := edgeSidesUptoRow.holds Try.pinned (OpenSpec.upto edgeSidesSpec)

end Rows
end Go.Proofs.Ytbbadldapnanpaa
