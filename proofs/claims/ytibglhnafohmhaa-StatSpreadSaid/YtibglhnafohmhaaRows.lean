/-
  No cell of these rows narrows 'for every input' (looked for: loops, veiled, ifaces, maps, wideKeys, modest, calm, conditions, laid).
  DERIVED. THE GIVEN ROWS OF THIS SEAT. 3 by the template 'for every input the law returns true; each argument reads behind the call as it read before'; 0 by the template 'total and deterministic' (their statements: YtibglhnafohmhaaTotals.lean).
  GIVEN WITH THE SEED: the statements are not yours to turn. If you find one false, say at which input.
  Laid BY PROGRAM, IN A SANDBOX (cutbox-rows.mjs): the forced cells as the released guide's own fill.sh prints them over the translation eb0ff6a451b1a1a6… (all of the seat's roots in one cut). By AI agents, Wed Nov 11 2026. No macro, syntax, notation, axiom, sorry.
-/
import Derived.Test.YtibglhnafohmhaaChecked
import GoSem.Claim
import GoSem.ClaimJoined
import GoSem.ClaimMapViews
import Derived.JoinedTies
import Derived.KernelRfl
namespace Go.Proofs.Ytibglhnafohmhaa
/- THE CELL 'sum', in the pinned program and in every row, IS THE sha256 OF THE DUMP (.gsa) THAT YtibglhnafohmhaaProg.lean LOADS. Nothing in Lean hashes anything: it is a label: what it is worth is what the hold of that sum in a sandbox is worth. -/
noncomputable def Try.pinned : Pinned := { name := "ytibglhnafohmhaa", sum := "eb0ff6a451b1a1a6b72cb55cde942afeef1b5e45f8d5b1fdc2bc51e0a044530a", checked := Try.checked }
namespace Rows
def none {H : Type} : Left H := { results := [], args := [] }

/-- 'temperalaw41.StatShares': WHATEVER THE INPUT: true; the input reads as it did. -/
def statSharesSpec : ChangeSpec := { name := "statShares", fn := fun _ => fun
  | [d1, d2] => { results := [.lit (.bool true)], args := [d1, d2] }
  | _ => none }
def statSharesRow : OpenClaim := { program := "ytibglhnafohmhaa", sum := "eb0ff6a451b1a1a6b72cb55cde942afeef1b5e45f8d5b1fdc2bc51e0a044530a", func := "tempera/temperalaw41.StatShares", spec := "statShares", apart := false }
def StatSharesSaid : Prop := statSharesRow.holds Try.pinned (OpenSpec.ofChange statSharesSpec)

/-- ITS FALSE NEIGHBOUR: 'it returns false'. Refute it at one input. -/
def statSharesWrong : ChangeSpec := { name := "statShares", fn := fun _ => fun
  | [d1, d2] => { results := [.lit (.bool false)], args := [d1, d2] }
  | _ => none }
def StatSharesWrongFalsely : Prop := statSharesRow.holds Try.pinned (OpenSpec.ofChange statSharesWrong)

/-- 'temperalaw41.StatMeans': WHATEVER THE INPUT: true; the input reads as it did. -/
def statMeansSpec : ChangeSpec := { name := "statMeans", fn := fun _ => fun
  | [d] => { results := [.lit (.bool true)], args := [d] }
  | _ => none }
def statMeansRow : OpenClaim := { program := "ytibglhnafohmhaa", sum := "eb0ff6a451b1a1a6b72cb55cde942afeef1b5e45f8d5b1fdc2bc51e0a044530a", func := "tempera/temperalaw41.StatMeans", spec := "statMeans", apart := false }
def StatMeansSaid : Prop := statMeansRow.holds Try.pinned (OpenSpec.ofChange statMeansSpec)

/-- ITS FALSE NEIGHBOUR: 'it returns false'. Refute it at one input. -/
def statMeansWrong : ChangeSpec := { name := "statMeans", fn := fun _ => fun
  | [d] => { results := [.lit (.bool false)], args := [d] }
  | _ => none }
def StatMeansWrongFalsely : Prop := statMeansRow.holds Try.pinned (OpenSpec.ofChange statMeansWrong)

/-- 'temperalaw41.StatSpread': WHATEVER THE INPUT: true; the input reads as it did. -/
def statSpreadSpec : ChangeSpec := { name := "statSpread", fn := fun _ => fun
  | [d1, d2] => { results := [.lit (.bool true)], args := [d1, d2] }
  | _ => none }
def statSpreadRow : OpenClaim := { program := "ytibglhnafohmhaa", sum := "eb0ff6a451b1a1a6b72cb55cde942afeef1b5e45f8d5b1fdc2bc51e0a044530a", func := "tempera/temperalaw41.StatSpread", spec := "statSpread", apart := false }
def StatSpreadSaid : Prop := statSpreadRow.holds Try.pinned (OpenSpec.ofChange statSpreadSpec)

/-- ITS FALSE NEIGHBOUR: 'it returns false'. Refute it at one input. -/
def statSpreadWrong : ChangeSpec := { name := "statSpread", fn := fun _ => fun
  | [d1, d2] => { results := [.lit (.bool false)], args := [d1, d2] }
  | _ => none }
def StatSpreadWrongFalsely : Prop := statSpreadRow.holds Try.pinned (OpenSpec.ofChange statSpreadWrong)

/- THE SECOND FORM. 'bulk': how many values and letters a reading holds, each counted each time it is reached (what is shared counts as often as it is met; a slice's spare places count too). A statement '..UptoSaid' is the law's where the arguments, and the package variables that the reading takes, are together of bulk at most 1048576: NARROWER than '..Said'. Prove '..Said' where nothing that the law and all that it calls make is longer than what came in: it says more and counts as full. Else prove '..UptoSaid'. A law counts once. -/
mutual
def uptoBulk {H : Type} : DataW H → Nat
  | .lit (.string bytes) => bytes.length + 1
  | .lit _ => 1
  | .nil => 1
  | .ptr d => uptoBulk d + 1
  | .slice elems spare => uptoBulkAll elems + uptoBulkAll spare + 1
  | .agg parts => uptoBulkAll parts + 1
  | .iface _ d => uptoBulk d + 1
  | .map entries => uptoBulkEntries entries + 1
  | .held _ => 1
def uptoBulkAll {H : Type} : List (DataW H) → Nat
  | [] => 0
  | d :: r => uptoBulk d + uptoBulkAll r
def uptoBulkEntries {H : Type} : List (Lit × DataW H) → Nat
  | [] => 0
  | x :: r => uptoBulkEntry x + uptoBulkEntries r
def uptoBulkEntry {H : Type} : Lit × DataW H → Nat
  | (.string bytes, d) => bytes.length + uptoBulk d + 1
  | (_, d) => uptoBulk d + 1
 end
def uptoSmall : (H : Type) → List (DataW H) → Bool := fun _ ds => decide (uptoBulkAll ds ≤ 1048576)
def OpenSpec.upto (s : _root_.Go.ChangeSpec) : _root_.Go.OpenSpec := { _root_.Go.OpenSpec.ofChange s with cond := some uptoSmall }

/-- 'temperalaw41.StatShares', WHERE WHAT IT READS IS OF BULK AT MOST 1048576: true; the input reads as it did. -/
def statSharesUptoRow : OpenClaim := { program := "ytibglhnafohmhaa", sum := "eb0ff6a451b1a1a6b72cb55cde942afeef1b5e45f8d5b1fdc2bc51e0a044530a", func := "tempera/temperalaw41.StatShares", spec := "statShares", apart := false, narrowed := true }
def StatSharesUptoSaid : Prop := statSharesUptoRow.holds Try.pinned (OpenSpec.upto statSharesSpec)

/-- 'temperalaw41.StatMeans', WHERE WHAT IT READS IS OF BULK AT MOST 1048576: true; the input reads as it did. -/
def statMeansUptoRow : OpenClaim := { program := "ytibglhnafohmhaa", sum := "eb0ff6a451b1a1a6b72cb55cde942afeef1b5e45f8d5b1fdc2bc51e0a044530a", func := "tempera/temperalaw41.StatMeans", spec := "statMeans", apart := false, narrowed := true }
def StatMeansUptoSaid : Prop := statMeansUptoRow.holds Try.pinned (OpenSpec.upto statMeansSpec)

/-- 'temperalaw41.StatSpread', WHERE WHAT IT READS IS OF BULK AT MOST 1048576: true; the input reads as it did. -/
def statSpreadUptoRow : OpenClaim := { program := "ytibglhnafohmhaa", sum := "eb0ff6a451b1a1a6b72cb55cde942afeef1b5e45f8d5b1fdc2bc51e0a044530a", func := "tempera/temperalaw41.StatSpread", spec := "statSpread", apart := false, narrowed := true }
def StatSpreadUptoSaid : Prop := statSpreadUptoRow.holds Try.pinned (OpenSpec.upto statSpreadSpec)

end Rows
end Go.Proofs.Ytibglhnafohmhaa
