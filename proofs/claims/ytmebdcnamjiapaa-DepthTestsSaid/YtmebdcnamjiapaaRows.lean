/-
  No cell of these rows narrows 'for every input' (looked for: loops, veiled, ifaces, maps, wideKeys, modest, calm, conditions, laid).
  DERIVED. THE GIVEN ROWS OF THIS SEAT. 3 by the template 'for every input the law returns true; each argument reads behind the call as it read before'; 0 by the template 'total and deterministic' (their statements: YtmebdcnamjiapaaTotals.lean).
  GIVEN WITH THE SEED: the statements are not yours to turn. If you find one false, say at which input.
  Laid BY PROGRAM, IN A SANDBOX (cutbox-rows.mjs): the forced cells as the released guide's own fill.sh prints them over the translation d377ad9ac53cb49d… (all of the seat's roots in one cut). By AI agents, Wed Nov 11 2026. No macro, syntax, notation, axiom, sorry.
-/
import Derived.Test.YtmebdcnamjiapaaChecked
import GoSem.Claim
import GoSem.ClaimJoined
import GoSem.ClaimMapViews
import Derived.JoinedTies
import Derived.KernelRfl
namespace Go.Proofs.Ytmebdcnamjiapaa
/- THE CELL 'sum', in the pinned program and in every row, IS THE sha256 OF THE DUMP (.gsa) THAT YtmebdcnamjiapaaProg.lean LOADS. Nothing in Lean hashes anything: it is a label: what it is worth is what the hold of that sum in a sandbox is worth. -/
noncomputable def Try.pinned : Pinned := { name := "ytmebdcnamjiapaa", sum := "d377ad9ac53cb49d80ec7c1fe1a32e7724c3dd1f8a89e257f6de488489606c95", checked := Try.checked }
namespace Rows
def none {H : Type} : Left H := { results := [], args := [] }

/-- 'temperalaw08.DepthPasses': WHATEVER THE INPUT: true; the input reads as it did. -/
def depthPassesSpec : ChangeSpec := { name := "depthPasses", fn := fun _ => fun
  | [d1, d2, d3] => { results := [.lit (.bool true)], args := [d1, d2, d3] }
  | _ => none }
def depthPassesRow : OpenClaim := { program := "ytmebdcnamjiapaa", sum := "d377ad9ac53cb49d80ec7c1fe1a32e7724c3dd1f8a89e257f6de488489606c95", func := "tempera/temperalaw08.DepthPasses", spec := "depthPasses", apart := false }
def DepthPassesSaid : Prop := depthPassesRow.holds Try.pinned (OpenSpec.ofChange depthPassesSpec)

/-- ITS FALSE NEIGHBOUR: 'it returns false'. Refute it at one input. -/
def depthPassesWrong : ChangeSpec := { name := "depthPasses", fn := fun _ => fun
  | [d1, d2, d3] => { results := [.lit (.bool false)], args := [d1, d2, d3] }
  | _ => none }
def DepthPassesWrongFalsely : Prop := depthPassesRow.holds Try.pinned (OpenSpec.ofChange depthPassesWrong)

/-- 'temperalaw08.DepthTests': WHATEVER THE INPUT: true; the input reads as it did. -/
def depthTestsSpec : ChangeSpec := { name := "depthTests", fn := fun _ => fun
  | [d1, d2, d3] => { results := [.lit (.bool true)], args := [d1, d2, d3] }
  | _ => none }
def depthTestsRow : OpenClaim := { program := "ytmebdcnamjiapaa", sum := "d377ad9ac53cb49d80ec7c1fe1a32e7724c3dd1f8a89e257f6de488489606c95", func := "tempera/temperalaw08.DepthTests", spec := "depthTests", apart := false }
def DepthTestsSaid : Prop := depthTestsRow.holds Try.pinned (OpenSpec.ofChange depthTestsSpec)

/-- ITS FALSE NEIGHBOUR: 'it returns false'. Refute it at one input. -/
def depthTestsWrong : ChangeSpec := { name := "depthTests", fn := fun _ => fun
  | [d1, d2, d3] => { results := [.lit (.bool false)], args := [d1, d2, d3] }
  | _ => none }
def DepthTestsWrongFalsely : Prop := depthTestsRow.holds Try.pinned (OpenSpec.ofChange depthTestsWrong)

/-- 'temperalaw08.DepthLeast': WHATEVER THE INPUT: true; the input reads as it did. -/
def depthLeastSpec : ChangeSpec := { name := "depthLeast", fn := fun _ => fun
  | [d] => { results := [.lit (.bool true)], args := [d] }
  | _ => none }
def depthLeastRow : OpenClaim := { program := "ytmebdcnamjiapaa", sum := "d377ad9ac53cb49d80ec7c1fe1a32e7724c3dd1f8a89e257f6de488489606c95", func := "tempera/temperalaw08.DepthLeast", spec := "depthLeast", apart := false }
def DepthLeastSaid : Prop := depthLeastRow.holds Try.pinned (OpenSpec.ofChange depthLeastSpec)

/-- ITS FALSE NEIGHBOUR: 'it returns false'. Refute it at one input. -/
def depthLeastWrong : ChangeSpec := { name := "depthLeast", fn := fun _ => fun
  | [d] => { results := [.lit (.bool false)], args := [d] }
  | _ => none }
def DepthLeastWrongFalsely : Prop := depthLeastRow.holds Try.pinned (OpenSpec.ofChange depthLeastWrong)

/- THE SECOND FORM. 'bulk': how many values and letters a reading holds, each counted each time it is reached (what is shared counts as often as it is met; a slice's spare places count too). A statement '..UptoSaid' is the law's where the arguments, and the package variables that the reading takes, are together of bulk at most 1048576: NARROWER than '..Said'. Prove '..Said' where nothing that the law and all that it calls make is longer than what came in: it says more and counts as full. Else prove '..UptoSaid'. A law counts once. -/
mutual
def uptoBulk {H : Type} : DataW H → Nat
  | .lit (.string bytes) => bytes.length + 1
  | .lit _ => 1
  | .nil => 1
  | .ptr d => uptoBulk d + 1
  | .slice elems spare => uptoBulkAll elems + uptoBulkAll spare + 1
  | .agg parts => uptoBulkAll parts + 1
  | .iface _ d => uptoBulk d + 1
  | .map entries => uptoBulkEntries entries + 1
  | .held _ => 1
def uptoBulkAll {H : Type} : List (DataW H) → Nat
  | [] => 0
  | d :: r => uptoBulk d + uptoBulkAll r
def uptoBulkEntries {H : Type} : List (Lit × DataW H) → Nat
  | [] => 0
  | x :: r => uptoBulkEntry x + uptoBulkEntries r
def uptoBulkEntry {H : Type} : Lit × DataW H → Nat
  | (.string bytes, d) => bytes.length + uptoBulk d + 1
  | (_, d) => uptoBulk d + 1
 end
def uptoSmall : (H : Type) → List (DataW H) → Bool := fun _ ds => decide (uptoBulkAll ds ≤ 1048576)
def OpenSpec.upto (s : _root_.Go.ChangeSpec) : _root_.Go.OpenSpec := { _root_.Go.OpenSpec.ofChange s with cond := some uptoSmall }

/-- 'temperalaw08.DepthPasses', WHERE WHAT IT READS IS OF BULK AT MOST 1048576: true; the input reads as it did. -/
def depthPassesUptoRow : OpenClaim := { program := "ytmebdcnamjiapaa", sum := "d377ad9ac53cb49d80ec7c1fe1a32e7724c3dd1f8a89e257f6de488489606c95", func := "tempera/temperalaw08.DepthPasses", spec := "depthPasses", apart := false, narrowed := true }
def DepthPassesUptoSaid : Prop := depthPassesUptoRow.holds Try.pinned (OpenSpec.upto depthPassesSpec)

/-- 'temperalaw08.DepthTests', WHERE WHAT IT READS IS OF BULK AT MOST 1048576: true; the input reads as it did. -/
def depthTestsUptoRow : OpenClaim := { program := "ytmebdcnamjiapaa", sum := "d377ad9ac53cb49d80ec7c1fe1a32e7724c3dd1f8a89e257f6de488489606c95", func := "tempera/temperalaw08.DepthTests", spec := "depthTests", apart := false, narrowed := true }
def DepthTestsUptoSaid : Prop := depthTestsUptoRow.holds Try.pinned (OpenSpec.upto depthTestsSpec)

/-- 'temperalaw08.DepthLeast', WHERE WHAT IT READS IS OF BULK AT MOST 1048576: true; the input reads as it did. -/
def depthLeastUptoRow : OpenClaim := { program := "ytmebdcnamjiapaa", sum := "d377ad9ac53cb49d80ec7c1fe1a32e7724c3dd1f8a89e257f6de488489606c95", func := "tempera/temperalaw08.DepthLeast", spec := "depthLeast", apart := false, narrowed := true }
def DepthLeastUptoSaid : Prop := depthLeastUptoRow.holds Try.pinned (OpenSpec.upto depthLeastSpec)

end Rows
end Go.Proofs.Ytmebdcnamjiapaa
