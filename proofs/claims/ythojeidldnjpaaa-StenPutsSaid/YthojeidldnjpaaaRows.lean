/-
  No cell of these rows narrows 'for every input' (looked for: loops, veiled, ifaces, maps, wideKeys, modest, calm, conditions, laid).
  DERIVED. THE GIVEN ROWS OF THIS SEAT. 3 by the template 'for every input the law returns true; each argument reads behind the call as it read before'; 0 by the template 'total and deterministic' (their statements: YthojeidldnjpaaaTotals.lean).
  GIVEN WITH THE SEED: the statements are not yours to turn. If you find one false, say at which input.
  Laid BY PROGRAM, IN A SANDBOX (cutbox-rows.mjs): the forced cells as the released guide's own fill.sh prints them over the translation a46e1ad368d1dd96… (all of the seat's roots in one cut). By AI agents, Wed Nov 11 2026. No macro, syntax, notation, axiom, sorry.
-/
import Derived.Test.YthojeidldnjpaaaChecked
import GoSem.Claim
import GoSem.ClaimJoined
import GoSem.ClaimMapViews
import Derived.JoinedTies
import Derived.KernelRfl
namespace Go.Proofs.Ythojeidldnjpaaa
/- THE CELL 'sum', in the pinned program and in every row, IS THE sha256 OF THE DUMP (.gsa) THAT YthojeidldnjpaaaProg.lean LOADS. Nothing in Lean hashes anything: it is a label: what it is worth is what the hold of that sum in a sandbox is worth. -/
noncomputable def Try.pinned : Pinned := { name := "ythojeidldnjpaaa", sum := "a46e1ad368d1dd96bec78bc002264c42e4855e83064b5d099d9b8238bc8e2f52", checked := Try.checked }
namespace Rows
def none {H : Type} : Left H := { results := [], args := [] }

/-- 'temperalaw09.StenTests': WHATEVER THE INPUT: true; the input reads as it did. -/
def stenTestsSpec : ChangeSpec := { name := "stenTests", fn := fun _ => fun
  | [d1, d2, d3] => { results := [.lit (.bool true)], args := [d1, d2, d3] }
  | _ => none }
def stenTestsRow : OpenClaim := { program := "ythojeidldnjpaaa", sum := "a46e1ad368d1dd96bec78bc002264c42e4855e83064b5d099d9b8238bc8e2f52", func := "tempera/temperalaw09.StenTests", spec := "stenTests", apart := false }
def StenTestsSaid : Prop := stenTestsRow.holds Try.pinned (OpenSpec.ofChange stenTestsSpec)

/-- ITS FALSE NEIGHBOUR: 'it returns false'. Refute it at one input. -/
def stenTestsWrong : ChangeSpec := { name := "stenTests", fn := fun _ => fun
  | [d1, d2, d3] => { results := [.lit (.bool false)], args := [d1, d2, d3] }
  | _ => none }
def StenTestsWrongFalsely : Prop := stenTestsRow.holds Try.pinned (OpenSpec.ofChange stenTestsWrong)

/-- 'temperalaw09.StenPuts': WHATEVER THE INPUT: true; the input reads as it did. -/
def stenPutsSpec : ChangeSpec := { name := "stenPuts", fn := fun _ => fun
  | [d1, d2, d3] => { results := [.lit (.bool true)], args := [d1, d2, d3] }
  | _ => none }
def stenPutsRow : OpenClaim := { program := "ythojeidldnjpaaa", sum := "a46e1ad368d1dd96bec78bc002264c42e4855e83064b5d099d9b8238bc8e2f52", func := "tempera/temperalaw09.StenPuts", spec := "stenPuts", apart := false }
def StenPutsSaid : Prop := stenPutsRow.holds Try.pinned (OpenSpec.ofChange stenPutsSpec)

/-- ITS FALSE NEIGHBOUR: 'it returns false'. Refute it at one input. -/
def stenPutsWrong : ChangeSpec := { name := "stenPuts", fn := fun _ => fun
  | [d1, d2, d3] => { results := [.lit (.bool false)], args := [d1, d2, d3] }
  | _ => none }
def StenPutsWrongFalsely : Prop := stenPutsRow.holds Try.pinned (OpenSpec.ofChange stenPutsWrong)

/-- 'temperalaw09.StenDeeds': WHATEVER THE INPUT: true; the input reads as it did. -/
def stenDeedsSpec : ChangeSpec := { name := "stenDeeds", fn := fun _ => fun
  | [d1, d2, d3] => { results := [.lit (.bool true)], args := [d1, d2, d3] }
  | _ => none }
def stenDeedsRow : OpenClaim := { program := "ythojeidldnjpaaa", sum := "a46e1ad368d1dd96bec78bc002264c42e4855e83064b5d099d9b8238bc8e2f52", func := "tempera/temperalaw09.StenDeeds", spec := "stenDeeds", apart := false }
def StenDeedsSaid : Prop := stenDeedsRow.holds Try.pinned (OpenSpec.ofChange stenDeedsSpec)

/-- ITS FALSE NEIGHBOUR: 'it returns false'. Refute it at one input. -/
def stenDeedsWrong : ChangeSpec := { name := "stenDeeds", fn := fun _ => fun
  | [d1, d2, d3] => { results := [.lit (.bool false)], args := [d1, d2, d3] }
  | _ => none }
def StenDeedsWrongFalsely : Prop := stenDeedsRow.holds Try.pinned (OpenSpec.ofChange stenDeedsWrong)

/- THE SECOND FORM. 'bulk': how many values and letters a reading holds, each counted each time it is reached (what is shared counts as often as it is met; a slice's spare places count too). A statement '..UptoSaid' is the law's where the arguments, and the package variables that the reading takes, are together of bulk at most 1048576: NARROWER than '..Said'. Prove '..Said' where nothing that the law and all that it calls make is longer than what came in: it says more and counts as full. Else prove '..UptoSaid'. A law counts once. -/
mutual
def uptoBulk {H : Type} : DataW H → Nat
  | .lit (.string bytes) => bytes.length + 1
  | .lit _ => 1
  | .nil => 1
  | .ptr d => uptoBulk d + 1
  | .slice elems spare => uptoBulkAll elems + uptoBulkAll spare + 1
  | .agg parts => uptoBulkAll parts + 1
  | .iface _ d => uptoBulk d + 1
  | .map entries => uptoBulkEntries entries + 1
  | .held _ => 1
def uptoBulkAll {H : Type} : List (DataW H) → Nat
  | [] => 0
  | d :: r => uptoBulk d + uptoBulkAll r
def uptoBulkEntries {H : Type} : List (Lit × DataW H) → Nat
  | [] => 0
  | x :: r => uptoBulkEntry x + uptoBulkEntries r
def uptoBulkEntry {H : Type} : Lit × DataW H → Nat
  | (.string bytes, d) => bytes.length + uptoBulk d + 1
  | (_, d) => uptoBulk d + 1
 end
def uptoSmall : (H : Type) → List (DataW H) → Bool := fun _ ds => decide (uptoBulkAll ds ≤ 1048576)
def OpenSpec.upto (s : _root_.Go.ChangeSpec) : _root_.Go.OpenSpec := { _root_.Go.OpenSpec.ofChange s with cond := some uptoSmall }

/-- 'temperalaw09.StenTests', WHERE WHAT IT READS IS OF BULK AT MOST 1048576: true; the input reads as it did. -/
def stenTestsUptoRow : OpenClaim := { program := "ythojeidldnjpaaa", sum := "a46e1ad368d1dd96bec78bc002264c42e4855e83064b5d099d9b8238bc8e2f52", func := "tempera/temperalaw09.StenTests", spec := "stenTests", apart := false, narrowed := true }
def StenTestsUptoSaid : Prop := stenTestsUptoRow.holds Try.pinned (OpenSpec.upto stenTestsSpec)

/-- 'temperalaw09.StenPuts', WHERE WHAT IT READS IS OF BULK AT MOST 1048576: true; the input reads as it did. -/
def stenPutsUptoRow : OpenClaim := { program := "ythojeidldnjpaaa", sum := "a46e1ad368d1dd96bec78bc002264c42e4855e83064b5d099d9b8238bc8e2f52", func := "tempera/temperalaw09.StenPuts", spec := "stenPuts", apart := false, narrowed := true }
def StenPutsUptoSaid : Prop := stenPutsUptoRow.holds Try.pinned (OpenSpec.upto stenPutsSpec)

/-- 'temperalaw09.StenDeeds', WHERE WHAT IT READS IS OF BULK AT MOST 1048576: true; the input reads as it did. -/
def stenDeedsUptoRow : OpenClaim := { program := "ythojeidldnjpaaa", sum := "a46e1ad368d1dd96bec78bc002264c42e4855e83064b5d099d9b8238bc8e2f52", func := "tempera/temperalaw09.StenDeeds", spec := "stenDeeds", apart := false, narrowed := true }
def StenDeedsUptoSaid : Prop := stenDeedsUptoRow.holds Try.pinned (OpenSpec.upto stenDeedsSpec)

end Rows
end Go.Proofs.Ythojeidldnjpaaa
