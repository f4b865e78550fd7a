/-
  No cell of these rows narrows 'for every input' (looked for: loops, veiled, ifaces, maps, wideKeys, modest, calm, conditions, laid).
  DERIVED. THE GIVEN ROWS OF THIS SEAT. 3 by the template 'for every input the law returns true; each argument reads behind the call as it read before'; 0 by the template 'total and deterministic' (their statements: YtcadgbeablpnmaaTotals.lean).
  GIVEN WITH THE SEED: the statements are not yours to turn. If you find one false, say at which input.
  Laid BY PROGRAM, IN A SANDBOX (cutbox-rows.mjs): the forced cells as the released guide's own fill.sh prints them over the translation 0ad7bcbe5ed00818… (all of the seat's roots in one cut). By AI agents, Wed Nov 11 2026. No macro, syntax, notation, axiom, sorry.
-/
import Derived.Test.YtcadgbeablpnmaaChecked
import GoSem.Claim
import GoSem.ClaimJoined
import GoSem.ClaimMapViews
import Derived.JoinedTies
import Derived.KernelRfl
namespace Go.Proofs.Ytcadgbeablpnmaa
/- THE CELL 'sum', in the pinned program and in every row, IS THE sha256 OF THE DUMP (.gsa) THAT YtcadgbeablpnmaaProg.lean LOADS. Nothing in Lean hashes anything: it is a label: what it is worth is what the hold of that sum in a sandbox is worth. -/
noncomputable def Try.pinned : Pinned := { name := "ytcadgbeablpnmaa", sum := "0ad7bcbe5ed00818f5e6b071b47e381352a7a42279c4bc9e1cbc1885c4c41612", checked := Try.checked }
namespace Rows
def none {H : Type} : Left H := { results := [], args := [] }

/-- 'temperalaw20.CmdTypes': WHATEVER THE INPUT: true; the input reads as it did. -/
def cmdTypesSpec : ChangeSpec := { name := "cmdTypes", fn := fun _ => fun
  | [d1, d2] => { results := [.lit (.bool true)], args := [d1, d2] }
  | _ => none }
def cmdTypesRow : OpenClaim := { program := "ytcadgbeablpnmaa", sum := "0ad7bcbe5ed00818f5e6b071b47e381352a7a42279c4bc9e1cbc1885c4c41612", func := "tempera/temperalaw20.CmdTypes", spec := "cmdTypes", apart := false }
def CmdTypesSaid : Prop := cmdTypesRow.holds Try.pinned (OpenSpec.ofChange cmdTypesSpec)

/-- ITS FALSE NEIGHBOUR: 'it returns false'. Refute it at one input. -/
def cmdTypesWrong : ChangeSpec := { name := "cmdTypes", fn := fun _ => fun
  | [d1, d2] => { results := [.lit (.bool false)], args := [d1, d2] }
  | _ => none }
def CmdTypesWrongFalsely : Prop := cmdTypesRow.holds Try.pinned (OpenSpec.ofChange cmdTypesWrong)

/-- 'temperalaw20.CmdBack': WHATEVER THE INPUT: true; the input reads as it did. -/
def cmdBackSpec : ChangeSpec := { name := "cmdBack", fn := fun _ => fun
  | [d] => { results := [.lit (.bool true)], args := [d] }
  | _ => none }
def cmdBackRow : OpenClaim := { program := "ytcadgbeablpnmaa", sum := "0ad7bcbe5ed00818f5e6b071b47e381352a7a42279c4bc9e1cbc1885c4c41612", func := "tempera/temperalaw20.CmdBack", spec := "cmdBack", unfollowed := true, recurses := true, apart := false }
def CmdBackSaid : Prop := cmdBackRow.holds Try.pinned (OpenSpec.ofChange cmdBackSpec)

/-- ITS FALSE NEIGHBOUR: 'it returns false'. Refute it at one input. -/
def cmdBackWrong : ChangeSpec := { name := "cmdBack", fn := fun _ => fun
  | [d] => { results := [.lit (.bool false)], args := [d] }
  | _ => none }
def CmdBackWrongFalsely : Prop := cmdBackRow.holds Try.pinned (OpenSpec.ofChange cmdBackWrong)

/-- 'temperalaw20.CmdDraws': WHATEVER THE INPUT: true; the input reads as it did. -/
def cmdDrawsSpec : ChangeSpec := { name := "cmdDraws", fn := fun _ => fun
  | [d] => { results := [.lit (.bool true)], args := [d] }
  | _ => none }
def cmdDrawsRow : OpenClaim := { program := "ytcadgbeablpnmaa", sum := "0ad7bcbe5ed00818f5e6b071b47e381352a7a42279c4bc9e1cbc1885c4c41612", func := "tempera/temperalaw20.CmdDraws", spec := "cmdDraws", unfollowed := true, recurses := true, apart := false }
def CmdDrawsSaid : Prop := cmdDrawsRow.holds Try.pinned (OpenSpec.ofChange cmdDrawsSpec)

/-- ITS FALSE NEIGHBOUR: 'it returns false'. Refute it at one input. -/
def cmdDrawsWrong : ChangeSpec := { name := "cmdDraws", fn := fun _ => fun
  | [d] => { results := [.lit (.bool false)], args := [d] }
  | _ => none }
def CmdDrawsWrongFalsely : Prop := cmdDrawsRow.holds Try.pinned (OpenSpec.ofChange cmdDrawsWrong)

/- THE SECOND FORM. 'bulk': how many values and letters a reading holds, each counted each time it is reached (what is shared counts as often as it is met; a slice's spare places count too). A statement '..UptoSaid' is the law's where the arguments, and the package variables that the reading takes, are together of bulk at most 1048576: NARROWER than '..Said'. Prove '..Said' where nothing that the law and all that it calls make is longer than what came in: it says more and counts as full. Else prove '..UptoSaid'. A law counts once. -/
mutual
def uptoBulk {H : Type} : DataW H → Nat
  | .lit (.string bytes) => bytes.length + 1
  | .lit _ => 1
  | .nil => 1
  | .ptr d => uptoBulk d + 1
  | .slice elems spare => uptoBulkAll elems + uptoBulkAll spare + 1
  | .agg parts => uptoBulkAll parts + 1
  | .iface _ d => uptoBulk d + 1
  | .map entries => uptoBulkEntries entries + 1
  | .held _ => 1
def uptoBulkAll {H : Type} : List (DataW H) → Nat
  | [] => 0
  | d :: r => uptoBulk d + uptoBulkAll r
def uptoBulkEntries {H : Type} : List (Lit × DataW H) → Nat
  | [] => 0
  | x :: r => uptoBulkEntry x + uptoBulkEntries r
def uptoBulkEntry {H : Type} : Lit × DataW H → Nat
  | (.string bytes, d) => bytes.length + uptoBulk d + 1
  | (_, d) => uptoBulk d + 1
 end
def uptoSmall : (H : Type) → List (DataW H) → Bool := fun _ ds => decide (uptoBulkAll ds ≤ 1048576)
def OpenSpec.upto (s : _root_.Go.ChangeSpec) : _root_.Go.OpenSpec := { _root_.Go.OpenSpec.ofChange s with cond := some uptoSmall }

/-- 'temperalaw20.CmdTypes', WHERE WHAT IT READS IS OF BULK AT MOST 1048576: true; the input reads as it did. -/
def cmdTypesUptoRow : OpenClaim := { program := "ytcadgbeablpnmaa", sum := "0ad7bcbe5ed00818f5e6b071b47e381352a7a42279c4bc9e1cbc1885c4c41612", func := "tempera/temperalaw20.CmdTypes", spec := "cmdTypes", apart := false, narrowed := true }
def CmdTypesUptoSaid : Prop := cmdTypesUptoRow.holds Try.pinned (OpenSpec.upto cmdTypesSpec)

/-- 'temperalaw20.CmdBack', WHERE WHAT IT READS IS OF BULK AT MOST 1048576: true; the input reads as it did. -/
def cmdBackUptoRow : OpenClaim := { program := "ytcadgbeablpnmaa", sum := "0ad7bcbe5ed00818f5e6b071b47e381352a7a42279c4bc9e1cbc1885c4c41612", func := "tempera/temperalaw20.CmdBack", spec := "cmdBack", unfollowed := true, recurses := true, apart := false, narrowed := true }
def CmdBackUptoSaid : Prop := cmdBackUptoRow.holds Try.pinned (OpenSpec.upto cmdBackSpec)

/-- 'temperalaw20.CmdDraws', WHERE WHAT IT READS IS OF BULK AT MOST 1048576: true; the input reads as it did. -/
def cmdDrawsUptoRow : OpenClaim := { program := "ytcadgbeablpnmaa", sum := "0ad7bcbe5ed00818f5e6b071b47e381352a7a42279c4bc9e1cbc1885c4c41612", func := "tempera/temperalaw20.CmdDraws", spec := "cmdDraws", unfollowed := true, recurses := true, apart := false, narrowed := true }
def CmdDrawsUptoSaid : Prop := cmdDrawsUptoRow.holds Try.pinned (OpenSpec.upto cmdDrawsSpec)

end Rows
end Go.Proofs.Ytcadgbeablpnmaa
