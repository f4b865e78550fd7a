-- Contracts of functions, written by myprint.py (wip/): my own program, over the kit's print.py with arrays told as structs. Lean checks it.
import Derived.Test.YtmebdcnamjiapaaProg
import Derived.Below
import Derived.Deep.Draws
import Derived.Deep.AppendLies
import Derived.Maps.AppendAt
import Derived.OwnWalk
import Derived.Laws.BytesArg
import Derived.Laws.MakeOwn
import Derived.Laws.OwnMore
import Derived.Deep.OwnRows
import Derived.Tactics
import Derived.Lib.ConvBytes
import Derived.Laws.Slices
import Derived.WalkKit
import Derived.KernelRfl
import Derived.RowKit3
import Derived.Deep.LoopGhost
import Derived.Deep.QuietTactic
import Derived.BigQuiet
import Derived.WideLaws
import Derived.Deep.DeepCutAuto
import Derived.Deep.CutBlock
import Derived.Deep.RegionHeld3
import Derived.Laws.Rows
import Derived.Lib.AppendStr
import Derived.ArgAppend
import Derived.Laws.IdiomCopy
import Derived.OrdersHeld
import Derived.Laws.BitsLemmas
import Derived.RowKit
import Derived.Test.YtmebdcnamjiapaaWWords
import Derived.Test.YtmebdcnamjiapaaWLast
import Derived.Test.YtmebdcnamjiapaaWTab
import Derived.Test.YtmebdcnamjiapaaWFour
import Derived.Test.YtmebdcnamjiapaaWQPut
import Derived.Test.YtmebdcnamjiapaaWApart
import Derived.Test.YtmebdcnamjiapaaWArr
import Derived.Test.YtmebdcnamjiapaaWZeros
import Derived.Test.YtmebdcnamjiapaaWFoot
import Derived.Test.YtmebdcnamjiapaaWKept
import Derived.Test.YtmebdcnamjiapaaWShare
import Derived.Test.YtmebdcnamjiapaaWN
import Derived.Test.YtmebdcnamjiapaaWFootNe
import Derived.Test.YtmebdcnamjiapaaWAt
import Derived.Test.YtmebdcnamjiapaaWEqStruct
import Derived.Test.YtmebdcnamjiapaaWRepsOne
import Derived.Test.YtmebdcnamjiapaaWInv
import Derived.Test.YtmebdcnamjiapaaWInvWords
import Derived.Test.YtmebdcnamjiapaaWGuard
import Derived.Test.YtmebdcnamjiapaaWNEv
import Derived.Test.YtmebdcnamjiapaaWMore
namespace Go.Proofs.Ytmebdcnamjiapaa.PTests
open Go.RowKit Go.Proofs.YtmebdcnamjiapaaW.PrintWords Go.Proofs.YtmebdcnamjiapaaW.PrintLast Go.Proofs.YtmebdcnamjiapaaW.PrintMore
attribute [local go_sem] max2_int min2_int max_two min_two max_three min_three max_four min_four   -- for this text's walks alone
set_option linter.unusedVariables false
set_option linter.unusedSimpArgs false



def errW : Option Int → Value
  | none => .nilIface
  | some c => .iface 0 (.int .i64 c)
theorem errW_none : errW none = .nilIface := rfl
theorem errW_some (c : Int) : errW (some c) = .iface 0 (.int .i64 c) := rfl

-- the values' own types

end Go.Proofs.Ytmebdcnamjiapaa.PTests
