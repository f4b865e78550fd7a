-- Contracts of functions, written by myprint.py (wip/): my own program, over the kit's print.py with arrays told as structs. Lean checks it.
import Derived.Test.YthojeidldnjpaaaProg
import Derived.Below
import Derived.Deep.Draws
import Derived.Deep.AppendLies
import Derived.Maps.AppendAt
import Derived.OwnWalk
import Derived.Laws.BytesArg
import Derived.Laws.MakeOwn
import Derived.Laws.OwnMore
import Derived.Deep.OwnRows
import Derived.Tactics
import Derived.Lib.ConvBytes
import Derived.Laws.Slices
import Derived.WalkKit
import Derived.KernelRfl
import Derived.RowKit3
import Derived.Deep.LoopGhost
import Derived.Deep.QuietTactic
import Derived.BigQuiet
import Derived.WideLaws
import Derived.Deep.DeepCutAuto
import Derived.Deep.CutBlock
import Derived.Deep.RegionHeld3
import Derived.Laws.Rows
import Derived.Lib.AppendStr
import Derived.ArgAppend
import Derived.Laws.IdiomCopy
import Derived.OrdersHeld
import Derived.Laws.BitsLemmas
import Derived.RowKit
import Derived.Test.YthojeidldnjpaaaWWords
import Derived.Test.YthojeidldnjpaaaWLast
import Derived.Test.YthojeidldnjpaaaWTab
import Derived.Test.YthojeidldnjpaaaWFour
import Derived.Test.YthojeidldnjpaaaWQPut
import Derived.Test.YthojeidldnjpaaaWApart
import Derived.Test.YthojeidldnjpaaaWArr
import Derived.Test.YthojeidldnjpaaaWZeros
import Derived.Test.YthojeidldnjpaaaWFoot
import Derived.Test.YthojeidldnjpaaaWKept
import Derived.Test.YthojeidldnjpaaaWShare
import Derived.Test.YthojeidldnjpaaaWN
import Derived.Test.YthojeidldnjpaaaWFootNe
import Derived.Test.YthojeidldnjpaaaWAt
import Derived.Test.YthojeidldnjpaaaWEqStruct
import Derived.Test.YthojeidldnjpaaaWRepsOne
import Derived.Test.YthojeidldnjpaaaWInv
import Derived.Test.YthojeidldnjpaaaWInvWords
import Derived.Test.YthojeidldnjpaaaWGuard
import Derived.Test.YthojeidldnjpaaaWNEv
import Derived.Test.YthojeidldnjpaaaWMore
namespace Go.Proofs.Ythojeidldnjpaaa.PSten
open Go.RowKit Go.Proofs.YthojeidldnjpaaaW.PrintWords Go.Proofs.YthojeidldnjpaaaW.PrintLast Go.Proofs.YthojeidldnjpaaaW.PrintMore
attribute [local go_sem] max2_int min2_int max_two min_two max_three min_three max_four min_four   -- for this text's walks alone
set_option linter.unusedVariables false
set_option linter.unusedSimpArgs false



def errW : Option Int → Value
  | none => .nilIface
  | some c => .iface 0 (.int .i64 c)
theorem errW_none : errW none = .nilIface := rfl
theorem errW_some (c : Int) : errW (some c) = .iface 0 (.int .i64 c) := rfl

-- the values' own types

end Go.Proofs.Ythojeidldnjpaaa.PSten
