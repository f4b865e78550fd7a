/- The law CmdBack, walked by hand, kind by kind. -/
import Derived.Test.YtcadgbeablpnmaaCmdMore
import Derived.Test.YtcadgbeablpnmaaCmdBackH
import Derived.Test.YtcadgbeablpnmaaCmdBackA
import Derived.Test.YtcadgbeablpnmaaCmdBackB
import Derived.Test.YtcadgbeablpnmaaCmdBackC
import Derived.Test.YtcadgbeablpnmaaCmdBackD
import Derived.Outline
import Derived.WalkSpells
import Derived.Deep.RegionHeld3
namespace Go.Proofs.Ytcadgbeablpnmaa.PCmd
open Go.RowKit Go.Proofs.YtcadgbeablpnmaaW.PrintWords Go.Proofs.YtcadgbeablpnmaaW.PrintLast Go.Proofs.YtcadgbeablpnmaaW.PrintMore
attribute [local go_sem] max2_int min2_int max_two min_two max_three min_three max_four min_four   -- for this text's walks alone
set_option linter.unusedVariables false
set_option linter.unusedSimpArgs false

attribute [local go_sem] alloc_drewN setCell_drewN
def temperalaw20_CmdBack.f (_ : Nat) (_ _ _ _ _ _ : Int) (_ : List Int) (_ : List S60) : Option Bool := some true
theorem temperalaw20_CmdBack.calls (k : Nat) (op h a b c d : Int) (A6 : Option Addr) (c6 : Nat) (l6 : List Int) (A7 : Option Addr) (c7 : Nat) (l7 : List S60) (r : Bool) (w : World) (hr6 : Kd.C (Kd.int .i64) w A6 l6.length l6) (hc6 : l6.length ≤ c6) (hr7 : Kd.C k60 w A7 l7.length l7) (hc7 : l7.length ≤ c7) (hF : temperalaw20_CmdBack.f k op h a b c d l6 l7 = some r) :
    Calls Try.prog 4 #[.agg #[.int .i64 op, .int .i64 h, .int .i64 a, .int .i64 b, .int .i64 c, .int .i64 d, .slice A6 l6.length c6, .slice A7 l7.length c7]] w fun e w' => e = .returned (.bool r) ∧ Below w.heap.size w w' := by
  obtain rfl : true = r := Option.some.inj hF
  by_cases hl : l6.length ≤ 5000 ∧ l7.length ≤ 1100
  · obtain ⟨hl6, hl7⟩ := hl
    by_cases o1 : op < 1
    · exact back_lo op h a b c d A6 c6 l6 A7 c7 l7 w hr6 hc6 hr7 hc7 hl6 hl7 o1
    by_cases o2 : 19 < op
    · exact back_hi op h a b c d A6 c6 l6 A7 c7 l7 w hr6 hc6 hr7 hc7 hl6 hl7 o2
    have o3 : op = 1 ∨ op = 2 ∨ op = 3 ∨ op = 4 ∨ op = 5 ∨ op = 6 ∨ op = 7 ∨ op = 8 ∨ op = 9 ∨ op = 10 ∨ op = 11 ∨ op = 12 ∨ op = 13 ∨ op = 14 ∨ op = 15 ∨ op = 16 ∨ op = 17 ∨ op = 18 ∨ op = 19 := by omega
    rcases o3 with rfl | rfl | rfl | rfl | rfl | rfl | rfl | rfl | rfl | rfl | rfl | rfl | rfl | rfl | rfl | rfl | rfl | rfl | rfl
    · exact back_1 h a b c d A6 c6 l6 A7 c7 l7 w hr6 hc6 hr7 hc7 hl6 hl7
    · exact back_2 h a b c d A6 c6 l6 A7 c7 l7 w hr6 hc6 hr7 hc7 hl6 hl7
    · exact back_3 h a b c d A6 c6 l6 A7 c7 l7 w hr6 hc6 hr7 hc7 hl6 hl7
    · exact back_4 h a b c d A6 c6 l6 A7 c7 l7 w hr6 hc6 hr7 hc7 hl6 hl7
    · exact back_5 h a b c d A6 c6 l6 A7 c7 l7 w hr6 hc6 hr7 hc7 hl6 hl7
    · exact back_6 h a b c d A6 c6 l6 A7 c7 l7 w hr6 hc6 hr7 hc7 hl6 hl7
    · exact back_7 h a b c d A6 c6 l6 A7 c7 l7 w hr6 hc6 hr7 hc7 hl6 hl7
    · exact back_8 h a b c d A6 c6 l6 A7 c7 l7 w hr6 hc6 hr7 hc7 hl6 hl7
    · exact back_9 h a b c d A6 c6 l6 A7 c7 l7 w hr6 hc6 hr7 hc7 hl6 hl7
    · exact back_10 h a b c d A6 c6 l6 A7 c7 l7 w hr6 hc6 hr7 hc7 hl6 hl7
    · exact back_11 h a b c d A6 c6 l6 A7 c7 l7 w hr6 hc6 hr7 hc7 hl6 hl7
    · exact back_12 h a b c d A6 c6 l6 A7 c7 l7 w hr6 hc6 hr7 hc7 hl6 hl7
    · exact back_13 h a b c d A6 c6 l6 A7 c7 l7 w hr6 hc6 hr7 hc7 hl6 hl7
    · exact back_14 h a b c d A6 c6 l6 A7 c7 l7 w hr6 hc6 hr7 hc7 hl6 hl7
    · exact back_15 h a b c d A6 c6 l6 A7 c7 l7 w hr6 hc6 hr7 hc7 hl6 hl7
    · exact back_16 h a b c d A6 c6 l6 A7 c7 l7 w hr6 hc6 hr7 hc7 hl6 hl7
    · exact back_17 h a b c d A6 c6 l6 A7 c7 l7 w hr6 hc6 hr7 hc7 hl6 hl7
    · exact back_18 h a b c d A6 c6 l6 A7 c7 l7 w hr6 hc6 hr7 hc7 hl6 hl7
    · exact back_19 h a b c d A6 c6 l6 A7 c7 l7 w hr6 hc6 hr7 hc7 hl6 hl7
  · exact back_heavy op h a b c d A6 c6 l6 A7 c7 l7 w hr6 hc6 hr7 hc7 hl
end Go.Proofs.Ytcadgbeablpnmaa.PCmd
