/- The law CmdTypes, walked by hand, class by class. -/
import Derived.Test.YtcadgbeablpnmaaCmdMore
import Derived.Test.YtcadgbeablpnmaaCmdTypesA
import Derived.Test.YtcadgbeablpnmaaCmdTypesB
import Derived.Test.YtcadgbeablpnmaaCmdTypesC
import Derived.Outline
import Derived.WalkSpells
import Derived.Deep.RegionHeld3
namespace Go.Proofs.Ytcadgbeablpnmaa.PCmd
open Go.RowKit Go.Proofs.YtcadgbeablpnmaaW.PrintWords Go.Proofs.YtcadgbeablpnmaaW.PrintLast Go.Proofs.YtcadgbeablpnmaaW.PrintMore
attribute [local go_sem] max2_int min2_int max_two min_two max_three min_three max_four min_four   -- for this text's walks alone
set_option linter.unusedVariables false
set_option linter.unusedSimpArgs false

attribute [local go_sem] alloc_drewN setCell_drewN
def temperalaw20_CmdTypes.f (_ : Nat) (_ _ _ _ _ _ _ : Int) (_ : List Int) (_ : List S60) : Option Bool := some true
theorem temperalaw20_CmdTypes.calls (k : Nat) (kind op h a b c d : Int) (A6 : Option Addr) (c6 : Nat) (l6 : List Int) (A7 : Option Addr) (c7 : Nat) (l7 : List S60) (r : Bool) (w : World) (hr6 : Kd.C (Kd.int .i64) w A6 l6.length l6) (hc6 : l6.length ≤ c6) (hr7 : Kd.C k60 w A7 l7.length l7) (hc7 : l7.length ≤ c7) (hF : temperalaw20_CmdTypes.f k kind op h a b c d l6 l7 = some r) :
    Calls Try.prog 3 #[.int .i64 kind, .agg #[.int .i64 op, .int .i64 h, .int .i64 a, .int .i64 b, .int .i64 c, .int .i64 d, .slice A6 l6.length c6, .slice A7 l7.length c7]] w fun e w' => e = .returned (.bool r) ∧ Below w.heap.size w w' := by
  obtain rfl : true = r := Option.some.inj hF
  by_cases hl : l6.length ≤ 5000 ∧ l7.length ≤ 1100
  · obtain ⟨hl6, hl7⟩ := hl
    by_cases k1 : kind < 1
    ·
      by_cases o1 : op < 5
      · exact types_lo_lo kind op h a b c d A6 c6 l6 A7 c7 l7 w hr6 hc6 hr7 hc7 hl6 hl7 k1 o1
      · by_cases o2 : 12 < op
        · exact types_lo_hi kind op h a b c d A6 c6 l6 A7 c7 l7 w hr6 hc6 hr7 hc7 hl6 hl7 k1 o2
        · exact types_lo_in kind op h a b c d A6 c6 l6 A7 c7 l7 w hr6 hc6 hr7 hc7 hl6 hl7 k1 (by omega)
    by_cases k2 : kind ≤ 4
    ·
      by_cases o1 : op < 5
      · exact types_in_lo kind op h a b c d A6 c6 l6 A7 c7 l7 w hr6 hc6 hr7 hc7 hl6 hl7 (by omega) o1
      · by_cases o2 : 12 < op
        · exact types_in_hi kind op h a b c d A6 c6 l6 A7 c7 l7 w hr6 hc6 hr7 hc7 hl6 hl7 (by omega) o2
        · exact types_in_in kind op h a b c d A6 c6 l6 A7 c7 l7 w hr6 hc6 hr7 hc7 hl6 hl7 (by omega) (by omega)
    by_cases k15 : kind = 15
    · subst k15
      by_cases o1 : op < 5
      · exact types_k15_lo op h a b c d A6 c6 l6 A7 c7 l7 w hr6 hc6 hr7 hc7 hl6 hl7 o1
      · by_cases o2 : 12 < op
        · exact types_k15_hi op h a b c d A6 c6 l6 A7 c7 l7 w hr6 hc6 hr7 hc7 hl6 hl7 o2
        · exact types_k15_in op h a b c d A6 c6 l6 A7 c7 l7 w hr6 hc6 hr7 hc7 hl6 hl7 (by omega)
    by_cases k16 : kind = 16
    · subst k16
      by_cases o1 : op < 5
      · exact types_k16_lo op h a b c d A6 c6 l6 A7 c7 l7 w hr6 hc6 hr7 hc7 hl6 hl7 o1
      · by_cases o2 : 12 < op
        · exact types_k16_hi op h a b c d A6 c6 l6 A7 c7 l7 w hr6 hc6 hr7 hc7 hl6 hl7 o2
        · exact types_k16_in op h a b c d A6 c6 l6 A7 c7 l7 w hr6 hc6 hr7 hc7 hl6 hl7 (by omega)
    by_cases k17 : kind = 17
    · subst k17
      by_cases o1 : op < 5
      · exact types_k17_lo op h a b c d A6 c6 l6 A7 c7 l7 w hr6 hc6 hr7 hc7 hl6 hl7 o1
      · by_cases o2 : 12 < op
        · exact types_k17_hi op h a b c d A6 c6 l6 A7 c7 l7 w hr6 hc6 hr7 hc7 hl6 hl7 o2
        · exact types_k17_in op h a b c d A6 c6 l6 A7 c7 l7 w hr6 hc6 hr7 hc7 hl6 hl7 (by omega)
    by_cases k19 : kind = 19
    · subst k19
      by_cases o1 : op < 5
      · exact types_k19_lo op h a b c d A6 c6 l6 A7 c7 l7 w hr6 hc6 hr7 hc7 hl6 hl7 o1
      · by_cases o2 : 12 < op
        · exact types_k19_hi op h a b c d A6 c6 l6 A7 c7 l7 w hr6 hc6 hr7 hc7 hl6 hl7 o2
        · exact types_k19_in op h a b c d A6 c6 l6 A7 c7 l7 w hr6 hc6 hr7 hc7 hl6 hl7 (by omega)
    by_cases o1 : op < 5
    · exact types_hi_lo kind op h a b c d A6 c6 l6 A7 c7 l7 w hr6 hc6 hr7 hc7 hl6 hl7 (by omega) o1
    · by_cases o2 : 12 < op
      · exact types_hi_hi kind op h a b c d A6 c6 l6 A7 c7 l7 w hr6 hc6 hr7 hc7 hl6 hl7 (by omega) o2
      · exact types_hi_in kind op h a b c d A6 c6 l6 A7 c7 l7 w hr6 hc6 hr7 hc7 hl6 hl7 (by omega) (by omega)
  · exact types_heavy kind op h a b c d A6 c6 l6 A7 c7 l7 w hr6 hc6 hr7 hc7 hl
end Go.Proofs.Ytcadgbeablpnmaa.PCmd
