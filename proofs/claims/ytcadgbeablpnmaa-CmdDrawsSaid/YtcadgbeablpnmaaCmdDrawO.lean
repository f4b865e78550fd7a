/- What the law CmdDraws calls, at any command: Of and AsDraw. -/
import Derived.Test.YtcadgbeablpnmaaCmdDraws
namespace Go.Proofs.Ytcadgbeablpnmaa.PCmd
open Go.RowKit Go.Proofs.YtcadgbeablpnmaaW.PrintWords Go.Proofs.YtcadgbeablpnmaaW.PrintLast Go.Proofs.YtcadgbeablpnmaaW.PrintMore
set_option linter.unusedVariables false
set_option linter.unusedSimpArgs false
theorem Of_any (op h a b c d : Int) (A6 : Option Addr) (c6 : Nat) (l6 : List Int) (A7 : Option Addr) (c7 : Nat) (l7 : List S60) (w : World) (hr6 : Kd.C (Kd.int .i64) w A6 l6.length l6) (hc6 : l6.length ≤ c6) (hr7 : Kd.C k60 w A7 l7.length l7) (hc7 : l7.length ≤ c7) (hl6 : l6.length ≤ 5000) (hl7 : l7.length ≤ 1100) :
    Calls Try.prog 12 #[.agg #[.int .i64 op, .int .i64 h, .int .i64 a, .int .i64 b, .int .i64 c, .int .i64 d, .slice A6 l6.length c6, .slice A7 l7.length c7]] w fun e w' => ∃ (x : IV) (n : Int), e = .returned (.tuple #[x.val, .int .i64 n]) ∧ x.ok ∧ Below w.heap.size w w' ∧ x.isD = decide (op = 14) ∧ x.rec' = if op = 14 then ⟨h, a, b, c⟩ else z58 := by
  by_cases o1 : op < 1 ∨ 19 < op
  · refine (Of_none op h a b c d A6 c6 l6 A7 c7 l7 w o1).mono ?_
    rintro e w' ⟨rfl, hb⟩
    have hn : ¬ op = 14 := by omega
    exact ⟨.nil, 9, rfl, trivial, hb, by simp [IV.isD, hn], by simp [IV.rec', hn]⟩
  have o3 : op = 1 ∨ op = 2 ∨ op = 3 ∨ op = 4 ∨ op = 5 ∨ op = 6 ∨ op = 7 ∨ op = 8 ∨ op = 9 ∨ op = 10 ∨ op = 11 ∨ op = 12 ∨ op = 13 ∨ op = 14 ∨ op = 15 ∨ op = 16 ∨ op = 17 ∨ op = 18 ∨ op = 19 := by omega
  rcases o3 with rfl | rfl | rfl | rfl | rfl | rfl | rfl | rfl | rfl | rfl | rfl | rfl | rfl | rfl | rfl | rfl | rfl | rfl | rfl
  · refine (Of_1 h a b c d A6 c6 l6 A7 c7 l7 w hr6 hc6 hr7 hc7 hl6 hl7).mono ?_
    rintro e w' ⟨v6, v7, rfl, -, -, hb⟩
    exact ⟨.other 32 _, 0, rfl, by simp [IV.ok], hb, rfl, rfl⟩
  · refine (Of_2 h a b c d A6 c6 l6 A7 c7 l7 w hr6 hc6 hr7 hc7 hl6 hl7).mono ?_
    rintro e w' ⟨v6, v7, rfl, -, -, hb⟩
    exact ⟨.other 32 _, 0, rfl, by simp [IV.ok], hb, rfl, rfl⟩
  · refine (Of_3 h a b c d A6 c6 l6 A7 c7 l7 w hr6 hc6 hr7 hc7 hl6 hl7).mono ?_
    rintro e w' ⟨v6, v7, rfl, -, -, hb⟩
    exact ⟨.other 32 _, 0, rfl, by simp [IV.ok], hb, rfl, rfl⟩
  · refine (Of_4 h a b c d A6 c6 l6 A7 c7 l7 w hr6 hc6 hr7 hc7 hl6 hl7).mono ?_
    rintro e w' ⟨v6, v7, rfl, -, -, hb⟩
    exact ⟨.other 32 _, 0, rfl, by simp [IV.ok], hb, rfl, rfl⟩
  · refine (Of_5 h a b c d A6 c6 l6 A7 c7 l7 w hr6 hc6 hr7 hc7 hl6 hl7).mono ?_
    rintro e w' ⟨v6, v7, rfl, -, -, hb⟩
    exact ⟨.other 36 _, 0, rfl, by simp [IV.ok], hb, rfl, rfl⟩
  · refine (Of_6 h a b c d A6 c6 l6 A7 c7 l7 w hr6 hc6 hr7 hc7 hl6 hl7).mono ?_
    rintro e w' ⟨v6, v7, rfl, -, -, hb⟩
    exact ⟨.other 36 _, 0, rfl, by simp [IV.ok], hb, rfl, rfl⟩
  · refine (Of_7 h a b c d A6 c6 l6 A7 c7 l7 w hr6 hc6 hr7 hc7 hl6 hl7).mono ?_
    rintro e w' ⟨v6, v7, rfl, -, -, hb⟩
    exact ⟨.other 36 _, 0, rfl, by simp [IV.ok], hb, rfl, rfl⟩
  · refine (Of_8 h a b c d A6 c6 l6 A7 c7 l7 w hr6 hc6 hr7 hc7 hl6 hl7).mono ?_
    rintro e w' ⟨v6, v7, rfl, -, -, hb⟩
    exact ⟨.other 36 _, 0, rfl, by simp [IV.ok], hb, rfl, rfl⟩
  · refine (Of_9 h a b c d A6 c6 l6 A7 c7 l7 w hr6 hc6 hr7 hc7 hl6 hl7).mono ?_
    rintro e w' ⟨v6, v7, rfl, -, -, hb⟩
    exact ⟨.other 36 _, 0, rfl, by simp [IV.ok], hb, rfl, rfl⟩
  · refine (Of_10 h a b c d A6 c6 l6 A7 c7 l7 w hr6 hc6 hr7 hc7 hl6 hl7).mono ?_
    rintro e w' ⟨v6, v7, rfl, -, -, hb⟩
    exact ⟨.other 36 _, 0, rfl, by simp [IV.ok], hb, rfl, rfl⟩
  · refine (Of_11 h a b c d A6 c6 l6 A7 c7 l7 w hr6 hc6 hr7 hc7 hl6 hl7).mono ?_
    rintro e w' ⟨v6, v7, rfl, -, -, hb⟩
    exact ⟨.other 36 _, 0, rfl, by simp [IV.ok], hb, rfl, rfl⟩
  · refine (Of_12 h a b c d A6 c6 l6 A7 c7 l7 w hr6 hc6 hr7 hc7 hl6 hl7).mono ?_
    rintro e w' ⟨v6, v7, rfl, -, -, hb⟩
    exact ⟨.other 36 _, 0, rfl, by simp [IV.ok], hb, rfl, rfl⟩
  · refine (Of_13 h a b c d A6 c6 l6 A7 c7 l7 w hr6 hc6 hr7 hc7 hl6 hl7).mono ?_
    rintro e w' ⟨rfl, hb⟩
    exact ⟨.other 67 _, 0, rfl, by simp [IV.ok], hb, rfl, rfl⟩
  · refine (Of_14 h a b c d A6 c6 l6 A7 c7 l7 w hr6 hc6 hr7 hc7 hl6 hl7).mono ?_
    rintro e w' ⟨rfl, hb⟩
    exact ⟨.draw ⟨h, a, b, c⟩, 0, rfl, trivial, hb, rfl, rfl⟩
  · refine (Of_15 h a b c d A6 c6 l6 A7 c7 l7 w hr6 hc6 hr7 hc7 hl6 hl7).mono ?_
    rintro e w' ⟨rfl, hb⟩
    exact ⟨.other 34 _, 0, rfl, by simp [IV.ok], hb, rfl, rfl⟩
  · refine (Of_16 h a b c d A6 c6 l6 A7 c7 l7 w hr6 hc6 hr7 hc7 hl6 hl7).mono ?_
    rintro e w' ⟨rfl, hb⟩
    exact ⟨.other 34 _, 0, rfl, by simp [IV.ok], hb, rfl, rfl⟩
  · refine (Of_17 h a b c d A6 c6 l6 A7 c7 l7 w hr6 hc6 hr7 hc7 hl6 hl7).mono ?_
    rintro e w' ⟨rfl, hb⟩
    exact ⟨.other 34 _, 0, rfl, by simp [IV.ok], hb, rfl, rfl⟩
  · refine (Of_18 h a b c d A6 c6 l6 A7 c7 l7 w hr6 hc6 hr7 hc7 hl6 hl7).mono ?_
    rintro e w' ⟨rfl, hb⟩
    exact ⟨.other 69 _, 0, rfl, by simp [IV.ok], hb, rfl, rfl⟩
  · refine (Of_19 h a b c d A6 c6 l6 A7 c7 l7 w hr6 hc6 hr7 hc7 hl6 hl7).mono ?_
    rintro e w' ⟨rfl, hb⟩
    exact ⟨.other 34 _, 0, rfl, by simp [IV.ok], hb, rfl, rfl⟩
theorem AsDraw_any (x : IV) (hx : x.ok) (w : World) : Calls Try.prog 13 #[x.val] w fun e w' => e = .returned (.tuple #[.agg #[.int .i64 x.rec'.f0, .int .i64 x.rec'.f1, .int .i64 x.rec'.f2, .int .i64 x.rec'.f3], .bool x.isD]) ∧ Below w.heap.size w w' := by
  cases x with
  | draw d => exact AsDraw_yes d.f0 d.f1 d.f2 d.f3 w
  | nil => exact AsDraw_nil w
  | other T v =>
    rcases (show T = 32 ∨ T = 36 ∨ T = 67 ∨ T = 34 ∨ T = 69 from hx) with rfl | rfl | rfl | rfl | rfl
    · exact AsDraw_no32 v w
    · exact AsDraw_no36 v w
    · exact AsDraw_no67 v w
    · exact AsDraw_no34 v w
    · exact AsDraw_no69 v w
end Go.Proofs.Ytcadgbeablpnmaa.PCmd

