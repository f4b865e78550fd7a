/- Plain laws: awake; the law LexNames answers true. -/
import Derived.Test.YtaaibnpjajfpgaaDoorLexP2
import Derived.Test.YtaaibnpjajfpgaaDoorLexC
namespace Go.Proofs.YtaaibnpjajfpgaaDoor.PLex
open Go.RowKit Go.Proofs.YtaaibnpjajfpgaaDoorW.PrintWords Go.Proofs.YtaaibnpjajfpgaaDoorW.PrintLast Go.Proofs.YtaaibnpjajfpgaaDoorW.PrintMore
set_option linter.unusedVariables false
set_option linter.unusedSimpArgs false




set_option maxRecDepth 100000
theorem w_draw_line : lex_line.f (⟨#[100, 114, 97, 119, 32, 97, 32, 98]⟩ : ByteArray) = some true := by kernel_rfl
theorem w_two_line : lex_line.f (⟨#[32, 32]⟩ : ByteArray) = some true := by kernel_rfl
theorem w_x1 : lex_Name.f (⟨#[120, 45, 49]⟩ : ByteArray) = some true := by kernel_rfl
theorem w_1x : lex_Name.f (⟨#[49, 120]⟩ : ByteArray) = some false := by kernel_rfl
theorem w_draw_split : strings_Split.f (⟨#[100, 114, 97, 119, 32, 97, 32, 98]⟩ : ByteArray) (⟨#[32]⟩ : ByteArray) = some [⟨#[100, 114, 97, 119]⟩, ⟨#[97]⟩, ⟨#[98]⟩] := by kernel_rfl
theorem w_two_split : strings_Split.f (⟨#[32, 32]⟩ : ByteArray) (⟨#[32]⟩ : ByteArray) = some [⟨#[]⟩, ⟨#[]⟩, ⟨#[]⟩] := by kernel_rfl
theorem w_draw_has (j : Nat) : slices_Contains_string_string.f (j + 10) [⟨#[100, 114, 97, 119]⟩, ⟨#[97]⟩, ⟨#[98]⟩] (⟨#[]⟩ : ByteArray) = some false := by kernel_rfl
theorem w_two_has (j : Nat) : slices_Contains_string_string.f (j + 10) [⟨#[]⟩, ⟨#[]⟩, ⟨#[]⟩] (⟨#[]⟩ : ByteArray) = some true := by kernel_rfl
theorem w_draw (j : Nat) : lex_Words.f (j + 10) (⟨#[100, 114, 97, 119, 32, 97, 32, 98]⟩ : ByteArray) = some ([⟨#[100, 114, 97, 119]⟩, ⟨#[97]⟩, ⟨#[98]⟩], 0) := by
  unfold lex_Words.f
  rw [w_draw_line, w_draw_split]
  simp only [Option.bind_some, if_true]
  rw [if_neg (by rw [ByteArray.toList_eq]; simp), w_draw_has j]
  simp
theorem w_two (j : Nat) : lex_Words.f (j + 10) (⟨#[32, 32]⟩ : ByteArray) = some ([], 13) := by
  unfold lex_Words.f
  rw [w_two_line, w_two_split]
  simp only [Option.bind_some, if_true]
  rw [if_neg (by rw [ByteArray.toList_eq]; simp), w_two_has j]
  simp
theorem awake_at (j : Nat) : temperalaw04_awake.f (j + 10) = some true := by
  unfold temperalaw04_awake.f
  rw [w_draw j, w_two j, w_x1, w_1x]
  simp only [Option.bind_some, List.length_cons, List.length_nil]
  rw [if_pos (by decide), if_pos (by decide), if_pos (by show (ByteArray.mk _).toList = _; rw [ByteArray.toList_eq])]
  simp
theorem awake_is : Ev (fun k => temperalaw04_awake.f k) true := Ev.from 10 (fun j => by rw [Nat.add_comm]; exact awake_at j)
theorem lexNames_is (s : ByteArray) : Ev (fun k => temperalaw04_LexNames.f k s) true := by
  by_cases h : (s.size : Int) > 300
  · refine Ev.congr (f := fun k => (temperalaw04_awake.f k).bind fun t => some t) (fun k => ?_) (Ev.bind awake_is (Ev.val fun _ => rfl))
    unfold temperalaw04_LexNames.f
    rw [if_pos h]
  · have hn : lex_Name.f s = some (nameRest 0 (runes s) && Lib.validD s.data.toList) := by unfold lex_Name.f; rw [if_pos (by omega)]
    refine Ev.congr (f := fun k => (temperaref04_Name.f k s).bind fun t => (if ((nameRest 0 (runes s) && Lib.validD s.data.toList) == t) = true then ((temperalaw04_awake.f k).bind fun u => (some u)) else (some false))) (fun k => ?_) (Ev.bind (name_is s (by omega)) ?_)
    · unfold temperalaw04_LexNames.f
      rw [if_neg h, hn]
      rfl
    · refine Ev.congr (f := fun k => (temperalaw04_awake.f k).bind fun t => some t) (fun k => ?_) (Ev.bind awake_is (Ev.val fun _ => rfl))
      rw [if_pos (beq_self_eq_true _)]
theorem lexNames_plain (s : ByteArray) : ∃ k, temperalaw04_LexNames.f k s = some true := (lexNames_is s).rounds
end Go.Proofs.YtaaibnpjajfpgaaDoor.PLex
