/- lex.line and lex.Name: ranges over a string, walked by hand over the model's own decoding. -/
import Derived.Test.YtaaibnpjajfpgaaDoorLexA
import Derived.Test.YtaaibnpjajfpgaaDoorLexB
import Derived.Lib.RuneCount
import Derived.Laws.RangeString
import Derived.Laws.RangeAny
import Derived.LoopTactic
namespace Go.Proofs.YtaaibnpjajfpgaaDoor.PLex
open Go.RowKit Go.Proofs.YtaaibnpjajfpgaaDoorW.PrintWords Go.Proofs.YtaaibnpjajfpgaaDoorW.PrintLast Go.Proofs.YtaaibnpjajfpgaaDoorW.PrintMore
attribute [local go_sem] max2_int min2_int max_two min_two max_three min_three max_four min_four   -- for this text's walks alone
set_option linter.unusedVariables false
set_option linter.unusedSimpArgs false




/-- The signs of s from place pos on (by at most b steps), each with its place. -/
def runesFrom (s : ByteArray) : Nat → Nat → List (Nat × Nat)
  | 0, _ => []
  | b + 1, pos => if pos < s.size then (pos, (Utf8.decode s pos).1) :: runesFrom s b (pos + (Utf8.decode s pos).2) else []
def runes (s : ByteArray) : List (Nat × Nat) := runesFrom s s.size 0
theorem runesFrom_end (s : ByteArray) (b pos : Nat) (h : ¬ pos < s.size) : runesFrom s b pos = [] := by
  cases b <;> simp [runesFrom, h]
theorem runesFrom_step (s : ByteArray) (b pos : Nat) (h : pos < s.size) : runesFrom s (b + 1) pos = (pos, (Utf8.decode s pos).1) :: runesFrom s b (pos + (Utf8.decode s pos).2) := by
  simp [runesFrom, h]

def badLine (c : Nat) : Bool := decide (c < 32) || c == 127
def lineOk (l : List (Nat × Nat)) : Bool := l.all fun x => !badLine x.2
def lex_line.f (a0 : ByteArray) : Option Bool := if a0.size < 9223372036854775807 then some (lineOk (runes a0) && Lib.validD a0.data.toList) else none
set_option maxHeartbeats 4000000 in
set_option maxRecDepth 1000000 in
theorem lex_line.calls (a0 : ByteArray) (r : Bool) (w : World) (hT : Tabs w) (h : lex_line.f a0 = some r) :
    Calls Tryd.prog 27 #[.string a0] w fun e w' => e = .returned (.bool r) ∧ Below w.heap.size w w' := by
  unfold lex_line.f at h
  split at h
  case isFalse => cases h
  rename_i hs
  have HR := Aside0.mk (Option.some.inj h)
  clear h
  have HT := Aside0.mk hT
  clear hT
  have cR : ∀ pos, Calls Tryd.prog 10 #[.string a0] (w.iter a0 pos) _ := fun pos => lex_Right.calls a0 (Lib.validD a0.data.toList) (w.iter a0 pos) (tabs_up HT.out (below_alloc (Below.refl _ _) _)) (by simp [lex_Right.f, utf8_ValidString.f, Nat.le_of_lt hs])
  go_enter Tryd.func27, Tryd.ntmps27
  go_wp2
  go_loopw [4] (fun v w' => ∃ (pos b : Nat), w' = w.iter a0 pos ∧ Aside0 ((lineOk (runesFrom a0 b pos) && Lib.validD a0.data.toList) = r) ∧ a0.size ≤ pos + b) (fun _ w' => a0.size - w'.iterPos w.heap.size)
  case atStart => exact ⟨0, a0.size, rfl, HR, by omega⟩
  case round =>
    obtain ⟨pos, b, rfl, HA, hb⟩ := hrel
    by_cases hp : pos < a0.size
    · have hnx : ∀ ty, (Instr.next (.pointer (some ⟨w.heap.size, 0, none⟩)) true ty).run Tryd.prog (w.iter a0 pos) = _ := fun ty => run_next_any w a0 pos ty hp
      have hwd := Lib.decode_width_pos a0 pos hp
      cases b with
      | zero => omega
      | succ b =>
        rw [runesFrom_step a0 b pos hp] at HA
        have hle := decode_le a0 pos
        generalize hd : (Utf8.decode a0 pos).1 = c at *
        generalize hw2 : (Utf8.decode a0 pos).2 = wd at *
        by_cases h32 : (c : Int) < 32
        · obtain rfl : false = r := by rw [← HA.out]; simp [lineOk, badLine, show c < 32 by omega]
          go_wp2
          go_ret
          exact ⟨rfl, below_alloc (Below.refl _ _) _⟩
        · by_cases h127 : (c : Int) = 127
          · obtain rfl : c = 127 := by omega
            obtain rfl : false = r := by rw [← HA.out]; simp [lineOk, badLine]
            go_wp2
            go_ret
            exact ⟨rfl, below_alloc (Below.refl _ _) _⟩
          · have hnb : badLine c = false := by simp [badLine]; omega
            have h127b : ((c : Int) == 127) = false := beq_eq_false_iff_ne.mpr h127
            go_wp2
            go_roundw
            case rel => exact ⟨pos + wd, b, rfl, ⟨by rw [← HA.out]; simp [lineOk, hnb]⟩, by omega⟩
            case measure =>
              simp
              omega
    · have hnx : ∀ ty, (Instr.next (.pointer (some ⟨w.heap.size, 0, none⟩)) true ty).run Tryd.prog (w.iter a0 pos) = _ := fun ty => run_next_end w a0 pos ty hp
      have cR' := cR pos
      go_wp2_with (go_at_call 10; refine cR'.mono ?_; rintro e w2 ⟨rfl, hb2⟩)
      go_ret
      rw [runesFrom_end a0 b pos hp] at HA
      have hr := HA.out
      simp [lineOk] at hr
      subst hr
      exact ⟨rfl, (below_alloc (Below.refl _ _) _).trans (hb2.mono (Nat.le_of_lt (by show w.heap.size < (w.heap.push _).size; simp)))⟩

set_option maxHeartbeats 8000000 in
set_option maxRecDepth 100000 in
theorem lex_letter.quiet (a0 : Int) (r : Bool) (w : World) (h : lex_letter.f a0 = some r) :
    Calls Tryd.prog 22 #[.int .i32 a0] w fun e w' => e = .returned (.bool r) ∧ w' = w := by
  have H : (if a0 ≥ 97 then (if a0 ≤ 122 then (some true) else (if a0 ≥ 65 then (if a0 ≤ 90 then (some true) else (some (decide (a0 ≥ 192)))) else (some (decide (a0 ≥ 192))))) else (if a0 ≥ 65 then (if a0 ≤ 90 then (some true) else (some (decide (a0 ≥ 192)))) else (some (decide (a0 ≥ 192))))) = some r := h
  clear h
  by_cases c2 : a0 ≥ 97
  · rw [if_pos c2] at H
    have c2b0 : decide (97 ≤ a0) = true := decide_eq_true c2
    clear c2
    by_cases c3 : a0 ≤ 122
    · rw [if_pos c3] at H
      have c3b0 : decide (a0 ≤ 122) = true := decide_eq_true c3
      clear c3
      obtain rfl := Option.some.inj H
      go_enter Tryd.func22, Tryd.ntmps22
      go_wp2
      go_ret
      exact ⟨by first | rfl | (simp; done) | (simp [*]; done), rfl⟩
    · rw [if_neg c3] at H
      have c3b0 : decide (a0 ≤ 122) = false := decide_eq_false c3
      clear c3
      by_cases c4 : a0 ≥ 65
      · rw [if_pos c4] at H
        have c4b0 : decide (65 ≤ a0) = true := decide_eq_true c4
        clear c4
        by_cases c5 : a0 ≤ 90
        · rw [if_pos c5] at H
          have c5b0 : decide (a0 ≤ 90) = true := decide_eq_true c5
          clear c5
          obtain rfl := Option.some.inj H
          go_enter Tryd.func22, Tryd.ntmps22
          go_wp2
          go_ret
          exact ⟨by first | rfl | (simp; done) | (simp [*]; done), rfl⟩
        · rw [if_neg c5] at H
          have c5b0 : decide (a0 ≤ 90) = false := decide_eq_false c5
          clear c5
          obtain rfl := Option.some.inj H
          go_enter Tryd.func22, Tryd.ntmps22
          go_wp2
          go_ret
          exact ⟨by first | rfl | (simp; done) | (simp [*]; done), rfl⟩
      · rw [if_neg c4] at H
        have c4b0 : decide (65 ≤ a0) = false := decide_eq_false c4
        clear c4
        obtain rfl := Option.some.inj H
        go_enter Tryd.func22, Tryd.ntmps22
        go_wp2
        go_ret
        exact ⟨by first | rfl | (simp; done) | (simp [*]; done), rfl⟩
  · rw [if_neg c2] at H
    have c2b0 : decide (97 ≤ a0) = false := decide_eq_false c2
    clear c2
    by_cases c6 : a0 ≥ 65
    · rw [if_pos c6] at H
      have c6b0 : decide (65 ≤ a0) = true := decide_eq_true c6
      clear c6
      by_cases c7 : a0 ≤ 90
      · rw [if_pos c7] at H
        have c7b0 : decide (a0 ≤ 90) = true := decide_eq_true c7
        clear c7
        obtain rfl := Option.some.inj H
        go_enter Tryd.func22, Tryd.ntmps22
        go_wp2
        go_ret
        exact ⟨by first | rfl | (simp; done) | (simp [*]; done), rfl⟩
      · rw [if_neg c7] at H
        have c7b0 : decide (a0 ≤ 90) = false := decide_eq_false c7
        clear c7
        obtain rfl := Option.some.inj H
        go_enter Tryd.func22, Tryd.ntmps22
        go_wp2
        go_ret
        exact ⟨by first | rfl | (simp; done) | (simp [*]; done), rfl⟩
    · rw [if_neg c6] at H
      have c6b0 : decide (65 ≤ a0) = false := decide_eq_false c6
      clear c6
      obtain rfl := Option.some.inj H
      go_enter Tryd.func22, Tryd.ntmps22
      go_wp2
      go_ret
      exact ⟨by first | rfl | (simp; done) | (simp [*]; done), rfl⟩


def isLet (c : Nat) : Bool := (decide (97 ≤ c) && decide (c ≤ 122)) || (decide (65 ≤ c) && decide (c ≤ 90)) || decide (192 ≤ c)
def isMore (c : Nat) : Bool := c == 45 || c == 95 || (decide (48 ≤ c) && decide (c ≤ 57))
/-- May sign c stand behind n signs? -/
def okAt (n c : Nat) : Bool := isLet c || (n != 0 && isMore c)
def nameRest : Nat → List (Nat × Nat) → Bool
  | n, [] => decide (1 ≤ n) && decide (n ≤ 32)
  | n, x :: t => okAt n x.2 && nameRest (n + 1) t
theorem letter_f (c : Nat) : lex_letter.f (c : Int) = some (isLet c) := by
  unfold lex_letter.f isLet
  repeat' split
  all_goals (refine congrArg some ?_; rw [Bool.eq_iff_iff]; simp only [Bool.or_eq_true, Bool.and_eq_true, decide_eq_true_eq, true_iff, Bool.true_eq, Bool.false_eq]; omega)
def lex_Name.f (a0 : ByteArray) : Option Bool := if a0.size < 9223372036854775807 then some (nameRest 0 (runes a0) && Lib.validD a0.data.toList) else none
set_option maxHeartbeats 20000000 in
set_option maxRecDepth 1000000 in
theorem lex_Name.calls (a0 : ByteArray) (r : Bool) (w : World) (hT : Tabs w) (h : lex_Name.f a0 = some r) :
    Calls Tryd.prog 7 #[.string a0] w fun e w' => e = .returned (.bool r) ∧ Below w.heap.size w w' := by
  unfold lex_Name.f at h
  split at h
  case isFalse => cases h
  rename_i hs
  have HR := Aside0.mk (Option.some.inj h)
  clear h
  have HT := Aside0.mk hT
  clear hT
  have cR : ∀ pos, Calls Tryd.prog 10 #[.string a0] (w.iter a0 pos) _ := fun pos => lex_Right.calls a0 (Lib.validD a0.data.toList) (w.iter a0 pos) (tabs_up HT.out (below_alloc (Below.refl _ _) _)) (by simp [lex_Right.f, utf8_ValidString.f, Nat.le_of_lt hs])
  have cL : ∀ (c : Nat) W, Calls Tryd.prog 22 #[.int .i32 (c : Int)] W _ := fun c W => lex_letter.quiet (c : Int) (isLet c) W (letter_f c)
  go_enter Tryd.func7, Tryd.ntmps7
  go_wp2
  go_loopw [3, 5] (fun v3 v5 w' => ∃ (pos b n : Nat), w' = w.iter a0 pos ∧ v3 = .int .i64 n ∧ Aside0 ((nameRest n (runesFrom a0 b pos) && Lib.validD a0.data.toList) = r) ∧ a0.size ≤ pos + b ∧ n ≤ pos) (fun _ _ w' => a0.size - w'.iterPos w.heap.size)
  case atStart => exact ⟨0, a0.size, 0, rfl, rfl, HR, by omega, by omega⟩
  case round =>
    obtain ⟨pos, b, n, rfl, rfl, HA, hb, hn⟩ := hrel
    by_cases hp : pos < a0.size
    · have hnx : ∀ ty, (Instr.next (.pointer (some ⟨w.heap.size, 0, none⟩)) true ty).run Tryd.prog (w.iter a0 pos) = _ := fun ty => run_next_any w a0 pos ty hp
      have hwd := Lib.decode_width_pos a0 pos hp
      cases b with
      | zero => omega
      | succ b =>
        rw [runesFrom_step a0 b pos hp] at HA
        have hle := decode_le a0 pos
        generalize hd : (Utf8.decode a0 pos).1 = c at *
        generalize hw2 : (Utf8.decode a0 pos).2 = wd at *
        have hw64 : wrap64 ((n : Int) + 1) = ((n + 1 : Nat) : Int) := by unfold wrap64; omega
        have hl1 : n + 1 = 1 ↔ n = 0 := by omega
        have cL' := cL c
        have ge : (0 : Int) ≤ (c : Int) := by omega
        cases hL : isLet c with
        | true =>
          rw [hL] at cL'
          have hok : okAt n c = true := by simp [okAt, hL]
          go_wp2_with (go_at_call 22; refine (cL' _).mono ?_; rintro e w2 ⟨rfl, rfl⟩)
          go_roundw
          case rel => exact ⟨pos + wd, b, n + 1, rfl, by go_num, ⟨by rw [← HA.out]; simp [nameRest, hok]⟩, by omega, by omega⟩
          case measure =>
            simp
            omega
        | false =>
          rw [hL] at cL'
          by_cases hn0 : n = 0
          · subst hn0
            have hok : okAt 0 c = false := by simp [okAt, hL]
            obtain rfl : false = r := by rw [← HA.out]; simp [nameRest, hok]
            go_wp2_with (go_at_call 22; refine (cL' _).mono ?_; rintro e w2 ⟨rfl, rfl⟩)
            go_ret
            exact ⟨rfl, below_alloc (Below.refl _ _) _⟩
          · have hn1 : ((n : Int) + 1 == 1) = false := beq_eq_false_iff_ne.mpr (by omega)
            by_cases h45 : (c : Int) = 45
            · have e45 : ((c : Int) != 45) = false := bne_eq_false_iff_eq.mpr h45
              have hok : okAt n c = true := by simp [okAt, isMore, hL]; omega
              clear h45
              go_wp2_with (go_at_call 22; refine (cL' _).mono ?_; rintro e w2 ⟨rfl, rfl⟩)
              go_roundw
              case rel => exact ⟨pos + wd, b, n + 1, rfl, by go_num, ⟨by rw [← HA.out]; simp [nameRest, hok]⟩, by omega, by omega⟩
              case measure =>
                simp
                omega
            · have e45 : ((c : Int) != 45) = true := bne_iff_ne.mpr h45
              by_cases h95 : (c : Int) = 95
              · have e95 : ((c : Int) != 95) = false := bne_eq_false_iff_eq.mpr h95
                have hok : okAt n c = true := by simp [okAt, isMore, hL]; omega
                clear h95
                go_wp2_with (go_at_call 22; refine (cL' _).mono ?_; rintro e w2 ⟨rfl, rfl⟩)
                go_roundw
                case rel => exact ⟨pos + wd, b, n + 1, rfl, by go_num, ⟨by rw [← HA.out]; simp [nameRest, hok]⟩, by omega, by omega⟩
                case measure =>
                  simp
                  omega
              · have e95 : ((c : Int) != 95) = true := bne_iff_ne.mpr h95
                by_cases h48 : (c : Int) < 48
                · have e48 : decide ((c : Int) < 48) = true := decide_eq_true h48
                  have hok : okAt n c = false := by simp [okAt, isMore, hL]; omega
                  obtain rfl : false = r := by rw [← HA.out]; simp [nameRest, hok]
                  go_wp2_with (go_at_call 22; refine (cL' _).mono ?_; rintro e w2 ⟨rfl, rfl⟩)
                  go_ret
                  exact ⟨rfl, below_alloc (Below.refl _ _) _⟩
                · have e48 : decide ((c : Int) < 48) = false := decide_eq_false h48
                  by_cases h57 : 57 < (c : Int)
                  · have e57 : decide (57 < (c : Int)) = true := decide_eq_true h57
                    have hok : okAt n c = false := by simp [okAt, isMore, hL]; omega
                    obtain rfl : false = r := by rw [← HA.out]; simp [nameRest, hok]
                    go_wp2_with (go_at_call 22; refine (cL' _).mono ?_; rintro e w2 ⟨rfl, rfl⟩)
                    go_ret
                    exact ⟨rfl, below_alloc (Below.refl _ _) _⟩
                  · have e57 : decide (57 < (c : Int)) = false := decide_eq_false h57
                    have hok : okAt n c = true := by simp [okAt, isMore, hL]; omega
                    go_wp2_with (go_at_call 22; refine (cL' _).mono ?_; rintro e w2 ⟨rfl, rfl⟩)
                    go_roundw
                    case rel => exact ⟨pos + wd, b, n + 1, rfl, by go_num, ⟨by rw [← HA.out]; simp [nameRest, hok]⟩, by omega, by omega⟩
                    case measure =>
                      simp
                      omega
    · have hnx : ∀ ty, (Instr.next (.pointer (some ⟨w.heap.size, 0, none⟩)) true ty).run Tryd.prog (w.iter a0 pos) = _ := fun ty => run_next_end w a0 pos ty hp
      have cR' := cR pos
      rw [runesFrom_end a0 b pos hp] at HA
      have hr := HA.out
      simp only [nameRest] at hr
      by_cases h1 : (1 : Int) ≤ (n : Int)
      · by_cases h32 : (n : Int) ≤ 32
        · have e1 : decide ((1 : Int) ≤ (n : Int)) = true := decide_eq_true h1
          have e2 : decide ((n : Int) ≤ 32) = true := decide_eq_true h32
          go_wp2_with (go_at_call 10; refine cR'.mono ?_; rintro e w2 ⟨rfl, hb2⟩)
          go_ret
          rw [decide_eq_true (show 1 ≤ n by omega), decide_eq_true (show n ≤ 32 by omega)] at hr
          simp only [Bool.true_and] at hr
          subst hr
          exact ⟨rfl, (below_alloc (Below.refl _ _) _).trans (hb2.mono (Nat.le_of_lt (by show w.heap.size < (w.heap.push _).size; simp)))⟩
        · have e1 : decide ((1 : Int) ≤ (n : Int)) = true := decide_eq_true h1
          have e2 : decide ((n : Int) ≤ 32) = false := decide_eq_false h32
          rw [decide_eq_false (show ¬ n ≤ 32 by omega)] at hr
          simp only [Bool.and_false, Bool.false_and] at hr
          subst hr
          go_wp2
          go_ret
          exact ⟨rfl, below_alloc (Below.refl _ _) _⟩
      · have e1 : decide ((1 : Int) ≤ (n : Int)) = false := decide_eq_false h1
        rw [decide_eq_false (show ¬ 1 ≤ n by omega)] at hr
        simp only [Bool.false_and] at hr
        subst hr
        go_wp2
        go_ret
        exact ⟨rfl, below_alloc (Below.refl _ _) _⟩
end Go.Proofs.YtaaibnpjajfpgaaDoor.PLex
