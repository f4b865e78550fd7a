/- Plain laws: a sign's bytes; what is decoded is spelt by these bytes. -/
import Derived.Test.YtaaibnpjajfpgaaDoorLexP5
import Derived.Test.YtaaibnpjajfpgaaDoorLexD
namespace Go.Proofs.YtaaibnpjajfpgaaDoor.PLex
open Go.RowKit Go.Proofs.YtaaibnpjajfpgaaDoorW.PrintWords Go.Proofs.YtaaibnpjajfpgaaDoorW.PrintLast Go.Proofs.YtaaibnpjajfpgaaDoorW.PrintMore
set_option linter.unusedVariables false
set_option linter.unusedSimpArgs false




/-- What is decoded is a sign, and its bytes are those that stand there. -/
theorem dec_okN (t : ByteArray) (h : 0 < t.size) (hb : ¬ badAt t 0) : okN ((Utf8.decode t 0).1 : Int) ((List.range (Utf8.decode t 0).2).map (B t)) := by
  have g0 := B_lt t 0
  have g1 := B_lt t 1
  have g2 := B_lt t 2
  have g3 := B_lt t 3
  have hd : Utf8.decode t 0 = Lib.decodeN t.size (B t 0) (B t 1) (B t 2) (B t 3) := Lib.decode_at t 0
  unfold badAt at hb
  have r1 : (List.range 1).map (B t) = [B t 0] := rfl
  have r2 : (List.range 2).map (B t) = [B t 0, B t 1] := rfl
  have r3 : (List.range 3).map (B t) = [B t 0, B t 1, B t 2] := rfl
  have r4 : (List.range 4).map (B t) = [B t 0, B t 1, B t 2, B t 3] := rfl
  rw [hd] at hb ⊢
  generalize B t 0 = b0 at *
  generalize B t 1 = b1 at *
  generalize B t 2 = b2 at *
  generalize B t 3 = b3 at *
  clear hd
  by_cases c240 : 240 ≤ b0
  · by_cases hs : t.size < 4
    · exact absurd ⟨by rw [decS _ _ _ _ _ (by rw [if_pos c240]; exact hs) h], by rw [decS _ _ _ _ _ (by rw [if_pos c240]; exact hs) h]⟩ hb
    · rw [dec4 _ _ _ _ _ (by omega) c240] at hb ⊢
      split at hb
      · rename_i q
        rw [if_pos q]
        simp only [r4]
        have := (ok4 b0 b1 b2 b3 c240 g0 g1 g2 g3).mpr q
        rwa [show ((((b0 : Int) - 240) * 64 + b1 - 128) * 64 + b2 - 128) * 64 + b3 - 128 = ((b0 % 8 * 262144 + b1 % 64 * 4096 + b2 % 64 * 64 + b3 % 64 : Nat) : Int) by omega] at this
      · exact absurd ⟨rfl, rfl⟩ hb
  · by_cases c224 : 224 ≤ b0
    · by_cases hs : t.size < 3
      · exact absurd ⟨by rw [decS _ _ _ _ _ (by rw [if_neg c240, if_pos c224]; exact hs) h], by rw [decS _ _ _ _ _ (by rw [if_neg c240, if_pos c224]; exact hs) h]⟩ hb
      · rw [dec3 _ _ _ _ _ (by omega) c224 (by omega)] at hb ⊢
        split at hb
        · rename_i q
          rw [if_pos q]
          simp only [r3]
          have := (ok3 b0 b1 b2 c224 (by omega) g1 g2).mpr q
          rwa [show (((b0 : Int) - 224) * 64 + b1 - 128) * 64 + b2 - 128 = ((b0 % 16 * 4096 + b1 % 64 * 64 + b2 % 64 : Nat) : Int) by omega] at this
        · exact absurd ⟨rfl, rfl⟩ hb
    · by_cases c192 : 192 ≤ b0
      · by_cases hs : t.size < 2
        · exact absurd ⟨by rw [decS _ _ _ _ _ (by rw [if_neg c240, if_neg c224, if_pos c192]; exact hs) h], by rw [decS _ _ _ _ _ (by rw [if_neg c240, if_neg c224, if_pos c192]; exact hs) h]⟩ hb
        · rw [dec2 _ _ _ _ _ (by omega) c192 (by omega)] at hb ⊢
          split at hb
          · rename_i q
            rw [if_pos q]
            simp only [r2]
            have := (ok2 b0 b1 c192 (by omega) g1).mpr q
            rwa [show ((b0 : Int) - 192) * 64 + b1 - 128 = ((b0 % 32 * 64 + b1 % 64 : Nat) : Int) by omega] at this
          · exact absurd ⟨rfl, rfl⟩ hb
      · rw [dec1 _ _ _ _ _ (by omega)] at hb ⊢
        split at hb
        · rename_i q
          rw [if_pos q]
          simp only [r1]
          exact (ok1 b0 (by omega)).mpr q
        · exact absurd ⟨rfl, rfl⟩ hb
theorem or192 : ∀ n : Fin 32, Go.bits .or .u8 192 ((n.val : Nat) : Int) = ((192 + n.val : Nat) : Int) := by decide
theorem or224 : ∀ n : Fin 16, Go.bits .or .u8 224 ((n.val : Nat) : Int) = ((224 + n.val : Nat) : Int) := by decide
theorem or240 : ∀ n : Fin 8, Go.bits .or .u8 240 ((n.val : Nat) : Int) = ((240 + n.val : Nat) : Int) := by decide
def isSign (c : Int) : Prop := 0 ≤ c ∧ c ≤ 1114111 ∧ (c < 55296 ∨ 57343 < c)
instance (c : Int) : Decidable (isSign c) := by unfold isSign; infer_instance
def layI (c : Int) : List Int := (layN c.toNat).map fun (x : Nat) => (x : Int)
theorem w32 (c : Int) (h : 0 ≤ c) (h2 : c ≤ 1114111) : wrap32 c = c := by unfold wrap32; omega
theorem vrune (c : Int) (h : 0 ≤ c) (h2 : c ≤ 1114111) : Ev (fun k => utf8_ValidRune.f k (wrap32 c)) (decide (isSign c)) := by
  rw [w32 c h h2]
  refine Ev.step (f := fun _ => some (decide (isSign c))) (fun k => ?_) (Ev.now _)
  unfold utf8_ValidRune.f isSign
  rw [if_pos h, utf8_ValidRune.j0]
  by_cases h1 : c < 55296
  · rw [if_pos (decide_eq_true h1)]
    refine congrArg some (decide_eq_true ⟨h, h2, .inl h1⟩).symm
  · rw [if_neg (by rw [decide_eq_false h1]; decide)]
    by_cases h3 : 57343 < c
    · rw [if_pos h3, if_pos h2]
      refine congrArg some (decide_eq_true ⟨h, h2, .inr h3⟩).symm
    · rw [if_neg h3]
      refine congrArg some (decide_eq_false (fun q => ?_)).symm
      omega
theorem arune (acc : List Int) (c : Int) (hs : isSign c) (hl : acc.length ≤ 1000000) : Ev (fun k => utf8_AppendRune.f k acc (wrap32 c)) (acc ++ layI c) := by
  obtain ⟨h, h2, h3⟩ := hs
  rw [w32 c h h2]
  have hm : c % 4294967296 = c := by omega
  obtain ⟨n, rfl⟩ : ∃ n : Nat, c = (n : Int) := ⟨c.toNat, by omega⟩
  have hn : ((n : Nat) : Int).toNat = n := by omega
  refine Ev.step (f := fun _ => some (acc ++ layI (n : Int))) (fun k => ?_) (Ev.now _)
  unfold utf8_AppendRune.f layI layN
  rw [hm, hn]
  by_cases h127 : (n : Int) ≤ 127
  · rw [if_pos h127, if_pos (by omega), if_pos (by omega)]
    refine congrArg some (congrArg (acc ++ ·) ?_)
    simp only [List.map_cons, List.map_nil, List.cons.injEq, and_true]
    omega
  · rw [if_neg h127, if_neg (show ¬ n < 128 by omega)]
    unfold utf8_appendRuneNonASCII.f
    rw [hm]
    by_cases h2047 : (n : Int) ≤ 2047
    · have e : Go.bits .or .u8 192 ((n / 64 : Nat) : Int) = ((192 + n / 64 : Nat) : Int) := or192 ⟨n / 64, by omega⟩
      have e2 : (n : Int) / 64 % 256 = ((n / 64 : Nat) : Int) := by omega
      rw [if_pos h2047, if_pos (show n < 2048 by omega), e2, e]
      simp only [Option.bind_some, List.length_cons, List.length_nil]
      rw [if_pos (by omega)]
      refine congrArg some (congrArg (acc ++ ·) ?_)
      simp only [List.map_cons, List.map_nil, List.cons.injEq, and_true, true_and]
      omega
    · rw [if_neg h2047, if_neg (show ¬ n < 2048 by omega)]
      by_cases h65 : (n : Int) ≤ 65535
      · have e : Go.bits .or .u8 224 ((n / 4096 : Nat) : Int) = ((224 + n / 4096 : Nat) : Int) := or224 ⟨n / 4096, by omega⟩
        have e2 : (n : Int) / 4096 % 256 = ((n / 4096 : Nat) : Int) := by omega
        have hj : utf8_appendRuneNonASCII.j0 (k + 1) acc (n : Int) (n : Int) true = some (acc ++ [((224 + n / 4096 : Nat) : Int), ((128 + n / 64 % 64 : Nat) : Int), ((128 + n % 64 : Nat) : Int)]) := by
          rw [utf8_appendRuneNonASCII.j0, if_pos rfl, e2, e]
          simp only [Option.bind_some, List.length_cons, List.length_nil]
          rw [if_pos (by omega)]
          refine congrArg some (congrArg (acc ++ ·) ?_)
          simp only [List.cons.injEq, and_true, true_and]
          omega
        rw [if_pos (show n < 65536 by omega)]
        by_cases h55 : (n : Int) < 55296
        · rw [if_pos h55, decide_eq_true h55, hj]
          rfl
        · rw [if_neg h55, if_pos (by omega), decide_eq_true h65, hj]
          rfl
      · have e : Go.bits .or .u8 240 ((n / 262144 : Nat) : Int) = ((240 + n / 262144 : Nat) : Int) := or240 ⟨n / 262144, by omega⟩
        have e2 : (n : Int) / 262144 % 256 = ((n / 262144 : Nat) : Int) := by omega
        rw [if_neg (show ¬ n < 65536 by omega), if_neg (by omega), if_pos (by omega), decide_eq_false h65, utf8_appendRuneNonASCII.j0, if_neg (by decide), if_pos (by omega), if_pos h2, e2, e]
        simp only [Option.bind_some, List.length_cons, List.length_nil]
        rw [if_pos (by omega)]
        refine congrArg some (congrArg (acc ++ ·) ?_)
        simp only [List.map_cons, List.map_nil, List.cons.injEq, and_true, true_and]
        omega
end Go.Proofs.YtaaibnpjajfpgaaDoor.PLex
