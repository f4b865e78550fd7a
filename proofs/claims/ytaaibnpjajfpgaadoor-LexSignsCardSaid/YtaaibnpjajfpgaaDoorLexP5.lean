/- Plain laws: the reference's Words, Same, Join. -/
import Derived.Test.YtaaibnpjajfpgaaDoorLexP4
namespace Go.Proofs.YtaaibnpjajfpgaaDoor.PLex
open Go.RowKit Go.Proofs.YtaaibnpjajfpgaaDoorW.PrintWords Go.Proofs.YtaaibnpjajfpgaaDoorW.PrintLast Go.Proofs.YtaaibnpjajfpgaaDoorW.PrintMore
set_option linter.unusedVariables false
set_option linter.unusedSimpArgs false




def pre (w : List UInt8) : List (List UInt8) → List (List UInt8)
  | [] => [w]
  | p :: r => (w ++ p) :: r
def goW : List ByteArray → List UInt8 → List UInt8 → List ByteArray × Bool
  | out, w, [] => if w = [] then ([], false) else (out ++ [ofL w], true)
  | out, w, c :: t => if c = 32 then (if w = [] then ([], false) else goW (out ++ [ofL w]) [] t) else goW out (w ++ [c]) t
theorem pieces_ne : ∀ l : List UInt8, pieces l ≠ []
  | [] => by simp [pieces]
  | c :: t => by
    unfold pieces
    split
    · simp
    · split <;> simp
theorem goW_is : ∀ (l w : List UInt8) (out : List ByteArray), goW out w l = if (pre w (pieces l)).contains [] then ([], false) else (out ++ (pre w (pieces l)).map ofL, true)
  | [], w, out => by
    simp only [goW, pieces, pre, List.append_nil]
    by_cases hw : w = []
    · subst hw; simp
    · rw [if_neg hw, if_neg (by simpa using hw)]
      rfl
  | c :: t, w, out => by
    rw [goW, pieces]
    by_cases hc : c = 32
    · rw [if_pos hc, if_pos hc]
      by_cases hw : w = []
      · subst hw; simp [pre]
      · rw [if_neg hw, goW_is t [] (out ++ [ofL w])]
        have hp : pre [] (pieces t) = pieces t := by
          cases h : pieces t with
          | nil => exact absurd h (pieces_ne t)
          | cons p r => rfl
        have hp2 : pre w ([] :: pieces t) = w :: pieces t := by simp [pre]
        have hc2 : (w :: pieces t).contains [] = (pieces t).contains [] := by
          rw [List.contains_cons]
          have : (([] : List UInt8) == w) = false := by simpa using hw
          rw [this, Bool.false_or]
        rw [hp, hp2, hc2]
        simp
    · rw [if_neg hc, if_neg hc, goW_is t (w ++ [c]) out]
      cases h : pieces t with
      | nil => exact absurd h (pieces_ne t)
      | cons p r => simp [pre]
theorem goW_all (l : List UInt8) : goW [] [] l = if (pieces l).contains [] then ([], false) else ((pieces l).map ofL, true) := by
  rw [goW_is]
  have hp : pre [] (pieces l) = pieces l := by
    cases h : pieces l with
    | nil => exact absurd h (pieces_ne l)
    | cons p r => rfl
  rw [hp]
  simp
theorem append_ofL (w v : List UInt8) : ofL w ++ ofL v = ofL (w ++ v) := by
  apply toList_inj
  rw [ByteArray.toList_eq, ByteArray.toList_eq]
  simp [ofL]
theorem extract_one (s : ByteArray) (i : Nat) (h : i < s.data.toList.length) : s.extract i (i + 1) = ofL [s.data.toList[i]] := by
  apply toList_inj
  rw [ByteArray.toList_eq, ByteArray.toList_eq, Lib.extract_data, List.drop_eq_getElem_cons h]
  simp [ofL]
theorem j2_ev (out : List ByteArray) (w : List UInt8) (ho : out.length < 8796093022208) : Ev (fun k => temperaref04_Words.j2 k out (ofL w) ((ofL w).toList == ([] : List UInt8))) (if w = [] then ([], false) else (out ++ [ofL w], true)) := by
  refine Ev.up (Ev.val (fun k => ?_))
  rw [temperaref04_Words.j2, ofL_toList]
  by_cases hw : w = []
  · subst hw; simp
  · rw [if_neg (by simpa using hw), if_neg hw, if_pos ho, if_neg hw]
theorem words_l1 (s : ByteArray) (hs : s.size ≤ 1000000) (h0 : 0 < s.size) : ∀ (d i : Nat) (out : List ByteArray) (w : List UInt8), i + d = s.size → out.length ≤ i → w.length ≤ i →
    Ev (fun k => temperaref04_Words.l1 k s out (ofL w) (i : Int)) (goW out w (s.data.toList.drop i))
  | 0, i, out, w, h, ho, hw => by
    refine Ev.step (f := fun k => temperaref04_Words.j2 k out (ofL w) ((ofL w).toList == ([] : List UInt8))) (fun k => ?_) ?_
    · rw [temperaref04_Words.l1, if_neg (by omega), if_pos (by omega)]
    · rw [List.drop_of_length_le (by rw [← Lib.size_eq]; omega), goW]
      exact j2_ev out w (by omega)
  | d + 1, i, out, w, h, ho, hw => by
    have hlt : i < s.data.toList.length := by rw [← Lib.size_eq]; omega
    have hlt' : i < s.size := by omega
    have hb : bt s (i : Int) = ((s.data.toList[i]).toNat : Int) := by
      rw [bt_B s i hlt']
      unfold B
      rw [← Lib.getD_get!', List.getD_eq_getElem?_getD, List.getElem?_eq_getElem hlt]
      rfl
    rw [List.drop_eq_getElem_cons hlt, goW]
    generalize hc : s.data.toList[i] = c at *
    by_cases h32 : c = 32
    · subst h32
      rw [if_pos rfl]
      by_cases hw0 : w = []
      · rw [if_pos hw0]
        refine Ev.up (Ev.val (fun k => ?_))
        rw [temperaref04_Words.l1, if_pos (by omega), if_pos (by omega), hb, if_pos (by decide), ofL_toList, if_pos hw0]
      · rw [if_neg hw0]
        refine Ev.step (f := fun k => temperaref04_Words.l1 k s (out ++ [ofL w]) (⟨#[]⟩ : ByteArray) ((i + 1 : Nat) : Int)) (fun k => ?_) (words_l1 s hs h0 d (i + 1) (out ++ [ofL w]) [] (by omega) (by simp; omega) (by simp))
        rw [temperaref04_Words.l1, if_pos (by omega), if_pos (by omega), hb, if_pos (by decide), ofL_toList, if_neg hw0, if_pos (by omega), w1 i (by omega)]
    · rw [if_neg h32]
      have hn : ¬ ((c.toNat : Int) = 32) := by
        intro e
        apply h32
        apply UInt8.toNat_inj.mp
        show c.toNat = 32
        omega
      refine Ev.step (f := fun k => temperaref04_Words.l1 k s out (ofL (w ++ [c])) ((i + 1 : Nat) : Int)) (fun k => ?_) (words_l1 s hs h0 d (i + 1) out (w ++ [c]) (by omega) (by omega) (by simp; omega))
      have he : s.extract i (i + 1) = ofL [c] := by rw [extract_one s i hlt, hc]
      rw [temperaref04_Words.l1, if_pos (by omega), if_pos (by omega), hb, if_neg hn, w1 i (by omega), if_pos (by omega), if_pos (by omega), show ((i : Int)).toNat = i by omega, show (((i + 1 : Nat) : Int)).toNat = i + 1 by omega, he, append_ofL, if_pos (by rw [ofL_size, ofL_size]; simp; omega)]
theorem line_l0 (s : ByteArray) (v : List ByteArray × Bool) (l : List (Nat × Nat)) (hl : l.length ≤ 1000000) (hv : Ev (fun k => temperaref04_Words.l1 k s ([] : List ByteArray) (⟨#[]⟩ : ByteArray) 0) v) : ∀ (d i : Nat), i + d = l.length →
    Ev (fun k => temperaref04_Words.l0 k s (nums2 l) (i : Int)) (if lineOk (l.drop i) = true then v else ([], false))
  | 0, i, h => by
    refine Ev.step (f := fun k => temperaref04_Words.l1 k s ([] : List ByteArray) (⟨#[]⟩ : ByteArray) 0) (fun k => ?_) ?_
    · rw [temperaref04_Words.l0, if_neg (by simp [nums2]; omega)]
    · rw [List.drop_of_length_le (by omega)]
      exact hv
  | d + 1, i, h => by
    have hlt : i < l.length := by omega
    have hr := rd_nums l i hlt
    have hll : (i : Int) < ((nums2 l).length : Int) := by simp [nums2]; omega
    have ih := line_l0 s v l hl hv d (i + 1) (by omega)
    rw [List.drop_eq_getElem_cons hlt]
    have hk : lineOk (l[i] :: l.drop (i + 1)) = (!badLine (l[i]).2 && lineOk (l.drop (i + 1))) := rfl
    rw [hk]
    by_cases h32 : (l[i]).2 < 32
    · have : badLine (l[i]).2 = true := by simp [badLine, h32]
      rw [this]
      refine Ev.up (Ev.val (fun k => ?_))
      rw [temperaref04_Words.l0, if_pos hll, if_pos (by omega), hr, if_pos (by omega)]
      simp
    · by_cases h127 : (l[i]).2 = 127
      · have : badLine (l[i]).2 = true := by simp [badLine, h127]
        rw [this]
        refine Ev.up (Ev.val (fun k => ?_))
        rw [temperaref04_Words.l0, if_pos hll, if_pos (by omega), hr, if_neg (by omega), if_pos (by omega)]
        simp
      · have : badLine (l[i]).2 = false := by simp [badLine, h127]; omega
        rw [this]
        refine Ev.step (f := fun k => temperaref04_Words.l0 k s (nums2 l) ((i + 1 : Nat) : Int)) (fun k => ?_) (by simpa using ih)
        rw [temperaref04_Words.l0, if_pos hll, if_pos (by omega), hr, if_neg (by omega), if_neg (by omega), w1 i (by omega)]
theorem rwords_is (s : ByteArray) (hs : s.size ≤ 1000000) : Ev (fun k => temperaref04_Words.f k s) (match wordsOf s with | some l => (l, true) | none => ([], false)) := by
  have hl : (runes s).length ≤ 1000000 := Nat.le_trans (runesFrom_len s _ _) hs
  refine Ev.bind (signs_is s hs) ?_
  unfold wordsOf
  cases hv : Lib.validD s.data.toList with
  | false =>
    rw [Bool.and_false]
    exact Ev.val (fun k => by simp)
  | true =>
    rw [Bool.and_true]
    simp only [if_true]
    have hv1 : Ev (fun k => temperaref04_Words.l1 k s ([] : List ByteArray) (⟨#[]⟩ : ByteArray) 0) (if s.size = 0 then ([], true) else goW [] [] s.data.toList) := by
      by_cases hz : s.size = 0
      · rw [if_pos hz]
        refine Ev.step (f := fun k => temperaref04_Words.j2 k [] (⟨#[]⟩ : ByteArray) false) (fun k => ?_) (Ev.up (Ev.val (fun k => ?_)))
        · rw [temperaref04_Words.l1, if_neg (by omega), if_neg (by omega)]
        · rw [temperaref04_Words.j2, if_neg (by decide), if_pos (by rw [ByteArray.toList_eq])]
      · rw [if_neg hz]
        have := words_l1 s hs (by omega) s.size 0 [] [] (by omega) (by simp) (by simp)
        exact this
    have := line_l0 s _ (runes s) hl hv1 (runes s).length 0 (by omega)
    rw [List.drop_zero] at this
    refine Ev.congr (fun k => ?_) (f := fun k => temperaref04_Words.l0 k s (nums2 (runes s)) ((0 : Nat) : Int)) ?_
    · rfl
    · cases hk : lineOk (runes s) with
      | false => rw [hk] at this; simpa using this
      | true =>
        rw [hk] at this
        simp only [if_true] at this ⊢
        by_cases hz : s.size = 0
        · rw [if_pos hz] at this ⊢; exact this
        · rw [if_neg hz] at this ⊢
          rw [goW_all] at this
          by_cases hcc : (pieces s.data.toList).contains [] = true
          · rw [if_pos hcc] at this ⊢; exact this
          · rw [if_neg hcc] at this ⊢; exact this
end Go.Proofs.YtaaibnpjajfpgaaDoor.PLex
