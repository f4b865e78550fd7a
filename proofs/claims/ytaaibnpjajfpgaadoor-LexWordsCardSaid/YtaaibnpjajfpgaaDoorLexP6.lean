/- Plain laws: Same, slices.Equal, Join; the law LexWords answers true. -/
import Derived.Test.YtaaibnpjajfpgaaDoorLexP5
import Derived.Test.YtaaibnpjajfpgaaDoorLexH
import Derived.Lib.Join
namespace Go.Proofs.YtaaibnpjajfpgaaDoor.PLex
open Go.RowKit Go.Proofs.YtaaibnpjajfpgaaDoorW.PrintWords Go.Proofs.YtaaibnpjajfpgaaDoorW.PrintLast Go.Proofs.YtaaibnpjajfpgaaDoorW.PrintMore
set_option linter.unusedVariables false
set_option linter.unusedSimpArgs false




theorem rdS (l : List ByteArray) (i : Nat) (h : i < l.length) : rdOf ByteArray.empty l (i : Int) = l[i] := by simp [rdOf, List.getD_eq_getElem?_getD, h]
theorem same_l0 (a b : List ByteArray) (hl : a.length = b.length) (hb : a.length ≤ 1000000) : ∀ (d i : Nat), i + d = a.length → Ev (fun k => temperaref04_Same.l0 k a b (i : Int)) (decide (a.drop i = b.drop i))
  | 0, i, h => by
    refine Ev.up (Ev.val (fun k => ?_))
    rw [temperaref04_Same.l0, if_neg (by omega), List.drop_of_length_le (by omega), List.drop_of_length_le (by omega)]
    simp
  | d + 1, i, h => by
    have h1 : i < a.length := by omega
    have h2 : i < b.length := by omega
    have ih := same_l0 a b hl hb d (i + 1) (by omega)
    rw [List.drop_eq_getElem_cons h1, List.drop_eq_getElem_cons h2]
    by_cases he : a[i] = b[i]
    · refine Ev.step (f := fun k => temperaref04_Same.l0 k a b ((i + 1 : Nat) : Int)) (fun k => ?_) ?_
      · rw [temperaref04_Same.l0, if_pos (by omega), if_pos (by omega), if_pos (by omega), rdS a i h1, rdS b i h2, if_pos (by rw [he]), w1 i (by omega)]
      · have : decide (a[i] :: a.drop (i + 1) = b[i] :: b.drop (i + 1)) = decide (a.drop (i + 1) = b.drop (i + 1)) := by
          rw [he]
          refine decide_eq_decide.mpr ?_
          simp only [List.cons.injEq, true_and]
        rw [this]; exact ih
    · refine Ev.up (Ev.val (fun k => ?_))
      rw [temperaref04_Same.l0, if_pos (by omega), if_pos (by omega), if_pos (by omega), rdS a i h1, rdS b i h2, if_neg (fun e => he (toList_inj e))]
      exact congrArg some (decide_eq_false (fun e => he (List.cons.inj e).1)).symm
theorem same_is (a b : List ByteArray) (hb : a.length ≤ 1000000) : Ev (fun k => temperaref04_Same.f k a b) (decide (a = b)) := by
  by_cases hl : a.length = b.length
  · refine Ev.congr (f := fun k => temperaref04_Same.l0 k a b ((0 : Nat) : Int)) (fun k => ?_) (same_l0 a b hl hb a.length 0 (by omega))
    unfold temperaref04_Same.f
    rw [if_pos (by omega)]
    rfl
  · have : decide (a = b) = false := decide_eq_false (fun e => hl (by rw [e]))
    rw [this]
    refine Ev.val (fun k => ?_)
    unfold temperaref04_Same.f
    rw [if_neg (by omega)]
theorem equal_l0 (a b : List ByteArray) (hl : a.length = b.length) (hb : a.length ≤ 1000000) : ∀ (d i : Nat), i + d = a.length → Ev (fun k => slices_Equal_string_string.l0 k a b (a.length : Int) (i : Int)) (decide (a.drop i = b.drop i))
  | 0, i, h => by
    refine Ev.up (Ev.val (fun k => ?_))
    rw [slices_Equal_string_string.l0, if_neg (by omega), List.drop_of_length_le (by omega), List.drop_of_length_le (by omega)]
    simp
  | d + 1, i, h => by
    have h1 : i < a.length := by omega
    have h2 : i < b.length := by omega
    have ih := equal_l0 a b hl hb d (i + 1) (by omega)
    rw [List.drop_eq_getElem_cons h1, List.drop_eq_getElem_cons h2]
    by_cases he : a[i] = b[i]
    · refine Ev.step (f := fun k => slices_Equal_string_string.l0 k a b (a.length : Int) ((i + 1 : Nat) : Int)) (fun k => ?_) ?_
      · rw [slices_Equal_string_string.l0, if_pos (by omega), if_pos (by omega), if_pos (by omega), if_pos (by omega), rdS a i h1, rdS b i h2, if_pos (by rw [he]), w1 i (by omega)]
      · have : decide (a[i] :: a.drop (i + 1) = b[i] :: b.drop (i + 1)) = decide (a.drop (i + 1) = b.drop (i + 1)) := by
          rw [he]
          refine decide_eq_decide.mpr ?_
          simp only [List.cons.injEq, true_and]
        rw [this]; exact ih
    · refine Ev.up (Ev.val (fun k => ?_))
      rw [slices_Equal_string_string.l0, if_pos (by omega), if_pos (by omega), if_pos (by omega), if_pos (by omega), rdS a i h1, rdS b i h2, if_neg (fun e => he (toList_inj e))]
      exact congrArg some (decide_eq_false (fun e => he (List.cons.inj e).1)).symm
theorem equal_is (a b : List ByteArray) (hb : a.length ≤ 1000000) : Ev (fun k => slices_Equal_string_string.f k a b) (decide (a = b)) := by
  by_cases hl : a.length = b.length
  · refine Ev.congr (f := fun k => slices_Equal_string_string.l0 k a b (a.length : Int) ((0 : Nat) : Int)) (fun k => ?_) (equal_l0 a b hl hb a.length 0 (by omega))
    unfold slices_Equal_string_string.f
    rw [if_pos (by omega)]
    rfl
  · have : decide (a = b) = false := decide_eq_false (fun e => hl (by rw [e]))
    rw [this]
    refine Ev.val (fun k => ?_)
    unfold slices_Equal_string_string.f
    rw [if_neg (by omega)]

/-! ### Join -/
def dl (b : ByteArray) : List UInt8 := b.data.toList
theorem dl_ofL (b : ByteArray) : ofL (dl b) = b := ofL_of b
theorem dl_len (b : ByteArray) : (dl b).length = b.size := (Lib.size_eq b).symm
theorem join_l0 (L : List ByteArray) (hL : L.length ≤ 30) (hw : ∀ b ∈ L, b.size ≤ 100) : ∀ (d i : Nat) (acc : List UInt8), i + d = L.length → acc.length ≤ i * 200 →
    Ev (fun k => temperaref04_Join.l0 k L (ofL acc) (i : Int)) (ofL (if i = 0 then acc ++ Lib.join (L.map dl) [32] else acc ++ Lib.joinTail [32] ((L.drop i).map dl)))
  | 0, i, acc, h, ha => by
    refine Ev.up (Ev.val (fun k => ?_))
    rw [temperaref04_Join.l0, if_neg (by omega)]
    congr 1
    by_cases hi : i = 0
    · subst hi
      have : L = [] := List.eq_nil_of_length_eq_zero (by omega)
      subst this
      simp [Lib.join_nil]
    · rw [if_neg hi, List.drop_of_length_le (by omega)]
      simp [Lib.joinTail]
  | d + 1, i, acc, h, ha => by
    have hlt : i < L.length := by omega
    have hr := rdS L i hlt
    have hs := hw L[i] (List.getElem_mem hlt)
    have hd := dl_len L[i]
    have e1 : L[i] = ofL (dl L[i]) := (dl_ofL L[i]).symm
    by_cases hi : i = 0
    · subst hi
      have ih := join_l0 L hL hw d 1 (acc ++ dl L[0]) (by omega) (by simp; omega)
      rw [if_neg (by omega)] at ih
      rw [if_pos rfl]
      have hj : Lib.join (L.map dl) [32] = dl L[0] ++ Lib.joinTail [32] ((L.drop 1).map dl) := by
        cases L with
        | nil => simp at hlt
        | cons x t => rw [List.map_cons, Lib.join_cons]; rfl
      rw [hj, ← List.append_assoc]
      refine Ev.step (f := fun k => temperaref04_Join.l0 k L (ofL (acc ++ dl L[0])) ((1 : Nat) : Int)) (fun k => ?_) ih
      rw [temperaref04_Join.l0, if_pos (by omega), if_neg (by omega), if_pos (by omega), hr, if_pos (by rw [ofL_size]; omega), ← append_ofL, dl_ofL, w1 0 (by omega)]
    · have ih := join_l0 L hL hw d (i + 1) (acc ++ [32] ++ dl L[i]) (by omega) (by simp; omega)
      rw [if_neg (by omega)] at ih
      rw [if_neg hi]
      have hj : acc ++ Lib.joinTail [32] ((L.drop i).map dl) = acc ++ [32] ++ dl L[i] ++ Lib.joinTail [32] ((L.drop (i + 1)).map dl) := by
        rw [List.drop_eq_getElem_cons hlt]
        simp only [List.map_cons, Lib.joinTail, List.flatten_cons, List.append_assoc]
      rw [hj]
      refine Ev.step (f := fun k => temperaref04_Join.l0 k L (ofL (acc ++ [32] ++ dl L[i])) ((i + 1 : Nat) : Int)) (fun k => ?_) ih
      have e32 : (⟨#[32]⟩ : ByteArray) = ofL [32] := rfl
      rw [temperaref04_Join.l0, if_pos (by omega), if_pos (by omega), if_pos (by rw [ofL_size]; omega), if_pos (by omega), hr, e32, append_ofL, if_pos (by rw [ofL_size]; simp; omega), ← append_ofL (acc ++ [32]), dl_ofL, w1 i (by omega)]
theorem rjoin_is (L : List ByteArray) (hL : L.length ≤ 30) (hw : ∀ b ∈ L, b.size ≤ 100) : Ev (fun k => temperaref04_Join.f k L) (ofL (Lib.join (L.map dl) [32])) := by
  have := join_l0 L hL hw L.length 0 [] (by omega) (by simp)
  rw [if_pos rfl] at this
  exact this
theorem tail_len : ∀ (L : List ByteArray), (∀ b ∈ L, b.size ≤ 100) → (Lib.joinTail [32] (L.map dl)).length ≤ L.length * 101
  | [], _ => by simp [Lib.joinTail]
  | x :: t, h => by
    have := tail_len t (fun b hb => h b (List.mem_cons_of_mem _ hb))
    have hx := h x List.mem_cons_self
    have hd := dl_len x
    simp only [Lib.joinTail, List.map_cons, List.flatten_cons, List.length_append, List.length_cons, List.length_nil] at this ⊢
    omega
theorem join_len (L : List ByteArray) (hL : L.length ≤ 30) (hw : ∀ b ∈ L, b.size ≤ 100) : (Lib.join (L.map dl) [32]).length ≤ 4000 := by
  cases L with
  | nil => simp [Lib.join_nil]
  | cons x t =>
    have := tail_len t (fun b hb => hw b (List.mem_cons_of_mem _ hb))
    have hx := hw x List.mem_cons_self
    have hd := dl_len x
    rw [List.map_cons, Lib.join_cons, List.length_append]
    simp at hL
    omega

/-! ### the law -/
theorem join_is (L : List ByteArray) (hL : L.length ≤ 30) (hw : ∀ b ∈ L, b.size ≤ 100) :
    Ev (fun k => lex_Join.f k L) (match wordsOf (ofL (Lib.join (L.map dl) [32])) with | some l => if l = L then (ofL (Lib.join (L.map dl) [32]), 0) else ((⟨#[]⟩ : ByteArray), 13) | none => ((⟨#[]⟩ : ByteArray), 13)) := by
  have hj : strings_Join.f L (⟨#[32]⟩ : ByteArray) = some (ofL (Lib.join (L.map dl) [32])) := by
    have h1 := join_len L hL hw
    unfold strings_Join.f
    rw [if_pos ⟨by omega, by show (Lib.join (L.map dl) [32]).length ≤ _; omega⟩]
    rfl
  have hsz : (ofL (Lib.join (L.map dl) [32])).size ≤ 1000000 := by rw [ofL_size]; have := join_len L hL hw; omega
  refine Ev.congr (f := fun k => (lex_Words.f k (ofL (Lib.join (L.map dl) [32]))).bind fun bt253 => (if bt253.2 = 0 then ((slices_Equal_string_string.f k bt253.1 L).bind fun t257 => (if t257 = true then (some (ofL (Lib.join (L.map dl) [32]), 0)) else (some ((⟨#[]⟩ : ByteArray), 13)))) else (some ((⟨#[]⟩ : ByteArray), 13)))) (fun k => ?_) ?_
  · unfold lex_Join.f
    rw [hj]
    rfl
  · refine Ev.bind (words_is _ hsz) ?_
    cases hq : wordsOf (ofL (Lib.join (L.map dl) [32])) with
    | none => exact Ev.val (fun k => by simp)
    | some l =>
      by_cases hl : l.length ≤ 1000000
      · simp only [if_true]
        refine Ev.bind (equal_is l L hl) (Ev.val (fun k => ?_))
        by_cases he : l = L
        · simp [he]
        · simp [he]
      · exfalso
        unfold wordsOf at hq
        have hp := pieces_len (ofL (Lib.join (L.map dl) [32])).data.toList
        rw [← Lib.size_eq] at hp
        split at hq
        · split at hq
          · obtain rfl := Option.some.inj hq; simp at hl
          · split at hq
            · cases hq
            · obtain rfl := Option.some.inj hq
              rw [List.length_map] at hl
              have := join_len L hL hw
              rw [ofL_size] at hp
              omega
        · cases hq
theorem wordsOf_len (s : ByteArray) (hs : s.size ≤ 4000) (l : List ByteArray) (h : wordsOf s = some l) : l.length ≤ 1000000 := by
  unfold wordsOf at h
  have hp := pieces_len s.data.toList
  rw [← Lib.size_eq] at hp
  split at h
  · split at h
    · obtain rfl := Option.some.inj h; simp
    · split at h
      · cases h
      · obtain rfl := Option.some.inj h
        rw [List.length_map]
        omega
  · cases h
theorem awake_end : Ev (fun k => (temperalaw04_awake.f k).bind fun t => some t) true := Ev.bind awake_is (Ev.val fun _ => rfl)
theorem law_end (L : List ByteArray) (hL : L.length ≤ 30) (hw : ∀ b ∈ L, b.size ≤ 100) :
    Ev (fun k => (lex_Join.f k L).bind fun bt272 => ((temperaref04_Join.f k L).bind fun t274 => ((temperaref04_Words.f k t274).bind fun bt275 => (if bt275.2 = true then ((temperaref04_Same.f k bt275.1 L).bind fun t279 => (temperalaw04_LexWords.j3 k bt272.1 bt272.2 t274 (!t279))) else (temperalaw04_LexWords.j3 k bt272.1 bt272.2 t274 true))))) true := by
  have hjl := join_len L hL hw
  have hsz : (ofL (Lib.join (L.map dl) [32])).size ≤ 4000 := by rw [ofL_size]; omega
  refine Ev.bind (join_is L hL hw) (Ev.bind (rjoin_is L hL hw) (Ev.bind (rwords_is _ (by omega)) ?_))
  have bad : ∀ J, Ev (fun k => temperalaw04_LexWords.j3 k (⟨#[]⟩ : ByteArray) 13 J true) true := fun J =>
    Ev.step (f := fun k => (temperalaw04_awake.f k).bind fun t => some t) (fun k => by rw [temperalaw04_LexWords.j3, if_pos rfl, if_pos (by rw [ByteArray.toList_eq]), if_pos rfl]) awake_end
  cases hq : wordsOf (ofL (Lib.join (L.map dl) [32])) with
  | none => simpa using bad _
  | some l =>
    have hl := wordsOf_len _ hsz l hq
    simp only [if_true]
    refine Ev.bind (same_is l L hl) ?_
    by_cases he : l = L
    · rw [if_pos he, decide_eq_true he]
      exact Ev.step (f := fun k => (temperalaw04_awake.f k).bind fun t => some t) (fun k => by rw [temperalaw04_LexWords.j3, if_neg (by decide), if_pos rfl, if_pos rfl]) awake_end
    · rw [if_neg he, decide_eq_false he]
      exact bad _
theorem law_l0 (L : List ByteArray) (hL : L.length ≤ 30) : ∀ (d i : Nat), i + d = L.length → (∀ b ∈ L.take i, b.size ≤ 100) → Ev (fun k => temperalaw04_LexWords.l0 k L (i : Int)) true
  | 0, i, h, hw => by
    rw [List.take_of_length_le (by omega)] at hw
    refine Ev.step (fun k => ?_) (law_end L hL hw)
    rw [temperalaw04_LexWords.l0, if_neg (by omega)]
  | d + 1, i, h, hw => by
    have hlt : i < L.length := by omega
    by_cases hs : L[i].size ≤ 100
    · refine Ev.step (f := fun k => temperalaw04_LexWords.l0 k L ((i + 1 : Nat) : Int)) (fun k => ?_) (law_l0 L hL d (i + 1) (by omega) (fun b hb => ?_))
      · rw [temperalaw04_LexWords.l0, if_pos (by omega), if_pos (by omega), rdS L i hlt, if_neg (by omega), w1 i (by omega)]
      · rw [List.take_succ_eq_append_getElem hlt] at hb
        rcases List.mem_append.1 hb with q | q
        · exact hw b q
        · rw [List.mem_singleton.1 q]; exact hs
    · refine Ev.step (f := fun k => (temperalaw04_awake.f k).bind fun t => some t) (fun k => ?_) awake_end
      rw [temperalaw04_LexWords.l0, if_pos (by omega), if_pos (by omega), rdS L i hlt, if_pos (by omega)]
theorem lexWords_is (s : ByteArray) (L : List ByteArray) : Ev (fun k => temperalaw04_LexWords.f k s L) true := by
  have asleep : Ev (fun k => temperalaw04_LexWords.j0 k s L true) true :=
    Ev.step (f := fun k => (temperalaw04_awake.f k).bind fun t => some t) (fun k => by rw [temperalaw04_LexWords.j0, if_pos rfl]) awake_end
  by_cases h3 : (s.size : Int) > 300
  · refine Ev.congr (fun k => ?_) asleep
    unfold temperalaw04_LexWords.f
    rw [if_pos h3]
  · by_cases h30 : (L.length : Int) > 30
    · refine Ev.congr (fun k => ?_) asleep
      unfold temperalaw04_LexWords.f
      rw [if_neg h3, decide_eq_true h30]
    · have j1f : Ev (fun k => temperalaw04_LexWords.j1 k L false) true :=
        Ev.step (f := fun k => temperalaw04_LexWords.l0 k L ((0 : Nat) : Int)) (fun k => by rw [temperalaw04_LexWords.j1, if_neg (by decide)]; rfl) (law_l0 L (by omega) L.length 0 (by omega) (by simp))
      refine Ev.congr (f := fun k => temperalaw04_LexWords.j0 k s L false) (fun k => ?_) ?_
      · unfold temperalaw04_LexWords.f
        rw [if_neg h3, decide_eq_false h30]
      · refine Ev.step (fun k => by rw [temperalaw04_LexWords.j0, if_neg (by decide)]) ?_
        refine Ev.bind (words_is s (by omega)) (Ev.bind (rwords_is s (by omega)) ?_)
        cases hq : wordsOf s with
        | none => simpa using j1f
        | some l =>
          have hl := wordsOf_len s (by omega) l hq
          simp only [if_true]
          refine Ev.bind (same_is l l hl) ?_
          simpa using j1f
theorem lexWords_plain (s : ByteArray) (L : List ByteArray) : ∃ k, temperalaw04_LexWords.f k s L = some true := (lexWords_is s L).rounds
end Go.Proofs.YtaaibnpjajfpgaaDoor.PLex
