/- Plain laws: lex.Words and the reference's Words hand back one thing: the pieces between blanks. -/
import Derived.Test.YtaaibnpjajfpgaaDoorLexP3
import Derived.Test.YtaaibnpjajfpgaaDoorLexG
import Derived.Lib.SplitLaws
import Derived.Lib.IndexBytes
namespace Go.Proofs.YtaaibnpjajfpgaaDoor.PLex
open Go.RowKit Go.Proofs.YtaaibnpjajfpgaaDoorW.PrintWords Go.Proofs.YtaaibnpjajfpgaaDoorW.PrintLast Go.Proofs.YtaaibnpjajfpgaaDoorW.PrintMore
set_option linter.unusedVariables false
set_option linter.unusedSimpArgs false




def ofL (l : List UInt8) : ByteArray := ⟨l.toArray⟩
theorem ofL_data (l : List UInt8) : (ofL l).data.toList = l := rfl
theorem ofL_toList (l : List UInt8) : (ofL l).toList = l := ByteArray.toList_mk l
theorem ofL_of (b : ByteArray) : ofL b.data.toList = b := by cases b; simp [ofL]
theorem ofL_size (l : List UInt8) : (ofL l).size = l.length := by rw [Lib.size_eq]; rfl
theorem toList_inj {a b : ByteArray} (h : a.toList = b.toList) : a = b := by
  rw [ByteArray.toList_eq, ByteArray.toList_eq] at h
  rw [← ofL_of a, ← ofL_of b, h]
/-- The pieces between blanks. -/
def pieces : List UInt8 → List (List UInt8)
  | [] => [[]]
  | c :: t => if c = 32 then [] :: pieces t else match pieces t with
    | [] => [[c]]
    | p :: r => (c :: p) :: r
theorem pieces_none : ∀ l : List UInt8, l.count 32 = 0 → pieces l = [l]
  | [], _ => rfl
  | c :: t, h => by
    have hc : c ≠ 32 := by intro e; subst e; simp at h
    have ht : t.count 32 = 0 := by rw [List.count_cons_of_ne hc] at h; exact h
    rw [pieces, if_neg hc, pieces_none t ht]
theorem split_pieces : ∀ l : List UInt8, Lib.splitK [32] 0 (Lib.count l [32]) l = pieces l
  | [] => by simp [Lib.count_one, Lib.splitK, pieces]
  | c :: t => by
    have ih := split_pieces t
    rw [Lib.count_one] at *
    by_cases hc : c = 32
    · subst hc
      rw [List.count_cons_self, Lib.splitK, Lib.index_one]
      have : Lib.indexByte (32 :: t) 32 = 0 := by simp [Lib.indexByte]
      rw [this, if_neg (by decide), pieces, if_pos rfl]
      simpa using ih
    · rw [List.count_cons_of_ne hc, pieces, if_neg hc]
      cases hk : t.count 32 with
      | zero => rw [pieces_none t hk]; rfl
      | succ k =>
        rw [hk] at ih
        have hge := Lib.indexByte_ge t 32
        have hne : Lib.indexByte t 32 ≠ -1 := by
          intro e
          have hm : (32 : UInt8) ∈ t := List.count_pos_iff.mp (by omega)
          obtain ⟨i, hi⟩ := List.mem_iff_getElem?.mp hm
          exact Lib.indexByte_none e i hi
        have h1 : Lib.indexByte (c :: t) 32 = Lib.indexByte t 32 + 1 := by
          rw [Lib.indexByte, if_neg (by simpa using hc), if_neg (by simpa using hne)]
        rw [Lib.splitK, Lib.index_one] at ih ⊢
        rw [if_neg (by simpa using hne)] at ih
        rw [h1, if_neg (by simp; omega), ← ih]
        have e : (Lib.indexByte t 32 + 1).toNat = (Lib.indexByte t 32).toNat + 1 := by omega
        simp [e]
theorem splitB_is (s : ByteArray) : Lib.splitB ⟨#[32]⟩ 0 (Lib.countB s ⟨#[32]⟩) s = (pieces s.data.toList).map ofL := by
  have h := Lib.splitB_data ⟨#[32]⟩ 0 (Lib.countB s ⟨#[32]⟩) s
  have h2 : Lib.splitK (ByteArray.data ⟨#[32]⟩).toList 0 (Lib.countB s ⟨#[32]⟩) s.data.toList = pieces s.data.toList := split_pieces s.data.toList
  rw [h2] at h
  rw [← h, List.map_map]
  have : ∀ b ∈ Lib.splitB ⟨#[32]⟩ 0 (Lib.countB s ⟨#[32]⟩) s, (ofL ∘ fun x : ByteArray => x.data.toList) b = id b := fun b _ => ofL_of b
  rw [List.map_congr_left this, List.map_id]
/-- What both Words hand back; none: it is no line. -/
def wordsOf (s : ByteArray) : Option (List ByteArray) :=
  if lineOk (runes s) && Lib.validD s.data.toList then (if s.size = 0 then some [] else if (pieces s.data.toList).contains [] then none else some ((pieces s.data.toList).map ofL)) else none
theorem pieces_len : ∀ l : List UInt8, (pieces l).length ≤ l.length + 1
  | [] => by simp [pieces]
  | c :: t => by
    have := pieces_len t
    unfold pieces
    split
    · simp; omega
    · split
      · simp
      · rename_i p r h
        rw [h] at this
        simp at this ⊢
        omega
theorem index_ev (L : List ByteArray) (hL : L.length ≤ 1000000000000) : ∀ (d i : Nat), i + d = L.length →
    ∃ r : Int, Ev (fun k => slices_Index_string_string.l0 k L (⟨#[]⟩ : ByteArray) (L.length : Int) (i : Int)) r ∧ decide (r ≥ 0) = (L.drop i).any (fun b => b.size == 0)
  | 0, i, h => by
    refine ⟨-1, Ev.up (Ev.val (fun k => ?_)), ?_⟩
    · rw [slices_Index_string_string.l0, if_neg (by omega)]
    · rw [List.drop_of_length_le (by omega)]; rfl
  | d + 1, i, h => by
    have hlt : i < L.length := by omega
    obtain ⟨r, ih, hr2⟩ := index_ev L hL d (i + 1) (by omega)
    have hr : rdOf ByteArray.empty L (i : Int) = L[i] := by simp [rdOf, List.getD_eq_getElem?_getD, hlt]
    rw [List.drop_eq_getElem_cons hlt, List.any_cons]
    cases hz : (L[i].size == 0) with
    | true =>
      have hz' : L[i].size = 0 := by simpa using hz
      refine ⟨(i : Int), Ev.up (Ev.val (fun k => ?_)), ?_⟩
      · rw [slices_Index_string_string.l0, if_pos (by omega), if_pos (by omega), if_pos (by omega), hr, if_pos (by rw [ByteArray.toList_eq, ByteArray.toList_eq]; rw [Lib.size_eq] at hz'; rw [List.eq_nil_of_length_eq_zero hz'])]
      · rw [Bool.true_or]; exact decide_eq_true (by omega)
    | false =>
      have hz' : ¬ L[i].size = 0 := by simpa using hz
      refine ⟨r, Ev.step (f := fun k => slices_Index_string_string.l0 k L (⟨#[]⟩ : ByteArray) (L.length : Int) ((i + 1 : Nat) : Int)) (fun k => ?_) ih, ?_⟩
      · rw [slices_Index_string_string.l0, if_pos (by omega), if_pos (by omega), if_pos (by omega), hr, if_neg (fun e => hz' ?_), w1 i (by omega)]
        rw [ByteArray.toList_eq, ByteArray.toList_eq] at e
        rw [Lib.size_eq, ← e]
        rfl
      · rw [Bool.false_or]; exact hr2
theorem contains_ev (L : List ByteArray) (hL : L.length ≤ 1000000000000) : Ev (fun k => slices_Contains_string_string.f k L (⟨#[]⟩ : ByteArray)) (L.any fun b => b.size == 0) := by
  obtain ⟨r, h, hr⟩ := index_ev L hL L.length 0 (by omega)
  refine Ev.bind h (Ev.val (fun k => ?_))
  rw [hr]
  rfl
theorem words_is (s : ByteArray) (hs : s.size ≤ 1000000) : Ev (fun k => lex_Words.f k s) (match wordsOf s with | some l => (l, 0) | none => ([], 13)) := by
  have hl : lex_line.f s = some (lineOk (runes s) && Lib.validD s.data.toList) := by unfold lex_line.f; rw [if_pos (by omega)]
  unfold wordsOf
  cases hok : (lineOk (runes s) && Lib.validD s.data.toList) with
  | false =>
    rw [hok] at hl
    refine Ev.val (fun k => ?_)
    unfold lex_Words.f
    rw [hl]
    simp
  | true =>
    rw [hok] at hl
    by_cases hz : s.size = 0
    · refine Ev.val (fun k => ?_)
      unfold lex_Words.f
      rw [hl]
      simp only [Option.bind_some, if_true, hz]
      rw [if_pos (by rw [ByteArray.toList_eq]; rw [Lib.size_eq] at hz; exact List.eq_nil_of_length_eq_zero hz)]
    · have hsp : strings_Split.f s (⟨#[32]⟩ : ByteArray) = some ((pieces s.data.toList).map ofL) := by
        unfold strings_Split.f
        rw [if_pos ⟨by omega, by decide⟩, splitB_is]
      have hlen := pieces_len s.data.toList
      rw [← Lib.size_eq] at hlen
      have hc := contains_ev ((pieces s.data.toList).map ofL) (by rw [List.length_map]; omega)
      refine Ev.congr (f := fun k => (slices_Contains_string_string.f k ((pieces s.data.toList).map ofL) (⟨#[]⟩ : ByteArray)).bind fun t110 => (if t110 = true then (some (([] : List ByteArray), 13)) else (some ((pieces s.data.toList).map ofL, 0)))) (fun k => ?_) (Ev.bind hc (Ev.val fun k => ?_))
      · unfold lex_Words.f
        rw [hl, hsp]
        simp only [Option.bind_some, if_true]
        rw [if_neg (fun e => hz (by rw [ByteArray.toList_eq] at e; rw [Lib.size_eq, e]; rfl))]
      · have he : (((pieces s.data.toList).map ofL).any fun b => b.size == 0) = (pieces s.data.toList).contains [] := by
          rw [List.any_map, List.contains_eq_any_beq]
          congr 1
          funext p
          show ((ofL p).size == 0) = ([] == p)
          rw [ofL_size]
          cases p <;> simp
        rw [he]
        simp only [if_true, hz, if_false]
        split
        · rfl
        · rfl
end Go.Proofs.YtaaibnpjajfpgaaDoor.PLex
