/- Plain laws: lex.Text; the law LexSigns answers true. -/
import Derived.Test.YtaaibnpjajfpgaaDoorLexP7
import Derived.Test.YtaaibnpjajfpgaaDoorLexF
namespace Go.Proofs.YtaaibnpjajfpgaaDoor.PLex
open Go.RowKit Go.Proofs.YtaaibnpjajfpgaaDoorW.PrintWords Go.Proofs.YtaaibnpjajfpgaaDoorW.PrintLast Go.Proofs.YtaaibnpjajfpgaaDoorW.PrintMore
set_option linter.unusedVariables false
set_option linter.unusedSimpArgs false




theorem rdN (l : List Int) (i : Nat) (h : i < l.length) : rd l (i : Int) = l[i] := by simp [rd, List.getD_eq_getElem?_getD, h]
theorem awake_end2 : Ev (fun k => (temperalaw04_awake.f k).bind fun t => some t) true := Ev.bind awake_is (Ev.val fun _ => rfl)
theorem alike_l0 (a b : List Int) (hl : a.length = b.length) (hb : a.length ≤ 1000000) : ∀ (d i : Nat), i + d = a.length → Ev (fun k => temperaref04_Alike.l0 k a b (i : Int)) (decide (a.drop i = b.drop i))
  | 0, i, h => by
    refine Ev.up (Ev.val (fun k => ?_))
    rw [temperaref04_Alike.l0, if_neg (by omega), List.drop_of_length_le (by omega), List.drop_of_length_le (by omega)]
    simp
  | d + 1, i, h => by
    have h1 : i < a.length := by omega
    have h2 : i < b.length := by omega
    have ih := alike_l0 a b hl hb d (i + 1) (by omega)
    rw [List.drop_eq_getElem_cons h1, List.drop_eq_getElem_cons h2]
    by_cases he : a[i] = b[i]
    · refine Ev.step (f := fun k => temperaref04_Alike.l0 k a b ((i + 1 : Nat) : Int)) (fun k => ?_) ?_
      · rw [temperaref04_Alike.l0, if_pos (by omega), if_pos (by omega), if_pos (by omega), rdN a i h1, rdN b i h2, if_pos he, w1 i (by omega)]
      · have : decide (a[i] :: a.drop (i + 1) = b[i] :: b.drop (i + 1)) = decide (a.drop (i + 1) = b.drop (i + 1)) := by
          rw [he]
          refine decide_eq_decide.mpr ?_
          simp only [List.cons.injEq, true_and]
        rw [this]; exact ih
    · refine Ev.up (Ev.val (fun k => ?_))
      rw [temperaref04_Alike.l0, if_pos (by omega), if_pos (by omega), if_pos (by omega), rdN a i h1, rdN b i h2, if_neg he]
      exact congrArg some (decide_eq_false (fun e => he (List.cons.inj e).1)).symm
theorem alike_is (a : List Int) (hb : a.length ≤ 1000000) : Ev (fun k => temperaref04_Alike.f k a a) true := by
  refine Ev.congr (f := fun k => temperaref04_Alike.l0 k a a ((0 : Nat) : Int)) (fun k => ?_) (by simpa using alike_l0 a a rfl hb a.length 0 (by omega))
  unfold temperaref04_Alike.f
  rw [if_pos rfl]
  rfl
def layAll (l : List Int) : List Int := l.flatMap layI
theorem layI_len (c : Int) : (layI c).length ≤ 4 := by
  unfold layI layN
  rw [List.length_map]
  repeat' split
  all_goals simp
theorem text_l0 (L : List Int) (hL : L.length ≤ 100000) : ∀ (d i : Nat) (acc : List Int), i + d = L.length → acc.length ≤ i * 4 →
    Ev (fun k => lex_Text.l0 k acc L (L.length : Int) (i : Int)) (if (L.drop i).all (fun c => decide (isSign c)) = true then (strOfNums (acc ++ layAll (L.drop i)), 0) else ((⟨#[]⟩ : ByteArray), 6))
  | 0, i, acc, h, ha => by
    refine Ev.up (Ev.val (fun k => ?_))
    rw [lex_Text.l0, if_neg (by omega), List.drop_of_length_le (by omega)]
    simp [layAll]
  | d + 1, i, acc, h, ha => by
    have hlt : i < L.length := by omega
    have hll := layI_len L[i]
    rw [List.drop_eq_getElem_cons hlt, List.all_cons]
    by_cases hs : isSign L[i]
    · have hs' := hs
      obtain ⟨s1, s2, s3⟩ := hs'
      rw [decide_eq_true hs, Bool.true_and]
      refine Ev.step (f := fun k => (utf8_ValidRune.f k (wrap32 L[i])).bind fun t197 => (if t197 = true then ((utf8_AppendRune.f k acc (wrap32 L[i])).bind fun t198 => (lex_Text.l0 k t198 L (L.length : Int) ((i + 1 : Nat) : Int))) else (some ((⟨#[]⟩ : ByteArray), 6)))) (fun k => ?_) ?_
      · rw [lex_Text.l0, if_pos (by omega), if_pos (by omega), if_pos (by omega), rdN L i hlt, if_neg (by omega), if_neg (by omega), w1 i (by omega)]
      · refine Ev.bind (vrune L[i] s1 s2) ?_
        rw [decide_eq_true hs]
        simp only [if_true]
        refine Ev.bind (arune acc L[i] hs (by omega)) ?_
        have ih := text_l0 L hL d (i + 1) (acc ++ layI L[i]) (by omega) (by rw [List.length_append]; omega)
        have e : acc ++ layAll (L[i] :: L.drop (i + 1)) = acc ++ layI L[i] ++ layAll (L.drop (i + 1)) := by simp only [layAll, List.flatMap_cons, List.append_assoc]
        rw [e]
        exact ih
    · rw [decide_eq_false hs, Bool.false_and, if_neg (by decide)]
      by_cases h0 : L[i] < 0
      · refine Ev.up (Ev.val (fun k => ?_))
        rw [lex_Text.l0, if_pos (by omega), if_pos (by omega), if_pos (by omega), rdN L i hlt, if_pos h0]
      · by_cases hm : L[i] > 1114111
        · refine Ev.up (Ev.val (fun k => ?_))
          rw [lex_Text.l0, if_pos (by omega), if_pos (by omega), if_pos (by omega), rdN L i hlt, if_neg h0, if_pos hm]
        · refine Ev.step (f := fun k => (utf8_ValidRune.f k (wrap32 L[i])).bind fun t197 => (if t197 = true then ((utf8_AppendRune.f k acc (wrap32 L[i])).bind fun t198 => (lex_Text.l0 k t198 L (L.length : Int) ((i + 1 : Nat) : Int))) else (some ((⟨#[]⟩ : ByteArray), 6)))) (fun k => ?_) ?_
          · rw [lex_Text.l0, if_pos (by omega), if_pos (by omega), if_pos (by omega), rdN L i hlt, if_neg (by omega), if_neg (by omega), w1 i (by omega)]
          · refine Ev.bind (vrune L[i] (by omega) (by omega)) ?_
            rw [decide_eq_false hs]
            exact Ev.val (fun k => by simp)
def allSign (L : List Int) : Bool := L.all fun c => decide (isSign c)
theorem text_is (L : List Int) (hL : L.length ≤ 100000) : Ev (fun k => lex_Text.f k L) (if allSign L = true then (strOfNums (layAll L), 0) else ((⟨#[]⟩ : ByteArray), 6)) := by
  have := text_l0 L hL L.length 0 [] (by omega) (by simp)
  exact this

theorem width_room (s : ByteArray) (pos : Nat) (h : pos < s.size) : pos + (Utf8.decode s pos).2 ≤ s.size := by
  rw [Lib.decode_at]
  unfold Lib.decodeN
  repeat' split
  all_goals (simp only; omega)
theorem runes_spell (s : ByteArray) : ∀ b pos, s.size ≤ pos + b → goodFrom s b pos = true → layAll (nums2 (runesFrom s b pos)) = ((s.data.toList.drop pos).map fun u => (u.toNat : Int)) ∧ allSign (nums2 (runesFrom s b pos)) = true
  | 0, pos, h, _ => by
    rw [List.drop_of_length_le (by rw [← Lib.size_eq]; omega)]
    simp [runesFrom, nums2, layAll, allSign]
  | b + 1, pos, h, hg => by
    by_cases hp : pos < s.size
    · have hnb : ¬ badAt s pos := by
        intro q
        unfold goodFrom at hg
        rw [if_pos hp, if_pos q] at hg
        cases hg
      have hg' : goodFrom s b (pos + (Utf8.decode s pos).2) = true := by
        unfold goodFrom at hg
        rw [if_pos hp, if_neg hnb] at hg
        exact hg
      have hw := Lib.decode_width_pos s pos hp
      have hr := width_room s pos hp
      obtain ⟨ih1, ih2⟩ := runes_spell s b (pos + (Utf8.decode s pos).2) (by omega) hg'
      have hk := dec_okN (s.extract pos s.size) (by rw [Lib.ext_size]; omega) (by unfold badAt; rw [decode_tail]; exact hnb)
      rw [decode_tail] at hk
      obtain ⟨hs, hl⟩ := hk
      have ht := take_B (s.extract pos s.size) (Utf8.decode s pos).2 (by rw [Lib.ext_size]; omega)
      rw [Lib.ext_list] at ht
      rw [runesFrom_step s b pos hp]
      constructor
      · have e : layAll (nums2 ((pos, (Utf8.decode s pos).1) :: runesFrom s b (pos + (Utf8.decode s pos).2))) = layI ((Utf8.decode s pos).1 : Int) ++ layAll (nums2 (runesFrom s b (pos + (Utf8.decode s pos).2))) := by
          simp only [layAll, nums2, List.map_cons, List.flatMap_cons]
        rw [e, ih1]
        unfold layI
        rw [hl, ← ht, ← List.drop_drop, List.map_map]
        conv => rhs; rw [← List.take_append_drop (Utf8.decode s pos).2 (s.data.toList.drop pos), List.map_append]
        rfl
      · have e : allSign (nums2 ((pos, (Utf8.decode s pos).1) :: runesFrom s b (pos + (Utf8.decode s pos).2))) = (decide (isSign ((Utf8.decode s pos).1 : Int)) && allSign (nums2 (runesFrom s b (pos + (Utf8.decode s pos).2)))) := by
          simp only [allSign, nums2, List.map_cons, List.all_cons]
        rw [e, ih2, Bool.and_true]
        exact decide_eq_true hs
    · rw [runesFrom_end s (b + 1) pos hp, List.drop_of_length_le (by rw [← Lib.size_eq]; omega)]
      simp [nums2, layAll, allSign]
theorem spell_all (s : ByteArray) (hv : Lib.validD s.data.toList = true) : strOfNums (layAll (nums2 (runes s))) = s ∧ allSign (nums2 (runes s)) = true := by
  obtain ⟨h1, h2⟩ := runes_spell s s.size 0 (by omega) (by rw [good_is]; exact hv)
  refine ⟨?_, h2⟩
  apply toList_inj
  rw [ByteArray.toList_eq, ByteArray.toList_eq, strOfNums_data]
  show (layAll (nums2 (runesFrom s s.size 0))).map _ = _
  rw [h1, List.map_map, List.drop_zero]
  have : ∀ u ∈ s.data.toList, ((fun n : Int => UInt8.ofNat n.toNat) ∘ fun u : UInt8 => (u.toNat : Int)) u = id u := fun u _ => by simp
  rw [List.map_congr_left this, List.map_id]
theorem nums_append (a b : List Int) : strOfNums (a ++ b) = strOfNums a ++ strOfNums b := by
  apply toList_inj
  rw [ByteArray.toList_eq, ByteArray.toList_eq]
  simp [strOfNums]
theorem lay_f (c : Int) (hs : isSign c) : temperaref04_Lay.f c = some (layI c) := by
  obtain ⟨h1, h2, _⟩ := hs
  have h := lay_is c.toNat (by omega)
  rw [show ((c.toNat : Nat) : Int) = c by omega] at h
  exact h
theorem layAll_len : ∀ l : List Int, (layAll l).length ≤ l.length * 4
  | [] => by simp [layAll]
  | c :: t => by
    have h1 := layI_len c
    have h2 := layAll_len t
    simp only [layAll, List.flatMap_cons, List.length_append, List.length_cons] at h2 ⊢
    omega
theorem sign_f (c : Int) : temperaref04_Sign.f c = some (decide (isSign c)) := by
  rw [sign_is]
  exact congrArg some (decide_eq_decide.mpr Iff.rfl)
theorem law_l0 (L : List Int) (hL : L.length ≤ 100) : ∀ (d i : Nat), i + d = L.length → allSign (L.take i) = true →
    Ev (fun k => temperalaw04_LexSigns.l0 k L (if allSign L = true then (strOfNums (layAll L), (0 : Int)) else ((⟨#[]⟩ : ByteArray), 6)).1 (if allSign L = true then (strOfNums (layAll L), (0 : Int)) else ((⟨#[]⟩ : ByteArray), 6)).2 (strOfNums (layAll (L.take i))) (i : Int)) true
  | 0, i, h, hg => by
    rw [List.take_of_length_le (by omega)] at hg ⊢
    rw [if_pos hg]
    exact Ev.step (f := fun k => (temperalaw04_awake.f k).bind fun t => some t) (fun k => by rw [temperalaw04_LexSigns.l0, if_neg (by omega), if_pos rfl, if_pos rfl]) awake_end2
  | d + 1, i, h, hg => by
    have hlt : i < L.length := by omega
    by_cases hs : isSign L[i]
    · have hg2 : allSign (L.take (i + 1)) = true := by
        unfold allSign at hg ⊢
        rw [List.take_succ_eq_append_getElem hlt, List.all_append, hg, Bool.true_and]
        simp [hs]
      have ih := law_l0 L hL d (i + 1) (by omega) hg2
      have hln := layAll_len (L.take i)
      have hli := layI_len L[i]
      rw [List.length_take] at hln
      refine Ev.step (fun k => ?_) ih
      have e : strOfNums (layAll (L.take (i + 1))) = strOfNums (layAll (L.take i)) ++ strOfNums (layI L[i]) := by
        rw [← nums_append, List.take_succ_eq_append_getElem hlt]
        simp only [layAll, List.flatMap_append, List.flatMap_cons, List.flatMap_nil, List.append_nil]
      rw [temperalaw04_LexSigns.l0, if_pos (by omega), if_pos (by omega), rdN L i hlt, sign_f, e]
      simp only [Option.bind_some]
      rw [if_pos (decide_eq_true hs), lay_f L[i] hs]
      simp only [Option.bind_some]
      rw [if_pos (by rw [strOfNums_size, strOfNums_size]; omega), w1 i (by omega)]
    · have hall : ¬ allSign L = true := by
        intro q
        exact hs (by simpa using List.all_eq_true.mp q L[i] (List.getElem_mem hlt))
      rw [if_neg hall]
      refine Ev.step (f := fun k => (temperalaw04_awake.f k).bind fun t => some t) (fun k => ?_) awake_end2
      rw [temperalaw04_LexSigns.l0, if_pos (by omega), if_pos (by omega), rdN L i hlt, sign_f]
      simp only [Option.bind_some]
      rw [if_neg (by rw [decide_eq_false hs]; decide), if_pos (by rw [ByteArray.toList_eq])]
      first | rw [if_pos trivial] | rw [if_pos rfl] | rfl
theorem j2_is (L : List Int) (hL : L.length ≤ 100) : Ev (fun k => temperalaw04_LexSigns.j2 k L) true := by
  refine Ev.step (fun k => by rw [temperalaw04_LexSigns.j2]) (Ev.bind (text_is L (by omega)) ?_)
  have := law_l0 L hL L.length 0 (by omega) (by simp [allSign])
  exact this
theorem lexSigns_is (s : ByteArray) (L : List Int) : Ev (fun k => temperalaw04_LexSigns.f k s L) true := by
  have asleep : Ev (fun k => temperalaw04_LexSigns.j0 k s L true) true :=
    Ev.step (f := fun k => (temperalaw04_awake.f k).bind fun t => some t) (fun k => by rw [temperalaw04_LexSigns.j0, if_pos rfl]) awake_end2
  by_cases h3 : (s.size : Int) > 300
  · refine Ev.congr (fun k => ?_) asleep
    unfold temperalaw04_LexSigns.f
    rw [if_pos h3]
  · by_cases h30 : (L.length : Int) > 100
    · refine Ev.congr (fun k => ?_) asleep
      unfold temperalaw04_LexSigns.f
      rw [if_neg h3, decide_eq_true h30]
    · have hlen : (runes s).length ≤ 1000000 := Nat.le_trans (runesFrom_len s _ _) (by omega)
      have hlen3 : (runes s).length ≤ 100000 := Nat.le_trans (runesFrom_len s _ _) (by omega)
      have hj2 := j2_is L (by omega)
      refine Ev.congr (f := fun k => temperalaw04_LexSigns.j0 k s L false) (fun k => ?_) ?_
      · unfold temperalaw04_LexSigns.f
        rw [if_neg h3, decide_eq_false h30]
      · refine Ev.step (fun k => by rw [temperalaw04_LexSigns.j0, if_neg (by decide)]) ?_
        have hR : lex_Right.f s = some (Lib.validD s.data.toList) := by unfold lex_Right.f utf8_ValidString.f; rw [if_pos (by omega)]; rfl
        have hS : lex_Signs.f s = some (if Lib.validD s.data.toList = true then nums2 (runes s) else []) := by unfold lex_Signs.f; rw [if_pos (by omega)]
        have hP : lex_Places.f s = some (if Lib.validD s.data.toList = true then nums1 (runes s) else []) := by unfold lex_Places.f; rw [if_pos (by omega)]
        refine Ev.bind (signs_is s (by omega)) ?_
        rw [hR, hS, hP]
        cases hv : Lib.validD s.data.toList with
        | false =>
          simp only [Option.bind_some, Bool.false_eq_true, if_false, bne_self_eq_false]
          refine Ev.bind (alike_is [] (by simp)) ?_
          simp only [if_true]
          refine Ev.bind (alike_is [] (by simp)) ?_
          refine Ev.step (fun k => by rw [temperalaw04_LexSigns.j1, if_neg (by decide), if_neg (by decide)]) hj2
        | true =>
          obtain ⟨sp1, sp2⟩ := spell_all s hv
          simp only [Option.bind_some, if_true, Bool.false_eq_true, if_false, bne_self_eq_false]
          refine Ev.bind (alike_is (nums2 (runes s)) (by simpa [nums2] using hlen)) ?_
          simp only [if_true]
          refine Ev.bind (alike_is (nums1 (runes s)) (by simpa [nums1] using hlen)) ?_
          refine Ev.step (f := fun k => (lex_Text.f k (nums2 (runes s))).bind fun bt221 => (if bt221.1.toList = s.toList then (if bt221.2 = 0 then (temperalaw04_LexSigns.j2 k L) else (some false)) else (some false))) (fun k => by rw [temperalaw04_LexSigns.j1, if_neg (by decide), if_pos rfl, hS, hv]; rfl) ?_
          refine Ev.bind (text_is (nums2 (runes s)) (by simpa [nums2] using hlen3)) ?_
          rw [if_pos sp2]
          simp only [sp1, if_true]
          exact hj2
theorem lexSigns_plain (s : ByteArray) (L : List Int) : ∃ k, temperalaw04_LexSigns.f k s L = some true := (lexSigns_is s L).rounds
end Go.Proofs.YtaaibnpjajfpgaaDoor.PLex
