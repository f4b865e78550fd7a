/- Plain laws: the reference's Signs and Name against the model's decoding. -/
import Derived.Test.YtaaibnpjajfpgaaDoorLexP1
namespace Go.Proofs.YtaaibnpjajfpgaaDoor.PLex
open Go.RowKit Go.Proofs.YtaaibnpjajfpgaaDoorW.PrintWords Go.Proofs.YtaaibnpjajfpgaaDoorW.PrintLast Go.Proofs.YtaaibnpjajfpgaaDoorW.PrintMore
set_option linter.unusedVariables false
set_option linter.unusedSimpArgs false




def badAt (s : ByteArray) (pos : Nat) : Prop := (Utf8.decode s pos).1 = 65533 ∧ (Utf8.decode s pos).2 = 1
instance (s : ByteArray) (pos : Nat) : Decidable (badAt s pos) := by unfold badAt; infer_instance
def goodFrom (s : ByteArray) : Nat → Nat → Bool
  | 0, _ => true
  | b + 1, pos => if pos < s.size then (if badAt s pos then false else goodFrom s b (pos + (Utf8.decode s pos).2)) else true
theorem ext_mk (s : ByteArray) (pos : Nat) : s.extract pos s.size = ⟨(s.data.toList.drop pos).toArray⟩ := by
  have := Lib.ext_list s pos
  rw [← this]
theorem decode_tail (s : ByteArray) (pos : Nat) : Utf8.decode (s.extract pos s.size) 0 = Utf8.decode s pos := by
  rw [Lib.decode_at, Lib.decode_at, Lib.ext_size, Lib.tail_get!, Lib.tail_get!, Lib.tail_get!, Lib.tail_get!]
  simp
theorem good_valid (s : ByteArray) : ∀ (b pos : Nat), s.size ≤ pos + b → goodFrom s b pos = Lib.validD (s.data.toList.drop pos)
  | 0, pos, h => by
    rw [List.drop_of_length_le (by rw [← Lib.size_eq]; omega)]
    rfl
  | b + 1, pos, h => by
    unfold goodFrom
    by_cases hp : pos < s.size
    · have hw := Lib.decode_width_pos s pos hp
      rw [if_pos hp, Lib.validD_step _ (by intro e; have := congrArg List.length e; rw [List.length_drop, ← Lib.size_eq] at this; simp at this; omega)]
      have hd : Lib.decodeL (s.data.toList.drop pos) = Utf8.decode s pos := by
        unfold Lib.decodeL
        rw [← ext_mk, decode_tail]
      rw [hd, List.drop_drop]
      by_cases hb : badAt s pos
      · have hb' : (Utf8.decode s pos).1 = 65533 ∧ (Utf8.decode s pos).2 = 1 := hb
        rw [if_pos hb, if_pos hb']
      · have hb' : ¬ ((Utf8.decode s pos).1 = 65533 ∧ (Utf8.decode s pos).2 = 1) := hb
        rw [if_neg hb, if_neg hb', good_valid s b _ (by omega)]
    · rw [if_neg hp, List.drop_of_length_le (by rw [← Lib.size_eq]; omega)]
      rfl
theorem good_is (s : ByteArray) : goodFrom s s.size 0 = Lib.validD s.data.toList := by
  rw [good_valid s s.size 0 (by omega)]
  rfl
theorem width_le (s : ByteArray) (pos : Nat) : (Utf8.decode s pos).2 ≤ 4 := by
  rw [Lib.decode_at]
  unfold Lib.decodeN
  repeat' split
  all_goals simp
def nums2 (l : List (Nat × Nat)) : List Int := l.map fun x => (x.2 : Int)
def nums1 (l : List (Nat × Nat)) : List Int := l.map fun x => (x.1 : Int)
theorem signs_l0 (s : ByteArray) (hs : s.size ≤ 1000000) : ∀ (b pos : Nat) (o a : List Int), s.size ≤ pos + b → o.length ≤ pos → a.length ≤ pos →
    Ev (fun k => temperaref04_Signs.l0 k s o a (pos : Int)) (if goodFrom s b pos = true then (o ++ nums2 (runesFrom s b pos), a ++ nums1 (runesFrom s b pos), true) else ([], [], false))
  | 0, pos, o, a, h, ho, ha => by
    refine Ev.up (Ev.val (fun k => ?_))
    simp only [temperaref04_Signs.l0]
    rw [if_neg (by omega)]
    simp [goodFrom, runesFrom, nums1, nums2]
  | b + 1, pos, o, a, h, ho, ha => by
    by_cases hp : pos < s.size
    · have hw := Lib.decode_width_pos s pos hp
      have hf := first_is (s.extract pos s.size) (by rw [Lib.ext_size]; omega)
      rw [decode_tail] at hf
      refine Ev.step (f := fun k => (temperaref04_First.f k (s.extract pos s.size)).bind fun bt138 => (if bt138.2 = 0 then (some (([] : List Int), ([] : List Int), false)) else (if o.length < 17592186044416 then (if a.length < 17592186044416 then (temperaref04_Signs.l0 k s (o ++ [bt138.1]) (a ++ [(pos : Int)]) (wrap64 ((pos : Int) + bt138.2))) else (none)) else (none)))) (fun k => ?_) ?_
      · simp only [temperaref04_Signs.l0]
        rw [if_pos (by omega), if_pos (by omega), if_pos (by omega), show ((pos : Int)).toNat = pos by omega]
      refine Ev.bind hf ?_
      by_cases hb : badAt s pos
      · have hg : goodFrom s (b + 1) pos = false := by unfold goodFrom; rw [if_pos hp, if_pos hb]
        rw [hg, if_neg (by simp)]
        refine Ev.val (fun k => ?_)
        rw [show conv (Utf8.decode s pos) = (0, 0) from if_pos hb]
        simp
      · have hg : goodFrom s (b + 1) pos = goodFrom s b (pos + (Utf8.decode s pos).2) := by conv => lhs; unfold goodFrom; rw [if_pos hp, if_neg hb]
        have hle := width_le s pos
        rw [hg, runesFrom_step s b pos hp]
        have ih := signs_l0 s hs b (pos + (Utf8.decode s pos).2) (o ++ [((Utf8.decode s pos).1 : Int)]) (a ++ [(pos : Int)]) (by omega) (by simp; omega) (by simp; omega)
        refine Ev.congr (fun k => ?_) (g := _) (f := fun k => temperaref04_Signs.l0 k s (o ++ [((Utf8.decode s pos).1 : Int)]) (a ++ [(pos : Int)]) ((pos + (Utf8.decode s pos).2 : Nat) : Int)) ?_
        · rw [show conv (Utf8.decode s pos) = (((Utf8.decode s pos).1 : Int), ((Utf8.decode s pos).2 : Int)) from if_neg hb]
          simp only
          rw [if_neg (by omega), if_pos (by omega), if_pos (by omega), wid _ (by omega) (by omega)]
          rfl
        · simpa [nums1, nums2] using ih
    · refine Ev.up (Ev.val (fun k => ?_))
      have hg : goodFrom s (b + 1) pos = true := by unfold goodFrom; rw [if_neg hp]
      simp only [temperaref04_Signs.l0]
      rw [if_neg (by omega), hg, if_pos rfl, runesFrom_end s (b + 1) pos hp]
      simp [nums1, nums2]
theorem signs_is (s : ByteArray) (hs : s.size ≤ 1000000) : Ev (fun k => temperaref04_Signs.f k s) (if Lib.validD s.data.toList = true then (nums2 (runes s), nums1 (runes s), true) else ([], [], false)) := by
  have := signs_l0 s hs s.size 0 [] [] (by omega) (by simp) (by simp)
  rw [good_is] at this
  show Ev (fun k => temperaref04_Signs.l0 k s [] [] 0) _
  simpa [runes] using this

/-! ### Name -/
theorem okAt_iff (n c : Nat) : okAt n c = true ↔ ((97 ≤ c ∧ c ≤ 122) ∨ (65 ≤ c ∧ c ≤ 90) ∨ 192 ≤ c) ∨ (n ≠ 0 ∧ (c = 45 ∨ c = 95 ∨ (48 ≤ c ∧ c ≤ 57))) := by
  simp only [okAt, isLet, isMore, Bool.or_eq_true, Bool.and_eq_true, decide_eq_true_eq, beq_iff_eq, bne_iff_ne, ne_eq]
  omega
def allOk : Nat → List (Nat × Nat) → Bool
  | _, [] => true
  | n, x :: t => okAt n x.2 && allOk (n + 1) t
theorem rest_is : ∀ (l : List (Nat × Nat)) (n : Nat), nameRest n l = (allOk n l && (decide (1 ≤ n + l.length) && decide (n + l.length ≤ 32)))
  | [], n => by simp [nameRest, allOk]
  | x :: t, n => by
    rw [nameRest, rest_is t (n + 1), allOk, Bool.and_assoc, List.length_cons, show n + 1 + t.length = n + (t.length + 1) by omega]
theorem rd_nums (l : List (Nat × Nat)) (i : Nat) (h : i < l.length) : rd (nums2 l) (i : Int) = ((l[i]).2 : Int) := by
  simp [rd, nums2, List.getD_eq_getElem?_getD, h]
set_option maxHeartbeats 4000000 in
theorem name_step (L : List Int) (i c : Nat) (hi : i < L.length) (hc : rd L (i : Int) = (c : Int)) (hb : i ≤ 1000000) (k : Nat) :
    temperaref04_Name.l0 (k + 1) L (i : Int) = if okAt i c = true then temperaref04_Name.l0 k L ((i + 1 : Nat) : Int) else some false := by
  have hk := okAt_iff i c
  rw [temperaref04_Name.l0, if_pos (by omega), if_pos (by omega), hc, w1 i (by omega)]
  generalize temperaref04_Name.l0 k L ((i + 1 : Nat) : Int) = R
  by_cases hok : okAt i c = true
  · rw [if_pos hok]
    have := hk.mp hok
    clear hk hok
    repeat' split
    all_goals first | rfl | (exfalso; omega)
  · rw [if_neg hok]
    have := mt hk.mpr hok
    clear hk hok
    repeat' split
    all_goals first | rfl | (exfalso; omega)
theorem name_l0 (l : List (Nat × Nat)) (hl : l.length ≤ 1000000) : ∀ (d i : Nat), i + d = l.length → Ev (fun k => temperaref04_Name.l0 k (nums2 l) (i : Int)) (allOk i (l.drop i))
  | 0, i, h => by
    refine Ev.up (Ev.val (fun k => ?_))
    rw [temperaref04_Name.l0, if_neg (by simp [nums2]; omega), List.drop_of_length_le (by omega)]
    rfl
  | d + 1, i, h => by
    have hlt : i < l.length := by omega
    have ih := name_l0 l hl d (i + 1) (by omega)
    have hs := fun k => name_step (nums2 l) i (l[i]).2 (by simpa [nums2] using hlt) (rd_nums l i hlt) (by omega) k
    rw [List.drop_eq_getElem_cons hlt, allOk]
    cases hok : okAt i (l[i]).2 with
    | true =>
      refine Ev.step (fun k => by rw [hs k, if_pos hok]) ?_
      rw [Bool.true_and]
      exact ih
    | false =>
      refine Ev.up (Ev.val (fun k => ?_))
      rw [hs k, if_neg (by rw [hok]; decide), Bool.false_and]
theorem runesFrom_len (s : ByteArray) : ∀ b pos, (runesFrom s b pos).length ≤ b
  | 0, _ => by simp [runesFrom]
  | b + 1, pos => by
    have := runesFrom_len s b (pos + (Utf8.decode s pos).2)
    unfold runesFrom
    split
    · simp only [List.length_cons]; omega
    · simp
theorem name_is (s : ByteArray) (hs : s.size ≤ 1000000) : Ev (fun k => temperaref04_Name.f k s) (nameRest 0 (runes s) && Lib.validD s.data.toList) := by
  have hl : (runes s).length ≤ 1000000 := Nat.le_trans (runesFrom_len s _ _) hs
  have hr := signs_is s hs
  refine Ev.bind hr ?_
  cases hv : Lib.validD s.data.toList with
  | false =>
    rw [Bool.and_false]
    refine Ev.up (Ev.val (fun k => ?_))
    simp [temperaref04_Name.j0]
  | true =>
    rw [Bool.and_true, rest_is]
    have hn : (nums2 (runes s)).length = (runes s).length := by simp [nums2]
    simp only [if_true, hn]
    by_cases h1 : 1 ≤ 0 + (runes s).length
    · by_cases h32 : 0 + (runes s).length ≤ 32
      · rw [decide_eq_true h1, decide_eq_true h32, Bool.and_true, Bool.and_true]
        have := name_l0 (runes s) hl (runes s).length 0 (by omega)
        refine Ev.step (f := fun k => temperaref04_Name.l0 k (nums2 (runes s)) ((0 : Nat) : Int)) (fun k => ?_) this
        rw [if_neg (by omega), decide_eq_false (by omega), temperaref04_Name.j0, if_neg (by decide)]
        rfl
      · rw [decide_eq_false h32, Bool.and_false, Bool.and_false]
        refine Ev.up (Ev.val (fun k => ?_))
        rw [if_neg (by omega), decide_eq_true (by omega), temperaref04_Name.j0, if_pos rfl]
    · rw [decide_eq_false h1, Bool.false_and, Bool.and_false]
      refine Ev.up (Ev.val (fun k => ?_))
      rw [if_pos (by omega), temperaref04_Name.j0, if_pos rfl]
end Go.Proofs.YtaaibnpjajfpgaaDoor.PLex
