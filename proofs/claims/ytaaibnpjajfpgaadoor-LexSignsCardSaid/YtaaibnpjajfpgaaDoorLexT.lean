/- The two tables of utf8 and bytealg's number, as a premise that is carried; the library's contracts in the printer's form: ValidString, Split, Join. -/
import Derived.Test.YtaaibnpjajfpgaaDoorPLexx0
import Derived.Test.YtaaibnpjajfpgaaDoorShelf
namespace Go.Proofs.YtaaibnpjajfpgaaDoor.PLex
open Go.RowKit Go.Proofs.YtaaibnpjajfpgaaDoorW.PrintWords Go.Proofs.YtaaibnpjajfpgaaDoorW.PrintLast Go.Proofs.YtaaibnpjajfpgaaDoorW.PrintMore
attribute [local go_sem] max2_int min2_int max_two min_two max_three min_three max_four min_four   -- for this text's walks alone
set_option linter.unusedVariables false
set_option linter.unusedSimpArgs false




/-- The tables hold. -/
def Tabs (w : World) : Prop := Lib.Utf8Tabs 0 1 w ∧ ∃ m, w.cell? ⟨2, 0, none⟩ = some (.int .i64 m)
theorem cell_lt {w : World} {p : Addr} {v : Value} (h : w.cell? p = some v) : p.block < w.heap.size := by
  by_cases hp : p.block < w.heap.size
  · exact hp
  · have : w.heap[p.block]? = none := Array.getElem?_eq_none (by omega)
    simp [World.cell?, this] at h
theorem tabs_up {w w1 : World} (h : Tabs w) (hb : Below w.heap.size w w1) : Tabs w1 := by
  have up : ∀ {p : Addr} {v : Value}, w.cell? p = some v → w1.cell? p = some v := fun hc => (hb.cell (cell_lt hc)).trans hc
  obtain ⟨⟨h1, h2⟩, m, h3⟩ := h
  exact ⟨⟨fun c hc => up (h1 c hc), fun i hi => ⟨up (h2 i hi).1, up (h2 i hi).2⟩⟩, m, up h3⟩

def utf8_ValidString.f (a0 : ByteArray) : Option Bool := if a0.size ≤ 9223372036854775807 then some (Lib.validD a0.data.toList) else none
theorem utf8_ValidString.calls (a0 : ByteArray) (r : Bool) (w : World) (hT : Tabs w) (h : utf8_ValidString.f a0 = some r) :
    Calls Tryd.prog 24 #[.string a0] w fun e w' => e = .returned (.bool r) ∧ Below w.heap.size w w' := by
  unfold utf8_ValidString.f at h
  split at h
  · rename_i hs
    obtain rfl := Option.some.inj h
    exact Tryd.utf8_ValidString a0 w hs hT.1
  · cases h

theorem reps_strings (w : World) (base : Nat) (ok : Nat → Prop) (xs : List ByteArray) : Reps (Kd.M Kd.string w base ok) Kd.string.sz xs (xs.map Value.string) := by
  refine ⟨by show _ = _ * 1; simp, fun j p hj => ?_⟩
  show ((xs.map Value.string).drop (j * 1)).take 1 = [Value.string p]
  obtain ⟨hl, he⟩ := List.getElem?_eq_some_iff.1 hj
  rw [Nat.mul_one, List.drop_eq_getElem_cons (by simpa using hl)]
  simp [he]

def strings_Split.f (a0 : ByteArray) (a1 : ByteArray) : Option (List ByteArray) := if a0.size < 4294967281 ∧ 1 ≤ a1.size then some (Lib.splitB a1 0 (Lib.countB a0 a1) a0) else none
theorem strings_Split.calls (a0 : ByteArray) (a1 : ByteArray) (r : List ByteArray) (w : World) (hT : Tabs w) (h : strings_Split.f a0 a1 = some r) :
    Calls Tryd.prog 28 #[.string a0, .string a1] w fun e w' => ∃ v0_ : Value, e = .returned (v0_) ∧ Kd.R Kd.string 9 w' w.heap.size (fun _ => True) v0_ r ∧ Below w.heap.size w w' := by
  unfold strings_Split.f at h
  split at h
  · rename_i hs
    obtain rfl := Option.some.inj h
    obtain ⟨hs, h1⟩ := hs
    obtain ⟨m, hm⟩ := hT.2
    refine (Tryd.strings_Split a0 a1 m w hs hm h1).mono ?_
    rintro e w' ⟨rfl, rfl⟩
    have hl := Lib.splitB_all a1 h1 0 (Lib.countB a0 a1) a0 rfl
    have hc := Lib.countB_le a1 h1 a0.size a0 (Nat.le_refl _)
    have hb := below_alloc (Below.refl w.heap.size w) (.cells ((Lib.splitB a1 0 (Lib.countB a0 a1) a0).map Value.string).toArray 9)
    rw [← hl]
    refine ⟨_, rfl, ⟨fun _ _ => trivial, (Lib.splitB a1 0 (Lib.countB a0 a1) a0).map Value.string, ?_, reps_strings _ _ _ _⟩, hb⟩
    have h2 := World.ownsRow_lit (base := w.heap.size) (e := 9) (size := Kd.string.sz) w ((Lib.splitB a1 0 (Lib.countB a0 a1) a0).map Value.string).toArray (Lib.splitB a1 0 (Lib.countB a0 a1) a0).length (Nat.le_refl _) (by rw [hl]; unfold maxLen; omega) (by show _ = _ * 1; simp)
    simpa using h2
  · cases h

def strings_Join.f (l0 : List ByteArray) (a1 : ByteArray) : Option ByteArray := if l0.length ≤ 140737488355328 ∧ (Lib.join (l0.map (·.data.toList)) a1.data.toList).length ≤ 140737488355328 then some ⟨(Lib.join (l0.map (·.data.toList)) a1.data.toList).toArray⟩ else none
theorem strings_Join.calls (A0 : Option Addr) (c0 : Nat) (l0 : List ByteArray) (a1 : ByteArray) (r : ByteArray) (w : World) (hr0 : Kd.C Kd.string w A0 l0.length l0) (hc0 : l0.length ≤ c0) (h : strings_Join.f l0 a1 = some r) :
    Calls Tryd.prog 30 #[.slice A0 l0.length c0, .string a1] w fun e w' => e = .returned (.string r) ∧ Below w.heap.size w w' := by
  unfold strings_Join.f at h
  split at h
  · rename_i hs
    obtain rfl := Option.some.inj h
    obtain ⟨hn, hlen⟩ := hs
    obtain ⟨_, _, h3⟩ := hr0
    cases l0 with
    | nil =>
      refine (Tryd.strings_Join_none A0 c0 a1 w).mono ?_
      rintro e w' ⟨rfl, rfl⟩
      exact ⟨rfl, Below.refl _ _⟩
    | cons x t =>
      obtain ⟨ad, rfl, hcell⟩ := h3 (by simp)
      have hc1 : ∀ (j : Nat) y, (x :: t)[j]? = some y → w.cell? (ad.add j) = some (.string y) := by
        intro j y hj
        obtain ⟨c, _, rfl, hu⟩ := hcell j y hj
        have := hu 0 (.string y) rfl
        rwa [show j * Kd.string.sz + 0 = j from Nat.mul_one j] at this
      have h0 := hc1 0 x rfl
      have h0' : w.cell? ad = some (.string x) := by simpa [Addr.add] using h0
      obtain ⟨bk, o, sp⟩ := ad
      obtain rfl : sp = none := by
        cases sp with
        | none => rfl
        | some z => exfalso; unfold World.cell? at h0'; split at h0' <;> simp at h0'
      refine (Tryd.strings_Join bk o c0 (x :: t) a1 w (fun j y hj => ?_) (cell_lt h0') hn hc0 hlen).mono ?_
      · have := hc1 j y hj
        by_cases hz : j = 0
        · subst hz; simpa [Addr.add] using this
        · simpa [Addr.add, hz] using this
      · rintro e w' ⟨rfl, hb⟩
        exact ⟨rfl, hb⟩
  · cases h
end Go.Proofs.YtaaibnpjajfpgaaDoor.PLex
