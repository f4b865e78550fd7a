/- What the reading of an argument gives: its content, cell by cell, and its bounds. -/
import Derived.Test.YtaaibnpjajfpgaaDoorWMore
import Derived.Deep.Slices
import Derived.ChangeSame
namespace Go.Proofs.YtaaibnpjajfpgaaDoorW.PrintWords
open Go.RowKit
/-- A number of its kind. -/
def inKind (k : IntKind) (n : Int) : Prop := (Lit.int k n).wf = true
def strOk (s : ByteArray) : Prop := s.size ≤ maxLen
def rowOk {α : Type} (g : α → Prop) (xs : List α) : Prop := xs.length ≤ maxLen ∧ ∀ x, x ∈ xs → g x
theorem inKind_i64 {n : Int} (h : inKind .i64 n) : -9223372036854775808 ≤ n ∧ n ≤ 9223372036854775807 := by
  simpa [inKind, Lit.wf, IntKind.min, IntKind.max, IntKind.signed, IntKind.bits] using h
theorem inKind_u8 {n : Int} (h : inKind .u8 n) : 0 ≤ n ∧ n ≤ 255 := by
  simpa [inKind, Lit.wf, IntKind.min, IntKind.max, IntKind.signed, IntKind.bits] using h
/-- Whatever reads as data of the type t is of the kind d. -/
def Opens (P : Program) {α : Type} (d : Kd α) (g : α → Prop) (t : TypeId) : Prop :=
  ∀ {H : Type} {enc : TypeId × Value → H} {w : World} {base : Nat} {spare : Nat → Bool} {held : Bool} {fuel : Nat} {cs : List Value} {x : DataW H × List MemPlace}, DataW.trod enc P w base spare held fuel t cs = some x → ∃ a, d.K w a cs ∧ g a
section
variable {P : Program} {t : TypeId}
theorem op_int {k : IntKind} (ht : P.underlying t = some (.int k)) : Opens P (Kd.int k) (inKind k) t := by
  intro H enc w base spare held fuel cs x h
  obtain ⟨n, rfl, _, hw⟩ := DataW.trod_int ht h
  exact ⟨n, rfl, hw⟩
theorem op_bool (ht : P.underlying t = some .bool) : Opens P Kd.bool (fun _ => True) t := by
  intro H enc w base spare held fuel cs x h
  obtain ⟨n, rfl, _⟩ := DataW.trod_bool ht h
  exact ⟨n, rfl, trivial⟩
theorem op_string (ht : P.underlying t = some .string) : Opens P Kd.string strOk t := by
  intro H enc w base spare held fuel cs x h
  obtain ⟨s, rfl, _, hs⟩ := DataW.trod_string ht h
  exact ⟨s, rfl, hs⟩
theorem op_slice {α : Type} {d : Kd α} {g : α → Prop} {e : TypeId} (ht : P.underlying t = some (.slice e)) (hc : P.cellsOf e = d.sz) (he : Opens P d g e) : Opens P (Kd.slice e d) (rowOk g) t := by
  intro H enc w base spare held fuel cs x h
  rcases Go.Deep.open_slice ht h with ⟨rfl, _⟩ | ⟨a, len, cap, m, n, D, Pl, rfl, hb, hl, hm, hmm, _, hx⟩
  · exact ⟨[], ⟨none, 0, rfl, Nat.le_refl _, rfl, by simp, fun h => absurd h (by simp)⟩, by simp [maxLen], fun x hx => by cases hx⟩
  · have hlm : len ≤ m := by rw [hmm]; split <;> omega
    have hel : ∀ i, i < len → ∃ y : α, (∃ c, c.length = d.sz ∧ d.K w y c ∧ ∀ j u, c[j]? = some u → w.cell? (a.add (i * d.sz + j)) = some u) ∧ g y := by
      intro i hi
      obtain ⟨cs', h1, h2⟩ := hx i (by omega)
      obtain ⟨y, hK, hg⟩ := he h2
      obtain ⟨_, hlen, hcell⟩ := World.cells?_some h1
      rw [hc] at hlen hcell
      refine ⟨y, ⟨cs', hlen, hK, fun j u hu => ?_⟩, hg⟩
      have hj : j < d.sz := by rw [← hlen]; exact (List.getElem?_eq_some_iff.1 hu).1
      have := hcell j hj
      rw [Go.Deep.add_add] at this
      rw [this, hu]
    by_cases h0 : len = 0
    · subst h0
      exact ⟨[], ⟨some a, cap, rfl, Nat.zero_le _, rfl, by simp, fun h => absurd h (by simp)⟩, by simp [maxLen], fun x hx => by cases hx⟩
    · obtain ⟨y0, _⟩ := hel 0 (by omega)
      haveI : Inhabited α := ⟨y0⟩
      obtain ⟨f, hf⟩ := Go.Deep.choose_lt hel
      have hll : ((List.range len).map f).length = len := by simp
      have hm2 : cap ≤ 9223372036854775807 := by simpa [maxLen] using hm
      refine ⟨(List.range len).map f, ⟨some a, cap, by rw [hll], by rw [hll]; exact hl, ?_⟩, by rw [hll]; exact Nat.le_trans hl hm, fun x hx => ?_⟩
      · refine ⟨rfl, by rw [hll]; omega, fun _ => ⟨a, rfl, fun j p hp => ?_⟩⟩
        obtain ⟨hj, rfl⟩ := List.getElem?_eq_some_iff.1 hp
        have hj' : j < len := by simpa using hj
        obtain ⟨⟨c, h1, h2, h3⟩, _⟩ := hf j hj'
        refine ⟨c, h1, ?_, h3⟩
        simpa using h2
      · obtain ⟨j, hj, rfl⟩ := List.mem_map.1 hx
        exact (hf j (List.mem_range.1 hj)).2
end
theorem drop_cut (l : List Value) (o s p : Nat) (h : p = o + s) : l.drop o = (l.drop o).take s ++ l.drop p := by
  subst h
  rw [← List.drop_drop, List.take_append_drop]
theorem drop_end (l : List Value) (o s : Nat) (h : l.length ≤ o + s) : (l.drop o).take s = l.drop o := List.take_of_length_le (by rw [List.length_drop]; omega)
end Go.Proofs.YtaaibnpjajfpgaaDoorW.PrintWords
