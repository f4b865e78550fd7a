/- What readings of the arguments of this seat's laws give. -/
import Derived.Test.YtibglhnafohmhaaOpens
import Derived.Test.YtibglhnafohmhaaPStatx
namespace Go.Proofs.Ytibglhnafohmhaa.PStat
open Go.RowKit Go.Proofs.YtibglhnafohmhaaW.PrintWords Go.Proofs.YtibglhnafohmhaaW.PrintLast Go.Proofs.YtibglhnafohmhaaW.PrintMore
set_option linter.unusedVariables false
set_option linter.unusedSimpArgs false
def good40 (x : S40) : Prop := (inKind .i64) x.f0 ∧ (inKind .i64) x.f1 ∧ (inKind .i64) x.f2 ∧ (inKind .i64) x.f3
theorem op40 : Opens Try.prog k40 good40 40 := by
  intro H enc w base spare held fuel cs x h
  obtain ⟨xs, n, _, _, hl, hlen, hf⟩ := DataW.trod_struct Try.underlying40 h
  have hl2 : cs.length = 4 := hl.trans (by kernel_rfl)
  have hlen2 : xs.length = 4 := hlen
  have e0 := (hf 0 _ rfl).trans (List.getElem?_eq_getElem (by omega))
  obtain ⟨a0, q0, g0⟩ := (op_int Try.underlying3) e0
  have s0 : Try.prog.cellsOf 3 = 1 := by kernel_rfl
  replace q0 : (Kd.int .i64).K w a0 ((cs.drop 0).take 1) := by rw [← s0]; exact q0
  have e1 := (hf 1 _ rfl).trans (List.getElem?_eq_getElem (by omega))
  obtain ⟨a1, q1, g1⟩ := (op_int Try.underlying3) e1
  have s1 : Try.prog.cellsOf 3 = 1 := by kernel_rfl
  replace q1 : (Kd.int .i64).K w a1 ((cs.drop 1).take 1) := by rw [← s1]; exact q1
  have e2 := (hf 2 _ rfl).trans (List.getElem?_eq_getElem (by omega))
  obtain ⟨a2, q2, g2⟩ := (op_int Try.underlying3) e2
  have s2 : Try.prog.cellsOf 3 = 1 := by kernel_rfl
  replace q2 : (Kd.int .i64).K w a2 ((cs.drop 2).take 1) := by rw [← s2]; exact q2
  have e3 := (hf 3 _ rfl).trans (List.getElem?_eq_getElem (by omega))
  obtain ⟨a3, q3, g3⟩ := (op_int Try.underlying3) e3
  have s3 : Try.prog.cellsOf 3 = 1 := by kernel_rfl
  replace q3 : (Kd.int .i64).K w a3 ((cs.drop 3).take 1) := by rw [← s3]; exact q3
  have hK : k40.K w ⟨a0, a1, a2, a3⟩ (cs.drop 0) := ⟨_, _, drop_cut cs 0 1 1 rfl, q0, ⟨_, _, drop_cut cs 1 1 2 rfl, q1, ⟨_, _, drop_cut cs 2 1 3 rfl, q2, (by have := q3; rwa [drop_end cs 3 1 (by omega)] at this)⟩⟩⟩
  exact ⟨⟨a0, a1, a2, a3⟩, by simpa using hK, ⟨g0, g1, g2, g3⟩⟩
end Go.Proofs.Ytibglhnafohmhaa.PStat
