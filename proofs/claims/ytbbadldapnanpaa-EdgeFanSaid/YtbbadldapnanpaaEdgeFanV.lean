/- The law EdgeFan at whatever points and pixel: its walk's conditions met by the plain law. Conditions: none. -/
import Derived.Test.YtbbadldapnanpaaEdgeFanW
namespace Go.Proofs.Ytbbadldapnanpaa.PEdge
open Go.RowKit Go.Proofs.YtbbadldapnanpaaW.PrintWords Go.Proofs.YtbbadldapnanpaaW.PrintLast

theorem edgeFan_walk (a0_0 a0_1 a0_2 a0_3 a0_4 a0_5 a0_6 a0_7 a1 a2 : Int) (w : World) :
    Calls Try.prog 5 #[.agg #[.int .i64 a0_0, .int .i64 a0_1, .int .i64 a0_2, .int .i64 a0_3, .int .i64 a0_4, .int .i64 a0_5, .int .i64 a0_6, .int .i64 a0_7], .int .i64 a1, .int .i64 a2] w fun e w' => e = .returned (.bool true) ∧ Below w.heap.size w w' := by
  refine edgeFan_main a0_0 a0_1 a0_2 a0_3 a0_4 a0_5 a0_6 a0_7 a1 a2 _ _ _ _ _ _ _ _ _ w (May_is _ _) (May_is _ _) (May_is _ _) (May_is _ _) (fits_is _ _) rfl rfl rfl rfl ?_
  intro hG
  have hG' := hG
  rw [Bool.not_eq_false'] at hG'
  simp only [Bool.and_eq_true, decide_eq_true_eq] at hG'
  obtain ⟨h0, h1, h2, h3, ⟨hf, s1⟩, s2, s3⟩ := hG'
  rw [side_bd h0 h1 h3] at s1
  rw [side_bd h1 h2 h3] at s2
  rw [side_bd h2 h0 h3] at s3
  have law := fan_law (qx := 16 * a1 + 8) (qy := 16 * a2 + 8) s1 s2 s3
  have o : ∀ b, 0 ≤ one b ∧ one b ≤ 1 := fun b => by unfold one; cases b <;> decide
  refine ⟨_, _, _, _, has_is h0 h1 h3 hf, has_is h1 h2 h3 hf, has_is h2 h0 h3 hf, has_is h0 h1 h2 hf, ?_, ?_⟩
  · have key : ∀ x y z t : Int, 0 ≤ x ∧ x ≤ 1 → 0 ≤ y ∧ y ≤ 1 → 0 ≤ z ∧ z ≤ 1 → x + y + z = t → wrap64 (wrap64 (x + y) + z) = t := by
      intro x y z t hx hy hz h
      rw [wrap_id (x + y) (by omega), wrap_id _ (by omega)]
      exact h
    exact key _ _ _ _ (o _) (o _) (o _) law
  · exact (o _).2
end Go.Proofs.Ytbbadldapnanpaa.PEdge
