/- The law EdgeShared at whatever points and pixel: its walk's conditions met by the plain law. Conditions: none. -/
import Derived.Test.YtbbadldapnanpaaEdgeSharedW
namespace Go.Proofs.Ytbbadldapnanpaa.PEdge
open Go.RowKit Go.Proofs.YtbbadldapnanpaaW.PrintWords Go.Proofs.YtbbadldapnanpaaW.PrintLast

theorem edgeShared_walk (a0_0 a0_1 a0_2 a0_3 a0_4 a0_5 a0_6 a0_7 a1 a2 : Int) (w : World) :
    Calls Try.prog 4 #[.agg #[.int .i64 a0_0, .int .i64 a0_1, .int .i64 a0_2, .int .i64 a0_3, .int .i64 a0_4, .int .i64 a0_5, .int .i64 a0_6, .int .i64 a0_7], .int .i64 a1, .int .i64 a2] w fun e w' => e = .returned (.bool true) ∧ Below w.heap.size w w' := by
  refine edgeShared_main a0_0 a0_1 a0_2 a0_3 a0_4 a0_5 a0_6 a0_7 a1 a2 _ _ _ _ _ _ _ _ w (May_is _ _) (May_is _ _) (May_is _ _) (May_is _ _) (fits_is _ _) rfl rfl rfl ?_
  intro hG
  have hG' := hG
  rw [Bool.not_eq_false'] at hG'
  simp only [Bool.and_eq_true, decide_eq_true_eq] at hG'
  obtain ⟨h0, h1, h2, h3, ⟨hf, s1⟩, s2⟩ := hG'
  rw [side_bd h0 h1 h2] at s1
  rw [side_bd h1 h0 h3] at s2
  have hm := mid_in hf
  have o : ∀ b, 0 ≤ one b ∧ one b ≤ 1 := fun b => by unfold one; cases b <;> decide
  refine ⟨_, _, _, _, _, _, _, _, _, has_is h0 h1 h2 hf, has_is h1 h0 h3 hf, (o _).1, (o _).2, (o _).1, (o _).2, shared_law s1, rmid_is hf, rside_is h0 h1 hm, rside_is h1 h2 hm, rside_is h2 h0 hm, rside_is h0 h3 hm, rside_is h3 h1 hm, ?_⟩
  intro _ k1 k2 k3 k4
  exact shared_between s1 s2 k1 k2 k3 k4
end Go.Proofs.Ytbbadldapnanpaa.PEdge
