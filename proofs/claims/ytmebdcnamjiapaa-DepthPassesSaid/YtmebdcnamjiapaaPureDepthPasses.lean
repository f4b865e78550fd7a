/- The law DepthPasses, as a plain statement over numbers, is true for every input. Conditions: each number is a 64-bit whole number. -/
import Derived.Test.YtmebdcnamjiapaaPDepthPassesx1
namespace Go.Proofs.Ytmebdcnamjiapaa.Pure
open Go.RowKit Go.Proofs.Ytmebdcnamjiapaa.PDepthPasses Go.Proofs.YtmebdcnamjiapaaW.PrintWords Go.Proofs.YtmebdcnamjiapaaW.PrintLast

theorem awakes : temperalaw08_awake.f = some true := by decide +kernel

theorem tri (a b : Int) : (a < b ∧ ¬ b < a ∧ ¬ a = b) ∨ (¬ a < b ∧ b < a ∧ ¬ a = b) ∨ (¬ a < b ∧ ¬ b < a ∧ a = b) := by omega

theorem below0 (a b : Int) (h : a < b) : depth_relation.f a b = some 1 := by simp [depth_relation.f, h]
theorem above0 (a b : Int) (h : b < a) : depth_relation.f a b = some 4 := by
  have : ¬ a < b := by omega
  simp [depth_relation.f, h, this]
theorem alike0 (a : Int) : depth_relation.f a a = some 2 := by simp [depth_relation.f]

theorem DepthPasses : temperalaw08_DepthPasses.Pure := by
  intro a0 a1 a2 _ _ _
  by_cases h : 0 ≤ a0 ∧ a0 ≤ 7
  · have e : a0 = 0 ∨ a0 = 1 ∨ a0 = 2 ∨ a0 = 3 ∨ a0 = 4 ∨ a0 = 5 ∨ a0 = 6 ∨ a0 = 7 := by omega
    rcases tri a1 a2 with ⟨h1, h2, h3⟩ | ⟨h1, h2, h3⟩ | ⟨h1, h2, rfl⟩
    · have r1 := below0 a1 a2 h1
      have r2 := above0 a2 a1 h1
      have h4 : a1 ≤ a2 := by omega
      have h5 : ¬ a2 ≤ a1 := by omega
      have h6 : (a1 == a2) = false := beq_eq_false_iff_ne.mpr h3
      have h7 : (a1 != a2) = true := bne_iff_ne.mpr h3
      rcases e with rfl | rfl | rfl | rfl | rfl | rfl | rfl | rfl <;>
        simp [temperalaw08_DepthPasses.f, depth_Passes.f, depth_Not.f, depth_Swap.f, depth_check.f, temperaref08_Is.f, temperaref08_Passes.f, awakes, r1, r2, h1, h2, h4, h5, h6, h7] <;> decide
    · have r1 := above0 a1 a2 h2
      have r2 := below0 a2 a1 h2
      have h4 : a2 ≤ a1 := by omega
      have h5 : ¬ a1 ≤ a2 := by omega
      have h6 : (a1 == a2) = false := beq_eq_false_iff_ne.mpr h3
      have h7 : (a1 != a2) = true := bne_iff_ne.mpr h3
      rcases e with rfl | rfl | rfl | rfl | rfl | rfl | rfl | rfl <;>
        simp [temperalaw08_DepthPasses.f, depth_Passes.f, depth_Not.f, depth_Swap.f, depth_check.f, temperaref08_Is.f, temperaref08_Passes.f, awakes, r1, r2, h1, h2, h4, h5, h6, h7] <;> decide
    · have r1 := alike0 a1
      rcases e with rfl | rfl | rfl | rfl | rfl | rfl | rfl | rfl <;>
        simp [temperalaw08_DepthPasses.f, depth_Passes.f, depth_Not.f, depth_Swap.f, depth_check.f, temperaref08_Is.f, temperaref08_Passes.f, awakes, r1] <;> decide
  · have c : depth_check.f a0 = some 9 := by
      unfold depth_check.f
      by_cases h1 : a0 < 0
      · simp [h1]
      · have : a0 > 7 := by omega
        simp [h1, this]
    have d : temperaref08_Is.f a0 = some false := by
      unfold temperaref08_Is.f
      by_cases h1 : a0 ≥ 0
      · have : ¬ a0 ≤ 7 := by omega
        simp [h1, this]
      · simp [h1]
    simp [temperalaw08_DepthPasses.f, depth_Passes.f, depth_Not.f, depth_Swap.f, c, d, awakes]

end Go.Proofs.Ytmebdcnamjiapaa.Pure
