/- The walk of the law DepthTests: at whatever kind, and whatever two depths, it returns true, and nothing that was in memory is turned. Conditions: none. -/
import Derived.Test.YtmebdcnamjiapaaPTestsx1
namespace Go.Proofs.Ytmebdcnamjiapaa.PTests
open Go.RowKit Go.Proofs.YtmebdcnamjiapaaW.PrintWords Go.Proofs.YtmebdcnamjiapaaW.PrintLast

theorem tests_awakes : temperalaw08_awake.f = some true := by decide +kernel

theorem tests_below (a b : Int) (h : a < b) : depth_relation.f a b = some 1 := by simp [depth_relation.f, h]
theorem tests_above (a b : Int) (h : b < a) : depth_relation.f a b = some 4 := by
  have : ¬ a < b := by omega
  simp [depth_relation.f, h, this]
theorem tests_alike (a : Int) : depth_relation.f a a = some 2 := by simp [depth_relation.f]

/-- A test passes as the document says. -/
theorem tests_same (k a b : Int) (h : 0 ≤ k ∧ k ≤ 7) : ∃ p, depth_Passes.f k a b = some (p, 0) ∧ temperaref08_Passes.f k a b = some p := by
  have e : k = 0 ∨ k = 1 ∨ k = 2 ∨ k = 3 ∨ k = 4 ∨ k = 5 ∨ k = 6 ∨ k = 7 := by omega
  by_cases c1 : a < b
  · have r1 := tests_below a b c1
    have h4 : a ≤ b := by omega
    have h5 : ¬ b ≤ a := by omega
    have h2 : ¬ b < a := by omega
    have h3 : a ≠ b := by omega
    have h6 : (a == b) = false := beq_eq_false_iff_ne.mpr h3
    have h7 : (a != b) = true := bne_iff_ne.mpr h3
    rcases e with rfl | rfl | rfl | rfl | rfl | rfl | rfl | rfl <;> exact ⟨_, by simp [depth_Passes.f, depth_check.f, r1]; rfl, by simp [temperaref08_Passes.f, c1, h2, h4, h5, h6, h7]; decide⟩
  · by_cases c2 : b < a
    · have r1 := tests_above a b c2
      have h4 : b ≤ a := by omega
      have h5 : ¬ a ≤ b := by omega
      have h3 : a ≠ b := by omega
      have h6 : (a == b) = false := beq_eq_false_iff_ne.mpr h3
      have h7 : (a != b) = true := bne_iff_ne.mpr h3
      rcases e with rfl | rfl | rfl | rfl | rfl | rfl | rfl | rfl <;> exact ⟨_, by simp [depth_Passes.f, depth_check.f, r1]; rfl, by simp [temperaref08_Passes.f, c1, c2, h4, h5, h6, h7]; decide⟩
    · obtain rfl : a = b := by omega
      have r1 := tests_alike a
      rcases e with rfl | rfl | rfl | rfl | rfl | rfl | rfl | rfl <;> exact ⟨_, by simp [depth_Passes.f, depth_check.f, r1]; rfl, by simp [temperaref08_Passes.f]; decide⟩

theorem tests_j0 (x y p m q : Int) (is b : Bool) (hp : temperaref08_Passes.f x y p = some is) (hb : b = true → m = y) (hn : b = false → m = q) :
    temperalaw08_DepthTests.j0 (0 + 1) x y p is m 0 q b = some true := by
  cases b with
  | true =>
    obtain rfl := hb rfl
    simp [temperalaw08_DepthTests.j0, hp, tests_awakes]
  | false =>
    obtain rfl := hn rfl
    simp [temperalaw08_DepthTests.j0, hp, tests_awakes]

theorem tests_pure (k : Int) (put : Bool) (z old : Int) : temperalaw08_DepthTests.f 1 k put z old = some true := by
  unfold temperalaw08_DepthTests.f
  by_cases h : 0 ≤ k ∧ k ≤ 7
  · have hi : temperaref08_Is.f k = some true := by
      unfold temperaref08_Is.f
      rw [if_pos h.1, decide_eq_true h.2]
    obtain ⟨p, hp, hr⟩ := tests_same k z old h
    have ht : depth_Test.f k put z old = some (p, if p = true ∧ put = true then z else old, 0) := by
      unfold depth_Test.f
      rw [hp]
      cases p <;> cases put <;> rfl
    rw [ht, hi]
    simp only [Option.bind_some, if_true]
    cases put with
    | true =>
      rw [if_pos rfl, hr]
      simp only [Option.bind_some]
      exact tests_j0 _ _ _ _ _ _ _ hr (fun h => by simp [h]) (fun h => by simp [h])
    | false =>
      rw [if_neg (by decide)]
      exact tests_j0 _ _ _ _ _ _ _ hr (fun h => by simp at h) (fun _ => by simp)
  · have c : depth_check.f k = some 9 := by
      unfold depth_check.f
      by_cases h1 : k < 0
      · simp [h1]
      · have : k > 7 := by omega
        simp [h1, this]
    have d : temperaref08_Is.f k = some false := by
      unfold temperaref08_Is.f
      by_cases h1 : k ≥ 0
      · have : ¬ k ≤ 7 := by omega
        simp [h1, this]
      · simp [h1]
    simp [depth_Test.f, depth_Passes.f, c, d, tests_awakes]

theorem depthTests_walk (k : Int) (put : Bool) (z old : Int) (w : World) :
    Calls Try.prog 4 #[.int .i64 k, .bool put, .agg #[.int .i64 z, .int .i64 old]] w fun e w' => e = .returned (.bool true) ∧ Below w.heap.size w w' :=
  temperalaw08_DepthTests.calls 1 k put z old true w (tests_pure k put z old)
end Go.Proofs.Ytmebdcnamjiapaa.PTests
