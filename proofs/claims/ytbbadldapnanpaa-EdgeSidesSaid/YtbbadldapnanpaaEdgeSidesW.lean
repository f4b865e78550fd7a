/- The walk of the law EdgeSides: at whatever three points it returns true, and nothing that was in memory is turned. Conditions: none. -/
import Derived.Test.YtbbadldapnanpaaEdgePlain
import Derived.Test.YtbbadldapnanpaaPEdgex4
namespace Go.Proofs.Ytbbadldapnanpaa.PEdge
open Go.RowKit Go.Proofs.YtbbadldapnanpaaW.PrintWords Go.Proofs.YtbbadldapnanpaaW.PrintLast

theorem sides_pure (a b c d e f : Int) : temperalaw12_EdgeSides.f 4 a b c d e f = some true := by
  unfold temperalaw12_EdgeSides.f
  cases hm : (inB a b && (inB c d && inB e f)) with
  | false =>
    rw [Side_no hm, may_t, hm, awake_is]
    rfl
  | true =>
    have ha : inB a b = true := by revert hm; cases inB a b <;> simp
    have hb : inB c d = true := by revert hm; cases inB c d <;> simp
    have hc : inB e f = true := by revert hm; cases inB e f <;> simp
    have s1 := Side_is ha hb hc
    have s2 := Side_is hb hc ha
    have s3 := Side_is hb ha hc
    have e2 := sd_turn a b c d e f
    have e3 := sd_back a b c d e f
    have hw : wrap64 (- sd a b c d e f) = - sd a b c d e f := by
      rw [inB_iff] at ha hb hc
      have m1 := mul_bd (c - a) (f - b) (by omega) (by omega)
      have m2 := mul_bd (d - b) (e - a) (by omega) (by omega)
      have : sd a b c d e f = (c - a) * (f - b) - (d - b) * (e - a) := rfl
      exact wrap_id _ (by omega)
    have hj : temperalaw12_EdgeSides.j0 4 (sd a b c d e f) 0 (sd c d e f a b) 0 (sd c d a b e f) 0 false a b c d e f = some true := by
      show temperalaw12_EdgeSides.j0 (3 + 1) _ _ _ _ _ _ _ _ _ _ _ _ _ = _
      simp only [temperalaw12_EdgeSides.j0]
      rw [if_neg (by decide), if_pos trivial, if_pos trivial, if_pos trivial, rside_is ha hb hc]
      simp only [Option.bind_some]
      rw [if_pos trivial, e2, if_pos rfl, hw, e3, if_pos rfl, awake_is]
      rfl
    rw [s1, s2, s3, may_t, hm, owns_is, owns_is, rowns_is]
    simp only [Option.bind_some, if_true]
    rw [if_neg (by simp)]
    by_cases hne : (!(a == c) || (!(b == d))) = true
    · rw [if_pos hne]
      have hd : a ≠ c ∨ b ≠ d := by
        simp only [Bool.or_eq_true, Bool.not_eq_true', beq_eq_false_iff_ne] at hne
        exact hne
      have ho : (ow a b c d == ow c d a b) = false := by rw [ow_back hd]; cases ow a b c d <;> rfl
      rw [ho]
      exact hj
    · rw [if_neg hne]
      exact hj

theorem edgeSides_walk (a b c d e f : Int) (w : World) :
    Calls Try.prog 6 #[.agg #[.int .i64 a, .int .i64 b, .int .i64 c, .int .i64 d, .int .i64 e, .int .i64 f]] w fun e w' => e = .returned (.bool true) ∧ Below w.heap.size w w' :=
  temperalaw12_EdgeSides.calls 4 a b c d e f true w (sides_pure a b c d e f)
end Go.Proofs.Ytbbadldapnanpaa.PEdge
