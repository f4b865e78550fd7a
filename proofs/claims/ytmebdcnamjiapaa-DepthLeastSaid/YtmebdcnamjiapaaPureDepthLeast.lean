/- The law DepthLeast, as a plain statement over a row of numbers, is true for every input. Conditions: each number is a 64-bit whole number, and the row has at most 140737488351232 bytes. -/
import Derived.Test.YtmebdcnamjiapaaPDepthLeastx1
namespace Go.Proofs.Ytmebdcnamjiapaa.Pure
open Go.RowKit Go.Proofs.Ytmebdcnamjiapaa.PDepthLeast Go.Proofs.YtmebdcnamjiapaaW.PrintWords Go.Proofs.YtmebdcnamjiapaaW.PrintLast

theorem least_awakes : temperalaw08_awake.f = some true := by decide +kernel

theorem bits11 : bits BinOp.and IntKind.i64 1 1 = 1 := by decide +kernel
theorem bits12 : bits BinOp.and IntKind.i64 1 2 = 0 := by decide +kernel
theorem bits14 : bits BinOp.and IntKind.i64 1 4 = 0 := by decide +kernel

theorem least_test (x m : Int) : ∃ b, depth_Test.f 1 true x m = some (b, if x < m then x else m, 0) := by
  by_cases h : x < m
  · exact ⟨true, by simp [depth_Test.f, depth_Passes.f, depth_check.f, depth_relation.f, h, bits11]⟩
  · by_cases h2 : m < x
    · exact ⟨false, by simp [depth_Test.f, depth_Passes.f, depth_check.f, depth_relation.f, h, h2, bits14]⟩
    · exact ⟨false, by simp [depth_Test.f, depth_Passes.f, depth_check.f, depth_relation.f, h, h2, bits12]⟩

theorem least_low (x m : Int) : temperaref01_Low.f m x = some (if x < m then x else m) := by
  unfold temperaref01_Low.f
  by_cases h : m < x
  · have : ¬ x < m := by omega
    simp [h, this]
  · by_cases h2 : x < m
    · simp [h, h2]
    · have : x = m := by omega
      subst this
      simp

theorem least_loop (l : List Int) (hl : l.length ≤ 200) (d : Nat) : ∀ (k : Nat) (i m : Int), 0 ≤ i → i ≤ l.length → (l.length : Int) - i = d → d < k →
    temperalaw08_DepthLeast.l0 k l m m i = some true := by
  induction d with
  | zero =>
    intro k i m h0 h1 hd hk
    obtain ⟨k, rfl⟩ : ∃ n, k = n + 1 := ⟨k - 1, by omega⟩
    simp only [temperalaw08_DepthLeast.l0]
    rw [if_neg (by omega), least_awakes]
    rfl
  | succ d ih =>
    intro k i m h0 h1 hd hk
    obtain ⟨k, rfl⟩ : ∃ n, k = n + 1 := ⟨k - 1, by omega⟩
    obtain ⟨b, hb⟩ := least_test (rd l i) m
    have hw : wrap64 (i + 1) = i + 1 := by unfold wrap64; omega
    simp only [temperalaw08_DepthLeast.l0]
    rw [if_pos (by omega), if_pos h0, hb]
    simp only [Option.bind_some, if_true]
    rw [least_low]
    simp only [Option.bind_some, if_true]
    rw [hw]
    exact ih k (i + 1) _ (by omega) (by omega) (by omega) (by omega)

theorem DepthLeast : temperalaw08_DepthLeast.Pure := by
  intro l _ _ _
  refine ⟨201, ?_⟩
  unfold temperalaw08_DepthLeast.f
  by_cases h : (l.length : Int) > 200
  · rw [if_pos h, least_awakes]
    rfl
  · rw [if_neg h]
    exact least_loop l (by omega) l.length 201 0 _ (by omega) (by omega) (by omega) (by omega)

end Go.Proofs.Ytmebdcnamjiapaa.Pure
