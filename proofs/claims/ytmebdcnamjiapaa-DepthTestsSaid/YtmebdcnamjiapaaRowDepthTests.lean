/- The law DepthTests returns true at every kind and every two depths and leaves its arguments as they were. Conditions: none beyond the row's own. -/
import Derived.Test.YtmebdcnamjiapaaRows
import Derived.Test.YtmebdcnamjiapaaTestsW
import Derived.WalkKit
import Derived.ProofKit
import Derived.OpenShut
import Derived.ShutString
import Derived.ChangeOld
import Derived.Below
import Derived.SizedLaws
namespace Go.Proofs.Ytmebdcnamjiapaa.rowDepthTests
open Go.ChangeShapes Go.WideShapes Go.ChangeAt Go.RowKit
open Go.ChangeMaps (open_string shut_string)
set_option linter.unusedVariables false
theorem own : ownKnob Try.prog.godebug = none := by kernel_rfl
theorem laidOut : laidOutB Try.prog = true := by kernel_rfl
theorem list2 (l : List Value) (h : l.length = 2) : ∃ c0 c1, l = [c0, c1] := by
  match l, h with
  | [c0, c1], _ => exact ⟨c0, c1, rfl⟩
/-- A value of type 30, of whole numbers alone, written out. -/
theorem flat30 {W : World} {base : Nat} {v : Value} (h : Value.okWide Try.prog W .any base 30 v) : ∃ n0 n1 : Int, v = .agg #[.int .i64 n0, .int .i64 n1] := by
  have hct : Try.prog.cellTypes Try.prog.depth 30 = some [3, 3] := by kernel_rfl
  have hcells : Try.prog.cellsOf 30 = 2 := by kernel_rfl
  obtain ⟨cs, rfl, hsz, ts, hts, _, hrow⟩ : ∃ cs, v = .agg cs ∧ cs.size = Try.prog.cellsOf 30 ∧ Row.okWide Try.prog W .any base 30 cs := by simpa [Value.okWide, Try.underlying30] using h
  rw [hct] at hts
  obtain rfl := Option.some.inj hts
  rw [hcells] at hsz
  obtain ⟨l⟩ := cs
  obtain ⟨c0, c1, rfl⟩ := list2 l hsz
  have k0 : ∃ n, c0 = .int .i64 n := by
    obtain ⟨u, hu, hc⟩ := hrow 0 c0 rfl
    obtain rfl := Option.some.inj (show some 3 = some u from hu)
    simp only [Cell.okWide, Try.underlying3] at hc
    cases c0 <;> simp_all [Cell.ok]
  obtain ⟨n0, rfl⟩ := k0
  have k1 : ∃ n, c1 = .int .i64 n := by
    obtain ⟨u, hu, hc⟩ := hrow 1 c1 rfl
    obtain rfl := Option.some.inj (show some 3 = some u from hu)
    simp only [Cell.okWide, Try.underlying3] at hc
    cases c1 <;> simp_all [Cell.ok]
  obtain ⟨n1, rfl⟩ := k1
  exact ⟨n0, n1, rfl⟩
set_option maxRecDepth 100000 in
theorem lifted (os : Os) (started : os.Started) (H : Type) (enc : TypeId × Value → H) :
    ReturnsInHanded {} Try.checked os 4 .any (Rows.depthTestsSpec.pre6 enc Try.prog Try.f4 Rows.depthTestsRow.domain false) (Rows.depthTestsSpec.post enc Try.prog Try.f4 false true false false) := by
  refine returnsInHanded_of_change_sized (C := Try.checked) own started (by kernel_rfl) Try.func4
    (ChangeSpec.witness6 (enc := enc) (C := Try.checked) false ⟨#[], #[.int .i64 0, .bool false, .agg #[.int .i64 0, .int .i64 0]], []⟩ 8 (by kernel_rfl) (by kernel_rfl) (by kernel_rfl) (by kernel_rfl)) ?_
  intro W base args ds gs before hval0 hW hcnd hsz0 _
  have hval : ∀ (j : Nat) t v, Try.f4.params[j]? = some t → args[j]? = some v → Value.okWide Try.prog W .any base t v := hval0
  have hW' := hW
  obtain ⟨p, q, hA0, hV, rfl, hfz, hnd⟩ := hW
  have hA : DataW.TrodAll enc Try.prog W 0 (fun _ => true) true Try.f4.params.toList args.toList ds p := hA0
  rw [Try.params4] at hA hval
  obtain ⟨v0, vs0, d0, ds0, p0, q0, hargs, rfl, rfl, h0, r0⟩ := trodAll_cons hA
  obtain ⟨v1, vs1, d1, ds1, p1, q1, rfl, rfl, rfl, h1, r1⟩ := trodAll_cons r0
  obtain ⟨v2, vs2, d2, ds2, p2, q2, rfl, rfl, rfl, h2, r2⟩ := trodAll_cons r1
  obtain ⟨rfl, rfl, rfl⟩ := trodAll_nil r2
  obtain rfl : args = #[v0, v1, v2] := by cases args; simp_all
  obtain ⟨rfl, rfl⟩ := trodVars_none hV
  obtain ⟨a0, rfl, rfl, rfl, w0⟩ := open_int Try.underlying3 (hval 0 3 v0 rfl rfl) h0
  obtain ⟨a1, rfl, rfl, rfl⟩ := open_bool Try.underlying4 (hval 1 4 v1 rfl rfl) h1
  obtain ⟨a2_0, a2_1, rfl⟩ := flat30 (hval 2 30 v2 rfl rfl)
  have k2 := h2
  have lt2 : ∀ x ∈ p2, x.block < W.heap.size := by obtain ⟨m, hm⟩ := k2; exact DataW.trod_lt m _ _ _ hm
  clear hA0 hval0 hsz0
  refine (PTests.depthTests_walk a0 a1 a2_0 a2_1 W).mono fun e W' ⟨he, bel⟩ => ?_
  subst he
  exact ⟨_, rfl, _, _, _, [], _, [], hW', trodAll_mk1 (shut_bool Try.underlying4 _), (trodAll_cons_mk (shut_int Try.underlying3 w0) (trodAll_cons_mk (shut_bool Try.underlying4 _) (trodAll_cons_mk (Below.trod laidOut (by kernel_rfl) (of_decide_eq_true (by kernel_rfl)) k2 bel lt2) trodAll_mk0))), rfl, bel.frame _, fun h => by cases h⟩
theorem over : Rows.depthTestsRow.holds Try.pinned (OpenSpec.ofChange Rows.depthTestsSpec) :=
  OpenClaim.holds_of_wide 4 Try.f4 rfl rfl rfl rfl rfl rfl rfl ⟨rfl, rfl, rfl, rfl, rfl⟩ rfl rfl rfl rfl rfl (by kernel_rfl) Try.func4 (by kernel_rfl)
    (of_decide_eq_true (by kernel_rfl)) (by unfold Func.isWrapper; first | (rw [if_pos (by decide +kernel)]; kernel_rfl) | (rw [if_neg (by decide +kernel)]; exact ⟨rfl, rfl⟩))
    (fun os started H enc _ => lifted os started H enc)
theorem proved : Rows.DepthTestsSaid := over
#print axioms proved
end Go.Proofs.Ytmebdcnamjiapaa.rowDepthTests
namespace Go.Proofs.Ytmebdcnamjiapaa
/-- The row, under a short name, for the claim. -/
theorem depthTests_own : Rows.DepthTestsSaid := rowDepthTests.proved
end Go.Proofs.Ytmebdcnamjiapaa
