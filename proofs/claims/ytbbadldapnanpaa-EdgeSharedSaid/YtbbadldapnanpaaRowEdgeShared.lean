/- The law EdgeShared returns true at every four points and pixel and leaves its arguments as they were. Conditions: none beyond the row's own. -/
import Derived.Test.YtbbadldapnanpaaRows
import Derived.Test.YtbbadldapnanpaaEdgeSharedV
import Derived.WalkKit
import Derived.ProofKit
import Derived.OpenShut
import Derived.ShutString
import Derived.ChangeOld
import Derived.Below
import Derived.SizedLaws
namespace Go.Proofs.Ytbbadldapnanpaa.rowEdgeShared
open Go.ChangeShapes Go.WideShapes Go.ChangeAt Go.RowKit
open Go.ChangeMaps (open_string shut_string)
set_option linter.unusedVariables false
theorem own : ownKnob Try.prog.godebug = none := by kernel_rfl
theorem laidOut : laidOutB Try.prog = true := by kernel_rfl
theorem list8 (l : List Value) (h : l.length = 8) : ∃ c0 c1 c2 c3 c4 c5 c6 c7, l = [c0, c1, c2, c3, c4, c5, c6, c7] := by
  match l, h with
  | [c0, c1, c2, c3, c4, c5, c6, c7], _ => exact ⟨c0, c1, c2, c3, c4, c5, c6, c7, rfl⟩
/-- A value of type 36, of whole numbers alone, written out. -/
theorem flat36 {W : World} {base : Nat} {v : Value} (h : Value.okWide Try.prog W .any base 36 v) : ∃ n0 n1 n2 n3 n4 n5 n6 n7 : Int, v = .agg #[.int .i64 n0, .int .i64 n1, .int .i64 n2, .int .i64 n3, .int .i64 n4, .int .i64 n5, .int .i64 n6, .int .i64 n7] := by
  have hct : Try.prog.cellTypes Try.prog.depth 36 = some [3, 3, 3, 3, 3, 3, 3, 3] := by kernel_rfl
  have hcells : Try.prog.cellsOf 36 = 8 := by kernel_rfl
  obtain ⟨cs, rfl, hsz, ts, hts, _, hrow⟩ : ∃ cs, v = .agg cs ∧ cs.size = Try.prog.cellsOf 36 ∧ Row.okWide Try.prog W .any base 36 cs := by simpa [Value.okWide, Try.underlying36] using h
  rw [hct] at hts
  obtain rfl := Option.some.inj hts
  rw [hcells] at hsz
  obtain ⟨l⟩ := cs
  obtain ⟨c0, c1, c2, c3, c4, c5, c6, c7, rfl⟩ := list8 l hsz
  have k0 : ∃ n, c0 = .int .i64 n := by
    obtain ⟨u, hu, hc⟩ := hrow 0 c0 rfl
    obtain rfl := Option.some.inj (show some 3 = some u from hu)
    simp only [Cell.okWide, Try.underlying3] at hc
    cases c0 <;> simp_all [Cell.ok]
  obtain ⟨n0, rfl⟩ := k0
  have k1 : ∃ n, c1 = .int .i64 n := by
    obtain ⟨u, hu, hc⟩ := hrow 1 c1 rfl
    obtain rfl := Option.some.inj (show some 3 = some u from hu)
    simp only [Cell.okWide, Try.underlying3] at hc
    cases c1 <;> simp_all [Cell.ok]
  obtain ⟨n1, rfl⟩ := k1
  have k2 : ∃ n, c2 = .int .i64 n := by
    obtain ⟨u, hu, hc⟩ := hrow 2 c2 rfl
    obtain rfl := Option.some.inj (show some 3 = some u from hu)
    simp only [Cell.okWide, Try.underlying3] at hc
    cases c2 <;> simp_all [Cell.ok]
  obtain ⟨n2, rfl⟩ := k2
  have k3 : ∃ n, c3 = .int .i64 n := by
    obtain ⟨u, hu, hc⟩ := hrow 3 c3 rfl
    obtain rfl := Option.some.inj (show some 3 = some u from hu)
    simp only [Cell.okWide, Try.underlying3] at hc
    cases c3 <;> simp_all [Cell.ok]
  obtain ⟨n3, rfl⟩ := k3
  have k4 : ∃ n, c4 = .int .i64 n := by
    obtain ⟨u, hu, hc⟩ := hrow 4 c4 rfl
    obtain rfl := Option.some.inj (show some 3 = some u from hu)
    simp only [Cell.okWide, Try.underlying3] at hc
    cases c4 <;> simp_all [Cell.ok]
  obtain ⟨n4, rfl⟩ := k4
  have k5 : ∃ n, c5 = .int .i64 n := by
    obtain ⟨u, hu, hc⟩ := hrow 5 c5 rfl
    obtain rfl := Option.some.inj (show some 3 = some u from hu)
    simp only [Cell.okWide, Try.underlying3] at hc
    cases c5 <;> simp_all [Cell.ok]
  obtain ⟨n5, rfl⟩ := k5
  have k6 : ∃ n, c6 = .int .i64 n := by
    obtain ⟨u, hu, hc⟩ := hrow 6 c6 rfl
    obtain rfl := Option.some.inj (show some 3 = some u from hu)
    simp only [Cell.okWide, Try.underlying3] at hc
    cases c6 <;> simp_all [Cell.ok]
  obtain ⟨n6, rfl⟩ := k6
  have k7 : ∃ n, c7 = .int .i64 n := by
    obtain ⟨u, hu, hc⟩ := hrow 7 c7 rfl
    obtain rfl := Option.some.inj (show some 3 = some u from hu)
    simp only [Cell.okWide, Try.underlying3] at hc
    cases c7 <;> simp_all [Cell.ok]
  obtain ⟨n7, rfl⟩ := k7
  exact ⟨n0, n1, n2, n3, n4, n5, n6, n7, rfl⟩
set_option maxRecDepth 100000 in
theorem lifted (os : Os) (started : os.Started) (H : Type) (enc : TypeId × Value → H) :
    ReturnsInHanded {} Try.checked os 4 .any (Rows.edgeSharedSpec.pre6 enc Try.prog Try.f4 Rows.edgeSharedRow.domain false) (Rows.edgeSharedSpec.post enc Try.prog Try.f4 false true false false) := by
  refine returnsInHanded_of_change_sized (C := Try.checked) own started (by kernel_rfl) Try.func4
    (ChangeSpec.witness6 (enc := enc) (C := Try.checked) false ⟨#[], #[.agg #[.int .i64 0, .int .i64 0, .int .i64 0, .int .i64 0, .int .i64 0, .int .i64 0, .int .i64 0, .int .i64 0], .int .i64 0, .int .i64 0], []⟩ 8 (by kernel_rfl) (by kernel_rfl) (by kernel_rfl) (by kernel_rfl)) ?_
  intro W base args ds gs before hval0 hW hcnd hsz0 _
  have hval : ∀ (j : Nat) t v, Try.f4.params[j]? = some t → args[j]? = some v → Value.okWide Try.prog W .any base t v := hval0
  have hW' := hW
  obtain ⟨p, q, hA0, hV, rfl, hfz, hnd⟩ := hW
  have hA : DataW.TrodAll enc Try.prog W 0 (fun _ => true) true Try.f4.params.toList args.toList ds p := hA0
  rw [Try.params4] at hA hval
  obtain ⟨v0, vs0, d0, ds0, p0, q0, hargs, rfl, rfl, h0, r0⟩ := trodAll_cons hA
  obtain ⟨v1, vs1, d1, ds1, p1, q1, rfl, rfl, rfl, h1, r1⟩ := trodAll_cons r0
  obtain ⟨v2, vs2, d2, ds2, p2, q2, rfl, rfl, rfl, h2, r2⟩ := trodAll_cons r1
  obtain ⟨rfl, rfl, rfl⟩ := trodAll_nil r2
  obtain rfl : args = #[v0, v1, v2] := by cases args; simp_all
  obtain ⟨rfl, rfl⟩ := trodVars_none hV
  obtain ⟨a0_0, a0_1, a0_2, a0_3, a0_4, a0_5, a0_6, a0_7, rfl⟩ := flat36 (hval 0 36 v0 rfl rfl)
  have k0 := h0
  have lt0 : ∀ x ∈ p0, x.block < W.heap.size := by obtain ⟨m, hm⟩ := k0; exact DataW.trod_lt m _ _ _ hm
  obtain ⟨a1, rfl, rfl, rfl, w1⟩ := open_int Try.underlying3 (hval 1 3 v1 rfl rfl) h1
  obtain ⟨a2, rfl, rfl, rfl, w2⟩ := open_int Try.underlying3 (hval 2 3 v2 rfl rfl) h2
  clear hA0 hval0 hsz0
  refine (PEdge.edgeShared_walk a0_0 a0_1 a0_2 a0_3 a0_4 a0_5 a0_6 a0_7 a1 a2 W).mono fun e W' ⟨he, bel⟩ => ?_
  subst he
  exact ⟨_, rfl, _, _, _, [], _, [], hW', trodAll_mk1 (shut_bool Try.underlying4 _), (trodAll_cons_mk (Below.trod laidOut (by kernel_rfl) (of_decide_eq_true (by kernel_rfl)) k0 bel lt0) (trodAll_cons_mk (shut_int Try.underlying3 w1) (trodAll_cons_mk (shut_int Try.underlying3 w2) trodAll_mk0))), rfl, bel.frame _, fun h => by cases h⟩
theorem over : Rows.edgeSharedRow.holds Try.pinned (OpenSpec.ofChange Rows.edgeSharedSpec) :=
  OpenClaim.holds_of_wide 4 Try.f4 rfl rfl rfl rfl rfl rfl rfl ⟨rfl, rfl, rfl, rfl, rfl⟩ rfl rfl rfl rfl rfl (by kernel_rfl) Try.func4 (by kernel_rfl)
    (of_decide_eq_true (by kernel_rfl)) (by unfold Func.isWrapper; first | (rw [if_pos (by decide +kernel)]; kernel_rfl) | (rw [if_neg (by decide +kernel)]; exact ⟨rfl, rfl⟩))
    (fun os started H enc _ => lifted os started H enc)
theorem proved : Rows.EdgeSharedSaid := over
#print axioms proved
end Go.Proofs.Ytbbadldapnanpaa.rowEdgeShared
namespace Go.Proofs.Ytbbadldapnanpaa
/-- The row, under a short name, for the claim. -/
theorem edgeShared_own : Rows.EdgeSharedSaid := rowEdgeShared.proved
end Go.Proofs.Ytbbadldapnanpaa
