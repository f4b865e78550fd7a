/- The law CmdTypes returns true at every kind and every command, and leaves them as they were. Conditions: none beyond the row's own. -/
import Derived.Test.YtcadgbeablpnmaaRows
import Derived.Test.YtcadgbeablpnmaaOpensCmd
import Derived.Test.YtcadgbeablpnmaaCmdTypesP
import Derived.WalkKit
import Derived.ProofKit
import Derived.OpenShut
import Derived.ShutString
import Derived.ChangeOld
import Derived.Below
import Derived.SizedLaws
namespace Go.Proofs.Ytcadgbeablpnmaa.rowCmdTypes
open Go.Proofs.YtcadgbeablpnmaaW Go.Proofs.Ytcadgbeablpnmaa.PCmd
open Go.ChangeShapes Go.WideShapes Go.ChangeAt Go.RowKit
open Go.ChangeMaps (open_string shut_string)
open Go.Proofs.YtcadgbeablpnmaaW.PrintWords (op_int op_bool op_string op_slice)
set_option linter.unusedVariables false
theorem own : ownKnob Try.prog.godebug = none := by kernel_rfl
theorem laidOut : laidOutB Try.prog = true := by kernel_rfl
set_option maxRecDepth 100000 in
theorem lifted (os : Os) (started : os.Started) (H : Type) (enc : TypeId × Value → H) :
    ReturnsInHanded {} Try.checked os 3 .any (Rows.cmdTypesSpec.pre6 enc Try.prog Try.f3 Rows.cmdTypesRow.domain false) (Rows.cmdTypesSpec.post enc Try.prog Try.f3 false true false false) := by
  refine returnsInHanded_of_change_sized (C := Try.checked) own started (by kernel_rfl) Try.func3
    (ChangeSpec.witness6 (enc := enc) (C := Try.checked) false ⟨#[], #[.int .i64 0, .agg #[.int .i64 0, .int .i64 0, .int .i64 0, .int .i64 0, .int .i64 0, .int .i64 0, .slice none 0 0, .slice none 0 0]], []⟩ 8 (by kernel_rfl) (by kernel_rfl) (by kernel_rfl) (by kernel_rfl)) ?_
  intro W base args ds gs before hval0 hW hcnd hsz0 _
  have hval : ∀ (j : Nat) t v, Try.f3.params[j]? = some t → args[j]? = some v → Value.okWide Try.prog W .any base t v := hval0
  have hW' := hW
  obtain ⟨p, q, hA0, hV, rfl, hfz, hnd⟩ := hW
  have hA : DataW.TrodAll enc Try.prog W 0 (fun _ => true) true Try.f3.params.toList args.toList ds p := hA0
  rw [Try.params3] at hA hval
  obtain ⟨v0, vs0, d0, ds0, p0, q0, hargs, rfl, rfl, h0, r0⟩ := trodAll_cons hA
  obtain ⟨v1, vs1, d1, ds1, p1, q1, rfl, rfl, rfl, h1, r1⟩ := trodAll_cons r0
  obtain ⟨rfl, rfl, rfl⟩ := trodAll_nil r1
  obtain rfl : args = #[v0, v1] := by cases args; simp_all
  obtain ⟨rfl, rfl⟩ := trodVars_none hV
  obtain ⟨a0, rfl, rfl, rfl, w0⟩ := open_int Try.underlying3 (hval 0 3 v0 rfl rfl) h0
  obtain ⟨cs1, rfl, _, _⟩ : ∃ cs, v1 = .agg cs ∧ cs.size = Try.prog.cellsOf 25 ∧ Row.okWide Try.prog W .any base 25 cs := by have z := (hval 1 25 v1 rfl rfl); simpa [Value.okWide, Try.underlying25] using z
  have k1 := h1
  have lt1 : ∀ x ∈ p1, x.block < W.heap.size := by obtain ⟨m, hm⟩ := k1; exact DataW.trod_lt m _ _ _ hm
  obtain ⟨fl1, hf1⟩ := h1
  obtain ⟨x1, hK1, w1⟩ := op25 hf1
  obtain ⟨A1_6, c1_6, A1_7, c1_7, hcs1, hc1_6, hr1_6, hc1_7, hr1_7⟩ := k25_open hK1
  obtain ⟨cl1⟩ := cs1
  replace hcs1 : cl1 = _ := hcs1
  subst hcs1
  clear hA0 hval0 hsz0
  obtain ⟨k, hF⟩ := Plain.CmdTypes a0 x1.f0 x1.f1 x1.f2 x1.f3 x1.f4 x1.f5 x1.f6 x1.f7 w0 w1
  refine (temperalaw20_CmdTypes.calls k a0 x1.f0 x1.f1 x1.f2 x1.f3 x1.f4 x1.f5 _ _ x1.f6 _ _ x1.f7 true W hr1_6 hc1_6 hr1_7 hc1_7 hF).mono fun e W' ⟨he, bel⟩ => ?_
  subst he
  exact ⟨_, rfl, _, _, _, [], _, [], hW', trodAll_mk1 (shut_bool Try.underlying4 _), (trodAll_cons_mk (shut_int Try.underlying3 w0) (trodAll_cons_mk (Below.trod laidOut (by kernel_rfl) (of_decide_eq_true (by kernel_rfl)) k1 bel lt1) trodAll_mk0)), rfl, bel.frame _, fun h => by cases h⟩
theorem over : Rows.cmdTypesRow.holds Try.pinned (OpenSpec.ofChange Rows.cmdTypesSpec) :=
  OpenClaim.holds_of_wide 3 Try.f3 rfl rfl rfl rfl rfl rfl rfl ⟨rfl, rfl, rfl, rfl, rfl⟩ rfl rfl rfl rfl rfl (by kernel_rfl) Try.func3 (by kernel_rfl)
    (of_decide_eq_true (by kernel_rfl)) (by unfold Func.isWrapper; first | (rw [if_pos (by decide +kernel)]; kernel_rfl) | (rw [if_neg (by decide +kernel)]; exact ⟨rfl, rfl⟩))
    (fun os started H enc _ => lifted os started H enc)
theorem proved : Rows.CmdTypesSaid := over
#print axioms proved
end Go.Proofs.Ytcadgbeablpnmaa.rowCmdTypes
namespace Go.Proofs.Ytcadgbeablpnmaa
/-- The row, under a short name, for the claim. -/
theorem cmdTypes_own : Rows.CmdTypesSaid := rowCmdTypes.proved
end Go.Proofs.Ytcadgbeablpnmaa
