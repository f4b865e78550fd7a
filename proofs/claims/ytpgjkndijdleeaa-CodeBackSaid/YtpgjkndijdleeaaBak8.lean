/- What the claim of RowCodeBack needs of this seat's texts (drawn together by wip/prune.py): Code2C, CodeP4, CodeBackP. -/
import Derived.Test.YtpgjkndijdleeaaBak7
section
namespace Go.Proofs.Ytpgjkndijdleeaa.PCode
open Go.RowKit Go.Proofs.YtpgjkndijdleeaaW.PrintWords Go.Proofs.YtpgjkndijdleeaaW.PrintLast Go.Proofs.YtpgjkndijdleeaaW.PrintMore
attribute [local go_sem] max2_int min2_int max_two min_two max_three min_three max_four min_four   -- for this text's walks alone
set_option linter.unusedVariables false
set_option linter.unusedSimpArgs false
mutual
def temperalaw21_CodeBack.j0 : Nat → List (S37) → List (S39) → Bool → Option (Bool)
 | 0, _, _, _ => none
 | k + 1, x0, x6, x49 => if x49 = true then (some false) else (temperalaw21_CodeBack.l0 k x0 x6 0)
def temperalaw21_CodeBack.l0 : Nat → List (S37) → List (S39) → Int → Option (Bool)
 | 0, _, _, _ => none
 | k + 1, x0, x6, x7 => if x7 < (x0.length : Int) then (if 0 ≤ x7 then (if x7 < (x6.length : Int) then (if ((rd_T39 x6 x7).f1) = 0 then ((temperaref20_Own.f ((rd_T37 x0 x7).f0) ((rd_T37 x0 x7).f1) ((rd_T37 x0 x7).f2) ((rd_T37 x0 x7).f3) ((rd_T37 x0 x7).f4) ((rd_T37 x0 x7).f5) ((rd_T37 x0 x7).f6) ((rd_T37 x0 x7).f7)).bind fun bt326 => ((temperaref20_Same.f k ((rd_T39 x6 x7).f0.f0) ((rd_T39 x6 x7).f0.f1) ((rd_T39 x6 x7).f0.f2) ((rd_T39 x6 x7).f0.f3) ((rd_T39 x6 x7).f0.f4) ((rd_T39 x6 x7).f0.f5) ((rd_T39 x6 x7).f0.f6) ((rd_T39 x6 x7).f0.f7) bt326.1 bt326.2.1 bt326.2.2.1 bt326.2.2.2.1 bt326.2.2.2.2.1 bt326.2.2.2.2.2.1 bt326.2.2.2.2.2.2.1 bt326.2.2.2.2.2.2.2).bind fun t338 => (if t338 = true then (temperalaw21_CodeBack.l0 k x0 x6 (wrap64 (x7 + 1))) else (some false)))) else (some false)) else (none)) else (none)) else ((temperalaw21_awake.f k).bind fun t322 => (some t322))
end
def temperalaw21_CodeBack.f (k : Nat) (l0 : List (S37)) : Option (Bool) := (temperaref21_Light.f k l0 20).bind fun t307 => (if t307 = true then ((code_Encode.f k l0).bind fun bt309 => ((temperaref21_Check.f k l0).bind fun t313 => (if t313 = 0 then ((code_Decode.f bt309.1).bind fun t315 => (if bt309.2 = 0 then ((temperaref21_Encode.f k l0).bind fun t318 => ((temperaref21_Bytes.f k bt309.1 t318).bind fun t321 => (if t321 = true then (temperalaw21_CodeBack.j0 k l0 t315 ((t315.length : Int) != (l0.length : Int))) else (temperalaw21_CodeBack.j0 k l0 t315 true)))) else (temperalaw21_CodeBack.j0 k l0 t315 true))) else (if (bt309.1.length : Int) = 0 then (if bt309.2 = t313 then ((temperalaw21_awake.f k).bind fun t314 => (some t314)) else (some false)) else (some false))))) else ((temperalaw21_awake.f k).bind fun t308 => (some t308)))
def temperalaw21_CodeBack.T13 : Bool × List (List Nat × List Nat) := (true, [([], []), ([], []), ([0, 1], [0, 1]), ([2], [2]), ([3], [3]), ([4], [4]), ([5], [5]), ([6], [6]), ([6], [6]), ([7, 8, 6], [6, 7, 8]), ([9, 6], [6, 9]), ([10, 6], [6, 10]), ([6], [6]), ([6], [6]), ([12, 13, 6], [6, 12, 13]), ([14, 6], [6, 14]), ([15, 6, 6], [6, 15]), ([11, 16, 16, 6], [6, 11, 16]), ([17, 6], [6, 17]), ([6, 18], [6, 18])])
def temperalaw21_CodeBack.B13 : List Nat := [0, 0, 3, 7, 15, 31, 63, 127, 127, 511, 1023, 2047, 127, 127, 12415, 28799, 61567, 131071, 262143, 524287]
theorem temperalaw21_CodeBack.tab13 : rtab .any (opsOf Try.f3 13) = temperalaw21_CodeBack.T13 := by kernel_rfl
theorem temperalaw21_CodeBack.bits13 : waitsOk temperalaw21_CodeBack.T13.2 temperalaw21_CodeBack.B13 = true := by kernel_rfl
set_option maxHeartbeats 8000000 in
set_option maxRecDepth 100000 in
theorem temperalaw21_CodeBack.calls (k : Nat) (A0 : Option Addr) (c0 : Nat) (l0 : List (S37)) (r : Bool) (w : World) (hr0 : Kd.C k37 w A0 l0.length l0) (hc0 : l0.length ≤ c0) (h : temperalaw21_CodeBack.f k l0 = some r) :
  Calls Try.prog 3 #[.slice A0 l0.length c0] w fun e w' => e = .returned (.bool r) ∧ Below w.heap.size w w' := by
 have hu37 := Try.underlying37
 have HR0 := Aside0.mk hr0
 have HC0 := Aside0.mk hc0
 clear hr0 hc0
 have HB := Aside0.mk (Below.refl w.heap.size w)
 have H : ((temperaref21_Light.f k l0 20).bind fun t307 => (if t307 = true then ((code_Encode.f k l0).bind fun bt309 => ((temperaref21_Check.f k l0).bind fun t313 => (if t313 = 0 then ((code_Decode.f bt309.1).bind fun t315 => (if bt309.2 = 0 then ((temperaref21_Encode.f k l0).bind fun t318 => ((temperaref21_Bytes.f k bt309.1 t318).bind fun t321 => (if t321 = true then (temperalaw21_CodeBack.j0 k l0 t315 ((t315.length : Int) != (l0.length : Int))) else (temperalaw21_CodeBack.j0 k l0 t315 true)))) else (temperalaw21_CodeBack.j0 k l0 t315 true))) else (if (bt309.1.length : Int) = 0 then (if bt309.2 = t313 then ((temperalaw21_awake.f k).bind fun t314 => (some t314)) else (some false)) else (some false))))) else ((temperalaw21_awake.f k).bind fun t308 => (some t308)))) = some r := h
 clear h
 replace H := Option.bind_eq_some_iff.mp H
 obtain ⟨t307, A20, H⟩ := H
 replace H : (if t307 = true then ((code_Encode.f k l0).bind fun bt309 => ((temperaref21_Check.f k l0).bind fun t313 => (if t313 = 0 then ((code_Decode.f bt309.1).bind fun t315 => (if bt309.2 = 0 then ((temperaref21_Encode.f k l0).bind fun t318 => ((temperaref21_Bytes.f k bt309.1 t318).bind fun t321 => (if t321 = true then (temperalaw21_CodeBack.j0 k l0 t315 ((t315.length : Int) != (l0.length : Int))) else (temperalaw21_CodeBack.j0 k l0 t315 true)))) else (temperalaw21_CodeBack.j0 k l0 t315 true))) else (if (bt309.1.length : Int) = 0 then (if bt309.2 = t313 then ((temperalaw21_awake.f k).bind fun t314 => (some t314)) else (some false)) else (some false))))) else ((temperalaw21_awake.f k).bind fun t308 => (some t308))) = some r := H
 have A2 := Aside0.mk A20
 clear A20
 by_cases c3 : t307 = true
 ·subst c3
  have H1 : ((code_Encode.f k l0).bind fun bt309 => ((temperaref21_Check.f k l0).bind fun t313 => (if t313 = 0 then ((code_Decode.f bt309.1).bind fun t315 => (if bt309.2 = 0 then ((temperaref21_Encode.f k l0).bind fun t318 => ((temperaref21_Bytes.f k bt309.1 t318).bind fun t321 => (if t321 = true then (temperalaw21_CodeBack.j0 k l0 t315 ((t315.length : Int) != (l0.length : Int))) else (temperalaw21_CodeBack.j0 k l0 t315 true)))) else (temperalaw21_CodeBack.j0 k l0 t315 true))) else (if (bt309.1.length : Int) = 0 then (if bt309.2 = t313 then ((temperalaw21_awake.f k).bind fun t314 => (some t314)) else (some false)) else (some false))))) = some r := by rw [if_pos rfl] at H; exact H
  clear H
  have H := H1
  clear H1
  replace H := Option.bind_eq_some_iff.mp H
  obtain ⟨⟨t309, t310⟩, A40, H⟩ := H
  replace H : ((temperaref21_Check.f k l0).bind fun t313 => (if t313 = 0 then ((code_Decode.f t309).bind fun t315 => (if t310 = 0 then ((temperaref21_Encode.f k l0).bind fun t318 => ((temperaref21_Bytes.f k t309 t318).bind fun t321 => (if t321 = true then (temperalaw21_CodeBack.j0 k l0 t315 ((t315.length : Int) != (l0.length : Int))) else (temperalaw21_CodeBack.j0 k l0 t315 true)))) else (temperalaw21_CodeBack.j0 k l0 t315 true))) else (if (t309.length : Int) = 0 then (if t310 = t313 then ((temperalaw21_awake.f k).bind fun t314 => (some t314)) else (some false)) else (some false)))) = some r := H
  have A4 := Aside0.mk A40
  clear A40
  replace H := Option.bind_eq_some_iff.mp H
  obtain ⟨t313, A50, H⟩ := H
  replace H : (if t313 = 0 then ((code_Decode.f t309).bind fun t315 => (if t310 = 0 then ((temperaref21_Encode.f k l0).bind fun t318 => ((temperaref21_Bytes.f k t309 t318).bind fun t321 => (if t321 = true then (temperalaw21_CodeBack.j0 k l0 t315 ((t315.length : Int) != (l0.length : Int))) else (temperalaw21_CodeBack.j0 k l0 t315 true)))) else (temperalaw21_CodeBack.j0 k l0 t315 true))) else (if (t309.length : Int) = 0 then (if t310 = t313 then ((temperalaw21_awake.f k).bind fun t314 => (some t314)) else (some false)) else (some false))) = some r := H
  have A5 := Aside0.mk A50
  clear A50
  by_cases c6 : t313 = 0
  ·rw [if_pos c6] at H
   have c6b0 : (t313 == 0) = true := beq_iff_eq.mpr c6
   have c6b1 : (t313 != 0) = false := bne_eq_false_iff_eq.mpr c6
   clear c6
   replace H := Option.bind_eq_some_iff.mp H
   obtain ⟨t315, A70, H⟩ := H
   replace H : (if t310 = 0 then ((temperaref21_Encode.f k l0).bind fun t318 => ((temperaref21_Bytes.f k t309 t318).bind fun t321 => (if t321 = true then (temperalaw21_CodeBack.j0 k l0 t315 ((t315.length : Int) != (l0.length : Int))) else (temperalaw21_CodeBack.j0 k l0 t315 true)))) else (temperalaw21_CodeBack.j0 k l0 t315 true)) = some r := H
   have A7 := Aside0.mk A70
   clear A70
   have HC8 := Aside0.mk H
   clear H
   go_enter Try.func3, Try.ntmps3
   go_upto_region 8 with (first | ((with_reducible refine gate_callee (f := 6) rfl ?_); refine goesL_ (some 9) rfl rfl Try.func6 (by kernel_rfl) rfl #[.slice A0 l0.length c0, .int .i64 20] rfl (by (try simp only [List.map_toArray, List.map_cons, List.map_nil]); first | done | rfl | (simp only [List.length_drop, List.length_take]; rfl)) ?_; (with_reducible refine (temperaref21_Light.calls k _ _ l0 20 true _ ?side1 ?side2 A2.out).mono ?_); (case side1 => repeat (first | exact HR0.out | (with_reducible refine Kd.C_alloc ?_ _) | (with_reducible refine Kd.C_drewN ?_ _) | (with_reducible refine Kd.C_drew ?_))); (case side2 => exact HC0.out); rintro e w9 ⟨rfl, hb⟩; refine ⟨_, rfl, ?_⟩; have n0_ := Aside0.mk (below_step (by repeat (first | (with_reducible first | exact HB.out | apply below_alloc | apply pw_below_drewN | apply below_drew1) | exact HB.out)) hb); clear HB; have HB := n0_; clear n0_; (try clear hb); (try clear hb2); (try clear hk); (try clear hi)) | ((with_reducible refine gate_callee (f := 8) rfl ?_); refine goesL_ (some 14) rfl rfl Try.func8 (by kernel_rfl) rfl #[.slice A0 l0.length c0] rfl (by (try simp only [List.map_toArray, List.map_cons, List.map_nil]); first | done | rfl | (simp only [List.length_drop, List.length_take]; rfl)) ?_; (with_reducible refine (code_Encode.calls k _ _ l0 t309 t310 _ ?side1 ?side2 A4.out).mono ?_); (case side1 => repeat (first | exact (Kd.C_below HR0.out HB.out) | (with_reducible refine Kd.C_alloc ?_ _) | (with_reducible refine Kd.C_drewN ?_ _) | (with_reducible refine Kd.C_drew ?_))); (case side2 => exact HC0.out); rintro e w10 ⟨v311, rfl, ho0, hb⟩; refine ⟨_, rfl, ?_⟩; have n0_ := Aside0.mk (Kd.R_lower ho0 (below_size (by repeat (first | (with_reducible first | exact HB.out | apply below_alloc | apply pw_below_drewN | apply below_drew1) | exact HB.out)))); have n1_ := Aside0.mk (below_step (by repeat (first | (with_reducible first | exact HB.out | apply below_alloc | apply pw_below_drewN | apply below_drew1) | exact HB.out)) hb); clear HB; have HO312 := n0_; have HB := n1_; clear n0_ n1_; (try clear hb); (try clear hb2); (try clear hk); (try clear hi); (try clear ho0)) | ((with_reducible refine gate_callee (f := 9) rfl ?_); refine goesL_ (some 18) rfl rfl Try.func9 (by kernel_rfl) rfl #[.slice A0 l0.length c0] rfl (by (try simp only [List.map_toArray, List.map_cons, List.map_nil]); first | done | rfl | (simp only [List.length_drop, List.length_take]; rfl)) ?_; (with_reducible refine (temperaref21_Check.calls k _ _ l0 t313 _ ?side1 ?side2 A5.out).mono ?_); (case side1 => repeat (first | exact (Kd.C_below HR0.out HB.out) | (with_reducible refine Kd.C_alloc ?_ _) | (with_reducible refine Kd.C_drewN ?_ _) | (with_reducible refine Kd.C_drew ?_))); (case side2 => exact HC0.out); rintro e w11 ⟨rfl, hb⟩; refine ⟨_, rfl, ?_⟩; have n0_ := Aside0.mk (Kd.R_below (by (with_reducible repeat (first | apply Kd.R_alloc | apply Kd.R_drewN | apply Kd.R_drew)); exact HO312.out) hb); have n1_ := Aside0.mk (below_step (by repeat (first | (with_reducible first | exact HB.out | apply below_alloc | apply pw_below_drewN | apply below_drew1) | exact HB.out)) hb); clear HO312; clear HB; have HO312 := n0_; have HB := n1_; clear n0_ n1_; (try clear hb); (try clear hb2); (try clear hk); (try clear hi); obtain ⟨Ao12, co12, eo12⟩ := Kd.R_slice HO312.out; subst eo12) | ((with_reducible refine gate_callee (f := 10) rfl ?_); refine goesL_ (some 33) rfl rfl Try.func10 (by kernel_rfl) rfl #[.slice Ao12 t309.length co12] rfl (by (try simp only [List.map_toArray, List.map_cons, List.map_nil]); first | done | rfl | (simp only [List.length_drop, List.length_take]; rfl)) ?_; (with_reducible refine (code_Decode.calls _ _ t309 t315 _ ?side1 ?side2 A7.out).mono ?_); (case side1 => repeat (first | exact (Kd.R_reads' HO312.out).2.2 | (with_reducible refine Kd.C_alloc ?_ _) | (with_reducible refine Kd.C_drewN ?_ _) | (with_reducible refine Kd.C_drew ?_))); (case side2 => exact (Kd.R_reads' HO312.out).2.1); rintro e w13 ⟨v316, rfl, ho0, hb⟩; refine ⟨_, rfl, ?_⟩; have n0_ := Aside0.mk (Kd.R_below (by (with_reducible repeat (first | apply Kd.R_alloc | apply Kd.R_drewN | apply Kd.R_drew)); exact HO312.out) hb); have n1_ := Aside0.mk (Kd.S_lower ho0 (below_size (by repeat (first | (with_reducible first | exact HB.out | apply below_alloc | apply pw_below_drewN | apply below_drew1) | exact HB.out)))); have n2_ := Aside0.mk (below_step (by repeat (first | (with_reducible first | exact HB.out | apply below_alloc | apply pw_below_drewN | apply below_drew1) | exact HB.out)) hb); clear HO312; clear HB; have HO312 := n0_; have HO317 := n1_; have HB := n2_; clear n0_ n1_ n2_; (try clear hb); (try clear hb2); (try clear hk); (try clear hi); (try clear ho0)))
   (try simp only [Act.put, List.setIfInBounds_toArray, List.set_cons_zero, List.set_cons_succ])
   go_cut [49] (fun v49 wc => ∃ (kq : Nat) (x49_7 : Bool), v49 = .bool x49_7 ∧ Aside0 (temperalaw21_CodeBack.j0 kq l0 t315 x49_7 = some r) ∧ Aside0 (kq ≤ k) ∧ Aside0 (Kd.S k39 39 wc w.heap.size (fun _ => True) v316 t315) ∧ Aside0 (Below w.heap.size w wc))
   case first =>
    have H := HC8.out
    clear HC8
    by_cases c14 : t310 = 0
    ·rw [if_pos c14] at H
     have c14b0 : (t310 == 0) = true := beq_iff_eq.mpr c14
     have c14b1 : (t310 != 0) = false := bne_eq_false_iff_eq.mpr c14
     clear c14
     (first | rw [c14b0] | (simp only [i64_w, i32_w]; rw [c14b0]) | skip)
     replace H := Option.bind_eq_some_iff.mp H
     obtain ⟨t318, A150, H⟩ := H
     replace H : ((temperaref21_Bytes.f k t309 t318).bind fun t321 => (if t321 = true then (temperalaw21_CodeBack.j0 k l0 t315 ((t315.length : Int) != (l0.length : Int))) else (temperalaw21_CodeBack.j0 k l0 t315 true))) = some r := H
     have A15 := Aside0.mk A150
     clear A150
     replace H := Option.bind_eq_some_iff.mp H
     obtain ⟨t321, A160, H⟩ := H
     replace H : (if t321 = true then (temperalaw21_CodeBack.j0 k l0 t315 ((t315.length : Int) != (l0.length : Int))) else (temperalaw21_CodeBack.j0 k l0 t315 true)) = some r := H
     have A16 := Aside0.mk A160
     clear A160
     by_cases c17 : t321 = true
     ·subst c17
      have H1 : (temperalaw21_CodeBack.j0 k l0 t315 ((t315.length : Int) != (l0.length : Int))) = some r := by rw [if_pos rfl] at H; exact H
      clear H
      have H := H1
      clear H1
      have H' := Aside0.mk H
      clear H
      go_wp2_with (first | (go_at_call 12; (with_reducible refine (temperaref21_Encode.calls k _ _ l0 t318 _ ?side1 ?side2 A15.out).mono ?_); (case side1 => repeat (first | exact (Kd.C_below HR0.out HB.out) | (with_reducible refine Kd.C_alloc ?_ _) | (with_reducible refine Kd.C_drewN ?_ _) | (with_reducible refine Kd.C_drew ?_))); (case side2 => exact HC0.out); rintro e w18 ⟨v319, rfl, ho0, hb⟩; have n0_ := Aside0.mk (Kd.R_elder' (by (with_reducible repeat (first | apply Kd.R_alloc | apply Kd.R_drewN | apply Kd.R_drew)); exact HO312.out) (Kd.R_base ho0) hb); have n1_ := Aside0.mk (Kd.S_below (by (with_reducible repeat (first | apply Kd.S_alloc | apply Kd.S_drewN | apply Kd.S_drew)); exact HO317.out) hb); have n2_ := Aside0.mk (Kd.R_lower (Kd.R_new' ho0 (Kd.R_lt (by (with_reducible repeat (first | apply Kd.R_alloc | apply Kd.R_drewN | apply Kd.R_drew)); exact HO312.out))) (below_size (by repeat (first | (with_reducible first | exact HB.out | apply below_alloc | apply pw_below_drewN | apply below_drew1) | exact HB.out)))); have n3_ := Aside0.mk (below_step (by repeat (first | (with_reducible first | exact HB.out | apply below_alloc | apply pw_below_drewN | apply below_drew1) | exact HB.out)) hb); clear HO312; clear HO317; clear HB; have HO312 := n0_; have HO317 := n1_; have HO320 := n2_; have HB := n3_; clear n0_ n1_ n2_ n3_; (try clear hb); (try clear hb2); (try clear hk); (try clear hi); (try clear ho0); obtain ⟨Ao19, co19, eo19⟩ := Kd.R_slice HO320.out; subst eo19) | (go_at_call 11; (with_reducible refine (temperaref21_Bytes.calls k _ _ t309 _ _ t318 true _ ?side1 ?side2 ?side3 ?side4 A16.out).mono ?_); (case side1 => repeat (first | exact (Kd.R_reads' HO312.out).2.2 | (with_reducible refine Kd.C_alloc ?_ _) | (with_reducible refine Kd.C_drewN ?_ _) | (with_reducible refine Kd.C_drew ?_))); (case side2 => exact (Kd.R_reads' HO312.out).2.1); (case side3 => repeat (first | exact (Kd.R_reads' HO320.out).2.2 | (with_reducible refine Kd.C_alloc ?_ _) | (with_reducible refine Kd.C_drewN ?_ _) | (with_reducible refine Kd.C_drew ?_))); (case side4 => exact (Kd.R_reads' HO320.out).2.1); rintro e w' ⟨rfl, ⟨nd, rfl⟩⟩; obtain ⟨Ao20, co20, eo20⟩ := Kd.S_slice HO317.out; subst eo20))
      go_meet
      case rel => exact ⟨_, (((t315.length : Int) != (l0.length : Int))), (by first | rfl | (simp; done) | (simp [*]; done)), H', ⟨by first | omega | exact Nat.le_refl _⟩, ⟨by (with_reducible repeat (first | apply Kd.S_alloc | apply Kd.S_drewN | apply Kd.S_drew)); exact HO317.out⟩, ⟨by repeat (first | (with_reducible first | exact HB.out | apply below_alloc | apply pw_below_drewN | apply below_drew1) | exact HB.out)⟩⟩
     ·replace c17 := Bool.eq_false_iff.mpr c17
      subst c17
      have H1 : (temperalaw21_CodeBack.j0 k l0 t315 true) = some r := by rw [if_neg (show ¬ (false = true) by decide)] at H; exact H
      clear H
      have H := H1
      clear H1
      have H' := Aside0.mk H
      clear H
      go_wp2_with (first | (go_at_call 12; (with_reducible refine (temperaref21_Encode.calls k _ _ l0 t318 _ ?side1 ?side2 A15.out).mono ?_); (case side1 => repeat (first | exact (Kd.C_below HR0.out HB.out) | (with_reducible refine Kd.C_alloc ?_ _) | (with_reducible refine Kd.C_drewN ?_ _) | (with_reducible refine Kd.C_drew ?_))); (case side2 => exact HC0.out); rintro e w21 ⟨v319, rfl, ho0, hb⟩; have n0_ := Aside0.mk (Kd.R_elder' (by (with_reducible repeat (first | apply Kd.R_alloc | apply Kd.R_drewN | apply Kd.R_drew)); exact HO312.out) (Kd.R_base ho0) hb); have n1_ := Aside0.mk (Kd.S_below (by (with_reducible repeat (first | apply Kd.S_alloc | apply Kd.S_drewN | apply Kd.S_drew)); exact HO317.out) hb); have n2_ := Aside0.mk (Kd.R_lower (Kd.R_new' ho0 (Kd.R_lt (by (with_reducible repeat (first | apply Kd.R_alloc | apply Kd.R_drewN | apply Kd.R_drew)); exact HO312.out))) (below_size (by repeat (first | (with_reducible first | exact HB.out | apply below_alloc | apply pw_below_drewN | apply below_drew1) | exact HB.out)))); have n3_ := Aside0.mk (below_step (by repeat (first | (with_reducible first | exact HB.out | apply below_alloc | apply pw_below_drewN | apply below_drew1) | exact HB.out)) hb); clear HO312; clear HO317; clear HB; have HO312 := n0_; have HO317 := n1_; have HO320 := n2_; have HB := n3_; clear n0_ n1_ n2_ n3_; (try clear hb); (try clear hb2); (try clear hk); (try clear hi); (try clear ho0); obtain ⟨Ao22, co22, eo22⟩ := Kd.R_slice HO320.out; subst eo22) | (go_at_call 11; (with_reducible refine (temperaref21_Bytes.calls k _ _ t309 _ _ t318 false _ ?side1 ?side2 ?side3 ?side4 A16.out).mono ?_); (case side1 => repeat (first | exact (Kd.R_reads' HO312.out).2.2 | (with_reducible refine Kd.C_alloc ?_ _) | (with_reducible refine Kd.C_drewN ?_ _) | (with_reducible refine Kd.C_drew ?_))); (case side2 => exact (Kd.R_reads' HO312.out).2.1); (case side3 => repeat (first | exact (Kd.R_reads' HO320.out).2.2 | (with_reducible refine Kd.C_alloc ?_ _) | (with_reducible refine Kd.C_drewN ?_ _) | (with_reducible refine Kd.C_drew ?_))); (case side4 => exact (Kd.R_reads' HO320.out).2.1); rintro e w' ⟨rfl, ⟨nd, rfl⟩⟩))
      go_meet
      case rel => exact ⟨_, (true), (by first | rfl | (simp; done) | (simp [*]; done)), H', ⟨by first | omega | exact Nat.le_refl _⟩, ⟨by (with_reducible repeat (first | apply Kd.S_alloc | apply Kd.S_drewN | apply Kd.S_drew)); exact HO317.out⟩, ⟨by repeat (first | (with_reducible first | exact HB.out | apply below_alloc | apply pw_below_drewN | apply below_drew1) | exact HB.out)⟩⟩
    ·rw [if_neg c14] at H
     have c14b0 : (t310 == 0) = false := beq_eq_false_iff_ne.mpr c14
     have c14b1 : (t310 != 0) = true := bne_iff_ne.mpr c14
     (first | rw [c14b0] | (simp only [i64_w, i32_w]; rw [c14b0]) | skip)
     have H' := Aside0.mk H
     clear H
     go_wp2
     go_meet
     case rel => exact ⟨_, (true), (by first | rfl | (simp; done) | (simp [*]; done)), H', ⟨by first | omega | exact Nat.le_refl _⟩, ⟨by (with_reducible repeat (first | apply Kd.S_alloc | apply Kd.S_drewN | apply Kd.S_drew)); exact HO317.out⟩, ⟨by repeat (first | (with_reducible first | exact HB.out | apply below_alloc | apply pw_below_drewN | apply below_drew1) | exact HB.out)⟩⟩
   case rest =>
    clear HC8
    try clear c1
    try clear p2
    try clear c3
    try clear c6
    try clear c6b0
    try clear c6b1
    try clear c8
    try clear c9
    try clear c10
    try clear c14
    try clear c14b0
    try clear c14b1
    try clear c17
    obtain ⟨kq, x49_7, rfl, HA, HJ7, HO_6, HB⟩ := hcut
    cases kq with
    | zero => exact absurd HA.out (by simp [temperalaw21_CodeBack.j0])
    | succ kj7 =>
     have H := HA.out
     clear HA
     simp only [temperalaw21_CodeBack.j0] at H
     by_cases c23 : x49_7 = true
     ·subst c23
      have H1 : (some false) = some r := by rw [if_pos rfl] at H; exact H
      clear H
      have H := H1
      clear H1
      obtain rfl := Option.some.inj H
      go_wp2
      go_ret
      exact ⟨by first | rfl | (simp [errW_none, errW_some] <;> rfl) | (simp [*, errW_none, errW_some] <;> rfl), by repeat (first | (with_reducible first | exact HB.out | apply below_alloc | apply pw_below_drewN | apply below_drew1) | exact HB.out)⟩
     ·replace c23 := Bool.eq_false_iff.mpr c23
      subst c23
      have H1 : (temperalaw21_CodeBack.l0 kj7 l0 t315 0) = some r := by rw [if_neg (show ¬ (false = true) by decide)] at H; exact H
      clear H
      have H := H1
      clear H1
      have H' := Aside0.mk H
      clear H
      go_wp2
      go_loopg [7] kj7 (fun kq v7 w' => ∃ (x7_2 : Int), v7 = .int .i64 x7_2 ∧ Aside0 (temperalaw21_CodeBack.l0 kq l0 t315 x7_2 = some r) ∧ Aside0 (kq ≤ kj7) ∧ Aside0 (Kd.S k39 39 w' w.heap.size (fun _ => True) v316 t315) ∧ Aside0 (Below w.heap.size w w'))
      case atStart => exact ⟨(0), (by first | rfl | (simp; done) | (simp [*]; done)), H', ⟨Nat.le_refl _⟩, ⟨by (with_reducible repeat (first | apply Kd.S_alloc | apply Kd.S_drewN | apply Kd.S_drew)); exact HO_6.out⟩, ⟨by repeat (first | (with_reducible first | exact HB.out | apply below_alloc | apply pw_below_drewN | apply below_drew1) | exact HB.out)⟩⟩
      case round =>
       clear H'
       try clear c1
       try clear c2
       try clear p2
       try clear c3
       try clear c6
       try clear c6b0
       try clear c6b1
       try clear c8
       try clear c9
       try clear c10
       try clear c14
       try clear c14b0
       try clear c14b1
       try clear c17
       try clear c23
       try clear p2
       obtain ⟨x7_2, rfl, HA, HK2, HO_6, HB⟩ := hrel
       cases gk with
       | zero => exact absurd HA.out (by simp [temperalaw21_CodeBack.l0])
       | succ k2 =>
        have H := HA.out
        clear HA
        simp only [temperalaw21_CodeBack.l0] at H
        by_cases c24 : x7_2 < (l0.length : Int)
        ·rw [if_pos c24] at H
         have c24b0 : decide (x7_2 < (l0.length : Int)) = true := decide_eq_true c24
         clear c24
         by_cases c25 : 0 ≤ x7_2
         ·rw [if_pos c25] at H
          have c25b0 : decide (0 ≤ x7_2) = true := decide_eq_true c25
          clear c25
          by_cases c26 : x7_2 < (t315.length : Int)
          ·rw [if_pos c26] at H
           have c26b0 : decide (x7_2 < (t315.length : Int)) = true := decide_eq_true c26
           clear c26
           by_cases c27 : ((rd_T39 t315 x7_2).f1) = 0
           ·rw [if_pos c27] at H
            have c27b0 : (((rd_T39 t315 x7_2).f1) == 0) = true := beq_iff_eq.mpr c27
            have c27b1 : (((rd_T39 t315 x7_2).f1) != 0) = false := bne_eq_false_iff_eq.mpr c27
            clear c27
            replace H := Option.bind_eq_some_iff.mp H
            obtain ⟨⟨t326, t327, t328, t329, t330, t331, t332, t335⟩, A280, H⟩ := H
            replace H : ((temperaref20_Same.f k2 ((rd_T39 t315 x7_2).f0.f0) ((rd_T39 t315 x7_2).f0.f1) ((rd_T39 t315 x7_2).f0.f2) ((rd_T39 t315 x7_2).f0.f3) ((rd_T39 t315 x7_2).f0.f4) ((rd_T39 t315 x7_2).f0.f5) ((rd_T39 t315 x7_2).f0.f6) ((rd_T39 t315 x7_2).f0.f7) t326 t327 t328 t329 t330 t331 t332 t335).bind fun t338 => (if t338 = true then (temperalaw21_CodeBack.l0 k2 l0 t315 (wrap64 (x7_2 + 1))) else (some false))) = some r := H
            have A28 := Aside0.mk A280
            clear A280
            replace H := Option.bind_eq_some_iff.mp H
            obtain ⟨t338, A290, H⟩ := H
            replace H : (if t338 = true then (temperalaw21_CodeBack.l0 k2 l0 t315 (wrap64 (x7_2 + 1))) else (some false)) = some r := H
            have A29 := Aside0.mk A290
            clear A290
            by_cases c30 : t338 = true
            ·subst c30
             have H1 : (temperalaw21_CodeBack.l0 k2 l0 t315 (wrap64 (x7_2 + 1))) = some r := by rw [if_pos rfl] at H; exact H
             clear H
             have H := H1
             clear H1
             have H' := Aside0.mk H
             clear H
             try go_wp2
             have n0_ := Aside0.mk (Kd.S_drew HO_6.out)
             have n1_ := Aside0.mk (below_drew1 HB.out)
             clear HO_6
             clear HB
             have HO_6 := n0_
             have HB := n1_
             clear n0_ n1_
             obtain ⟨Ao32, co32, eo32⟩ := Kd.S_slice HO_6.out
             (first | subst eo32 | (injection eo32 with f1_ f2_ f3_; have f4_ := f1_.symm; have f5_ := f3_.symm; clear f1_ f2_ f3_; subst f4_; subst f5_))
             have p323 : 0 ≤ (x7_2 : Int) := of_decide_eq_true (by first | (with_reducible assumption) | assumption)
             have q323 : x7_2 < (t315.length : Int) := of_decide_eq_true (by first | (with_reducible assumption) | assumption)
             obtain ⟨ad323, A323_6, c323_6, A323_7, c323_7, e323, hx323_0, hx323_1, hx323_2, hx323_3, hx323_4, hx323_5, hx323_6, hx323_7, hx323_8, hl323_6, hi323_6, hl323_7, hi323_7⟩ := at_T39 (Kd.S_reads' HO_6.out).2.2 x7_2 p323 q323
             cases e323
             obtain ⟨ce323, hce323, hMe323, hcc323⟩ := Kd.S_get HO_6.out z39 x7_2 p323 (by first | exact q323 | exact of_decide_eq_true (by first | (with_reducible assumption) | assumption) | (have e_ := (Kd.S_reads' HO_6.out).1; omega))
             obtain ⟨ve323_6, ve323_7, rfl, ge323_6, ge323_7⟩ := k39_openM hMe323
             have hv323_6 := hcc323 6 _ rfl
             rw [add_field _ _ 6 (by omega)] at hv323_6
             replace hv323_6 := Option.some.inj (hv323_6.symm.trans hx323_6)
             rw [hv323_6] at ge323_6
             have HL323_6 := Aside0.mk (show Kd.R (Kd.int .i64) 3 _ _ _ _ ((rd_T39 t315 x7_2).f0.f6) from ge323_6)
             clear hv323_6 ge323_6
             have hv323_7 := hcc323 7 _ rfl
             rw [add_field _ _ 7 (by omega)] at hv323_7
             replace hv323_7 := Option.some.inj (hv323_7.symm.trans hx323_7)
             rw [hv323_7] at ge323_7
             have HL323_7 := Aside0.mk (show Kd.R k62 62 _ _ _ _ ((rd_T39 t315 x7_2).f0.f7) from ge323_7)
             clear hv323_7 ge323_7
             clear hcc323 hce323
             have HR323_6 := Aside0.mk hi323_6
             have HC323_6 := Aside0.mk hl323_6
             clear hi323_6 hl323_6
             have HR323_7 := Aside0.mk hi323_7
             have HC323_7 := Aside0.mk hl323_7
             clear hi323_7 hl323_7
             replace p323 := eq_true p323
             replace q323 := eq_true q323
             have p324 : 0 ≤ (x7_2 : Int) := of_decide_eq_true (by first | (with_reducible assumption) | assumption)
             have q324 : x7_2 < (t315.length : Int) := of_decide_eq_true (by first | (with_reducible assumption) | assumption)
             obtain ⟨ad324, A324_6, c324_6, A324_7, c324_7, e324, hx324_0, hx324_1, hx324_2, hx324_3, hx324_4, hx324_5, hx324_6, hx324_7, hx324_8, hl324_6, hi324_6, hl324_7, hi324_7⟩ := at_T39 (Kd.S_reads' HO_6.out).2.2 x7_2 p324 q324
             obtain rfl : ad323 = ad324 := (by injection e324)
             obtain ⟨ce324, hce324, hMe324, hcc324⟩ := Kd.S_get HO_6.out z39 x7_2 p324 (by first | exact q324 | exact of_decide_eq_true (by first | (with_reducible assumption) | assumption) | (have e_ := (Kd.S_reads' HO_6.out).1; omega))
             obtain ⟨ve324_6, ve324_7, rfl, ge324_6, ge324_7⟩ := k39_openM hMe324
             have hv324_6 := hcc324 6 _ rfl
             rw [add_field _ _ 6 (by omega)] at hv324_6
             replace hv324_6 := Option.some.inj (hv324_6.symm.trans hx324_6)
             rw [hv324_6] at ge324_6
             have HL324_6 := Aside0.mk (show Kd.R (Kd.int .i64) 3 _ _ _ _ ((rd_T39 t315 x7_2).f0.f6) from ge324_6)
             clear hv324_6 ge324_6
             have hv324_7 := hcc324 7 _ rfl
             rw [add_field _ _ 7 (by omega)] at hv324_7
             replace hv324_7 := Option.some.inj (hv324_7.symm.trans hx324_7)
             rw [hv324_7] at ge324_7
             have HL324_7 := Aside0.mk (show Kd.R k62 62 _ _ _ _ ((rd_T39 t315 x7_2).f0.f7) from ge324_7)
             clear hv324_7 ge324_7
             clear hcc324 hce324
             have HR324_6 := Aside0.mk hi324_6
             have HC324_6 := Aside0.mk hl324_6
             clear hi324_6 hl324_6
             have HR324_7 := Aside0.mk hi324_7
             have HC324_7 := Aside0.mk hl324_7
             clear hi324_7 hl324_7
             replace p324 := eq_true p324
             replace q324 := eq_true q324
             have ea_ := Option.some.inj (hx323_6.symm.trans hx324_6)
             injection ea_ with ea_ en_ ec_
             subst ea_
             subst ec_
             clear en_
             have ea_ := Option.some.inj (hx323_7.symm.trans hx324_7)
             injection ea_ with ea_ en_ ec_
             subst ea_
             subst ec_
             clear en_
             have p325 : 0 ≤ (x7_2 : Int) := of_decide_eq_true (by first | (with_reducible assumption) | assumption)
             have q325 : x7_2 < (l0.length : Int) := of_decide_eq_true (by first | (with_reducible assumption) | assumption)
             obtain ⟨ad325, A325_6, c325_6, A325_7, c325_7, e325, hx325_0, hx325_1, hx325_2, hx325_3, hx325_4, hx325_5, hx325_6, hx325_7, hl325_6, hi325_6, hl325_7, hi325_7⟩ := at_T37 HR0.out x7_2 p325 q325
             have hw325_7 := hx325_7
             have hw325_6 := hx325_6
             have hw325_5 := hx325_5
             have hw325_4 := hx325_4
             have hw325_3 := hx325_3
             have hw325_2 := hx325_2
             have hw325_1 := hx325_1
             have hw325_0 := hx325_0
             cases e325
             replace hx325_0 := (HB.out.cell (World.block_lt_of_cell? w _ hx325_0)).trans hx325_0
             replace hx325_1 := (HB.out.cell (World.block_lt_of_cell? w _ hx325_1)).trans hx325_1
             replace hx325_2 := (HB.out.cell (World.block_lt_of_cell? w _ hx325_2)).trans hx325_2
             replace hx325_3 := (HB.out.cell (World.block_lt_of_cell? w _ hx325_3)).trans hx325_3
             replace hx325_4 := (HB.out.cell (World.block_lt_of_cell? w _ hx325_4)).trans hx325_4
             replace hx325_5 := (HB.out.cell (World.block_lt_of_cell? w _ hx325_5)).trans hx325_5
             replace hx325_6 := (HB.out.cell (World.block_lt_of_cell? w _ hx325_6)).trans hx325_6
             replace hx325_7 := (HB.out.cell (World.block_lt_of_cell? w _ hx325_7)).trans hx325_7
             have HR325_6 := Aside0.mk hi325_6
             have HC325_6 := Aside0.mk hl325_6
             clear hi325_6 hl325_6
             have HR325_7 := Aside0.mk hi325_7
             have HC325_7 := Aside0.mk hl325_7
             clear hi325_7 hl325_7
             replace p325 := eq_true p325
             replace q325 := eq_true q325
             refine start_ (n := 20) (S := fun w' => w'.cell? (ad323.add ((x7_2).toNat * 9)) = some (.int .i64 ((rd_T39 t315 x7_2).f0.f0)) ∧ w'.cell? ⟨(ad323.add ((x7_2).toNat * 9)).block, (ad323.add ((x7_2).toNat * 9)).off + 1, none⟩ = some (.int .i64 ((rd_T39 t315 x7_2).f0.f1)) ∧ w'.cell? ⟨(ad323.add ((x7_2).toNat * 9)).block, (ad323.add ((x7_2).toNat * 9)).off + 2, none⟩ = some (.int .i64 ((rd_T39 t315 x7_2).f0.f2)) ∧ w'.cell? ⟨(ad323.add ((x7_2).toNat * 9)).block, (ad323.add ((x7_2).toNat * 9)).off + 3, none⟩ = some (.int .i64 ((rd_T39 t315 x7_2).f0.f3)) ∧ w'.cell? ⟨(ad323.add ((x7_2).toNat * 9)).block, (ad323.add ((x7_2).toNat * 9)).off + 4, none⟩ = some (.int .i64 ((rd_T39 t315 x7_2).f0.f4)) ∧ w'.cell? ⟨(ad323.add ((x7_2).toNat * 9)).block, (ad323.add ((x7_2).toNat * 9)).off + 5, none⟩ = some (.int .i64 ((rd_T39 t315 x7_2).f0.f5)) ∧ w'.cell? ⟨(ad323.add ((x7_2).toNat * 9)).block, (ad323.add ((x7_2).toNat * 9)).off + 6, none⟩ = some (.slice A323_6 ((rd_T39 t315 x7_2).f0.f6).length c323_6) ∧ w'.cell? ⟨(ad323.add ((x7_2).toNat * 9)).block, (ad323.add ((x7_2).toNat * 9)).off + 7, none⟩ = some (.slice A323_7 ((rd_T39 t315 x7_2).f0.f7).length c323_7) ∧ w'.cell? ⟨(ad323.add ((x7_2).toNat * 9)).block, (ad323.add ((x7_2).toNat * 9)).off + 8, none⟩ = some (.int .i64 ((rd_T39 t315 x7_2).f1)) ∧ w'.cell? (ad323.add ((x7_2).toNat * 9)) = some (.int .i64 ((rd_T39 t315 x7_2).f0.f0)) ∧ w'.cell? ⟨(ad323.add ((x7_2).toNat * 9)).block, (ad323.add ((x7_2).toNat * 9)).off + 1, none⟩ = some (.int .i64 ((rd_T39 t315 x7_2).f0.f1)) ∧ w'.cell? ⟨(ad323.add ((x7_2).toNat * 9)).block, (ad323.add ((x7_2).toNat * 9)).off + 2, none⟩ = some (.int .i64 ((rd_T39 t315 x7_2).f0.f2)) ∧ w'.cell? ⟨(ad323.add ((x7_2).toNat * 9)).block, (ad323.add ((x7_2).toNat * 9)).off + 3, none⟩ = some (.int .i64 ((rd_T39 t315 x7_2).f0.f3)) ∧ w'.cell? ⟨(ad323.add ((x7_2).toNat * 9)).block, (ad323.add ((x7_2).toNat * 9)).off + 4, none⟩ = some (.int .i64 ((rd_T39 t315 x7_2).f0.f4)) ∧ w'.cell? ⟨(ad323.add ((x7_2).toNat * 9)).block, (ad323.add ((x7_2).toNat * 9)).off + 5, none⟩ = some (.int .i64 ((rd_T39 t315 x7_2).f0.f5)) ∧ w'.cell? ⟨(ad323.add ((x7_2).toNat * 9)).block, (ad323.add ((x7_2).toNat * 9)).off + 6, none⟩ = some (.slice A323_6 ((rd_T39 t315 x7_2).f0.f6).length c323_6) ∧ w'.cell? ⟨(ad323.add ((x7_2).toNat * 9)).block, (ad323.add ((x7_2).toNat * 9)).off + 7, none⟩ = some (.slice A323_7 ((rd_T39 t315 x7_2).f0.f7).length c323_7) ∧ w'.cell? ⟨(ad323.add ((x7_2).toNat * 9)).block, (ad323.add ((x7_2).toNat * 9)).off + 8, none⟩ = some (.int .i64 ((rd_T39 t315 x7_2).f1)) ∧ w'.cell? (ad325.add ((x7_2).toNat * 8)) = some (.int .i64 ((rd_T37 l0 x7_2).f0)) ∧ w'.cell? ⟨(ad325.add ((x7_2).toNat * 8)).block, (ad325.add ((x7_2).toNat * 8)).off + 1, none⟩ = some (.int .i64 ((rd_T37 l0 x7_2).f1)) ∧ w'.cell? ⟨(ad325.add ((x7_2).toNat * 8)).block, (ad325.add ((x7_2).toNat * 8)).off + 2, none⟩ = some (.int .i64 ((rd_T37 l0 x7_2).f2)) ∧ w'.cell? ⟨(ad325.add ((x7_2).toNat * 8)).block, (ad325.add ((x7_2).toNat * 8)).off + 3, none⟩ = some (.int .i64 ((rd_T37 l0 x7_2).f3)) ∧ w'.cell? ⟨(ad325.add ((x7_2).toNat * 8)).block, (ad325.add ((x7_2).toNat * 8)).off + 4, none⟩ = some (.int .i64 ((rd_T37 l0 x7_2).f4)) ∧ w'.cell? ⟨(ad325.add ((x7_2).toNat * 8)).block, (ad325.add ((x7_2).toNat * 8)).off + 5, none⟩ = some (.int .i64 ((rd_T37 l0 x7_2).f5)) ∧ w'.cell? ⟨(ad325.add ((x7_2).toNat * 8)).block, (ad325.add ((x7_2).toNat * 8)).off + 6, none⟩ = some (.slice A325_6 ((rd_T37 l0 x7_2).f6).length c325_6) ∧ w'.cell? ⟨(ad325.add ((x7_2).toNat * 8)).block, (ad325.add ((x7_2).toNat * 8)).off + 7, none⟩ = some (.slice A325_7 ((rd_T37 l0 x7_2).f7).length c325_7)) (ds := []) #[false, false, false, false, false, false, false, false, false, false, false, false, false, false, false, false, false, false, false, false] (by kernel_rfl) rfl rfl ⟨hx323_0, hx323_1, hx323_2, hx323_3, hx323_4, hx323_5, hx323_6, hx323_7, hx323_8, hx324_0, hx324_1, hx324_2, hx324_3, hx324_4, hx324_5, hx324_6, hx324_7, hx324_8, ((HB.out.cell (World.block_lt_of_cell? w _ hw325_0)).trans hw325_0), ((HB.out.cell (World.block_lt_of_cell? w _ hw325_1)).trans hw325_1), ((HB.out.cell (World.block_lt_of_cell? w _ hw325_2)).trans hw325_2), ((HB.out.cell (World.block_lt_of_cell? w _ hw325_3)).trans hw325_3), ((HB.out.cell (World.block_lt_of_cell? w _ hw325_4)).trans hw325_4), ((HB.out.cell (World.block_lt_of_cell? w _ hw325_5)).trans hw325_5), ((HB.out.cell (World.block_lt_of_cell? w _ hw325_6)).trans hw325_6), ((HB.out.cell (World.block_lt_of_cell? w _ hw325_7)).trans hw325_7)⟩ (fun hHeld => ?_); refine with_tabW temperalaw21_CodeBack.tab13 temperalaw21_CodeBack.bits13 (fun HT_ HW_ => ?_)
             generalize wr.drew = w31 at HO_6 HB HL323_6 HL323_7 HL324_6 HL324_7 HR323_6 HR323_7 HR324_6 HR324_7 HR325_6 HR325_7 hx323_0 hx323_1 hx323_2 hx323_3 hx323_4 hx323_5 hx323_6 hx323_7 hx323_8 hx324_0 hx324_1 hx324_2 hx324_3 hx324_4 hx324_5 hx324_6 hx324_7 hx324_8 hx325_0 hx325_1 hx325_2 hx325_3 hx325_4 hx325_5 hx325_6 hx325_7 hHeld ⊢
             refine pure_ (i := 0) (N := some 56) (v := ?_) (a' := ?_) #[true, false, false, false, false, false, false, false, false, false, false, false, false, false, false, false, false, false, false, false] rfl rfl (any_of HT_.out (by kernel_rfl)) (fun _ _ _ h => h) (Or.inl ⟨by rfl, ?_⟩) ?_ ?_
             rotate_left
             ·intro w'
              go_simp
              with_reducible rfl
             rotate_left
             ·simp only [Act.put, List.setIfInBounds_toArray, List.set_cons_zero, List.set_cons_succ, i64_w, i32_w]
              rfl
             refine pure_ (i := 1) (N := some 57) (v := ?_) (a' := ?_) #[true, true, false, false, false, false, false, false, false, false, false, false, false, false, false, false, false, false, false, false] rfl rfl (any_of HT_.out (by kernel_rfl)) (fun _ _ _ h => h) (Or.inl ⟨by rfl, ?_⟩) ?_ ?_
             rotate_left
             ·intro w'
              go_simp
              with_reducible rfl
             rotate_left
             ·simp only [Act.put, List.setIfInBounds_toArray, List.set_cons_zero, List.set_cons_succ, i64_w, i32_w]
              rfl
             refine pure_ (i := 2) (N := some 58) (v := ?_) (a' := ?_) #[true, true, true, false, false, false, false, false, false, false, false, false, false, false, false, false, false, false, false, false] rfl rfl (any_of HT_.out (by kernel_rfl)) (fun _ _ _ h => h) (Or.inl ⟨by rfl, ?_⟩) ?_ ?_
             rotate_left
             ·intro w'
              go_simp
              with_reducible rfl
             rotate_left
             ·simp only [Act.put, List.setIfInBounds_toArray, List.set_cons_zero, List.set_cons_succ, i64_w, i32_w]
              rfl
             refine pure_ (i := 3) (N := some 59) (v := ?_) (a' := ?_) #[true, true, true, true, false, false, false, false, false, false, false, false, false, false, false, false, false, false, false, false] rfl rfl (any_of HT_.out (by kernel_rfl)) (fun _ _ _ h => h) (Or.inl ⟨by rfl, ?_⟩) ?_ ?_
             rotate_left
             ·intro w'
              go_simp
              with_reducible rfl
             rotate_left
             ·simp only [Act.put, List.setIfInBounds_toArray, List.set_cons_zero, List.set_cons_succ, i64_w, i32_w]
              rfl
             refine take_ (i := 4) (N := some 60) (v := ?_) (a' := ?_) #[true, true, true, true, true, false, false, false, false, false, false, false, false, false, false, false, false, false, false, false] rfl rfl (take_ofW HT_.out HW_.out (by kernel_rfl)) (fun _ _ _ h => h) (Or.inl ⟨by rfl, ?_⟩) hHeld ?_ ?_
             rotate_left
             ·rintro w' ⟨s0, s1, s2, s3, s4, s5, s6, s7, s8, s9, s10, s11, s12, s13, s14, s15, s16, s17, s18, s19, s20, s21, s22, s23, s24, s25⟩
              go_simp
              with_reducible rfl
             rotate_left
             ·simp only [Act.put, List.setIfInBounds_toArray, List.set_cons_zero, List.set_cons_succ, i64_w, i32_w]
              rfl
             refine pure_ (i := 5) (N := some 61) (v := ?_) (a' := ?_) #[true, true, true, true, true, true, false, false, false, false, false, false, false, false, false, false, false, false, false, false] rfl rfl (any_of HT_.out (by kernel_rfl)) (fun _ _ _ h => h) (Or.inl ⟨by rfl, ?_⟩) ?_ ?_
             rotate_left
             ·intro w'
              go_simp
              with_reducible rfl
             rotate_left
             ·simp only [Act.put, List.setIfInBounds_toArray, List.set_cons_zero, List.set_cons_succ, i64_w, i32_w]
              rfl
             refine pure_ (i := 6) (N := some 62) (v := ?_) (a' := ?_) #[true, true, true, true, true, true, true, false, false, false, false, false, false, false, false, false, false, false, false, false] rfl rfl (any_of HT_.out (by kernel_rfl)) (fun _ _ _ h => h) (Or.inl ⟨by rfl, ?_⟩) ?_ ?_
             rotate_left
             ·intro w'
              go_simp
              with_reducible rfl
             rotate_left
             ·simp only [Act.put, List.setIfInBounds_toArray, List.set_cons_zero, List.set_cons_succ, i64_w, i32_w]
              rfl
             refine pure_ (i := 7) (N := some 63) (v := ?_) (a' := ?_) #[true, true, true, true, true, true, true, true, false, false, false, false, false, false, false, false, false, false, false, false] rfl rfl (any_of HT_.out (by kernel_rfl)) (fun _ _ _ h => h) (Or.inl ⟨by rfl, ?_⟩) ?_ ?_
             rotate_left
             ·intro w'
              go_simp
              with_reducible rfl
             rotate_left
             ·simp only [Act.put, List.setIfInBounds_toArray, List.set_cons_zero, List.set_cons_succ, i64_w, i32_w]
              rfl
             refine pure_ (i := 8) (N := some 64) (v := ?_) (a' := ?_) #[true, true, true, true, true, true, true, true, true, false, false, false, false, false, false, false, false, false, false, false] rfl rfl (any_of HT_.out (by kernel_rfl)) (fun _ _ _ h => h) (Or.inl ⟨by rfl, ?_⟩) ?_ ?_
             rotate_left
             ·intro w'
              go_simp
              with_reducible rfl
             rotate_left
             ·simp only [Act.put, List.setIfInBounds_toArray, List.set_cons_zero, List.set_cons_succ, i64_w, i32_w]
              rfl
             refine pure_ (i := 9) (N := some 65) (v := ?_) (a' := ?_) #[true, true, true, true, true, true, true, true, true, true, false, false, false, false, false, false, false, false, false, false] rfl rfl (any_of HT_.out (by kernel_rfl)) (fun _ _ _ h => h) (Or.inl ⟨by rfl, ?_⟩) ?_ ?_
             rotate_left
             ·intro w'
              go_simp
              with_reducible rfl
             rotate_left
             ·simp only [Act.put, List.setIfInBounds_toArray, List.set_cons_zero, List.set_cons_succ, i64_w, i32_w]
              rfl
             refine pure_ (i := 10) (N := some 66) (v := ?_) (a' := ?_) #[true, true, true, true, true, true, true, true, true, true, true, false, false, false, false, false, false, false, false, false] rfl rfl (any_of HT_.out (by kernel_rfl)) (fun _ _ _ h => h) (Or.inl ⟨by rfl, ?_⟩) ?_ ?_
             rotate_left
             ·intro w'
              go_simp
              with_reducible rfl
             rotate_left
             ·simp only [Act.put, List.setIfInBounds_toArray, List.set_cons_zero, List.set_cons_succ, i64_w, i32_w]
              rfl
             refine pure_ (i := 12) (N := some 68) (v := ?_) (a' := ?_) #[true, true, true, true, true, true, true, true, true, true, true, false, true, false, false, false, false, false, false, false] rfl rfl (any_of HT_.out (by kernel_rfl)) (fun _ _ _ h => h) (Or.inl ⟨by rfl, ?_⟩) ?_ ?_
             rotate_left
             ·intro w'
              go_simp
              with_reducible rfl
             rotate_left
             ·simp only [Act.put, List.setIfInBounds_toArray, List.set_cons_zero, List.set_cons_succ, i64_w, i32_w]
              rfl
             refine pure_ (i := 13) (N := some 69) (v := ?_) (a' := ?_) #[true, true, true, true, true, true, true, true, true, true, true, false, true, true, false, false, false, false, false, false] rfl rfl (any_of HT_.out (by kernel_rfl)) (fun _ _ _ h => h) (Or.inl ⟨by rfl, ?_⟩) ?_ ?_
             rotate_left
             ·intro w'
              go_simp
              with_reducible rfl
             rotate_left
             ·simp only [Act.put, List.setIfInBounds_toArray, List.set_cons_zero, List.set_cons_succ, i64_w, i32_w]
              rfl
             refine pure_ (i := 14) (N := some 70) (v := ?_) (a' := ?_) #[true, true, true, true, true, true, true, true, true, true, true, false, true, true, true, false, false, false, false, false] rfl rfl (any_of HT_.out (by kernel_rfl)) (fun _ _ _ h => h) (Or.inl ⟨by rfl, ?_⟩) ?_ ?_
             rotate_left
             ·intro w'
              go_simp
              with_reducible rfl
             rotate_left
             ·simp only [Act.put, List.setIfInBounds_toArray, List.set_cons_zero, List.set_cons_succ, i64_w, i32_w]
              rfl
             refine take_ (i := 11) (N := some 67) (v := ?_) (a' := ?_) #[true, true, true, true, true, true, true, true, true, true, true, true, true, true, true, false, false, false, false, false] rfl rfl (take_ofW HT_.out HW_.out (by kernel_rfl)) (fun _ _ _ h => h) (Or.inl ⟨by rfl, ?_⟩) hHeld ?_ ?_
             rotate_left
             ·rintro w' ⟨s0, s1, s2, s3, s4, s5, s6, s7, s8, s9, s10, s11, s12, s13, s14, s15, s16, s17, s18, s19, s20, s21, s22, s23, s24, s25⟩
              go_simp
              with_reducible rfl
             rotate_left
             ·simp only [Act.put, List.setIfInBounds_toArray, List.set_cons_zero, List.set_cons_succ, i64_w, i32_w]
              rfl
             refine take_ (i := 15) (N := some 71) (v := ?_) (a' := ?_) #[true, true, true, true, true, true, true, true, true, true, true, true, true, true, true, true, false, false, false, false] rfl rfl (take_ofW HT_.out HW_.out (by kernel_rfl)) (fun _ _ _ h => h) (Or.inl ⟨by rfl, ?_⟩) hHeld ?_ ?_
             rotate_left
             ·rintro w' ⟨s0, s1, s2, s3, s4, s5, s6, s7, s8, s9, s10, s11, s12, s13, s14, s15, s16, s17, s18, s19, s20, s21, s22, s23, s24, s25⟩
              go_simp
              with_reducible rfl
             rotate_left
             ·simp only [Act.put, List.setIfInBounds_toArray, List.set_cons_zero, List.set_cons_succ, i64_w, i32_w]
              rfl
             refine one_ (i := 16) (N := some 72) #[true, true, true, true, true, true, true, true, true, true, true, true, true, true, true, true, true, false, false, false] rfl rfl (one_of HT_.out (by kernel_rfl)) (by decide) (fun K hK => ?_)
             refine goes_ Try.func14 (by kernel_rfl) rfl #[.agg #[.int .i64 ((rd_T37 l0 x7_2).f0), .int .i64 ((rd_T37 l0 x7_2).f1), .int .i64 ((rd_T37 l0 x7_2).f2), .int .i64 ((rd_T37 l0 x7_2).f3), .int .i64 ((rd_T37 l0 x7_2).f4), .int .i64 ((rd_T37 l0 x7_2).f5), .slice A325_6 ((rd_T37 l0 x7_2).f6).length c325_6, .slice A325_7 ((rd_T37 l0 x7_2).f7).length c325_7]] (by rfl) rfl rfl (by (try simp only [List.map_toArray, List.map_cons, List.map_nil]); first | done | rfl | (simp only [List.length_drop, List.length_take]; rfl)) ?_
             with_reducible refine (temperaref20_Own.calls ((rd_T37 l0 x7_2).f0) ((rd_T37 l0 x7_2).f1) ((rd_T37 l0 x7_2).f2) ((rd_T37 l0 x7_2).f3) ((rd_T37 l0 x7_2).f4) ((rd_T37 l0 x7_2).f5) (fun k_ => k_ < w.heap.size) _ _ ((rd_T37 l0 x7_2).f6) (fun k_ => k_ < w.heap.size) _ _ ((rd_T37 l0 x7_2).f7) t326 t327 t328 t329 t330 t331 t332 t335 _ ?side1 ?side2 A28.out).mono ?_
             (case side1 => exact Kd.V_mk HC325_6.out (Kd.F_below (Kd.C_F (Kd.heap_int .i64) HR325_6.out) (by repeat (first | (with_reducible first | exact HB.out | apply below_alloc | apply pw_below_drewN | apply below_drew1) | exact HB.out))))
             (case side2 => exact Kd.V_mk HC325_7.out (Kd.F_below (Kd.C_F k62_heap HR325_7.out) (by repeat (first | (with_reducible first | exact HB.out | apply below_alloc | apply pw_below_drewN | apply below_drew1) | exact HB.out))))
             rintro e w33 ⟨v333, v336, rfl, ho0, ho1, hb⟩
             have HS0_ := (hb.cell (World.block_lt_of_cell? _ _ (hHeld.1))).trans (hHeld.1)
             have HS1_ := (hb.cell (World.block_lt_of_cell? _ _ (hHeld.2.1))).trans (hHeld.2.1)
             have HS2_ := (hb.cell (World.block_lt_of_cell? _ _ (hHeld.2.2.1))).trans (hHeld.2.2.1)
             have HS3_ := (hb.cell (World.block_lt_of_cell? _ _ (hHeld.2.2.2.1))).trans (hHeld.2.2.2.1)
             have HS4_ := (hb.cell (World.block_lt_of_cell? _ _ (hHeld.2.2.2.2.1))).trans (hHeld.2.2.2.2.1)
             have HS5_ := (hb.cell (World.block_lt_of_cell? _ _ (hHeld.2.2.2.2.2.1))).trans (hHeld.2.2.2.2.2.1)
             have HS6_ := (hb.cell (World.block_lt_of_cell? _ _ (hHeld.2.2.2.2.2.2.1))).trans (hHeld.2.2.2.2.2.2.1)
             have HS7_ := (hb.cell (World.block_lt_of_cell? _ _ (hHeld.2.2.2.2.2.2.2.1))).trans (hHeld.2.2.2.2.2.2.2.1)
             have HS8_ := (hb.cell (World.block_lt_of_cell? _ _ (hHeld.2.2.2.2.2.2.2.2.1))).trans (hHeld.2.2.2.2.2.2.2.2.1)
             have HS9_ := (hb.cell (World.block_lt_of_cell? _ _ (hHeld.2.2.2.2.2.2.2.2.2.1))).trans (hHeld.2.2.2.2.2.2.2.2.2.1)
             have HS10_ := (hb.cell (World.block_lt_of_cell? _ _ (hHeld.2.2.2.2.2.2.2.2.2.2.1))).trans (hHeld.2.2.2.2.2.2.2.2.2.2.1)
             have HS11_ := (hb.cell (World.block_lt_of_cell? _ _ (hHeld.2.2.2.2.2.2.2.2.2.2.2.1))).trans (hHeld.2.2.2.2.2.2.2.2.2.2.2.1)
             have HS12_ := (hb.cell (World.block_lt_of_cell? _ _ (hHeld.2.2.2.2.2.2.2.2.2.2.2.2.1))).trans (hHeld.2.2.2.2.2.2.2.2.2.2.2.2.1)
             have HS13_ := (hb.cell (World.block_lt_of_cell? _ _ (hHeld.2.2.2.2.2.2.2.2.2.2.2.2.2.1))).trans (hHeld.2.2.2.2.2.2.2.2.2.2.2.2.2.1)
             have HS14_ := (hb.cell (World.block_lt_of_cell? _ _ (hHeld.2.2.2.2.2.2.2.2.2.2.2.2.2.2.1))).trans (hHeld.2.2.2.2.2.2.2.2.2.2.2.2.2.2.1)
             have HS15_ := (hb.cell (World.block_lt_of_cell? _ _ (hHeld.2.2.2.2.2.2.2.2.2.2.2.2.2.2.2.1))).trans (hHeld.2.2.2.2.2.2.2.2.2.2.2.2.2.2.2.1)
             have HS16_ := (hb.cell (World.block_lt_of_cell? _ _ (hHeld.2.2.2.2.2.2.2.2.2.2.2.2.2.2.2.2.1))).trans (hHeld.2.2.2.2.2.2.2.2.2.2.2.2.2.2.2.2.1)
             have HS17_ := (hb.cell (World.block_lt_of_cell? _ _ (hHeld.2.2.2.2.2.2.2.2.2.2.2.2.2.2.2.2.2.1))).trans (hHeld.2.2.2.2.2.2.2.2.2.2.2.2.2.2.2.2.2.1)
             refine ⟨_, rfl, ?_⟩
             have n0_ := Aside0.mk (Kd.S_below (by (with_reducible repeat (first | apply Kd.S_alloc | apply Kd.S_drewN | apply Kd.S_drew)); exact HO_6.out) hb)
             have n1_ := Aside0.mk (Kd.R_below (by (with_reducible repeat (first | apply Kd.R_alloc | apply Kd.R_drewN | apply Kd.R_drew)); exact HL323_6.out) hb)
             have n2_ := Aside0.mk (Kd.R_below (by (with_reducible repeat (first | apply Kd.R_alloc | apply Kd.R_drewN | apply Kd.R_drew)); exact HL323_7.out) hb)
             have n3_ := Aside0.mk (Kd.R_below (by (with_reducible repeat (first | apply Kd.R_alloc | apply Kd.R_drewN | apply Kd.R_drew)); exact HL324_6.out) hb)
             have n4_ := Aside0.mk (Kd.R_below (by (with_reducible repeat (first | apply Kd.R_alloc | apply Kd.R_drewN | apply Kd.R_drew)); exact HL324_7.out) hb)
             have n5_ := Aside0.mk (Kd.V_lower (Kd.V_mono (ok' := fun k_ => some k_ ≠ (.slice (some ad323) t315.length co32 : Value).ownBlock) ho0 (fun k_ hk_ => Or.elim hk_ (fun hs_ => Or.elim hs_ (fun hs_ => fun e_ => Nat.not_le.2 hs_ (Kd.S_base HO_6.out k_ e_.symm)) (fun hs_ => fun e_ => Nat.not_le.2 hs_ (Kd.S_base HO_6.out k_ e_.symm))) (fun hn_ => (Kd.fresh' (Kd.S_lt (by (with_reducible repeat (first | apply Kd.S_alloc | apply Kd.S_drewN | apply Kd.S_drew)); exact HO_6.out)) k_ hn_)))) (below_size (by repeat (first | (with_reducible first | exact HB.out | apply below_alloc | apply pw_below_drewN | apply below_drew1) | exact HB.out))))
             have n6_ := Aside0.mk (Kd.V_lower (Kd.V_mono (ok' := fun k_ => some k_ ≠ (.slice (some ad323) t315.length co32 : Value).ownBlock) ho1 (fun k_ hk_ => Or.elim hk_ (fun hs_ => Or.elim hs_ (fun hs_ => fun e_ => Nat.not_le.2 hs_ (Kd.S_base HO_6.out k_ e_.symm)) (fun hs_ => fun e_ => Nat.not_le.2 hs_ (Kd.S_base HO_6.out k_ e_.symm))) (fun hn_ => (Kd.fresh' (Kd.S_lt (by (with_reducible repeat (first | apply Kd.S_alloc | apply Kd.S_drewN | apply Kd.S_drew)); exact HO_6.out)) k_ hn_)))) (below_size (by repeat (first | (with_reducible first | exact HB.out | apply below_alloc | apply pw_below_drewN | apply below_drew1) | exact HB.out))))
             have n7_ := Aside0.mk (Kd.C_below (by repeat (first | (with_reducible exact HR323_6.out) | (with_reducible refine Kd.C_alloc ?_ _) | (with_reducible refine Kd.C_drewN ?_ _) | (with_reducible refine Kd.C_drew ?_) | exact HR323_6.out)) hb)
             have n8_ := Aside0.mk (Kd.C_below (by repeat (first | (with_reducible exact HR323_7.out) | (with_reducible refine Kd.C_alloc ?_ _) | (with_reducible refine Kd.C_drewN ?_ _) | (with_reducible refine Kd.C_drew ?_) | exact HR323_7.out)) hb)
             have n9_ := Aside0.mk (Kd.C_below (by repeat (first | (with_reducible exact HR324_6.out) | (with_reducible refine Kd.C_alloc ?_ _) | (with_reducible refine Kd.C_drewN ?_ _) | (with_reducible refine Kd.C_drew ?_) | exact HR324_6.out)) hb)
             have n10_ := Aside0.mk (Kd.C_below (by repeat (first | (with_reducible exact HR324_7.out) | (with_reducible refine Kd.C_alloc ?_ _) | (with_reducible refine Kd.C_drewN ?_ _) | (with_reducible refine Kd.C_drew ?_) | exact HR324_7.out)) hb)
             have n11_ := Aside0.mk (below_step (by repeat (first | (with_reducible first | exact HB.out | apply below_alloc | apply pw_below_drewN | apply below_drew1) | exact HB.out)) hb)
             clear HO_6
             clear HL323_6
             clear HL323_7
             clear HL324_6
             clear HL324_7
             clear HR323_6
             clear HR323_7
             clear HR324_6
             clear HR324_7
             clear HB
             have HO_6 := n0_
             have HL323_6 := n1_
             have HL323_7 := n2_
             have HL324_6 := n3_
             have HL324_7 := n4_
             have HO334 := n5_
             have HO337 := n6_
             have HR323_6 := n7_
             have HR323_7 := n8_
             have HR324_6 := n9_
             have HR324_7 := n10_
             have HB := n11_
             clear n0_ n1_ n2_ n3_ n4_ n5_ n6_ n7_ n8_ n9_ n10_ n11_
             (try clear hb)
             (try clear hb2)
             (try clear hk)
             (try clear hi)
             (try clear ho0)
             (try clear ho1)
             obtain ⟨Ao34, co34, eo34⟩ := Kd.V_slice HO334.out
             (first | subst eo34 | (injection eo34 with f1_ f2_ f3_; have f4_ := f1_.symm; have f5_ := f3_.symm; clear f1_ f2_ f3_; subst f4_; subst f5_))
             obtain ⟨Ao35, co35, eo35⟩ := Kd.V_slice HO337.out
             (first | subst eo35 | (injection eo35 with f1_ f2_ f3_; have f4_ := f1_.symm; have f5_ := f3_.symm; clear f1_ f2_ f3_; subst f4_; subst f5_))
             refine hK.out _ _ ⟨HS0_, HS1_, HS2_, HS3_, HS4_, HS5_, HS6_, HS7_, HS8_, HS9_, HS10_, HS11_, HS12_, HS13_, HS14_, HS15_, HS16_, HS17_, ((HB.out.cell (World.block_lt_of_cell? w _ hw325_0)).trans hw325_0), ((HB.out.cell (World.block_lt_of_cell? w _ hw325_1)).trans hw325_1), ((HB.out.cell (World.block_lt_of_cell? w _ hw325_2)).trans hw325_2), ((HB.out.cell (World.block_lt_of_cell? w _ hw325_3)).trans hw325_3), ((HB.out.cell (World.block_lt_of_cell? w _ hw325_4)).trans hw325_4), ((HB.out.cell (World.block_lt_of_cell? w _ hw325_5)).trans hw325_5), ((HB.out.cell (World.block_lt_of_cell? w _ hw325_6)).trans hw325_6), ((HB.out.cell (World.block_lt_of_cell? w _ hw325_7)).trans hw325_7)⟩ (fun hHeld => ?_)
             clear hK K
             refine norm_ (a' := ?_) ?_ ?_
             rotate_left
             ·show Act.put _ (some 72) _ = _
              simp only [Act.put, List.setIfInBounds_toArray, List.set_cons_zero, List.set_cons_succ, i64_w, i32_w]
              rfl
             refine one_ (i := 17) (N := some 73) #[true, true, true, true, true, true, true, true, true, true, true, true, true, true, true, true, true, true, false, false] rfl rfl (one_of HT_.out (by kernel_rfl)) (by decide) (fun K hK => ?_)
             refine goes_ Try.func13 (by kernel_rfl) rfl #[.agg #[.int .i64 ((rd_T39 t315 x7_2).f0.f0), .int .i64 ((rd_T39 t315 x7_2).f0.f1), .int .i64 ((rd_T39 t315 x7_2).f0.f2), .int .i64 ((rd_T39 t315 x7_2).f0.f3), .int .i64 ((rd_T39 t315 x7_2).f0.f4), .int .i64 ((rd_T39 t315 x7_2).f0.f5), .slice A323_6 ((rd_T39 t315 x7_2).f0.f6).length c323_6, .slice A323_7 ((rd_T39 t315 x7_2).f0.f7).length c323_7], .agg #[.int .i64 t326, .int .i64 t327, .int .i64 t328, .int .i64 t329, .int .i64 t330, .int .i64 t331, .slice Ao34 t332.length co34, .slice Ao35 t335.length co35]] (by rfl) rfl rfl (by (try simp only [List.map_toArray, List.map_cons, List.map_nil]); first | done | rfl | (simp only [List.length_drop, List.length_take]; rfl)) ?_
             with_reducible refine (temperaref20_Same.calls k2 ((rd_T39 t315 x7_2).f0.f0) ((rd_T39 t315 x7_2).f0.f1) ((rd_T39 t315 x7_2).f0.f2) ((rd_T39 t315 x7_2).f0.f3) ((rd_T39 t315 x7_2).f0.f4) ((rd_T39 t315 x7_2).f0.f5) _ _ ((rd_T39 t315 x7_2).f0.f6) _ _ ((rd_T39 t315 x7_2).f0.f7) t326 t327 t328 t329 t330 t331 _ _ t332 _ _ t335 true _ ?side1 ?side2 ?side3 ?side4 ?side5 ?side6 ?side7 ?side8 A29.out).mono ?_
             (case side1 => repeat (first | exact (by repeat (first | (with_reducible exact HR324_6.out) | (with_reducible refine Kd.C_alloc ?_ _) | (with_reducible refine Kd.C_drewN ?_ _) | (with_reducible refine Kd.C_drew ?_) | exact HR324_6.out)) | (with_reducible refine Kd.C_alloc ?_ _) | (with_reducible refine Kd.C_drewN ?_ _) | (with_reducible refine Kd.C_drew ?_)))
             (case side2 => exact HC324_6.out)
             (case side3 => repeat (first | exact (by repeat (first | (with_reducible exact HR324_7.out) | (with_reducible refine Kd.C_alloc ?_ _) | (with_reducible refine Kd.C_drewN ?_ _) | (with_reducible refine Kd.C_drew ?_) | exact HR324_7.out)) | (with_reducible refine Kd.C_alloc ?_ _) | (with_reducible refine Kd.C_drewN ?_ _) | (with_reducible refine Kd.C_drew ?_)))
             (case side4 => exact HC324_7.out)
             (case side5 => repeat (first | exact (Kd.V_reads' HO334.out).2.2 | (with_reducible refine Kd.C_alloc ?_ _) | (with_reducible refine Kd.C_drewN ?_ _) | (with_reducible refine Kd.C_drew ?_)))
             (case side6 => exact (Kd.V_reads' HO334.out).2.1)
             (case side7 => repeat (first | exact (Kd.V_reads' HO337.out).2.2 | (with_reducible refine Kd.C_alloc ?_ _) | (with_reducible refine Kd.C_drewN ?_ _) | (with_reducible refine Kd.C_drew ?_)))
             (case side8 => exact (Kd.V_reads' HO337.out).2.1)
             rintro e w36 ⟨rfl, hb⟩
             have HS0_ := (hb.cell (World.block_lt_of_cell? _ _ (hHeld.1))).trans (hHeld.1)
             have HS1_ := (hb.cell (World.block_lt_of_cell? _ _ (hHeld.2.1))).trans (hHeld.2.1)
             have HS2_ := (hb.cell (World.block_lt_of_cell? _ _ (hHeld.2.2.1))).trans (hHeld.2.2.1)
             have HS3_ := (hb.cell (World.block_lt_of_cell? _ _ (hHeld.2.2.2.1))).trans (hHeld.2.2.2.1)
             have HS4_ := (hb.cell (World.block_lt_of_cell? _ _ (hHeld.2.2.2.2.1))).trans (hHeld.2.2.2.2.1)
             have HS5_ := (hb.cell (World.block_lt_of_cell? _ _ (hHeld.2.2.2.2.2.1))).trans (hHeld.2.2.2.2.2.1)
             have HS6_ := (hb.cell (World.block_lt_of_cell? _ _ (hHeld.2.2.2.2.2.2.1))).trans (hHeld.2.2.2.2.2.2.1)
             have HS7_ := (hb.cell (World.block_lt_of_cell? _ _ (hHeld.2.2.2.2.2.2.2.1))).trans (hHeld.2.2.2.2.2.2.2.1)
             have HS8_ := (hb.cell (World.block_lt_of_cell? _ _ (hHeld.2.2.2.2.2.2.2.2.1))).trans (hHeld.2.2.2.2.2.2.2.2.1)
             have HS9_ := (hb.cell (World.block_lt_of_cell? _ _ (hHeld.2.2.2.2.2.2.2.2.2.1))).trans (hHeld.2.2.2.2.2.2.2.2.2.1)
             have HS10_ := (hb.cell (World.block_lt_of_cell? _ _ (hHeld.2.2.2.2.2.2.2.2.2.2.1))).trans (hHeld.2.2.2.2.2.2.2.2.2.2.1)
             have HS11_ := (hb.cell (World.block_lt_of_cell? _ _ (hHeld.2.2.2.2.2.2.2.2.2.2.2.1))).trans (hHeld.2.2.2.2.2.2.2.2.2.2.2.1)
             have HS12_ := (hb.cell (World.block_lt_of_cell? _ _ (hHeld.2.2.2.2.2.2.2.2.2.2.2.2.1))).trans (hHeld.2.2.2.2.2.2.2.2.2.2.2.2.1)
             have HS13_ := (hb.cell (World.block_lt_of_cell? _ _ (hHeld.2.2.2.2.2.2.2.2.2.2.2.2.2.1))).trans (hHeld.2.2.2.2.2.2.2.2.2.2.2.2.2.1)
             have HS14_ := (hb.cell (World.block_lt_of_cell? _ _ (hHeld.2.2.2.2.2.2.2.2.2.2.2.2.2.2.1))).trans (hHeld.2.2.2.2.2.2.2.2.2.2.2.2.2.2.1)
             have HS15_ := (hb.cell (World.block_lt_of_cell? _ _ (hHeld.2.2.2.2.2.2.2.2.2.2.2.2.2.2.2.1))).trans (hHeld.2.2.2.2.2.2.2.2.2.2.2.2.2.2.2.1)
             have HS16_ := (hb.cell (World.block_lt_of_cell? _ _ (hHeld.2.2.2.2.2.2.2.2.2.2.2.2.2.2.2.2.1))).trans (hHeld.2.2.2.2.2.2.2.2.2.2.2.2.2.2.2.2.1)
             have HS17_ := (hb.cell (World.block_lt_of_cell? _ _ (hHeld.2.2.2.2.2.2.2.2.2.2.2.2.2.2.2.2.2.1))).trans (hHeld.2.2.2.2.2.2.2.2.2.2.2.2.2.2.2.2.2.1)
             refine ⟨_, rfl, ?_⟩
             have n0_ := Aside0.mk (Kd.S_below (by (with_reducible repeat (first | apply Kd.S_alloc | apply Kd.S_drewN | apply Kd.S_drew)); exact HO_6.out) hb)
             have n1_ := Aside0.mk (Kd.R_below (by (with_reducible repeat (first | apply Kd.R_alloc | apply Kd.R_drewN | apply Kd.R_drew)); exact HL323_6.out) hb)
             have n2_ := Aside0.mk (Kd.R_below (by (with_reducible repeat (first | apply Kd.R_alloc | apply Kd.R_drewN | apply Kd.R_drew)); exact HL323_7.out) hb)
             have n3_ := Aside0.mk (Kd.R_below (by (with_reducible repeat (first | apply Kd.R_alloc | apply Kd.R_drewN | apply Kd.R_drew)); exact HL324_6.out) hb)
             have n4_ := Aside0.mk (Kd.R_below (by (with_reducible repeat (first | apply Kd.R_alloc | apply Kd.R_drewN | apply Kd.R_drew)); exact HL324_7.out) hb)
             have n5_ := Aside0.mk (Kd.V_below (by (with_reducible repeat (first | apply Kd.V_alloc | apply Kd.V_drewN | apply Kd.V_drew)); exact HO334.out) hb)
             have n6_ := Aside0.mk (Kd.V_below (by (with_reducible repeat (first | apply Kd.V_alloc | apply Kd.V_drewN | apply Kd.V_drew)); exact HO337.out) hb)
             have n7_ := Aside0.mk (Kd.C_below (by repeat (first | (with_reducible exact HR323_6.out) | (with_reducible refine Kd.C_alloc ?_ _) | (with_reducible refine Kd.C_drewN ?_ _) | (with_reducible refine Kd.C_drew ?_) | exact HR323_6.out)) hb)
             have n8_ := Aside0.mk (Kd.C_below (by repeat (first | (with_reducible exact HR323_7.out) | (with_reducible refine Kd.C_alloc ?_ _) | (with_reducible refine Kd.C_drewN ?_ _) | (with_reducible refine Kd.C_drew ?_) | exact HR323_7.out)) hb)
             have n9_ := Aside0.mk (Kd.C_below (by repeat (first | (with_reducible exact HR324_6.out) | (with_reducible refine Kd.C_alloc ?_ _) | (with_reducible refine Kd.C_drewN ?_ _) | (with_reducible refine Kd.C_drew ?_) | exact HR324_6.out)) hb)
             have n10_ := Aside0.mk (Kd.C_below (by repeat (first | (with_reducible exact HR324_7.out) | (with_reducible refine Kd.C_alloc ?_ _) | (with_reducible refine Kd.C_drewN ?_ _) | (with_reducible refine Kd.C_drew ?_) | exact HR324_7.out)) hb)
             have n11_ := Aside0.mk (below_step (by repeat (first | (with_reducible first | exact HB.out | apply below_alloc | apply pw_below_drewN | apply below_drew1) | exact HB.out)) hb)
             clear HO_6
             clear HL323_6
             clear HL323_7
             clear HL324_6
             clear HL324_7
             clear HO334
             clear HO337
             clear HR323_6
             clear HR323_7
             clear HR324_6
             clear HR324_7
             clear HB
             have HO_6 := n0_
             have HL323_6 := n1_
             have HL323_7 := n2_
             have HL324_6 := n3_
             have HL324_7 := n4_
             have HO334 := n5_
             have HO337 := n6_
             have HR323_6 := n7_
             have HR323_7 := n8_
             have HR324_6 := n9_
             have HR324_7 := n10_
             have HB := n11_
             clear n0_ n1_ n2_ n3_ n4_ n5_ n6_ n7_ n8_ n9_ n10_ n11_
             (try clear hb)
             (try clear hb2)
             (try clear hk)
             (try clear hi)
             refine hK.out _ _ ⟨HS0_, HS1_, HS2_, HS3_, HS4_, HS5_, HS6_, HS7_, HS8_, HS9_, HS10_, HS11_, HS12_, HS13_, HS14_, HS15_, HS16_, HS17_, ((HB.out.cell (World.block_lt_of_cell? w _ hw325_0)).trans hw325_0), ((HB.out.cell (World.block_lt_of_cell? w _ hw325_1)).trans hw325_1), ((HB.out.cell (World.block_lt_of_cell? w _ hw325_2)).trans hw325_2), ((HB.out.cell (World.block_lt_of_cell? w _ hw325_3)).trans hw325_3), ((HB.out.cell (World.block_lt_of_cell? w _ hw325_4)).trans hw325_4), ((HB.out.cell (World.block_lt_of_cell? w _ hw325_5)).trans hw325_5), ((HB.out.cell (World.block_lt_of_cell? w _ hw325_6)).trans hw325_6), ((HB.out.cell (World.block_lt_of_cell? w _ hw325_7)).trans hw325_7)⟩ (fun hHeld => ?_)
             clear hK K
             refine norm_ (a' := ?_) ?_ ?_
             rotate_left
             ·show Act.put _ (some 73) _ = _
              simp only [Act.put, List.setIfInBounds_toArray, List.set_cons_zero, List.set_cons_succ, i64_w, i32_w]
              rfl
             refine pure_ (i := 18) (N := some 74) (v := ?_) (a' := ?_) #[true, true, true, true, true, true, true, true, true, true, true, true, true, true, true, true, true, true, true, false] rfl rfl (any_of HT_.out (by kernel_rfl)) (fun _ _ _ h => h) (Or.inl ⟨by rfl, ?_⟩) ?_ ?_
             rotate_left
             ·intro w'
              go_simp
              with_reducible rfl
             rotate_left
             ·simp only [Act.put, List.setIfInBounds_toArray, List.set_cons_zero, List.set_cons_succ, i64_w, i32_w]
              rfl
             refine pure_ (i := 19) (N := some 75) (v := ?_) (a' := ?_) #[true, true, true, true, true, true, true, true, true, true, true, true, true, true, true, true, true, true, true, true] rfl rfl (any_of HT_.out (by kernel_rfl)) (fun _ _ _ h => h) (Or.inl ⟨by rfl, ?_⟩) ?_ ?_
             rotate_left
             ·intro w'
              go_simp
              with_reducible rfl
             rotate_left
             ·simp only [Act.put, List.setIfInBounds_toArray, List.set_cons_zero, List.set_cons_succ, i64_w, i32_w]
              rfl
             refine done_ (done_of HT_.out (by kernel_rfl)) ?_
             try go_wp2
             go_roundg k2
             case measure => have := HJ7.out; have := HK2.out; omega
             case rel => exact ⟨(wrap64 (x7_2 + 1)), (by first | rfl | (simp; done) | (simp [*]; done)), H', ⟨by have := HJ7.out; have := HK2.out; omega⟩, ⟨by (with_reducible repeat (first | apply Kd.S_alloc | apply Kd.S_drewN | apply Kd.S_drew)); exact HO_6.out⟩, ⟨by repeat (first | (with_reducible first | exact HB.out | apply below_alloc | apply pw_below_drewN | apply below_drew1) | exact HB.out)⟩⟩
            ·replace c30 := Bool.eq_false_iff.mpr c30
             subst c30
             have H1 : (some false) = some r := by rw [if_neg (show ¬ (false = true) by decide)] at H; exact H
             clear H
             have H := H1
             clear H1
             obtain rfl := Option.some.inj H
             try go_wp2
             have n0_ := Aside0.mk (Kd.S_drew HO_6.out)
             have n1_ := Aside0.mk (below_drew1 HB.out)
             clear HO_6
             clear HB
             have HO_6 := n0_
             have HB := n1_
             clear n0_ n1_
             obtain ⟨Ao38, co38, eo38⟩ := Kd.S_slice HO_6.out
             (first | subst eo38 | (injection eo38 with f1_ f2_ f3_; have f4_ := f1_.symm; have f5_ := f3_.symm; clear f1_ f2_ f3_; subst f4_; subst f5_))
             have p323 : 0 ≤ (x7_2 : Int) := of_decide_eq_true (by first | (with_reducible assumption) | assumption)
             have q323 : x7_2 < (t315.length : Int) := of_decide_eq_true (by first | (with_reducible assumption) | assumption)
             obtain ⟨ad323, A323_6, c323_6, A323_7, c323_7, e323, hx323_0, hx323_1, hx323_2, hx323_3, hx323_4, hx323_5, hx323_6, hx323_7, hx323_8, hl323_6, hi323_6, hl323_7, hi323_7⟩ := at_T39 (Kd.S_reads' HO_6.out).2.2 x7_2 p323 q323
             cases e323
             obtain ⟨ce323, hce323, hMe323, hcc323⟩ := Kd.S_get HO_6.out z39 x7_2 p323 (by first | exact q323 | exact of_decide_eq_true (by first | (with_reducible assumption) | assumption) | (have e_ := (Kd.S_reads' HO_6.out).1; omega))
             obtain ⟨ve323_6, ve323_7, rfl, ge323_6, ge323_7⟩ := k39_openM hMe323
             have hv323_6 := hcc323 6 _ rfl
             rw [add_field _ _ 6 (by omega)] at hv323_6
             replace hv323_6 := Option.some.inj (hv323_6.symm.trans hx323_6)
             rw [hv323_6] at ge323_6
             have HL323_6 := Aside0.mk (show Kd.R (Kd.int .i64) 3 _ _ _ _ ((rd_T39 t315 x7_2).f0.f6) from ge323_6)
             clear hv323_6 ge323_6
             have hv323_7 := hcc323 7 _ rfl
             rw [add_field _ _ 7 (by omega)] at hv323_7
             replace hv323_7 := Option.some.inj (hv323_7.symm.trans hx323_7)
             rw [hv323_7] at ge323_7
             have HL323_7 := Aside0.mk (show Kd.R k62 62 _ _ _ _ ((rd_T39 t315 x7_2).f0.f7) from ge323_7)
             clear hv323_7 ge323_7
             clear hcc323 hce323
             have HR323_6 := Aside0.mk hi323_6
             have HC323_6 := Aside0.mk hl323_6
             clear hi323_6 hl323_6
             have HR323_7 := Aside0.mk hi323_7
             have HC323_7 := Aside0.mk hl323_7
             clear hi323_7 hl323_7
             replace p323 := eq_true p323
             replace q323 := eq_true q323
             have p324 : 0 ≤ (x7_2 : Int) := of_decide_eq_true (by first | (with_reducible assumption) | assumption)
             have q324 : x7_2 < (t315.length : Int) := of_decide_eq_true (by first | (with_reducible assumption) | assumption)
             obtain ⟨ad324, A324_6, c324_6, A324_7, c324_7, e324, hx324_0, hx324_1, hx324_2, hx324_3, hx324_4, hx324_5, hx324_6, hx324_7, hx324_8, hl324_6, hi324_6, hl324_7, hi324_7⟩ := at_T39 (Kd.S_reads' HO_6.out).2.2 x7_2 p324 q324
             obtain rfl : ad323 = ad324 := (by injection e324)
             obtain ⟨ce324, hce324, hMe324, hcc324⟩ := Kd.S_get HO_6.out z39 x7_2 p324 (by first | exact q324 | exact of_decide_eq_true (by first | (with_reducible assumption) | assumption) | (have e_ := (Kd.S_reads' HO_6.out).1; omega))
             obtain ⟨ve324_6, ve324_7, rfl, ge324_6, ge324_7⟩ := k39_openM hMe324
             have hv324_6 := hcc324 6 _ rfl
             rw [add_field _ _ 6 (by omega)] at hv324_6
             replace hv324_6 := Option.some.inj (hv324_6.symm.trans hx324_6)
             rw [hv324_6] at ge324_6
             have HL324_6 := Aside0.mk (show Kd.R (Kd.int .i64) 3 _ _ _ _ ((rd_T39 t315 x7_2).f0.f6) from ge324_6)
             clear hv324_6 ge324_6
             have hv324_7 := hcc324 7 _ rfl
             rw [add_field _ _ 7 (by omega)] at hv324_7
             replace hv324_7 := Option.some.inj (hv324_7.symm.trans hx324_7)
             rw [hv324_7] at ge324_7
             have HL324_7 := Aside0.mk (show Kd.R k62 62 _ _ _ _ ((rd_T39 t315 x7_2).f0.f7) from ge324_7)
             clear hv324_7 ge324_7
             clear hcc324 hce324
             have HR324_6 := Aside0.mk hi324_6
             have HC324_6 := Aside0.mk hl324_6
             clear hi324_6 hl324_6
             have HR324_7 := Aside0.mk hi324_7
             have HC324_7 := Aside0.mk hl324_7
             clear hi324_7 hl324_7
             replace p324 := eq_true p324
             replace q324 := eq_true q324
             have ea_ := Option.some.inj (hx323_6.symm.trans hx324_6)
             injection ea_ with ea_ en_ ec_
             subst ea_
             subst ec_
             clear en_
             have ea_ := Option.some.inj (hx323_7.symm.trans hx324_7)
             injection ea_ with ea_ en_ ec_
             subst ea_
             subst ec_
             clear en_
             have p325 : 0 ≤ (x7_2 : Int) := of_decide_eq_true (by first | (with_reducible assumption) | assumption)
             have q325 : x7_2 < (l0.length : Int) := of_decide_eq_true (by first | (with_reducible assumption) | assumption)
             obtain ⟨ad325, A325_6, c325_6, A325_7, c325_7, e325, hx325_0, hx325_1, hx325_2, hx325_3, hx325_4, hx325_5, hx325_6, hx325_7, hl325_6, hi325_6, hl325_7, hi325_7⟩ := at_T37 HR0.out x7_2 p325 q325
             have hw325_7 := hx325_7
             have hw325_6 := hx325_6
             have hw325_5 := hx325_5
             have hw325_4 := hx325_4
             have hw325_3 := hx325_3
             have hw325_2 := hx325_2
             have hw325_1 := hx325_1
             have hw325_0 := hx325_0
             cases e325
             replace hx325_0 := (HB.out.cell (World.block_lt_of_cell? w _ hx325_0)).trans hx325_0
             replace hx325_1 := (HB.out.cell (World.block_lt_of_cell? w _ hx325_1)).trans hx325_1
             replace hx325_2 := (HB.out.cell (World.block_lt_of_cell? w _ hx325_2)).trans hx325_2
             replace hx325_3 := (HB.out.cell (World.block_lt_of_cell? w _ hx325_3)).trans hx325_3
             replace hx325_4 := (HB.out.cell (World.block_lt_of_cell? w _ hx325_4)).trans hx325_4
             replace hx325_5 := (HB.out.cell (World.block_lt_of_cell? w _ hx325_5)).trans hx325_5
             replace hx325_6 := (HB.out.cell (World.block_lt_of_cell? w _ hx325_6)).trans hx325_6
             replace hx325_7 := (HB.out.cell (World.block_lt_of_cell? w _ hx325_7)).trans hx325_7
             have HR325_6 := Aside0.mk hi325_6
             have HC325_6 := Aside0.mk hl325_6
             clear hi325_6 hl325_6
             have HR325_7 := Aside0.mk hi325_7
             have HC325_7 := Aside0.mk hl325_7
             clear hi325_7 hl325_7
             replace p325 := eq_true p325
             replace q325 := eq_true q325
             refine start_ (n := 20) (S := fun w' => w'.cell? (ad323.add ((x7_2).toNat * 9)) = some (.int .i64 ((rd_T39 t315 x7_2).f0.f0)) ∧ w'.cell? ⟨(ad323.add ((x7_2).toNat * 9)).block, (ad323.add ((x7_2).toNat * 9)).off + 1, none⟩ = some (.int .i64 ((rd_T39 t315 x7_2).f0.f1)) ∧ w'.cell? ⟨(ad323.add ((x7_2).toNat * 9)).block, (ad323.add ((x7_2).toNat * 9)).off + 2, none⟩ = some (.int .i64 ((rd_T39 t315 x7_2).f0.f2)) ∧ w'.cell? ⟨(ad323.add ((x7_2).toNat * 9)).block, (ad323.add ((x7_2).toNat * 9)).off + 3, none⟩ = some (.int .i64 ((rd_T39 t315 x7_2).f0.f3)) ∧ w'.cell? ⟨(ad323.add ((x7_2).toNat * 9)).block, (ad323.add ((x7_2).toNat * 9)).off + 4, none⟩ = some (.int .i64 ((rd_T39 t315 x7_2).f0.f4)) ∧ w'.cell? ⟨(ad323.add ((x7_2).toNat * 9)).block, (ad323.add ((x7_2).toNat * 9)).off + 5, none⟩ = some (.int .i64 ((rd_T39 t315 x7_2).f0.f5)) ∧ w'.cell? ⟨(ad323.add ((x7_2).toNat * 9)).block, (ad323.add ((x7_2).toNat * 9)).off + 6, none⟩ = some (.slice A323_6 ((rd_T39 t315 x7_2).f0.f6).length c323_6) ∧ w'.cell? ⟨(ad323.add ((x7_2).toNat * 9)).block, (ad323.add ((x7_2).toNat * 9)).off + 7, none⟩ = some (.slice A323_7 ((rd_T39 t315 x7_2).f0.f7).length c323_7) ∧ w'.cell? ⟨(ad323.add ((x7_2).toNat * 9)).block, (ad323.add ((x7_2).toNat * 9)).off + 8, none⟩ = some (.int .i64 ((rd_T39 t315 x7_2).f1)) ∧ w'.cell? (ad323.add ((x7_2).toNat * 9)) = some (.int .i64 ((rd_T39 t315 x7_2).f0.f0)) ∧ w'.cell? ⟨(ad323.add ((x7_2).toNat * 9)).block, (ad323.add ((x7_2).toNat * 9)).off + 1, none⟩ = some (.int .i64 ((rd_T39 t315 x7_2).f0.f1)) ∧ w'.cell? ⟨(ad323.add ((x7_2).toNat * 9)).block, (ad323.add ((x7_2).toNat * 9)).off + 2, none⟩ = some (.int .i64 ((rd_T39 t315 x7_2).f0.f2)) ∧ w'.cell? ⟨(ad323.add ((x7_2).toNat * 9)).block, (ad323.add ((x7_2).toNat * 9)).off + 3, none⟩ = some (.int .i64 ((rd_T39 t315 x7_2).f0.f3)) ∧ w'.cell? ⟨(ad323.add ((x7_2).toNat * 9)).block, (ad323.add ((x7_2).toNat * 9)).off + 4, none⟩ = some (.int .i64 ((rd_T39 t315 x7_2).f0.f4)) ∧ w'.cell? ⟨(ad323.add ((x7_2).toNat * 9)).block, (ad323.add ((x7_2).toNat * 9)).off + 5, none⟩ = some (.int .i64 ((rd_T39 t315 x7_2).f0.f5)) ∧ w'.cell? ⟨(ad323.add ((x7_2).toNat * 9)).block, (ad323.add ((x7_2).toNat * 9)).off + 6, none⟩ = some (.slice A323_6 ((rd_T39 t315 x7_2).f0.f6).length c323_6) ∧ w'.cell? ⟨(ad323.add ((x7_2).toNat * 9)).block, (ad323.add ((x7_2).toNat * 9)).off + 7, none⟩ = some (.slice A323_7 ((rd_T39 t315 x7_2).f0.f7).length c323_7) ∧ w'.cell? ⟨(ad323.add ((x7_2).toNat * 9)).block, (ad323.add ((x7_2).toNat * 9)).off + 8, none⟩ = some (.int .i64 ((rd_T39 t315 x7_2).f1)) ∧ w'.cell? (ad325.add ((x7_2).toNat * 8)) = some (.int .i64 ((rd_T37 l0 x7_2).f0)) ∧ w'.cell? ⟨(ad325.add ((x7_2).toNat * 8)).block, (ad325.add ((x7_2).toNat * 8)).off + 1, none⟩ = some (.int .i64 ((rd_T37 l0 x7_2).f1)) ∧ w'.cell? ⟨(ad325.add ((x7_2).toNat * 8)).block, (ad325.add ((x7_2).toNat * 8)).off + 2, none⟩ = some (.int .i64 ((rd_T37 l0 x7_2).f2)) ∧ w'.cell? ⟨(ad325.add ((x7_2).toNat * 8)).block, (ad325.add ((x7_2).toNat * 8)).off + 3, none⟩ = some (.int .i64 ((rd_T37 l0 x7_2).f3)) ∧ w'.cell? ⟨(ad325.add ((x7_2).toNat * 8)).block, (ad325.add ((x7_2).toNat * 8)).off + 4, none⟩ = some (.int .i64 ((rd_T37 l0 x7_2).f4)) ∧ w'.cell? ⟨(ad325.add ((x7_2).toNat * 8)).block, (ad325.add ((x7_2).toNat * 8)).off + 5, none⟩ = some (.int .i64 ((rd_T37 l0 x7_2).f5)) ∧ w'.cell? ⟨(ad325.add ((x7_2).toNat * 8)).block, (ad325.add ((x7_2).toNat * 8)).off + 6, none⟩ = some (.slice A325_6 ((rd_T37 l0 x7_2).f6).length c325_6) ∧ w'.cell? ⟨(ad325.add ((x7_2).toNat * 8)).block, (ad325.add ((x7_2).toNat * 8)).off + 7, none⟩ = some (.slice A325_7 ((rd_T37 l0 x7_2).f7).length c325_7)) (ds := []) #[false, false, false, false, false, false, false, false, false, false, false, false, false, false, false, false, false, false, false, false] (by kernel_rfl) rfl rfl ⟨hx323_0, hx323_1, hx323_2, hx323_3, hx323_4, hx323_5, hx323_6, hx323_7, hx323_8, hx324_0, hx324_1, hx324_2, hx324_3, hx324_4, hx324_5, hx324_6, hx324_7, hx324_8, ((HB.out.cell (World.block_lt_of_cell? w _ hw325_0)).trans hw325_0), ((HB.out.cell (World.block_lt_of_cell? w _ hw325_1)).trans hw325_1), ((HB.out.cell (World.block_lt_of_cell? w _ hw325_2)).trans hw325_2), ((HB.out.cell (World.block_lt_of_cell? w _ hw325_3)).trans hw325_3), ((HB.out.cell (World.block_lt_of_cell? w _ hw325_4)).trans hw325_4), ((HB.out.cell (World.block_lt_of_cell? w _ hw325_5)).trans hw325_5), ((HB.out.cell (World.block_lt_of_cell? w _ hw325_6)).trans hw325_6), ((HB.out.cell (World.block_lt_of_cell? w _ hw325_7)).trans hw325_7)⟩ (fun hHeld => ?_); refine with_tabW temperalaw21_CodeBack.tab13 temperalaw21_CodeBack.bits13 (fun HT_ HW_ => ?_)
             generalize wr.drew = w37 at HO_6 HB HL323_6 HL323_7 HL324_6 HL324_7 HR323_6 HR323_7 HR324_6 HR324_7 HR325_6 HR325_7 hx323_0 hx323_1 hx323_2 hx323_3 hx323_4 hx323_5 hx323_6 hx323_7 hx323_8 hx324_0 hx324_1 hx324_2 hx324_3 hx324_4 hx324_5 hx324_6 hx324_7 hx324_8 hx325_0 hx325_1 hx325_2 hx325_3 hx325_4 hx325_5 hx325_6 hx325_7 hHeld ⊢
             refine pure_ (i := 0) (N := some 56) (v := ?_) (a' := ?_) #[true, false, false, false, false, false, false, false, false, false, false, false, false, false, false, false, false, false, false, false] rfl rfl (any_of HT_.out (by kernel_rfl)) (fun _ _ _ h => h) (Or.inl ⟨by rfl, ?_⟩) ?_ ?_
             rotate_left
             ·intro w'
              go_simp
              with_reducible rfl
             rotate_left
             ·simp only [Act.put, List.setIfInBounds_toArray, List.set_cons_zero, List.set_cons_succ, i64_w, i32_w]
              rfl
             refine pure_ (i := 1) (N := some 57) (v := ?_) (a' := ?_) #[true, true, false, false, false, false, false, false, false, false, false, false, false, false, false, false, false, false, false, false] rfl rfl (any_of HT_.out (by kernel_rfl)) (fun _ _ _ h => h) (Or.inl ⟨by rfl, ?_⟩) ?_ ?_
             rotate_left
             ·intro w'
              go_simp
              with_reducible rfl
             rotate_left
             ·simp only [Act.put, List.setIfInBounds_toArray, List.set_cons_zero, List.set_cons_succ, i64_w, i32_w]
              rfl
             refine pure_ (i := 2) (N := some 58) (v := ?_) (a' := ?_) #[true, true, true, false, false, false, false, false, false, false, false, false, false, false, false, false, false, false, false, false] rfl rfl (any_of HT_.out (by kernel_rfl)) (fun _ _ _ h => h) (Or.inl ⟨by rfl, ?_⟩) ?_ ?_
             rotate_left
             ·intro w'
              go_simp
              with_reducible rfl
             rotate_left
             ·simp only [Act.put, List.setIfInBounds_toArray, List.set_cons_zero, List.set_cons_succ, i64_w, i32_w]
              rfl
             refine pure_ (i := 3) (N := some 59) (v := ?_) (a' := ?_) #[true, true, true, true, false, false, false, false, false, false, false, false, false, false, false, false, false, false, false, false] rfl rfl (any_of HT_.out (by kernel_rfl)) (fun _ _ _ h => h) (Or.inl ⟨by rfl, ?_⟩) ?_ ?_
             rotate_left
             ·intro w'
              go_simp
              with_reducible rfl
             rotate_left
             ·simp only [Act.put, List.setIfInBounds_toArray, List.set_cons_zero, List.set_cons_succ, i64_w, i32_w]
              rfl
             refine take_ (i := 4) (N := some 60) (v := ?_) (a' := ?_) #[true, true, true, true, true, false, false, false, false, false, false, false, false, false, false, false, false, false, false, false] rfl rfl (take_ofW HT_.out HW_.out (by kernel_rfl)) (fun _ _ _ h => h) (Or.inl ⟨by rfl, ?_⟩) hHeld ?_ ?_
             rotate_left
             ·rintro w' ⟨s0, s1, s2, s3, s4, s5, s6, s7, s8, s9, s10, s11, s12, s13, s14, s15, s16, s17, s18, s19, s20, s21, s22, s23, s24, s25⟩
              go_simp
              with_reducible rfl
             rotate_left
             ·simp only [Act.put, List.setIfInBounds_toArray, List.set_cons_zero, List.set_cons_succ, i64_w, i32_w]
              rfl
             refine pure_ (i := 5) (N := some 61) (v := ?_) (a' := ?_) #[true, true, true, true, true, true, false, false, false, false, false, false, false, false, false, false, false, false, false, false] rfl rfl (any_of HT_.out (by kernel_rfl)) (fun _ _ _ h => h) (Or.inl ⟨by rfl, ?_⟩) ?_ ?_
             rotate_left
             ·intro w'
              go_simp
              with_reducible rfl
             rotate_left
             ·simp only [Act.put, List.setIfInBounds_toArray, List.set_cons_zero, List.set_cons_succ, i64_w, i32_w]
              rfl
             refine pure_ (i := 6) (N := some 62) (v := ?_) (a' := ?_) #[true, true, true, true, true, true, true, false, false, false, false, false, false, false, false, false, false, false, false, false] rfl rfl (any_of HT_.out (by kernel_rfl)) (fun _ _ _ h => h) (Or.inl ⟨by rfl, ?_⟩) ?_ ?_
             rotate_left
             ·intro w'
              go_simp
              with_reducible rfl
             rotate_left
             ·simp only [Act.put, List.setIfInBounds_toArray, List.set_cons_zero, List.set_cons_succ, i64_w, i32_w]
              rfl
             refine pure_ (i := 7) (N := some 63) (v := ?_) (a' := ?_) #[true, true, true, true, true, true, true, true, false, false, false, false, false, false, false, false, false, false, false, false] rfl rfl (any_of HT_.out (by kernel_rfl)) (fun _ _ _ h => h) (Or.inl ⟨by rfl, ?_⟩) ?_ ?_
             rotate_left
             ·intro w'
              go_simp
              with_reducible rfl
             rotate_left
             ·simp only [Act.put, List.setIfInBounds_toArray, List.set_cons_zero, List.set_cons_succ, i64_w, i32_w]
              rfl
             refine pure_ (i := 8) (N := some 64) (v := ?_) (a' := ?_) #[true, true, true, true, true, true, true, true, true, false, false, false, false, false, false, false, false, false, false, false] rfl rfl (any_of HT_.out (by kernel_rfl)) (fun _ _ _ h => h) (Or.inl ⟨by rfl, ?_⟩) ?_ ?_
             rotate_left
             ·intro w'
              go_simp
              with_reducible rfl
             rotate_left
             ·simp only [Act.put, List.setIfInBounds_toArray, List.set_cons_zero, List.set_cons_succ, i64_w, i32_w]
              rfl
             refine pure_ (i := 9) (N := some 65) (v := ?_) (a' := ?_) #[true, true, true, true, true, true, true, true, true, true, false, false, false, false, false, false, false, false, false, false] rfl rfl (any_of HT_.out (by kernel_rfl)) (fun _ _ _ h => h) (Or.inl ⟨by rfl, ?_⟩) ?_ ?_
             rotate_left
             ·intro w'
              go_simp
              with_reducible rfl
             rotate_left
             ·simp only [Act.put, List.setIfInBounds_toArray, List.set_cons_zero, List.set_cons_succ, i64_w, i32_w]
              rfl
             refine pure_ (i := 10) (N := some 66) (v := ?_) (a' := ?_) #[true, true, true, true, true, true, true, true, true, true, true, false, false, false, false, false, false, false, false, false] rfl rfl (any_of HT_.out (by kernel_rfl)) (fun _ _ _ h => h) (Or.inl ⟨by rfl, ?_⟩) ?_ ?_
             rotate_left
             ·intro w'
              go_simp
              with_reducible rfl
             rotate_left
             ·simp only [Act.put, List.setIfInBounds_toArray, List.set_cons_zero, List.set_cons_succ, i64_w, i32_w]
              rfl
             refine pure_ (i := 12) (N := some 68) (v := ?_) (a' := ?_) #[true, true, true, true, true, true, true, true, true, true, true, false, true, false, false, false, false, false, false, false] rfl rfl (any_of HT_.out (by kernel_rfl)) (fun _ _ _ h => h) (Or.inl ⟨by rfl, ?_⟩) ?_ ?_
             rotate_left
             ·intro w'
              go_simp
              with_reducible rfl
             rotate_left
             ·simp only [Act.put, List.setIfInBounds_toArray, List.set_cons_zero, List.set_cons_succ, i64_w, i32_w]
              rfl
             refine pure_ (i := 13) (N := some 69) (v := ?_) (a' := ?_) #[true, true, true, true, true, true, true, true, true, true, true, false, true, true, false, false, false, false, false, false] rfl rfl (any_of HT_.out (by kernel_rfl)) (fun _ _ _ h => h) (Or.inl ⟨by rfl, ?_⟩) ?_ ?_
             rotate_left
             ·intro w'
              go_simp
              with_reducible rfl
             rotate_left
             ·simp only [Act.put, List.setIfInBounds_toArray, List.set_cons_zero, List.set_cons_succ, i64_w, i32_w]
              rfl
             refine pure_ (i := 14) (N := some 70) (v := ?_) (a' := ?_) #[true, true, true, true, true, true, true, true, true, true, true, false, true, true, true, false, false, false, false, false] rfl rfl (any_of HT_.out (by kernel_rfl)) (fun _ _ _ h => h) (Or.inl ⟨by rfl, ?_⟩) ?_ ?_
             rotate_left
             ·intro w'
              go_simp
              with_reducible rfl
             rotate_left
             ·simp only [Act.put, List.setIfInBounds_toArray, List.set_cons_zero, List.set_cons_succ, i64_w, i32_w]
              rfl
             refine take_ (i := 11) (N := some 67) (v := ?_) (a' := ?_) #[true, true, true, true, true, true, true, true, true, true, true, true, true, true, true, false, false, false, false, false] rfl rfl (take_ofW HT_.out HW_.out (by kernel_rfl)) (fun _ _ _ h => h) (Or.inl ⟨by rfl, ?_⟩) hHeld ?_ ?_
             rotate_left
             ·rintro w' ⟨s0, s1, s2, s3, s4, s5, s6, s7, s8, s9, s10, s11, s12, s13, s14, s15, s16, s17, s18, s19, s20, s21, s22, s23, s24, s25⟩
              go_simp
              with_reducible rfl
             rotate_left
             ·simp only [Act.put, List.setIfInBounds_toArray, List.set_cons_zero, List.set_cons_succ, i64_w, i32_w]
              rfl
             refine take_ (i := 15) (N := some 71) (v := ?_) (a' := ?_) #[true, true, true, true, true, true, true, true, true, true, true, true, true, true, true, true, false, false, false, false] rfl rfl (take_ofW HT_.out HW_.out (by kernel_rfl)) (fun _ _ _ h => h) (Or.inl ⟨by rfl, ?_⟩) hHeld ?_ ?_
             rotate_left
             ·rintro w' ⟨s0, s1, s2, s3, s4, s5, s6, s7, s8, s9, s10, s11, s12, s13, s14, s15, s16, s17, s18, s19, s20, s21, s22, s23, s24, s25⟩
              go_simp
              with_reducible rfl
             rotate_left
             ·simp only [Act.put, List.setIfInBounds_toArray, List.set_cons_zero, List.set_cons_succ, i64_w, i32_w]
              rfl
             refine one_ (i := 16) (N := some 72) #[true, true, true, true, true, true, true, true, true, true, true, true, true, true, true, true, true, false, false, false] rfl rfl (one_of HT_.out (by kernel_rfl)) (by decide) (fun K hK => ?_)
             refine goes_ Try.func14 (by kernel_rfl) rfl #[.agg #[.int .i64 ((rd_T37 l0 x7_2).f0), .int .i64 ((rd_T37 l0 x7_2).f1), .int .i64 ((rd_T37 l0 x7_2).f2), .int .i64 ((rd_T37 l0 x7_2).f3), .int .i64 ((rd_T37 l0 x7_2).f4), .int .i64 ((rd_T37 l0 x7_2).f5), .slice A325_6 ((rd_T37 l0 x7_2).f6).length c325_6, .slice A325_7 ((rd_T37 l0 x7_2).f7).length c325_7]] (by rfl) rfl rfl (by (try simp only [List.map_toArray, List.map_cons, List.map_nil]); first | done | rfl | (simp only [List.length_drop, List.length_take]; rfl)) ?_
             with_reducible refine (temperaref20_Own.calls ((rd_T37 l0 x7_2).f0) ((rd_T37 l0 x7_2).f1) ((rd_T37 l0 x7_2).f2) ((rd_T37 l0 x7_2).f3) ((rd_T37 l0 x7_2).f4) ((rd_T37 l0 x7_2).f5) (fun k_ => k_ < w.heap.size) _ _ ((rd_T37 l0 x7_2).f6) (fun k_ => k_ < w.heap.size) _ _ ((rd_T37 l0 x7_2).f7) t326 t327 t328 t329 t330 t331 t332 t335 _ ?side1 ?side2 A28.out).mono ?_
             (case side1 => exact Kd.V_mk HC325_6.out (Kd.F_below (Kd.C_F (Kd.heap_int .i64) HR325_6.out) (by repeat (first | (with_reducible first | exact HB.out | apply below_alloc | apply pw_below_drewN | apply below_drew1) | exact HB.out))))
             (case side2 => exact Kd.V_mk HC325_7.out (Kd.F_below (Kd.C_F k62_heap HR325_7.out) (by repeat (first | (with_reducible first | exact HB.out | apply below_alloc | apply pw_below_drewN | apply below_drew1) | exact HB.out))))
             rintro e w39 ⟨v333, v336, rfl, ho0, ho1, hb⟩
             have HS0_ := (hb.cell (World.block_lt_of_cell? _ _ (hHeld.1))).trans (hHeld.1)
             have HS1_ := (hb.cell (World.block_lt_of_cell? _ _ (hHeld.2.1))).trans (hHeld.2.1)
             have HS2_ := (hb.cell (World.block_lt_of_cell? _ _ (hHeld.2.2.1))).trans (hHeld.2.2.1)
             have HS3_ := (hb.cell (World.block_lt_of_cell? _ _ (hHeld.2.2.2.1))).trans (hHeld.2.2.2.1)
             have HS4_ := (hb.cell (World.block_lt_of_cell? _ _ (hHeld.2.2.2.2.1))).trans (hHeld.2.2.2.2.1)
             have HS5_ := (hb.cell (World.block_lt_of_cell? _ _ (hHeld.2.2.2.2.2.1))).trans (hHeld.2.2.2.2.2.1)
             have HS6_ := (hb.cell (World.block_lt_of_cell? _ _ (hHeld.2.2.2.2.2.2.1))).trans (hHeld.2.2.2.2.2.2.1)
             have HS7_ := (hb.cell (World.block_lt_of_cell? _ _ (hHeld.2.2.2.2.2.2.2.1))).trans (hHeld.2.2.2.2.2.2.2.1)
             have HS8_ := (hb.cell (World.block_lt_of_cell? _ _ (hHeld.2.2.2.2.2.2.2.2.1))).trans (hHeld.2.2.2.2.2.2.2.2.1)
             have HS9_ := (hb.cell (World.block_lt_of_cell? _ _ (hHeld.2.2.2.2.2.2.2.2.2.1))).trans (hHeld.2.2.2.2.2.2.2.2.2.1)
             have HS10_ := (hb.cell (World.block_lt_of_cell? _ _ (hHeld.2.2.2.2.2.2.2.2.2.2.1))).trans (hHeld.2.2.2.2.2.2.2.2.2.2.1)
             have HS11_ := (hb.cell (World.block_lt_of_cell? _ _ (hHeld.2.2.2.2.2.2.2.2.2.2.2.1))).trans (hHeld.2.2.2.2.2.2.2.2.2.2.2.1)
             have HS12_ := (hb.cell (World.block_lt_of_cell? _ _ (hHeld.2.2.2.2.2.2.2.2.2.2.2.2.1))).trans (hHeld.2.2.2.2.2.2.2.2.2.2.2.2.1)
             have HS13_ := (hb.cell (World.block_lt_of_cell? _ _ (hHeld.2.2.2.2.2.2.2.2.2.2.2.2.2.1))).trans (hHeld.2.2.2.2.2.2.2.2.2.2.2.2.2.1)
             have HS14_ := (hb.cell (World.block_lt_of_cell? _ _ (hHeld.2.2.2.2.2.2.2.2.2.2.2.2.2.2.1))).trans (hHeld.2.2.2.2.2.2.2.2.2.2.2.2.2.2.1)
             have HS15_ := (hb.cell (World.block_lt_of_cell? _ _ (hHeld.2.2.2.2.2.2.2.2.2.2.2.2.2.2.2.1))).trans (hHeld.2.2.2.2.2.2.2.2.2.2.2.2.2.2.2.1)
             have HS16_ := (hb.cell (World.block_lt_of_cell? _ _ (hHeld.2.2.2.2.2.2.2.2.2.2.2.2.2.2.2.2.1))).trans (hHeld.2.2.2.2.2.2.2.2.2.2.2.2.2.2.2.2.1)
             have HS17_ := (hb.cell (World.block_lt_of_cell? _ _ (hHeld.2.2.2.2.2.2.2.2.2.2.2.2.2.2.2.2.2.1))).trans (hHeld.2.2.2.2.2.2.2.2.2.2.2.2.2.2.2.2.2.1)
             refine ⟨_, rfl, ?_⟩
             have n0_ := Aside0.mk (Kd.S_below (by (with_reducible repeat (first | apply Kd.S_alloc | apply Kd.S_drewN | apply Kd.S_drew)); exact HO_6.out) hb)
             have n1_ := Aside0.mk (Kd.R_below (by (with_reducible repeat (first | apply Kd.R_alloc | apply Kd.R_drewN | apply Kd.R_drew)); exact HL323_6.out) hb)
             have n2_ := Aside0.mk (Kd.R_below (by (with_reducible repeat (first | apply Kd.R_alloc | apply Kd.R_drewN | apply Kd.R_drew)); exact HL323_7.out) hb)
             have n3_ := Aside0.mk (Kd.R_below (by (with_reducible repeat (first | apply Kd.R_alloc | apply Kd.R_drewN | apply Kd.R_drew)); exact HL324_6.out) hb)
             have n4_ := Aside0.mk (Kd.R_below (by (with_reducible repeat (first | apply Kd.R_alloc | apply Kd.R_drewN | apply Kd.R_drew)); exact HL324_7.out) hb)
             have n5_ := Aside0.mk (Kd.V_lower (Kd.V_mono (ok' := fun k_ => some k_ ≠ (.slice (some ad323) t315.length co38 : Value).ownBlock) ho0 (fun k_ hk_ => Or.elim hk_ (fun hs_ => Or.elim hs_ (fun hs_ => fun e_ => Nat.not_le.2 hs_ (Kd.S_base HO_6.out k_ e_.symm)) (fun hs_ => fun e_ => Nat.not_le.2 hs_ (Kd.S_base HO_6.out k_ e_.symm))) (fun hn_ => (Kd.fresh' (Kd.S_lt (by (with_reducible repeat (first | apply Kd.S_alloc | apply Kd.S_drewN | apply Kd.S_drew)); exact HO_6.out)) k_ hn_)))) (below_size (by repeat (first | (with_reducible first | exact HB.out | apply below_alloc | apply pw_below_drewN | apply below_drew1) | exact HB.out))))
             have n6_ := Aside0.mk (Kd.V_lower (Kd.V_mono (ok' := fun k_ => some k_ ≠ (.slice (some ad323) t315.length co38 : Value).ownBlock) ho1 (fun k_ hk_ => Or.elim hk_ (fun hs_ => Or.elim hs_ (fun hs_ => fun e_ => Nat.not_le.2 hs_ (Kd.S_base HO_6.out k_ e_.symm)) (fun hs_ => fun e_ => Nat.not_le.2 hs_ (Kd.S_base HO_6.out k_ e_.symm))) (fun hn_ => (Kd.fresh' (Kd.S_lt (by (with_reducible repeat (first | apply Kd.S_alloc | apply Kd.S_drewN | apply Kd.S_drew)); exact HO_6.out)) k_ hn_)))) (below_size (by repeat (first | (with_reducible first | exact HB.out | apply below_alloc | apply pw_below_drewN | apply below_drew1) | exact HB.out))))
             have n7_ := Aside0.mk (Kd.C_below (by repeat (first | (with_reducible exact HR323_6.out) | (with_reducible refine Kd.C_alloc ?_ _) | (with_reducible refine Kd.C_drewN ?_ _) | (with_reducible refine Kd.C_drew ?_) | exact HR323_6.out)) hb)
             have n8_ := Aside0.mk (Kd.C_below (by repeat (first | (with_reducible exact HR323_7.out) | (with_reducible refine Kd.C_alloc ?_ _) | (with_reducible refine Kd.C_drewN ?_ _) | (with_reducible refine Kd.C_drew ?_) | exact HR323_7.out)) hb)
             have n9_ := Aside0.mk (Kd.C_below (by repeat (first | (with_reducible exact HR324_6.out) | (with_reducible refine Kd.C_alloc ?_ _) | (with_reducible refine Kd.C_drewN ?_ _) | (with_reducible refine Kd.C_drew ?_) | exact HR324_6.out)) hb)
             have n10_ := Aside0.mk (Kd.C_below (by repeat (first | (with_reducible exact HR324_7.out) | (with_reducible refine Kd.C_alloc ?_ _) | (with_reducible refine Kd.C_drewN ?_ _) | (with_reducible refine Kd.C_drew ?_) | exact HR324_7.out)) hb)
             have n11_ := Aside0.mk (below_step (by repeat (first | (with_reducible first | exact HB.out | apply below_alloc | apply pw_below_drewN | apply below_drew1) | exact HB.out)) hb)
             clear HO_6
             clear HL323_6
             clear HL323_7
             clear HL324_6
             clear HL324_7
             clear HR323_6
             clear HR323_7
             clear HR324_6
             clear HR324_7
             clear HB
             have HO_6 := n0_
             have HL323_6 := n1_
             have HL323_7 := n2_
             have HL324_6 := n3_
             have HL324_7 := n4_
             have HO334 := n5_
             have HO337 := n6_
             have HR323_6 := n7_
             have HR323_7 := n8_
             have HR324_6 := n9_
             have HR324_7 := n10_
             have HB := n11_
             clear n0_ n1_ n2_ n3_ n4_ n5_ n6_ n7_ n8_ n9_ n10_ n11_
             (try clear hb)
             (try clear hb2)
             (try clear hk)
             (try clear hi)
             (try clear ho0)
             (try clear ho1)
             obtain ⟨Ao40, co40, eo40⟩ := Kd.V_slice HO334.out
             (first | subst eo40 | (injection eo40 with f1_ f2_ f3_; have f4_ := f1_.symm; have f5_ := f3_.symm; clear f1_ f2_ f3_; subst f4_; subst f5_))
             obtain ⟨Ao41, co41, eo41⟩ := Kd.V_slice HO337.out
             (first | subst eo41 | (injection eo41 with f1_ f2_ f3_; have f4_ := f1_.symm; have f5_ := f3_.symm; clear f1_ f2_ f3_; subst f4_; subst f5_))
             refine hK.out _ _ ⟨HS0_, HS1_, HS2_, HS3_, HS4_, HS5_, HS6_, HS7_, HS8_, HS9_, HS10_, HS11_, HS12_, HS13_, HS14_, HS15_, HS16_, HS17_, ((HB.out.cell (World.block_lt_of_cell? w _ hw325_0)).trans hw325_0), ((HB.out.cell (World.block_lt_of_cell? w _ hw325_1)).trans hw325_1), ((HB.out.cell (World.block_lt_of_cell? w _ hw325_2)).trans hw325_2), ((HB.out.cell (World.block_lt_of_cell? w _ hw325_3)).trans hw325_3), ((HB.out.cell (World.block_lt_of_cell? w _ hw325_4)).trans hw325_4), ((HB.out.cell (World.block_lt_of_cell? w _ hw325_5)).trans hw325_5), ((HB.out.cell (World.block_lt_of_cell? w _ hw325_6)).trans hw325_6), ((HB.out.cell (World.block_lt_of_cell? w _ hw325_7)).trans hw325_7)⟩ (fun hHeld => ?_)
             clear hK K
             refine norm_ (a' := ?_) ?_ ?_
             rotate_left
             ·show Act.put _ (some 72) _ = _
              simp only [Act.put, List.setIfInBounds_toArray, List.set_cons_zero, List.set_cons_succ, i64_w, i32_w]
              rfl
             refine one_ (i := 17) (N := some 73) #[true, true, true, true, true, true, true, true, true, true, true, true, true, true, true, true, true, true, false, false] rfl rfl (one_of HT_.out (by kernel_rfl)) (by decide) (fun K hK => ?_)
             refine goes_ Try.func13 (by kernel_rfl) rfl #[.agg #[.int .i64 ((rd_T39 t315 x7_2).f0.f0), .int .i64 ((rd_T39 t315 x7_2).f0.f1), .int .i64 ((rd_T39 t315 x7_2).f0.f2), .int .i64 ((rd_T39 t315 x7_2).f0.f3), .int .i64 ((rd_T39 t315 x7_2).f0.f4), .int .i64 ((rd_T39 t315 x7_2).f0.f5), .slice A323_6 ((rd_T39 t315 x7_2).f0.f6).length c323_6, .slice A323_7 ((rd_T39 t315 x7_2).f0.f7).length c323_7], .agg #[.int .i64 t326, .int .i64 t327, .int .i64 t328, .int .i64 t329, .int .i64 t330, .int .i64 t331, .slice Ao40 t332.length co40, .slice Ao41 t335.length co41]] (by rfl) rfl rfl (by (try simp only [List.map_toArray, List.map_cons, List.map_nil]); first | done | rfl | (simp only [List.length_drop, List.length_take]; rfl)) ?_
             with_reducible refine (temperaref20_Same.calls k2 ((rd_T39 t315 x7_2).f0.f0) ((rd_T39 t315 x7_2).f0.f1) ((rd_T39 t315 x7_2).f0.f2) ((rd_T39 t315 x7_2).f0.f3) ((rd_T39 t315 x7_2).f0.f4) ((rd_T39 t315 x7_2).f0.f5) _ _ ((rd_T39 t315 x7_2).f0.f6) _ _ ((rd_T39 t315 x7_2).f0.f7) t326 t327 t328 t329 t330 t331 _ _ t332 _ _ t335 false _ ?side1 ?side2 ?side3 ?side4 ?side5 ?side6 ?side7 ?side8 A29.out).mono ?_
             (case side1 => repeat (first | exact (by repeat (first | (with_reducible exact HR324_6.out) | (with_reducible refine Kd.C_alloc ?_ _) | (with_reducible refine Kd.C_drewN ?_ _) | (with_reducible refine Kd.C_drew ?_) | exact HR324_6.out)) | (with_reducible refine Kd.C_alloc ?_ _) | (with_reducible refine Kd.C_drewN ?_ _) | (with_reducible refine Kd.C_drew ?_)))
             (case side2 => exact HC324_6.out)
             (case side3 => repeat (first | exact (by repeat (first | (with_reducible exact HR324_7.out) | (with_reducible refine Kd.C_alloc ?_ _) | (with_reducible refine Kd.C_drewN ?_ _) | (with_reducible refine Kd.C_drew ?_) | exact HR324_7.out)) | (with_reducible refine Kd.C_alloc ?_ _) | (with_reducible refine Kd.C_drewN ?_ _) | (with_reducible refine Kd.C_drew ?_)))
             (case side4 => exact HC324_7.out)
             (case side5 => repeat (first | exact (Kd.V_reads' HO334.out).2.2 | (with_reducible refine Kd.C_alloc ?_ _) | (with_reducible refine Kd.C_drewN ?_ _) | (with_reducible refine Kd.C_drew ?_)))
             (case side6 => exact (Kd.V_reads' HO334.out).2.1)
             (case side7 => repeat (first | exact (Kd.V_reads' HO337.out).2.2 | (with_reducible refine Kd.C_alloc ?_ _) | (with_reducible refine Kd.C_drewN ?_ _) | (with_reducible refine Kd.C_drew ?_)))
             (case side8 => exact (Kd.V_reads' HO337.out).2.1)
             rintro e w42 ⟨rfl, hb⟩
             have HS0_ := (hb.cell (World.block_lt_of_cell? _ _ (hHeld.1))).trans (hHeld.1)
             have HS1_ := (hb.cell (World.block_lt_of_cell? _ _ (hHeld.2.1))).trans (hHeld.2.1)
             have HS2_ := (hb.cell (World.block_lt_of_cell? _ _ (hHeld.2.2.1))).trans (hHeld.2.2.1)
             have HS3_ := (hb.cell (World.block_lt_of_cell? _ _ (hHeld.2.2.2.1))).trans (hHeld.2.2.2.1)
             have HS4_ := (hb.cell (World.block_lt_of_cell? _ _ (hHeld.2.2.2.2.1))).trans (hHeld.2.2.2.2.1)
             have HS5_ := (hb.cell (World.block_lt_of_cell? _ _ (hHeld.2.2.2.2.2.1))).trans (hHeld.2.2.2.2.2.1)
             have HS6_ := (hb.cell (World.block_lt_of_cell? _ _ (hHeld.2.2.2.2.2.2.1))).trans (hHeld.2.2.2.2.2.2.1)
             have HS7_ := (hb.cell (World.block_lt_of_cell? _ _ (hHeld.2.2.2.2.2.2.2.1))).trans (hHeld.2.2.2.2.2.2.2.1)
             have HS8_ := (hb.cell (World.block_lt_of_cell? _ _ (hHeld.2.2.2.2.2.2.2.2.1))).trans (hHeld.2.2.2.2.2.2.2.2.1)
             have HS9_ := (hb.cell (World.block_lt_of_cell? _ _ (hHeld.2.2.2.2.2.2.2.2.2.1))).trans (hHeld.2.2.2.2.2.2.2.2.2.1)
             have HS10_ := (hb.cell (World.block_lt_of_cell? _ _ (hHeld.2.2.2.2.2.2.2.2.2.2.1))).trans (hHeld.2.2.2.2.2.2.2.2.2.2.1)
             have HS11_ := (hb.cell (World.block_lt_of_cell? _ _ (hHeld.2.2.2.2.2.2.2.2.2.2.2.1))).trans (hHeld.2.2.2.2.2.2.2.2.2.2.2.1)
             have HS12_ := (hb.cell (World.block_lt_of_cell? _ _ (hHeld.2.2.2.2.2.2.2.2.2.2.2.2.1))).trans (hHeld.2.2.2.2.2.2.2.2.2.2.2.2.1)
             have HS13_ := (hb.cell (World.block_lt_of_cell? _ _ (hHeld.2.2.2.2.2.2.2.2.2.2.2.2.2.1))).trans (hHeld.2.2.2.2.2.2.2.2.2.2.2.2.2.1)
             have HS14_ := (hb.cell (World.block_lt_of_cell? _ _ (hHeld.2.2.2.2.2.2.2.2.2.2.2.2.2.2.1))).trans (hHeld.2.2.2.2.2.2.2.2.2.2.2.2.2.2.1)
             have HS15_ := (hb.cell (World.block_lt_of_cell? _ _ (hHeld.2.2.2.2.2.2.2.2.2.2.2.2.2.2.2.1))).trans (hHeld.2.2.2.2.2.2.2.2.2.2.2.2.2.2.2.1)
             have HS16_ := (hb.cell (World.block_lt_of_cell? _ _ (hHeld.2.2.2.2.2.2.2.2.2.2.2.2.2.2.2.2.1))).trans (hHeld.2.2.2.2.2.2.2.2.2.2.2.2.2.2.2.2.1)
             have HS17_ := (hb.cell (World.block_lt_of_cell? _ _ (hHeld.2.2.2.2.2.2.2.2.2.2.2.2.2.2.2.2.2.1))).trans (hHeld.2.2.2.2.2.2.2.2.2.2.2.2.2.2.2.2.2.1)
             refine ⟨_, rfl, ?_⟩
             have n0_ := Aside0.mk (Kd.S_below (by (with_reducible repeat (first | apply Kd.S_alloc | apply Kd.S_drewN | apply Kd.S_drew)); exact HO_6.out) hb)
             have n1_ := Aside0.mk (Kd.R_below (by (with_reducible repeat (first | apply Kd.R_alloc | apply Kd.R_drewN | apply Kd.R_drew)); exact HL323_6.out) hb)
             have n2_ := Aside0.mk (Kd.R_below (by (with_reducible repeat (first | apply Kd.R_alloc | apply Kd.R_drewN | apply Kd.R_drew)); exact HL323_7.out) hb)
             have n3_ := Aside0.mk (Kd.R_below (by (with_reducible repeat (first | apply Kd.R_alloc | apply Kd.R_drewN | apply Kd.R_drew)); exact HL324_6.out) hb)
             have n4_ := Aside0.mk (Kd.R_below (by (with_reducible repeat (first | apply Kd.R_alloc | apply Kd.R_drewN | apply Kd.R_drew)); exact HL324_7.out) hb)
             have n5_ := Aside0.mk (Kd.V_below (by (with_reducible repeat (first | apply Kd.V_alloc | apply Kd.V_drewN | apply Kd.V_drew)); exact HO334.out) hb)
             have n6_ := Aside0.mk (Kd.V_below (by (with_reducible repeat (first | apply Kd.V_alloc | apply Kd.V_drewN | apply Kd.V_drew)); exact HO337.out) hb)
             have n7_ := Aside0.mk (Kd.C_below (by repeat (first | (with_reducible exact HR323_6.out) | (with_reducible refine Kd.C_alloc ?_ _) | (with_reducible refine Kd.C_drewN ?_ _) | (with_reducible refine Kd.C_drew ?_) | exact HR323_6.out)) hb)
             have n8_ := Aside0.mk (Kd.C_below (by repeat (first | (with_reducible exact HR323_7.out) | (with_reducible refine Kd.C_alloc ?_ _) | (with_reducible refine Kd.C_drewN ?_ _) | (with_reducible refine Kd.C_drew ?_) | exact HR323_7.out)) hb)
             have n9_ := Aside0.mk (Kd.C_below (by repeat (first | (with_reducible exact HR324_6.out) | (with_reducible refine Kd.C_alloc ?_ _) | (with_reducible refine Kd.C_drewN ?_ _) | (with_reducible refine Kd.C_drew ?_) | exact HR324_6.out)) hb)
             have n10_ := Aside0.mk (Kd.C_below (by repeat (first | (with_reducible exact HR324_7.out) | (with_reducible refine Kd.C_alloc ?_ _) | (with_reducible refine Kd.C_drewN ?_ _) | (with_reducible refine Kd.C_drew ?_) | exact HR324_7.out)) hb)
             have n11_ := Aside0.mk (below_step (by repeat (first | (with_reducible first | exact HB.out | apply below_alloc | apply pw_below_drewN | apply below_drew1) | exact HB.out)) hb)
             clear HO_6
             clear HL323_6
             clear HL323_7
             clear HL324_6
             clear HL324_7
             clear HO334
             clear HO337
             clear HR323_6
             clear HR323_7
             clear HR324_6
             clear HR324_7
             clear HB
             have HO_6 := n0_
             have HL323_6 := n1_
             have HL323_7 := n2_
             have HL324_6 := n3_
             have HL324_7 := n4_
             have HO334 := n5_
             have HO337 := n6_
             have HR323_6 := n7_
             have HR323_7 := n8_
             have HR324_6 := n9_
             have HR324_7 := n10_
             have HB := n11_
             clear n0_ n1_ n2_ n3_ n4_ n5_ n6_ n7_ n8_ n9_ n10_ n11_
             (try clear hb)
             (try clear hb2)
             (try clear hk)
             (try clear hi)
             refine hK.out _ _ ⟨HS0_, HS1_, HS2_, HS3_, HS4_, HS5_, HS6_, HS7_, HS8_, HS9_, HS10_, HS11_, HS12_, HS13_, HS14_, HS15_, HS16_, HS17_, ((HB.out.cell (World.block_lt_of_cell? w _ hw325_0)).trans hw325_0), ((HB.out.cell (World.block_lt_of_cell? w _ hw325_1)).trans hw325_1), ((HB.out.cell (World.block_lt_of_cell? w _ hw325_2)).trans hw325_2), ((HB.out.cell (World.block_lt_of_cell? w _ hw325_3)).trans hw325_3), ((HB.out.cell (World.block_lt_of_cell? w _ hw325_4)).trans hw325_4), ((HB.out.cell (World.block_lt_of_cell? w _ hw325_5)).trans hw325_5), ((HB.out.cell (World.block_lt_of_cell? w _ hw325_6)).trans hw325_6), ((HB.out.cell (World.block_lt_of_cell? w _ hw325_7)).trans hw325_7)⟩ (fun hHeld => ?_)
             clear hK K
             refine norm_ (a' := ?_) ?_ ?_
             rotate_left
             ·show Act.put _ (some 73) _ = _
              simp only [Act.put, List.setIfInBounds_toArray, List.set_cons_zero, List.set_cons_succ, i64_w, i32_w]
              rfl
             refine pure_ (i := 18) (N := some 74) (v := ?_) (a' := ?_) #[true, true, true, true, true, true, true, true, true, true, true, true, true, true, true, true, true, true, true, false] rfl rfl (any_of HT_.out (by kernel_rfl)) (fun _ _ _ h => h) (Or.inl ⟨by rfl, ?_⟩) ?_ ?_
             rotate_left
             ·intro w'
              go_simp
              with_reducible rfl
             rotate_left
             ·simp only [Act.put, List.setIfInBounds_toArray, List.set_cons_zero, List.set_cons_succ, i64_w, i32_w]
              rfl
             refine pure_ (i := 19) (N := some 75) (v := ?_) (a' := ?_) #[true, true, true, true, true, true, true, true, true, true, true, true, true, true, true, true, true, true, true, true] rfl rfl (any_of HT_.out (by kernel_rfl)) (fun _ _ _ h => h) (Or.inl ⟨by rfl, ?_⟩) ?_ ?_
             rotate_left
             ·intro w'
              go_simp
              with_reducible rfl
             rotate_left
             ·simp only [Act.put, List.setIfInBounds_toArray, List.set_cons_zero, List.set_cons_succ, i64_w, i32_w]
              rfl
             refine done_ (done_of HT_.out (by kernel_rfl)) ?_
             try go_wp2
             go_ret
             exact ⟨by first | rfl | (simp [errW_none, errW_some] <;> rfl) | (simp [*, errW_none, errW_some] <;> rfl), by repeat (first | (with_reducible first | exact HB.out | apply below_alloc | apply pw_below_drewN | apply below_drew1) | exact HB.out)⟩
           ·rw [if_neg c27] at H
            have c27b0 : (((rd_T39 t315 x7_2).f1) == 0) = false := beq_eq_false_iff_ne.mpr c27
            have c27b1 : (((rd_T39 t315 x7_2).f1) != 0) = true := bne_iff_ne.mpr c27
            obtain rfl := Option.some.inj H
            try go_wp2
            have n0_ := Aside0.mk (Kd.S_drew HO_6.out)
            have n1_ := Aside0.mk (below_drew1 HB.out)
            clear HO_6
            clear HB
            have HO_6 := n0_
            have HB := n1_
            clear n0_ n1_
            obtain ⟨Ao44, co44, eo44⟩ := Kd.S_slice HO_6.out
            (first | subst eo44 | (injection eo44 with f1_ f2_ f3_; have f4_ := f1_.symm; have f5_ := f3_.symm; clear f1_ f2_ f3_; subst f4_; subst f5_))
            have p323 : 0 ≤ (x7_2 : Int) := of_decide_eq_true (by first | (with_reducible assumption) | assumption)
            have q323 : x7_2 < (t315.length : Int) := of_decide_eq_true (by first | (with_reducible assumption) | assumption)
            obtain ⟨ad323, A323_6, c323_6, A323_7, c323_7, e323, hx323_0, hx323_1, hx323_2, hx323_3, hx323_4, hx323_5, hx323_6, hx323_7, hx323_8, hl323_6, hi323_6, hl323_7, hi323_7⟩ := at_T39 (Kd.S_reads' HO_6.out).2.2 x7_2 p323 q323
            cases e323
            obtain ⟨ce323, hce323, hMe323, hcc323⟩ := Kd.S_get HO_6.out z39 x7_2 p323 (by first | exact q323 | exact of_decide_eq_true (by first | (with_reducible assumption) | assumption) | (have e_ := (Kd.S_reads' HO_6.out).1; omega))
            obtain ⟨ve323_6, ve323_7, rfl, ge323_6, ge323_7⟩ := k39_openM hMe323
            have hv323_6 := hcc323 6 _ rfl
            rw [add_field _ _ 6 (by omega)] at hv323_6
            replace hv323_6 := Option.some.inj (hv323_6.symm.trans hx323_6)
            rw [hv323_6] at ge323_6
            have HL323_6 := Aside0.mk (show Kd.R (Kd.int .i64) 3 _ _ _ _ ((rd_T39 t315 x7_2).f0.f6) from ge323_6)
            clear hv323_6 ge323_6
            have hv323_7 := hcc323 7 _ rfl
            rw [add_field _ _ 7 (by omega)] at hv323_7
            replace hv323_7 := Option.some.inj (hv323_7.symm.trans hx323_7)
            rw [hv323_7] at ge323_7
            have HL323_7 := Aside0.mk (show Kd.R k62 62 _ _ _ _ ((rd_T39 t315 x7_2).f0.f7) from ge323_7)
            clear hv323_7 ge323_7
            clear hcc323 hce323
            have HR323_6 := Aside0.mk hi323_6
            have HC323_6 := Aside0.mk hl323_6
            clear hi323_6 hl323_6
            have HR323_7 := Aside0.mk hi323_7
            have HC323_7 := Aside0.mk hl323_7
            clear hi323_7 hl323_7
            replace p323 := eq_true p323
            replace q323 := eq_true q323
            refine start_ (n := 20) (S := fun w' => w'.cell? (ad323.add ((x7_2).toNat * 9)) = some (.int .i64 ((rd_T39 t315 x7_2).f0.f0)) ∧ w'.cell? ⟨(ad323.add ((x7_2).toNat * 9)).block, (ad323.add ((x7_2).toNat * 9)).off + 1, none⟩ = some (.int .i64 ((rd_T39 t315 x7_2).f0.f1)) ∧ w'.cell? ⟨(ad323.add ((x7_2).toNat * 9)).block, (ad323.add ((x7_2).toNat * 9)).off + 2, none⟩ = some (.int .i64 ((rd_T39 t315 x7_2).f0.f2)) ∧ w'.cell? ⟨(ad323.add ((x7_2).toNat * 9)).block, (ad323.add ((x7_2).toNat * 9)).off + 3, none⟩ = some (.int .i64 ((rd_T39 t315 x7_2).f0.f3)) ∧ w'.cell? ⟨(ad323.add ((x7_2).toNat * 9)).block, (ad323.add ((x7_2).toNat * 9)).off + 4, none⟩ = some (.int .i64 ((rd_T39 t315 x7_2).f0.f4)) ∧ w'.cell? ⟨(ad323.add ((x7_2).toNat * 9)).block, (ad323.add ((x7_2).toNat * 9)).off + 5, none⟩ = some (.int .i64 ((rd_T39 t315 x7_2).f0.f5)) ∧ w'.cell? ⟨(ad323.add ((x7_2).toNat * 9)).block, (ad323.add ((x7_2).toNat * 9)).off + 6, none⟩ = some (.slice A323_6 ((rd_T39 t315 x7_2).f0.f6).length c323_6) ∧ w'.cell? ⟨(ad323.add ((x7_2).toNat * 9)).block, (ad323.add ((x7_2).toNat * 9)).off + 7, none⟩ = some (.slice A323_7 ((rd_T39 t315 x7_2).f0.f7).length c323_7) ∧ w'.cell? ⟨(ad323.add ((x7_2).toNat * 9)).block, (ad323.add ((x7_2).toNat * 9)).off + 8, none⟩ = some (.int .i64 ((rd_T39 t315 x7_2).f1))) (ds := []) #[false, false, false, false, false, false, false, false, false, false, false, false, false, false, false, false, false, false, false, false] (by kernel_rfl) rfl rfl ⟨hx323_0, hx323_1, hx323_2, hx323_3, hx323_4, hx323_5, hx323_6, hx323_7, hx323_8⟩ (fun hHeld => ?_); refine with_tabW temperalaw21_CodeBack.tab13 temperalaw21_CodeBack.bits13 (fun HT_ HW_ => ?_)
            generalize wr.drew = w43 at HO_6 HB HL323_6 HL323_7 HR323_6 HR323_7 hx323_0 hx323_1 hx323_2 hx323_3 hx323_4 hx323_5 hx323_6 hx323_7 hx323_8 hHeld ⊢
            refine pure_ (i := 0) (N := some 56) (v := ?_) (a' := ?_) #[true, false, false, false, false, false, false, false, false, false, false, false, false, false, false, false, false, false, false, false] rfl rfl (any_of HT_.out (by kernel_rfl)) (fun _ _ _ h => h) (Or.inl ⟨by rfl, ?_⟩) ?_ ?_
            rotate_left
            ·intro w'
             go_simp
             with_reducible rfl
            rotate_left
            ·simp only [Act.put, List.setIfInBounds_toArray, List.set_cons_zero, List.set_cons_succ, i64_w, i32_w]
             rfl
            refine pure_ (i := 1) (N := some 57) (v := ?_) (a' := ?_) #[true, true, false, false, false, false, false, false, false, false, false, false, false, false, false, false, false, false, false, false] rfl rfl (any_of HT_.out (by kernel_rfl)) (fun _ _ _ h => h) (Or.inl ⟨by rfl, ?_⟩) ?_ ?_
            rotate_left
            ·intro w'
             go_simp
             with_reducible rfl
            rotate_left
            ·simp only [Act.put, List.setIfInBounds_toArray, List.set_cons_zero, List.set_cons_succ, i64_w, i32_w]
             rfl
            refine pure_ (i := 2) (N := some 58) (v := ?_) (a' := ?_) #[true, true, true, false, false, false, false, false, false, false, false, false, false, false, false, false, false, false, false, false] rfl rfl (any_of HT_.out (by kernel_rfl)) (fun _ _ _ h => h) (Or.inl ⟨by rfl, ?_⟩) ?_ ?_
            rotate_left
            ·intro w'
             go_simp
             with_reducible rfl
            rotate_left
            ·simp only [Act.put, List.setIfInBounds_toArray, List.set_cons_zero, List.set_cons_succ, i64_w, i32_w]
             rfl
            refine pure_ (i := 3) (N := some 59) (v := ?_) (a' := ?_) #[true, true, true, true, false, false, false, false, false, false, false, false, false, false, false, false, false, false, false, false] rfl rfl (any_of HT_.out (by kernel_rfl)) (fun _ _ _ h => h) (Or.inl ⟨by rfl, ?_⟩) ?_ ?_
            rotate_left
            ·intro w'
             go_simp
             with_reducible rfl
            rotate_left
            ·simp only [Act.put, List.setIfInBounds_toArray, List.set_cons_zero, List.set_cons_succ, i64_w, i32_w]
             rfl
            refine take_ (i := 4) (N := some 60) (v := ?_) (a' := ?_) #[true, true, true, true, true, false, false, false, false, false, false, false, false, false, false, false, false, false, false, false] rfl rfl (take_ofW HT_.out HW_.out (by kernel_rfl)) (fun _ _ _ h => h) (Or.inl ⟨by rfl, ?_⟩) hHeld ?_ ?_
            rotate_left
            ·rintro w' ⟨s0, s1, s2, s3, s4, s5, s6, s7, s8⟩
             go_simp
             with_reducible rfl
            rotate_left
            ·simp only [Act.put, List.setIfInBounds_toArray, List.set_cons_zero, List.set_cons_succ, i64_w, i32_w]
             rfl
            refine pure_ (i := 5) (N := some 61) (v := ?_) (a' := ?_) #[true, true, true, true, true, true, false, false, false, false, false, false, false, false, false, false, false, false, false, false] rfl rfl (any_of HT_.out (by kernel_rfl)) (fun _ _ _ h => h) (Or.inl ⟨by rfl, ?_⟩) ?_ ?_
            rotate_left
            ·intro w'
             go_simp
             with_reducible rfl
            rotate_left
            ·simp only [Act.put, List.setIfInBounds_toArray, List.set_cons_zero, List.set_cons_succ, i64_w, i32_w]
             rfl
            refine pure_ (i := 6) (N := some 62) (v := ?_) (a' := ?_) #[true, true, true, true, true, true, true, false, false, false, false, false, false, false, false, false, false, false, false, false] rfl rfl (any_of HT_.out (by kernel_rfl)) (fun _ _ _ h => h) (Or.inl ⟨by rfl, ?_⟩) ?_ ?_
            rotate_left
            ·intro w'
             go_simp
             with_reducible rfl
            rotate_left
            ·simp only [Act.put, List.setIfInBounds_toArray, List.set_cons_zero, List.set_cons_succ, i64_w, i32_w]
             rfl
            refine pure_ (i := 7) (N := some 63) (v := undef) (a' := ?_) #[true, true, true, true, true, true, true, true, false, false, false, false, false, false, false, false, false, false, false, false] rfl rfl (any_of HT_.out (by kernel_rfl)) (fun _ _ _ h => h) (Or.inr ⟨by rfl, rfl⟩) ?_ ?_
            rotate_left
            ·simp only [Act.put, List.setIfInBounds_toArray, List.set_cons_zero, List.set_cons_succ, i64_w, i32_w]
             rfl
            refine pure_ (i := 8) (N := some 64) (v := undef) (a' := ?_) #[true, true, true, true, true, true, true, true, true, false, false, false, false, false, false, false, false, false, false, false] rfl rfl (any_of HT_.out (by kernel_rfl)) (fun _ _ _ h => h) (Or.inr ⟨by rfl, rfl⟩) ?_ ?_
            rotate_left
            ·simp only [Act.put, List.setIfInBounds_toArray, List.set_cons_zero, List.set_cons_succ, i64_w, i32_w]
             rfl
            refine pure_ (i := 9) (N := some 65) (v := undef) (a' := ?_) #[true, true, true, true, true, true, true, true, true, true, false, false, false, false, false, false, false, false, false, false] rfl rfl (any_of HT_.out (by kernel_rfl)) (fun _ _ _ h => h) (Or.inr ⟨by rfl, rfl⟩) ?_ ?_
            rotate_left
            ·simp only [Act.put, List.setIfInBounds_toArray, List.set_cons_zero, List.set_cons_succ, i64_w, i32_w]
             rfl
            refine pure_ (i := 10) (N := some 66) (v := undef) (a' := ?_) #[true, true, true, true, true, true, true, true, true, true, true, false, false, false, false, false, false, false, false, false] rfl rfl (any_of HT_.out (by kernel_rfl)) (fun _ _ _ h => h) (Or.inr ⟨by rfl, rfl⟩) ?_ ?_
            rotate_left
            ·simp only [Act.put, List.setIfInBounds_toArray, List.set_cons_zero, List.set_cons_succ, i64_w, i32_w]
             rfl
            refine pure_ (i := 11) (N := some 67) (v := undef) (a' := ?_) #[true, true, true, true, true, true, true, true, true, true, true, true, false, false, false, false, false, false, false, false] rfl rfl (any_of HT_.out (by kernel_rfl)) (fun _ _ _ h => h) (Or.inr ⟨by rfl, rfl⟩) ?_ ?_
            rotate_left
            ·simp only [Act.put, List.setIfInBounds_toArray, List.set_cons_zero, List.set_cons_succ, i64_w, i32_w]
             rfl
            refine pure_ (i := 12) (N := some 68) (v := undef) (a' := ?_) #[true, true, true, true, true, true, true, true, true, true, true, true, true, false, false, false, false, false, false, false] rfl rfl (any_of HT_.out (by kernel_rfl)) (fun _ _ _ h => h) (Or.inr ⟨by rfl, rfl⟩) ?_ ?_
            rotate_left
            ·simp only [Act.put, List.setIfInBounds_toArray, List.set_cons_zero, List.set_cons_succ, i64_w, i32_w]
             rfl
            refine pure_ (i := 13) (N := some 69) (v := undef) (a' := ?_) #[true, true, true, true, true, true, true, true, true, true, true, true, true, true, false, false, false, false, false, false] rfl rfl (any_of HT_.out (by kernel_rfl)) (fun _ _ _ h => h) (Or.inr ⟨by rfl, rfl⟩) ?_ ?_
            rotate_left
            ·simp only [Act.put, List.setIfInBounds_toArray, List.set_cons_zero, List.set_cons_succ, i64_w, i32_w]
             rfl
            refine pure_ (i := 14) (N := some 70) (v := undef) (a' := ?_) #[true, true, true, true, true, true, true, true, true, true, true, true, true, true, true, false, false, false, false, false] rfl rfl (any_of HT_.out (by kernel_rfl)) (fun _ _ _ h => h) (Or.inr ⟨by rfl, rfl⟩) ?_ ?_
            rotate_left
            ·simp only [Act.put, List.setIfInBounds_toArray, List.set_cons_zero, List.set_cons_succ, i64_w, i32_w]
             rfl
            refine pure_ (i := 15) (N := some 71) (v := undef) (a' := ?_) #[true, true, true, true, true, true, true, true, true, true, true, true, true, true, true, true, false, false, false, false] rfl rfl (any_of HT_.out (by kernel_rfl)) (fun _ _ _ h => h) (Or.inr ⟨by rfl, rfl⟩) ?_ ?_
            rotate_left
            ·simp only [Act.put, List.setIfInBounds_toArray, List.set_cons_zero, List.set_cons_succ, i64_w, i32_w]
             rfl
            refine pure_ (i := 16) (N := some 72) (v := undef) (a' := ?_) #[true, true, true, true, true, true, true, true, true, true, true, true, true, true, true, true, true, false, false, false] rfl rfl (any_of HT_.out (by kernel_rfl)) (fun _ _ _ h => h) (Or.inr ⟨by rfl, rfl⟩) ?_ ?_
            rotate_left
            ·simp only [Act.put, List.setIfInBounds_toArray, List.set_cons_zero, List.set_cons_succ, i64_w, i32_w]
             rfl
            refine pure_ (i := 17) (N := some 73) (v := undef) (a' := ?_) #[true, true, true, true, true, true, true, true, true, true, true, true, true, true, true, true, true, true, false, false] rfl rfl (any_of HT_.out (by kernel_rfl)) (fun _ _ _ h => h) (Or.inr ⟨by rfl, rfl⟩) ?_ ?_
            rotate_left
            ·simp only [Act.put, List.setIfInBounds_toArray, List.set_cons_zero, List.set_cons_succ, i64_w, i32_w]
             rfl
            refine pure_ (i := 18) (N := some 74) (v := undef) (a' := ?_) #[true, true, true, true, true, true, true, true, true, true, true, true, true, true, true, true, true, true, true, false] rfl rfl (any_of HT_.out (by kernel_rfl)) (fun _ _ _ h => h) (Or.inr ⟨by rfl, rfl⟩) ?_ ?_
            rotate_left
            ·simp only [Act.put, List.setIfInBounds_toArray, List.set_cons_zero, List.set_cons_succ, i64_w, i32_w]
             rfl
            refine pure_ (i := 19) (N := some 75) (v := ?_) (a' := ?_) #[true, true, true, true, true, true, true, true, true, true, true, true, true, true, true, true, true, true, true, true] rfl rfl (any_of HT_.out (by kernel_rfl)) (fun _ _ _ h => h) (Or.inl ⟨by rfl, ?_⟩) ?_ ?_
            rotate_left
            ·intro w'
             go_simp
             with_reducible rfl
            rotate_left
            ·simp only [Act.put, List.setIfInBounds_toArray, List.set_cons_zero, List.set_cons_succ, i64_w, i32_w]
             rfl
            refine done_ (done_of HT_.out (by kernel_rfl)) ?_
            try go_wp2
            go_ret
            exact ⟨by first | rfl | (simp [errW_none, errW_some] <;> rfl) | (simp [*, errW_none, errW_some] <;> rfl), by repeat (first | (with_reducible first | exact HB.out | apply below_alloc | apply pw_below_drewN | apply below_drew1) | exact HB.out)⟩
          ·rw [if_neg c26] at H
           exact absurd H (by simp)
         ·rw [if_neg c25] at H
          exact absurd H (by simp)
        ·rw [if_neg c24] at H
         have c24b0 : decide (x7_2 < (l0.length : Int)) = false := decide_eq_false c24
         clear c24
         replace H := Option.bind_eq_some_iff.mp H
         obtain ⟨t322, A450, H⟩ := H
         replace H : (some t322) = some r := H
         have A45 := Aside0.mk A450
         clear A450
         obtain rfl := Option.some.inj H
         go_wp2_with (first | ((with_reducible refine gate_callee (f := 7) rfl ?_); refine goesL_ (some 76) rfl rfl Try.func7 (by kernel_rfl) rfl #[] rfl (by (try simp only [List.map_toArray, List.map_cons, List.map_nil]); first | done | rfl | (simp only [List.length_drop, List.length_take]; rfl)) ?_; (with_reducible refine (temperalaw21_awake.calls k2  t322 _ A45.out).mono ?_); rintro e w46 ⟨rfl, hb⟩; refine ⟨_, rfl, ?_⟩; have n0_ := Aside0.mk (Kd.S_below (by (with_reducible repeat (first | apply Kd.S_alloc | apply Kd.S_drewN | apply Kd.S_drew)); exact HO_6.out) hb); have n1_ := Aside0.mk (below_step (by repeat (first | (with_reducible first | exact HB.out | apply below_alloc | apply pw_below_drewN | apply below_drew1) | exact HB.out)) hb); clear HO_6; clear HB; have HO_6 := n0_; have HB := n1_; clear n0_ n1_; (try clear hb); (try clear hb2); (try clear hk); (try clear hi)))
         go_ret
         exact ⟨by first | rfl | (simp [errW_none, errW_some] <;> rfl) | (simp [*, errW_none, errW_some] <;> rfl), by repeat (first | (with_reducible first | exact HB.out | apply below_alloc | apply pw_below_drewN | apply below_drew1) | exact HB.out)⟩
  ·rw [if_neg c6] at H
   have c6b0 : (t313 == 0) = false := beq_eq_false_iff_ne.mpr c6
   have c6b1 : (t313 != 0) = true := bne_iff_ne.mpr c6
   by_cases c47 : (t309.length : Int) = 0
   ·rw [if_pos c47] at H
    have c47b0 : ((t309.length : Int) == 0) = true := beq_iff_eq.mpr c47
    have c47b1 : ((t309.length : Int) != 0) = false := bne_eq_false_iff_eq.mpr c47
    clear c47
    by_cases c48 : t310 = t313
    ·rw [if_pos c48] at H
     have c48b0 : (t310 == t313) = true := beq_iff_eq.mpr c48
     have c48b1 : (t310 != t313) = false := bne_eq_false_iff_eq.mpr c48
     clear c48
     replace H := Option.bind_eq_some_iff.mp H
     obtain ⟨t314, A490, H⟩ := H
     replace H : (some t314) = some r := H
     have A49 := Aside0.mk A490
     clear A490
     obtain rfl := Option.some.inj H
     go_enter Try.func3, Try.ntmps3
     go_wp2_with (first | ((with_reducible refine gate_callee (f := 6) rfl ?_); refine goesL_ (some 9) rfl rfl Try.func6 (by kernel_rfl) rfl #[.slice A0 l0.length c0, .int .i64 20] rfl (by (try simp only [List.map_toArray, List.map_cons, List.map_nil]); first | done | rfl | (simp only [List.length_drop, List.length_take]; rfl)) ?_; (with_reducible refine (temperaref21_Light.calls k _ _ l0 20 true _ ?side1 ?side2 A2.out).mono ?_); (case side1 => repeat (first | exact HR0.out | (with_reducible refine Kd.C_alloc ?_ _) | (with_reducible refine Kd.C_drewN ?_ _) | (with_reducible refine Kd.C_drew ?_))); (case side2 => exact HC0.out); rintro e w50 ⟨rfl, hb⟩; refine ⟨_, rfl, ?_⟩; have n0_ := Aside0.mk (below_step (by repeat (first | (with_reducible first | exact HB.out | apply below_alloc | apply pw_below_drewN | apply below_drew1) | exact HB.out)) hb); clear HB; have HB := n0_; clear n0_; (try clear hb); (try clear hb2); (try clear hk); (try clear hi)) | ((with_reducible refine gate_callee (f := 8) rfl ?_); refine goesL_ (some 14) rfl rfl Try.func8 (by kernel_rfl) rfl #[.slice A0 l0.length c0] rfl (by (try simp only [List.map_toArray, List.map_cons, List.map_nil]); first | done | rfl | (simp only [List.length_drop, List.length_take]; rfl)) ?_; (with_reducible refine (code_Encode.calls k _ _ l0 t309 t310 _ ?side1 ?side2 A4.out).mono ?_); (case side1 => repeat (first | exact (Kd.C_below HR0.out HB.out) | (with_reducible refine Kd.C_alloc ?_ _) | (with_reducible refine Kd.C_drewN ?_ _) | (with_reducible refine Kd.C_drew ?_))); (case side2 => exact HC0.out); rintro e w51 ⟨v311, rfl, ho0, hb⟩; refine ⟨_, rfl, ?_⟩; have n0_ := Aside0.mk (Kd.R_lower ho0 (below_size (by repeat (first | (with_reducible first | exact HB.out | apply below_alloc | apply pw_below_drewN | apply below_drew1) | exact HB.out)))); have n1_ := Aside0.mk (below_step (by repeat (first | (with_reducible first | exact HB.out | apply below_alloc | apply pw_below_drewN | apply below_drew1) | exact HB.out)) hb); clear HB; have HO312 := n0_; have HB := n1_; clear n0_ n1_; (try clear hb); (try clear hb2); (try clear hk); (try clear hi); (try clear ho0)) | ((with_reducible refine gate_callee (f := 9) rfl ?_); refine goesL_ (some 18) rfl rfl Try.func9 (by kernel_rfl) rfl #[.slice A0 l0.length c0] rfl (by (try simp only [List.map_toArray, List.map_cons, List.map_nil]); first | done | rfl | (simp only [List.length_drop, List.length_take]; rfl)) ?_; (with_reducible refine (temperaref21_Check.calls k _ _ l0 t313 _ ?side1 ?side2 A5.out).mono ?_); (case side1 => repeat (first | exact (Kd.C_below HR0.out HB.out) | (with_reducible refine Kd.C_alloc ?_ _) | (with_reducible refine Kd.C_drewN ?_ _) | (with_reducible refine Kd.C_drew ?_))); (case side2 => exact HC0.out); rintro e w52 ⟨rfl, hb⟩; refine ⟨_, rfl, ?_⟩; have n0_ := Aside0.mk (Kd.R_below (by (with_reducible repeat (first | apply Kd.R_alloc | apply Kd.R_drewN | apply Kd.R_drew)); exact HO312.out) hb); have n1_ := Aside0.mk (below_step (by repeat (first | (with_reducible first | exact HB.out | apply below_alloc | apply pw_below_drewN | apply below_drew1) | exact HB.out)) hb); clear HO312; clear HB; have HO312 := n0_; have HB := n1_; clear n0_ n1_; (try clear hb); (try clear hb2); (try clear hk); (try clear hi); obtain ⟨Ao53, co53, eo53⟩ := Kd.R_slice HO312.out; subst eo53) | (go_at_call 7; (with_reducible refine (temperalaw21_awake.calls k  t314 _ A49.out).mono ?_); rintro e w54 ⟨rfl, hb⟩; have n0_ := Aside0.mk (Kd.R_below (by (with_reducible repeat (first | apply Kd.R_alloc | apply Kd.R_drewN | apply Kd.R_drew)); exact HO312.out) hb); have n1_ := Aside0.mk (below_step (by repeat (first | (with_reducible first | exact HB.out | apply below_alloc | apply pw_below_drewN | apply below_drew1) | exact HB.out)) hb); clear HO312; clear HB; have HO312 := n0_; have HB := n1_; clear n0_ n1_; (try clear hb); (try clear hb2); (try clear hk); (try clear hi)))
     go_ret
     exact ⟨by first | rfl | (simp [errW_none, errW_some] <;> rfl) | (simp [*, errW_none, errW_some] <;> rfl), by repeat (first | (with_reducible first | exact HB.out | apply below_alloc | apply pw_below_drewN | apply below_drew1) | exact HB.out)⟩
    ·rw [if_neg c48] at H
     have c48b0 : (t310 == t313) = false := beq_eq_false_iff_ne.mpr c48
     have c48b1 : (t310 != t313) = true := bne_iff_ne.mpr c48
     obtain rfl := Option.some.inj H
     go_enter Try.func3, Try.ntmps3
     go_wp2_with (first | ((with_reducible refine gate_callee (f := 6) rfl ?_); refine goesL_ (some 9) rfl rfl Try.func6 (by kernel_rfl) rfl #[.slice A0 l0.length c0, .int .i64 20] rfl (by (try simp only [List.map_toArray, List.map_cons, List.map_nil]); first | done | rfl | (simp only [List.length_drop, List.length_take]; rfl)) ?_; (with_reducible refine (temperaref21_Light.calls k _ _ l0 20 true _ ?side1 ?side2 A2.out).mono ?_); (case side1 => repeat (first | exact HR0.out | (with_reducible refine Kd.C_alloc ?_ _) | (with_reducible refine Kd.C_drewN ?_ _) | (with_reducible refine Kd.C_drew ?_))); (case side2 => exact HC0.out); rintro e w55 ⟨rfl, hb⟩; refine ⟨_, rfl, ?_⟩; have n0_ := Aside0.mk (below_step (by repeat (first | (with_reducible first | exact HB.out | apply below_alloc | apply pw_below_drewN | apply below_drew1) | exact HB.out)) hb); clear HB; have HB := n0_; clear n0_; (try clear hb); (try clear hb2); (try clear hk); (try clear hi)) | ((with_reducible refine gate_callee (f := 8) rfl ?_); refine goesL_ (some 14) rfl rfl Try.func8 (by kernel_rfl) rfl #[.slice A0 l0.length c0] rfl (by (try simp only [List.map_toArray, List.map_cons, List.map_nil]); first | done | rfl | (simp only [List.length_drop, List.length_take]; rfl)) ?_; (with_reducible refine (code_Encode.calls k _ _ l0 t309 t310 _ ?side1 ?side2 A4.out).mono ?_); (case side1 => repeat (first | exact (Kd.C_below HR0.out HB.out) | (with_reducible refine Kd.C_alloc ?_ _) | (with_reducible refine Kd.C_drewN ?_ _) | (with_reducible refine Kd.C_drew ?_))); (case side2 => exact HC0.out); rintro e w56 ⟨v311, rfl, ho0, hb⟩; refine ⟨_, rfl, ?_⟩; have n0_ := Aside0.mk (Kd.R_lower ho0 (below_size (by repeat (first | (with_reducible first | exact HB.out | apply below_alloc | apply pw_below_drewN | apply below_drew1) | exact HB.out)))); have n1_ := Aside0.mk (below_step (by repeat (first | (with_reducible first | exact HB.out | apply below_alloc | apply pw_below_drewN | apply below_drew1) | exact HB.out)) hb); clear HB; have HO312 := n0_; have HB := n1_; clear n0_ n1_; (try clear hb); (try clear hb2); (try clear hk); (try clear hi); (try clear ho0)) | ((with_reducible refine gate_callee (f := 9) rfl ?_); refine goesL_ (some 18) rfl rfl Try.func9 (by kernel_rfl) rfl #[.slice A0 l0.length c0] rfl (by (try simp only [List.map_toArray, List.map_cons, List.map_nil]); first | done | rfl | (simp only [List.length_drop, List.length_take]; rfl)) ?_; (with_reducible refine (temperaref21_Check.calls k _ _ l0 t313 _ ?side1 ?side2 A5.out).mono ?_); (case side1 => repeat (first | exact (Kd.C_below HR0.out HB.out) | (with_reducible refine Kd.C_alloc ?_ _) | (with_reducible refine Kd.C_drewN ?_ _) | (with_reducible refine Kd.C_drew ?_))); (case side2 => exact HC0.out); rintro e w57 ⟨rfl, hb⟩; refine ⟨_, rfl, ?_⟩; have n0_ := Aside0.mk (Kd.R_below (by (with_reducible repeat (first | apply Kd.R_alloc | apply Kd.R_drewN | apply Kd.R_drew)); exact HO312.out) hb); have n1_ := Aside0.mk (below_step (by repeat (first | (with_reducible first | exact HB.out | apply below_alloc | apply pw_below_drewN | apply below_drew1) | exact HB.out)) hb); clear HO312; clear HB; have HO312 := n0_; have HB := n1_; clear n0_ n1_; (try clear hb); (try clear hb2); (try clear hk); (try clear hi); obtain ⟨Ao58, co58, eo58⟩ := Kd.R_slice HO312.out; subst eo58))
     go_ret
     exact ⟨by first | rfl | (simp [errW_none, errW_some] <;> rfl) | (simp [*, errW_none, errW_some] <;> rfl), by repeat (first | (with_reducible first | exact HB.out | apply below_alloc | apply pw_below_drewN | apply below_drew1) | exact HB.out)⟩
   ·rw [if_neg c47] at H
    have c47b0 : ((t309.length : Int) == 0) = false := beq_eq_false_iff_ne.mpr c47
    have c47b1 : ((t309.length : Int) != 0) = true := bne_iff_ne.mpr c47
    have c47b2 : ¬ (t309 = []) := fun h_ => c47 (by rw [h_]; rfl)
    obtain rfl := Option.some.inj H
    go_enter Try.func3, Try.ntmps3
    go_wp2_with (first | ((with_reducible refine gate_callee (f := 6) rfl ?_); refine goesL_ (some 9) rfl rfl Try.func6 (by kernel_rfl) rfl #[.slice A0 l0.length c0, .int .i64 20] rfl (by (try simp only [List.map_toArray, List.map_cons, List.map_nil]); first | done | rfl | (simp only [List.length_drop, List.length_take]; rfl)) ?_; (with_reducible refine (temperaref21_Light.calls k _ _ l0 20 true _ ?side1 ?side2 A2.out).mono ?_); (case side1 => repeat (first | exact HR0.out | (with_reducible refine Kd.C_alloc ?_ _) | (with_reducible refine Kd.C_drewN ?_ _) | (with_reducible refine Kd.C_drew ?_))); (case side2 => exact HC0.out); rintro e w59 ⟨rfl, hb⟩; refine ⟨_, rfl, ?_⟩; have n0_ := Aside0.mk (below_step (by repeat (first | (with_reducible first | exact HB.out | apply below_alloc | apply pw_below_drewN | apply below_drew1) | exact HB.out)) hb); clear HB; have HB := n0_; clear n0_; (try clear hb); (try clear hb2); (try clear hk); (try clear hi)) | ((with_reducible refine gate_callee (f := 8) rfl ?_); refine goesL_ (some 14) rfl rfl Try.func8 (by kernel_rfl) rfl #[.slice A0 l0.length c0] rfl (by (try simp only [List.map_toArray, List.map_cons, List.map_nil]); first | done | rfl | (simp only [List.length_drop, List.length_take]; rfl)) ?_; (with_reducible refine (code_Encode.calls k _ _ l0 t309 t310 _ ?side1 ?side2 A4.out).mono ?_); (case side1 => repeat (first | exact (Kd.C_below HR0.out HB.out) | (with_reducible refine Kd.C_alloc ?_ _) | (with_reducible refine Kd.C_drewN ?_ _) | (with_reducible refine Kd.C_drew ?_))); (case side2 => exact HC0.out); rintro e w60 ⟨v311, rfl, ho0, hb⟩; refine ⟨_, rfl, ?_⟩; have n0_ := Aside0.mk (Kd.R_lower ho0 (below_size (by repeat (first | (with_reducible first | exact HB.out | apply below_alloc | apply pw_below_drewN | apply below_drew1) | exact HB.out)))); have n1_ := Aside0.mk (below_step (by repeat (first | (with_reducible first | exact HB.out | apply below_alloc | apply pw_below_drewN | apply below_drew1) | exact HB.out)) hb); clear HB; have HO312 := n0_; have HB := n1_; clear n0_ n1_; (try clear hb); (try clear hb2); (try clear hk); (try clear hi); (try clear ho0)) | ((with_reducible refine gate_callee (f := 9) rfl ?_); refine goesL_ (some 18) rfl rfl Try.func9 (by kernel_rfl) rfl #[.slice A0 l0.length c0] rfl (by (try simp only [List.map_toArray, List.map_cons, List.map_nil]); first | done | rfl | (simp only [List.length_drop, List.length_take]; rfl)) ?_; (with_reducible refine (temperaref21_Check.calls k _ _ l0 t313 _ ?side1 ?side2 A5.out).mono ?_); (case side1 => repeat (first | exact (Kd.C_below HR0.out HB.out) | (with_reducible refine Kd.C_alloc ?_ _) | (with_reducible refine Kd.C_drewN ?_ _) | (with_reducible refine Kd.C_drew ?_))); (case side2 => exact HC0.out); rintro e w61 ⟨rfl, hb⟩; refine ⟨_, rfl, ?_⟩; have n0_ := Aside0.mk (Kd.R_below (by (with_reducible repeat (first | apply Kd.R_alloc | apply Kd.R_drewN | apply Kd.R_drew)); exact HO312.out) hb); have n1_ := Aside0.mk (below_step (by repeat (first | (with_reducible first | exact HB.out | apply below_alloc | apply pw_below_drewN | apply below_drew1) | exact HB.out)) hb); clear HO312; clear HB; have HO312 := n0_; have HB := n1_; clear n0_ n1_; (try clear hb); (try clear hb2); (try clear hk); (try clear hi); obtain ⟨Ao62, co62, eo62⟩ := Kd.R_slice HO312.out; subst eo62))
    go_ret
    exact ⟨by first | rfl | (simp [errW_none, errW_some] <;> rfl) | (simp [*, errW_none, errW_some] <;> rfl), by repeat (first | (with_reducible first | exact HB.out | apply below_alloc | apply pw_below_drewN | apply below_drew1) | exact HB.out)⟩
 ·replace c3 := Bool.eq_false_iff.mpr c3
  subst c3
  have H1 : ((temperalaw21_awake.f k).bind fun t308 => (some t308)) = some r := by rw [if_neg (show ¬ (false = true) by decide)] at H; exact H
  clear H
  have H := H1
  clear H1
  replace H := Option.bind_eq_some_iff.mp H
  obtain ⟨t308, A630, H⟩ := H
  replace H : (some t308) = some r := H
  have A63 := Aside0.mk A630
  clear A630
  obtain rfl := Option.some.inj H
  go_enter Try.func3, Try.ntmps3
  go_wp2_with (first | ((with_reducible refine gate_callee (f := 6) rfl ?_); refine goesL_ (some 9) rfl rfl Try.func6 (by kernel_rfl) rfl #[.slice A0 l0.length c0, .int .i64 20] rfl (by (try simp only [List.map_toArray, List.map_cons, List.map_nil]); first | done | rfl | (simp only [List.length_drop, List.length_take]; rfl)) ?_; (with_reducible refine (temperaref21_Light.calls k _ _ l0 20 false _ ?side1 ?side2 A2.out).mono ?_); (case side1 => repeat (first | exact HR0.out | (with_reducible refine Kd.C_alloc ?_ _) | (with_reducible refine Kd.C_drewN ?_ _) | (with_reducible refine Kd.C_drew ?_))); (case side2 => exact HC0.out); rintro e w64 ⟨rfl, hb⟩; refine ⟨_, rfl, ?_⟩; have n0_ := Aside0.mk (below_step (by repeat (first | (with_reducible first | exact HB.out | apply below_alloc | apply pw_below_drewN | apply below_drew1) | exact HB.out)) hb); clear HB; have HB := n0_; clear n0_; (try clear hb); (try clear hb2); (try clear hk); (try clear hi)) | ((with_reducible refine gate_callee (f := 7) rfl ?_); refine goesL_ (some 11) rfl rfl Try.func7 (by kernel_rfl) rfl #[] rfl (by (try simp only [List.map_toArray, List.map_cons, List.map_nil]); first | done | rfl | (simp only [List.length_drop, List.length_take]; rfl)) ?_; (with_reducible refine (temperalaw21_awake.calls k  t308 _ A63.out).mono ?_); rintro e w65 ⟨rfl, hb⟩; refine ⟨_, rfl, ?_⟩; have n0_ := Aside0.mk (below_step (by repeat (first | (with_reducible first | exact HB.out | apply below_alloc | apply pw_below_drewN | apply below_drew1) | exact HB.out)) hb); clear HB; have HB := n0_; clear n0_; (try clear hb); (try clear hb2); (try clear hk); (try clear hi)))
  go_ret
  exact ⟨by first | rfl | (simp [errW_none, errW_some] <;> rfl) | (simp [*, errW_none, errW_some] <;> rfl), by repeat (first | (with_reducible first | exact HB.out | apply below_alloc | apply pw_below_drewN | apply below_drew1) | exact HB.out)⟩
end Go.Proofs.Ytpgjkndijdleeaa.PCode
end
section
namespace Go.Proofs.Ytpgjkndijdleeaa.PCode
open Go.RowKit Go.Proofs.YtpgjkndijdleeaaW.PrintWords Go.Proofs.YtpgjkndijdleeaaW.PrintLast Go.Proofs.YtpgjkndijdleeaaW.PrintMore
set_option linter.unusedVariables false
set_option linter.unusedSimpArgs false
theorem rcount_l : ∀ (k : Nat) (u : Int) (j : Nat), 0 ≤ u → u < 128 ^ k → u < 18446744073709551616 → 1 ≤ k → k ≤ 10 → temperaref21_Count.f (k + j) u = some (cn k u)
 | 0, u, j, _, _, _, h, _ => by omega
 | k + 1, u, j, h0, h1, h2, _, hk => by
  rw [show k + 1 + j = (k + j) + 1 from by omega]
  simp only [temperaref21_Count.f, cn]
  by_cases h : u < 128
  ·rw [if_pos h, if_neg (by omega), show u % 256 = u from by omega]
  ·have hk1 : 1 ≤ k := by
    rcases Nat.eq_zero_or_pos k with rfl | h'
    ·simp at h1; omega
    ·exact h'
   rw [if_neg h, if_pos (by omega)]
   simp only [Option.bind_some]
   have e1 : IntKind.u64.wrap (Int.tdiv u 128) = u / 128 := by rw [Int.tdiv_eq_ediv_of_nonneg h0, wrap_u64]; omega
   have e2 : IntKind.u64.wrap (128 + Int.tmod u 128) % 256 = u % 128 + 128 := by rw [Int.tmod_eq_emod_of_nonneg h0, wrap_u64]; omega
   rw [e1, e2, rcount_l k (u / 128) j (by omega) (by rw [Int.pow_succ] at h1; omega) (by omega) hk1 (by omega)]
   have hl := cn_len k (u / 128)
   simp only [Option.bind_some, List.length_cons, List.length_nil]
   rw [if_pos (by omega)]
   rfl
theorem rcount_is {u : Int} (h0 : 0 ≤ u) (h1 : u < 18446744073709551616) (j : Nat) : temperaref21_Count.f (10 + j) u = some (cnB u) := rcount_l 10 u j h0 (by omega) h1 (by omega) (by omega)
theorem rnumber_is {n : Int} (h : inI n) (j : Nat) : temperaref21_Number.f (10 + j) n = some (numB n) := by
 have hz := zg_range h.1 h.2
 unfold temperaref21_Number.f numB
 by_cases hn : n < 0
 ·rw [if_pos hn]
  have e : IntKind.u64.wrap ((IntKind.u64.wrap (2 * (IntKind.u64.wrap (wrap64 (-(wrap64 (n + 1))))))) + 1) = zg n := by
   have := h.1
   have e1 : wrap64 (-(wrap64 (n + 1))) = -(n + 1) := by unfold wrap64; omega
   rw [e1, wrap_u64, wrap_u64, wrap_u64]
   unfold zg
   rw [if_neg (by omega)]
   omega
  rw [e, rcount_is hz.1 hz.2]
  rfl
 ·rw [if_neg hn]
  have e : IntKind.u64.wrap (2 * (IntKind.u64.wrap n)) = zg n := by
   have := h.2
   rw [wrap_u64, wrap_u64]
   unfold zg
   rw [if_pos (by omega)]
   omega
  rw [e, rcount_is hz.1 hz.2]
  rfl
theorem rnumber_ev {n : Int} (h : inI n) : Ev (fun k => temperaref21_Number.f k n) (numB n) := Ev.from 10 (fun j => rnumber_is h j)
theorem rcount_ev {u : Int} (h0 : 0 ≤ u) (h1 : u < 18446744073709551616) : Ev (fun k => temperaref21_Count.f k u) (cnB u) := Ev.from 10 (fun j => rcount_is h0 h1 j)
/-- What a field's letter lays. -/
def con (x : S37) (c : Int) : List Int := if c = 72 then numB x.f1 else if c = 65 then numB x.f2 else if c = 66 then numB x.f3 else if c = 67 then numB x.f4 else if c = 68 then numB x.f5 else if c = 76 then cnB (x.f6.length : Int) ++ numsB x.f6 else cnB (x.f7.length : Int) ++ numsB (x.f7.flatMap vnums)
abbrev rBody0 (k : Nat) (acc : List Int) (s : ByteArray) (i : Int) (x : S37) : Option (List Int) := temperaref21_Body.l0 k acc s i x.f0 x.f1 x.f2 x.f3 x.f4 x.f5 x.f6 x.f7
theorem body_l1 (x : S37) (hx : goodC x) (s : ByteArray) (i : Nat) (r : List Int) (hi : i ≤ 1000) : ∀ (d j : Nat) (acc : List Int), j + d = x.f6.length → acc.length + 10 * d ≤ 1000000000 → Ev (fun k => rBody0 k (acc ++ numsB (x.f6.drop j)) s ((i + 1 : Nat) : Int) x) r → Ev (fun k => temperaref21_Body.l1 k acc s (i : Int) (j : Int) x.f0 x.f1 x.f2 x.f3 x.f4 x.f5 x.f6 x.f7) r
 | 0, j, acc, h, hl, hr => by
  rw [List.drop_of_length_le (by omega)] at hr
  simp only [numsB, List.flatMap_nil, List.append_nil] at hr
  refine Ev.up (Ev.congr (fun k => ?_) hr)
  simp only [temperaref21_Body.l1]
  rw [if_neg (by omega), w1 i (by omega)]
 | d + 1, j, acc, h, hl, hr => by
  have hlt : j < x.f6.length := by omega
  have h6 := hx.2.2.1.1
  have hn := hx.2.2.1.2 x.f6[j] (List.getElem_mem hlt)
  have hnl := numB_len x.f6[j]
  have ih := body_l1 x hx s i r hi d (j + 1) (acc ++ numB x.f6[j]) (by omega) (by simp only [List.length_append]; omega) (by
   rw [List.drop_eq_getElem_cons hlt] at hr
   simp only [numsB, List.flatMap_cons, List.append_assoc] at hr ⊢
   exact hr)
  refine Ev.up ?_
  refine Ev.congr (f := fun k => (temperaref21_Number.f k x.f6[j]).bind fun t230 => (if acc.length + t230.length < 140737488355328 then (temperaref21_Body.l1 k (acc ++ t230) s (i : Int) ((j + 1 : Nat) : Int) x.f0 x.f1 x.f2 x.f3 x.f4 x.f5 x.f6 x.f7) else none)) (fun k => ?_) ?_
  ·simp only [temperaref21_Body.l1]
   rw [if_pos (by omega), if_pos (by omega), rdI _ j hlt, w1 j (by omega)]
  ·refine Ev.bind (rnumber_ev hn) ?_
   refine Ev.congr (fun k => ?_) ih
   rw [if_pos (by omega)]
theorem body_l3 (x : S37) (hx : goodC x) (s : ByteArray) (i q : Nat) (r : List Int) (v : List Int) (hv : v.length = 9) (hvi : ∀ n ∈ v, inI n) (hq : q ≤ 2000) : ∀ (d j : Nat) (acc : List Int), j + d = 9 → acc.length + 10 * d ≤ 1000000000 → Ev (fun k => temperaref21_Body.l2 k (acc ++ numsB (v.drop j)) s (i : Int) ((q + 1 : Nat) : Int) x.f0 x.f1 x.f2 x.f3 x.f4 x.f5 x.f6 x.f7) r → Ev (fun k => temperaref21_Body.l3 k acc s (i : Int) (q : Int) v (j : Int) x.f0 x.f1 x.f2 x.f3 x.f4 x.f5 x.f6 x.f7) r
 | 0, j, acc, h, hl, hr => by
  rw [List.drop_of_length_le (by omega)] at hr
  simp only [numsB, List.flatMap_nil, List.append_nil] at hr
  refine Ev.up (Ev.congr (fun k => ?_) hr)
  simp only [temperaref21_Body.l3]
  rw [if_neg (by omega), w1 q (by omega)]
 | d + 1, j, acc, h, hl, hr => by
  have hlt : j < v.length := by omega
  have hn := hvi v[j] (List.getElem_mem hlt)
  have hnl := numB_len v[j]
  have ih := body_l3 x hx s i q r v hv hvi hq d (j + 1) (acc ++ numB v[j]) (by omega) (by simp only [List.length_append]; omega) (by
   rw [List.drop_eq_getElem_cons hlt] at hr
   simp only [numsB, List.flatMap_cons, List.append_assoc] at hr ⊢
   exact hr)
  refine Ev.up ?_
  refine Ev.congr (f := fun k => (temperaref21_Number.f k v[j]).bind fun t230 => (if acc.length + t230.length < 140737488355328 then (temperaref21_Body.l3 k (acc ++ t230) s (i : Int) (q : Int) v ((j + 1 : Nat) : Int) x.f0 x.f1 x.f2 x.f3 x.f4 x.f5 x.f6 x.f7) else none)) (fun k => ?_) ?_
  ·simp only [temperaref21_Body.l3]
   rw [if_pos (by omega), if_pos (by omega), if_pos (by omega), rdI _ j hlt, w1 j (by omega)]
  ·refine Ev.bind (rnumber_ev hn) ?_
   refine Ev.congr (fun k => ?_) ih
   rw [if_pos (by omega)]
theorem body_l2 (x : S37) (hx : goodC x) (s : ByteArray) (i : Nat) (r : List Int) (hi : i ≤ 1000) : ∀ (d j : Nat) (acc : List Int), j + d = x.f7.length → acc.length + 100 * d ≤ 100000000 → Ev (fun k => rBody0 k (acc ++ numsB ((x.f7.drop j).flatMap vnums)) s ((i + 1 : Nat) : Int) x) r → Ev (fun k => temperaref21_Body.l2 k acc s (i : Int) (j : Int) x.f0 x.f1 x.f2 x.f3 x.f4 x.f5 x.f6 x.f7) r
 | 0, j, acc, h, hl, hr => by
  rw [List.drop_of_length_le (by omega)] at hr
  simp only [numsB, List.flatMap_nil, List.append_nil] at hr
  refine Ev.up (Ev.congr (fun k => ?_) hr)
  simp only [temperaref21_Body.l2]
  rw [if_neg (by omega), w1 i (by omega)]
 | d + 1, j, acc, h, hl, hr => by
  have hlt : j < x.f7.length := by omega
  have h7 := hx.2.2.2.1
  have hn := hx.2.2.2.2 x.f7[j] (List.getElem_mem hlt)
  have hnl := numsB_len (vnums x.f7[j])
  rw [show (vnums x.f7[j]).length = 9 from rfl] at hnl
  have ih := body_l2 x hx s i r hi d (j + 1) (acc ++ numsB (vnums x.f7[j])) (by omega) (by simp only [List.length_append]; omega) (by
   rw [List.drop_eq_getElem_cons hlt] at hr
   simp only [List.flatMap_cons, numsB_append] at hr
   rw [List.append_assoc]
   exact hr)
  refine Ev.up ?_
  refine Ev.congr (f := fun k => temperaref21_Body.l3 k acc s (i : Int) (j : Int) (vnums x.f7[j]) ((0 : Nat) : Int) x.f0 x.f1 x.f2 x.f3 x.f4 x.f5 x.f6 x.f7) (fun k => ?_) ?_
  ·simp only [temperaref21_Body.l2]
   rw [if_pos (by omega), if_pos (by omega), rdT62 _ j hlt]
   rfl
  ·exact body_l3 x hx s i j r (vnums x.f7[j]) rfl hn (by omega) 9 0 acc rfl (by omega) ih
theorem body_step (k : Nat) (acc : List Int) (s : ByteArray) (i : Nat) (x : S37) (c : Int) (hi : i < s.size) (hs : s.size ≤ 10) (hc : bt s (i : Int) = c) (h6 : x.f6.length ≤ 5000) (h7 : x.f7.length ≤ 1100) : rBody0 (k + 1) acc s (i : Int) x =
  if c = 72 then (temperaref21_Number.f k x.f1).bind fun t => (if acc.length + t.length < 140737488355328 then (rBody0 k (acc ++ t) s ((i + 1 : Nat) : Int) x) else none)
  else if c = 65 then (temperaref21_Number.f k x.f2).bind fun t => (if acc.length + t.length < 140737488355328 then (rBody0 k (acc ++ t) s ((i + 1 : Nat) : Int) x) else none)
  else if c = 66 then (temperaref21_Number.f k x.f3).bind fun t => (if acc.length + t.length < 140737488355328 then (rBody0 k (acc ++ t) s ((i + 1 : Nat) : Int) x) else none)
  else if c = 67 then (temperaref21_Number.f k x.f4).bind fun t => (if acc.length + t.length < 140737488355328 then (rBody0 k (acc ++ t) s ((i + 1 : Nat) : Int) x) else none)
  else if c = 68 then (temperaref21_Number.f k x.f5).bind fun t => (if acc.length + t.length < 140737488355328 then (rBody0 k (acc ++ t) s ((i + 1 : Nat) : Int) x) else none)
  else if c = 76 then (temperaref21_Count.f k (x.f6.length : Int)).bind fun t => (if acc.length + t.length < 140737488355328 then (temperaref21_Body.l1 k (acc ++ t) s (i : Int) 0 x.f0 x.f1 x.f2 x.f3 x.f4 x.f5 x.f6 x.f7) else none)
  else (temperaref21_Count.f k (x.f7.length : Int)).bind fun t => (if acc.length + t.length < 140737488355328 then (temperaref21_Body.l2 k (acc ++ t) s (i : Int) 0 x.f0 x.f1 x.f2 x.f3 x.f4 x.f5 x.f6 x.f7) else none) := by
 subst hc
 have e1 : wrap64 ((i : Int) + 1) = ((i + 1 : Nat) : Int) := w1 i (by omega)
 have k6 : IntKind.u64.wrap (x.f6.length : Int) = (x.f6.length : Int) := by rw [wrap_u64]; omega
 have k7 : IntKind.u64.wrap (x.f7.length : Int) = (x.f7.length : Int) := by rw [wrap_u64]; omega
 have p1 : (i : Int) < (s.size : Int) := by omega
 have p2 : 0 ≤ (i : Int) := by omega
 simp only [rBody0, temperaref21_Body.l0]
 rw [if_pos p1, if_pos p2, e1, k6, k7]
theorem body_l0 (x : S37) (hx : goodC x) (s : ByteArray) (hs : s.size ≤ 10) (r : List Int) : ∀ (d i : Nat) (acc : List Int), i + d = s.size → acc.length + 200000 * d ≤ 10000000 → r = acc ++ ((bytesOf s).drop i).flatMap (con x) → Ev (fun k => rBody0 k acc s (i : Int) x) r
 | 0, i, acc, h, hl, hr => by
  rw [List.drop_of_length_le (by rw [bytesOf_length]; omega)] at hr
  simp only [List.flatMap_nil, List.append_nil] at hr
  subst hr
  refine Ev.up (Ev.val (fun k => ?_))
  simp only [rBody0, temperaref21_Body.l0]
  rw [if_neg (by omega)]
 | d + 1, i, acc, h, hl, hr => by
  have hlt : i < (bytesOf s).length := by rw [bytesOf_length]; omega
  have hbt : bt s (i : Int) = (bytesOf s)[i] := by rw [← rd_bytesOf, rdI _ i hlt]
  obtain ⟨c, hc⟩ : ∃ c, c = (bytesOf s)[i] := ⟨_, rfl⟩
  have h6 := hx.2.2.1.1
  have h7 := hx.2.2.2.1
  have h6l := numsB_len x.f6
  have h7l := numsB_len (x.f7.flatMap vnums)
  rw [len_vnums] at h7l
  rw [List.drop_eq_getElem_cons hlt, List.flatMap_cons, ← hc, ← List.append_assoc] at hr
  have num : ∀ n, inI n → con x c = numB n → (∀ k, rBody0 (k + 1) acc s (i : Int) x = (temperaref21_Number.f k n).bind fun t => (if acc.length + t.length < 140737488355328 then (rBody0 k (acc ++ t) s ((i + 1 : Nat) : Int) x) else none)) → Ev (fun k => rBody0 k acc s (i : Int) x) r := by
   intro n hn he hk
   have hnl := numB_len n
   refine Ev.up (Ev.congr hk ?_)
   refine Ev.bind (rnumber_ev hn) ?_
   refine Ev.congr (fun k => ?_) (body_l0 x hx s hs r d (i + 1) (acc ++ numB n) (by omega) (by simp only [List.length_append]; omega) (by rw [hr, he]))
   rw [if_pos (by omega)]
  have st := fun k => body_step k acc s i x c (by omega) hs (by rw [hbt, hc]) h6 h7
  by_cases q1 : c = 72
  ·exact num x.f1 hx.2.1.1 (by unfold con; rw [if_pos q1]) (fun k => by rw [st k, if_pos q1])
  by_cases q2 : c = 65
  ·exact num x.f2 hx.2.1.2.1 (by unfold con; rw [if_neg q1, if_pos q2]) (fun k => by rw [st k, if_neg q1, if_pos q2])
  by_cases q3 : c = 66
  ·exact num x.f3 hx.2.1.2.2.1 (by unfold con; rw [if_neg q1, if_neg q2, if_pos q3]) (fun k => by rw [st k, if_neg q1, if_neg q2, if_pos q3])
  by_cases q4 : c = 67
  ·exact num x.f4 hx.2.1.2.2.2.1 (by unfold con; rw [if_neg q1, if_neg q2, if_neg q3, if_pos q4]) (fun k => by rw [st k, if_neg q1, if_neg q2, if_neg q3, if_pos q4])
  by_cases q5 : c = 68
  ·exact num x.f5 hx.2.1.2.2.2.2 (by unfold con; rw [if_neg q1, if_neg q2, if_neg q3, if_neg q4, if_pos q5]) (fun k => by rw [st k, if_neg q1, if_neg q2, if_neg q3, if_neg q4, if_pos q5])
  by_cases q6 : c = 76
  ·have he : con x c = cnB (x.f6.length : Int) ++ numsB x.f6 := by unfold con; rw [if_neg q1, if_neg q2, if_neg q3, if_neg q4, if_neg q5, if_pos q6]
   refine Ev.up (Ev.congr (f := fun k => (temperaref21_Count.f k (x.f6.length : Int)).bind fun t => (if acc.length + t.length < 140737488355328 then (temperaref21_Body.l1 k (acc ++ t) s (i : Int) 0 x.f0 x.f1 x.f2 x.f3 x.f4 x.f5 x.f6 x.f7) else none)) (fun k => by rw [st k, if_neg q1, if_neg q2, if_neg q3, if_neg q4, if_neg q5, if_pos q6]) ?_)
   refine Ev.bind (rcount_ev (by omega) (by omega)) ?_
   have hcl : (cnB (x.f6.length : Int)).length ≤ 10 := cn_len 10 _
   refine Ev.congr (fun k => ?_) (body_l1 x hx s i r (by omega) x.f6.length 0 (acc ++ cnB (x.f6.length : Int)) (by omega) (by rw [List.length_append]; omega) ?_)
   ·rw [if_pos (by omega)]
    rfl
   ·refine body_l0 x hx s hs r d (i + 1) _ (by omega) ?_ (by rw [hr, he, List.drop_zero]; simp only [List.append_assoc])
    rw [List.length_append, List.length_append, List.drop_zero]
    omega
  ·have he : con x c = cnB (x.f7.length : Int) ++ numsB (x.f7.flatMap vnums) := by unfold con; rw [if_neg q1, if_neg q2, if_neg q3, if_neg q4, if_neg q5, if_neg q6]
   refine Ev.up (Ev.congr (f := fun k => (temperaref21_Count.f k (x.f7.length : Int)).bind fun t => (if acc.length + t.length < 140737488355328 then (temperaref21_Body.l2 k (acc ++ t) s (i : Int) 0 x.f0 x.f1 x.f2 x.f3 x.f4 x.f5 x.f6 x.f7) else none)) (fun k => by rw [st k, if_neg q1, if_neg q2, if_neg q3, if_neg q4, if_neg q5, if_neg q6]) ?_)
   refine Ev.bind (rcount_ev (by omega) (by omega)) ?_
   have hcl : (cnB (x.f7.length : Int)).length ≤ 10 := cn_len 10 _
   refine Ev.congr (fun k => ?_) (body_l2 x hx s i r (by omega) x.f7.length 0 (acc ++ cnB (x.f7.length : Int)) (by omega) (by rw [List.length_append]; omega) ?_)
   ·rw [if_pos (by omega)]
    rfl
   ·refine body_l0 x hx s hs r d (i + 1) _ (by omega) ?_ (by rw [hr, he, List.drop_zero]; simp only [List.append_assoc])
    rw [List.length_append, List.length_append, List.drop_zero]
    omega
/-- A kind's letters, and what they lay. -/
theorem fields_con (x : S37) (hop : 1 ≤ x.f0 ∧ x.f0 ≤ 19) : ∃ s, temperaref20_Fields.f x.f0 = some s ∧ s.size ≤ 10 ∧ (bytesOf s).flatMap (con x) = bodyB x := by
 obtain ⟨f0, f1, f2, f3, f4, f5, f6, f7⟩ := x
 simp only at hop
 have hk : f0 = 1 ∨ f0 = 2 ∨ f0 = 3 ∨ f0 = 4 ∨ f0 = 5 ∨ f0 = 6 ∨ f0 = 7 ∨ f0 = 8 ∨ f0 = 9 ∨ f0 = 10 ∨ f0 = 11 ∨ f0 = 12 ∨ f0 = 13 ∨ f0 = 14 ∨ f0 = 15 ∨ f0 = 16 ∨ f0 = 17 ∨ f0 = 18 ∨ f0 = 19 := by omega
 rcases hk with rfl | rfl | rfl | rfl | rfl | rfl | rfl | rfl | rfl | rfl | rfl | rfl | rfl | rfl | rfl | rfl | rfl | rfl | rfl
 ·refine ⟨⟨#[72, 86]⟩, rfl, by decide, ?_⟩
  have e : bodyB ⟨1, f1, f2, f3, f4, f5, f6, f7⟩ = numsB [f1] ++ [] ++ (cnB (f7.length : Int) ++ numsB (f7.flatMap vnums)) := rfl
  rw [e]
  show numB f1 ++ ((cnB (f7.length : Int) ++ numsB (f7.flatMap vnums)) ++ []) = _
  simp [numsB]
 ·refine ⟨⟨#[72, 76]⟩, rfl, by decide, ?_⟩
  have e : bodyB ⟨2, f1, f2, f3, f4, f5, f6, f7⟩ = numsB [f1] ++ (cnB (f6.length : Int) ++ numsB f6) ++ [] := rfl
  rw [e]
  show numB f1 ++ ((cnB (f6.length : Int) ++ numsB f6) ++ []) = _
  simp [numsB]
 ·refine ⟨⟨#[72, 65, 66, 76]⟩, rfl, by decide, ?_⟩
  have e : bodyB ⟨3, f1, f2, f3, f4, f5, f6, f7⟩ = numsB [f1, f2, f3] ++ (cnB (f6.length : Int) ++ numsB f6) ++ [] := rfl
  rw [e]
  show numB f1 ++ (numB f2 ++ (numB f3 ++ ((cnB (f6.length : Int) ++ numsB f6) ++ []))) = _
  simp [numsB]
 ·refine ⟨⟨#[72]⟩, rfl, by decide, ?_⟩
  have e : bodyB ⟨4, f1, f2, f3, f4, f5, f6, f7⟩ = numsB [f1] ++ [] ++ [] := rfl
  rw [e]
  show numB f1 ++ [] = _
  simp [numsB]
 ·refine ⟨⟨#[76]⟩, rfl, by decide, ?_⟩
  have e : bodyB ⟨5, f1, f2, f3, f4, f5, f6, f7⟩ = numsB [] ++ (cnB (f6.length : Int) ++ numsB f6) ++ [] := rfl
  rw [e]
  show (cnB (f6.length : Int) ++ numsB f6) ++ [] = _
  simp [numsB]
 ·refine ⟨⟨#[65, 66, 67, 68]⟩, rfl, by decide, ?_⟩
  have e : bodyB ⟨6, f1, f2, f3, f4, f5, f6, f7⟩ = numsB [f2, f3, f4, f5] ++ [] ++ [] := rfl
  rw [e]
  show numB f2 ++ (numB f3 ++ (numB f4 ++ (numB f5 ++ []))) = _
  simp [numsB]
 ·refine ⟨⟨#[65, 66, 67, 68]⟩, rfl, by decide, ?_⟩
  have e : bodyB ⟨7, f1, f2, f3, f4, f5, f6, f7⟩ = numsB [f2, f3, f4, f5] ++ [] ++ [] := rfl
  rw [e]
  show numB f2 ++ (numB f3 ++ (numB f4 ++ (numB f5 ++ []))) = _
  simp [numsB]
 ·refine ⟨⟨#[65, 66]⟩, rfl, by decide, ?_⟩
  have e : bodyB ⟨8, f1, f2, f3, f4, f5, f6, f7⟩ = numsB [f2, f3] ++ [] ++ [] := rfl
  rw [e]
  show numB f2 ++ (numB f3 ++ []) = _
  simp [numsB]
 ·refine ⟨⟨#[76]⟩, rfl, by decide, ?_⟩
  have e : bodyB ⟨9, f1, f2, f3, f4, f5, f6, f7⟩ = numsB [] ++ (cnB (f6.length : Int) ++ numsB f6) ++ [] := rfl
  rw [e]
  show (cnB (f6.length : Int) ++ numsB f6) ++ [] = _
  simp [numsB]
 ·refine ⟨⟨#[65, 66, 67, 68]⟩, rfl, by decide, ?_⟩
  have e : bodyB ⟨10, f1, f2, f3, f4, f5, f6, f7⟩ = numsB [f2, f3, f4, f5] ++ [] ++ [] := rfl
  rw [e]
  show numB f2 ++ (numB f3 ++ (numB f4 ++ (numB f5 ++ []))) = _
  simp [numsB]
 ·refine ⟨⟨#[65]⟩, rfl, by decide, ?_⟩
  have e : bodyB ⟨11, f1, f2, f3, f4, f5, f6, f7⟩ = numsB [f2] ++ [] ++ [] := rfl
  rw [e]
  show numB f2 ++ [] = _
  simp [numsB]
 ·refine ⟨⟨#[72, 65, 66]⟩, rfl, by decide, ?_⟩
  have e : bodyB ⟨12, f1, f2, f3, f4, f5, f6, f7⟩ = numsB [f1, f2, f3] ++ [] ++ [] := rfl
  rw [e]
  show numB f1 ++ (numB f2 ++ (numB f3 ++ [])) = _
  simp [numsB]
 ·refine ⟨⟨#[65, 66, 67, 68]⟩, rfl, by decide, ?_⟩
  have e : bodyB ⟨13, f1, f2, f3, f4, f5, f6, f7⟩ = numsB [f2, f3, f4, f5] ++ [] ++ [] := rfl
  rw [e]
  show numB f2 ++ (numB f3 ++ (numB f4 ++ (numB f5 ++ []))) = _
  simp [numsB]
 ·refine ⟨⟨#[72, 65, 66, 67]⟩, rfl, by decide, ?_⟩
  have e : bodyB ⟨14, f1, f2, f3, f4, f5, f6, f7⟩ = numsB [f1, f2, f3, f4] ++ [] ++ [] := rfl
  rw [e]
  show numB f1 ++ (numB f2 ++ (numB f3 ++ (numB f4 ++ []))) = _
  simp [numsB]
 ·refine ⟨⟨#[]⟩, rfl, by decide, ?_⟩
  have e : bodyB ⟨15, f1, f2, f3, f4, f5, f6, f7⟩ = numsB [] ++ [] ++ [] := rfl
  rw [e]
  show [] = _
  simp [numsB]
 ·refine ⟨⟨#[65]⟩, rfl, by decide, ?_⟩
  have e : bodyB ⟨16, f1, f2, f3, f4, f5, f6, f7⟩ = numsB [f2] ++ [] ++ [] := rfl
  rw [e]
  show numB f2 ++ [] = _
  simp [numsB]
 ·refine ⟨⟨#[65]⟩, rfl, by decide, ?_⟩
  have e : bodyB ⟨17, f1, f2, f3, f4, f5, f6, f7⟩ = numsB [f2] ++ [] ++ [] := rfl
  rw [e]
  show numB f2 ++ [] = _
  simp [numsB]
 ·refine ⟨⟨#[72, 65, 66, 67, 68]⟩, rfl, by decide, ?_⟩
  have e : bodyB ⟨18, f1, f2, f3, f4, f5, f6, f7⟩ = numsB [f1, f2, f3, f4, f5] ++ [] ++ [] := rfl
  rw [e]
  show numB f1 ++ (numB f2 ++ (numB f3 ++ (numB f4 ++ (numB f5 ++ [])))) = _
  simp [numsB]
 ·refine ⟨⟨#[]⟩, rfl, by decide, ?_⟩
  have e : bodyB ⟨19, f1, f2, f3, f4, f5, f6, f7⟩ = numsB [] ++ [] ++ [] := rfl
  rw [e]
  show [] = _
  simp [numsB]
theorem rbody_is (x : S37) (hx : goodC x) : Ev (fun k => temperaref21_Body.f k x.f0 x.f1 x.f2 x.f3 x.f4 x.f5 x.f6 x.f7) (bodyB x) := by
 obtain ⟨s, h1, h2, h3⟩ := fields_con x hx.1
 refine Ev.congr (f := fun k => rBody0 k [] s ((0 : Nat) : Int) x) (fun k => ?_) (body_l0 x hx s h2 _ s.size 0 [] (by omega) (by simp only [List.length_nil]; omega) (by rw [List.drop_zero, h3]; rfl))
 unfold temperaref21_Body.f
 rw [h1]
 rfl
theorem rencode_l0 (l : List S37) (hl : l.length ≤ 100000) (hg : ∀ x ∈ l, (1 ≤ x.f0 ∧ x.f0 ≤ 19) ∧ goodC (ownS x)) : ∀ (d i : Nat) (acc : List Int), i + d = l.length → acc.length + d * 300000 ≤ 100000000000 → Ev (fun k => temperaref21_Encode.l0 k l acc (i : Int)) (acc ++ encL (l.drop i))
 | 0, i, acc, h, _ => by
  refine Ev.up (Ev.val (fun k => ?_))
  simp only [temperaref21_Encode.l0]
  rw [if_neg (by omega), List.drop_of_length_le (by omega)]
  simp [encL]
 | d + 1, i, acc, h, ha => by
  have hlt : i < l.length := by omega
  have hx := hg l[i] (List.getElem_mem hlt)
  have hbl := bodyB_len (x := ownS l[i]) hx.2.2.2.1.1 hx.2.2.2.2.1
  have hcl : (cnB ((bodyB (ownS l[i])).length : Int)).length ≤ 10 := cn_len 10 _
  have hop : temperaref20_Own.f l[i].f0 l[i].f1 l[i].f2 l[i].f3 l[i].f4 l[i].f5 l[i].f6 l[i].f7 = some (tp (ownS l[i])) := rfl
  have ih := rencode_l0 l hl hg d (i + 1) (acc ++ encC l[i]) (by omega) (by simp only [encC, List.length_append, List.length_cons]; omega)
  have p1 : (i : Int) < (l.length : Int) := by omega
  have p2 : 0 ≤ (i : Int) := by omega
  refine Ev.up (Ev.congr (f := fun k => (temperaref21_Body.f k (ownS l[i]).f0 (ownS l[i]).f1 (ownS l[i]).f2 (ownS l[i]).f3 (ownS l[i]).f4 (ownS l[i]).f5 (ownS l[i]).f6 (ownS l[i]).f7).bind fun t312 => (if acc.length < 140737488355328 then ((some (acc ++ [l[i].f0 % 256] : List Int)).bind fun y316 => ((temperaref21_Count.f k (IntKind.u64.wrap (t312.length : Int))).bind fun t319 => (if y316.length + t319.length < 140737488355328 then ((some (y316 ++ t319 : List Int)).bind fun y322 => (if y322.length + t312.length < 140737488355328 then (temperaref21_Encode.l0 k l (y322 ++ t312) ((i + 1 : Nat) : Int)) else (none))) else (none)))) else (none))) (fun k => ?_) ?_)
  ·simp only [temperaref21_Encode.l0]
   rw [if_pos p1, if_pos p2, rdT37 l i hlt, hop, w1 i (by omega)]
   rfl
  ·refine Ev.bind (rbody_is _ hx.2) ?_
   have hw : IntKind.u64.wrap ((bodyB (ownS l[i])).length : Int) = ((bodyB (ownS l[i])).length : Int) := by rw [wrap_u64]; omega
   have ha1 : acc.length < 140737488355328 := by omega
   simp only [if_pos ha1, Option.bind_some, hw]
   refine Ev.bind (rcount_ev (by omega) (by omega)) ?_
   have hq1 : (acc ++ [l[i].f0 % 256]).length + (cnB ((bodyB (ownS l[i])).length : Int)).length < 140737488355328 := by simp only [List.length_append, List.length_cons, List.length_nil]; omega
   have hq2 : (acc ++ [l[i].f0 % 256] ++ cnB ((bodyB (ownS l[i])).length : Int)).length + (bodyB (ownS l[i])).length < 140737488355328 := by simp only [List.length_append, List.length_cons, List.length_nil]; omega
   simp only [if_pos hq1, if_pos hq2]
   have he : acc ++ [l[i].f0 % 256] ++ cnB ((bodyB (ownS l[i])).length : Int) ++ bodyB (ownS l[i]) = acc ++ encC l[i] := by
    unfold encC
    rw [show l[i].f0 % 256 = l[i].f0 from by omega]
    simp
   rw [he]
   rw [List.drop_eq_getElem_cons hlt]
   have e2 : acc ++ encL (l[i] :: l.drop (i + 1)) = acc ++ encC l[i] ++ encL (l.drop (i + 1)) := by simp only [encL, List.flatMap_cons, List.append_assoc]
   rw [e2]
   exact ih
theorem rencode_is (l : List S37) (hl : l.length ≤ 100000) (hg : ∀ x ∈ l, (1 ≤ x.f0 ∧ x.f0 ≤ 19) ∧ goodC (ownS x)) : Ev (fun k => temperaref21_Encode.f k l) (encL l) := by
 have := rencode_l0 l hl hg l.length 0 [] (by omega) (by simp only [List.length_nil]; omega)
 exact this
theorem back_l0 (l : List S37) (hl : l.length ≤ 20) (hg : ∀ x ∈ l, lightC (ownS x)) : ∀ (d i : Nat), i + d = l.length → Ev (fun k => temperalaw21_CodeBack.l0 k l (l.map (fun x => (⟨ownS x, 0⟩ : S39))) (i : Int)) true
 | 0, i, h => by
  refine Ev.up (Ev.congr (f := fun k => (temperalaw21_awake.f k).bind fun t => some t) (fun k => ?_) (Ev.bind awake_is (Ev.now true)))
  simp only [temperalaw21_CodeBack.l0]
  rw [if_neg (by omega)]
 | d + 1, i, h => by
  have hlt : i < l.length := by omega
  have hx := hg l[i] (List.getElem_mem hlt)
  have hop : temperaref20_Own.f l[i].f0 l[i].f1 l[i].f2 l[i].f3 l[i].f4 l[i].f5 l[i].f6 l[i].f7 = some (tp (ownS l[i])) := rfl
  have p1 : (i : Int) < (l.length : Int) := by omega
  have p2 : 0 ≤ (i : Int) := by omega
  have p3 : (i : Int) < ((l.map (fun x => (⟨ownS x, 0⟩ : S39))).length : Int) := by rw [List.length_map]; exact p1
  have hr : rd_T39 (l.map (fun x => (⟨ownS x, 0⟩ : S39))) (i : Int) = ⟨ownS l[i], 0⟩ := by
   rw [rdT39 _ i (by rw [List.length_map]; exact hlt), List.getElem_map]
  refine Ev.up (Ev.congr (f := fun k => (temperaref20_Same.f k (ownS l[i]).f0 (ownS l[i]).f1 (ownS l[i]).f2 (ownS l[i]).f3 (ownS l[i]).f4 (ownS l[i]).f5 (ownS l[i]).f6 (ownS l[i]).f7 (ownS l[i]).f0 (ownS l[i]).f1 (ownS l[i]).f2 (ownS l[i]).f3 (ownS l[i]).f4 (ownS l[i]).f5 (ownS l[i]).f6 (ownS l[i]).f7).bind fun t => (if t = true then (temperalaw21_CodeBack.l0 k l (l.map (fun x => (⟨ownS x, 0⟩ : S39))) ((i + 1 : Nat) : Int)) else some false)) (fun k => ?_) ?_)
  ·simp only [temperalaw21_CodeBack.l0]
   rw [if_pos p1, if_pos p2, if_pos p3, hr, rdT37 l i hlt, hop, w1 i (by omega)]
   rfl
  ·refine Ev.bind (same_is (ownS l[i]) hx.1 hx.2) ?_
   simp only [if_true]
   exact back_l0 l hl hg d (i + 1) (by omega)
theorem back_plain (l : List S37) (hi : ∀ x ∈ l, intsC x) : ∃ k, temperalaw21_CodeBack.f k l = some true := by
 refine Ev.rounds ?_
 unfold temperalaw21_CodeBack.f
 refine Ev.bind (light_is l) ?_
 cases hL : (decide (l.length ≤ 20) && l.all fun x => decide (lightC x)) with
 | false =>
  simp only [Bool.false_eq_true, if_false]
  exact Ev.bind awake_is (Ev.now true)
 | true =>
  rw [Bool.and_eq_true, decide_eq_true_eq, List.all_eq_true] at hL
  have hlen := hL.1
  have hlc : ∀ x ∈ l, lightC x := fun x hx => of_decide_eq_true (hL.2 x hx)
  simp only [if_true]
  refine Ev.bind (encode_is l (by omega) (fun x hx => ⟨hi x hx, hlc x hx⟩)) ?_
  refine Ev.bind (check_is l (by omega)) ?_
  by_cases hc : chk l = 0
  ·have hz := chk_zero l hc
   have hgd : ∀ x ∈ l, (1 ≤ x.f0 ∧ x.f0 ≤ 19) ∧ goodC (ownS x) := fun x hx => ⟨(hz x hx).1, good_own (hz x hx).1 (hi x hx) (hlc x hx)⟩
   have hok : ∀ x ∈ l, okC (ownS x) ∧ 1 ≤ x.f0 ∧ x.f0 ≤ 19 := fun x hx => ⟨ok_own (hz x hx).1 (hi x hx) (hz x hx).2, (hz x hx).1⟩
   have hel := encL_len l hlc
   have hne : l.length < (encL l).length + 1 := by
    have : ∀ l : List S37, l.length ≤ (encL l).length := fun l => by
     induction l with
     | nil => simp [encL]
     | cons a l ih => simp only [encL, List.flatMap_cons, List.length_append, List.length_cons, encC] at *; omega
    have := this l
    omega
   have hdec : code_Decode.f (encL l) = some (l.map (fun x => (⟨ownS x, 0⟩ : S39))) := by
    rw [decode_is _ (by omega) (encL_byte l hgd), decR_B l _ hok hne]
   rw [encA_ok l [] hc, List.nil_append]
   simp only [if_pos hc, hdec, Option.bind_some, if_true]
   refine Ev.bind (rencode_is l (by omega) hgd) ?_
   refine Ev.bind (bytes_is _ (by omega)) ?_
   simp only [if_true]
   refine Ev.up (Ev.congr (f := fun k => temperalaw21_CodeBack.l0 k l (l.map (fun x => (⟨ownS x, 0⟩ : S39))) ((0 : Nat) : Int)) (fun k => ?_) (back_l0 l hlen (fun x hx => ⟨Nat.le_trans (own_len x).1 (hlc x hx).1, Nat.le_trans (own_len x).2 (hlc x hx).2⟩) l.length 0 (by omega)))
   have e : (((l.map (fun x => (⟨ownS x, 0⟩ : S39))).length : Int) != (l.length : Int)) = false := by simp
   simp only [temperalaw21_CodeBack.j0, e, Bool.false_eq_true, if_false]
   rfl
  ·rw [encA_bad l [] hc]
   simp only [if_neg hc, List.length_nil, Int.natCast_zero, if_true]
   exact Ev.bind awake_is (Ev.now true)
end Go.Proofs.Ytpgjkndijdleeaa.PCode
end
section
namespace Go.Proofs.Ytpgjkndijdleeaa.Plain
open Go.RowKit Go.Proofs.Ytpgjkndijdleeaa.PCode Go.Proofs.YtpgjkndijdleeaaW.PrintWords
theorem in_ {n : Int} (h : inKind .i64 n) : inI n := inKind_i64 h
theorem ints_of {x : S37} (h : good37 x) : intsC x := by
 obtain ⟨_, h1, h2, h3, h4, h5, h6, h7⟩ := h
 refine ⟨⟨in_ h1, in_ h2, in_ h3, in_ h4, in_ h5⟩, fun n hn => in_ (h6.2 n hn), fun v hv n hn => ?_⟩
 obtain ⟨g0, g1, g2, ⟨g3, g4, g5, g6⟩, g7, g8⟩ := h7.2 v hv
 simp only [vnums, List.mem_cons, List.not_mem_nil, or_false] at hn
 rcases hn with rfl | rfl | rfl | rfl | rfl | rfl | rfl | rfl | rfl
 ·exact in_ g0
 ·exact in_ g1
 ·exact in_ g2
 ·exact in_ g3
 ·exact in_ g4
 ·exact in_ g5
 ·exact in_ g6
 ·exact in_ g7
 ·exact in_ g8
theorem CodeBack (l : List S37) (h : rowOk good37 l) : ∃ k, temperalaw21_CodeBack.f k l = some true := back_plain l (fun x hx => ints_of (h.2 x hx))
end Go.Proofs.Ytpgjkndijdleeaa.Plain
end
