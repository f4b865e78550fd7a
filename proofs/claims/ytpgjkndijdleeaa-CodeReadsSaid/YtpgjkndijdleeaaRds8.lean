/- What the claim of RowCodeReads needs of this seat's texts (drawn together by wip/prune.py): Code2D, CodeP6, CodeP7, CodeP8, CodeReadsP. -/
import Derived.Test.YtpgjkndijdleeaaRds7
section
namespace Go.Proofs.Ytpgjkndijdleeaa.PCode
open Go.RowKit Go.Proofs.YtpgjkndijdleeaaW.PrintWords Go.Proofs.YtpgjkndijdleeaaW.PrintLast Go.Proofs.YtpgjkndijdleeaaW.PrintMore
attribute [local go_sem] max2_int min2_int max_two min_two max_three min_three max_four min_four   -- for this text's walks alone
set_option linter.unusedVariables false
set_option linter.unusedSimpArgs false
def temperalaw21_CodeReads.l0 : Nat → List (S39) → List (S46) → Int → Option (Bool)
 | 0, _, _, _ => none
 | k + 1, x3, x4, x5 => if x5 < (x3.length : Int) then (if 0 ≤ x5 then (if x5 < (x4.length : Int) then (if ((rd_T39 x3 x5).f1) = ((rd_T46 x4 x5).f1) then ((temperaref20_Same.f k ((rd_T39 x3 x5).f0.f0) ((rd_T39 x3 x5).f0.f1) ((rd_T39 x3 x5).f0.f2) ((rd_T39 x3 x5).f0.f3) ((rd_T39 x3 x5).f0.f4) ((rd_T39 x3 x5).f0.f5) ((rd_T39 x3 x5).f0.f6) ((rd_T39 x3 x5).f0.f7) ((rd_T46 x4 x5).f0.f0) ((rd_T46 x4 x5).f0.f1) ((rd_T46 x4 x5).f0.f2) ((rd_T46 x4 x5).f0.f3) ((rd_T46 x4 x5).f0.f4) ((rd_T46 x4 x5).f0.f5) ((rd_T46 x4 x5).f0.f6) ((rd_T46 x4 x5).f0.f7)).bind fun t444 => (if t444 = true then (temperalaw21_CodeReads.l0 k x3 x4 (wrap64 (x5 + 1))) else (some false))) else (some false)) else (none)) else (none)) else ((temperalaw21_awake.f k).bind fun t445 => (some t445))
def temperalaw21_CodeReads.f (k : Nat) (l0 : List Int) : Option (Bool) := if (l0.length : Int) > 3000 then ((temperalaw21_awake.f k).bind fun t433 => (some t433)) else ((code_Decode.f l0).bind fun t434 => ((temperaref21_Decode.f k l0).bind fun t437 => (if (t434.length : Int) = (t437.length : Int) then (temperalaw21_CodeReads.l0 k t434 t437 0) else (some false))))
def temperalaw21_CodeReads.T9 : Bool × List (List Nat × List Nat) := (true, [([], []), ([], []), ([0, 1], [0, 1]), ([2], [2]), ([3], [3]), ([], []), ([], []), ([5, 6], [5, 6]), ([7], [7]), ([8], [8]), ([4, 9], [4, 9]), ([10], [10]), ([11], [11]), ([11], [11]), ([12, 13, 11], [11, 12, 13]), ([14, 11], [11, 14]), ([15, 11], [11, 15]), ([11], [11]), ([11], [11]), ([17, 18, 11], [11, 17, 18]), ([19, 11], [11, 19]), ([20, 11], [11, 20]), ([16, 21, 11, 11], [11, 16, 21]), ([22, 11], [11, 22]), ([11, 23], [11, 23])])
def temperalaw21_CodeReads.B9 : List Nat := [0, 0, 3, 7, 15, 0, 0, 96, 224, 480, 1023, 2047, 4095, 4095, 16383, 32767, 65535, 4095, 4095, 397311, 921599, 1970175, 4194303, 8388607, 16777215]
theorem temperalaw21_CodeReads.tab9 : rtab .any (opsOf Try.f4 9) = temperalaw21_CodeReads.T9 := by kernel_rfl
theorem temperalaw21_CodeReads.bits9 : waitsOk temperalaw21_CodeReads.T9.2 temperalaw21_CodeReads.B9 = true := by kernel_rfl
set_option maxHeartbeats 8000000 in
set_option maxRecDepth 100000 in
theorem temperalaw21_CodeReads.calls (k : Nat) (A0 : Option Addr) (c0 : Nat) (l0 : List Int) (r : Bool) (w : World) (hr0 : Kd.C (Kd.int .u8) w A0 l0.length l0) (hc0 : l0.length ≤ c0) (h : temperalaw21_CodeReads.f k l0 = some r) :
  Calls Try.prog 4 #[.slice A0 l0.length c0] w fun e w' => e = .returned (.bool r) ∧ Below w.heap.size w w' := by
 have hu37 := Try.underlying37
 have HR0 := Aside0.mk hr0
 have HC0 := Aside0.mk hc0
 clear hr0 hc0
 have HB := Aside0.mk (Below.refl w.heap.size w)
 have H : (if (l0.length : Int) > 3000 then ((temperalaw21_awake.f k).bind fun t433 => (some t433)) else ((code_Decode.f l0).bind fun t434 => ((temperaref21_Decode.f k l0).bind fun t437 => (if (t434.length : Int) = (t437.length : Int) then (temperalaw21_CodeReads.l0 k t434 t437 0) else (some false))))) = some r := h
 clear h
 by_cases c2 : (l0.length : Int) > 3000
 ·rw [if_pos c2] at H
  have c2b0 : decide (3000 < (l0.length : Int)) = true := decide_eq_true c2
  have c2b1 : decide (3000 < l0.length) = true := decide_eq_true (by omega)
  clear c2
  replace H := Option.bind_eq_some_iff.mp H
  obtain ⟨t433, A30, H⟩ := H
  replace H : (some t433) = some r := H
  have A3 := Aside0.mk A30
  clear A30
  obtain rfl := Option.some.inj H
  go_enter Try.func4, Try.ntmps4
  go_wp2_with (first | ((with_reducible refine gate_callee (f := 7) rfl ?_); refine goesL_ (some 9) rfl rfl Try.func7 (by kernel_rfl) rfl #[] rfl (by (try simp only [List.map_toArray, List.map_cons, List.map_nil]); first | done | rfl | (simp only [List.length_drop, List.length_take]; rfl)) ?_; (with_reducible refine (temperalaw21_awake.calls k  t433 _ A3.out).mono ?_); rintro e w4 ⟨rfl, hb⟩; refine ⟨_, rfl, ?_⟩; have n0_ := Aside0.mk (below_step (by repeat (first | (with_reducible first | exact HB.out | apply below_alloc | apply pw_below_drewN | apply below_drew1) | exact HB.out)) hb); clear HB; have HB := n0_; clear n0_; (try clear hb); (try clear hb2); (try clear hk); (try clear hi)))
  go_ret
  exact ⟨by first | rfl | (simp [errW_none, errW_some] <;> rfl) | (simp [*, errW_none, errW_some] <;> rfl), by repeat (first | (with_reducible first | exact HB.out | apply below_alloc | apply pw_below_drewN | apply below_drew1) | exact HB.out)⟩
 ·rw [if_neg c2] at H
  have c2b0 : decide (3000 < (l0.length : Int)) = false := decide_eq_false c2
  have c2b1 : decide (3000 < l0.length) = false := decide_eq_false (by omega)
  clear c2
  replace H := Option.bind_eq_some_iff.mp H
  obtain ⟨t434, A50, H⟩ := H
  replace H : ((temperaref21_Decode.f k l0).bind fun t437 => (if (t434.length : Int) = (t437.length : Int) then (temperalaw21_CodeReads.l0 k t434 t437 0) else (some false))) = some r := H
  have A5 := Aside0.mk A50
  clear A50
  replace H := Option.bind_eq_some_iff.mp H
  obtain ⟨t437, A60, H⟩ := H
  replace H : (if (t434.length : Int) = (t437.length : Int) then (temperalaw21_CodeReads.l0 k t434 t437 0) else (some false)) = some r := H
  have A6 := Aside0.mk A60
  clear A60
  by_cases c7 : (t434.length : Int) = (t437.length : Int)
  ·rw [if_pos c7] at H
   have c7b0 : ((t434.length : Int) == (t437.length : Int)) = true := beq_iff_eq.mpr c7
   have c7b1 : ((t434.length : Int) != (t437.length : Int)) = false := bne_eq_false_iff_eq.mpr c7
   have c7b2 : (t434.length == t437.length) = true := by first | simpa using c7 | (simp at c7 ⊢; omega)
   clear c7
   have H' := Aside0.mk H
   clear H
   go_enter Try.func4, Try.ntmps4
   go_wp2_with (first | ((with_reducible refine gate_callee (f := 10) rfl ?_); refine goesL_ (some 11) rfl rfl Try.func10 (by kernel_rfl) rfl #[.slice A0 l0.length c0] rfl (by (try simp only [List.map_toArray, List.map_cons, List.map_nil]); first | done | rfl | (simp only [List.length_drop, List.length_take]; rfl)) ?_; (with_reducible refine (code_Decode.calls _ _ l0 t434 _ ?side1 ?side2 A5.out).mono ?_); (case side1 => repeat (first | exact HR0.out | (with_reducible refine Kd.C_alloc ?_ _) | (with_reducible refine Kd.C_drewN ?_ _) | (with_reducible refine Kd.C_drew ?_))); (case side2 => exact HC0.out); rintro e w8 ⟨v435, rfl, ho0, hb⟩; refine ⟨_, rfl, ?_⟩; have n0_ := Aside0.mk (Kd.S_lower ho0 (below_size (by repeat (first | (with_reducible first | exact HB.out | apply below_alloc | apply pw_below_drewN | apply below_drew1) | exact HB.out)))); have n1_ := Aside0.mk (below_step (by repeat (first | (with_reducible first | exact HB.out | apply below_alloc | apply pw_below_drewN | apply below_drew1) | exact HB.out)) hb); clear HB; have HO436 := n0_; have HB := n1_; clear n0_ n1_; (try clear hb); (try clear hb2); (try clear hk); (try clear hi); (try clear ho0)) | ((with_reducible refine gate_callee (f := 15) rfl ?_); refine goesL_ (some 13) rfl rfl Try.func15 (by kernel_rfl) rfl #[.slice A0 l0.length c0] rfl (by (try simp only [List.map_toArray, List.map_cons, List.map_nil]); first | done | rfl | (simp only [List.length_drop, List.length_take]; rfl)) ?_; (with_reducible refine (temperaref21_Decode.calls k _ _ l0 t437 _ ?side1 ?side2 A6.out).mono ?_); (case side1 => repeat (first | exact (Kd.C_below HR0.out HB.out) | (with_reducible refine Kd.C_alloc ?_ _) | (with_reducible refine Kd.C_drewN ?_ _) | (with_reducible refine Kd.C_drew ?_))); (case side2 => exact HC0.out); rintro e w9 ⟨v438, rfl, ho0, hb⟩; refine ⟨_, rfl, ?_⟩; have n0_ := Aside0.mk (Kd.S_below (by (with_reducible repeat (first | apply Kd.S_alloc | apply Kd.S_drewN | apply Kd.S_drew)); exact HO436.out) hb); have n1_ := Aside0.mk (Kd.S_lower ho0 (below_size (by repeat (first | (with_reducible first | exact HB.out | apply below_alloc | apply pw_below_drewN | apply below_drew1) | exact HB.out)))); have n2_ := Aside0.mk (below_step (by repeat (first | (with_reducible first | exact HB.out | apply below_alloc | apply pw_below_drewN | apply below_drew1) | exact HB.out)) hb); clear HO436; clear HB; have HO436 := n0_; have HO439 := n1_; have HB := n2_; clear n0_ n1_ n2_; (try clear hb); (try clear hb2); (try clear hk); (try clear hi); (try clear ho0); obtain ⟨Ao10, co10, eo10⟩ := Kd.S_slice HO436.out; subst eo10; obtain ⟨Ao11, co11, eo11⟩ := Kd.S_slice HO439.out; subst eo11))
   go_loopg [5] k (fun kq v5 w' => ∃ (x5_1 : Int), v5 = .int .i64 x5_1 ∧ Aside0 (temperalaw21_CodeReads.l0 kq t434 t437 x5_1 = some r) ∧ Aside0 (kq ≤ k) ∧ Aside0 (Kd.S k39 39 w' w.heap.size (fun _ => True) (.slice Ao10 t434.length co10) t434) ∧ Aside0 (Kd.S k46 46 w' w.heap.size (fun _ => True) (.slice Ao11 t437.length co11) t437) ∧ Aside0 (Below w.heap.size w w'))
   case atStart => exact ⟨(0), (by first | rfl | (simp; done) | (simp [*]; done)), H', ⟨Nat.le_refl _⟩, ⟨by (with_reducible repeat (first | apply Kd.S_alloc | apply Kd.S_drewN | apply Kd.S_drew)); exact HO436.out⟩, ⟨by (with_reducible repeat (first | apply Kd.S_alloc | apply Kd.S_drewN | apply Kd.S_drew)); exact HO439.out⟩, ⟨by repeat (first | (with_reducible first | exact HB.out | apply below_alloc | apply pw_below_drewN | apply below_drew1) | exact HB.out)⟩⟩
   case round =>
    clear H'
    try clear c1
    try clear c2
    try clear c2b0
    try clear c2b1
    try clear p2
    try clear c4
    try clear c7
    try clear c7b0
    try clear c7b1
    try clear c7b2
    try clear c10
    obtain ⟨x5_1, rfl, HA, HK1, HO_3, HO_4, HB⟩ := hrel
    cases gk with
    | zero => exact absurd HA.out (by simp [temperalaw21_CodeReads.l0])
    | succ k1 =>
     have H := HA.out
     clear HA
     simp only [temperalaw21_CodeReads.l0] at H
     by_cases c12 : x5_1 < (t434.length : Int)
     ·rw [if_pos c12] at H
      have c12b0 : decide (x5_1 < (t434.length : Int)) = true := decide_eq_true c12
      clear c12
      by_cases c13 : 0 ≤ x5_1
      ·rw [if_pos c13] at H
       have c13b0 : decide (0 ≤ x5_1) = true := decide_eq_true c13
       clear c13
       by_cases c14 : x5_1 < (t437.length : Int)
       ·rw [if_pos c14] at H
        have c14b0 : decide (x5_1 < (t437.length : Int)) = true := decide_eq_true c14
        clear c14
        by_cases c15 : ((rd_T39 t434 x5_1).f1) = ((rd_T46 t437 x5_1).f1)
        ·rw [if_pos c15] at H
         have c15b0 : (((rd_T39 t434 x5_1).f1) == ((rd_T46 t437 x5_1).f1)) = true := beq_iff_eq.mpr c15
         have c15b1 : (((rd_T39 t434 x5_1).f1) != ((rd_T46 t437 x5_1).f1)) = false := bne_eq_false_iff_eq.mpr c15
         clear c15
         replace H := Option.bind_eq_some_iff.mp H
         obtain ⟨t444, A160, H⟩ := H
         replace H : (if t444 = true then (temperalaw21_CodeReads.l0 k1 t434 t437 (wrap64 (x5_1 + 1))) else (some false)) = some r := H
         have A16 := Aside0.mk A160
         clear A160
         by_cases c17 : t444 = true
         ·subst c17
          have H1 : (temperalaw21_CodeReads.l0 k1 t434 t437 (wrap64 (x5_1 + 1))) = some r := by rw [if_pos rfl] at H; exact H
          clear H
          have H := H1
          clear H1
          have H' := Aside0.mk H
          clear H
          try go_wp2
          have n0_ := Aside0.mk (Kd.S_drew HO_3.out)
          have n1_ := Aside0.mk (Kd.S_drew HO_4.out)
          have n2_ := Aside0.mk (below_drew1 HB.out)
          clear HO_3
          clear HO_4
          clear HB
          have HO_3 := n0_
          have HO_4 := n1_
          have HB := n2_
          clear n0_ n1_ n2_
          have p440 : 0 ≤ (x5_1 : Int) := of_decide_eq_true (by first | (with_reducible assumption) | assumption)
          have q440 : x5_1 < (t434.length : Int) := of_decide_eq_true (by first | (with_reducible assumption) | assumption)
          obtain ⟨ad440, A440_6, c440_6, A440_7, c440_7, e440, hx440_0, hx440_1, hx440_2, hx440_3, hx440_4, hx440_5, hx440_6, hx440_7, hx440_8, hl440_6, hi440_6, hl440_7, hi440_7⟩ := at_T39 (Kd.S_reads' HO_3.out).2.2 x5_1 p440 q440
          cases e440
          obtain ⟨ce440, hce440, hMe440, hcc440⟩ := Kd.S_get HO_3.out z39 x5_1 p440 (by first | exact q440 | exact of_decide_eq_true (by first | (with_reducible assumption) | assumption) | (have e_ := (Kd.S_reads' HO_3.out).1; omega))
          obtain ⟨ve440_6, ve440_7, rfl, ge440_6, ge440_7⟩ := k39_openM hMe440
          have hv440_6 := hcc440 6 _ rfl
          rw [add_field _ _ 6 (by omega)] at hv440_6
          replace hv440_6 := Option.some.inj (hv440_6.symm.trans hx440_6)
          rw [hv440_6] at ge440_6
          have HL440_6 := Aside0.mk (show Kd.R (Kd.int .i64) 3 _ _ _ _ ((rd_T39 t434 x5_1).f0.f6) from ge440_6)
          clear hv440_6 ge440_6
          have hv440_7 := hcc440 7 _ rfl
          rw [add_field _ _ 7 (by omega)] at hv440_7
          replace hv440_7 := Option.some.inj (hv440_7.symm.trans hx440_7)
          rw [hv440_7] at ge440_7
          have HL440_7 := Aside0.mk (show Kd.R k62 62 _ _ _ _ ((rd_T39 t434 x5_1).f0.f7) from ge440_7)
          clear hv440_7 ge440_7
          clear hcc440 hce440
          have HR440_6 := Aside0.mk hi440_6
          have HC440_6 := Aside0.mk hl440_6
          clear hi440_6 hl440_6
          have HR440_7 := Aside0.mk hi440_7
          have HC440_7 := Aside0.mk hl440_7
          clear hi440_7 hl440_7
          replace p440 := eq_true p440
          replace q440 := eq_true q440
          have p441 : 0 ≤ (x5_1 : Int) := of_decide_eq_true (by first | (with_reducible assumption) | assumption)
          have q441 : x5_1 < (t437.length : Int) := of_decide_eq_true (by first | (with_reducible assumption) | assumption)
          obtain ⟨ad441, A441_6, c441_6, A441_7, c441_7, e441, hx441_0, hx441_1, hx441_2, hx441_3, hx441_4, hx441_5, hx441_6, hx441_7, hx441_8, hl441_6, hi441_6, hl441_7, hi441_7⟩ := at_T46 (Kd.S_reads' HO_4.out).2.2 x5_1 p441 q441
          cases e441
          obtain ⟨ce441, hce441, hMe441, hcc441⟩ := Kd.S_get HO_4.out z46 x5_1 p441 (by first | exact q441 | exact of_decide_eq_true (by first | (with_reducible assumption) | assumption) | (have e_ := (Kd.S_reads' HO_4.out).1; omega))
          obtain ⟨ve441_6, ve441_7, rfl, ge441_6, ge441_7⟩ := k46_openM hMe441
          have hv441_6 := hcc441 6 _ rfl
          rw [add_field _ _ 6 (by omega)] at hv441_6
          replace hv441_6 := Option.some.inj (hv441_6.symm.trans hx441_6)
          rw [hv441_6] at ge441_6
          have HL441_6 := Aside0.mk (show Kd.R (Kd.int .i64) 3 _ _ _ _ ((rd_T46 t437 x5_1).f0.f6) from ge441_6)
          clear hv441_6 ge441_6
          have hv441_7 := hcc441 7 _ rfl
          rw [add_field _ _ 7 (by omega)] at hv441_7
          replace hv441_7 := Option.some.inj (hv441_7.symm.trans hx441_7)
          rw [hv441_7] at ge441_7
          have HL441_7 := Aside0.mk (show Kd.R k62 62 _ _ _ _ ((rd_T46 t437 x5_1).f0.f7) from ge441_7)
          clear hv441_7 ge441_7
          clear hcc441 hce441
          have HR441_6 := Aside0.mk hi441_6
          have HC441_6 := Aside0.mk hl441_6
          clear hi441_6 hl441_6
          have HR441_7 := Aside0.mk hi441_7
          have HC441_7 := Aside0.mk hl441_7
          clear hi441_7 hl441_7
          replace p441 := eq_true p441
          replace q441 := eq_true q441
          have p442 : 0 ≤ (x5_1 : Int) := of_decide_eq_true (by first | (with_reducible assumption) | assumption)
          have q442 : x5_1 < (t434.length : Int) := of_decide_eq_true (by first | (with_reducible assumption) | assumption)
          obtain ⟨ad442, A442_6, c442_6, A442_7, c442_7, e442, hx442_0, hx442_1, hx442_2, hx442_3, hx442_4, hx442_5, hx442_6, hx442_7, hx442_8, hl442_6, hi442_6, hl442_7, hi442_7⟩ := at_T39 (Kd.S_reads' HO_3.out).2.2 x5_1 p442 q442
          obtain rfl : ad440 = ad442 := (by injection e442)
          obtain ⟨ce442, hce442, hMe442, hcc442⟩ := Kd.S_get HO_3.out z39 x5_1 p442 (by first | exact q442 | exact of_decide_eq_true (by first | (with_reducible assumption) | assumption) | (have e_ := (Kd.S_reads' HO_3.out).1; omega))
          obtain ⟨ve442_6, ve442_7, rfl, ge442_6, ge442_7⟩ := k39_openM hMe442
          have hv442_6 := hcc442 6 _ rfl
          rw [add_field _ _ 6 (by omega)] at hv442_6
          replace hv442_6 := Option.some.inj (hv442_6.symm.trans hx442_6)
          rw [hv442_6] at ge442_6
          have HL442_6 := Aside0.mk (show Kd.R (Kd.int .i64) 3 _ _ _ _ ((rd_T39 t434 x5_1).f0.f6) from ge442_6)
          clear hv442_6 ge442_6
          have hv442_7 := hcc442 7 _ rfl
          rw [add_field _ _ 7 (by omega)] at hv442_7
          replace hv442_7 := Option.some.inj (hv442_7.symm.trans hx442_7)
          rw [hv442_7] at ge442_7
          have HL442_7 := Aside0.mk (show Kd.R k62 62 _ _ _ _ ((rd_T39 t434 x5_1).f0.f7) from ge442_7)
          clear hv442_7 ge442_7
          clear hcc442 hce442
          have HR442_6 := Aside0.mk hi442_6
          have HC442_6 := Aside0.mk hl442_6
          clear hi442_6 hl442_6
          have HR442_7 := Aside0.mk hi442_7
          have HC442_7 := Aside0.mk hl442_7
          clear hi442_7 hl442_7
          replace p442 := eq_true p442
          replace q442 := eq_true q442
          have ea_ := Option.some.inj (hx440_6.symm.trans hx442_6)
          injection ea_ with ea_ en_ ec_
          subst ea_
          subst ec_
          clear en_
          have ea_ := Option.some.inj (hx440_7.symm.trans hx442_7)
          injection ea_ with ea_ en_ ec_
          subst ea_
          subst ec_
          clear en_
          have p443 : 0 ≤ (x5_1 : Int) := of_decide_eq_true (by first | (with_reducible assumption) | assumption)
          have q443 : x5_1 < (t437.length : Int) := of_decide_eq_true (by first | (with_reducible assumption) | assumption)
          obtain ⟨ad443, A443_6, c443_6, A443_7, c443_7, e443, hx443_0, hx443_1, hx443_2, hx443_3, hx443_4, hx443_5, hx443_6, hx443_7, hx443_8, hl443_6, hi443_6, hl443_7, hi443_7⟩ := at_T46 (Kd.S_reads' HO_4.out).2.2 x5_1 p443 q443
          obtain rfl : ad441 = ad443 := (by injection e443)
          obtain ⟨ce443, hce443, hMe443, hcc443⟩ := Kd.S_get HO_4.out z46 x5_1 p443 (by first | exact q443 | exact of_decide_eq_true (by first | (with_reducible assumption) | assumption) | (have e_ := (Kd.S_reads' HO_4.out).1; omega))
          obtain ⟨ve443_6, ve443_7, rfl, ge443_6, ge443_7⟩ := k46_openM hMe443
          have hv443_6 := hcc443 6 _ rfl
          rw [add_field _ _ 6 (by omega)] at hv443_6
          replace hv443_6 := Option.some.inj (hv443_6.symm.trans hx443_6)
          rw [hv443_6] at ge443_6
          have HL443_6 := Aside0.mk (show Kd.R (Kd.int .i64) 3 _ _ _ _ ((rd_T46 t437 x5_1).f0.f6) from ge443_6)
          clear hv443_6 ge443_6
          have hv443_7 := hcc443 7 _ rfl
          rw [add_field _ _ 7 (by omega)] at hv443_7
          replace hv443_7 := Option.some.inj (hv443_7.symm.trans hx443_7)
          rw [hv443_7] at ge443_7
          have HL443_7 := Aside0.mk (show Kd.R k62 62 _ _ _ _ ((rd_T46 t437 x5_1).f0.f7) from ge443_7)
          clear hv443_7 ge443_7
          clear hcc443 hce443
          have HR443_6 := Aside0.mk hi443_6
          have HC443_6 := Aside0.mk hl443_6
          clear hi443_6 hl443_6
          have HR443_7 := Aside0.mk hi443_7
          have HC443_7 := Aside0.mk hl443_7
          clear hi443_7 hl443_7
          replace p443 := eq_true p443
          replace q443 := eq_true q443
          have ea_ := Option.some.inj (hx441_6.symm.trans hx443_6)
          injection ea_ with ea_ en_ ec_
          subst ea_
          subst ec_
          clear en_
          have ea_ := Option.some.inj (hx441_7.symm.trans hx443_7)
          injection ea_ with ea_ en_ ec_
          subst ea_
          subst ec_
          clear en_
          refine start_ (n := 25) (S := fun w' => w'.cell? (ad440.add ((x5_1).toNat * 9)) = some (.int .i64 ((rd_T39 t434 x5_1).f0.f0)) ∧ w'.cell? ⟨(ad440.add ((x5_1).toNat * 9)).block, (ad440.add ((x5_1).toNat * 9)).off + 1, none⟩ = some (.int .i64 ((rd_T39 t434 x5_1).f0.f1)) ∧ w'.cell? ⟨(ad440.add ((x5_1).toNat * 9)).block, (ad440.add ((x5_1).toNat * 9)).off + 2, none⟩ = some (.int .i64 ((rd_T39 t434 x5_1).f0.f2)) ∧ w'.cell? ⟨(ad440.add ((x5_1).toNat * 9)).block, (ad440.add ((x5_1).toNat * 9)).off + 3, none⟩ = some (.int .i64 ((rd_T39 t434 x5_1).f0.f3)) ∧ w'.cell? ⟨(ad440.add ((x5_1).toNat * 9)).block, (ad440.add ((x5_1).toNat * 9)).off + 4, none⟩ = some (.int .i64 ((rd_T39 t434 x5_1).f0.f4)) ∧ w'.cell? ⟨(ad440.add ((x5_1).toNat * 9)).block, (ad440.add ((x5_1).toNat * 9)).off + 5, none⟩ = some (.int .i64 ((rd_T39 t434 x5_1).f0.f5)) ∧ w'.cell? ⟨(ad440.add ((x5_1).toNat * 9)).block, (ad440.add ((x5_1).toNat * 9)).off + 6, none⟩ = some (.slice A440_6 ((rd_T39 t434 x5_1).f0.f6).length c440_6) ∧ w'.cell? ⟨(ad440.add ((x5_1).toNat * 9)).block, (ad440.add ((x5_1).toNat * 9)).off + 7, none⟩ = some (.slice A440_7 ((rd_T39 t434 x5_1).f0.f7).length c440_7) ∧ w'.cell? ⟨(ad440.add ((x5_1).toNat * 9)).block, (ad440.add ((x5_1).toNat * 9)).off + 8, none⟩ = some (.int .i64 ((rd_T39 t434 x5_1).f1)) ∧ w'.cell? (ad441.add ((x5_1).toNat * 9)) = some (.int .i64 ((rd_T46 t437 x5_1).f0.f0)) ∧ w'.cell? ⟨(ad441.add ((x5_1).toNat * 9)).block, (ad441.add ((x5_1).toNat * 9)).off + 1, none⟩ = some (.int .i64 ((rd_T46 t437 x5_1).f0.f1)) ∧ w'.cell? ⟨(ad441.add ((x5_1).toNat * 9)).block, (ad441.add ((x5_1).toNat * 9)).off + 2, none⟩ = some (.int .i64 ((rd_T46 t437 x5_1).f0.f2)) ∧ w'.cell? ⟨(ad441.add ((x5_1).toNat * 9)).block, (ad441.add ((x5_1).toNat * 9)).off + 3, none⟩ = some (.int .i64 ((rd_T46 t437 x5_1).f0.f3)) ∧ w'.cell? ⟨(ad441.add ((x5_1).toNat * 9)).block, (ad441.add ((x5_1).toNat * 9)).off + 4, none⟩ = some (.int .i64 ((rd_T46 t437 x5_1).f0.f4)) ∧ w'.cell? ⟨(ad441.add ((x5_1).toNat * 9)).block, (ad441.add ((x5_1).toNat * 9)).off + 5, none⟩ = some (.int .i64 ((rd_T46 t437 x5_1).f0.f5)) ∧ w'.cell? ⟨(ad441.add ((x5_1).toNat * 9)).block, (ad441.add ((x5_1).toNat * 9)).off + 6, none⟩ = some (.slice A441_6 ((rd_T46 t437 x5_1).f0.f6).length c441_6) ∧ w'.cell? ⟨(ad441.add ((x5_1).toNat * 9)).block, (ad441.add ((x5_1).toNat * 9)).off + 7, none⟩ = some (.slice A441_7 ((rd_T46 t437 x5_1).f0.f7).length c441_7) ∧ w'.cell? ⟨(ad441.add ((x5_1).toNat * 9)).block, (ad441.add ((x5_1).toNat * 9)).off + 8, none⟩ = some (.int .i64 ((rd_T46 t437 x5_1).f1)) ∧ w'.cell? (ad440.add ((x5_1).toNat * 9)) = some (.int .i64 ((rd_T39 t434 x5_1).f0.f0)) ∧ w'.cell? ⟨(ad440.add ((x5_1).toNat * 9)).block, (ad440.add ((x5_1).toNat * 9)).off + 1, none⟩ = some (.int .i64 ((rd_T39 t434 x5_1).f0.f1)) ∧ w'.cell? ⟨(ad440.add ((x5_1).toNat * 9)).block, (ad440.add ((x5_1).toNat * 9)).off + 2, none⟩ = some (.int .i64 ((rd_T39 t434 x5_1).f0.f2)) ∧ w'.cell? ⟨(ad440.add ((x5_1).toNat * 9)).block, (ad440.add ((x5_1).toNat * 9)).off + 3, none⟩ = some (.int .i64 ((rd_T39 t434 x5_1).f0.f3)) ∧ w'.cell? ⟨(ad440.add ((x5_1).toNat * 9)).block, (ad440.add ((x5_1).toNat * 9)).off + 4, none⟩ = some (.int .i64 ((rd_T39 t434 x5_1).f0.f4)) ∧ w'.cell? ⟨(ad440.add ((x5_1).toNat * 9)).block, (ad440.add ((x5_1).toNat * 9)).off + 5, none⟩ = some (.int .i64 ((rd_T39 t434 x5_1).f0.f5)) ∧ w'.cell? ⟨(ad440.add ((x5_1).toNat * 9)).block, (ad440.add ((x5_1).toNat * 9)).off + 6, none⟩ = some (.slice A440_6 ((rd_T39 t434 x5_1).f0.f6).length c440_6) ∧ w'.cell? ⟨(ad440.add ((x5_1).toNat * 9)).block, (ad440.add ((x5_1).toNat * 9)).off + 7, none⟩ = some (.slice A440_7 ((rd_T39 t434 x5_1).f0.f7).length c440_7) ∧ w'.cell? ⟨(ad440.add ((x5_1).toNat * 9)).block, (ad440.add ((x5_1).toNat * 9)).off + 8, none⟩ = some (.int .i64 ((rd_T39 t434 x5_1).f1)) ∧ w'.cell? (ad441.add ((x5_1).toNat * 9)) = some (.int .i64 ((rd_T46 t437 x5_1).f0.f0)) ∧ w'.cell? ⟨(ad441.add ((x5_1).toNat * 9)).block, (ad441.add ((x5_1).toNat * 9)).off + 1, none⟩ = some (.int .i64 ((rd_T46 t437 x5_1).f0.f1)) ∧ w'.cell? ⟨(ad441.add ((x5_1).toNat * 9)).block, (ad441.add ((x5_1).toNat * 9)).off + 2, none⟩ = some (.int .i64 ((rd_T46 t437 x5_1).f0.f2)) ∧ w'.cell? ⟨(ad441.add ((x5_1).toNat * 9)).block, (ad441.add ((x5_1).toNat * 9)).off + 3, none⟩ = some (.int .i64 ((rd_T46 t437 x5_1).f0.f3)) ∧ w'.cell? ⟨(ad441.add ((x5_1).toNat * 9)).block, (ad441.add ((x5_1).toNat * 9)).off + 4, none⟩ = some (.int .i64 ((rd_T46 t437 x5_1).f0.f4)) ∧ w'.cell? ⟨(ad441.add ((x5_1).toNat * 9)).block, (ad441.add ((x5_1).toNat * 9)).off + 5, none⟩ = some (.int .i64 ((rd_T46 t437 x5_1).f0.f5)) ∧ w'.cell? ⟨(ad441.add ((x5_1).toNat * 9)).block, (ad441.add ((x5_1).toNat * 9)).off + 6, none⟩ = some (.slice A441_6 ((rd_T46 t437 x5_1).f0.f6).length c441_6) ∧ w'.cell? ⟨(ad441.add ((x5_1).toNat * 9)).block, (ad441.add ((x5_1).toNat * 9)).off + 7, none⟩ = some (.slice A441_7 ((rd_T46 t437 x5_1).f0.f7).length c441_7) ∧ w'.cell? ⟨(ad441.add ((x5_1).toNat * 9)).block, (ad441.add ((x5_1).toNat * 9)).off + 8, none⟩ = some (.int .i64 ((rd_T46 t437 x5_1).f1))) (ds := []) #[false, false, false, false, false, false, false, false, false, false, false, false, false, false, false, false, false, false, false, false, false, false, false, false, false] (by kernel_rfl) rfl rfl ⟨hx440_0, hx440_1, hx440_2, hx440_3, hx440_4, hx440_5, hx440_6, hx440_7, hx440_8, hx441_0, hx441_1, hx441_2, hx441_3, hx441_4, hx441_5, hx441_6, hx441_7, hx441_8, hx442_0, hx442_1, hx442_2, hx442_3, hx442_4, hx442_5, hx442_6, hx442_7, hx442_8, hx443_0, hx443_1, hx443_2, hx443_3, hx443_4, hx443_5, hx443_6, hx443_7, hx443_8⟩ (fun hHeld => ?_); refine with_tabW temperalaw21_CodeReads.tab9 temperalaw21_CodeReads.bits9 (fun HT_ HW_ => ?_)
          generalize wr.drew = w18 at HO_3 HO_4 HB HL440_6 HL440_7 HL441_6 HL441_7 HL442_6 HL442_7 HL443_6 HL443_7 HR440_6 HR440_7 HR441_6 HR441_7 HR442_6 HR442_7 HR443_6 HR443_7 hx440_0 hx440_1 hx440_2 hx440_3 hx440_4 hx440_5 hx440_6 hx440_7 hx440_8 hx441_0 hx441_1 hx441_2 hx441_3 hx441_4 hx441_5 hx441_6 hx441_7 hx441_8 hx442_0 hx442_1 hx442_2 hx442_3 hx442_4 hx442_5 hx442_6 hx442_7 hx442_8 hx443_0 hx443_1 hx443_2 hx443_3 hx443_4 hx443_5 hx443_6 hx443_7 hx443_8 hHeld ⊢
          refine pure_ (i := 0) (N := some 25) (v := ?_) (a' := ?_) #[true, false, false, false, false, false, false, false, false, false, false, false, false, false, false, false, false, false, false, false, false, false, false, false, false] rfl rfl (any_of HT_.out (by kernel_rfl)) (fun _ _ _ h => h) (Or.inl ⟨by rfl, ?_⟩) ?_ ?_
          rotate_left
          ·intro w'
           go_simp
           with_reducible rfl
          rotate_left
          ·simp only [Act.put, List.setIfInBounds_toArray, List.set_cons_zero, List.set_cons_succ, i64_w, i32_w]
           rfl
          refine pure_ (i := 1) (N := some 26) (v := ?_) (a' := ?_) #[true, true, false, false, false, false, false, false, false, false, false, false, false, false, false, false, false, false, false, false, false, false, false, false, false] rfl rfl (any_of HT_.out (by kernel_rfl)) (fun _ _ _ h => h) (Or.inl ⟨by rfl, ?_⟩) ?_ ?_
          rotate_left
          ·intro w'
           go_simp
           with_reducible rfl
          rotate_left
          ·simp only [Act.put, List.setIfInBounds_toArray, List.set_cons_zero, List.set_cons_succ, i64_w, i32_w]
           rfl
          refine pure_ (i := 2) (N := some 27) (v := ?_) (a' := ?_) #[true, true, true, false, false, false, false, false, false, false, false, false, false, false, false, false, false, false, false, false, false, false, false, false, false] rfl rfl (any_of HT_.out (by kernel_rfl)) (fun _ _ _ h => h) (Or.inl ⟨by rfl, ?_⟩) ?_ ?_
          rotate_left
          ·intro w'
           go_simp
           with_reducible rfl
          rotate_left
          ·simp only [Act.put, List.setIfInBounds_toArray, List.set_cons_zero, List.set_cons_succ, i64_w, i32_w]
           rfl
          refine pure_ (i := 3) (N := some 28) (v := ?_) (a' := ?_) #[true, true, true, true, false, false, false, false, false, false, false, false, false, false, false, false, false, false, false, false, false, false, false, false, false] rfl rfl (any_of HT_.out (by kernel_rfl)) (fun _ _ _ h => h) (Or.inl ⟨by rfl, ?_⟩) ?_ ?_
          rotate_left
          ·intro w'
           go_simp
           with_reducible rfl
          rotate_left
          ·simp only [Act.put, List.setIfInBounds_toArray, List.set_cons_zero, List.set_cons_succ, i64_w, i32_w]
           rfl
          refine pure_ (i := 5) (N := some 30) (v := ?_) (a' := ?_) #[true, true, true, true, false, true, false, false, false, false, false, false, false, false, false, false, false, false, false, false, false, false, false, false, false] rfl rfl (any_of HT_.out (by kernel_rfl)) (fun _ _ _ h => h) (Or.inl ⟨by rfl, ?_⟩) ?_ ?_
          rotate_left
          ·intro w'
           go_simp
           with_reducible rfl
          rotate_left
          ·simp only [Act.put, List.setIfInBounds_toArray, List.set_cons_zero, List.set_cons_succ, i64_w, i32_w]
           rfl
          refine pure_ (i := 6) (N := some 31) (v := ?_) (a' := ?_) #[true, true, true, true, false, true, true, false, false, false, false, false, false, false, false, false, false, false, false, false, false, false, false, false, false] rfl rfl (any_of HT_.out (by kernel_rfl)) (fun _ _ _ h => h) (Or.inl ⟨by rfl, ?_⟩) ?_ ?_
          rotate_left
          ·intro w'
           go_simp
           with_reducible rfl
          rotate_left
          ·simp only [Act.put, List.setIfInBounds_toArray, List.set_cons_zero, List.set_cons_succ, i64_w, i32_w]
           rfl
          refine pure_ (i := 7) (N := some 32) (v := ?_) (a' := ?_) #[true, true, true, true, false, true, true, true, false, false, false, false, false, false, false, false, false, false, false, false, false, false, false, false, false] rfl rfl (any_of HT_.out (by kernel_rfl)) (fun _ _ _ h => h) (Or.inl ⟨by rfl, ?_⟩) ?_ ?_
          rotate_left
          ·intro w'
           go_simp
           with_reducible rfl
          rotate_left
          ·simp only [Act.put, List.setIfInBounds_toArray, List.set_cons_zero, List.set_cons_succ, i64_w, i32_w]
           rfl
          refine pure_ (i := 8) (N := some 33) (v := ?_) (a' := ?_) #[true, true, true, true, false, true, true, true, true, false, false, false, false, false, false, false, false, false, false, false, false, false, false, false, false] rfl rfl (any_of HT_.out (by kernel_rfl)) (fun _ _ _ h => h) (Or.inl ⟨by rfl, ?_⟩) ?_ ?_
          rotate_left
          ·intro w'
           go_simp
           with_reducible rfl
          rotate_left
          ·simp only [Act.put, List.setIfInBounds_toArray, List.set_cons_zero, List.set_cons_succ, i64_w, i32_w]
           rfl
          refine take_ (i := 4) (N := some 29) (v := ?_) (a' := ?_) #[true, true, true, true, true, true, true, true, true, false, false, false, false, false, false, false, false, false, false, false, false, false, false, false, false] rfl rfl (take_ofW HT_.out HW_.out (by kernel_rfl)) (fun _ _ _ h => h) (Or.inl ⟨by rfl, ?_⟩) hHeld ?_ ?_
          rotate_left
          ·rintro w' ⟨s0, s1, s2, s3, s4, s5, s6, s7, s8, s9, s10, s11, s12, s13, s14, s15, s16, s17, s18, s19, s20, s21, s22, s23, s24, s25, s26, s27, s28, s29, s30, s31, s32, s33, s34, s35⟩
           go_simp
           with_reducible rfl
          rotate_left
          ·simp only [Act.put, List.setIfInBounds_toArray, List.set_cons_zero, List.set_cons_succ, i64_w, i32_w]
           rfl
          refine take_ (i := 9) (N := some 34) (v := ?_) (a' := ?_) #[true, true, true, true, true, true, true, true, true, true, false, false, false, false, false, false, false, false, false, false, false, false, false, false, false] rfl rfl (take_ofW HT_.out HW_.out (by kernel_rfl)) (fun _ _ _ h => h) (Or.inl ⟨by rfl, ?_⟩) hHeld ?_ ?_
          rotate_left
          ·rintro w' ⟨s0, s1, s2, s3, s4, s5, s6, s7, s8, s9, s10, s11, s12, s13, s14, s15, s16, s17, s18, s19, s20, s21, s22, s23, s24, s25, s26, s27, s28, s29, s30, s31, s32, s33, s34, s35⟩
           go_simp
           with_reducible rfl
          rotate_left
          ·simp only [Act.put, List.setIfInBounds_toArray, List.set_cons_zero, List.set_cons_succ, i64_w, i32_w]
           rfl
          refine pure_ (i := 10) (N := some 35) (v := ?_) (a' := ?_) #[true, true, true, true, true, true, true, true, true, true, true, false, false, false, false, false, false, false, false, false, false, false, false, false, false] rfl rfl (any_of HT_.out (by kernel_rfl)) (fun _ _ _ h => h) (Or.inl ⟨by rfl, ?_⟩) ?_ ?_
          rotate_left
          ·intro w'
           go_simp
           with_reducible rfl
          rotate_left
          ·simp only [Act.put, List.setIfInBounds_toArray, List.set_cons_zero, List.set_cons_succ, i64_w, i32_w]
           rfl
          refine pure_ (i := 11) (N := some 36) (v := ?_) (a' := ?_) #[true, true, true, true, true, true, true, true, true, true, true, true, false, false, false, false, false, false, false, false, false, false, false, false, false] rfl rfl (any_of HT_.out (by kernel_rfl)) (fun _ _ _ h => h) (Or.inl ⟨by rfl, ?_⟩) ?_ ?_
          rotate_left
          ·intro w'
           go_simp
           with_reducible rfl
          rotate_left
          ·simp only [Act.put, List.setIfInBounds_toArray, List.set_cons_zero, List.set_cons_succ, i64_w, i32_w]
           rfl
          refine pure_ (i := 12) (N := some 37) (v := ?_) (a' := ?_) #[true, true, true, true, true, true, true, true, true, true, true, true, true, false, false, false, false, false, false, false, false, false, false, false, false] rfl rfl (any_of HT_.out (by kernel_rfl)) (fun _ _ _ h => h) (Or.inl ⟨by rfl, ?_⟩) ?_ ?_
          rotate_left
          ·intro w'
           go_simp
           with_reducible rfl
          rotate_left
          ·simp only [Act.put, List.setIfInBounds_toArray, List.set_cons_zero, List.set_cons_succ, i64_w, i32_w]
           rfl
          refine pure_ (i := 13) (N := some 38) (v := ?_) (a' := ?_) #[true, true, true, true, true, true, true, true, true, true, true, true, true, true, false, false, false, false, false, false, false, false, false, false, false] rfl rfl (any_of HT_.out (by kernel_rfl)) (fun _ _ _ h => h) (Or.inl ⟨by rfl, ?_⟩) ?_ ?_
          rotate_left
          ·intro w'
           go_simp
           with_reducible rfl
          rotate_left
          ·simp only [Act.put, List.setIfInBounds_toArray, List.set_cons_zero, List.set_cons_succ, i64_w, i32_w]
           rfl
          refine pure_ (i := 14) (N := some 39) (v := ?_) (a' := ?_) #[true, true, true, true, true, true, true, true, true, true, true, true, true, true, true, false, false, false, false, false, false, false, false, false, false] rfl rfl (any_of HT_.out (by kernel_rfl)) (fun _ _ _ h => h) (Or.inl ⟨by rfl, ?_⟩) ?_ ?_
          rotate_left
          ·intro w'
           go_simp
           with_reducible rfl
          rotate_left
          ·simp only [Act.put, List.setIfInBounds_toArray, List.set_cons_zero, List.set_cons_succ, i64_w, i32_w]
           rfl
          refine pure_ (i := 15) (N := some 40) (v := ?_) (a' := ?_) #[true, true, true, true, true, true, true, true, true, true, true, true, true, true, true, true, false, false, false, false, false, false, false, false, false] rfl rfl (any_of HT_.out (by kernel_rfl)) (fun _ _ _ h => h) (Or.inl ⟨by rfl, ?_⟩) ?_ ?_
          rotate_left
          ·intro w'
           go_simp
           with_reducible rfl
          rotate_left
          ·simp only [Act.put, List.setIfInBounds_toArray, List.set_cons_zero, List.set_cons_succ, i64_w, i32_w]
           rfl
          refine pure_ (i := 17) (N := some 42) (v := ?_) (a' := ?_) #[true, true, true, true, true, true, true, true, true, true, true, true, true, true, true, true, false, true, false, false, false, false, false, false, false] rfl rfl (any_of HT_.out (by kernel_rfl)) (fun _ _ _ h => h) (Or.inl ⟨by rfl, ?_⟩) ?_ ?_
          rotate_left
          ·intro w'
           go_simp
           with_reducible rfl
          rotate_left
          ·simp only [Act.put, List.setIfInBounds_toArray, List.set_cons_zero, List.set_cons_succ, i64_w, i32_w]
           rfl
          refine pure_ (i := 18) (N := some 43) (v := ?_) (a' := ?_) #[true, true, true, true, true, true, true, true, true, true, true, true, true, true, true, true, false, true, true, false, false, false, false, false, false] rfl rfl (any_of HT_.out (by kernel_rfl)) (fun _ _ _ h => h) (Or.inl ⟨by rfl, ?_⟩) ?_ ?_
          rotate_left
          ·intro w'
           go_simp
           with_reducible rfl
          rotate_left
          ·simp only [Act.put, List.setIfInBounds_toArray, List.set_cons_zero, List.set_cons_succ, i64_w, i32_w]
           rfl
          refine pure_ (i := 19) (N := some 44) (v := ?_) (a' := ?_) #[true, true, true, true, true, true, true, true, true, true, true, true, true, true, true, true, false, true, true, true, false, false, false, false, false] rfl rfl (any_of HT_.out (by kernel_rfl)) (fun _ _ _ h => h) (Or.inl ⟨by rfl, ?_⟩) ?_ ?_
          rotate_left
          ·intro w'
           go_simp
           with_reducible rfl
          rotate_left
          ·simp only [Act.put, List.setIfInBounds_toArray, List.set_cons_zero, List.set_cons_succ, i64_w, i32_w]
           rfl
          refine pure_ (i := 20) (N := some 45) (v := ?_) (a' := ?_) #[true, true, true, true, true, true, true, true, true, true, true, true, true, true, true, true, false, true, true, true, true, false, false, false, false] rfl rfl (any_of HT_.out (by kernel_rfl)) (fun _ _ _ h => h) (Or.inl ⟨by rfl, ?_⟩) ?_ ?_
          rotate_left
          ·intro w'
           go_simp
           with_reducible rfl
          rotate_left
          ·simp only [Act.put, List.setIfInBounds_toArray, List.set_cons_zero, List.set_cons_succ, i64_w, i32_w]
           rfl
          refine take_ (i := 16) (N := some 41) (v := ?_) (a' := ?_) #[true, true, true, true, true, true, true, true, true, true, true, true, true, true, true, true, true, true, true, true, true, false, false, false, false] rfl rfl (take_ofW HT_.out HW_.out (by kernel_rfl)) (fun _ _ _ h => h) (Or.inl ⟨by rfl, ?_⟩) hHeld ?_ ?_
          rotate_left
          ·rintro w' ⟨s0, s1, s2, s3, s4, s5, s6, s7, s8, s9, s10, s11, s12, s13, s14, s15, s16, s17, s18, s19, s20, s21, s22, s23, s24, s25, s26, s27, s28, s29, s30, s31, s32, s33, s34, s35⟩
           go_simp
           with_reducible rfl
          rotate_left
          ·simp only [Act.put, List.setIfInBounds_toArray, List.set_cons_zero, List.set_cons_succ, i64_w, i32_w]
           rfl
          refine take_ (i := 21) (N := some 46) (v := ?_) (a' := ?_) #[true, true, true, true, true, true, true, true, true, true, true, true, true, true, true, true, true, true, true, true, true, true, false, false, false] rfl rfl (take_ofW HT_.out HW_.out (by kernel_rfl)) (fun _ _ _ h => h) (Or.inl ⟨by rfl, ?_⟩) hHeld ?_ ?_
          rotate_left
          ·rintro w' ⟨s0, s1, s2, s3, s4, s5, s6, s7, s8, s9, s10, s11, s12, s13, s14, s15, s16, s17, s18, s19, s20, s21, s22, s23, s24, s25, s26, s27, s28, s29, s30, s31, s32, s33, s34, s35⟩
           go_simp
           with_reducible rfl
          rotate_left
          ·simp only [Act.put, List.setIfInBounds_toArray, List.set_cons_zero, List.set_cons_succ, i64_w, i32_w]
           rfl
          refine one_ (i := 22) (N := some 47) #[true, true, true, true, true, true, true, true, true, true, true, true, true, true, true, true, true, true, true, true, true, true, true, false, false] rfl rfl (one_of HT_.out (by kernel_rfl)) (by decide) (fun K hK => ?_)
          refine goes_ Try.func13 (by kernel_rfl) rfl #[.agg #[.int .i64 ((rd_T39 t434 x5_1).f0.f0), .int .i64 ((rd_T39 t434 x5_1).f0.f1), .int .i64 ((rd_T39 t434 x5_1).f0.f2), .int .i64 ((rd_T39 t434 x5_1).f0.f3), .int .i64 ((rd_T39 t434 x5_1).f0.f4), .int .i64 ((rd_T39 t434 x5_1).f0.f5), .slice A440_6 ((rd_T39 t434 x5_1).f0.f6).length c440_6, .slice A440_7 ((rd_T39 t434 x5_1).f0.f7).length c440_7], .agg #[.int .i64 ((rd_T46 t437 x5_1).f0.f0), .int .i64 ((rd_T46 t437 x5_1).f0.f1), .int .i64 ((rd_T46 t437 x5_1).f0.f2), .int .i64 ((rd_T46 t437 x5_1).f0.f3), .int .i64 ((rd_T46 t437 x5_1).f0.f4), .int .i64 ((rd_T46 t437 x5_1).f0.f5), .slice A441_6 ((rd_T46 t437 x5_1).f0.f6).length c441_6, .slice A441_7 ((rd_T46 t437 x5_1).f0.f7).length c441_7]] (by rfl) rfl rfl (by (try simp only [List.map_toArray, List.map_cons, List.map_nil]); first | done | rfl | (simp only [List.length_drop, List.length_take]; rfl)) ?_
          with_reducible refine (temperaref20_Same.calls k1 ((rd_T39 t434 x5_1).f0.f0) ((rd_T39 t434 x5_1).f0.f1) ((rd_T39 t434 x5_1).f0.f2) ((rd_T39 t434 x5_1).f0.f3) ((rd_T39 t434 x5_1).f0.f4) ((rd_T39 t434 x5_1).f0.f5) _ _ ((rd_T39 t434 x5_1).f0.f6) _ _ ((rd_T39 t434 x5_1).f0.f7) ((rd_T46 t437 x5_1).f0.f0) ((rd_T46 t437 x5_1).f0.f1) ((rd_T46 t437 x5_1).f0.f2) ((rd_T46 t437 x5_1).f0.f3) ((rd_T46 t437 x5_1).f0.f4) ((rd_T46 t437 x5_1).f0.f5) _ _ ((rd_T46 t437 x5_1).f0.f6) _ _ ((rd_T46 t437 x5_1).f0.f7) true _ ?side1 ?side2 ?side3 ?side4 ?side5 ?side6 ?side7 ?side8 A16.out).mono ?_
          (case side1 => repeat (first | exact (by repeat (first | (with_reducible exact HR442_6.out) | (with_reducible refine Kd.C_alloc ?_ _) | (with_reducible refine Kd.C_drewN ?_ _) | (with_reducible refine Kd.C_drew ?_) | exact HR442_6.out)) | (with_reducible refine Kd.C_alloc ?_ _) | (with_reducible refine Kd.C_drewN ?_ _) | (with_reducible refine Kd.C_drew ?_)))
          (case side2 => exact HC442_6.out)
          (case side3 => repeat (first | exact (by repeat (first | (with_reducible exact HR442_7.out) | (with_reducible refine Kd.C_alloc ?_ _) | (with_reducible refine Kd.C_drewN ?_ _) | (with_reducible refine Kd.C_drew ?_) | exact HR442_7.out)) | (with_reducible refine Kd.C_alloc ?_ _) | (with_reducible refine Kd.C_drewN ?_ _) | (with_reducible refine Kd.C_drew ?_)))
          (case side4 => exact HC442_7.out)
          (case side5 => repeat (first | exact (by repeat (first | (with_reducible exact HR443_6.out) | (with_reducible refine Kd.C_alloc ?_ _) | (with_reducible refine Kd.C_drewN ?_ _) | (with_reducible refine Kd.C_drew ?_) | exact HR443_6.out)) | (with_reducible refine Kd.C_alloc ?_ _) | (with_reducible refine Kd.C_drewN ?_ _) | (with_reducible refine Kd.C_drew ?_)))
          (case side6 => exact HC443_6.out)
          (case side7 => repeat (first | exact (by repeat (first | (with_reducible exact HR443_7.out) | (with_reducible refine Kd.C_alloc ?_ _) | (with_reducible refine Kd.C_drewN ?_ _) | (with_reducible refine Kd.C_drew ?_) | exact HR443_7.out)) | (with_reducible refine Kd.C_alloc ?_ _) | (with_reducible refine Kd.C_drewN ?_ _) | (with_reducible refine Kd.C_drew ?_)))
          (case side8 => exact HC443_7.out)
          rintro e w19 ⟨rfl, hb⟩
          have HS0_ := (hb.cell (World.block_lt_of_cell? _ _ (hHeld.1))).trans (hHeld.1)
          have HS1_ := (hb.cell (World.block_lt_of_cell? _ _ (hHeld.2.1))).trans (hHeld.2.1)
          have HS2_ := (hb.cell (World.block_lt_of_cell? _ _ (hHeld.2.2.1))).trans (hHeld.2.2.1)
          have HS3_ := (hb.cell (World.block_lt_of_cell? _ _ (hHeld.2.2.2.1))).trans (hHeld.2.2.2.1)
          have HS4_ := (hb.cell (World.block_lt_of_cell? _ _ (hHeld.2.2.2.2.1))).trans (hHeld.2.2.2.2.1)
          have HS5_ := (hb.cell (World.block_lt_of_cell? _ _ (hHeld.2.2.2.2.2.1))).trans (hHeld.2.2.2.2.2.1)
          have HS6_ := (hb.cell (World.block_lt_of_cell? _ _ (hHeld.2.2.2.2.2.2.1))).trans (hHeld.2.2.2.2.2.2.1)
          have HS7_ := (hb.cell (World.block_lt_of_cell? _ _ (hHeld.2.2.2.2.2.2.2.1))).trans (hHeld.2.2.2.2.2.2.2.1)
          have HS8_ := (hb.cell (World.block_lt_of_cell? _ _ (hHeld.2.2.2.2.2.2.2.2.1))).trans (hHeld.2.2.2.2.2.2.2.2.1)
          have HS9_ := (hb.cell (World.block_lt_of_cell? _ _ (hHeld.2.2.2.2.2.2.2.2.2.1))).trans (hHeld.2.2.2.2.2.2.2.2.2.1)
          have HS10_ := (hb.cell (World.block_lt_of_cell? _ _ (hHeld.2.2.2.2.2.2.2.2.2.2.1))).trans (hHeld.2.2.2.2.2.2.2.2.2.2.1)
          have HS11_ := (hb.cell (World.block_lt_of_cell? _ _ (hHeld.2.2.2.2.2.2.2.2.2.2.2.1))).trans (hHeld.2.2.2.2.2.2.2.2.2.2.2.1)
          have HS12_ := (hb.cell (World.block_lt_of_cell? _ _ (hHeld.2.2.2.2.2.2.2.2.2.2.2.2.1))).trans (hHeld.2.2.2.2.2.2.2.2.2.2.2.2.1)
          have HS13_ := (hb.cell (World.block_lt_of_cell? _ _ (hHeld.2.2.2.2.2.2.2.2.2.2.2.2.2.1))).trans (hHeld.2.2.2.2.2.2.2.2.2.2.2.2.2.1)
          have HS14_ := (hb.cell (World.block_lt_of_cell? _ _ (hHeld.2.2.2.2.2.2.2.2.2.2.2.2.2.2.1))).trans (hHeld.2.2.2.2.2.2.2.2.2.2.2.2.2.2.1)
          have HS15_ := (hb.cell (World.block_lt_of_cell? _ _ (hHeld.2.2.2.2.2.2.2.2.2.2.2.2.2.2.2.1))).trans (hHeld.2.2.2.2.2.2.2.2.2.2.2.2.2.2.2.1)
          have HS16_ := (hb.cell (World.block_lt_of_cell? _ _ (hHeld.2.2.2.2.2.2.2.2.2.2.2.2.2.2.2.2.1))).trans (hHeld.2.2.2.2.2.2.2.2.2.2.2.2.2.2.2.2.1)
          have HS17_ := (hb.cell (World.block_lt_of_cell? _ _ (hHeld.2.2.2.2.2.2.2.2.2.2.2.2.2.2.2.2.2.1))).trans (hHeld.2.2.2.2.2.2.2.2.2.2.2.2.2.2.2.2.2.1)
          have HS18_ := (hb.cell (World.block_lt_of_cell? _ _ (hHeld.2.2.2.2.2.2.2.2.2.2.2.2.2.2.2.2.2.2.1))).trans (hHeld.2.2.2.2.2.2.2.2.2.2.2.2.2.2.2.2.2.2.1)
          have HS19_ := (hb.cell (World.block_lt_of_cell? _ _ (hHeld.2.2.2.2.2.2.2.2.2.2.2.2.2.2.2.2.2.2.2.1))).trans (hHeld.2.2.2.2.2.2.2.2.2.2.2.2.2.2.2.2.2.2.2.1)
          have HS20_ := (hb.cell (World.block_lt_of_cell? _ _ (hHeld.2.2.2.2.2.2.2.2.2.2.2.2.2.2.2.2.2.2.2.2.1))).trans (hHeld.2.2.2.2.2.2.2.2.2.2.2.2.2.2.2.2.2.2.2.2.1)
          have HS21_ := (hb.cell (World.block_lt_of_cell? _ _ (hHeld.2.2.2.2.2.2.2.2.2.2.2.2.2.2.2.2.2.2.2.2.2.1))).trans (hHeld.2.2.2.2.2.2.2.2.2.2.2.2.2.2.2.2.2.2.2.2.2.1)
          have HS22_ := (hb.cell (World.block_lt_of_cell? _ _ (hHeld.2.2.2.2.2.2.2.2.2.2.2.2.2.2.2.2.2.2.2.2.2.2.1))).trans (hHeld.2.2.2.2.2.2.2.2.2.2.2.2.2.2.2.2.2.2.2.2.2.2.1)
          have HS23_ := (hb.cell (World.block_lt_of_cell? _ _ (hHeld.2.2.2.2.2.2.2.2.2.2.2.2.2.2.2.2.2.2.2.2.2.2.2.1))).trans (hHeld.2.2.2.2.2.2.2.2.2.2.2.2.2.2.2.2.2.2.2.2.2.2.2.1)
          have HS24_ := (hb.cell (World.block_lt_of_cell? _ _ (hHeld.2.2.2.2.2.2.2.2.2.2.2.2.2.2.2.2.2.2.2.2.2.2.2.2.1))).trans (hHeld.2.2.2.2.2.2.2.2.2.2.2.2.2.2.2.2.2.2.2.2.2.2.2.2.1)
          have HS25_ := (hb.cell (World.block_lt_of_cell? _ _ (hHeld.2.2.2.2.2.2.2.2.2.2.2.2.2.2.2.2.2.2.2.2.2.2.2.2.2.1))).trans (hHeld.2.2.2.2.2.2.2.2.2.2.2.2.2.2.2.2.2.2.2.2.2.2.2.2.2.1)
          have HS26_ := (hb.cell (World.block_lt_of_cell? _ _ (hHeld.2.2.2.2.2.2.2.2.2.2.2.2.2.2.2.2.2.2.2.2.2.2.2.2.2.2.1))).trans (hHeld.2.2.2.2.2.2.2.2.2.2.2.2.2.2.2.2.2.2.2.2.2.2.2.2.2.2.1)
          have HS27_ := (hb.cell (World.block_lt_of_cell? _ _ (hHeld.2.2.2.2.2.2.2.2.2.2.2.2.2.2.2.2.2.2.2.2.2.2.2.2.2.2.2.1))).trans (hHeld.2.2.2.2.2.2.2.2.2.2.2.2.2.2.2.2.2.2.2.2.2.2.2.2.2.2.2.1)
          have HS28_ := (hb.cell (World.block_lt_of_cell? _ _ (hHeld.2.2.2.2.2.2.2.2.2.2.2.2.2.2.2.2.2.2.2.2.2.2.2.2.2.2.2.2.1))).trans (hHeld.2.2.2.2.2.2.2.2.2.2.2.2.2.2.2.2.2.2.2.2.2.2.2.2.2.2.2.2.1)
          have HS29_ := (hb.cell (World.block_lt_of_cell? _ _ (hHeld.2.2.2.2.2.2.2.2.2.2.2.2.2.2.2.2.2.2.2.2.2.2.2.2.2.2.2.2.2.1))).trans (hHeld.2.2.2.2.2.2.2.2.2.2.2.2.2.2.2.2.2.2.2.2.2.2.2.2.2.2.2.2.2.1)
          have HS30_ := (hb.cell (World.block_lt_of_cell? _ _ (hHeld.2.2.2.2.2.2.2.2.2.2.2.2.2.2.2.2.2.2.2.2.2.2.2.2.2.2.2.2.2.2.1))).trans (hHeld.2.2.2.2.2.2.2.2.2.2.2.2.2.2.2.2.2.2.2.2.2.2.2.2.2.2.2.2.2.2.1)
          have HS31_ := (hb.cell (World.block_lt_of_cell? _ _ (hHeld.2.2.2.2.2.2.2.2.2.2.2.2.2.2.2.2.2.2.2.2.2.2.2.2.2.2.2.2.2.2.2.1))).trans (hHeld.2.2.2.2.2.2.2.2.2.2.2.2.2.2.2.2.2.2.2.2.2.2.2.2.2.2.2.2.2.2.2.1)
          have HS32_ := (hb.cell (World.block_lt_of_cell? _ _ (hHeld.2.2.2.2.2.2.2.2.2.2.2.2.2.2.2.2.2.2.2.2.2.2.2.2.2.2.2.2.2.2.2.2.1))).trans (hHeld.2.2.2.2.2.2.2.2.2.2.2.2.2.2.2.2.2.2.2.2.2.2.2.2.2.2.2.2.2.2.2.2.1)
          have HS33_ := (hb.cell (World.block_lt_of_cell? _ _ (hHeld.2.2.2.2.2.2.2.2.2.2.2.2.2.2.2.2.2.2.2.2.2.2.2.2.2.2.2.2.2.2.2.2.2.1))).trans (hHeld.2.2.2.2.2.2.2.2.2.2.2.2.2.2.2.2.2.2.2.2.2.2.2.2.2.2.2.2.2.2.2.2.2.1)
          have HS34_ := (hb.cell (World.block_lt_of_cell? _ _ (hHeld.2.2.2.2.2.2.2.2.2.2.2.2.2.2.2.2.2.2.2.2.2.2.2.2.2.2.2.2.2.2.2.2.2.2.1))).trans (hHeld.2.2.2.2.2.2.2.2.2.2.2.2.2.2.2.2.2.2.2.2.2.2.2.2.2.2.2.2.2.2.2.2.2.2.1)
          have HS35_ := (hb.cell (World.block_lt_of_cell? _ _ (hHeld.2.2.2.2.2.2.2.2.2.2.2.2.2.2.2.2.2.2.2.2.2.2.2.2.2.2.2.2.2.2.2.2.2.2.2))).trans (hHeld.2.2.2.2.2.2.2.2.2.2.2.2.2.2.2.2.2.2.2.2.2.2.2.2.2.2.2.2.2.2.2.2.2.2.2)
          refine ⟨_, rfl, ?_⟩
          have n0_ := Aside0.mk (Kd.S_below (by (with_reducible repeat (first | apply Kd.S_alloc | apply Kd.S_drewN | apply Kd.S_drew)); exact HO_3.out) hb)
          have n1_ := Aside0.mk (Kd.S_below (by (with_reducible repeat (first | apply Kd.S_alloc | apply Kd.S_drewN | apply Kd.S_drew)); exact HO_4.out) hb)
          have n2_ := Aside0.mk (Kd.R_below (by (with_reducible repeat (first | apply Kd.R_alloc | apply Kd.R_drewN | apply Kd.R_drew)); exact HL440_6.out) hb)
          have n3_ := Aside0.mk (Kd.R_below (by (with_reducible repeat (first | apply Kd.R_alloc | apply Kd.R_drewN | apply Kd.R_drew)); exact HL440_7.out) hb)
          have n4_ := Aside0.mk (Kd.R_below (by (with_reducible repeat (first | apply Kd.R_alloc | apply Kd.R_drewN | apply Kd.R_drew)); exact HL441_6.out) hb)
          have n5_ := Aside0.mk (Kd.R_below (by (with_reducible repeat (first | apply Kd.R_alloc | apply Kd.R_drewN | apply Kd.R_drew)); exact HL441_7.out) hb)
          have n6_ := Aside0.mk (Kd.R_below (by (with_reducible repeat (first | apply Kd.R_alloc | apply Kd.R_drewN | apply Kd.R_drew)); exact HL442_6.out) hb)
          have n7_ := Aside0.mk (Kd.R_below (by (with_reducible repeat (first | apply Kd.R_alloc | apply Kd.R_drewN | apply Kd.R_drew)); exact HL442_7.out) hb)
          have n8_ := Aside0.mk (Kd.R_below (by (with_reducible repeat (first | apply Kd.R_alloc | apply Kd.R_drewN | apply Kd.R_drew)); exact HL443_6.out) hb)
          have n9_ := Aside0.mk (Kd.R_below (by (with_reducible repeat (first | apply Kd.R_alloc | apply Kd.R_drewN | apply Kd.R_drew)); exact HL443_7.out) hb)
          have n10_ := Aside0.mk (Kd.C_below (by repeat (first | (with_reducible exact HR440_6.out) | (with_reducible refine Kd.C_alloc ?_ _) | (with_reducible refine Kd.C_drewN ?_ _) | (with_reducible refine Kd.C_drew ?_) | exact HR440_6.out)) hb)
          have n11_ := Aside0.mk (Kd.C_below (by repeat (first | (with_reducible exact HR440_7.out) | (with_reducible refine Kd.C_alloc ?_ _) | (with_reducible refine Kd.C_drewN ?_ _) | (with_reducible refine Kd.C_drew ?_) | exact HR440_7.out)) hb)
          have n12_ := Aside0.mk (Kd.C_below (by repeat (first | (with_reducible exact HR441_6.out) | (with_reducible refine Kd.C_alloc ?_ _) | (with_reducible refine Kd.C_drewN ?_ _) | (with_reducible refine Kd.C_drew ?_) | exact HR441_6.out)) hb)
          have n13_ := Aside0.mk (Kd.C_below (by repeat (first | (with_reducible exact HR441_7.out) | (with_reducible refine Kd.C_alloc ?_ _) | (with_reducible refine Kd.C_drewN ?_ _) | (with_reducible refine Kd.C_drew ?_) | exact HR441_7.out)) hb)
          have n14_ := Aside0.mk (Kd.C_below (by repeat (first | (with_reducible exact HR442_6.out) | (with_reducible refine Kd.C_alloc ?_ _) | (with_reducible refine Kd.C_drewN ?_ _) | (with_reducible refine Kd.C_drew ?_) | exact HR442_6.out)) hb)
          have n15_ := Aside0.mk (Kd.C_below (by repeat (first | (with_reducible exact HR442_7.out) | (with_reducible refine Kd.C_alloc ?_ _) | (with_reducible refine Kd.C_drewN ?_ _) | (with_reducible refine Kd.C_drew ?_) | exact HR442_7.out)) hb)
          have n16_ := Aside0.mk (Kd.C_below (by repeat (first | (with_reducible exact HR443_6.out) | (with_reducible refine Kd.C_alloc ?_ _) | (with_reducible refine Kd.C_drewN ?_ _) | (with_reducible refine Kd.C_drew ?_) | exact HR443_6.out)) hb)
          have n17_ := Aside0.mk (Kd.C_below (by repeat (first | (with_reducible exact HR443_7.out) | (with_reducible refine Kd.C_alloc ?_ _) | (with_reducible refine Kd.C_drewN ?_ _) | (with_reducible refine Kd.C_drew ?_) | exact HR443_7.out)) hb)
          have n18_ := Aside0.mk (below_step (by repeat (first | (with_reducible first | exact HB.out | apply below_alloc | apply pw_below_drewN | apply below_drew1) | exact HB.out)) hb)
          clear HO_3
          clear HO_4
          clear HL440_6
          clear HL440_7
          clear HL441_6
          clear HL441_7
          clear HL442_6
          clear HL442_7
          clear HL443_6
          clear HL443_7
          clear HR440_6
          clear HR440_7
          clear HR441_6
          clear HR441_7
          clear HR442_6
          clear HR442_7
          clear HR443_6
          clear HR443_7
          clear HB
          have HO_3 := n0_
          have HO_4 := n1_
          have HL440_6 := n2_
          have HL440_7 := n3_
          have HL441_6 := n4_
          have HL441_7 := n5_
          have HL442_6 := n6_
          have HL442_7 := n7_
          have HL443_6 := n8_
          have HL443_7 := n9_
          have HR440_6 := n10_
          have HR440_7 := n11_
          have HR441_6 := n12_
          have HR441_7 := n13_
          have HR442_6 := n14_
          have HR442_7 := n15_
          have HR443_6 := n16_
          have HR443_7 := n17_
          have HB := n18_
          clear n0_ n1_ n2_ n3_ n4_ n5_ n6_ n7_ n8_ n9_ n10_ n11_ n12_ n13_ n14_ n15_ n16_ n17_ n18_
          (try clear hb)
          (try clear hb2)
          (try clear hk)
          (try clear hi)
          refine hK.out _ _ ⟨HS0_, HS1_, HS2_, HS3_, HS4_, HS5_, HS6_, HS7_, HS8_, HS9_, HS10_, HS11_, HS12_, HS13_, HS14_, HS15_, HS16_, HS17_, HS18_, HS19_, HS20_, HS21_, HS22_, HS23_, HS24_, HS25_, HS26_, HS27_, HS28_, HS29_, HS30_, HS31_, HS32_, HS33_, HS34_, HS35_⟩ (fun hHeld => ?_)
          clear hK K
          refine norm_ (a' := ?_) ?_ ?_
          rotate_left
          ·show Act.put _ (some 47) _ = _
           simp only [Act.put, List.setIfInBounds_toArray, List.set_cons_zero, List.set_cons_succ, i64_w, i32_w]
           rfl
          refine pure_ (i := 23) (N := some 48) (v := ?_) (a' := ?_) #[true, true, true, true, true, true, true, true, true, true, true, true, true, true, true, true, true, true, true, true, true, true, true, true, false] rfl rfl (any_of HT_.out (by kernel_rfl)) (fun _ _ _ h => h) (Or.inl ⟨by rfl, ?_⟩) ?_ ?_
          rotate_left
          ·intro w'
           go_simp
           with_reducible rfl
          rotate_left
          ·simp only [Act.put, List.setIfInBounds_toArray, List.set_cons_zero, List.set_cons_succ, i64_w, i32_w]
           rfl
          refine pure_ (i := 24) (N := some 49) (v := ?_) (a' := ?_) #[true, true, true, true, true, true, true, true, true, true, true, true, true, true, true, true, true, true, true, true, true, true, true, true, true] rfl rfl (any_of HT_.out (by kernel_rfl)) (fun _ _ _ h => h) (Or.inl ⟨by rfl, ?_⟩) ?_ ?_
          rotate_left
          ·intro w'
           go_simp
           with_reducible rfl
          rotate_left
          ·simp only [Act.put, List.setIfInBounds_toArray, List.set_cons_zero, List.set_cons_succ, i64_w, i32_w]
           rfl
          refine done_ (done_of HT_.out (by kernel_rfl)) ?_
          try go_wp2
          go_roundg k1
          case measure => have := HK1.out; omega
          case rel => exact ⟨(wrap64 (x5_1 + 1)), (by first | rfl | (simp; done) | (simp [*]; done)), H', ⟨by have := HK1.out; omega⟩, ⟨by (with_reducible repeat (first | apply Kd.S_alloc | apply Kd.S_drewN | apply Kd.S_drew)); exact HO_3.out⟩, ⟨by (with_reducible repeat (first | apply Kd.S_alloc | apply Kd.S_drewN | apply Kd.S_drew)); exact HO_4.out⟩, ⟨by repeat (first | (with_reducible first | exact HB.out | apply below_alloc | apply pw_below_drewN | apply below_drew1) | exact HB.out)⟩⟩
         ·replace c17 := Bool.eq_false_iff.mpr c17
          subst c17
          have H1 : (some false) = some r := by rw [if_neg (show ¬ (false = true) by decide)] at H; exact H
          clear H
          have H := H1
          clear H1
          obtain rfl := Option.some.inj H
          try go_wp2
          have n0_ := Aside0.mk (Kd.S_drew HO_3.out)
          have n1_ := Aside0.mk (Kd.S_drew HO_4.out)
          have n2_ := Aside0.mk (below_drew1 HB.out)
          clear HO_3
          clear HO_4
          clear HB
          have HO_3 := n0_
          have HO_4 := n1_
          have HB := n2_
          clear n0_ n1_ n2_
          have p440 : 0 ≤ (x5_1 : Int) := of_decide_eq_true (by first | (with_reducible assumption) | assumption)
          have q440 : x5_1 < (t434.length : Int) := of_decide_eq_true (by first | (with_reducible assumption) | assumption)
          obtain ⟨ad440, A440_6, c440_6, A440_7, c440_7, e440, hx440_0, hx440_1, hx440_2, hx440_3, hx440_4, hx440_5, hx440_6, hx440_7, hx440_8, hl440_6, hi440_6, hl440_7, hi440_7⟩ := at_T39 (Kd.S_reads' HO_3.out).2.2 x5_1 p440 q440
          cases e440
          obtain ⟨ce440, hce440, hMe440, hcc440⟩ := Kd.S_get HO_3.out z39 x5_1 p440 (by first | exact q440 | exact of_decide_eq_true (by first | (with_reducible assumption) | assumption) | (have e_ := (Kd.S_reads' HO_3.out).1; omega))
          obtain ⟨ve440_6, ve440_7, rfl, ge440_6, ge440_7⟩ := k39_openM hMe440
          have hv440_6 := hcc440 6 _ rfl
          rw [add_field _ _ 6 (by omega)] at hv440_6
          replace hv440_6 := Option.some.inj (hv440_6.symm.trans hx440_6)
          rw [hv440_6] at ge440_6
          have HL440_6 := Aside0.mk (show Kd.R (Kd.int .i64) 3 _ _ _ _ ((rd_T39 t434 x5_1).f0.f6) from ge440_6)
          clear hv440_6 ge440_6
          have hv440_7 := hcc440 7 _ rfl
          rw [add_field _ _ 7 (by omega)] at hv440_7
          replace hv440_7 := Option.some.inj (hv440_7.symm.trans hx440_7)
          rw [hv440_7] at ge440_7
          have HL440_7 := Aside0.mk (show Kd.R k62 62 _ _ _ _ ((rd_T39 t434 x5_1).f0.f7) from ge440_7)
          clear hv440_7 ge440_7
          clear hcc440 hce440
          have HR440_6 := Aside0.mk hi440_6
          have HC440_6 := Aside0.mk hl440_6
          clear hi440_6 hl440_6
          have HR440_7 := Aside0.mk hi440_7
          have HC440_7 := Aside0.mk hl440_7
          clear hi440_7 hl440_7
          replace p440 := eq_true p440
          replace q440 := eq_true q440
          have p441 : 0 ≤ (x5_1 : Int) := of_decide_eq_true (by first | (with_reducible assumption) | assumption)
          have q441 : x5_1 < (t437.length : Int) := of_decide_eq_true (by first | (with_reducible assumption) | assumption)
          obtain ⟨ad441, A441_6, c441_6, A441_7, c441_7, e441, hx441_0, hx441_1, hx441_2, hx441_3, hx441_4, hx441_5, hx441_6, hx441_7, hx441_8, hl441_6, hi441_6, hl441_7, hi441_7⟩ := at_T46 (Kd.S_reads' HO_4.out).2.2 x5_1 p441 q441
          cases e441
          obtain ⟨ce441, hce441, hMe441, hcc441⟩ := Kd.S_get HO_4.out z46 x5_1 p441 (by first | exact q441 | exact of_decide_eq_true (by first | (with_reducible assumption) | assumption) | (have e_ := (Kd.S_reads' HO_4.out).1; omega))
          obtain ⟨ve441_6, ve441_7, rfl, ge441_6, ge441_7⟩ := k46_openM hMe441
          have hv441_6 := hcc441 6 _ rfl
          rw [add_field _ _ 6 (by omega)] at hv441_6
          replace hv441_6 := Option.some.inj (hv441_6.symm.trans hx441_6)
          rw [hv441_6] at ge441_6
          have HL441_6 := Aside0.mk (show Kd.R (Kd.int .i64) 3 _ _ _ _ ((rd_T46 t437 x5_1).f0.f6) from ge441_6)
          clear hv441_6 ge441_6
          have hv441_7 := hcc441 7 _ rfl
          rw [add_field _ _ 7 (by omega)] at hv441_7
          replace hv441_7 := Option.some.inj (hv441_7.symm.trans hx441_7)
          rw [hv441_7] at ge441_7
          have HL441_7 := Aside0.mk (show Kd.R k62 62 _ _ _ _ ((rd_T46 t437 x5_1).f0.f7) from ge441_7)
          clear hv441_7 ge441_7
          clear hcc441 hce441
          have HR441_6 := Aside0.mk hi441_6
          have HC441_6 := Aside0.mk hl441_6
          clear hi441_6 hl441_6
          have HR441_7 := Aside0.mk hi441_7
          have HC441_7 := Aside0.mk hl441_7
          clear hi441_7 hl441_7
          replace p441 := eq_true p441
          replace q441 := eq_true q441
          have p442 : 0 ≤ (x5_1 : Int) := of_decide_eq_true (by first | (with_reducible assumption) | assumption)
          have q442 : x5_1 < (t434.length : Int) := of_decide_eq_true (by first | (with_reducible assumption) | assumption)
          obtain ⟨ad442, A442_6, c442_6, A442_7, c442_7, e442, hx442_0, hx442_1, hx442_2, hx442_3, hx442_4, hx442_5, hx442_6, hx442_7, hx442_8, hl442_6, hi442_6, hl442_7, hi442_7⟩ := at_T39 (Kd.S_reads' HO_3.out).2.2 x5_1 p442 q442
          obtain rfl : ad440 = ad442 := (by injection e442)
          obtain ⟨ce442, hce442, hMe442, hcc442⟩ := Kd.S_get HO_3.out z39 x5_1 p442 (by first | exact q442 | exact of_decide_eq_true (by first | (with_reducible assumption) | assumption) | (have e_ := (Kd.S_reads' HO_3.out).1; omega))
          obtain ⟨ve442_6, ve442_7, rfl, ge442_6, ge442_7⟩ := k39_openM hMe442
          have hv442_6 := hcc442 6 _ rfl
          rw [add_field _ _ 6 (by omega)] at hv442_6
          replace hv442_6 := Option.some.inj (hv442_6.symm.trans hx442_6)
          rw [hv442_6] at ge442_6
          have HL442_6 := Aside0.mk (show Kd.R (Kd.int .i64) 3 _ _ _ _ ((rd_T39 t434 x5_1).f0.f6) from ge442_6)
          clear hv442_6 ge442_6
          have hv442_7 := hcc442 7 _ rfl
          rw [add_field _ _ 7 (by omega)] at hv442_7
          replace hv442_7 := Option.some.inj (hv442_7.symm.trans hx442_7)
          rw [hv442_7] at ge442_7
          have HL442_7 := Aside0.mk (show Kd.R k62 62 _ _ _ _ ((rd_T39 t434 x5_1).f0.f7) from ge442_7)
          clear hv442_7 ge442_7
          clear hcc442 hce442
          have HR442_6 := Aside0.mk hi442_6
          have HC442_6 := Aside0.mk hl442_6
          clear hi442_6 hl442_6
          have HR442_7 := Aside0.mk hi442_7
          have HC442_7 := Aside0.mk hl442_7
          clear hi442_7 hl442_7
          replace p442 := eq_true p442
          replace q442 := eq_true q442
          have ea_ := Option.some.inj (hx440_6.symm.trans hx442_6)
          injection ea_ with ea_ en_ ec_
          subst ea_
          subst ec_
          clear en_
          have ea_ := Option.some.inj (hx440_7.symm.trans hx442_7)
          injection ea_ with ea_ en_ ec_
          subst ea_
          subst ec_
          clear en_
          have p443 : 0 ≤ (x5_1 : Int) := of_decide_eq_true (by first | (with_reducible assumption) | assumption)
          have q443 : x5_1 < (t437.length : Int) := of_decide_eq_true (by first | (with_reducible assumption) | assumption)
          obtain ⟨ad443, A443_6, c443_6, A443_7, c443_7, e443, hx443_0, hx443_1, hx443_2, hx443_3, hx443_4, hx443_5, hx443_6, hx443_7, hx443_8, hl443_6, hi443_6, hl443_7, hi443_7⟩ := at_T46 (Kd.S_reads' HO_4.out).2.2 x5_1 p443 q443
          obtain rfl : ad441 = ad443 := (by injection e443)
          obtain ⟨ce443, hce443, hMe443, hcc443⟩ := Kd.S_get HO_4.out z46 x5_1 p443 (by first | exact q443 | exact of_decide_eq_true (by first | (with_reducible assumption) | assumption) | (have e_ := (Kd.S_reads' HO_4.out).1; omega))
          obtain ⟨ve443_6, ve443_7, rfl, ge443_6, ge443_7⟩ := k46_openM hMe443
          have hv443_6 := hcc443 6 _ rfl
          rw [add_field _ _ 6 (by omega)] at hv443_6
          replace hv443_6 := Option.some.inj (hv443_6.symm.trans hx443_6)
          rw [hv443_6] at ge443_6
          have HL443_6 := Aside0.mk (show Kd.R (Kd.int .i64) 3 _ _ _ _ ((rd_T46 t437 x5_1).f0.f6) from ge443_6)
          clear hv443_6 ge443_6
          have hv443_7 := hcc443 7 _ rfl
          rw [add_field _ _ 7 (by omega)] at hv443_7
          replace hv443_7 := Option.some.inj (hv443_7.symm.trans hx443_7)
          rw [hv443_7] at ge443_7
          have HL443_7 := Aside0.mk (show Kd.R k62 62 _ _ _ _ ((rd_T46 t437 x5_1).f0.f7) from ge443_7)
          clear hv443_7 ge443_7
          clear hcc443 hce443
          have HR443_6 := Aside0.mk hi443_6
          have HC443_6 := Aside0.mk hl443_6
          clear hi443_6 hl443_6
          have HR443_7 := Aside0.mk hi443_7
          have HC443_7 := Aside0.mk hl443_7
          clear hi443_7 hl443_7
          replace p443 := eq_true p443
          replace q443 := eq_true q443
          have ea_ := Option.some.inj (hx441_6.symm.trans hx443_6)
          injection ea_ with ea_ en_ ec_
          subst ea_
          subst ec_
          clear en_
          have ea_ := Option.some.inj (hx441_7.symm.trans hx443_7)
          injection ea_ with ea_ en_ ec_
          subst ea_
          subst ec_
          clear en_
          refine start_ (n := 25) (S := fun w' => w'.cell? (ad440.add ((x5_1).toNat * 9)) = some (.int .i64 ((rd_T39 t434 x5_1).f0.f0)) ∧ w'.cell? ⟨(ad440.add ((x5_1).toNat * 9)).block, (ad440.add ((x5_1).toNat * 9)).off + 1, none⟩ = some (.int .i64 ((rd_T39 t434 x5_1).f0.f1)) ∧ w'.cell? ⟨(ad440.add ((x5_1).toNat * 9)).block, (ad440.add ((x5_1).toNat * 9)).off + 2, none⟩ = some (.int .i64 ((rd_T39 t434 x5_1).f0.f2)) ∧ w'.cell? ⟨(ad440.add ((x5_1).toNat * 9)).block, (ad440.add ((x5_1).toNat * 9)).off + 3, none⟩ = some (.int .i64 ((rd_T39 t434 x5_1).f0.f3)) ∧ w'.cell? ⟨(ad440.add ((x5_1).toNat * 9)).block, (ad440.add ((x5_1).toNat * 9)).off + 4, none⟩ = some (.int .i64 ((rd_T39 t434 x5_1).f0.f4)) ∧ w'.cell? ⟨(ad440.add ((x5_1).toNat * 9)).block, (ad440.add ((x5_1).toNat * 9)).off + 5, none⟩ = some (.int .i64 ((rd_T39 t434 x5_1).f0.f5)) ∧ w'.cell? ⟨(ad440.add ((x5_1).toNat * 9)).block, (ad440.add ((x5_1).toNat * 9)).off + 6, none⟩ = some (.slice A440_6 ((rd_T39 t434 x5_1).f0.f6).length c440_6) ∧ w'.cell? ⟨(ad440.add ((x5_1).toNat * 9)).block, (ad440.add ((x5_1).toNat * 9)).off + 7, none⟩ = some (.slice A440_7 ((rd_T39 t434 x5_1).f0.f7).length c440_7) ∧ w'.cell? ⟨(ad440.add ((x5_1).toNat * 9)).block, (ad440.add ((x5_1).toNat * 9)).off + 8, none⟩ = some (.int .i64 ((rd_T39 t434 x5_1).f1)) ∧ w'.cell? (ad441.add ((x5_1).toNat * 9)) = some (.int .i64 ((rd_T46 t437 x5_1).f0.f0)) ∧ w'.cell? ⟨(ad441.add ((x5_1).toNat * 9)).block, (ad441.add ((x5_1).toNat * 9)).off + 1, none⟩ = some (.int .i64 ((rd_T46 t437 x5_1).f0.f1)) ∧ w'.cell? ⟨(ad441.add ((x5_1).toNat * 9)).block, (ad441.add ((x5_1).toNat * 9)).off + 2, none⟩ = some (.int .i64 ((rd_T46 t437 x5_1).f0.f2)) ∧ w'.cell? ⟨(ad441.add ((x5_1).toNat * 9)).block, (ad441.add ((x5_1).toNat * 9)).off + 3, none⟩ = some (.int .i64 ((rd_T46 t437 x5_1).f0.f3)) ∧ w'.cell? ⟨(ad441.add ((x5_1).toNat * 9)).block, (ad441.add ((x5_1).toNat * 9)).off + 4, none⟩ = some (.int .i64 ((rd_T46 t437 x5_1).f0.f4)) ∧ w'.cell? ⟨(ad441.add ((x5_1).toNat * 9)).block, (ad441.add ((x5_1).toNat * 9)).off + 5, none⟩ = some (.int .i64 ((rd_T46 t437 x5_1).f0.f5)) ∧ w'.cell? ⟨(ad441.add ((x5_1).toNat * 9)).block, (ad441.add ((x5_1).toNat * 9)).off + 6, none⟩ = some (.slice A441_6 ((rd_T46 t437 x5_1).f0.f6).length c441_6) ∧ w'.cell? ⟨(ad441.add ((x5_1).toNat * 9)).block, (ad441.add ((x5_1).toNat * 9)).off + 7, none⟩ = some (.slice A441_7 ((rd_T46 t437 x5_1).f0.f7).length c441_7) ∧ w'.cell? ⟨(ad441.add ((x5_1).toNat * 9)).block, (ad441.add ((x5_1).toNat * 9)).off + 8, none⟩ = some (.int .i64 ((rd_T46 t437 x5_1).f1)) ∧ w'.cell? (ad440.add ((x5_1).toNat * 9)) = some (.int .i64 ((rd_T39 t434 x5_1).f0.f0)) ∧ w'.cell? ⟨(ad440.add ((x5_1).toNat * 9)).block, (ad440.add ((x5_1).toNat * 9)).off + 1, none⟩ = some (.int .i64 ((rd_T39 t434 x5_1).f0.f1)) ∧ w'.cell? ⟨(ad440.add ((x5_1).toNat * 9)).block, (ad440.add ((x5_1).toNat * 9)).off + 2, none⟩ = some (.int .i64 ((rd_T39 t434 x5_1).f0.f2)) ∧ w'.cell? ⟨(ad440.add ((x5_1).toNat * 9)).block, (ad440.add ((x5_1).toNat * 9)).off + 3, none⟩ = some (.int .i64 ((rd_T39 t434 x5_1).f0.f3)) ∧ w'.cell? ⟨(ad440.add ((x5_1).toNat * 9)).block, (ad440.add ((x5_1).toNat * 9)).off + 4, none⟩ = some (.int .i64 ((rd_T39 t434 x5_1).f0.f4)) ∧ w'.cell? ⟨(ad440.add ((x5_1).toNat * 9)).block, (ad440.add ((x5_1).toNat * 9)).off + 5, none⟩ = some (.int .i64 ((rd_T39 t434 x5_1).f0.f5)) ∧ w'.cell? ⟨(ad440.add ((x5_1).toNat * 9)).block, (ad440.add ((x5_1).toNat * 9)).off + 6, none⟩ = some (.slice A440_6 ((rd_T39 t434 x5_1).f0.f6).length c440_6) ∧ w'.cell? ⟨(ad440.add ((x5_1).toNat * 9)).block, (ad440.add ((x5_1).toNat * 9)).off + 7, none⟩ = some (.slice A440_7 ((rd_T39 t434 x5_1).f0.f7).length c440_7) ∧ w'.cell? ⟨(ad440.add ((x5_1).toNat * 9)).block, (ad440.add ((x5_1).toNat * 9)).off + 8, none⟩ = some (.int .i64 ((rd_T39 t434 x5_1).f1)) ∧ w'.cell? (ad441.add ((x5_1).toNat * 9)) = some (.int .i64 ((rd_T46 t437 x5_1).f0.f0)) ∧ w'.cell? ⟨(ad441.add ((x5_1).toNat * 9)).block, (ad441.add ((x5_1).toNat * 9)).off + 1, none⟩ = some (.int .i64 ((rd_T46 t437 x5_1).f0.f1)) ∧ w'.cell? ⟨(ad441.add ((x5_1).toNat * 9)).block, (ad441.add ((x5_1).toNat * 9)).off + 2, none⟩ = some (.int .i64 ((rd_T46 t437 x5_1).f0.f2)) ∧ w'.cell? ⟨(ad441.add ((x5_1).toNat * 9)).block, (ad441.add ((x5_1).toNat * 9)).off + 3, none⟩ = some (.int .i64 ((rd_T46 t437 x5_1).f0.f3)) ∧ w'.cell? ⟨(ad441.add ((x5_1).toNat * 9)).block, (ad441.add ((x5_1).toNat * 9)).off + 4, none⟩ = some (.int .i64 ((rd_T46 t437 x5_1).f0.f4)) ∧ w'.cell? ⟨(ad441.add ((x5_1).toNat * 9)).block, (ad441.add ((x5_1).toNat * 9)).off + 5, none⟩ = some (.int .i64 ((rd_T46 t437 x5_1).f0.f5)) ∧ w'.cell? ⟨(ad441.add ((x5_1).toNat * 9)).block, (ad441.add ((x5_1).toNat * 9)).off + 6, none⟩ = some (.slice A441_6 ((rd_T46 t437 x5_1).f0.f6).length c441_6) ∧ w'.cell? ⟨(ad441.add ((x5_1).toNat * 9)).block, (ad441.add ((x5_1).toNat * 9)).off + 7, none⟩ = some (.slice A441_7 ((rd_T46 t437 x5_1).f0.f7).length c441_7) ∧ w'.cell? ⟨(ad441.add ((x5_1).toNat * 9)).block, (ad441.add ((x5_1).toNat * 9)).off + 8, none⟩ = some (.int .i64 ((rd_T46 t437 x5_1).f1))) (ds := []) #[false, false, false, false, false, false, false, false, false, false, false, false, false, false, false, false, false, false, false, false, false, false, false, false, false] (by kernel_rfl) rfl rfl ⟨hx440_0, hx440_1, hx440_2, hx440_3, hx440_4, hx440_5, hx440_6, hx440_7, hx440_8, hx441_0, hx441_1, hx441_2, hx441_3, hx441_4, hx441_5, hx441_6, hx441_7, hx441_8, hx442_0, hx442_1, hx442_2, hx442_3, hx442_4, hx442_5, hx442_6, hx442_7, hx442_8, hx443_0, hx443_1, hx443_2, hx443_3, hx443_4, hx443_5, hx443_6, hx443_7, hx443_8⟩ (fun hHeld => ?_); refine with_tabW temperalaw21_CodeReads.tab9 temperalaw21_CodeReads.bits9 (fun HT_ HW_ => ?_)
          generalize wr.drew = w20 at HO_3 HO_4 HB HL440_6 HL440_7 HL441_6 HL441_7 HL442_6 HL442_7 HL443_6 HL443_7 HR440_6 HR440_7 HR441_6 HR441_7 HR442_6 HR442_7 HR443_6 HR443_7 hx440_0 hx440_1 hx440_2 hx440_3 hx440_4 hx440_5 hx440_6 hx440_7 hx440_8 hx441_0 hx441_1 hx441_2 hx441_3 hx441_4 hx441_5 hx441_6 hx441_7 hx441_8 hx442_0 hx442_1 hx442_2 hx442_3 hx442_4 hx442_5 hx442_6 hx442_7 hx442_8 hx443_0 hx443_1 hx443_2 hx443_3 hx443_4 hx443_5 hx443_6 hx443_7 hx443_8 hHeld ⊢
          refine pure_ (i := 0) (N := some 25) (v := ?_) (a' := ?_) #[true, false, false, false, false, false, false, false, false, false, false, false, false, false, false, false, false, false, false, false, false, false, false, false, false] rfl rfl (any_of HT_.out (by kernel_rfl)) (fun _ _ _ h => h) (Or.inl ⟨by rfl, ?_⟩) ?_ ?_
          rotate_left
          ·intro w'
           go_simp
           with_reducible rfl
          rotate_left
          ·simp only [Act.put, List.setIfInBounds_toArray, List.set_cons_zero, List.set_cons_succ, i64_w, i32_w]
           rfl
          refine pure_ (i := 1) (N := some 26) (v := ?_) (a' := ?_) #[true, true, false, false, false, false, false, false, false, false, false, false, false, false, false, false, false, false, false, false, false, false, false, false, false] rfl rfl (any_of HT_.out (by kernel_rfl)) (fun _ _ _ h => h) (Or.inl ⟨by rfl, ?_⟩) ?_ ?_
          rotate_left
          ·intro w'
           go_simp
           with_reducible rfl
          rotate_left
          ·simp only [Act.put, List.setIfInBounds_toArray, List.set_cons_zero, List.set_cons_succ, i64_w, i32_w]
           rfl
          refine pure_ (i := 2) (N := some 27) (v := ?_) (a' := ?_) #[true, true, true, false, false, false, false, false, false, false, false, false, false, false, false, false, false, false, false, false, false, false, false, false, false] rfl rfl (any_of HT_.out (by kernel_rfl)) (fun _ _ _ h => h) (Or.inl ⟨by rfl, ?_⟩) ?_ ?_
          rotate_left
          ·intro w'
           go_simp
           with_reducible rfl
          rotate_left
          ·simp only [Act.put, List.setIfInBounds_toArray, List.set_cons_zero, List.set_cons_succ, i64_w, i32_w]
           rfl
          refine pure_ (i := 3) (N := some 28) (v := ?_) (a' := ?_) #[true, true, true, true, false, false, false, false, false, false, false, false, false, false, false, false, false, false, false, false, false, false, false, false, false] rfl rfl (any_of HT_.out (by kernel_rfl)) (fun _ _ _ h => h) (Or.inl ⟨by rfl, ?_⟩) ?_ ?_
          rotate_left
          ·intro w'
           go_simp
           with_reducible rfl
          rotate_left
          ·simp only [Act.put, List.setIfInBounds_toArray, List.set_cons_zero, List.set_cons_succ, i64_w, i32_w]
           rfl
          refine pure_ (i := 5) (N := some 30) (v := ?_) (a' := ?_) #[true, true, true, true, false, true, false, false, false, false, false, false, false, false, false, false, false, false, false, false, false, false, false, false, false] rfl rfl (any_of HT_.out (by kernel_rfl)) (fun _ _ _ h => h) (Or.inl ⟨by rfl, ?_⟩) ?_ ?_
          rotate_left
          ·intro w'
           go_simp
           with_reducible rfl
          rotate_left
          ·simp only [Act.put, List.setIfInBounds_toArray, List.set_cons_zero, List.set_cons_succ, i64_w, i32_w]
           rfl
          refine pure_ (i := 6) (N := some 31) (v := ?_) (a' := ?_) #[true, true, true, true, false, true, true, false, false, false, false, false, false, false, false, false, false, false, false, false, false, false, false, false, false] rfl rfl (any_of HT_.out (by kernel_rfl)) (fun _ _ _ h => h) (Or.inl ⟨by rfl, ?_⟩) ?_ ?_
          rotate_left
          ·intro w'
           go_simp
           with_reducible rfl
          rotate_left
          ·simp only [Act.put, List.setIfInBounds_toArray, List.set_cons_zero, List.set_cons_succ, i64_w, i32_w]
           rfl
          refine pure_ (i := 7) (N := some 32) (v := ?_) (a' := ?_) #[true, true, true, true, false, true, true, true, false, false, false, false, false, false, false, false, false, false, false, false, false, false, false, false, false] rfl rfl (any_of HT_.out (by kernel_rfl)) (fun _ _ _ h => h) (Or.inl ⟨by rfl, ?_⟩) ?_ ?_
          rotate_left
          ·intro w'
           go_simp
           with_reducible rfl
          rotate_left
          ·simp only [Act.put, List.setIfInBounds_toArray, List.set_cons_zero, List.set_cons_succ, i64_w, i32_w]
           rfl
          refine pure_ (i := 8) (N := some 33) (v := ?_) (a' := ?_) #[true, true, true, true, false, true, true, true, true, false, false, false, false, false, false, false, false, false, false, false, false, false, false, false, false] rfl rfl (any_of HT_.out (by kernel_rfl)) (fun _ _ _ h => h) (Or.inl ⟨by rfl, ?_⟩) ?_ ?_
          rotate_left
          ·intro w'
           go_simp
           with_reducible rfl
          rotate_left
          ·simp only [Act.put, List.setIfInBounds_toArray, List.set_cons_zero, List.set_cons_succ, i64_w, i32_w]
           rfl
          refine take_ (i := 4) (N := some 29) (v := ?_) (a' := ?_) #[true, true, true, true, true, true, true, true, true, false, false, false, false, false, false, false, false, false, false, false, false, false, false, false, false] rfl rfl (take_ofW HT_.out HW_.out (by kernel_rfl)) (fun _ _ _ h => h) (Or.inl ⟨by rfl, ?_⟩) hHeld ?_ ?_
          rotate_left
          ·rintro w' ⟨s0, s1, s2, s3, s4, s5, s6, s7, s8, s9, s10, s11, s12, s13, s14, s15, s16, s17, s18, s19, s20, s21, s22, s23, s24, s25, s26, s27, s28, s29, s30, s31, s32, s33, s34, s35⟩
           go_simp
           with_reducible rfl
          rotate_left
          ·simp only [Act.put, List.setIfInBounds_toArray, List.set_cons_zero, List.set_cons_succ, i64_w, i32_w]
           rfl
          refine take_ (i := 9) (N := some 34) (v := ?_) (a' := ?_) #[true, true, true, true, true, true, true, true, true, true, false, false, false, false, false, false, false, false, false, false, false, false, false, false, false] rfl rfl (take_ofW HT_.out HW_.out (by kernel_rfl)) (fun _ _ _ h => h) (Or.inl ⟨by rfl, ?_⟩) hHeld ?_ ?_
          rotate_left
          ·rintro w' ⟨s0, s1, s2, s3, s4, s5, s6, s7, s8, s9, s10, s11, s12, s13, s14, s15, s16, s17, s18, s19, s20, s21, s22, s23, s24, s25, s26, s27, s28, s29, s30, s31, s32, s33, s34, s35⟩
           go_simp
           with_reducible rfl
          rotate_left
          ·simp only [Act.put, List.setIfInBounds_toArray, List.set_cons_zero, List.set_cons_succ, i64_w, i32_w]
           rfl
          refine pure_ (i := 10) (N := some 35) (v := ?_) (a' := ?_) #[true, true, true, true, true, true, true, true, true, true, true, false, false, false, false, false, false, false, false, false, false, false, false, false, false] rfl rfl (any_of HT_.out (by kernel_rfl)) (fun _ _ _ h => h) (Or.inl ⟨by rfl, ?_⟩) ?_ ?_
          rotate_left
          ·intro w'
           go_simp
           with_reducible rfl
          rotate_left
          ·simp only [Act.put, List.setIfInBounds_toArray, List.set_cons_zero, List.set_cons_succ, i64_w, i32_w]
           rfl
          refine pure_ (i := 11) (N := some 36) (v := ?_) (a' := ?_) #[true, true, true, true, true, true, true, true, true, true, true, true, false, false, false, false, false, false, false, false, false, false, false, false, false] rfl rfl (any_of HT_.out (by kernel_rfl)) (fun _ _ _ h => h) (Or.inl ⟨by rfl, ?_⟩) ?_ ?_
          rotate_left
          ·intro w'
           go_simp
           with_reducible rfl
          rotate_left
          ·simp only [Act.put, List.setIfInBounds_toArray, List.set_cons_zero, List.set_cons_succ, i64_w, i32_w]
           rfl
          refine pure_ (i := 12) (N := some 37) (v := ?_) (a' := ?_) #[true, true, true, true, true, true, true, true, true, true, true, true, true, false, false, false, false, false, false, false, false, false, false, false, false] rfl rfl (any_of HT_.out (by kernel_rfl)) (fun _ _ _ h => h) (Or.inl ⟨by rfl, ?_⟩) ?_ ?_
          rotate_left
          ·intro w'
           go_simp
           with_reducible rfl
          rotate_left
          ·simp only [Act.put, List.setIfInBounds_toArray, List.set_cons_zero, List.set_cons_succ, i64_w, i32_w]
           rfl
          refine pure_ (i := 13) (N := some 38) (v := ?_) (a' := ?_) #[true, true, true, true, true, true, true, true, true, true, true, true, true, true, false, false, false, false, false, false, false, false, false, false, false] rfl rfl (any_of HT_.out (by kernel_rfl)) (fun _ _ _ h => h) (Or.inl ⟨by rfl, ?_⟩) ?_ ?_
          rotate_left
          ·intro w'
           go_simp
           with_reducible rfl
          rotate_left
          ·simp only [Act.put, List.setIfInBounds_toArray, List.set_cons_zero, List.set_cons_succ, i64_w, i32_w]
           rfl
          refine pure_ (i := 14) (N := some 39) (v := ?_) (a' := ?_) #[true, true, true, true, true, true, true, true, true, true, true, true, true, true, true, false, false, false, false, false, false, false, false, false, false] rfl rfl (any_of HT_.out (by kernel_rfl)) (fun _ _ _ h => h) (Or.inl ⟨by rfl, ?_⟩) ?_ ?_
          rotate_left
          ·intro w'
           go_simp
           with_reducible rfl
          rotate_left
          ·simp only [Act.put, List.setIfInBounds_toArray, List.set_cons_zero, List.set_cons_succ, i64_w, i32_w]
           rfl
          refine pure_ (i := 15) (N := some 40) (v := ?_) (a' := ?_) #[true, true, true, true, true, true, true, true, true, true, true, true, true, true, true, true, false, false, false, false, false, false, false, false, false] rfl rfl (any_of HT_.out (by kernel_rfl)) (fun _ _ _ h => h) (Or.inl ⟨by rfl, ?_⟩) ?_ ?_
          rotate_left
          ·intro w'
           go_simp
           with_reducible rfl
          rotate_left
          ·simp only [Act.put, List.setIfInBounds_toArray, List.set_cons_zero, List.set_cons_succ, i64_w, i32_w]
           rfl
          refine pure_ (i := 17) (N := some 42) (v := ?_) (a' := ?_) #[true, true, true, true, true, true, true, true, true, true, true, true, true, true, true, true, false, true, false, false, false, false, false, false, false] rfl rfl (any_of HT_.out (by kernel_rfl)) (fun _ _ _ h => h) (Or.inl ⟨by rfl, ?_⟩) ?_ ?_
          rotate_left
          ·intro w'
           go_simp
           with_reducible rfl
          rotate_left
          ·simp only [Act.put, List.setIfInBounds_toArray, List.set_cons_zero, List.set_cons_succ, i64_w, i32_w]
           rfl
          refine pure_ (i := 18) (N := some 43) (v := ?_) (a' := ?_) #[true, true, true, true, true, true, true, true, true, true, true, true, true, true, true, true, false, true, true, false, false, false, false, false, false] rfl rfl (any_of HT_.out (by kernel_rfl)) (fun _ _ _ h => h) (Or.inl ⟨by rfl, ?_⟩) ?_ ?_
          rotate_left
          ·intro w'
           go_simp
           with_reducible rfl
          rotate_left
          ·simp only [Act.put, List.setIfInBounds_toArray, List.set_cons_zero, List.set_cons_succ, i64_w, i32_w]
           rfl
          refine pure_ (i := 19) (N := some 44) (v := ?_) (a' := ?_) #[true, true, true, true, true, true, true, true, true, true, true, true, true, true, true, true, false, true, true, true, false, false, false, false, false] rfl rfl (any_of HT_.out (by kernel_rfl)) (fun _ _ _ h => h) (Or.inl ⟨by rfl, ?_⟩) ?_ ?_
          rotate_left
          ·intro w'
           go_simp
           with_reducible rfl
          rotate_left
          ·simp only [Act.put, List.setIfInBounds_toArray, List.set_cons_zero, List.set_cons_succ, i64_w, i32_w]
           rfl
          refine pure_ (i := 20) (N := some 45) (v := ?_) (a' := ?_) #[true, true, true, true, true, true, true, true, true, true, true, true, true, true, true, true, false, true, true, true, true, false, false, false, false] rfl rfl (any_of HT_.out (by kernel_rfl)) (fun _ _ _ h => h) (Or.inl ⟨by rfl, ?_⟩) ?_ ?_
          rotate_left
          ·intro w'
           go_simp
           with_reducible rfl
          rotate_left
          ·simp only [Act.put, List.setIfInBounds_toArray, List.set_cons_zero, List.set_cons_succ, i64_w, i32_w]
           rfl
          refine take_ (i := 16) (N := some 41) (v := ?_) (a' := ?_) #[true, true, true, true, true, true, true, true, true, true, true, true, true, true, true, true, true, true, true, true, true, false, false, false, false] rfl rfl (take_ofW HT_.out HW_.out (by kernel_rfl)) (fun _ _ _ h => h) (Or.inl ⟨by rfl, ?_⟩) hHeld ?_ ?_
          rotate_left
          ·rintro w' ⟨s0, s1, s2, s3, s4, s5, s6, s7, s8, s9, s10, s11, s12, s13, s14, s15, s16, s17, s18, s19, s20, s21, s22, s23, s24, s25, s26, s27, s28, s29, s30, s31, s32, s33, s34, s35⟩
           go_simp
           with_reducible rfl
          rotate_left
          ·simp only [Act.put, List.setIfInBounds_toArray, List.set_cons_zero, List.set_cons_succ, i64_w, i32_w]
           rfl
          refine take_ (i := 21) (N := some 46) (v := ?_) (a' := ?_) #[true, true, true, true, true, true, true, true, true, true, true, true, true, true, true, true, true, true, true, true, true, true, false, false, false] rfl rfl (take_ofW HT_.out HW_.out (by kernel_rfl)) (fun _ _ _ h => h) (Or.inl ⟨by rfl, ?_⟩) hHeld ?_ ?_
          rotate_left
          ·rintro w' ⟨s0, s1, s2, s3, s4, s5, s6, s7, s8, s9, s10, s11, s12, s13, s14, s15, s16, s17, s18, s19, s20, s21, s22, s23, s24, s25, s26, s27, s28, s29, s30, s31, s32, s33, s34, s35⟩
           go_simp
           with_reducible rfl
          rotate_left
          ·simp only [Act.put, List.setIfInBounds_toArray, List.set_cons_zero, List.set_cons_succ, i64_w, i32_w]
           rfl
          refine one_ (i := 22) (N := some 47) #[true, true, true, true, true, true, true, true, true, true, true, true, true, true, true, true, true, true, true, true, true, true, true, false, false] rfl rfl (one_of HT_.out (by kernel_rfl)) (by decide) (fun K hK => ?_)
          refine goes_ Try.func13 (by kernel_rfl) rfl #[.agg #[.int .i64 ((rd_T39 t434 x5_1).f0.f0), .int .i64 ((rd_T39 t434 x5_1).f0.f1), .int .i64 ((rd_T39 t434 x5_1).f0.f2), .int .i64 ((rd_T39 t434 x5_1).f0.f3), .int .i64 ((rd_T39 t434 x5_1).f0.f4), .int .i64 ((rd_T39 t434 x5_1).f0.f5), .slice A440_6 ((rd_T39 t434 x5_1).f0.f6).length c440_6, .slice A440_7 ((rd_T39 t434 x5_1).f0.f7).length c440_7], .agg #[.int .i64 ((rd_T46 t437 x5_1).f0.f0), .int .i64 ((rd_T46 t437 x5_1).f0.f1), .int .i64 ((rd_T46 t437 x5_1).f0.f2), .int .i64 ((rd_T46 t437 x5_1).f0.f3), .int .i64 ((rd_T46 t437 x5_1).f0.f4), .int .i64 ((rd_T46 t437 x5_1).f0.f5), .slice A441_6 ((rd_T46 t437 x5_1).f0.f6).length c441_6, .slice A441_7 ((rd_T46 t437 x5_1).f0.f7).length c441_7]] (by rfl) rfl rfl (by (try simp only [List.map_toArray, List.map_cons, List.map_nil]); first | done | rfl | (simp only [List.length_drop, List.length_take]; rfl)) ?_
          with_reducible refine (temperaref20_Same.calls k1 ((rd_T39 t434 x5_1).f0.f0) ((rd_T39 t434 x5_1).f0.f1) ((rd_T39 t434 x5_1).f0.f2) ((rd_T39 t434 x5_1).f0.f3) ((rd_T39 t434 x5_1).f0.f4) ((rd_T39 t434 x5_1).f0.f5) _ _ ((rd_T39 t434 x5_1).f0.f6) _ _ ((rd_T39 t434 x5_1).f0.f7) ((rd_T46 t437 x5_1).f0.f0) ((rd_T46 t437 x5_1).f0.f1) ((rd_T46 t437 x5_1).f0.f2) ((rd_T46 t437 x5_1).f0.f3) ((rd_T46 t437 x5_1).f0.f4) ((rd_T46 t437 x5_1).f0.f5) _ _ ((rd_T46 t437 x5_1).f0.f6) _ _ ((rd_T46 t437 x5_1).f0.f7) false _ ?side1 ?side2 ?side3 ?side4 ?side5 ?side6 ?side7 ?side8 A16.out).mono ?_
          (case side1 => repeat (first | exact (by repeat (first | (with_reducible exact HR442_6.out) | (with_reducible refine Kd.C_alloc ?_ _) | (with_reducible refine Kd.C_drewN ?_ _) | (with_reducible refine Kd.C_drew ?_) | exact HR442_6.out)) | (with_reducible refine Kd.C_alloc ?_ _) | (with_reducible refine Kd.C_drewN ?_ _) | (with_reducible refine Kd.C_drew ?_)))
          (case side2 => exact HC442_6.out)
          (case side3 => repeat (first | exact (by repeat (first | (with_reducible exact HR442_7.out) | (with_reducible refine Kd.C_alloc ?_ _) | (with_reducible refine Kd.C_drewN ?_ _) | (with_reducible refine Kd.C_drew ?_) | exact HR442_7.out)) | (with_reducible refine Kd.C_alloc ?_ _) | (with_reducible refine Kd.C_drewN ?_ _) | (with_reducible refine Kd.C_drew ?_)))
          (case side4 => exact HC442_7.out)
          (case side5 => repeat (first | exact (by repeat (first | (with_reducible exact HR443_6.out) | (with_reducible refine Kd.C_alloc ?_ _) | (with_reducible refine Kd.C_drewN ?_ _) | (with_reducible refine Kd.C_drew ?_) | exact HR443_6.out)) | (with_reducible refine Kd.C_alloc ?_ _) | (with_reducible refine Kd.C_drewN ?_ _) | (with_reducible refine Kd.C_drew ?_)))
          (case side6 => exact HC443_6.out)
          (case side7 => repeat (first | exact (by repeat (first | (with_reducible exact HR443_7.out) | (with_reducible refine Kd.C_alloc ?_ _) | (with_reducible refine Kd.C_drewN ?_ _) | (with_reducible refine Kd.C_drew ?_) | exact HR443_7.out)) | (with_reducible refine Kd.C_alloc ?_ _) | (with_reducible refine Kd.C_drewN ?_ _) | (with_reducible refine Kd.C_drew ?_)))
          (case side8 => exact HC443_7.out)
          rintro e w21 ⟨rfl, hb⟩
          have HS0_ := (hb.cell (World.block_lt_of_cell? _ _ (hHeld.1))).trans (hHeld.1)
          have HS1_ := (hb.cell (World.block_lt_of_cell? _ _ (hHeld.2.1))).trans (hHeld.2.1)
          have HS2_ := (hb.cell (World.block_lt_of_cell? _ _ (hHeld.2.2.1))).trans (hHeld.2.2.1)
          have HS3_ := (hb.cell (World.block_lt_of_cell? _ _ (hHeld.2.2.2.1))).trans (hHeld.2.2.2.1)
          have HS4_ := (hb.cell (World.block_lt_of_cell? _ _ (hHeld.2.2.2.2.1))).trans (hHeld.2.2.2.2.1)
          have HS5_ := (hb.cell (World.block_lt_of_cell? _ _ (hHeld.2.2.2.2.2.1))).trans (hHeld.2.2.2.2.2.1)
          have HS6_ := (hb.cell (World.block_lt_of_cell? _ _ (hHeld.2.2.2.2.2.2.1))).trans (hHeld.2.2.2.2.2.2.1)
          have HS7_ := (hb.cell (World.block_lt_of_cell? _ _ (hHeld.2.2.2.2.2.2.2.1))).trans (hHeld.2.2.2.2.2.2.2.1)
          have HS8_ := (hb.cell (World.block_lt_of_cell? _ _ (hHeld.2.2.2.2.2.2.2.2.1))).trans (hHeld.2.2.2.2.2.2.2.2.1)
          have HS9_ := (hb.cell (World.block_lt_of_cell? _ _ (hHeld.2.2.2.2.2.2.2.2.2.1))).trans (hHeld.2.2.2.2.2.2.2.2.2.1)
          have HS10_ := (hb.cell (World.block_lt_of_cell? _ _ (hHeld.2.2.2.2.2.2.2.2.2.2.1))).trans (hHeld.2.2.2.2.2.2.2.2.2.2.1)
          have HS11_ := (hb.cell (World.block_lt_of_cell? _ _ (hHeld.2.2.2.2.2.2.2.2.2.2.2.1))).trans (hHeld.2.2.2.2.2.2.2.2.2.2.2.1)
          have HS12_ := (hb.cell (World.block_lt_of_cell? _ _ (hHeld.2.2.2.2.2.2.2.2.2.2.2.2.1))).trans (hHeld.2.2.2.2.2.2.2.2.2.2.2.2.1)
          have HS13_ := (hb.cell (World.block_lt_of_cell? _ _ (hHeld.2.2.2.2.2.2.2.2.2.2.2.2.2.1))).trans (hHeld.2.2.2.2.2.2.2.2.2.2.2.2.2.1)
          have HS14_ := (hb.cell (World.block_lt_of_cell? _ _ (hHeld.2.2.2.2.2.2.2.2.2.2.2.2.2.2.1))).trans (hHeld.2.2.2.2.2.2.2.2.2.2.2.2.2.2.1)
          have HS15_ := (hb.cell (World.block_lt_of_cell? _ _ (hHeld.2.2.2.2.2.2.2.2.2.2.2.2.2.2.2.1))).trans (hHeld.2.2.2.2.2.2.2.2.2.2.2.2.2.2.2.1)
          have HS16_ := (hb.cell (World.block_lt_of_cell? _ _ (hHeld.2.2.2.2.2.2.2.2.2.2.2.2.2.2.2.2.1))).trans (hHeld.2.2.2.2.2.2.2.2.2.2.2.2.2.2.2.2.1)
          have HS17_ := (hb.cell (World.block_lt_of_cell? _ _ (hHeld.2.2.2.2.2.2.2.2.2.2.2.2.2.2.2.2.2.1))).trans (hHeld.2.2.2.2.2.2.2.2.2.2.2.2.2.2.2.2.2.1)
          have HS18_ := (hb.cell (World.block_lt_of_cell? _ _ (hHeld.2.2.2.2.2.2.2.2.2.2.2.2.2.2.2.2.2.2.1))).trans (hHeld.2.2.2.2.2.2.2.2.2.2.2.2.2.2.2.2.2.2.1)
          have HS19_ := (hb.cell (World.block_lt_of_cell? _ _ (hHeld.2.2.2.2.2.2.2.2.2.2.2.2.2.2.2.2.2.2.2.1))).trans (hHeld.2.2.2.2.2.2.2.2.2.2.2.2.2.2.2.2.2.2.2.1)
          have HS20_ := (hb.cell (World.block_lt_of_cell? _ _ (hHeld.2.2.2.2.2.2.2.2.2.2.2.2.2.2.2.2.2.2.2.2.1))).trans (hHeld.2.2.2.2.2.2.2.2.2.2.2.2.2.2.2.2.2.2.2.2.1)
          have HS21_ := (hb.cell (World.block_lt_of_cell? _ _ (hHeld.2.2.2.2.2.2.2.2.2.2.2.2.2.2.2.2.2.2.2.2.2.1))).trans (hHeld.2.2.2.2.2.2.2.2.2.2.2.2.2.2.2.2.2.2.2.2.2.1)
          have HS22_ := (hb.cell (World.block_lt_of_cell? _ _ (hHeld.2.2.2.2.2.2.2.2.2.2.2.2.2.2.2.2.2.2.2.2.2.2.1))).trans (hHeld.2.2.2.2.2.2.2.2.2.2.2.2.2.2.2.2.2.2.2.2.2.2.1)
          have HS23_ := (hb.cell (World.block_lt_of_cell? _ _ (hHeld.2.2.2.2.2.2.2.2.2.2.2.2.2.2.2.2.2.2.2.2.2.2.2.1))).trans (hHeld.2.2.2.2.2.2.2.2.2.2.2.2.2.2.2.2.2.2.2.2.2.2.2.1)
          have HS24_ := (hb.cell (World.block_lt_of_cell? _ _ (hHeld.2.2.2.2.2.2.2.2.2.2.2.2.2.2.2.2.2.2.2.2.2.2.2.2.1))).trans (hHeld.2.2.2.2.2.2.2.2.2.2.2.2.2.2.2.2.2.2.2.2.2.2.2.2.1)
          have HS25_ := (hb.cell (World.block_lt_of_cell? _ _ (hHeld.2.2.2.2.2.2.2.2.2.2.2.2.2.2.2.2.2.2.2.2.2.2.2.2.2.1))).trans (hHeld.2.2.2.2.2.2.2.2.2.2.2.2.2.2.2.2.2.2.2.2.2.2.2.2.2.1)
          have HS26_ := (hb.cell (World.block_lt_of_cell? _ _ (hHeld.2.2.2.2.2.2.2.2.2.2.2.2.2.2.2.2.2.2.2.2.2.2.2.2.2.2.1))).trans (hHeld.2.2.2.2.2.2.2.2.2.2.2.2.2.2.2.2.2.2.2.2.2.2.2.2.2.2.1)
          have HS27_ := (hb.cell (World.block_lt_of_cell? _ _ (hHeld.2.2.2.2.2.2.2.2.2.2.2.2.2.2.2.2.2.2.2.2.2.2.2.2.2.2.2.1))).trans (hHeld.2.2.2.2.2.2.2.2.2.2.2.2.2.2.2.2.2.2.2.2.2.2.2.2.2.2.2.1)
          have HS28_ := (hb.cell (World.block_lt_of_cell? _ _ (hHeld.2.2.2.2.2.2.2.2.2.2.2.2.2.2.2.2.2.2.2.2.2.2.2.2.2.2.2.2.1))).trans (hHeld.2.2.2.2.2.2.2.2.2.2.2.2.2.2.2.2.2.2.2.2.2.2.2.2.2.2.2.2.1)
          have HS29_ := (hb.cell (World.block_lt_of_cell? _ _ (hHeld.2.2.2.2.2.2.2.2.2.2.2.2.2.2.2.2.2.2.2.2.2.2.2.2.2.2.2.2.2.1))).trans (hHeld.2.2.2.2.2.2.2.2.2.2.2.2.2.2.2.2.2.2.2.2.2.2.2.2.2.2.2.2.2.1)
          have HS30_ := (hb.cell (World.block_lt_of_cell? _ _ (hHeld.2.2.2.2.2.2.2.2.2.2.2.2.2.2.2.2.2.2.2.2.2.2.2.2.2.2.2.2.2.2.1))).trans (hHeld.2.2.2.2.2.2.2.2.2.2.2.2.2.2.2.2.2.2.2.2.2.2.2.2.2.2.2.2.2.2.1)
          have HS31_ := (hb.cell (World.block_lt_of_cell? _ _ (hHeld.2.2.2.2.2.2.2.2.2.2.2.2.2.2.2.2.2.2.2.2.2.2.2.2.2.2.2.2.2.2.2.1))).trans (hHeld.2.2.2.2.2.2.2.2.2.2.2.2.2.2.2.2.2.2.2.2.2.2.2.2.2.2.2.2.2.2.2.1)
          have HS32_ := (hb.cell (World.block_lt_of_cell? _ _ (hHeld.2.2.2.2.2.2.2.2.2.2.2.2.2.2.2.2.2.2.2.2.2.2.2.2.2.2.2.2.2.2.2.2.1))).trans (hHeld.2.2.2.2.2.2.2.2.2.2.2.2.2.2.2.2.2.2.2.2.2.2.2.2.2.2.2.2.2.2.2.2.1)
          have HS33_ := (hb.cell (World.block_lt_of_cell? _ _ (hHeld.2.2.2.2.2.2.2.2.2.2.2.2.2.2.2.2.2.2.2.2.2.2.2.2.2.2.2.2.2.2.2.2.2.1))).trans (hHeld.2.2.2.2.2.2.2.2.2.2.2.2.2.2.2.2.2.2.2.2.2.2.2.2.2.2.2.2.2.2.2.2.2.1)
          have HS34_ := (hb.cell (World.block_lt_of_cell? _ _ (hHeld.2.2.2.2.2.2.2.2.2.2.2.2.2.2.2.2.2.2.2.2.2.2.2.2.2.2.2.2.2.2.2.2.2.2.1))).trans (hHeld.2.2.2.2.2.2.2.2.2.2.2.2.2.2.2.2.2.2.2.2.2.2.2.2.2.2.2.2.2.2.2.2.2.2.1)
          have HS35_ := (hb.cell (World.block_lt_of_cell? _ _ (hHeld.2.2.2.2.2.2.2.2.2.2.2.2.2.2.2.2.2.2.2.2.2.2.2.2.2.2.2.2.2.2.2.2.2.2.2))).trans (hHeld.2.2.2.2.2.2.2.2.2.2.2.2.2.2.2.2.2.2.2.2.2.2.2.2.2.2.2.2.2.2.2.2.2.2.2)
          refine ⟨_, rfl, ?_⟩
          have n0_ := Aside0.mk (Kd.S_below (by (with_reducible repeat (first | apply Kd.S_alloc | apply Kd.S_drewN | apply Kd.S_drew)); exact HO_3.out) hb)
          have n1_ := Aside0.mk (Kd.S_below (by (with_reducible repeat (first | apply Kd.S_alloc | apply Kd.S_drewN | apply Kd.S_drew)); exact HO_4.out) hb)
          have n2_ := Aside0.mk (Kd.R_below (by (with_reducible repeat (first | apply Kd.R_alloc | apply Kd.R_drewN | apply Kd.R_drew)); exact HL440_6.out) hb)
          have n3_ := Aside0.mk (Kd.R_below (by (with_reducible repeat (first | apply Kd.R_alloc | apply Kd.R_drewN | apply Kd.R_drew)); exact HL440_7.out) hb)
          have n4_ := Aside0.mk (Kd.R_below (by (with_reducible repeat (first | apply Kd.R_alloc | apply Kd.R_drewN | apply Kd.R_drew)); exact HL441_6.out) hb)
          have n5_ := Aside0.mk (Kd.R_below (by (with_reducible repeat (first | apply Kd.R_alloc | apply Kd.R_drewN | apply Kd.R_drew)); exact HL441_7.out) hb)
          have n6_ := Aside0.mk (Kd.R_below (by (with_reducible repeat (first | apply Kd.R_alloc | apply Kd.R_drewN | apply Kd.R_drew)); exact HL442_6.out) hb)
          have n7_ := Aside0.mk (Kd.R_below (by (with_reducible repeat (first | apply Kd.R_alloc | apply Kd.R_drewN | apply Kd.R_drew)); exact HL442_7.out) hb)
          have n8_ := Aside0.mk (Kd.R_below (by (with_reducible repeat (first | apply Kd.R_alloc | apply Kd.R_drewN | apply Kd.R_drew)); exact HL443_6.out) hb)
          have n9_ := Aside0.mk (Kd.R_below (by (with_reducible repeat (first | apply Kd.R_alloc | apply Kd.R_drewN | apply Kd.R_drew)); exact HL443_7.out) hb)
          have n10_ := Aside0.mk (Kd.C_below (by repeat (first | (with_reducible exact HR440_6.out) | (with_reducible refine Kd.C_alloc ?_ _) | (with_reducible refine Kd.C_drewN ?_ _) | (with_reducible refine Kd.C_drew ?_) | exact HR440_6.out)) hb)
          have n11_ := Aside0.mk (Kd.C_below (by repeat (first | (with_reducible exact HR440_7.out) | (with_reducible refine Kd.C_alloc ?_ _) | (with_reducible refine Kd.C_drewN ?_ _) | (with_reducible refine Kd.C_drew ?_) | exact HR440_7.out)) hb)
          have n12_ := Aside0.mk (Kd.C_below (by repeat (first | (with_reducible exact HR441_6.out) | (with_reducible refine Kd.C_alloc ?_ _) | (with_reducible refine Kd.C_drewN ?_ _) | (with_reducible refine Kd.C_drew ?_) | exact HR441_6.out)) hb)
          have n13_ := Aside0.mk (Kd.C_below (by repeat (first | (with_reducible exact HR441_7.out) | (with_reducible refine Kd.C_alloc ?_ _) | (with_reducible refine Kd.C_drewN ?_ _) | (with_reducible refine Kd.C_drew ?_) | exact HR441_7.out)) hb)
          have n14_ := Aside0.mk (Kd.C_below (by repeat (first | (with_reducible exact HR442_6.out) | (with_reducible refine Kd.C_alloc ?_ _) | (with_reducible refine Kd.C_drewN ?_ _) | (with_reducible refine Kd.C_drew ?_) | exact HR442_6.out)) hb)
          have n15_ := Aside0.mk (Kd.C_below (by repeat (first | (with_reducible exact HR442_7.out) | (with_reducible refine Kd.C_alloc ?_ _) | (with_reducible refine Kd.C_drewN ?_ _) | (with_reducible refine Kd.C_drew ?_) | exact HR442_7.out)) hb)
          have n16_ := Aside0.mk (Kd.C_below (by repeat (first | (with_reducible exact HR443_6.out) | (with_reducible refine Kd.C_alloc ?_ _) | (with_reducible refine Kd.C_drewN ?_ _) | (with_reducible refine Kd.C_drew ?_) | exact HR443_6.out)) hb)
          have n17_ := Aside0.mk (Kd.C_below (by repeat (first | (with_reducible exact HR443_7.out) | (with_reducible refine Kd.C_alloc ?_ _) | (with_reducible refine Kd.C_drewN ?_ _) | (with_reducible refine Kd.C_drew ?_) | exact HR443_7.out)) hb)
          have n18_ := Aside0.mk (below_step (by repeat (first | (with_reducible first | exact HB.out | apply below_alloc | apply pw_below_drewN | apply below_drew1) | exact HB.out)) hb)
          clear HO_3
          clear HO_4
          clear HL440_6
          clear HL440_7
          clear HL441_6
          clear HL441_7
          clear HL442_6
          clear HL442_7
          clear HL443_6
          clear HL443_7
          clear HR440_6
          clear HR440_7
          clear HR441_6
          clear HR441_7
          clear HR442_6
          clear HR442_7
          clear HR443_6
          clear HR443_7
          clear HB
          have HO_3 := n0_
          have HO_4 := n1_
          have HL440_6 := n2_
          have HL440_7 := n3_
          have HL441_6 := n4_
          have HL441_7 := n5_
          have HL442_6 := n6_
          have HL442_7 := n7_
          have HL443_6 := n8_
          have HL443_7 := n9_
          have HR440_6 := n10_
          have HR440_7 := n11_
          have HR441_6 := n12_
          have HR441_7 := n13_
          have HR442_6 := n14_
          have HR442_7 := n15_
          have HR443_6 := n16_
          have HR443_7 := n17_
          have HB := n18_
          clear n0_ n1_ n2_ n3_ n4_ n5_ n6_ n7_ n8_ n9_ n10_ n11_ n12_ n13_ n14_ n15_ n16_ n17_ n18_
          (try clear hb)
          (try clear hb2)
          (try clear hk)
          (try clear hi)
          refine hK.out _ _ ⟨HS0_, HS1_, HS2_, HS3_, HS4_, HS5_, HS6_, HS7_, HS8_, HS9_, HS10_, HS11_, HS12_, HS13_, HS14_, HS15_, HS16_, HS17_, HS18_, HS19_, HS20_, HS21_, HS22_, HS23_, HS24_, HS25_, HS26_, HS27_, HS28_, HS29_, HS30_, HS31_, HS32_, HS33_, HS34_, HS35_⟩ (fun hHeld => ?_)
          clear hK K
          refine norm_ (a' := ?_) ?_ ?_
          rotate_left
          ·show Act.put _ (some 47) _ = _
           simp only [Act.put, List.setIfInBounds_toArray, List.set_cons_zero, List.set_cons_succ, i64_w, i32_w]
           rfl
          refine pure_ (i := 23) (N := some 48) (v := ?_) (a' := ?_) #[true, true, true, true, true, true, true, true, true, true, true, true, true, true, true, true, true, true, true, true, true, true, true, true, false] rfl rfl (any_of HT_.out (by kernel_rfl)) (fun _ _ _ h => h) (Or.inl ⟨by rfl, ?_⟩) ?_ ?_
          rotate_left
          ·intro w'
           go_simp
           with_reducible rfl
          rotate_left
          ·simp only [Act.put, List.setIfInBounds_toArray, List.set_cons_zero, List.set_cons_succ, i64_w, i32_w]
           rfl
          refine pure_ (i := 24) (N := some 49) (v := ?_) (a' := ?_) #[true, true, true, true, true, true, true, true, true, true, true, true, true, true, true, true, true, true, true, true, true, true, true, true, true] rfl rfl (any_of HT_.out (by kernel_rfl)) (fun _ _ _ h => h) (Or.inl ⟨by rfl, ?_⟩) ?_ ?_
          rotate_left
          ·intro w'
           go_simp
           with_reducible rfl
          rotate_left
          ·simp only [Act.put, List.setIfInBounds_toArray, List.set_cons_zero, List.set_cons_succ, i64_w, i32_w]
           rfl
          refine done_ (done_of HT_.out (by kernel_rfl)) ?_
          try go_wp2
          go_ret
          exact ⟨by first | rfl | (simp [errW_none, errW_some] <;> rfl) | (simp [*, errW_none, errW_some] <;> rfl), by repeat (first | (with_reducible first | exact HB.out | apply below_alloc | apply pw_below_drewN | apply below_drew1) | exact HB.out)⟩
        ·rw [if_neg c15] at H
         have c15b0 : (((rd_T39 t434 x5_1).f1) == ((rd_T46 t437 x5_1).f1)) = false := beq_eq_false_iff_ne.mpr c15
         have c15b1 : (((rd_T39 t434 x5_1).f1) != ((rd_T46 t437 x5_1).f1)) = true := bne_iff_ne.mpr c15
         obtain rfl := Option.some.inj H
         try go_wp2
         have n0_ := Aside0.mk (Kd.S_drew HO_3.out)
         have n1_ := Aside0.mk (Kd.S_drew HO_4.out)
         have n2_ := Aside0.mk (below_drew1 HB.out)
         clear HO_3
         clear HO_4
         clear HB
         have HO_3 := n0_
         have HO_4 := n1_
         have HB := n2_
         clear n0_ n1_ n2_
         have p440 : 0 ≤ (x5_1 : Int) := of_decide_eq_true (by first | (with_reducible assumption) | assumption)
         have q440 : x5_1 < (t434.length : Int) := of_decide_eq_true (by first | (with_reducible assumption) | assumption)
         obtain ⟨ad440, A440_6, c440_6, A440_7, c440_7, e440, hx440_0, hx440_1, hx440_2, hx440_3, hx440_4, hx440_5, hx440_6, hx440_7, hx440_8, hl440_6, hi440_6, hl440_7, hi440_7⟩ := at_T39 (Kd.S_reads' HO_3.out).2.2 x5_1 p440 q440
         cases e440
         obtain ⟨ce440, hce440, hMe440, hcc440⟩ := Kd.S_get HO_3.out z39 x5_1 p440 (by first | exact q440 | exact of_decide_eq_true (by first | (with_reducible assumption) | assumption) | (have e_ := (Kd.S_reads' HO_3.out).1; omega))
         obtain ⟨ve440_6, ve440_7, rfl, ge440_6, ge440_7⟩ := k39_openM hMe440
         have hv440_6 := hcc440 6 _ rfl
         rw [add_field _ _ 6 (by omega)] at hv440_6
         replace hv440_6 := Option.some.inj (hv440_6.symm.trans hx440_6)
         rw [hv440_6] at ge440_6
         have HL440_6 := Aside0.mk (show Kd.R (Kd.int .i64) 3 _ _ _ _ ((rd_T39 t434 x5_1).f0.f6) from ge440_6)
         clear hv440_6 ge440_6
         have hv440_7 := hcc440 7 _ rfl
         rw [add_field _ _ 7 (by omega)] at hv440_7
         replace hv440_7 := Option.some.inj (hv440_7.symm.trans hx440_7)
         rw [hv440_7] at ge440_7
         have HL440_7 := Aside0.mk (show Kd.R k62 62 _ _ _ _ ((rd_T39 t434 x5_1).f0.f7) from ge440_7)
         clear hv440_7 ge440_7
         clear hcc440 hce440
         have HR440_6 := Aside0.mk hi440_6
         have HC440_6 := Aside0.mk hl440_6
         clear hi440_6 hl440_6
         have HR440_7 := Aside0.mk hi440_7
         have HC440_7 := Aside0.mk hl440_7
         clear hi440_7 hl440_7
         replace p440 := eq_true p440
         replace q440 := eq_true q440
         have p441 : 0 ≤ (x5_1 : Int) := of_decide_eq_true (by first | (with_reducible assumption) | assumption)
         have q441 : x5_1 < (t437.length : Int) := of_decide_eq_true (by first | (with_reducible assumption) | assumption)
         obtain ⟨ad441, A441_6, c441_6, A441_7, c441_7, e441, hx441_0, hx441_1, hx441_2, hx441_3, hx441_4, hx441_5, hx441_6, hx441_7, hx441_8, hl441_6, hi441_6, hl441_7, hi441_7⟩ := at_T46 (Kd.S_reads' HO_4.out).2.2 x5_1 p441 q441
         cases e441
         obtain ⟨ce441, hce441, hMe441, hcc441⟩ := Kd.S_get HO_4.out z46 x5_1 p441 (by first | exact q441 | exact of_decide_eq_true (by first | (with_reducible assumption) | assumption) | (have e_ := (Kd.S_reads' HO_4.out).1; omega))
         obtain ⟨ve441_6, ve441_7, rfl, ge441_6, ge441_7⟩ := k46_openM hMe441
         have hv441_6 := hcc441 6 _ rfl
         rw [add_field _ _ 6 (by omega)] at hv441_6
         replace hv441_6 := Option.some.inj (hv441_6.symm.trans hx441_6)
         rw [hv441_6] at ge441_6
         have HL441_6 := Aside0.mk (show Kd.R (Kd.int .i64) 3 _ _ _ _ ((rd_T46 t437 x5_1).f0.f6) from ge441_6)
         clear hv441_6 ge441_6
         have hv441_7 := hcc441 7 _ rfl
         rw [add_field _ _ 7 (by omega)] at hv441_7
         replace hv441_7 := Option.some.inj (hv441_7.symm.trans hx441_7)
         rw [hv441_7] at ge441_7
         have HL441_7 := Aside0.mk (show Kd.R k62 62 _ _ _ _ ((rd_T46 t437 x5_1).f0.f7) from ge441_7)
         clear hv441_7 ge441_7
         clear hcc441 hce441
         have HR441_6 := Aside0.mk hi441_6
         have HC441_6 := Aside0.mk hl441_6
         clear hi441_6 hl441_6
         have HR441_7 := Aside0.mk hi441_7
         have HC441_7 := Aside0.mk hl441_7
         clear hi441_7 hl441_7
         replace p441 := eq_true p441
         replace q441 := eq_true q441
         refine start_ (n := 25) (S := fun w' => w'.cell? (ad440.add ((x5_1).toNat * 9)) = some (.int .i64 ((rd_T39 t434 x5_1).f0.f0)) ∧ w'.cell? ⟨(ad440.add ((x5_1).toNat * 9)).block, (ad440.add ((x5_1).toNat * 9)).off + 1, none⟩ = some (.int .i64 ((rd_T39 t434 x5_1).f0.f1)) ∧ w'.cell? ⟨(ad440.add ((x5_1).toNat * 9)).block, (ad440.add ((x5_1).toNat * 9)).off + 2, none⟩ = some (.int .i64 ((rd_T39 t434 x5_1).f0.f2)) ∧ w'.cell? ⟨(ad440.add ((x5_1).toNat * 9)).block, (ad440.add ((x5_1).toNat * 9)).off + 3, none⟩ = some (.int .i64 ((rd_T39 t434 x5_1).f0.f3)) ∧ w'.cell? ⟨(ad440.add ((x5_1).toNat * 9)).block, (ad440.add ((x5_1).toNat * 9)).off + 4, none⟩ = some (.int .i64 ((rd_T39 t434 x5_1).f0.f4)) ∧ w'.cell? ⟨(ad440.add ((x5_1).toNat * 9)).block, (ad440.add ((x5_1).toNat * 9)).off + 5, none⟩ = some (.int .i64 ((rd_T39 t434 x5_1).f0.f5)) ∧ w'.cell? ⟨(ad440.add ((x5_1).toNat * 9)).block, (ad440.add ((x5_1).toNat * 9)).off + 6, none⟩ = some (.slice A440_6 ((rd_T39 t434 x5_1).f0.f6).length c440_6) ∧ w'.cell? ⟨(ad440.add ((x5_1).toNat * 9)).block, (ad440.add ((x5_1).toNat * 9)).off + 7, none⟩ = some (.slice A440_7 ((rd_T39 t434 x5_1).f0.f7).length c440_7) ∧ w'.cell? ⟨(ad440.add ((x5_1).toNat * 9)).block, (ad440.add ((x5_1).toNat * 9)).off + 8, none⟩ = some (.int .i64 ((rd_T39 t434 x5_1).f1)) ∧ w'.cell? (ad441.add ((x5_1).toNat * 9)) = some (.int .i64 ((rd_T46 t437 x5_1).f0.f0)) ∧ w'.cell? ⟨(ad441.add ((x5_1).toNat * 9)).block, (ad441.add ((x5_1).toNat * 9)).off + 1, none⟩ = some (.int .i64 ((rd_T46 t437 x5_1).f0.f1)) ∧ w'.cell? ⟨(ad441.add ((x5_1).toNat * 9)).block, (ad441.add ((x5_1).toNat * 9)).off + 2, none⟩ = some (.int .i64 ((rd_T46 t437 x5_1).f0.f2)) ∧ w'.cell? ⟨(ad441.add ((x5_1).toNat * 9)).block, (ad441.add ((x5_1).toNat * 9)).off + 3, none⟩ = some (.int .i64 ((rd_T46 t437 x5_1).f0.f3)) ∧ w'.cell? ⟨(ad441.add ((x5_1).toNat * 9)).block, (ad441.add ((x5_1).toNat * 9)).off + 4, none⟩ = some (.int .i64 ((rd_T46 t437 x5_1).f0.f4)) ∧ w'.cell? ⟨(ad441.add ((x5_1).toNat * 9)).block, (ad441.add ((x5_1).toNat * 9)).off + 5, none⟩ = some (.int .i64 ((rd_T46 t437 x5_1).f0.f5)) ∧ w'.cell? ⟨(ad441.add ((x5_1).toNat * 9)).block, (ad441.add ((x5_1).toNat * 9)).off + 6, none⟩ = some (.slice A441_6 ((rd_T46 t437 x5_1).f0.f6).length c441_6) ∧ w'.cell? ⟨(ad441.add ((x5_1).toNat * 9)).block, (ad441.add ((x5_1).toNat * 9)).off + 7, none⟩ = some (.slice A441_7 ((rd_T46 t437 x5_1).f0.f7).length c441_7) ∧ w'.cell? ⟨(ad441.add ((x5_1).toNat * 9)).block, (ad441.add ((x5_1).toNat * 9)).off + 8, none⟩ = some (.int .i64 ((rd_T46 t437 x5_1).f1))) (ds := []) #[false, false, false, false, false, false, false, false, false, false, false, false, false, false, false, false, false, false, false, false, false, false, false, false, false] (by kernel_rfl) rfl rfl ⟨hx440_0, hx440_1, hx440_2, hx440_3, hx440_4, hx440_5, hx440_6, hx440_7, hx440_8, hx441_0, hx441_1, hx441_2, hx441_3, hx441_4, hx441_5, hx441_6, hx441_7, hx441_8⟩ (fun hHeld => ?_); refine with_tabW temperalaw21_CodeReads.tab9 temperalaw21_CodeReads.bits9 (fun HT_ HW_ => ?_)
         generalize wr.drew = w22 at HO_3 HO_4 HB HL440_6 HL440_7 HL441_6 HL441_7 HR440_6 HR440_7 HR441_6 HR441_7 hx440_0 hx440_1 hx440_2 hx440_3 hx440_4 hx440_5 hx440_6 hx440_7 hx440_8 hx441_0 hx441_1 hx441_2 hx441_3 hx441_4 hx441_5 hx441_6 hx441_7 hx441_8 hHeld ⊢
         refine pure_ (i := 0) (N := some 25) (v := ?_) (a' := ?_) #[true, false, false, false, false, false, false, false, false, false, false, false, false, false, false, false, false, false, false, false, false, false, false, false, false] rfl rfl (any_of HT_.out (by kernel_rfl)) (fun _ _ _ h => h) (Or.inl ⟨by rfl, ?_⟩) ?_ ?_
         rotate_left
         ·intro w'
          go_simp
          with_reducible rfl
         rotate_left
         ·simp only [Act.put, List.setIfInBounds_toArray, List.set_cons_zero, List.set_cons_succ, i64_w, i32_w]
          rfl
         refine pure_ (i := 1) (N := some 26) (v := ?_) (a' := ?_) #[true, true, false, false, false, false, false, false, false, false, false, false, false, false, false, false, false, false, false, false, false, false, false, false, false] rfl rfl (any_of HT_.out (by kernel_rfl)) (fun _ _ _ h => h) (Or.inl ⟨by rfl, ?_⟩) ?_ ?_
         rotate_left
         ·intro w'
          go_simp
          with_reducible rfl
         rotate_left
         ·simp only [Act.put, List.setIfInBounds_toArray, List.set_cons_zero, List.set_cons_succ, i64_w, i32_w]
          rfl
         refine pure_ (i := 2) (N := some 27) (v := ?_) (a' := ?_) #[true, true, true, false, false, false, false, false, false, false, false, false, false, false, false, false, false, false, false, false, false, false, false, false, false] rfl rfl (any_of HT_.out (by kernel_rfl)) (fun _ _ _ h => h) (Or.inl ⟨by rfl, ?_⟩) ?_ ?_
         rotate_left
         ·intro w'
          go_simp
          with_reducible rfl
         rotate_left
         ·simp only [Act.put, List.setIfInBounds_toArray, List.set_cons_zero, List.set_cons_succ, i64_w, i32_w]
          rfl
         refine pure_ (i := 3) (N := some 28) (v := ?_) (a' := ?_) #[true, true, true, true, false, false, false, false, false, false, false, false, false, false, false, false, false, false, false, false, false, false, false, false, false] rfl rfl (any_of HT_.out (by kernel_rfl)) (fun _ _ _ h => h) (Or.inl ⟨by rfl, ?_⟩) ?_ ?_
         rotate_left
         ·intro w'
          go_simp
          with_reducible rfl
         rotate_left
         ·simp only [Act.put, List.setIfInBounds_toArray, List.set_cons_zero, List.set_cons_succ, i64_w, i32_w]
          rfl
         refine pure_ (i := 5) (N := some 30) (v := ?_) (a' := ?_) #[true, true, true, true, false, true, false, false, false, false, false, false, false, false, false, false, false, false, false, false, false, false, false, false, false] rfl rfl (any_of HT_.out (by kernel_rfl)) (fun _ _ _ h => h) (Or.inl ⟨by rfl, ?_⟩) ?_ ?_
         rotate_left
         ·intro w'
          go_simp
          with_reducible rfl
         rotate_left
         ·simp only [Act.put, List.setIfInBounds_toArray, List.set_cons_zero, List.set_cons_succ, i64_w, i32_w]
          rfl
         refine pure_ (i := 6) (N := some 31) (v := ?_) (a' := ?_) #[true, true, true, true, false, true, true, false, false, false, false, false, false, false, false, false, false, false, false, false, false, false, false, false, false] rfl rfl (any_of HT_.out (by kernel_rfl)) (fun _ _ _ h => h) (Or.inl ⟨by rfl, ?_⟩) ?_ ?_
         rotate_left
         ·intro w'
          go_simp
          with_reducible rfl
         rotate_left
         ·simp only [Act.put, List.setIfInBounds_toArray, List.set_cons_zero, List.set_cons_succ, i64_w, i32_w]
          rfl
         refine pure_ (i := 7) (N := some 32) (v := ?_) (a' := ?_) #[true, true, true, true, false, true, true, true, false, false, false, false, false, false, false, false, false, false, false, false, false, false, false, false, false] rfl rfl (any_of HT_.out (by kernel_rfl)) (fun _ _ _ h => h) (Or.inl ⟨by rfl, ?_⟩) ?_ ?_
         rotate_left
         ·intro w'
          go_simp
          with_reducible rfl
         rotate_left
         ·simp only [Act.put, List.setIfInBounds_toArray, List.set_cons_zero, List.set_cons_succ, i64_w, i32_w]
          rfl
         refine pure_ (i := 8) (N := some 33) (v := ?_) (a' := ?_) #[true, true, true, true, false, true, true, true, true, false, false, false, false, false, false, false, false, false, false, false, false, false, false, false, false] rfl rfl (any_of HT_.out (by kernel_rfl)) (fun _ _ _ h => h) (Or.inl ⟨by rfl, ?_⟩) ?_ ?_
         rotate_left
         ·intro w'
          go_simp
          with_reducible rfl
         rotate_left
         ·simp only [Act.put, List.setIfInBounds_toArray, List.set_cons_zero, List.set_cons_succ, i64_w, i32_w]
          rfl
         refine take_ (i := 4) (N := some 29) (v := ?_) (a' := ?_) #[true, true, true, true, true, true, true, true, true, false, false, false, false, false, false, false, false, false, false, false, false, false, false, false, false] rfl rfl (take_ofW HT_.out HW_.out (by kernel_rfl)) (fun _ _ _ h => h) (Or.inl ⟨by rfl, ?_⟩) hHeld ?_ ?_
         rotate_left
         ·rintro w' ⟨s0, s1, s2, s3, s4, s5, s6, s7, s8, s9, s10, s11, s12, s13, s14, s15, s16, s17⟩
          go_simp
          with_reducible rfl
         rotate_left
         ·simp only [Act.put, List.setIfInBounds_toArray, List.set_cons_zero, List.set_cons_succ, i64_w, i32_w]
          rfl
         refine take_ (i := 9) (N := some 34) (v := ?_) (a' := ?_) #[true, true, true, true, true, true, true, true, true, true, false, false, false, false, false, false, false, false, false, false, false, false, false, false, false] rfl rfl (take_ofW HT_.out HW_.out (by kernel_rfl)) (fun _ _ _ h => h) (Or.inl ⟨by rfl, ?_⟩) hHeld ?_ ?_
         rotate_left
         ·rintro w' ⟨s0, s1, s2, s3, s4, s5, s6, s7, s8, s9, s10, s11, s12, s13, s14, s15, s16, s17⟩
          go_simp
          with_reducible rfl
         rotate_left
         ·simp only [Act.put, List.setIfInBounds_toArray, List.set_cons_zero, List.set_cons_succ, i64_w, i32_w]
          rfl
         refine pure_ (i := 10) (N := some 35) (v := ?_) (a' := ?_) #[true, true, true, true, true, true, true, true, true, true, true, false, false, false, false, false, false, false, false, false, false, false, false, false, false] rfl rfl (any_of HT_.out (by kernel_rfl)) (fun _ _ _ h => h) (Or.inl ⟨by rfl, ?_⟩) ?_ ?_
         rotate_left
         ·intro w'
          go_simp
          with_reducible rfl
         rotate_left
         ·simp only [Act.put, List.setIfInBounds_toArray, List.set_cons_zero, List.set_cons_succ, i64_w, i32_w]
          rfl
         refine pure_ (i := 11) (N := some 36) (v := ?_) (a' := ?_) #[true, true, true, true, true, true, true, true, true, true, true, true, false, false, false, false, false, false, false, false, false, false, false, false, false] rfl rfl (any_of HT_.out (by kernel_rfl)) (fun _ _ _ h => h) (Or.inl ⟨by rfl, ?_⟩) ?_ ?_
         rotate_left
         ·intro w'
          go_simp
          with_reducible rfl
         rotate_left
         ·simp only [Act.put, List.setIfInBounds_toArray, List.set_cons_zero, List.set_cons_succ, i64_w, i32_w]
          rfl
         refine pure_ (i := 12) (N := some 37) (v := undef) (a' := ?_) #[true, true, true, true, true, true, true, true, true, true, true, true, true, false, false, false, false, false, false, false, false, false, false, false, false] rfl rfl (any_of HT_.out (by kernel_rfl)) (fun _ _ _ h => h) (Or.inr ⟨by rfl, rfl⟩) ?_ ?_
         rotate_left
         ·simp only [Act.put, List.setIfInBounds_toArray, List.set_cons_zero, List.set_cons_succ, i64_w, i32_w]
          rfl
         refine pure_ (i := 13) (N := some 38) (v := undef) (a' := ?_) #[true, true, true, true, true, true, true, true, true, true, true, true, true, true, false, false, false, false, false, false, false, false, false, false, false] rfl rfl (any_of HT_.out (by kernel_rfl)) (fun _ _ _ h => h) (Or.inr ⟨by rfl, rfl⟩) ?_ ?_
         rotate_left
         ·simp only [Act.put, List.setIfInBounds_toArray, List.set_cons_zero, List.set_cons_succ, i64_w, i32_w]
          rfl
         refine pure_ (i := 14) (N := some 39) (v := undef) (a' := ?_) #[true, true, true, true, true, true, true, true, true, true, true, true, true, true, true, false, false, false, false, false, false, false, false, false, false] rfl rfl (any_of HT_.out (by kernel_rfl)) (fun _ _ _ h => h) (Or.inr ⟨by rfl, rfl⟩) ?_ ?_
         rotate_left
         ·simp only [Act.put, List.setIfInBounds_toArray, List.set_cons_zero, List.set_cons_succ, i64_w, i32_w]
          rfl
         refine pure_ (i := 15) (N := some 40) (v := undef) (a' := ?_) #[true, true, true, true, true, true, true, true, true, true, true, true, true, true, true, true, false, false, false, false, false, false, false, false, false] rfl rfl (any_of HT_.out (by kernel_rfl)) (fun _ _ _ h => h) (Or.inr ⟨by rfl, rfl⟩) ?_ ?_
         rotate_left
         ·simp only [Act.put, List.setIfInBounds_toArray, List.set_cons_zero, List.set_cons_succ, i64_w, i32_w]
          rfl
         refine pure_ (i := 16) (N := some 41) (v := undef) (a' := ?_) #[true, true, true, true, true, true, true, true, true, true, true, true, true, true, true, true, true, false, false, false, false, false, false, false, false] rfl rfl (any_of HT_.out (by kernel_rfl)) (fun _ _ _ h => h) (Or.inr ⟨by rfl, rfl⟩) ?_ ?_
         rotate_left
         ·simp only [Act.put, List.setIfInBounds_toArray, List.set_cons_zero, List.set_cons_succ, i64_w, i32_w]
          rfl
         refine pure_ (i := 17) (N := some 42) (v := undef) (a' := ?_) #[true, true, true, true, true, true, true, true, true, true, true, true, true, true, true, true, true, true, false, false, false, false, false, false, false] rfl rfl (any_of HT_.out (by kernel_rfl)) (fun _ _ _ h => h) (Or.inr ⟨by rfl, rfl⟩) ?_ ?_
         rotate_left
         ·simp only [Act.put, List.setIfInBounds_toArray, List.set_cons_zero, List.set_cons_succ, i64_w, i32_w]
          rfl
         refine pure_ (i := 18) (N := some 43) (v := undef) (a' := ?_) #[true, true, true, true, true, true, true, true, true, true, true, true, true, true, true, true, true, true, true, false, false, false, false, false, false] rfl rfl (any_of HT_.out (by kernel_rfl)) (fun _ _ _ h => h) (Or.inr ⟨by rfl, rfl⟩) ?_ ?_
         rotate_left
         ·simp only [Act.put, List.setIfInBounds_toArray, List.set_cons_zero, List.set_cons_succ, i64_w, i32_w]
          rfl
         refine pure_ (i := 19) (N := some 44) (v := undef) (a' := ?_) #[true, true, true, true, true, true, true, true, true, true, true, true, true, true, true, true, true, true, true, true, false, false, false, false, false] rfl rfl (any_of HT_.out (by kernel_rfl)) (fun _ _ _ h => h) (Or.inr ⟨by rfl, rfl⟩) ?_ ?_
         rotate_left
         ·simp only [Act.put, List.setIfInBounds_toArray, List.set_cons_zero, List.set_cons_succ, i64_w, i32_w]
          rfl
         refine pure_ (i := 20) (N := some 45) (v := undef) (a' := ?_) #[true, true, true, true, true, true, true, true, true, true, true, true, true, true, true, true, true, true, true, true, true, false, false, false, false] rfl rfl (any_of HT_.out (by kernel_rfl)) (fun _ _ _ h => h) (Or.inr ⟨by rfl, rfl⟩) ?_ ?_
         rotate_left
         ·simp only [Act.put, List.setIfInBounds_toArray, List.set_cons_zero, List.set_cons_succ, i64_w, i32_w]
          rfl
         refine pure_ (i := 21) (N := some 46) (v := undef) (a' := ?_) #[true, true, true, true, true, true, true, true, true, true, true, true, true, true, true, true, true, true, true, true, true, true, false, false, false] rfl rfl (any_of HT_.out (by kernel_rfl)) (fun _ _ _ h => h) (Or.inr ⟨by rfl, rfl⟩) ?_ ?_
         rotate_left
         ·simp only [Act.put, List.setIfInBounds_toArray, List.set_cons_zero, List.set_cons_succ, i64_w, i32_w]
          rfl
         refine pure_ (i := 22) (N := some 47) (v := undef) (a' := ?_) #[true, true, true, true, true, true, true, true, true, true, true, true, true, true, true, true, true, true, true, true, true, true, true, false, false] rfl rfl (any_of HT_.out (by kernel_rfl)) (fun _ _ _ h => h) (Or.inr ⟨by rfl, rfl⟩) ?_ ?_
         rotate_left
         ·simp only [Act.put, List.setIfInBounds_toArray, List.set_cons_zero, List.set_cons_succ, i64_w, i32_w]
          rfl
         refine pure_ (i := 23) (N := some 48) (v := undef) (a' := ?_) #[true, true, true, true, true, true, true, true, true, true, true, true, true, true, true, true, true, true, true, true, true, true, true, true, false] rfl rfl (any_of HT_.out (by kernel_rfl)) (fun _ _ _ h => h) (Or.inr ⟨by rfl, rfl⟩) ?_ ?_
         rotate_left
         ·simp only [Act.put, List.setIfInBounds_toArray, List.set_cons_zero, List.set_cons_succ, i64_w, i32_w]
          rfl
         refine pure_ (i := 24) (N := some 49) (v := ?_) (a' := ?_) #[true, true, true, true, true, true, true, true, true, true, true, true, true, true, true, true, true, true, true, true, true, true, true, true, true] rfl rfl (any_of HT_.out (by kernel_rfl)) (fun _ _ _ h => h) (Or.inl ⟨by rfl, ?_⟩) ?_ ?_
         rotate_left
         ·intro w'
          go_simp
          with_reducible rfl
         rotate_left
         ·simp only [Act.put, List.setIfInBounds_toArray, List.set_cons_zero, List.set_cons_succ, i64_w, i32_w]
          rfl
         refine done_ (done_of HT_.out (by kernel_rfl)) ?_
         try go_wp2
         go_ret
         exact ⟨by first | rfl | (simp [errW_none, errW_some] <;> rfl) | (simp [*, errW_none, errW_some] <;> rfl), by repeat (first | (with_reducible first | exact HB.out | apply below_alloc | apply pw_below_drewN | apply below_drew1) | exact HB.out)⟩
       ·rw [if_neg c14] at H
        exact absurd H (by simp)
      ·rw [if_neg c13] at H
       exact absurd H (by simp)
     ·rw [if_neg c12] at H
      have c12b0 : decide (x5_1 < (t434.length : Int)) = false := decide_eq_false c12
      clear c12
      replace H := Option.bind_eq_some_iff.mp H
      obtain ⟨t445, A230, H⟩ := H
      replace H : (some t445) = some r := H
      have A23 := Aside0.mk A230
      clear A230
      obtain rfl := Option.some.inj H
      go_wp2_with (first | ((with_reducible refine gate_callee (f := 7) rfl ?_); refine goesL_ (some 50) rfl rfl Try.func7 (by kernel_rfl) rfl #[] rfl (by (try simp only [List.map_toArray, List.map_cons, List.map_nil]); first | done | rfl | (simp only [List.length_drop, List.length_take]; rfl)) ?_; (with_reducible refine (temperalaw21_awake.calls k1  t445 _ A23.out).mono ?_); rintro e w24 ⟨rfl, hb⟩; refine ⟨_, rfl, ?_⟩; have n0_ := Aside0.mk (Kd.S_below (by (with_reducible repeat (first | apply Kd.S_alloc | apply Kd.S_drewN | apply Kd.S_drew)); exact HO_3.out) hb); have n1_ := Aside0.mk (Kd.S_below (by (with_reducible repeat (first | apply Kd.S_alloc | apply Kd.S_drewN | apply Kd.S_drew)); exact HO_4.out) hb); have n2_ := Aside0.mk (below_step (by repeat (first | (with_reducible first | exact HB.out | apply below_alloc | apply pw_below_drewN | apply below_drew1) | exact HB.out)) hb); clear HO_3; clear HO_4; clear HB; have HO_3 := n0_; have HO_4 := n1_; have HB := n2_; clear n0_ n1_ n2_; (try clear hb); (try clear hb2); (try clear hk); (try clear hi)))
      go_ret
      exact ⟨by first | rfl | (simp [errW_none, errW_some] <;> rfl) | (simp [*, errW_none, errW_some] <;> rfl), by repeat (first | (with_reducible first | exact HB.out | apply below_alloc | apply pw_below_drewN | apply below_drew1) | exact HB.out)⟩
  ·rw [if_neg c7] at H
   have c7b0 : ((t434.length : Int) == (t437.length : Int)) = false := beq_eq_false_iff_ne.mpr c7
   have c7b1 : ((t434.length : Int) != (t437.length : Int)) = true := bne_iff_ne.mpr c7
   have c7b2 : (t434.length == t437.length) = false := by first | simpa using c7 | (simp at c7 ⊢; omega)
   obtain rfl := Option.some.inj H
   go_enter Try.func4, Try.ntmps4
   go_wp2_with (first | ((with_reducible refine gate_callee (f := 10) rfl ?_); refine goesL_ (some 11) rfl rfl Try.func10 (by kernel_rfl) rfl #[.slice A0 l0.length c0] rfl (by (try simp only [List.map_toArray, List.map_cons, List.map_nil]); first | done | rfl | (simp only [List.length_drop, List.length_take]; rfl)) ?_; (with_reducible refine (code_Decode.calls _ _ l0 t434 _ ?side1 ?side2 A5.out).mono ?_); (case side1 => repeat (first | exact HR0.out | (with_reducible refine Kd.C_alloc ?_ _) | (with_reducible refine Kd.C_drewN ?_ _) | (with_reducible refine Kd.C_drew ?_))); (case side2 => exact HC0.out); rintro e w25 ⟨v435, rfl, ho0, hb⟩; refine ⟨_, rfl, ?_⟩; have n0_ := Aside0.mk (Kd.S_lower ho0 (below_size (by repeat (first | (with_reducible first | exact HB.out | apply below_alloc | apply pw_below_drewN | apply below_drew1) | exact HB.out)))); have n1_ := Aside0.mk (below_step (by repeat (first | (with_reducible first | exact HB.out | apply below_alloc | apply pw_below_drewN | apply below_drew1) | exact HB.out)) hb); clear HB; have HO436 := n0_; have HB := n1_; clear n0_ n1_; (try clear hb); (try clear hb2); (try clear hk); (try clear hi); (try clear ho0)) | ((with_reducible refine gate_callee (f := 15) rfl ?_); refine goesL_ (some 13) rfl rfl Try.func15 (by kernel_rfl) rfl #[.slice A0 l0.length c0] rfl (by (try simp only [List.map_toArray, List.map_cons, List.map_nil]); first | done | rfl | (simp only [List.length_drop, List.length_take]; rfl)) ?_; (with_reducible refine (temperaref21_Decode.calls k _ _ l0 t437 _ ?side1 ?side2 A6.out).mono ?_); (case side1 => repeat (first | exact (Kd.C_below HR0.out HB.out) | (with_reducible refine Kd.C_alloc ?_ _) | (with_reducible refine Kd.C_drewN ?_ _) | (with_reducible refine Kd.C_drew ?_))); (case side2 => exact HC0.out); rintro e w26 ⟨v438, rfl, ho0, hb⟩; refine ⟨_, rfl, ?_⟩; have n0_ := Aside0.mk (Kd.S_below (by (with_reducible repeat (first | apply Kd.S_alloc | apply Kd.S_drewN | apply Kd.S_drew)); exact HO436.out) hb); have n1_ := Aside0.mk (Kd.S_lower ho0 (below_size (by repeat (first | (with_reducible first | exact HB.out | apply below_alloc | apply pw_below_drewN | apply below_drew1) | exact HB.out)))); have n2_ := Aside0.mk (below_step (by repeat (first | (with_reducible first | exact HB.out | apply below_alloc | apply pw_below_drewN | apply below_drew1) | exact HB.out)) hb); clear HO436; clear HB; have HO436 := n0_; have HO439 := n1_; have HB := n2_; clear n0_ n1_ n2_; (try clear hb); (try clear hb2); (try clear hk); (try clear hi); (try clear ho0); obtain ⟨Ao27, co27, eo27⟩ := Kd.S_slice HO436.out; subst eo27; obtain ⟨Ao28, co28, eo28⟩ := Kd.S_slice HO439.out; subst eo28))
   go_ret
   exact ⟨by first | rfl | (simp [errW_none, errW_some] <;> rfl) | (simp [*, errW_none, errW_some] <;> rfl), by repeat (first | (with_reducible first | exact HB.out | apply below_alloc | apply pw_below_drewN | apply below_drew1) | exact HB.out)⟩
end Go.Proofs.Ytpgjkndijdleeaa.PCode
end
section
namespace Go.Proofs.Ytpgjkndijdleeaa.PCode
open Go.RowKit Go.Proofs.YtpgjkndijdleeaaW.PrintWords Go.Proofs.YtpgjkndijdleeaaW.PrintLast Go.Proofs.YtpgjkndijdleeaaW.PrintMore
set_option linter.unusedVariables false
set_option linter.unusedSimpArgs false
/-- A reader's answer as a place in the bytes. -/
def plc {α : Type} (z : α) (n : Nat) (r : α × List Int × Int) : α × Int × Int := if r.2.2 = 0 then (r.1, (n : Int) - (r.2.1.length : Int), 0) else (z, 0, r.2.2)
theorem pow_pos9 (i : Nat) (h : i ≤ 9) : (0 : Int) < 128 ^ i := by
 rcases pow9 h with rfl | rfl | rfl | rfl | rfl | rfl | rfl | rfl | rfl | rfl <;> decide
theorem pow_next (i : Nat) (h : i ≤ 8) : IntKind.u64.wrap ((128 : Int) ^ i * 128) = 128 ^ (i + 1) := by
 have : i = 0 ∨ i = 1 ∨ i = 2 ∨ i = 3 ∨ i = 4 ∨ i = 5 ∨ i = 6 ∨ i = 7 ∨ i = 8 := by omega
 rcases this with rfl | rfl | rfl | rfl | rfl | rfl | rfl | rfl | rfl <;> (rw [wrap_u64]; decide)
theorem nextu {i : Nat} {u x : Int} (hm : 0 ≤ x % 128 * 128 ^ i ∧ x % 128 * 128 ^ i ≤ 127 * 128 ^ i) (hu : 0 ≤ u ∧ u < 128 ^ i) : 0 ≤ u + x % 128 * 128 ^ i ∧ u + x % 128 * 128 ^ i < 128 ^ (i + 1) := ⟨by omega, by rw [Int.pow_succ]; omega⟩
theorem place_is {n a i : Nat} (h : a + i < n) : ((a + (i + 1) : Nat) : Int) = (n : Int) - ((n - (a + i + 1) : Nat) : Int) := by omega
theorem not_F {i : Nat} {x : Int} (hF : ¬ (((i : Int) = 9 ∧ 1 < x) ∨ (x = 0 ∧ 0 < (i : Int)))) : i = 9 → x ≤ 1 := fun e => by
 rcases Int.lt_or_le 1 x with h' | h'
 ·exact absurd (.inl ⟨by omega, h'⟩) hF
 ·exact h'
theorem or_bnd (n : Nat) (hn : n ≤ 9) (u x : Int) (hu : 0 ≤ u ∧ u < 128 ^ n) (hx : 0 ≤ x ∧ x ≤ 255) (h9 : n = 9 → x ≤ 1) : u + x % 128 * 128 ^ n < 18446744073709551616 := by
 rcases pow9 hn with rfl | rfl | rfl | rfl | rfl | rfl | rfl | rfl | rfl | rfl <;> (first | omega | (have := h9 rfl; omega))
theorem rc_l0 (b : List Int) (at_ : Nat) (hb : ∀ x ∈ b, 0 ≤ x ∧ x ≤ 255) (hl : b.length ≤ 1000000) (hat : at_ ≤ b.length) : ∀ (d i : Nat) (u p : Int), i + d = 10 → 0 ≤ u ∧ u < 128 ^ i → (i ≤ 9 → p = 128 ^ i) → Ev (fun k => temperaref21_ReadCount.l0 k b (at_ : Int) u p (i : Int)) (plc 0 b.length (rcl d (i : Int) u (b.drop (at_ + i))))
 | 0, i, u, p, h, hu, hp => by
  refine Ev.up (Ev.val (fun k => ?_))
  simp only [temperaref21_ReadCount.l0]
  rw [if_neg (by omega)]
  rfl
 | d + 1, i, u, p, h, hu, hp => by
  have hi9 : i ≤ 9 := by omega
  have hd10 : i + 1 + d = 10 := by omega
  have c1 : (i : Int) + 1 = ((i + 1 : Nat) : Int) := by omega
  have c2 : at_ + i + 1 = at_ + (i + 1) := by omega
  have hp9 := hp hi9
  have q1 : (i : Int) < 10 := by omega
  have q2 : wrap64 ((at_ : Int) + (i : Int)) = ((at_ + i : Nat) : Int) := by unfold wrap64; omega
  by_cases hend : b.length ≤ at_ + i
  ·rw [List.drop_of_length_le hend]
   refine Ev.up (Ev.val (fun k => ?_))
   simp only [temperaref21_ReadCount.l0]
   rw [if_pos q1, q2, if_pos (by omega)]
   rfl
  ·have hlt : at_ + i < b.length := by omega
   obtain ⟨x, hx⟩ : ∃ x, x = b[at_ + i] := ⟨_, rfl⟩
   have hxb := hb x (by rw [hx]; exact List.getElem_mem hlt)
   rw [List.drop_eq_getElem_cons hlt, ← hx]
   have q3 : rd b ((at_ + i : Nat) : Int) = x := by rw [rdI b _ hlt, hx]
   have p2 : 0 ≤ ((at_ + i : Nat) : Int) := by omega
   have p3 : ((at_ + i : Nat) : Int) < (b.length : Int) := by omega
   have p4 : ¬ ((at_ + i : Nat) : Int) ≥ (b.length : Int) := by omega
   have step : ∀ f : Bool, f = decide (((i : Int) = 9 ∧ 1 < x) ∨ (x = 0 ∧ 0 < (i : Int))) → ∀ k, temperaref21_ReadCount.l0 (k + 1) b (at_ : Int) u p (i : Int) = temperaref21_ReadCount.j1 k b (at_ : Int) u p (i : Int) x f := by
    intro f hf k
    simp only [temperaref21_ReadCount.l0]
    rw [if_pos q1, q2, if_neg p4, if_pos p2, if_pos p3, q3]
    by_cases hi0 : (i : Int) > 0
    ·rw [if_pos hi0]
     by_cases hx0 : x = 0
     ·rw [if_pos hx0, hf, decide_eq_true (.inr ⟨hx0, by omega⟩)]
     ·rw [if_neg hx0]
      by_cases h9 : (i : Int) = 9
      ·rw [if_pos h9, hf]
       congr 1
       by_cases h1 : x > 1
       ·rw [decide_eq_true h1, decide_eq_true (.inl ⟨h9, h1⟩)]
       ·rw [decide_eq_false h1, decide_eq_false (by omega)]
      ·rw [if_neg h9, hf, decide_eq_false (by omega)]
    ·rw [if_neg hi0, if_neg (by omega), hf, decide_eq_false (by omega)]
   have e1 : wrap64 (((at_ + i : Nat) : Int) + 1) = ((at_ + (i + 1) : Nat) : Int) := by unfold wrap64; omega
   have e2 : wrap64 ((i : Int) + 1) = ((i + 1 : Nat) : Int) := w1 i (by omega)
   simp only [rcl]
   by_cases hF : ((i : Int) = 9 ∧ 1 < x) ∨ (x = 0 ∧ 0 < (i : Int))
   ·rw [if_pos hF]
    refine Ev.up (Ev.congr (step true (decide_eq_true hF).symm) (Ev.up (Ev.val (fun k => ?_))))
    simp only [temperaref21_ReadCount.j1, if_true]
    rfl
   ·rw [if_neg hF]
    refine Ev.up (Ev.congr (step false (decide_eq_false hF).symm) (Ev.up ?_))
    have h9 : i = 9 → x ≤ 1 := not_F hF
    rw [or_add i hi9 u x hu hxb h9]
    have hP : (0 : Int) < 128 ^ i := pow_pos9 i hi9
    have hm : 0 ≤ x % 128 * 128 ^ i ∧ x % 128 * 128 ^ i ≤ 127 * 128 ^ i := ⟨Int.mul_nonneg (by omega) (by omega), Int.mul_le_mul_of_nonneg_right (by omega) (by omega)⟩
    have hbd : u + x % 128 * 128 ^ i < 18446744073709551616 := or_bnd i hi9 u x hu hxb h9
    have hbe : x % 128 * 128 ^ i < 18446744073709551616 := by omega
    have e3 : IntKind.u64.wrap (u + (IntKind.u64.wrap (p * (IntKind.u64.wrap (Int.tmod x 128))))) = u + x % 128 * 128 ^ i := by
     rw [hp9, Int.tmod_eq_emod_of_nonneg hxb.1, show IntKind.u64.wrap (x % 128) = x % 128 from by rw [wrap_u64]; omega, Int.mul_comm, wraps_u64 _ hm.1 (by omega), wraps_u64 _ (by omega) (by omega)]
    by_cases h128 : x < 128
    ·rw [if_pos h128]
     refine Ev.val (fun k => ?_)
     simp only [temperaref21_ReadCount.j1, Bool.false_eq_true, if_false]
     rw [if_pos h128, e3, q2, e1]
     unfold plc
     simp only [if_true, List.length_drop]
     rw [place_is hlt]
    ·rw [if_neg h128]
     have ih := rc_l0 b at_ hb hl hat d (i + 1) (u + x % 128 * 128 ^ i) (IntKind.u64.wrap (p * 128)) hd10 (nextu hm hu) (fun h => by rw [hp9]; exact pow_next i (Nat.le_of_succ_le_succ h))
     rw [c1, c2]
     refine Ev.congr (fun k => ?_) ih
     simp only [temperaref21_ReadCount.j1, Bool.false_eq_true, if_false]
     rw [if_neg h128, e3, e2]
theorem rcount (b : List Int) (at_ : Nat) (hb : ∀ x ∈ b, 0 ≤ x ∧ x ≤ 255) (hl : b.length ≤ 1000000) (hat : at_ ≤ b.length) : Ev (fun k => temperaref21_ReadCount.f k b (at_ : Int)) (plc 0 b.length (rcl 10 0 0 (b.drop at_))) := by
 have := rc_l0 b at_ hb hl hat 10 0 0 1 (by omega) ⟨by omega, by decide⟩ (fun _ => by decide)
 exact this
theorem rnumb (b : List Int) (at_ : Nat) (hb : ∀ x ∈ b, 0 ≤ x ∧ x ≤ 255) (hl : b.length ≤ 1000000) (hat : at_ ≤ b.length) : Ev (fun k => temperaref21_ReadNumber.f k b (at_ : Int)) (plc 0 b.length (rnum (b.drop at_) 0)) := by
 unfold temperaref21_ReadNumber.f
 refine Ev.bind (rcount b at_ hb hl hat) ?_
 have hr := rcl_rng 10 0 0 (b.drop at_)
 unfold rnum
 rw [if_pos rfl]
 generalize rcl 10 0 0 (b.drop at_) = r at *
 obtain ⟨u, l, e⟩ := r
 refine Ev.val (fun k => ?_)
 unfold plc
 simp only
 by_cases he : e = 0
 ·simp only [if_pos he]
  rw [zig_is hr.1 hr.2]
  unfold uz
  have t1 : Int.tmod u 2 = u % 2 := Int.tmod_eq_emod_of_nonneg hr.1
  have t2 : Int.tdiv u 2 = u / 2 := Int.tdiv_eq_ediv_of_nonneg hr.1
  rw [t1, t2]
  simp only at hr
  by_cases hu : u % 2 = 0
  ·rw [if_neg (by omega), if_pos hu]
   congr 2
   rw [wrap_u64]
   unfold wrap64
   omega
  ·rw [if_pos (by omega), if_neg hu]
   congr 2
   rw [wrap_u64]
   unfold wrap64
   omega
 ·simp only [if_neg he]
  have z : wrap64 (IntKind.u64.wrap (Int.tdiv 0 2)) = 0 := by decide +kernel
  rw [if_neg (by decide), z]
theorem rnum_len (l : List Int) (e : Int) : (rnum l e).2.1.length ≤ l.length ∧ ∀ x ∈ (rnum l e).2.1, x ∈ l := by
 unfold rnum
 split
 ·exact rcl_len 10 0 0 l
 ·exact ⟨Nat.le_refl _, fun _ h => h⟩
/-- Is one row a row's end? -/
theorem rcl_suf : ∀ (k : Nat) (i u : Int) (l : List Int), (rcl k i u l).2.1 = l.drop (l.length - (rcl k i u l).2.1.length)
 | 0, i, u, l => by simp [rcl]
 | k + 1, i, u, [] => by simp [rcl]
 | k + 1, i, u, x :: l => by
  have one : ∀ l' : List Int, l' = (x :: l').drop ((x :: l').length - l'.length) := fun l' => by
   rw [show (x :: l').length - l'.length = 1 from by simp]
   rfl
  simp only [rcl]
  split
  ·exact one l
  ·split
   ·exact one l
   ·have h := rcl_suf k (i + 1) (Go.bits .or .u64 u (IntKind.u64.wrap (x % 128 * 2 ^ (7 * i).toNat))) l
    have hl := (rcl_len k (i + 1) (Go.bits .or .u64 u (IntKind.u64.wrap (x % 128 * 2 ^ (7 * i).toNat))) l).1
    generalize (rcl k (i + 1) (Go.bits .or .u64 u (IntKind.u64.wrap (x % 128 * 2 ^ (7 * i).toNat))) l).2.1 = r at *
    rw [show (x :: l).length - r.length = (l.length - r.length) + 1 from by simp only [List.length_cons]; omega, List.drop_succ_cons]
    exact h
theorem rnum_suf (l : List Int) : (rnum l 0).2.1 = l.drop (l.length - (rnum l 0).2.1.length) := by
 unfold rnum
 rw [if_pos rfl]
 exact rcl_suf 10 0 0 l
/-- A place and what is behind it. -/
theorem drop_plc (b l : List Int) (at_ : Nat) (hat : at_ ≤ b.length) (h : l = (b.drop at_).drop ((b.drop at_).length - l.length)) (hl : l.length ≤ (b.drop at_).length) : b.drop (b.length - l.length) = l := by
 rw [List.drop_drop] at h
 simp only [List.length_drop] at h hl
 rw [show at_ + (b.length - at_ - l.length) = b.length - l.length from by omega] at h
 exact h.symm
theorem many_l0 (b : List Int) (hb : ∀ x ∈ b, 0 ≤ x ∧ x ≤ 255) (hl : b.length ≤ 1000000) (n : Nat) (hn : n ≤ 1000000) : ∀ (d i at_ : Nat) (acc : List Int), i + d = n → at_ ≤ b.length → acc.length ≤ i → Ev (fun k => temperaref21_many.l0 k b (at_ : Int) (n : Int) acc (i : Int)) (plc [] b.length (rmany d acc (b.drop at_) 0))
 | 0, i, at_, acc, h, hat, ha => by
  refine Ev.up (Ev.val (fun k => ?_))
  simp only [temperaref21_many.l0]
  rw [if_neg (by omega)]
  unfold plc
  simp only [rmany, if_true, List.length_drop]
  congr 3
  omega
 | d + 1, i, at_, acc, h, hat, ha => by
  refine Ev.up (Ev.congr (f := fun k => (temperaref21_ReadNumber.f k b (at_ : Int)).bind fun bt => (if bt.2.2 = 0 then (if acc.length < 17592186044416 then (temperaref21_many.l0 k b bt.2.1 (n : Int) (acc ++ [bt.1]) ((i + 1 : Nat) : Int)) else (none)) else (some (([] : List Int), 0, bt.2.2)))) (fun k => ?_) ?_)
  ·simp only [temperaref21_many.l0]
   rw [if_pos (by omega), w1 i (by omega)]
  ·refine Ev.bind (rnumb b at_ hb hl hat) ?_
   simp only [rmany, if_true]
   have hsuf := rnum_suf (b.drop at_)
   have hlen := (rnum_len (b.drop at_) 0).1
   generalize rnum (b.drop at_) 0 = r at *
   obtain ⟨v, l, e⟩ := r
   simp only at hsuf hlen
   unfold plc
   by_cases he : e = 0
   ·simp only [if_pos he]
    simp only [List.length_drop] at hlen
    have hd := drop_plc b l at_ hat hsuf (by simp only [List.length_drop]; exact hlen)
    have ih := many_l0 b hb hl n hn d (i + 1) (b.length - l.length) (acc ++ [v]) (by omega) (by omega) (by simp only [List.length_append, List.length_cons, List.length_nil]; omega)
    rw [hd] at ih
    have ha' : acc.length < 17592186044416 := by omega
    simp only [if_pos ha']
    rw [he]
    rw [show ((b.length - l.length : Nat) : Int) = (b.length : Int) - (l.length : Int) from by omega] at ih
    exact ih
   ·simp only [if_neg he]
    refine Ev.val (fun k => ?_)
    cases d with
    | zero => exact congrArg some (if_neg he).symm
    | succ d => simp only [rmany, if_neg he]
theorem rlist_is (b : List Int) (at_ : Nat) (hb : ∀ x ∈ b, 0 ≤ x ∧ x ≤ 255) (hl : b.length ≤ 1000000) (hat : at_ ≤ b.length) (most each : Nat) (hm : most ≤ 5000) (he : each = 1 ∨ each = 9) :
  Ev (fun k => temperaref21_list.f k b (at_ : Int) (most : Int) (each : Int)) (plc [] b.length (let n := rlist most (b.drop at_) 0; if n.2.2 = 0 then rmany (n.1.toNat * each) [] n.2.1 0 else ([], n.2.1, n.2.2))) := by
 unfold temperaref21_list.f
 refine Ev.bind (rcount b at_ hb hl hat) ?_
 have hr := rcl_rng 10 0 0 (b.drop at_)
 have hsuf := rcl_suf 10 0 0 (b.drop at_)
 have hlen := (rcl_len 10 0 0 (b.drop at_)).1
 unfold rlist
 rw [if_pos rfl]
 generalize rcl 10 0 0 (b.drop at_) = r at *
 obtain ⟨u, l, e⟩ := r
 simp only at hr hsuf hlen ⊢
 have hwm : IntKind.u64.wrap (most : Int) = (most : Int) := by rw [wrap_u64]; omega
 unfold plc
 by_cases h0 : e = 0
 ·simp only [if_pos h0]
  by_cases hu : (most : Int) < u
  ·simp only [if_pos hu]
   refine Ev.val (fun k => ?_)
   rw [hwm, if_pos hu]
   rfl
  ·simp only [if_neg hu, if_true]
   simp only [List.length_drop] at hlen
   have hd := drop_plc b l at_ hat hsuf (by simp only [List.length_drop]; exact hlen)
   have hmul : wrap64 ((wrap64 u) * (each : Int)) = ((u.toNat * each : Nat) : Int) := by
    rcases he with rfl | rfl <;> (unfold wrap64; omega)
   have hbnd : u.toNat * each ≤ 1000000 := by rcases he with rfl | rfl <;> omega
   have ih := many_l0 b hb hl (u.toNat * each) hbnd (u.toNat * each) 0 (b.length - l.length) [] (by omega) (by omega) (by simp)
   rw [hd, show ((b.length - l.length : Nat) : Int) = (b.length : Int) - (l.length : Int) from by omega] at ih
   refine Ev.congr (f := fun k => (temperaref21_many.f k b ((b.length : Int) - (l.length : Int)) ((u.toNat * each : Nat) : Int)).bind fun bt => some (bt.1, bt.2.1, bt.2.2)) (fun k => ?_) ?_
   ·rw [hwm, if_neg (by omega), hmul]
   ·refine Ev.bind (a := plc [] b.length (rmany (u.toNat * each) [] l 0)) ih ?_
    refine Ev.val (fun k => ?_)
    rfl
 ·simp only [if_neg h0]
  refine Ev.val (fun k => ?_)
  rfl
end Go.Proofs.Ytpgjkndijdleeaa.PCode
end
section
namespace Go.Proofs.Ytpgjkndijdleeaa.PCode
open Go.RowKit Go.Proofs.YtpgjkndijdleeaaW.PrintWords Go.Proofs.YtpgjkndijdleeaaW.PrintLast Go.Proofs.YtpgjkndijdleeaaW.PrintMore
set_option linter.unusedVariables false
set_option linter.unusedSimpArgs false
def grpD : Nat → List Int → List S62
 | 0, _ => []
 | m + 1, ns => vmk ns :: grpD m (ns.drop 9)
theorem rmany_errv (m : Nat) (acc l : List Int) {e : Int} (h : e ≠ 0) : rmany m acc l e = (acc, l, e) := by
 cases m with
 | zero => rfl
 | succ m => simp only [rmany]; rw [if_neg h]
theorem rmany_add : ∀ (a b : Nat) (acc l : List Int) (e : Int), rmany (a + b) acc l e = rmany b (rmany a acc l e).1 (rmany a acc l e).2.1 (rmany a acc l e).2.2
 | 0, b, acc, l, e => by simp [rmany]
 | a + 1, b, acc, l, e => by
  rw [show a + 1 + b = (a + b) + 1 from by omega]
  by_cases h : e = 0
  ·simp only [rmany, if_pos h]
   exact rmany_add a b _ _ _
  ·simp only [rmany, if_neg h]
   exact (rmany_errv b acc l h).symm
theorem rmany_acc : ∀ (m : Nat) (acc l : List Int) (e : Int), rmany m acc l e = (acc ++ (rmany m [] l e).1, (rmany m [] l e).2)
 | 0, acc, l, e => by simp [rmany]
 | m + 1, acc, l, e => by
  by_cases h : e = 0
  ·simp only [rmany, if_pos h]
   rw [rmany_acc m (acc ++ [(rnum l e).1]), rmany_acc m ([] ++ [(rnum l e).1])]
   simp
  ·simp only [rmany, if_neg h]
   simp
theorem rmany_len : ∀ (m : Nat) (acc l : List Int) (e : Int), (rmany m acc l e).2.2 = 0 → (rmany m acc l e).1.length = acc.length + m
 | 0, acc, l, e, _ => rfl
 | m + 1, acc, l, e, h => by
  by_cases he : e = 0
  ·simp only [rmany, if_pos he] at h ⊢
   rw [rmany_len m _ _ _ h]
   simp
   omega
  ·simp only [rmany, if_neg he] at h
   exact absurd h he
theorem rvs_errv : ∀ (m : Nat) (acc l : List Int) {e : Int}, e ≠ 0 → (rvs m acc l e).2.2 = e
 | 0, acc, l, e, h => rfl
 | m + 1, acc, l, e, h => by
  simp only [rvs]
  rw [rnum_err h]
  exact rvs_errv m _ l h
theorem rvs_many : ∀ (m : Nat) (acc l : List Int) (e : Int), (rvs m acc l e).2.2 = (rmany m acc l e).2.2 ∧ ((rmany m acc l e).2.2 = 0 → rvs m acc l e = rmany m acc l e)
 | 0, acc, l, e => ⟨rfl, fun _ => rfl⟩
 | m + 1, acc, l, e => by
  by_cases he : e = 0
  ·simp only [rvs, rmany, if_pos he]
   exact rvs_many m _ _ _
  ·rw [rmany_errv _ _ _ he]
   exact ⟨rvs_errv _ _ _ he, fun q => absurd q he⟩
theorem rverts_errv (m : Nat) (acc : List S62) (l : List Int) {e : Int} (h : e ≠ 0) : rverts m acc l e = (acc, l, e) := by
 cases m with
 | zero => rfl
 | succ m => simp only [rverts]; rw [if_neg h]
theorem vmk_app (a b : List Int) (h : a.length = 9) : vmk (a ++ b) = vmk a := by
 match a, h with
 | [x0, x1, x2, x3, x4, x5, x6, x7, x8], _ => rfl
theorem rverts_many : ∀ (n : Nat) (acc : List S62) (l : List Int), (rverts n acc l 0).2.2 = (rmany (n * 9) [] l 0).2.2 ∧ ((rmany (n * 9) [] l 0).2.2 = 0 → rverts n acc l 0 = (acc ++ grpD n (rmany (n * 9) [] l 0).1, (rmany (n * 9) [] l 0).2.1, 0))
 | 0, acc, l => by simp [rverts, rmany, grpD]
 | n + 1, acc, l => by
  rw [show (n + 1) * 9 = 9 + n * 9 from by omega, rmany_add]
  have h9 := rvs_many 9 [] l 0
  have hlen := rmany_len 9 [] l 0
  simp only [rverts, if_true]
  generalize rmany 9 [] l 0 = r1 at *
  generalize rvs 9 [] l 0 = v at *
  obtain ⟨ns, l1, e1⟩ := r1
  simp only at h9 hlen ⊢
  by_cases he : e1 = 0
  ·have hv := h9.2 he
   subst hv
   subst he
   have hl := hlen rfl
   simp only [List.length_nil, Nat.zero_add] at hl
   simp only
   rw [rmany_acc (n * 9) ns]
   obtain ⟨i1, i2⟩ := rverts_many n (acc ++ [vmk ns]) l1
   refine ⟨i1, fun q => ?_⟩
   rw [i2 q]
   simp only [grpD]
   rw [vmk_app _ _ hl, List.drop_left' hl]
   simp
  ·rw [h9.1, rverts_errv _ _ _ he, rmany_errv _ _ _ he]
   exact ⟨rfl, fun q => absurd q he⟩
def putc (c : S37) (a n : Int) : S37 := if a = 72 then { c with f1 := n } else if a = 65 then { c with f2 := n } else if a = 66 then { c with f3 := n } else if a = 67 then { c with f4 := n } else if a = 68 then { c with f5 := n } else c
def lst (most each : Nat) (l : List Int) : List Int × List Int × Int := let n := rlist most l 0; if n.2.2 = 0 then rmany (n.1.toNat * each) [] n.2.1 0 else ([], n.2.1, n.2.2)
/-- A letter that is read. -/
def stepL (c : S37) (l : List Int) (a : Int) : S37 × List Int × Int :=
 if a = 76 then ({ c with f6 := (lst 4096 1 l).1 }, (lst 4096 1 l).2) else if a = 86 then ({ c with f7 := c.f7 ++ grpD ((lst 1024 9 l).1.length / 9) (lst 1024 9 l).1 }, (lst 1024 9 l).2) else (putc c a (rnum l 0).1, (rnum l 0).2)
def rlet : List Int → S37 → List Int → S37 × List Int × Int
 | [], c, l => (c, l, 0)
 | a :: zs, c, l => if (stepL c l a).2.2 = 0 then rlet zs (stepL c l a).1 (stepL c l a).2.1 else stepL c l a
def code (o : Nat) : Int := if o = 1 then 72 else if o = 2 then 65 else if o = 3 then 66 else if o = 4 then 67 else 68
def lets (op : Int) : List Int := (fo op).map code ++ ((if fl op = true then [76] else []) ++ (if fv op = true then [86] else []))
theorem lets_is (op : Int) (hop : 1 ≤ op ∧ op ≤ 19) : ∃ s, temperaref20_Fields.f op = some s ∧ s.size ≤ 10 ∧ bytesOf s = lets op := by
 have hk : op = 1 ∨ op = 2 ∨ op = 3 ∨ op = 4 ∨ op = 5 ∨ op = 6 ∨ op = 7 ∨ op = 8 ∨ op = 9 ∨ op = 10 ∨ op = 11 ∨ op = 12 ∨ op = 13 ∨ op = 14 ∨ op = 15 ∨ op = 16 ∨ op = 17 ∨ op = 18 ∨ op = 19 := by omega
 rcases hk with rfl | rfl | rfl | rfl | rfl | rfl | rfl | rfl | rfl | rfl | rfl | rfl | rfl | rfl | rfl | rfl | rfl | rfl | rfl
 ·exact ⟨⟨#[72, 86]⟩, rfl, by decide, rfl⟩
 ·exact ⟨⟨#[72, 76]⟩, rfl, by decide, rfl⟩
 ·exact ⟨⟨#[72, 65, 66, 76]⟩, rfl, by decide, rfl⟩
 ·exact ⟨⟨#[72]⟩, rfl, by decide, rfl⟩
 ·exact ⟨⟨#[76]⟩, rfl, by decide, rfl⟩
 ·exact ⟨⟨#[65, 66, 67, 68]⟩, rfl, by decide, rfl⟩
 ·exact ⟨⟨#[65, 66, 67, 68]⟩, rfl, by decide, rfl⟩
 ·exact ⟨⟨#[65, 66]⟩, rfl, by decide, rfl⟩
 ·exact ⟨⟨#[76]⟩, rfl, by decide, rfl⟩
 ·exact ⟨⟨#[65, 66, 67, 68]⟩, rfl, by decide, rfl⟩
 ·exact ⟨⟨#[65]⟩, rfl, by decide, rfl⟩
 ·exact ⟨⟨#[72, 65, 66]⟩, rfl, by decide, rfl⟩
 ·exact ⟨⟨#[65, 66, 67, 68]⟩, rfl, by decide, rfl⟩
 ·exact ⟨⟨#[72, 65, 66, 67]⟩, rfl, by decide, rfl⟩
 ·exact ⟨⟨#[]⟩, rfl, by decide, rfl⟩
 ·exact ⟨⟨#[65]⟩, rfl, by decide, rfl⟩
 ·exact ⟨⟨#[65]⟩, rfl, by decide, rfl⟩
 ·exact ⟨⟨#[72, 65, 66, 67, 68]⟩, rfl, by decide, rfl⟩
 ·exact ⟨⟨#[]⟩, rfl, by decide, rfl⟩
theorem code_num (o : Nat) (h : 1 ≤ o ∧ o ≤ 5) (c : S37) (l : List Int) : stepL c l (code o) = (setf c o (rnum l 0).1, (rnum l 0).2) := by
 have hk : o = 1 ∨ o = 2 ∨ o = 3 ∨ o = 4 ∨ o = 5 := by omega
 rcases hk with rfl | rfl | rfl | rfl | rfl <;> rfl
theorem rflds_errv : ∀ (os : List Nat) (x : S37) (l : List Int) {e : Int}, e ≠ 0 → (rflds os x l e).2.2 = e
 | [], x, l, e, h => rfl
 | o :: os, x, l, e, h => by
  simp only [rflds]
  rw [rnum_err h]
  exact rflds_errv os _ l h
theorem rlet_nums : ∀ (os : List Nat) (tail : List Int) (c : S37) (l : List Int), (∀ o ∈ os, 1 ≤ o ∧ o ≤ 5) → ((rflds os c l 0).2.2 = 0 → rlet (os.map code ++ tail) c l = rlet tail (rflds os c l 0).1 (rflds os c l 0).2.1) ∧ ((rflds os c l 0).2.2 ≠ 0 → (rlet (os.map code ++ tail) c l).2.2 = (rflds os c l 0).2.2)
 | [], tail, c, l, h => ⟨fun _ => rfl, fun q => absurd rfl q⟩
 | o :: os, tail, c, l, h => by
  simp only [List.map_cons, List.cons_append, rlet, rflds]
  rw [code_num o (h o (by simp))]
  by_cases he : (rnum l 0).2.2 = 0
  ·rw [if_pos he, he]
   exact rlet_nums os tail _ _ (fun o' h' => h o' (List.mem_cons_of_mem _ h'))
  ·rw [if_neg he]
   have := rflds_errv os (setf c o (rnum l 0).1) (rnum l 0).2.1 he
   rw [this]
   exact ⟨fun q => absurd q he, fun _ => rfl⟩
theorem rlist_errv (most : Int) (l : List Int) {e : Int} (h : e ≠ 0) : rlist most l e = (0, l, e) := by unfold rlist; rw [if_neg h]
theorem rdL_err {t : S37 × List Int × Int} (h : t.2.2 ≠ 0) : (rdL t).2.2 = t.2.2 := by
 unfold rdL
 simp only
 rw [rlist_errv _ _ h]
 rfl
theorem rdV_err {t : S37 × List Int × Int} (h : t.2.2 ≠ 0) : (rdV t).2.2 = t.2.2 := by
 unfold rdV
 simp only
 rw [rlist_errv _ _ h]
 rfl
theorem lst_L (t : S37 × List Int × Int) (h : t.2.2 = 0) : rdL t = ({ t.1 with f6 := (lst 4096 1 t.2.1).1 }, (lst 4096 1 t.2.1).2) := by
 unfold rdL lst
 simp only
 rw [h]
 generalize rlist (4096 : Int) t.2.1 0 = n
 have e : rlist (((4096 : Nat)) : Int) t.2.1 0 = rlist 4096 t.2.1 0 := rfl
 obtain ⟨u, l, e⟩ := n
 by_cases he : e = 0
 ·simp only [if_pos he, Nat.mul_one]
  rw [he]
 ·simp only [if_neg he]
  rw [rmany_errv _ _ _ he]
theorem lst_V (t : S37 × List Int × Int) (h : t.2.2 = 0) (h7 : t.1.f7 = []) : (rdV t).2.2 = (lst 1024 9 t.2.1).2.2 ∧ ((lst 1024 9 t.2.1).2.2 = 0 → rdV t = ({ t.1 with f7 := t.1.f7 ++ grpD ((lst 1024 9 t.2.1).1.length / 9) (lst 1024 9 t.2.1).1 }, (lst 1024 9 t.2.1).2)) := by
 unfold rdV lst
 simp only
 rw [h, h7]
 have e0 : rlist (((1024 : Nat)) : Int) t.2.1 0 = rlist 1024 t.2.1 0 := rfl
 rw [e0]
 generalize rlist (1024 : Int) t.2.1 0 = n
 obtain ⟨u, l, e⟩ := n
 by_cases he : e = 0
 ·simp only [if_pos he]
  subst he
  obtain ⟨h1, h2⟩ := rverts_many u.toNat [] l
  refine ⟨h1, fun q => ?_⟩
  have hl := rmany_len (u.toNat * 9) [] l 0 q
  rw [h2 q, hl]
  have e9 : ([] : List Int).length + u.toNat * 9 = u.toNat * 9 := by simp
  rw [e9, Nat.mul_div_cancel _ (by decide : 0 < 9)]
  congr 2
  exact q.symm
 ·simp only [if_neg he]
  rw [rverts_errv _ _ _ he]
  exact ⟨rfl, fun q => absurd q he⟩
theorem rflds_ls : ∀ (os : List Nat) (x : S37) (l : List Int) (e : Int), (rflds os x l e).1.f6 = x.f6 ∧ (rflds os x l e).1.f7 = x.f7
 | [], x, l, e => ⟨rfl, rfl⟩
 | o :: os, x, l, e => by
  simp only [rflds]
  have := rflds_ls os (setf x o (rnum l e).1) (rnum l e).2.1 (rnum l e).2.2
  exact ⟨this.1.trans (setf_ls _ _ _).1, this.2.trans (setf_ls _ _ _).2⟩
/-- What a body is read zs, letter by letter. -/
theorem rdA_let (op : Int) (b : List Int) : (rdA op b).2.2 = (rlet (lets op) (zc op) b).2.2 ∧ ((rlet (lets op) (zc op) b).2.2 = 0 → rdA op b = rlet (lets op) (zc op) b) := by
 unfold rdA lets
 have hn := rlet_nums (fo op) ((if fl op = true then [76] else []) ++ (if fv op = true then [86] else [])) (zc op) b (fo_le op).2
 have hls := rflds_ls (fo op) (zc op) b 0
 have hF : rdF op b = rflds (fo op) (zc op) b 0 := rfl
 rw [hF]
 generalize rflds (fo op) (zc op) b 0 = t at *
 by_cases he : t.2.2 = 0
 ·rw [hn.1 he]
  cases hfl : fl op with
  | true =>
   rw [fl_fv _ hfl]
   simp only [if_true, Bool.false_eq_true, if_false, List.append_nil, rlet]
   have hs : stepL t.1 t.2.1 76 = ({ t.1 with f6 := (lst 4096 1 t.2.1).1 }, (lst 4096 1 t.2.1).2) := rfl
   rw [hs, lst_L t he]
   simp only
   split
   ·rename_i q
    refine ⟨q, fun _ => ?_⟩
    congr 2
    exact Prod.ext rfl q
   ·exact ⟨rfl, fun _ => rfl⟩
  | false =>
   cases hfv : fv op with
   | true =>
    simp only [if_true, Bool.false_eq_true, if_false, List.nil_append, rlet]
    have hs : stepL t.1 t.2.1 86 = ({ t.1 with f7 := t.1.f7 ++ grpD ((lst 1024 9 t.2.1).1.length / 9) (lst 1024 9 t.2.1).1 }, (lst 1024 9 t.2.1).2) := rfl
    rw [hs]
    obtain ⟨h1, h2⟩ := lst_V t he hls.2
    rw [h1]
    simp only
    split
    ·rename_i q
     refine ⟨q, fun _ => ?_⟩
     rw [h2 q]
     congr 2
     exact Prod.ext rfl q
    ·rename_i q
     exact ⟨rfl, fun z => absurd z q⟩
   | false =>
    simp only [Bool.false_eq_true, if_false, List.nil_append, rlet]
    refine ⟨he, fun _ => ?_⟩
    obtain ⟨x, l, e⟩ := t
    simp only at he
    rw [he]
 ·have h2 := hn.2 he
  rw [h2]
  cases hfl : fl op with
  | true =>
   rw [if_pos rfl]
   exact ⟨rdL_err he, fun q => absurd q he⟩
  | false =>
   rw [if_neg (by decide)]
   cases hfv : fv op with
   | true =>
    rw [if_pos rfl]
    exact ⟨rdV_err he, fun q => absurd q he⟩
   | false =>
    rw [if_neg (by decide)]
    exact ⟨rfl, fun q => absurd q he⟩
def E4 (e : Int) : Prop := e = 0 ∨ e = 4 ∨ e = 5 ∨ e = 6
theorem rcl_e : ∀ (k : Nat) (i u : Int) (l : List Int), (rcl k i u l).2.2 = 0 ∨ (rcl k i u l).2.2 = 5 ∨ (rcl k i u l).2.2 = 6
 | 0, _, _, _ => .inr (.inr rfl)
 | k + 1, _, _, [] => .inr (.inl rfl)
 | k + 1, i, u, x :: l => by
  simp only [rcl]
  split
  ·exact .inr (.inr rfl)
  ·split
   ·exact .inl rfl
   ·exact rcl_e k _ _ _
theorem rnum_e (l : List Int) {e : Int} (h : E4 e) : E4 (rnum l e).2.2 := by
 unfold rnum
 split
 ·rcases rcl_e 10 0 0 l with q | q | q
  ·exact .inl q
  ·exact .inr (.inr (.inl q))
  ·exact .inr (.inr (.inr q))
 ·exact h
theorem rmany_e : ∀ (m : Nat) (acc l : List Int) {e : Int}, E4 e → E4 (rmany m acc l e).2.2
 | 0, acc, l, e, h => h
 | m + 1, acc, l, e, h => by
  simp only [rmany]
  split
  ·exact rmany_e m _ _ (rnum_e l h)
  ·exact h
theorem rlist_e (most : Int) (l : List Int) {e : Int} (h : E4 e) : E4 (rlist most l e).2.2 := by
 unfold rlist
 split
 ·split
  ·split
   ·exact .inr (.inl rfl)
   ·exact .inl rfl
  ·rcases rcl_e 10 0 0 l with q | q | q
   ·exact .inl q
   ·exact .inr (.inr (.inl q))
   ·exact .inr (.inr (.inr q))
 ·exact h
theorem lst_e (most each : Nat) (l : List Int) : E4 (lst most each l).2.2 := by
 unfold lst
 have h := rlist_e (most : Int) l (e := 0) (.inl rfl)
 simp only
 split
 ·exact rmany_e _ _ _ (.inl rfl)
 ·exact h
theorem stepL_e (c : S37) (l : List Int) (a : Int) : E4 (stepL c l a).2.2 := by
 unfold stepL
 split
 ·exact lst_e _ _ _
 ·split
  ·exact lst_e _ _ _
  ·exact rnum_e l (.inl rfl)
theorem rlet_e : ∀ (zs : List Int) (c : S37) (l : List Int), E4 (rlet zs c l).2.2
 | [], c, l => .inl rfl
 | a :: zs, c, l => by
  simp only [rlet]
  split
  ·exact rlet_e zs _ _
  ·exact stepL_e c l a
/-- What the reference answers for what is read. -/
def outR (q : S37 × List Int × Int) : S37 × Int := if q.2.2 = 4 then (zc 0, 4) else if q.2.2 = 0 ∧ q.2.1 = [] then (q.1, 0) else (zc 0, 6)
theorem outR_is (op : Int) (b : List Int) : cmdR op b = outR (rlet (lets op) (zc op) b) := by
 obtain ⟨h1, h2⟩ := rdA_let op b
 have hE := rlet_e (lets op) (zc op) b
 unfold cmdR outR
 by_cases h0 : (rlet (lets op) (zc op) b).2.2 = 0
 ·rw [h2 h0, h0, if_neg (by decide)]
  by_cases hl : (rlet (lets op) (zc op) b).2.1 = []
  ·rw [if_pos ⟨rfl, hl⟩, hl, fin_nil]
   rfl
  ·rw [if_neg (fun q => hl q.2)]
   have : fin (rlet (lets op) (zc op) b).2.1 0 = 6 := by unfold fin; rw [if_pos ⟨rfl, hl⟩]
   rw [this]
   rfl
 ·have hf : ∀ l, fin l (rlet (lets op) (zc op) b).2.2 = (rlet (lets op) (zc op) b).2.2 := fun l => by unfold fin; rw [if_neg (fun q => h0 q.1)]
  rw [h1, hf]
  rcases hE with q | q | q | q
  ·exact absurd q h0
  ·rw [q]; rfl
  ·rw [q, if_neg (by decide), if_neg (fun z => absurd z.1 (by decide))]; rfl
  ·rw [q, if_neg (by decide), if_neg (fun z => absurd z.1 (by decide))]; rfl
end Go.Proofs.Ytpgjkndijdleeaa.PCode
end
section
namespace Go.Proofs.Ytpgjkndijdleeaa.PCode
open Go.RowKit Go.Proofs.YtpgjkndijdleeaaW.PrintWords Go.Proofs.YtpgjkndijdleeaaW.PrintLast Go.Proofs.YtpgjkndijdleeaaW.PrintMore
set_option linter.unusedVariables false
set_option linter.unusedSimpArgs false
theorem Ev.uniq {α : Type} {g : Nat → Option α} {r q : α} (h : Ev g r) (h' : Ev g q) : q = r := by
 obtain ⟨K, hK⟩ := h
 obtain ⟨K', hK'⟩ := h'
 have h1 := hK (max K K') (Nat.le_max_left _ _)
 have h2 := hK' (max K K') (Nat.le_max_right _ _)
 rw [h1] at h2
 exact (Option.some.inj h2).symm
def tp9 (r : S37 × Int) : Int × Int × Int × Int × Int × Int × List Int × (List S62) × Int := (r.1.f0, r.1.f1, r.1.f2, r.1.f3, r.1.f4, r.1.f5, r.1.f6, r.1.f7, r.2)
abbrev rRd0 (k : Nat) (b : List Int) (s : ByteArray) (at_ e i : Int) (c : S37) := temperaref21_Read.l0 k b s at_ e i c.f0 c.f1 c.f2 c.f3 c.f4 c.f5 c.f6 c.f7
abbrev rRdj (k : Nat) (b : List Int) (s : ByteArray) (at_ e i : Int) (f : Bool) (c : S37) := temperaref21_Read.j1 k b s at_ e i f c.f0 c.f1 c.f2 c.f3 c.f4 c.f5 c.f6 c.f7
abbrev rRd1 (k : Nat) (b : List Int) (s : ByteArray) (at_ e i : Int) (ns : List Int) (j : Int) (c : S37) := temperaref21_Read.l1 k b s at_ e i ns j c.f0 c.f1 c.f2 c.f3 c.f4 c.f5 c.f6 c.f7
theorem rRd_head (k : Nat) (b : List Int) (s : ByteArray) (at_ e : Int) (i : Nat) (c : S37) : rRd0 (k + 1) b s at_ e (i : Int) c = rRdj k b s at_ e (i : Int) (decide (i < s.size ∧ e = 0)) c := by
 simp only [rRd0, rRdj, temperaref21_Read.l0]
 by_cases h : i < s.size
 ·rw [if_pos (by omega)]
  congr 1
  by_cases he : e = 0
  ·rw [decide_eq_true ⟨h, he⟩, he]; rfl
  ·rw [decide_eq_false (fun q => he q.2)]
   exact beq_eq_false_iff_ne.mpr he
 ·rw [if_neg (by omega), decide_eq_false (fun q => h q.1)]
/-- The end: what is read, or an error. -/
theorem rRd_end (k : Nat) (b : List Int) (s : ByteArray) (at_ e i : Int) (c : S37) : rRdj (k + 1) b s at_ e i false c = some (tp9 (if e = 4 then (zc 0, 4) else if e = 0 ∧ at_ = (b.length : Int) then (c, 0) else (zc 0, 6))) := by
 simp only [rRdj, temperaref21_Read.j1, Bool.false_eq_true, if_false]
 by_cases h4 : e = 4
 ·rw [if_pos h4, if_pos h4]; rfl
 ·rw [if_neg h4, if_neg h4]
  by_cases h0 : e = 0
  ·rw [if_pos h0]
   by_cases hl : at_ = (b.length : Int)
   ·rw [if_pos hl, if_pos ⟨h0, hl⟩]; rfl
   ·rw [if_neg hl, if_neg (fun q => hl q.2)]; rfl
  ·rw [if_neg h0, if_neg (fun q => h0 q.1)]; rfl
theorem rRd_err (b : List Int) (s : ByteArray) (at_ e : Int) (i : Nat) (c : S37) (he : e ≠ 0) : Ev (fun k => rRd0 k b s at_ e (i : Int) c) (tp9 (if e = 4 then (zc 0, 4) else (zc 0, 6))) := by
 refine Ev.up (Ev.up (Ev.val (fun k => ?_)))
 rw [rRd_head, decide_eq_false (fun q => he q.2), rRd_end]
 by_cases h4 : e = 4
 ·rw [if_pos h4, if_pos h4]
 ·rw [if_neg h4, if_neg h4, if_neg (fun q => he q.1)]
/-- A letter's round. -/
theorem rRd_step (k : Nat) (b : List Int) (s : ByteArray) (at_ : Int) (i : Nat) (c : S37) (a : Int) (hi : i < s.size) (hs : s.size ≤ 10) (ha : bt s (i : Int) = a) : rRdj (k + 1) b s at_ 0 (i : Int) true c =
  if a = 76 then (temperaref21_list.f k b at_ 4096 1).bind fun bt => rRd0 k b s bt.2.1 bt.2.2 ((i + 1 : Nat) : Int) { c with f6 := bt.1 }
  else if a = 86 then (temperaref21_list.f k b at_ 1024 9).bind fun bt => rRd1 k b s bt.2.1 bt.2.2 (i : Int) bt.1 0 c
  else (temperaref21_ReadNumber.f k b at_).bind fun bt => rRd0 k b s bt.2.1 bt.2.2 ((i + 1 : Nat) : Int) (putc c a bt.1) := by
 subst ha
 have p1 : 0 ≤ (i : Int) := by omega
 have p2 : (i : Int) < (s.size : Int) := by omega
 have e1 : wrap64 ((i : Int) + 1) = ((i + 1 : Nat) : Int) := w1 i (by omega)
 simp only [rRdj, temperaref21_Read.j1, if_true]
 rw [if_pos p1, if_pos p2, e1]
 split
 ·rfl
 ·split
  ·rfl
  ·congr 1
   funext bt2
   unfold putc temperaref21_put.f
   split
   ·rfl
   ·split
    ·rfl
    ·split
     ·rfl
     ·split
      ·rfl
      ·split <;> rfl
theorem rRd1_end (k : Nat) (b : List Int) (s : ByteArray) (at_ e : Int) (i : Nat) (c : S37) (ns : List Int) (j : Nat) (hj : ns.length < j + 9) (hn : ns.length ≤ 100000) (hjn : j ≤ ns.length) (hi : i ≤ 10) : rRd1 (k + 1) b s at_ e (i : Int) ns (j : Int) c = rRd0 k b s at_ e ((i + 1 : Nat) : Int) c := by
 have e8 : wrap64 ((j : Int) + 8) = ((j + 8 : Nat) : Int) := by unfold wrap64; omega
 simp only [rRd1, rRd0, temperaref21_Read.l1]
 rw [e8, if_neg (by omega), w1 i (by omega)]
theorem wjs (j : Nat) (h : j ≤ 100000) : wrap64 ((j : Int) + 1) = ((j + 1 : Nat) : Int) ∧ wrap64 ((j : Int) + 2) = ((j + 2 : Nat) : Int) ∧ wrap64 ((j : Int) + 3) = ((j + 3 : Nat) : Int) ∧ wrap64 ((j : Int) + 4) = ((j + 4 : Nat) : Int) ∧ wrap64 ((j : Int) + 5) = ((j + 5 : Nat) : Int) ∧ wrap64 ((j : Int) + 6) = ((j + 6 : Nat) : Int) ∧ wrap64 ((j : Int) + 7) = ((j + 7 : Nat) : Int) ∧ wrap64 ((j : Int) + 8) = ((j + 8 : Nat) : Int) ∧ wrap64 ((j : Int) + 9) = ((j + 9 : Nat) : Int) := by
 unfold wrap64
 omega
theorem rdj (ns : List Int) (j m : Nat) : rd ns ((j + m : Nat) : Int) = (ns.drop j).getD m 0 := by
 show ns.getD ((j + m : Nat) : Int).toNat 0 = _
 rw [Int.toNat_natCast]
 simp [List.getD_eq_getElem?_getD]
theorem rdj0 (ns : List Int) (j : Nat) : rd ns (j : Int) = (ns.drop j).getD 0 0 := rdj ns j 0
theorem ltj {n j m : Nat} (h : j + 9 ≤ n) (hm : m ≤ 8) : ((j + m : Nat) : Int) < (n : Int) := by omega
theorem rRd1_step (k : Nat) (b : List Int) (s : ByteArray) (at_ e : Int) (i : Nat) (c : S37) (ns : List Int) (j : Nat) (hj : j + 9 ≤ ns.length) (hn : ns.length ≤ 100000) (hc : c.f7.length ≤ 1000000) : rRd1 (k + 1) b s at_ e (i : Int) ns (j : Int) c = rRd1 k b s at_ e (i : Int) ns ((j + 9 : Nat) : Int) { c with f7 := c.f7 ++ [vmk (ns.drop j)] } := by
 obtain ⟨e1, e2, e3, e4, e5, e6, e7, e8, e9⟩ := wjs j (Nat.le_trans (Nat.le_of_add_right_le hj) hn)
 have g (m : Nat) := rdj ns j m
 have g0 := rdj0 ns j
 have n (m : Nat) : 0 ≤ ((j + m : Nat) : Int) := Int.natCast_nonneg _
 have l (m : Nat) (hm : m ≤ 8) : ((j + m : Nat) : Int) < (ns.length : Int) := ltj hj hm
 have n0 : 0 ≤ (j : Int) := Int.natCast_nonneg _
 have l0 : (j : Int) < (ns.length : Int) := ltj hj (m := 0) (Nat.zero_le _)
 have hq : c.f7.length < 1954687338268 := Nat.lt_of_le_of_lt hc (by decide)
 simp only [rRd1, temperaref21_Read.l1]
 rw [e1, e2, e3, e4, e5, e6, e7, e8, e9]
 rw [if_pos (l 8 (by omega)), if_pos n0, if_pos l0, if_pos (n 1), if_pos (l 1 (by omega)), if_pos (n 2), if_pos (l 2 (by omega)), if_pos (n 3), if_pos (l 3 (by omega)), if_pos (n 4), if_pos (l 4 (by omega)), if_pos (n 5), if_pos (l 5 (by omega)), if_pos (n 6), if_pos (l 6 (by omega)), if_pos (n 7), if_pos (l 7 (by omega)), if_pos (n 8), if_pos hq]
 rw [g0, g 1, g 2, g 3, g 4, g 5, g 6, g 7, g 8]
 rfl
theorem rRd1_all (b : List Int) (s : ByteArray) (at_ e : Int) (i : Nat) (hi : i ≤ 10) (ns : List Int) (hn : ns.length ≤ 100000) (r : Int × Int × Int × Int × Int × Int × List Int × (List S62) × Int) : ∀ (m q : Nat) (c : S37), ns.length = (q + m) * 9 → c.f7.length + m ≤ 1000000 → Ev (fun k => rRd0 k b s at_ e ((i + 1 : Nat) : Int) { c with f7 := c.f7 ++ grpD m (ns.drop (q * 9)) }) r → Ev (fun k => rRd1 k b s at_ e (i : Int) ns ((q * 9 : Nat) : Int) c) r
 | 0, q, c, h, hc, hr => by
  simp only [grpD, List.append_nil] at hr
  refine Ev.up (Ev.congr (fun k => ?_) hr)
  exact rRd1_end k b s at_ e i c ns (q * 9) (by omega) hn (by omega) hi
 | m + 1, q, c, h, hc, hr => by
  refine Ev.up (Ev.congr (fun k => rRd1_step k b s at_ e i c ns (q * 9) (by omega) hn (by omega)) ?_)
  rw [show q * 9 + 9 = (q + 1) * 9 from by omega]
  refine rRd1_all b s at_ e i hi ns hn r m (q + 1) _ (by omega) (by simp only [List.length_append, List.length_cons, List.length_nil]; omega) ?_
  simp only [grpD, List.drop_drop] at hr
  simp only [List.append_assoc, List.cons_append, List.nil_append]
  rw [show (q + 1) * 9 = q * 9 + 9 from by omega]
  exact hr
theorem lst_suf (most each : Nat) (l : List Int) : (lst most each l).2.2 = 0 → (lst most each l).2.1 = l.drop (l.length - (lst most each l).2.1.length) ∧ (lst most each l).2.1.length ≤ l.length := by
 have many : ∀ (m : Nat) (acc l : List Int) (e : Int), (rmany m acc l e).2.1 = l.drop (l.length - (rmany m acc l e).2.1.length) ∧ (rmany m acc l e).2.1.length ≤ l.length := by
  intro m
  induction m with
  | zero => intro acc l e; simp [rmany]
  | succ m ih =>
   intro acc l e
   simp only [rmany]
   split
   ·obtain ⟨h1, h2⟩ := ih (acc ++ [(rnum l e).1]) (rnum l e).2.1 (rnum l e).2.2
    have h3 := (rnum_len l e).1
    rename_i he
    have h4 : (rnum l e).2.1 = l.drop (l.length - (rnum l e).2.1.length) := by rw [he]; exact rnum_suf l
    generalize (rmany m (acc ++ [(rnum l e).1]) (rnum l e).2.1 (rnum l e).2.2).2.1 = r at *
    generalize (rnum l e).2.1 = q at *
    refine ⟨?_, by omega⟩
    rw [h4, List.drop_drop] at h1
    rw [← h4] at h1
    rw [show l.length - q.length + (q.length - r.length) = l.length - r.length from by omega] at h1
    exact h1
   ·simp
 intro h
 unfold lst at *
 simp only at *
 have hr : (rlist (most : Int) l 0).2.1 = l.drop (l.length - (rlist (most : Int) l 0).2.1.length) ∧ (rlist (most : Int) l 0).2.1.length ≤ l.length := by
  have h1 := rcl_suf 10 0 0 l
  have h2 := (rcl_len 10 0 0 l).1
  unfold rlist
  rw [if_pos rfl]
  split
  ·split <;> exact ⟨h1, h2⟩
  ·exact ⟨h1, h2⟩
 split at h
 ·rename_i he
  rw [if_pos he]
  obtain ⟨k1, k2⟩ := many ((rlist (most : Int) l 0).1.toNat * each) [] (rlist (most : Int) l 0).2.1 0
  generalize (rmany ((rlist (most : Int) l 0).1.toNat * each) [] (rlist (most : Int) l 0).2.1 0).2.1 = r at *
  generalize (rlist (most : Int) l 0).2.1 = q at *
  refine ⟨?_, by omega⟩
  rw [hr.1, List.drop_drop] at k1
  rw [← hr.1] at k1
  rw [show l.length - q.length + (q.length - r.length) = l.length - r.length from by omega] at k1
  exact k1
 ·rename_i he
  exact absurd h he
theorem lst_len9 (l : List Int) : (lst 1024 9 l).2.2 = 0 → ∃ m, (lst 1024 9 l).1.length = m * 9 ∧ m ≤ 1024 := by
 intro h
 unfold lst at *
 simp only at *
 have hr := rlist_rng 1024 (by decide) l 0
 split at h
 ·rename_i he
  rw [if_pos he, rmany_len _ _ _ _ h]
  refine ⟨(rlist 1024 l 0).1.toNat, by simp, ?_⟩
  have := hr.2
  omega
 ·rename_i he
  exact absurd h he
theorem rlist_L (b : List Int) (at_ : Nat) (hb : ∀ x ∈ b, 0 ≤ x ∧ x ≤ 255) (hl : b.length ≤ 1000000) (hat : at_ ≤ b.length) : Ev (fun k => temperaref21_list.f k b (at_ : Int) 4096 1) (plc [] b.length (lst 4096 1 (b.drop at_))) := rlist_is b at_ hb hl hat 4096 1 (by omega) (.inl rfl)
theorem rlist_V (b : List Int) (at_ : Nat) (hb : ∀ x ∈ b, 0 ≤ x ∧ x ≤ 255) (hl : b.length ≤ 1000000) (hat : at_ ≤ b.length) : Ev (fun k => temperaref21_list.f k b (at_ : Int) 1024 9) (plc [] b.length (lst 1024 9 (b.drop at_))) := rlist_is b at_ hb hl hat 1024 9 (by omega) (.inr rfl)
theorem read_l0 (b : List Int) (hb : ∀ x ∈ b, 0 ≤ x ∧ x ≤ 255) (hl : b.length ≤ 1000000) (s : ByteArray) (hs : s.size ≤ 10) : ∀ (d i at_ : Nat) (c : S37), i + d = s.size → at_ ≤ b.length → c.f7.length + 2000 * d ≤ 100000 → Ev (fun k => rRd0 k b s (at_ : Int) 0 (i : Int) c) (tp9 (outR (rlet ((bytesOf s).drop i) c (b.drop at_))))
 | 0, i, at_, c, h, hat, hc => by
  rw [List.drop_of_length_le (by rw [bytesOf_length]; omega)]
  refine Ev.up (Ev.up (Ev.val (fun k => ?_)))
  rw [rRd_head, decide_eq_false (fun q => by have := q.1; omega), rRd_end]
  by_cases hz : (at_ : Int) = (b.length : Int)
  ·have : b.drop at_ = [] := List.drop_of_length_le (by omega)
   simp [rlet, outR, hz, this]
  ·have h3 : ¬ b.length ≤ at_ := by omega
   simp [rlet, outR, hz, h3]
 | d + 1, i, at_, c, h, hat, hc => by
  have hlt : i < (bytesOf s).length := by rw [bytesOf_length]; omega
  obtain ⟨a, ha⟩ : ∃ a, a = (bytesOf s)[i] := ⟨_, rfl⟩
  have hbt : bt s (i : Int) = a := by rw [← rd_bytesOf, rdI _ i hlt, ha]
  have hi : i < s.size := by omega
  rw [List.drop_eq_getElem_cons hlt, ← ha]
  have st := fun k => rRd_step k b s (at_ : Int) i c a hi hs hbt
  refine Ev.up (Ev.congr (f := fun k => rRdj k b s (at_ : Int) 0 (i : Int) true c) (fun k => by rw [rRd_head, decide_eq_true ⟨hi, rfl⟩]) (Ev.up (Ev.congr st ?_)))
  simp only [rlet]
  -- from a place on, once a letter has been read
  have next : ∀ (c' : S37) (l' : List Int) (e' : Int), (e' = 0 → c'.f7.length + 2000 * d ≤ 100000) → stepL c (b.drop at_) a = (c', l', e') → (e' = 0 → b.drop (b.length - l'.length) = l' ∧ l'.length ≤ b.length) → Ev (fun k => rRd0 k b s (if e' = 0 then (b.length : Int) - (l'.length : Int) else 0) e' ((i + 1 : Nat) : Int) c') (tp9 (outR (if (stepL c (b.drop at_) a).2.2 = 0 then rlet ((bytesOf s).drop (i + 1)) (stepL c (b.drop at_) a).1 (stepL c (b.drop at_) a).2.1 else stepL c (b.drop at_) a))) := by
   intro c' l' e' hc' hst hsuf
   rw [hst]
   simp only
   by_cases he : e' = 0
   ·obtain ⟨s1, s2⟩ := hsuf he
    have ih := read_l0 b hb hl s hs d (i + 1) (b.length - l'.length) c' (by omega) (by omega) (hc' he)
    rw [s1] at ih
    rw [if_pos he, if_pos he, he, show (b.length : Int) - (l'.length : Int) = ((b.length - l'.length : Nat) : Int) from by omega]
    exact ih
   ·rw [if_neg he, if_neg he]
    have := rRd_err b s 0 e' (i + 1) c' he
    unfold outR
    simp only
    rw [show (if e' = 4 then ((zc 0, 4) : S37 × Int) else if e' = 0 ∧ l' = [] then (c', 0) else (zc 0, 6)) = (if e' = 4 then (zc 0, 4) else (zc 0, 6)) from by
     split
     ·rfl
     ·rw [if_neg (fun q => he q.1)]]
    exact this
  by_cases h76 : a = 76
  ·simp only [if_pos h76]
   refine Ev.bind (rlist_L b at_ hb hl hat) ?_
   have hsuf := lst_suf 4096 1 (b.drop at_)
   have hsl : stepL c (b.drop at_) a = ({ c with f6 := (lst 4096 1 (b.drop at_)).1 }, (lst 4096 1 (b.drop at_)).2) := by unfold stepL; rw [if_pos h76]
   generalize lst 4096 1 (b.drop at_) = q at *
   obtain ⟨ns, l', e'⟩ := q
   simp only at hsuf hsl
   by_cases he : e' = 0
   ·have hn := next _ l' e' (fun _ => by simp only; omega) hsl (fun _ => by
     obtain ⟨s1, s2⟩ := hsuf he
     exact ⟨drop_plc b l' at_ hat s1 s2, by simp only [List.length_drop] at s2; omega⟩)
    unfold plc
    simp only [if_pos he] at hn ⊢
    rw [he] at hn
    exact hn
   ·have hn := next _ l' e' (fun _ => by simp only; omega) hsl (fun z => absurd z he)
    unfold plc
    simp only [if_neg he] at hn ⊢
    have h2 := rRd_err b s 0 e' (i + 1) { c with f6 := ([] : List Int) } he
    have h3 := rRd_err b s 0 e' (i + 1) { c with f6 := ns } he
    exact (Ev.uniq hn h3) ▸ h2
  ·by_cases h86 : a = 86
   ·simp only [if_neg h76, if_pos h86]
    refine Ev.bind (rlist_V b at_ hb hl hat) ?_
    have hsuf := lst_suf 1024 9 (b.drop at_)
    have hl9 := lst_len9 (b.drop at_)
    have hsl : stepL c (b.drop at_) a = ({ c with f7 := c.f7 ++ grpD ((lst 1024 9 (b.drop at_)).1.length / 9) (lst 1024 9 (b.drop at_)).1 }, (lst 1024 9 (b.drop at_)).2) := by unfold stepL; rw [if_neg h76, if_pos h86]
    generalize lst 1024 9 (b.drop at_) = q at *
    obtain ⟨ns, l', e'⟩ := q
    simp only at hsuf hsl hl9
    have hgl : ∀ (m : Nat) (l : List Int), (grpD m l).length = m := fun m => by
     induction m with
     | zero => intro l; rfl
     | succ m ih => intro l; simp [grpD, ih]
    by_cases he : e' = 0
    ·obtain ⟨m, hm, hm2⟩ := hl9 he
     have hdiv : ns.length / 9 = m := by rw [hm]; exact Nat.mul_div_cancel _ (by decide)
     rw [hdiv] at hsl
     have hn := next _ l' e' (fun _ => by simp only [List.length_append, hgl]; omega) hsl (fun _ => by
      obtain ⟨s1, s2⟩ := hsuf he
      exact ⟨drop_plc b l' at_ hat s1 s2, by simp only [List.length_drop] at s2; omega⟩)
     unfold plc
     simp only [if_pos he] at hn ⊢
     rw [he] at hn
     exact rRd1_all b s _ 0 i (by omega) ns (by omega) _ m 0 c (by omega) (by omega) (by simpa using hn)
    ·have hn := next _ l' e' (fun z => absurd z he) hsl (fun z => absurd z he)
     unfold plc
     simp only [if_neg he] at hn ⊢
     have h2 := rRd_err b s 0 e' (i + 1) c he
     have h3 := rRd_err b s 0 e' (i + 1) { c with f7 := c.f7 ++ grpD (ns.length / 9) ns } he
     have h4 := (Ev.uniq hn h3) ▸ h2
     exact rRd1_all b s 0 e' i (by omega) [] (by simp) _ 0 0 c rfl (by omega) (by simpa [grpD] using h4)
   ·simp only [if_neg h76, if_neg h86]
    refine Ev.bind (rnumb b at_ hb hl hat) ?_
    have hsl : stepL c (b.drop at_) a = (putc c a (rnum (b.drop at_) 0).1, (rnum (b.drop at_) 0).2) := by unfold stepL; rw [if_neg h76, if_neg h86]
    have hsuf := rnum_suf (b.drop at_)
    have hlen := (rnum_len (b.drop at_) 0).1
    have hp7 : ∀ n, (putc c a n).f7 = c.f7 := fun n => by
     unfold putc
     repeat' split
     all_goals rfl
    generalize rnum (b.drop at_) 0 = q at *
    obtain ⟨v, l', e'⟩ := q
    simp only at hsuf hsl hlen
    by_cases he : e' = 0
    ·have hn := next _ l' e' (fun _ => by rw [hp7]; omega) hsl (fun _ => ⟨drop_plc b l' at_ hat hsuf hlen, by simp only [List.length_drop] at hlen; omega⟩)
     unfold plc
     simp only [if_pos he] at hn ⊢
     rw [he] at hn
     exact hn
    ·have hn := next _ l' e' (fun _ => by rw [hp7]; omega) hsl (fun z => absurd z he)
     unfold plc
     simp only [if_neg he] at hn ⊢
     have h2 := rRd_err b s 0 e' (i + 1) (putc c a 0) he
     have h3 := rRd_err b s 0 e' (i + 1) (putc c a v) he
     exact (Ev.uniq hn h3) ▸ h2
theorem read_is (op : Int) (hop : 1 ≤ op ∧ op ≤ 19) (b : List Int) (hb : ∀ x ∈ b, 0 ≤ x ∧ x ≤ 255) (hl : b.length ≤ 1000000) : Ev (fun k => temperaref21_Read.f k op b) (tp9 (cmdR op b)) := by
 obtain ⟨s, h1, h2, h3⟩ := lets_is op hop
 have h := read_l0 b hb hl s h2 s.size 0 0 (zc op) (by omega) (by omega) (by simp only [zc, List.length_nil]; omega)
 rw [List.drop_zero, List.drop_zero, h3, ← outR_is] at h
 refine Ev.congr (fun k => ?_) h
 unfold temperaref21_Read.f
 rw [h1]
 rfl
def to46 (x : S39) : S46 := ⟨x.f0, x.f1⟩
theorem rcl_first (l : List Int) : (rcl 10 0 0 l).2.1.length ≤ l.length := (rcl_len 10 0 0 l).1
theorem rdec_l0 (b : List Int) (hb : ∀ x ∈ b, 0 ≤ x ∧ x ≤ 255) (hl : b.length ≤ 3000) : ∀ (f at_ : Nat) (acc : List S46), b.length - at_ < f → at_ ≤ b.length → acc.length + (b.length - at_) ≤ 100000 → Ev (fun k => temperaref21_Decode.l0 k b acc (at_ : Int)) (acc ++ (decR f (b.drop at_)).map to46)
 | 0, at_, acc, h, hat, ha => by omega
 | f + 1, at_, acc, h, hat, ha => by
  by_cases hend : at_ = b.length
  ·rw [List.drop_of_length_le (by omega)]
   refine Ev.up (Ev.val (fun k => ?_))
   simp only [temperaref21_Decode.l0]
   rw [if_neg (by omega)]
   simp [decR]
  ·have hlt : at_ < b.length := by omega
   obtain ⟨x, hx⟩ : ∃ x, x = b[at_] := ⟨_, rfl⟩
   have hxb := hb x (by rw [hx]; exact List.getElem_mem hlt)
   have hrx : rd b (at_ : Int) = x := by rw [rdI b at_ hlt, hx]
   have hwx : wrap64 x = x := by unfold wrap64; omega
   have hw1 : wrap64 ((at_ : Int) + 1) = ((at_ + 1 : Nat) : Int) := w1 at_ (by omega)
   rw [List.drop_eq_getElem_cons hlt, ← hx]
   have p1 : (at_ : Int) < (b.length : Int) := by omega
   have p2 : 0 ≤ (at_ : Int) := by omega
   have pa : acc.length < 1353245080339 := by omega
   have hc := rcount b (at_ + 1) hb (by omega) (by omega)
   have hsuf := rcl_suf 10 0 0 (b.drop (at_ + 1))
   have hlen := rcl_first (b.drop (at_ + 1))
   have hrng := rcl_rng 10 0 0 (b.drop (at_ + 1))
   simp only [decR]
   generalize rcl 10 0 0 (b.drop (at_ + 1)) = r at *
   obtain ⟨u, l2, e2⟩ := r
   simp only [List.length_drop] at hsuf hlen hrng
   simp only
   refine Ev.up ?_
   simp only [temperaref21_Decode.l0, if_pos p1, if_pos p2, hw1, hrx, hwx, if_pos pa]
   refine Ev.bind hc ?_
   unfold plc
   by_cases he : e2 = 0
   ·subst he
    simp only [if_true]
    have hto : (b.length : Int) - (l2.length : Int) = ((b.length - l2.length : Nat) : Int) := by omega
    have hl2 : l2.length ≤ b.length - (at_ + 1) := hlen
    have hdl : b.drop (b.length - l2.length) = l2 := drop_plc b l2 (at_ + 1) (by omega) (by simp only [List.length_drop]; exact hsuf) (by simp only [List.length_drop]; exact hl2)
    have hwl : IntKind.u64.wrap (wrap64 ((b.length : Int) - ((b.length - l2.length : Nat) : Int))) = (l2.length : Int) := by
     rw [wrap_u64]; unfold wrap64; omega
    rw [hto]
    simp only [hwl]
    by_cases hu : (l2.length : Int) < u
    ·rw [if_pos hu]
     refine Ev.val (fun k => ?_)
     rw [if_pos hu]
     rfl
    ·rw [if_neg hu]
     have hu0 := hrng.1
     have hwu : wrap64 (((b.length - l2.length : Nat) : Int) + wrap64 u) = ((b.length - l2.length + u.toNat : Nat) : Int) := by unfold wrap64; omega
     have hge : ¬ u > (l2.length : Int) := hu
     simp only [if_neg hge, hwu]
     have hdd : b.drop (b.length - l2.length + u.toNat) = l2.drop u.toNat := by rw [← List.drop_drop, hdl]
     have hnext : ∀ it : S39, Ev (fun k => temperaref21_Decode.l0 k b (acc ++ [to46 it]) ((b.length - l2.length + u.toNat : Nat) : Int)) (acc ++ (it :: decR f (l2.drop u.toNat)).map to46) := by
      intro it
      have ih := rdec_l0 b hb hl f (b.length - l2.length + u.toNat) (acc ++ [to46 it]) (by omega) (by omega) (by simp only [List.length_append, List.length_cons, List.length_nil]; omega)
      rw [hdd] at ih
      simpa using ih
     by_cases hop : x < 1 ∨ 19 < x
     ·rw [if_pos hop]
      refine Ev.congr (fun k => ?_) (hnext ⟨zc 0, 9⟩)
      by_cases h1 : x < 1
      ·rw [if_pos h1]; rfl
      ·rw [if_neg h1, if_pos (show x > 19 by omega)]; rfl
     ·rw [if_neg hop]
      have h1 : ¬ x < 1 := fun q => hop (.inl q)
      have h2 : ¬ x > 19 := fun q => hop (.inr q)
      have h3 : 0 ≤ ((b.length - l2.length : Nat) : Int) := Int.natCast_nonneg _
      have h4 : ((b.length - l2.length : Nat) : Int) ≤ ((b.length - l2.length + u.toNat : Nat) : Int) := by omega
      have h5 : ((b.length - l2.length + u.toNat : Nat) : Int) ≤ (b.length : Int) := by omega
      have hcut : (b.take (((b.length - l2.length + u.toNat : Nat) : Int)).toNat).drop (((b.length - l2.length : Nat) : Int)).toNat = l2.take u.toNat := by
       rw [Int.toNat_natCast, Int.toNat_natCast, List.drop_take, hdl]
       congr 1
       omega
      simp only [if_neg h1, if_neg h2, if_pos h3, if_pos h4, if_pos h5, hcut]
      have hbl : ∀ y ∈ l2.take u.toNat, 0 ≤ y ∧ y ≤ 255 := fun y hy => by
       have h6 := List.mem_of_mem_take hy
       rw [← hdl] at h6
       exact hb y (List.mem_of_mem_drop h6)
      refine Ev.bind (read_is x (by omega) (l2.take u.toNat) hbl (by rw [List.length_take]; omega)) ?_
      refine Ev.congr (fun k => ?_) (hnext ⟨(cmdR x (l2.take u.toNat)).1, (cmdR x (l2.take u.toNat)).2⟩)
      rfl
   ·simp only [if_neg he]
    refine Ev.val (fun k => ?_)
    rfl
theorem rdec_is (b : List Int) (hb : ∀ x ∈ b, 0 ≤ x ∧ x ≤ 255) (hl : b.length ≤ 3000) : Ev (fun k => temperaref21_Decode.f k b) ((decR (b.length + 1) b).map to46) := by
 have h := rdec_l0 b hb hl (b.length + 1) 0 [] (by omega) (by omega) (by simp only [List.length_nil]; omega)
 rw [List.drop_zero, List.nil_append] at h
 exact h
theorem reads_l0 (its : List S39) (hl : its.length ≤ 3000) (hs : ∀ it ∈ its, it.f0.f6.length ≤ 5000 ∧ it.f0.f7.length ≤ 1100) : ∀ (d i : Nat), i + d = its.length → Ev (fun k => temperalaw21_CodeReads.l0 k its (its.map to46) (i : Int)) true
 | 0, i, h => by
  refine Ev.up (Ev.congr (f := fun k => (temperalaw21_awake.f k).bind fun t => some t) (fun k => ?_) (Ev.bind awake_is (Ev.now true)))
  simp only [temperalaw21_CodeReads.l0]
  rw [if_neg (by omega)]
 | d + 1, i, h => by
  have hlt : i < its.length := by omega
  have hx := hs its[i] (List.getElem_mem hlt)
  have p1 : (i : Int) < (its.length : Int) := by omega
  have p2 : 0 ≤ (i : Int) := by omega
  have p3 : (i : Int) < ((its.map to46).length : Int) := by rw [List.length_map]; exact p1
  have hr : rd_T46 (its.map to46) (i : Int) = to46 its[i] := by
   have : ∀ (l : List S46) (i : Nat) (h : i < l.length), rd_T46 l (i : Int) = l[i] := fun l i h => by simp [rd_T46, List.getD_eq_getElem?_getD, h]
   rw [this _ i (by rw [List.length_map]; exact hlt), List.getElem_map]
  refine Ev.up (Ev.congr (f := fun k => (temperaref20_Same.f k its[i].f0.f0 its[i].f0.f1 its[i].f0.f2 its[i].f0.f3 its[i].f0.f4 its[i].f0.f5 its[i].f0.f6 its[i].f0.f7 its[i].f0.f0 its[i].f0.f1 its[i].f0.f2 its[i].f0.f3 its[i].f0.f4 its[i].f0.f5 its[i].f0.f6 its[i].f0.f7).bind fun t => (if t = true then (temperalaw21_CodeReads.l0 k its (its.map to46) ((i + 1 : Nat) : Int)) else some false)) (fun k => ?_) ?_)
  ·simp only [temperalaw21_CodeReads.l0]
   rw [if_pos p1, if_pos p2, if_pos p3, hr, rdT39 its i hlt, w1 i (by omega)]
   exact if_pos rfl
  ·refine Ev.bind (same_is its[i].f0 hx.1 hx.2) ?_
   simp only [if_true]
   exact reads_l0 its hl hs d (i + 1) (by omega)
theorem reads_plain (b : List Int) (hb : ∀ x ∈ b, 0 ≤ x ∧ x ≤ 255) : ∃ k, temperalaw21_CodeReads.f k b = some true := by
 refine Ev.rounds ?_
 unfold temperalaw21_CodeReads.f
 by_cases h : (b.length : Int) > 3000
 ·simp only [if_pos h]
  exact Ev.bind awake_is (Ev.now true)
 ·simp only [if_neg h]
  rw [decode_is b (by omega) hb]
  simp only [Option.bind_some]
  refine Ev.bind (rdec_is b hb (by omega)) ?_
  simp only [List.length_map, if_true]
  refine reads_l0 _ (Nat.le_trans (decR_len _ _) (by omega)) (fun it hit => ?_) (decR (b.length + 1) b).length 0 (by omega)
  by_cases hz : it.f1 = 0
  ·have hk := decR_ok (b.length + 1) b hb it hit hz
   have h6 := hk.2.2.2.1
   have h7 := hk.2.2.2.2
   exact ⟨by omega, by omega⟩
  ·rw [decR_bad (b.length + 1) b it hit hz]
   exact ⟨by decide, by decide⟩
end Go.Proofs.Ytpgjkndijdleeaa.PCode
end
section
namespace Go.Proofs.Ytpgjkndijdleeaa.Plain
open Go.RowKit Go.Proofs.Ytpgjkndijdleeaa.PCode Go.Proofs.YtpgjkndijdleeaaW.PrintWords
theorem CodeReads (l : List Int) (h : rowOk (inKind .u8) l) : ∃ k, temperalaw21_CodeReads.f k l = some true := reads_plain l (fun x hx => inKind_u8 (h.2 x hx))
end Go.Proofs.Ytpgjkndijdleeaa.Plain
end
