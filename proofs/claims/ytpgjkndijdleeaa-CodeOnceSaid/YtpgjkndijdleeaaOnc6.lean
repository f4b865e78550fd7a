/- What the claim of RowCodeOnce needs of this seat's texts (drawn together by wip/prune.py): Code2E, CodeP5, CodeOnceP. -/
import Derived.Test.YtpgjkndijdleeaaOnc5
section
namespace Go.Proofs.Ytpgjkndijdleeaa.PCode
open Go.RowKit Go.Proofs.YtpgjkndijdleeaaW.PrintWords Go.Proofs.YtpgjkndijdleeaaW.PrintLast Go.Proofs.YtpgjkndijdleeaaW.PrintMore
attribute [local go_sem] max2_int min2_int max_two min_two max_three min_three max_four min_four   -- for this text's walks alone
set_option linter.unusedVariables false
set_option linter.unusedSimpArgs false
def temperalaw21_CodeOnce.l0 : Nat → List Int → List (S39) → List (S37) → Int → Option (Bool)
 | 0, _, _, _, _ => none
 | k + 1, x0, x3, x4, x5 => if x5 < (x3.length : Int) then (if 0 ≤ x5 then (if ((rd_T39 x3 x5).f1) = 0 then (if x4.length < 1466015503701 then (temperalaw21_CodeOnce.l0 k x0 x3 (x4 ++ [(⟨(rd_T39 x3 x5).f0.f0, (rd_T39 x3 x5).f0.f1, (rd_T39 x3 x5).f0.f2, (rd_T39 x3 x5).f0.f3, (rd_T39 x3 x5).f0.f4, (rd_T39 x3 x5).f0.f5, (rd_T39 x3 x5).f0.f6, (rd_T39 x3 x5).f0.f7⟩ : S37)]) (wrap64 (x5 + 1))) else (none)) else ((temperaref20_Same.f k ((rd_T39 x3 x5).f0.f0) ((rd_T39 x3 x5).f0.f1) ((rd_T39 x3 x5).f0.f2) ((rd_T39 x3 x5).f0.f3) ((rd_T39 x3 x5).f0.f4) ((rd_T39 x3 x5).f0.f5) ((rd_T39 x3 x5).f0.f6) ((rd_T39 x3 x5).f0.f7) 0 0 0 0 0 0 ([] : List Int) ([] : List (S62))).bind fun t462 => (if t462 = true then ((temperalaw21_awake.f k).bind fun t463 => (some t463)) else (some false)))) else (none)) else ((code_Encode.f k x4).bind fun bt450 => (if bt450.2 = 0 then ((temperaref21_Bytes.f k bt450.1 x0).bind fun t454 => (if t454 = true then ((temperalaw21_awake.f k).bind fun t455 => (some t455)) else (some false))) else (some false)))
def temperalaw21_CodeOnce.f (k : Nat) (l0 : List Int) : Option (Bool) := if (l0.length : Int) > 3000 then ((temperalaw21_awake.f k).bind fun t446 => (some t446)) else ((code_Decode.f l0).bind fun t447 => (temperalaw21_CodeOnce.l0 k l0 t447 ([] : List (S37)) 0))
set_option maxHeartbeats 8000000 in
set_option maxRecDepth 100000 in
theorem temperalaw21_CodeOnce.calls (k : Nat) (A0 : Option Addr) (c0 : Nat) (l0 : List Int) (r : Bool) (w : World) (hr0 : Kd.C (Kd.int .u8) w A0 l0.length l0) (hc0 : l0.length ≤ c0) (h : temperalaw21_CodeOnce.f k l0 = some r) :
  Calls Try.prog 5 #[.slice A0 l0.length c0] w fun e w' => e = .returned (.bool r) ∧ Below w.heap.size w w' := by
 have hu37 := Try.underlying37
 have HR0 := Aside0.mk hr0
 have HC0 := Aside0.mk hc0
 clear hr0 hc0
 have HB := Aside0.mk (Below.refl w.heap.size w)
 have H : (if (l0.length : Int) > 3000 then ((temperalaw21_awake.f k).bind fun t446 => (some t446)) else ((code_Decode.f l0).bind fun t447 => (temperalaw21_CodeOnce.l0 k l0 t447 ([] : List (S37)) 0))) = some r := h
 clear h
 by_cases c2 : (l0.length : Int) > 3000
 ·rw [if_pos c2] at H
  have c2b0 : decide (3000 < (l0.length : Int)) = true := decide_eq_true c2
  have c2b1 : decide (3000 < l0.length) = true := decide_eq_true (by omega)
  clear c2
  replace H := Option.bind_eq_some_iff.mp H
  obtain ⟨t446, A30, H⟩ := H
  replace H : (some t446) = some r := H
  have A3 := Aside0.mk A30
  clear A30
  obtain rfl := Option.some.inj H
  go_enter Try.func5, Try.ntmps5
  go_wp2_with (first | ((with_reducible refine gate_callee (f := 7) rfl ?_); refine goesL_ (some 11) rfl rfl Try.func7 (by kernel_rfl) rfl #[] rfl (by (try simp only [List.map_toArray, List.map_cons, List.map_nil]); first | done | rfl | (simp only [List.length_drop, List.length_take]; rfl)) ?_; (with_reducible refine (temperalaw21_awake.calls k  t446 _ A3.out).mono ?_); rintro e w4 ⟨rfl, hb⟩; refine ⟨_, rfl, ?_⟩; have n0_ := Aside0.mk (below_step (by repeat (first | (with_reducible first | exact HB.out | apply below_alloc | apply pw_below_drewN | apply below_drew1) | exact HB.out)) hb); clear HB; have HB := n0_; clear n0_; (try clear hb); (try clear hb2); (try clear hk); (try clear hi)))
  go_ret
  exact ⟨by first | rfl | (simp [errW_none, errW_some] <;> rfl) | (simp [*, errW_none, errW_some] <;> rfl), by repeat (first | (with_reducible first | exact HB.out | apply below_alloc | apply pw_below_drewN | apply below_drew1) | exact HB.out)⟩
 ·rw [if_neg c2] at H
  have c2b0 : decide (3000 < (l0.length : Int)) = false := decide_eq_false c2
  have c2b1 : decide (3000 < l0.length) = false := decide_eq_false (by omega)
  clear c2
  replace H := Option.bind_eq_some_iff.mp H
  obtain ⟨t447, A50, H⟩ := H
  replace H : (temperalaw21_CodeOnce.l0 k l0 t447 ([] : List (S37)) 0) = some r := H
  have A5 := Aside0.mk A50
  clear A50
  have H' := Aside0.mk H
  clear H
  go_enter Try.func5, Try.ntmps5
  go_wp2_with (first | ((with_reducible refine gate_callee (f := 10) rfl ?_); refine goesL_ (some 13) rfl rfl Try.func10 (by kernel_rfl) rfl #[.slice A0 l0.length c0] rfl (by (try simp only [List.map_toArray, List.map_cons, List.map_nil]); first | done | rfl | (simp only [List.length_drop, List.length_take]; rfl)) ?_; (with_reducible refine (code_Decode.calls _ _ l0 t447 _ ?side1 ?side2 A5.out).mono ?_); (case side1 => repeat (first | exact HR0.out | (with_reducible refine Kd.C_alloc ?_ _) | (with_reducible refine Kd.C_drewN ?_ _) | (with_reducible refine Kd.C_drew ?_))); (case side2 => exact HC0.out); rintro e w6 ⟨v448, rfl, ho0, hb⟩; refine ⟨_, rfl, ?_⟩; have n0_ := Aside0.mk (Kd.N_lower (Kd.N_mono (ok' := fun k_ => True) (Kd.S_N (Kd.S_bound ho0)) (fun k_ hk_ => trivial)) (below_size (by repeat (first | (with_reducible first | exact HB.out | apply below_alloc | apply pw_below_drewN | apply below_drew1) | exact HB.out)))); have n1_ := Aside0.mk (below_step (by repeat (first | (with_reducible first | exact HB.out | apply below_alloc | apply pw_below_drewN | apply below_drew1) | exact HB.out)) hb); clear HB; have HO449 := n0_; have HB := n1_; clear n0_ n1_; (try clear hb); (try clear hb2); (try clear hk); (try clear hi); (try clear ho0)))
  go_loopg [4, 5] k (fun kq v4 v5 w' => ∃ (x4_1 : List (S37)) (x5_1 : Int), v5 = .int .i64 x5_1 ∧ Aside0 (temperalaw21_CodeOnce.l0 kq l0 t447 x4_1 x5_1 = some r) ∧ Aside0 (kq ≤ k) ∧ Aside0 (Kd.N k39 39 w' w.heap.size (fun k_ => some k_ ≠ (v4 : Value).ownBlock) v448 t447) ∧ Aside0 (Kd.N k37 37 w' w.heap.size (fun k_ => some k_ ≠ (v448 : Value).ownBlock) v4 x4_1) ∧ Aside0 (Below w.heap.size w w'))
  case atStart => exact ⟨(([] : List (S37))), (0), (by first | rfl | (simp; done) | (simp [*]; done)), H', ⟨Nat.le_refl _⟩, ⟨by (with_reducible repeat (first | apply Kd.N_alloc | apply Kd.N_drewN | apply Kd.N_drew)); exact Kd.N_mono HO449.out (fun _ hk => (by simp [Value.ownBlock]))⟩, ⟨by first | exact Kd.S_nil _ _ _ _ _ | exact Kd.N_nil _ _ _ _ _ | exact Kd.V_nil _ _ _ _ _ | exact Kd.Q_nil _ _ _ _ _ | exact Kd.R_nil _ _ _ _ _⟩, ⟨by repeat (first | (with_reducible first | exact HB.out | apply below_alloc | apply pw_below_drewN | apply below_drew1) | exact HB.out)⟩⟩
  case round =>
   clear H'
   try clear c1
   try clear c2
   try clear c2b0
   try clear c2b1
   try clear p2
   try clear c5
   obtain ⟨x4_1, x5_1, rfl, HA, HK1, HO_3, HO_4, HB⟩ := hrel
   cases gk with
   | zero => exact absurd HA.out (by simp [temperalaw21_CodeOnce.l0])
   | succ k1 =>
    have H := HA.out
    clear HA
    simp only [temperalaw21_CodeOnce.l0] at H
    by_cases c7 : x5_1 < (t447.length : Int)
    ·rw [if_pos c7] at H
     have c7b0 : decide (x5_1 < (t447.length : Int)) = true := decide_eq_true c7
     clear c7
     by_cases c8 : 0 ≤ x5_1
     ·rw [if_pos c8] at H
      have c8b0 : decide (0 ≤ x5_1) = true := decide_eq_true c8
      clear c8
      by_cases c9 : ((rd_T39 t447 x5_1).f1) = 0
      ·rw [if_pos c9] at H
       have c9b0 : (((rd_T39 t447 x5_1).f1) == 0) = true := beq_iff_eq.mpr c9
       have c9b1 : (((rd_T39 t447 x5_1).f1) != 0) = false := bne_eq_false_iff_eq.mpr c9
       clear c9
       by_cases c10 : x4_1.length < 1466015503701
       ·rw [if_pos c10] at H
        have LMc10 := Aside0.mk c10
        clear c10
        obtain ⟨y458, hy458⟩ : ∃ y_ : List (S37), y_ = (x4_1 ++ [(⟨(rd_T39 t447 x5_1).f0.f0, (rd_T39 t447 x5_1).f0.f1, (rd_T39 t447 x5_1).f0.f2, (rd_T39 t447 x5_1).f0.f3, (rd_T39 t447 x5_1).f0.f4, (rd_T39 t447 x5_1).f0.f5, (rd_T39 t447 x5_1).f0.f6, (rd_T39 t447 x5_1).f0.f7⟩ : S37)]) := ⟨_, rfl⟩
        replace H : (temperalaw21_CodeOnce.l0 k1 l0 t447 y458 (wrap64 (x5_1 + 1))) = some r := by first | (rw [hy458]; with_reducible exact H) | (have H2_ := (Option.bind_some _ _).symm.trans H; rw [hy458]; with_reducible exact H2_) | (have H2_ := (Option.bind_some _ _).symm.trans H; with_reducible exact H2_) | with_reducible exact H | (rw [hy458]; exact H) | exact H
        have Ny458 := Aside0.mk hy458
        clear hy458
        have H' := Aside0.mk H
        clear H
        obtain ⟨Ao11, co11, eo11⟩ := Kd.N_slice HO_3.out
        subst eo11
        have p456 : 0 ≤ (x5_1 : Int) := of_decide_eq_true (by first | (with_reducible assumption) | assumption)
        have q456 : x5_1 < (t447.length : Int) := of_decide_eq_true (by first | (with_reducible assumption) | assumption)
        obtain ⟨ad456, A456_6, c456_6, A456_7, c456_7, e456, hx456_0, hx456_1, hx456_2, hx456_3, hx456_4, hx456_5, hx456_6, hx456_7, hx456_8, hl456_6, hi456_6, hl456_7, hi456_7⟩ := at_T39 (Kd.N_reads' HO_3.out).2.2 x5_1 p456 q456
        cases e456
        obtain ⟨ce456, hce456, hMe456, hcc456⟩ := Kd.N_get HO_3.out z39 x5_1 p456 (by first | exact q456 | exact of_decide_eq_true (by first | (with_reducible assumption) | assumption) | (have e_ := (Kd.N_reads' HO_3.out).1; omega))
        obtain ⟨ua456_6, uc456_6, ua456_7, uc456_7, rfl, ul456_6, ge456_6, ul456_7, ge456_7⟩ := k39_openF hMe456
        have hv456_6 := hcc456 6 _ rfl
        rw [add_field _ _ 6 (by omega)] at hv456_6
        replace hv456_6 := Option.some.inj (hv456_6.symm.trans hx456_6)
        injection hv456_6 with hva_ hvn_ hvc_
        rw [hva_] at ge456_6
        rw [hvc_] at ul456_6
        have HL456_6 := Aside0.mk (show Kd.V (Kd.int .i64) 3 _ w.heap.size _ _ ((rd_T39 t447 x5_1).f0.f6) from Kd.V_mk ul456_6 ge456_6)
        clear hva_ hvn_ hvc_ ge456_6 ul456_6
        have hv456_7 := hcc456 7 _ rfl
        rw [add_field _ _ 7 (by omega)] at hv456_7
        replace hv456_7 := Option.some.inj (hv456_7.symm.trans hx456_7)
        injection hv456_7 with hva_ hvn_ hvc_
        rw [hva_] at ge456_7
        rw [hvc_] at ul456_7
        have HL456_7 := Aside0.mk (show Kd.V k62 62 _ w.heap.size _ _ ((rd_T39 t447 x5_1).f0.f7) from Kd.V_mk ul456_7 ge456_7)
        clear hva_ hvn_ hvc_ ge456_7 ul456_7
        clear hcc456 hce456
        have HR456_6 := Aside0.mk hi456_6
        have HC456_6 := Aside0.mk hl456_6
        clear hi456_6 hl456_6
        have HR456_7 := Aside0.mk hi456_7
        have HC456_7 := Aside0.mk hl456_7
        clear hi456_7 hl456_7
        replace p456 := eq_true p456
        replace q456 := eq_true q456
        have p457 : 0 ≤ (x5_1 : Int) := of_decide_eq_true (by first | (with_reducible assumption) | assumption)
        have q457 : x5_1 < (t447.length : Int) := of_decide_eq_true (by first | (with_reducible assumption) | assumption)
        obtain ⟨ad457, A457_6, c457_6, A457_7, c457_7, e457, hx457_0, hx457_1, hx457_2, hx457_3, hx457_4, hx457_5, hx457_6, hx457_7, hx457_8, hl457_6, hi457_6, hl457_7, hi457_7⟩ := at_T39 (Kd.N_reads' HO_3.out).2.2 x5_1 p457 q457
        obtain rfl : ad456 = ad457 := (by injection e457)
        obtain ⟨ce457, hce457, hMe457, hcc457⟩ := Kd.N_get HO_3.out z39 x5_1 p457 (by first | exact q457 | exact of_decide_eq_true (by first | (with_reducible assumption) | assumption) | (have e_ := (Kd.N_reads' HO_3.out).1; omega))
        obtain ⟨ua457_6, uc457_6, ua457_7, uc457_7, rfl, ul457_6, ge457_6, ul457_7, ge457_7⟩ := k39_openF hMe457
        have hv457_6 := hcc457 6 _ rfl
        rw [add_field _ _ 6 (by omega)] at hv457_6
        replace hv457_6 := Option.some.inj (hv457_6.symm.trans hx457_6)
        injection hv457_6 with hva_ hvn_ hvc_
        rw [hva_] at ge457_6
        rw [hvc_] at ul457_6
        have HL457_6 := Aside0.mk (show Kd.V (Kd.int .i64) 3 _ w.heap.size _ _ ((rd_T39 t447 x5_1).f0.f6) from Kd.V_mk ul457_6 ge457_6)
        clear hva_ hvn_ hvc_ ge457_6 ul457_6
        have hv457_7 := hcc457 7 _ rfl
        rw [add_field _ _ 7 (by omega)] at hv457_7
        replace hv457_7 := Option.some.inj (hv457_7.symm.trans hx457_7)
        injection hv457_7 with hva_ hvn_ hvc_
        rw [hva_] at ge457_7
        rw [hvc_] at ul457_7
        have HL457_7 := Aside0.mk (show Kd.V k62 62 _ w.heap.size _ _ ((rd_T39 t447 x5_1).f0.f7) from Kd.V_mk ul457_7 ge457_7)
        clear hva_ hvn_ hvc_ ge457_7 ul457_7
        clear hcc457 hce457
        have HR457_6 := Aside0.mk hi457_6
        have HC457_6 := Aside0.mk hl457_6
        clear hi457_6 hl457_6
        have HR457_7 := Aside0.mk hi457_7
        have HC457_7 := Aside0.mk hl457_7
        clear hi457_7 hl457_7
        replace p457 := eq_true p457
        replace q457 := eq_true q457
        have ea_ := Option.some.inj (hx456_6.symm.trans hx457_6)
        injection ea_ with ea_ en_ ec_
        subst ea_
        subst ec_
        clear en_
        have ea_ := Option.some.inj (hx456_7.symm.trans hx457_7)
        injection ea_ with ea_ en_ ec_
        subst ea_
        subst ec_
        clear en_
        go_wp2_with (first | ((with_reducible refine gate_builtin (b := .append) (xs := #[.tmp 36, .tmp 42]) rfl ?_); at_builtin; refine Kd.N_append k37 (w0 := w) w.heap.size rfl (.tmp 36) (.tmp 42) 22 37 (.agg #[(.int .i64 0), (.int .i64 0), (.int .i64 0), (.int .i64 0), (.int .i64 0), (.int .i64 0), (.slice none 0 0), (.slice none 0 0)]) 96 rfl Try.underlying22 info37 rfl (by decide) (by omega) u4 x4_1 (⟨(rd_T39 t447 x5_1).f0.f0, (rd_T39 t447 x5_1).f0.f1, (rd_T39 t447 x5_1).f0.f2, (rd_T39 t447 x5_1).f0.f3, (rd_T39 t447 x5_1).f0.f4, (rd_T39 t447 x5_1).f0.f5, (rd_T39 t447 x5_1).f0.f6, (rd_T39 t447 x5_1).f0.f7⟩ : S37) [.int .i64 ((rd_T39 t447 x5_1).f0.f0), .int .i64 ((rd_T39 t447 x5_1).f0.f1), .int .i64 ((rd_T39 t447 x5_1).f0.f2), .int .i64 ((rd_T39 t447 x5_1).f0.f3), .int .i64 ((rd_T39 t447 x5_1).f0.f4), .int .i64 ((rd_T39 t447 x5_1).f0.f5), .slice A456_6 ((rd_T39 t447 x5_1).f0.f6).length c456_6, .slice A456_7 ((rd_T39 t447 x5_1).f0.f7).length c456_7] (fun k_ => some k_ ≠ (.slice (some ad456) t447.length co11 : Value).ownBlock) (fun k_ => ((fun k_ => some k_ ≠ (.slice (some ad456) t447.length co11 : Value).ownBlock)) k_ ∧ some k_ ≠ (u4 : Value).ownBlock) rfl rfl ?aP (fun _ hk => hk) ?aF ?aO ?aB ?aS ?aL ?_; (case aP => exact (k37_mkF _ _ (⟨(rd_T39 t447 x5_1).f0.f0, (rd_T39 t447 x5_1).f0.f1, (rd_T39 t447 x5_1).f0.f2, (rd_T39 t447 x5_1).f0.f3, (rd_T39 t447 x5_1).f0.f4, (rd_T39 t447 x5_1).f0.f5, (rd_T39 t447 x5_1).f0.f6, (rd_T39 t447 x5_1).f0.f7⟩ : S37) (Kd.V_reads' (Kd.V_mono (ok' := (fun k_ => ((fun k_ => some k_ ≠ (.slice (some ad456) t447.length co11 : Value).ownBlock)) k_ ∧ some k_ ≠ (u4 : Value).ownBlock)) (HL457_6.out) (fun k_ hk => ⟨hk.2, hk.1⟩))).2.1 (Kd.V_F (Kd.V_mono (ok' := (fun k_ => ((fun k_ => some k_ ≠ (.slice (some ad456) t447.length co11 : Value).ownBlock)) k_ ∧ some k_ ≠ (u4 : Value).ownBlock)) (HL457_6.out) (fun k_ hk => ⟨hk.2, hk.1⟩))) (Kd.V_reads' (Kd.V_mono (ok' := (fun k_ => ((fun k_ => some k_ ≠ (.slice (some ad456) t447.length co11 : Value).ownBlock)) k_ ∧ some k_ ≠ (u4 : Value).ownBlock)) (HL457_7.out) (fun k_ hk => ⟨hk.2, hk.1⟩))).2.1 (Kd.V_F (Kd.V_mono (ok' := (fun k_ => ((fun k_ => some k_ ≠ (.slice (some ad456) t447.length co11 : Value).ownBlock)) k_ ∧ some k_ ≠ (u4 : Value).ownBlock)) (HL457_7.out) (fun k_ hk => ⟨hk.2, hk.1⟩))))); (case aB => exact (by repeat (first | (with_reducible first | exact HB.out | apply below_alloc | apply pw_below_drewN | apply below_drew1) | exact HB.out))); (case aF => exact (fun k_ hk => Kd.fresh' (Kd.N_lt (by (with_reducible repeat (first | apply Kd.N_alloc | apply Kd.N_drewN | apply Kd.N_drew)); exact HO_3.out)) k_ hk)); (case aO => exact (by (with_reducible repeat (first | apply Kd.N_alloc | apply Kd.N_drewN | apply Kd.N_drew)); exact HO_4.out)); (case aS => exact (below_size (by repeat (first | (with_reducible first | exact HB.out | apply below_alloc | apply pw_below_drewN | apply below_drew1) | exact HB.out)))); (case aL => have := LMc10.out; omega); intro v459 w12 ho hb hg hat; rw [← Ny458.out] at ho; have n0_ := Aside0.mk (Kd.N_afterv (ok := (fun _ => True)) (by (with_reducible repeat (first | apply Kd.N_alloc | apply Kd.N_drewN | apply Kd.N_drew)); exact Kd.N_mono HO_3.out (fun _ hk => ⟨trivial, hk⟩)) hg hat); have n1_ := Aside0.mk (Kd.V_afterv (ok := (fun k_ => some k_ ≠ (.slice (some ad456) t447.length co11 : Value).ownBlock)) (by (with_reducible repeat (first | apply Kd.V_alloc | apply Kd.V_drewN | apply Kd.V_drew)); exact Kd.V_mono HL456_6.out (fun _ hk => ⟨hk.2, hk.1⟩)) hg hat); have n2_ := Aside0.mk (Kd.V_afterv (ok := (fun k_ => some k_ ≠ (.slice (some ad456) t447.length co11 : Value).ownBlock)) (by (with_reducible repeat (first | apply Kd.V_alloc | apply Kd.V_drewN | apply Kd.V_drew)); exact Kd.V_mono HL456_7.out (fun _ hk => ⟨hk.2, hk.1⟩)) hg hat); have n3_ := Aside0.mk (Kd.V_afterv (ok := (fun k_ => some k_ ≠ (.slice (some ad456) t447.length co11 : Value).ownBlock)) (by (with_reducible repeat (first | apply Kd.V_alloc | apply Kd.V_drewN | apply Kd.V_drew)); exact Kd.V_mono HL457_6.out (fun _ hk => ⟨hk.2, hk.1⟩)) hg hat); have n4_ := Aside0.mk (Kd.V_afterv (ok := (fun k_ => some k_ ≠ (.slice (some ad456) t447.length co11 : Value).ownBlock)) (by (with_reducible repeat (first | apply Kd.V_alloc | apply Kd.V_drewN | apply Kd.V_drew)); exact Kd.V_mono HL457_7.out (fun _ hk => ⟨hk.2, hk.1⟩)) hg hat); have n5_ := Aside0.mk (hb); have n6_ := Aside0.mk (ho); clear HO_3; clear HL456_6; clear HL456_7; clear HL457_6; clear HL457_7; clear HB; clear HO_4; have HO_3 := n0_; have HL456_6 := n1_; have HL456_7 := n2_; have HL457_6 := n3_; have HL457_7 := n4_; have HB := n5_; have HO460 := n6_; clear n0_ n1_ n2_ n3_ n4_ n5_ n6_; clear ho hb hg hat))
        go_roundg k1
        case measure => have := HK1.out; omega
        case rel => exact ⟨(y458), (wrap64 (x5_1 + 1)), (by first | rfl | (simp; done) | (simp [*]; done)), H', ⟨by have := HK1.out; omega⟩, ⟨by (with_reducible repeat (first | apply Kd.N_alloc | apply Kd.N_drewN | apply Kd.N_drew)); exact Kd.N_mono HO_3.out (fun _ hk => hk.2)⟩, ⟨by (with_reducible repeat (first | apply Kd.N_alloc | apply Kd.N_drewN | apply Kd.N_drew)); exact HO460.out⟩, ⟨by repeat (first | (with_reducible first | exact HB.out | apply below_alloc | apply pw_below_drewN | apply below_drew1) | exact HB.out)⟩⟩
       ·rw [if_neg c10] at H
        exact absurd H (by simp)
      ·rw [if_neg c9] at H
       have c9b0 : (((rd_T39 t447 x5_1).f1) == 0) = false := beq_eq_false_iff_ne.mpr c9
       have c9b1 : (((rd_T39 t447 x5_1).f1) != 0) = true := bne_iff_ne.mpr c9
       replace H := Option.bind_eq_some_iff.mp H
       obtain ⟨t462, A130, H⟩ := H
       replace H : (if t462 = true then ((temperalaw21_awake.f k1).bind fun t463 => (some t463)) else (some false)) = some r := H
       have A13 := Aside0.mk A130
       clear A130
       by_cases c14 : t462 = true
       ·subst c14
        have H1 : ((temperalaw21_awake.f k1).bind fun t463 => (some t463)) = some r := by rw [if_pos rfl] at H; exact H
        clear H
        have H := H1
        clear H1
        replace H := Option.bind_eq_some_iff.mp H
        obtain ⟨t463, A150, H⟩ := H
        replace H : (some t463) = some r := H
        have A15 := Aside0.mk A150
        clear A150
        obtain rfl := Option.some.inj H
        obtain ⟨Ao16, co16, eo16⟩ := Kd.N_slice HO_3.out
        subst eo16
        have p456 : 0 ≤ (x5_1 : Int) := of_decide_eq_true (by first | (with_reducible assumption) | assumption)
        have q456 : x5_1 < (t447.length : Int) := of_decide_eq_true (by first | (with_reducible assumption) | assumption)
        obtain ⟨ad456, A456_6, c456_6, A456_7, c456_7, e456, hx456_0, hx456_1, hx456_2, hx456_3, hx456_4, hx456_5, hx456_6, hx456_7, hx456_8, hl456_6, hi456_6, hl456_7, hi456_7⟩ := at_T39 (Kd.N_reads' HO_3.out).2.2 x5_1 p456 q456
        cases e456
        obtain ⟨ce456, hce456, hMe456, hcc456⟩ := Kd.N_get HO_3.out z39 x5_1 p456 (by first | exact q456 | exact of_decide_eq_true (by first | (with_reducible assumption) | assumption) | (have e_ := (Kd.N_reads' HO_3.out).1; omega))
        obtain ⟨ua456_6, uc456_6, ua456_7, uc456_7, rfl, ul456_6, ge456_6, ul456_7, ge456_7⟩ := k39_openF hMe456
        have hv456_6 := hcc456 6 _ rfl
        rw [add_field _ _ 6 (by omega)] at hv456_6
        replace hv456_6 := Option.some.inj (hv456_6.symm.trans hx456_6)
        injection hv456_6 with hva_ hvn_ hvc_
        rw [hva_] at ge456_6
        rw [hvc_] at ul456_6
        have HL456_6 := Aside0.mk (show Kd.V (Kd.int .i64) 3 _ w.heap.size _ _ ((rd_T39 t447 x5_1).f0.f6) from Kd.V_mk ul456_6 ge456_6)
        clear hva_ hvn_ hvc_ ge456_6 ul456_6
        have hv456_7 := hcc456 7 _ rfl
        rw [add_field _ _ 7 (by omega)] at hv456_7
        replace hv456_7 := Option.some.inj (hv456_7.symm.trans hx456_7)
        injection hv456_7 with hva_ hvn_ hvc_
        rw [hva_] at ge456_7
        rw [hvc_] at ul456_7
        have HL456_7 := Aside0.mk (show Kd.V k62 62 _ w.heap.size _ _ ((rd_T39 t447 x5_1).f0.f7) from Kd.V_mk ul456_7 ge456_7)
        clear hva_ hvn_ hvc_ ge456_7 ul456_7
        clear hcc456 hce456
        have HR456_6 := Aside0.mk hi456_6
        have HC456_6 := Aside0.mk hl456_6
        clear hi456_6 hl456_6
        have HR456_7 := Aside0.mk hi456_7
        have HC456_7 := Aside0.mk hl456_7
        clear hi456_7 hl456_7
        replace p456 := eq_true p456
        replace q456 := eq_true q456
        have p461 : 0 ≤ (x5_1 : Int) := of_decide_eq_true (by first | (with_reducible assumption) | assumption)
        have q461 : x5_1 < (t447.length : Int) := of_decide_eq_true (by first | (with_reducible assumption) | assumption)
        obtain ⟨ad461, A461_6, c461_6, A461_7, c461_7, e461, hx461_0, hx461_1, hx461_2, hx461_3, hx461_4, hx461_5, hx461_6, hx461_7, hx461_8, hl461_6, hi461_6, hl461_7, hi461_7⟩ := at_T39 (Kd.N_reads' HO_3.out).2.2 x5_1 p461 q461
        obtain rfl : ad456 = ad461 := (by injection e461)
        obtain ⟨ce461, hce461, hMe461, hcc461⟩ := Kd.N_get HO_3.out z39 x5_1 p461 (by first | exact q461 | exact of_decide_eq_true (by first | (with_reducible assumption) | assumption) | (have e_ := (Kd.N_reads' HO_3.out).1; omega))
        obtain ⟨ua461_6, uc461_6, ua461_7, uc461_7, rfl, ul461_6, ge461_6, ul461_7, ge461_7⟩ := k39_openF hMe461
        have hv461_6 := hcc461 6 _ rfl
        rw [add_field _ _ 6 (by omega)] at hv461_6
        replace hv461_6 := Option.some.inj (hv461_6.symm.trans hx461_6)
        injection hv461_6 with hva_ hvn_ hvc_
        rw [hva_] at ge461_6
        rw [hvc_] at ul461_6
        have HL461_6 := Aside0.mk (show Kd.V (Kd.int .i64) 3 _ w.heap.size _ _ ((rd_T39 t447 x5_1).f0.f6) from Kd.V_mk ul461_6 ge461_6)
        clear hva_ hvn_ hvc_ ge461_6 ul461_6
        have hv461_7 := hcc461 7 _ rfl
        rw [add_field _ _ 7 (by omega)] at hv461_7
        replace hv461_7 := Option.some.inj (hv461_7.symm.trans hx461_7)
        injection hv461_7 with hva_ hvn_ hvc_
        rw [hva_] at ge461_7
        rw [hvc_] at ul461_7
        have HL461_7 := Aside0.mk (show Kd.V k62 62 _ w.heap.size _ _ ((rd_T39 t447 x5_1).f0.f7) from Kd.V_mk ul461_7 ge461_7)
        clear hva_ hvn_ hvc_ ge461_7 ul461_7
        clear hcc461 hce461
        have HR461_6 := Aside0.mk hi461_6
        have HC461_6 := Aside0.mk hl461_6
        clear hi461_6 hl461_6
        have HR461_7 := Aside0.mk hi461_7
        have HC461_7 := Aside0.mk hl461_7
        clear hi461_7 hl461_7
        replace p461 := eq_true p461
        replace q461 := eq_true q461
        have ea_ := Option.some.inj (hx456_6.symm.trans hx461_6)
        injection ea_ with ea_ en_ ec_
        subst ea_
        subst ec_
        clear en_
        have ea_ := Option.some.inj (hx456_7.symm.trans hx461_7)
        injection ea_ with ea_ en_ ec_
        subst ea_
        subst ec_
        clear en_
        go_wp2_with (first | ((with_reducible refine gate_callee (f := 13) rfl ?_); refine goesL_ (some 32) rfl rfl Try.func13 (by kernel_rfl) rfl #[.agg #[.int .i64 ((rd_T39 t447 x5_1).f0.f0), .int .i64 ((rd_T39 t447 x5_1).f0.f1), .int .i64 ((rd_T39 t447 x5_1).f0.f2), .int .i64 ((rd_T39 t447 x5_1).f0.f3), .int .i64 ((rd_T39 t447 x5_1).f0.f4), .int .i64 ((rd_T39 t447 x5_1).f0.f5), .slice A456_6 ((rd_T39 t447 x5_1).f0.f6).length c456_6, .slice A456_7 ((rd_T39 t447 x5_1).f0.f7).length c456_7], .agg #[.int .i64 0, .int .i64 0, .int .i64 0, .int .i64 0, .int .i64 0, .int .i64 0, .slice none 0 0, .slice none 0 0]] rfl (by (try simp only [List.map_toArray, List.map_cons, List.map_nil]); first | done | rfl | (simp only [List.length_drop, List.length_take]; rfl)) ?_; (refine (temperaref20_Same.calls k1 ((rd_T39 t447 x5_1).f0.f0) ((rd_T39 t447 x5_1).f0.f1) ((rd_T39 t447 x5_1).f0.f2) ((rd_T39 t447 x5_1).f0.f3) ((rd_T39 t447 x5_1).f0.f4) ((rd_T39 t447 x5_1).f0.f5) _ _ ((rd_T39 t447 x5_1).f0.f6) _ _ ((rd_T39 t447 x5_1).f0.f7) 0 0 0 0 0 0 _ _ ([] : List Int) _ _ ([] : List (S62)) true _ ?side1 ?side2 ?side3 ?side4 ?side5 ?side6 ?side7 ?side8 A13.out).mono ?_); (case side1 => repeat (first | exact (by repeat (first | (with_reducible exact HR461_6.out) | (with_reducible refine Kd.C_alloc ?_ _) | (with_reducible refine Kd.C_drewN ?_ _) | (with_reducible refine Kd.C_drew ?_) | exact HR461_6.out)) | (with_reducible refine Kd.C_alloc ?_ _) | (with_reducible refine Kd.C_drewN ?_ _) | (with_reducible refine Kd.C_drew ?_))); (case side2 => exact HC461_6.out); (case side3 => repeat (first | exact (by repeat (first | (with_reducible exact HR461_7.out) | (with_reducible refine Kd.C_alloc ?_ _) | (with_reducible refine Kd.C_drewN ?_ _) | (with_reducible refine Kd.C_drew ?_) | exact HR461_7.out)) | (with_reducible refine Kd.C_alloc ?_ _) | (with_reducible refine Kd.C_drewN ?_ _) | (with_reducible refine Kd.C_drew ?_))); (case side4 => exact HC461_7.out); (case side5 => exact Kd.C_nil _ _); (case side6 => exact Nat.le_refl _); (case side7 => exact Kd.C_nil _ _); (case side8 => exact Nat.le_refl _); rintro e w17 ⟨rfl, hb⟩; refine ⟨_, rfl, ?_⟩; have n0_ := Aside0.mk (Kd.N_below (by (with_reducible repeat (first | apply Kd.N_alloc | apply Kd.N_drewN | apply Kd.N_drew)); exact HO_3.out) hb); have n1_ := Aside0.mk (Kd.N_below (by (with_reducible repeat (first | apply Kd.N_alloc | apply Kd.N_drewN | apply Kd.N_drew)); exact HO_4.out) hb); have n2_ := Aside0.mk (Kd.V_below (by (with_reducible repeat (first | apply Kd.V_alloc | apply Kd.V_drewN | apply Kd.V_drew)); exact HL456_6.out) hb); have n3_ := Aside0.mk (Kd.V_below (by (with_reducible repeat (first | apply Kd.V_alloc | apply Kd.V_drewN | apply Kd.V_drew)); exact HL456_7.out) hb); have n4_ := Aside0.mk (Kd.V_below (by (with_reducible repeat (first | apply Kd.V_alloc | apply Kd.V_drewN | apply Kd.V_drew)); exact HL461_6.out) hb); have n5_ := Aside0.mk (Kd.V_below (by (with_reducible repeat (first | apply Kd.V_alloc | apply Kd.V_drewN | apply Kd.V_drew)); exact HL461_7.out) hb); have n6_ := Aside0.mk (Kd.C_below (by repeat (first | (with_reducible exact HR456_6.out) | (with_reducible refine Kd.C_alloc ?_ _) | (with_reducible refine Kd.C_drewN ?_ _) | (with_reducible refine Kd.C_drew ?_) | exact HR456_6.out)) hb); have n7_ := Aside0.mk (Kd.C_below (by repeat (first | (with_reducible exact HR456_7.out) | (with_reducible refine Kd.C_alloc ?_ _) | (with_reducible refine Kd.C_drewN ?_ _) | (with_reducible refine Kd.C_drew ?_) | exact HR456_7.out)) hb); have n8_ := Aside0.mk (Kd.C_below (by repeat (first | (with_reducible exact HR461_6.out) | (with_reducible refine Kd.C_alloc ?_ _) | (with_reducible refine Kd.C_drewN ?_ _) | (with_reducible refine Kd.C_drew ?_) | exact HR461_6.out)) hb); have n9_ := Aside0.mk (Kd.C_below (by repeat (first | (with_reducible exact HR461_7.out) | (with_reducible refine Kd.C_alloc ?_ _) | (with_reducible refine Kd.C_drewN ?_ _) | (with_reducible refine Kd.C_drew ?_) | exact HR461_7.out)) hb); have n10_ := Aside0.mk (below_step (by repeat (first | (with_reducible first | exact HB.out | apply below_alloc | apply pw_below_drewN | apply below_drew1) | exact HB.out)) hb); clear HO_3; clear HO_4; clear HL456_6; clear HL456_7; clear HL461_6; clear HL461_7; clear HR456_6; clear HR456_7; clear HR461_6; clear HR461_7; clear HB; have HO_3 := n0_; have HO_4 := n1_; have HL456_6 := n2_; have HL456_7 := n3_; have HL461_6 := n4_; have HL461_7 := n5_; have HR456_6 := n6_; have HR456_7 := n7_; have HR461_6 := n8_; have HR461_7 := n9_; have HB := n10_; clear n0_ n1_ n2_ n3_ n4_ n5_ n6_ n7_ n8_ n9_ n10_; (try clear hb); (try clear hb2); (try clear hk); (try clear hi)) | (go_at_call 7; (with_reducible refine (temperalaw21_awake.calls k1  t463 _ A15.out).mono ?_); rintro e w18 ⟨rfl, hb⟩; have n0_ := Aside0.mk (Kd.N_below (by (with_reducible repeat (first | apply Kd.N_alloc | apply Kd.N_drewN | apply Kd.N_drew)); exact HO_3.out) hb); have n1_ := Aside0.mk (Kd.N_below (by (with_reducible repeat (first | apply Kd.N_alloc | apply Kd.N_drewN | apply Kd.N_drew)); exact HO_4.out) hb); have n2_ := Aside0.mk (Kd.V_below (by (with_reducible repeat (first | apply Kd.V_alloc | apply Kd.V_drewN | apply Kd.V_drew)); exact HL456_6.out) hb); have n3_ := Aside0.mk (Kd.V_below (by (with_reducible repeat (first | apply Kd.V_alloc | apply Kd.V_drewN | apply Kd.V_drew)); exact HL456_7.out) hb); have n4_ := Aside0.mk (Kd.V_below (by (with_reducible repeat (first | apply Kd.V_alloc | apply Kd.V_drewN | apply Kd.V_drew)); exact HL461_6.out) hb); have n5_ := Aside0.mk (Kd.V_below (by (with_reducible repeat (first | apply Kd.V_alloc | apply Kd.V_drewN | apply Kd.V_drew)); exact HL461_7.out) hb); have n6_ := Aside0.mk (Kd.C_below (by repeat (first | (with_reducible exact HR456_6.out) | (with_reducible refine Kd.C_alloc ?_ _) | (with_reducible refine Kd.C_drewN ?_ _) | (with_reducible refine Kd.C_drew ?_) | exact HR456_6.out)) hb); have n7_ := Aside0.mk (Kd.C_below (by repeat (first | (with_reducible exact HR456_7.out) | (with_reducible refine Kd.C_alloc ?_ _) | (with_reducible refine Kd.C_drewN ?_ _) | (with_reducible refine Kd.C_drew ?_) | exact HR456_7.out)) hb); have n8_ := Aside0.mk (Kd.C_below (by repeat (first | (with_reducible exact HR461_6.out) | (with_reducible refine Kd.C_alloc ?_ _) | (with_reducible refine Kd.C_drewN ?_ _) | (with_reducible refine Kd.C_drew ?_) | exact HR461_6.out)) hb); have n9_ := Aside0.mk (Kd.C_below (by repeat (first | (with_reducible exact HR461_7.out) | (with_reducible refine Kd.C_alloc ?_ _) | (with_reducible refine Kd.C_drewN ?_ _) | (with_reducible refine Kd.C_drew ?_) | exact HR461_7.out)) hb); have n10_ := Aside0.mk (below_step (by repeat (first | (with_reducible first | exact HB.out | apply below_alloc | apply pw_below_drewN | apply below_drew1) | exact HB.out)) hb); clear HO_3; clear HO_4; clear HL456_6; clear HL456_7; clear HL461_6; clear HL461_7; clear HR456_6; clear HR456_7; clear HR461_6; clear HR461_7; clear HB; have HO_3 := n0_; have HO_4 := n1_; have HL456_6 := n2_; have HL456_7 := n3_; have HL461_6 := n4_; have HL461_7 := n5_; have HR456_6 := n6_; have HR456_7 := n7_; have HR461_6 := n8_; have HR461_7 := n9_; have HB := n10_; clear n0_ n1_ n2_ n3_ n4_ n5_ n6_ n7_ n8_ n9_ n10_; (try clear hb); (try clear hb2); (try clear hk); (try clear hi)))
        go_ret
        exact ⟨by first | rfl | (simp [errW_none, errW_some] <;> rfl) | (simp [*, errW_none, errW_some] <;> rfl), by repeat (first | (with_reducible first | exact HB.out | apply below_alloc | apply pw_below_drewN | apply below_drew1) | exact HB.out)⟩
       ·replace c14 := Bool.eq_false_iff.mpr c14
        subst c14
        have H1 : (some false) = some r := by rw [if_neg (show ¬ (false = true) by decide)] at H; exact H
        clear H
        have H := H1
        clear H1
        obtain rfl := Option.some.inj H
        obtain ⟨Ao19, co19, eo19⟩ := Kd.N_slice HO_3.out
        subst eo19
        have p456 : 0 ≤ (x5_1 : Int) := of_decide_eq_true (by first | (with_reducible assumption) | assumption)
        have q456 : x5_1 < (t447.length : Int) := of_decide_eq_true (by first | (with_reducible assumption) | assumption)
        obtain ⟨ad456, A456_6, c456_6, A456_7, c456_7, e456, hx456_0, hx456_1, hx456_2, hx456_3, hx456_4, hx456_5, hx456_6, hx456_7, hx456_8, hl456_6, hi456_6, hl456_7, hi456_7⟩ := at_T39 (Kd.N_reads' HO_3.out).2.2 x5_1 p456 q456
        cases e456
        obtain ⟨ce456, hce456, hMe456, hcc456⟩ := Kd.N_get HO_3.out z39 x5_1 p456 (by first | exact q456 | exact of_decide_eq_true (by first | (with_reducible assumption) | assumption) | (have e_ := (Kd.N_reads' HO_3.out).1; omega))
        obtain ⟨ua456_6, uc456_6, ua456_7, uc456_7, rfl, ul456_6, ge456_6, ul456_7, ge456_7⟩ := k39_openF hMe456
        have hv456_6 := hcc456 6 _ rfl
        rw [add_field _ _ 6 (by omega)] at hv456_6
        replace hv456_6 := Option.some.inj (hv456_6.symm.trans hx456_6)
        injection hv456_6 with hva_ hvn_ hvc_
        rw [hva_] at ge456_6
        rw [hvc_] at ul456_6
        have HL456_6 := Aside0.mk (show Kd.V (Kd.int .i64) 3 _ w.heap.size _ _ ((rd_T39 t447 x5_1).f0.f6) from Kd.V_mk ul456_6 ge456_6)
        clear hva_ hvn_ hvc_ ge456_6 ul456_6
        have hv456_7 := hcc456 7 _ rfl
        rw [add_field _ _ 7 (by omega)] at hv456_7
        replace hv456_7 := Option.some.inj (hv456_7.symm.trans hx456_7)
        injection hv456_7 with hva_ hvn_ hvc_
        rw [hva_] at ge456_7
        rw [hvc_] at ul456_7
        have HL456_7 := Aside0.mk (show Kd.V k62 62 _ w.heap.size _ _ ((rd_T39 t447 x5_1).f0.f7) from Kd.V_mk ul456_7 ge456_7)
        clear hva_ hvn_ hvc_ ge456_7 ul456_7
        clear hcc456 hce456
        have HR456_6 := Aside0.mk hi456_6
        have HC456_6 := Aside0.mk hl456_6
        clear hi456_6 hl456_6
        have HR456_7 := Aside0.mk hi456_7
        have HC456_7 := Aside0.mk hl456_7
        clear hi456_7 hl456_7
        replace p456 := eq_true p456
        replace q456 := eq_true q456
        have p461 : 0 ≤ (x5_1 : Int) := of_decide_eq_true (by first | (with_reducible assumption) | assumption)
        have q461 : x5_1 < (t447.length : Int) := of_decide_eq_true (by first | (with_reducible assumption) | assumption)
        obtain ⟨ad461, A461_6, c461_6, A461_7, c461_7, e461, hx461_0, hx461_1, hx461_2, hx461_3, hx461_4, hx461_5, hx461_6, hx461_7, hx461_8, hl461_6, hi461_6, hl461_7, hi461_7⟩ := at_T39 (Kd.N_reads' HO_3.out).2.2 x5_1 p461 q461
        obtain rfl : ad456 = ad461 := (by injection e461)
        obtain ⟨ce461, hce461, hMe461, hcc461⟩ := Kd.N_get HO_3.out z39 x5_1 p461 (by first | exact q461 | exact of_decide_eq_true (by first | (with_reducible assumption) | assumption) | (have e_ := (Kd.N_reads' HO_3.out).1; omega))
        obtain ⟨ua461_6, uc461_6, ua461_7, uc461_7, rfl, ul461_6, ge461_6, ul461_7, ge461_7⟩ := k39_openF hMe461
        have hv461_6 := hcc461 6 _ rfl
        rw [add_field _ _ 6 (by omega)] at hv461_6
        replace hv461_6 := Option.some.inj (hv461_6.symm.trans hx461_6)
        injection hv461_6 with hva_ hvn_ hvc_
        rw [hva_] at ge461_6
        rw [hvc_] at ul461_6
        have HL461_6 := Aside0.mk (show Kd.V (Kd.int .i64) 3 _ w.heap.size _ _ ((rd_T39 t447 x5_1).f0.f6) from Kd.V_mk ul461_6 ge461_6)
        clear hva_ hvn_ hvc_ ge461_6 ul461_6
        have hv461_7 := hcc461 7 _ rfl
        rw [add_field _ _ 7 (by omega)] at hv461_7
        replace hv461_7 := Option.some.inj (hv461_7.symm.trans hx461_7)
        injection hv461_7 with hva_ hvn_ hvc_
        rw [hva_] at ge461_7
        rw [hvc_] at ul461_7
        have HL461_7 := Aside0.mk (show Kd.V k62 62 _ w.heap.size _ _ ((rd_T39 t447 x5_1).f0.f7) from Kd.V_mk ul461_7 ge461_7)
        clear hva_ hvn_ hvc_ ge461_7 ul461_7
        clear hcc461 hce461
        have HR461_6 := Aside0.mk hi461_6
        have HC461_6 := Aside0.mk hl461_6
        clear hi461_6 hl461_6
        have HR461_7 := Aside0.mk hi461_7
        have HC461_7 := Aside0.mk hl461_7
        clear hi461_7 hl461_7
        replace p461 := eq_true p461
        replace q461 := eq_true q461
        have ea_ := Option.some.inj (hx456_6.symm.trans hx461_6)
        injection ea_ with ea_ en_ ec_
        subst ea_
        subst ec_
        clear en_
        have ea_ := Option.some.inj (hx456_7.symm.trans hx461_7)
        injection ea_ with ea_ en_ ec_
        subst ea_
        subst ec_
        clear en_
        go_wp2_with (first | ((with_reducible refine gate_callee (f := 13) rfl ?_); refine goesL_ (some 32) rfl rfl Try.func13 (by kernel_rfl) rfl #[.agg #[.int .i64 ((rd_T39 t447 x5_1).f0.f0), .int .i64 ((rd_T39 t447 x5_1).f0.f1), .int .i64 ((rd_T39 t447 x5_1).f0.f2), .int .i64 ((rd_T39 t447 x5_1).f0.f3), .int .i64 ((rd_T39 t447 x5_1).f0.f4), .int .i64 ((rd_T39 t447 x5_1).f0.f5), .slice A456_6 ((rd_T39 t447 x5_1).f0.f6).length c456_6, .slice A456_7 ((rd_T39 t447 x5_1).f0.f7).length c456_7], .agg #[.int .i64 0, .int .i64 0, .int .i64 0, .int .i64 0, .int .i64 0, .int .i64 0, .slice none 0 0, .slice none 0 0]] rfl (by (try simp only [List.map_toArray, List.map_cons, List.map_nil]); first | done | rfl | (simp only [List.length_drop, List.length_take]; rfl)) ?_; (refine (temperaref20_Same.calls k1 ((rd_T39 t447 x5_1).f0.f0) ((rd_T39 t447 x5_1).f0.f1) ((rd_T39 t447 x5_1).f0.f2) ((rd_T39 t447 x5_1).f0.f3) ((rd_T39 t447 x5_1).f0.f4) ((rd_T39 t447 x5_1).f0.f5) _ _ ((rd_T39 t447 x5_1).f0.f6) _ _ ((rd_T39 t447 x5_1).f0.f7) 0 0 0 0 0 0 _ _ ([] : List Int) _ _ ([] : List (S62)) false _ ?side1 ?side2 ?side3 ?side4 ?side5 ?side6 ?side7 ?side8 A13.out).mono ?_); (case side1 => repeat (first | exact (by repeat (first | (with_reducible exact HR461_6.out) | (with_reducible refine Kd.C_alloc ?_ _) | (with_reducible refine Kd.C_drewN ?_ _) | (with_reducible refine Kd.C_drew ?_) | exact HR461_6.out)) | (with_reducible refine Kd.C_alloc ?_ _) | (with_reducible refine Kd.C_drewN ?_ _) | (with_reducible refine Kd.C_drew ?_))); (case side2 => exact HC461_6.out); (case side3 => repeat (first | exact (by repeat (first | (with_reducible exact HR461_7.out) | (with_reducible refine Kd.C_alloc ?_ _) | (with_reducible refine Kd.C_drewN ?_ _) | (with_reducible refine Kd.C_drew ?_) | exact HR461_7.out)) | (with_reducible refine Kd.C_alloc ?_ _) | (with_reducible refine Kd.C_drewN ?_ _) | (with_reducible refine Kd.C_drew ?_))); (case side4 => exact HC461_7.out); (case side5 => exact Kd.C_nil _ _); (case side6 => exact Nat.le_refl _); (case side7 => exact Kd.C_nil _ _); (case side8 => exact Nat.le_refl _); rintro e w20 ⟨rfl, hb⟩; refine ⟨_, rfl, ?_⟩; have n0_ := Aside0.mk (Kd.N_below (by (with_reducible repeat (first | apply Kd.N_alloc | apply Kd.N_drewN | apply Kd.N_drew)); exact HO_3.out) hb); have n1_ := Aside0.mk (Kd.N_below (by (with_reducible repeat (first | apply Kd.N_alloc | apply Kd.N_drewN | apply Kd.N_drew)); exact HO_4.out) hb); have n2_ := Aside0.mk (Kd.V_below (by (with_reducible repeat (first | apply Kd.V_alloc | apply Kd.V_drewN | apply Kd.V_drew)); exact HL456_6.out) hb); have n3_ := Aside0.mk (Kd.V_below (by (with_reducible repeat (first | apply Kd.V_alloc | apply Kd.V_drewN | apply Kd.V_drew)); exact HL456_7.out) hb); have n4_ := Aside0.mk (Kd.V_below (by (with_reducible repeat (first | apply Kd.V_alloc | apply Kd.V_drewN | apply Kd.V_drew)); exact HL461_6.out) hb); have n5_ := Aside0.mk (Kd.V_below (by (with_reducible repeat (first | apply Kd.V_alloc | apply Kd.V_drewN | apply Kd.V_drew)); exact HL461_7.out) hb); have n6_ := Aside0.mk (Kd.C_below (by repeat (first | (with_reducible exact HR456_6.out) | (with_reducible refine Kd.C_alloc ?_ _) | (with_reducible refine Kd.C_drewN ?_ _) | (with_reducible refine Kd.C_drew ?_) | exact HR456_6.out)) hb); have n7_ := Aside0.mk (Kd.C_below (by repeat (first | (with_reducible exact HR456_7.out) | (with_reducible refine Kd.C_alloc ?_ _) | (with_reducible refine Kd.C_drewN ?_ _) | (with_reducible refine Kd.C_drew ?_) | exact HR456_7.out)) hb); have n8_ := Aside0.mk (Kd.C_below (by repeat (first | (with_reducible exact HR461_6.out) | (with_reducible refine Kd.C_alloc ?_ _) | (with_reducible refine Kd.C_drewN ?_ _) | (with_reducible refine Kd.C_drew ?_) | exact HR461_6.out)) hb); have n9_ := Aside0.mk (Kd.C_below (by repeat (first | (with_reducible exact HR461_7.out) | (with_reducible refine Kd.C_alloc ?_ _) | (with_reducible refine Kd.C_drewN ?_ _) | (with_reducible refine Kd.C_drew ?_) | exact HR461_7.out)) hb); have n10_ := Aside0.mk (below_step (by repeat (first | (with_reducible first | exact HB.out | apply below_alloc | apply pw_below_drewN | apply below_drew1) | exact HB.out)) hb); clear HO_3; clear HO_4; clear HL456_6; clear HL456_7; clear HL461_6; clear HL461_7; clear HR456_6; clear HR456_7; clear HR461_6; clear HR461_7; clear HB; have HO_3 := n0_; have HO_4 := n1_; have HL456_6 := n2_; have HL456_7 := n3_; have HL461_6 := n4_; have HL461_7 := n5_; have HR456_6 := n6_; have HR456_7 := n7_; have HR461_6 := n8_; have HR461_7 := n9_; have HB := n10_; clear n0_ n1_ n2_ n3_ n4_ n5_ n6_ n7_ n8_ n9_ n10_; (try clear hb); (try clear hb2); (try clear hk); (try clear hi)))
        go_ret
        exact ⟨by first | rfl | (simp [errW_none, errW_some] <;> rfl) | (simp [*, errW_none, errW_some] <;> rfl), by repeat (first | (with_reducible first | exact HB.out | apply below_alloc | apply pw_below_drewN | apply below_drew1) | exact HB.out)⟩
     ·rw [if_neg c8] at H
      exact absurd H (by simp)
    ·rw [if_neg c7] at H
     have c7b0 : decide (x5_1 < (t447.length : Int)) = false := decide_eq_false c7
     clear c7
     replace H := Option.bind_eq_some_iff.mp H
     obtain ⟨⟨t450, t451⟩, A210, H⟩ := H
     replace H : (if t451 = 0 then ((temperaref21_Bytes.f k1 t450 l0).bind fun t454 => (if t454 = true then ((temperalaw21_awake.f k1).bind fun t455 => (some t455)) else (some false))) else (some false)) = some r := H
     have A21 := Aside0.mk A210
     clear A210
     by_cases c22 : t451 = 0
     ·rw [if_pos c22] at H
      have c22b0 : (t451 == 0) = true := beq_iff_eq.mpr c22
      have c22b1 : (t451 != 0) = false := bne_eq_false_iff_eq.mpr c22
      clear c22
      replace H := Option.bind_eq_some_iff.mp H
      obtain ⟨t454, A230, H⟩ := H
      replace H : (if t454 = true then ((temperalaw21_awake.f k1).bind fun t455 => (some t455)) else (some false)) = some r := H
      have A23 := Aside0.mk A230
      clear A230
      by_cases c24 : t454 = true
      ·subst c24
       have H1 : ((temperalaw21_awake.f k1).bind fun t455 => (some t455)) = some r := by rw [if_pos rfl] at H; exact H
       clear H
       have H := H1
       clear H1
       replace H := Option.bind_eq_some_iff.mp H
       obtain ⟨t455, A250, H⟩ := H
       replace H : (some t455) = some r := H
       have A25 := Aside0.mk A250
       clear A250
       obtain rfl := Option.some.inj H
       obtain ⟨Ao26, co26, eo26⟩ := Kd.N_slice HO_3.out
       subst eo26
       obtain ⟨Ao27, co27, eo27⟩ := Kd.N_slice HO_4.out
       subst eo27
       go_wp2_with (first | ((with_reducible refine gate_callee (f := 8) rfl ?_); refine goesL_ (some 46) rfl rfl Try.func8 (by kernel_rfl) rfl #[.slice Ao27 x4_1.length co27] rfl (by (try simp only [List.map_toArray, List.map_cons, List.map_nil]); first | done | rfl | (simp only [List.length_drop, List.length_take]; rfl)) ?_; (with_reducible refine (code_Encode.calls k1 _ _ x4_1 t450 t451 _ ?side1 ?side2 A21.out).mono ?_); (case side1 => repeat (first | exact (Kd.N_reads' HO_4.out).2.2 | (with_reducible refine Kd.C_alloc ?_ _) | (with_reducible refine Kd.C_drewN ?_ _) | (with_reducible refine Kd.C_drew ?_))); (case side2 => exact (Kd.N_reads' HO_4.out).2.1); rintro e w28 ⟨v452, rfl, ho0, hb⟩; refine ⟨_, rfl, ?_⟩; have n0_ := Aside0.mk (Kd.N_elder' (by (with_reducible repeat (first | apply Kd.N_alloc | apply Kd.N_drewN | apply Kd.N_drew)); exact HO_3.out) (Kd.R_base ho0) hb); have n1_ := Aside0.mk (Kd.N_elder' (by (with_reducible repeat (first | apply Kd.N_alloc | apply Kd.N_drewN | apply Kd.N_drew)); exact HO_4.out) (Kd.R_base ho0) hb); have n2_ := Aside0.mk (Kd.R_lower ho0 (below_size (by repeat (first | (with_reducible first | exact HB.out | apply below_alloc | apply pw_below_drewN | apply below_drew1) | exact HB.out)))); have n3_ := Aside0.mk (below_step (by repeat (first | (with_reducible first | exact HB.out | apply below_alloc | apply pw_below_drewN | apply below_drew1) | exact HB.out)) hb); clear HO_3; clear HO_4; clear HB; have HO_3 := n0_; have HO_4 := n1_; have HO453 := n2_; have HB := n3_; clear n0_ n1_ n2_ n3_; (try clear hb); (try clear hb2); (try clear hk); (try clear hi); (try clear ho0); obtain ⟨Ao29, co29, eo29⟩ := Kd.R_slice HO453.out; subst eo29) | (go_at_call 11; (with_reducible refine (temperaref21_Bytes.calls k1 _ _ t450 _ _ l0 true _ ?side1 ?side2 ?side3 ?side4 A23.out).mono ?_); (case side1 => repeat (first | exact (Kd.R_reads' HO453.out).2.2 | (with_reducible refine Kd.C_alloc ?_ _) | (with_reducible refine Kd.C_drewN ?_ _) | (with_reducible refine Kd.C_drew ?_))); (case side2 => exact (Kd.R_reads' HO453.out).2.1); (case side3 => repeat (first | exact (Kd.C_below HR0.out HB.out) | (with_reducible refine Kd.C_alloc ?_ _) | (with_reducible refine Kd.C_drewN ?_ _) | (with_reducible refine Kd.C_drew ?_))); (case side4 => exact HC0.out); rintro e w' ⟨rfl, ⟨nd, rfl⟩⟩) | (go_at_call 7; (with_reducible refine (temperalaw21_awake.calls k1  t455 _ A25.out).mono ?_); rintro e w30 ⟨rfl, hb⟩; have n0_ := Aside0.mk (Kd.N_below (by (with_reducible repeat (first | apply Kd.N_alloc | apply Kd.N_drewN | apply Kd.N_drew)); exact HO_3.out) hb); have n1_ := Aside0.mk (Kd.N_below (by (with_reducible repeat (first | apply Kd.N_alloc | apply Kd.N_drewN | apply Kd.N_drew)); exact HO_4.out) hb); have n2_ := Aside0.mk (Kd.R_below (by (with_reducible repeat (first | apply Kd.R_alloc | apply Kd.R_drewN | apply Kd.R_drew)); exact HO453.out) hb); have n3_ := Aside0.mk (below_step (by repeat (first | (with_reducible first | exact HB.out | apply below_alloc | apply pw_below_drewN | apply below_drew1) | exact HB.out)) hb); clear HO_3; clear HO_4; clear HO453; clear HB; have HO_3 := n0_; have HO_4 := n1_; have HO453 := n2_; have HB := n3_; clear n0_ n1_ n2_ n3_; (try clear hb); (try clear hb2); (try clear hk); (try clear hi)))
       go_ret
       exact ⟨by first | rfl | (simp [errW_none, errW_some] <;> rfl) | (simp [*, errW_none, errW_some] <;> rfl), by repeat (first | (with_reducible first | exact HB.out | apply below_alloc | apply pw_below_drewN | apply below_drew1) | exact HB.out)⟩
      ·replace c24 := Bool.eq_false_iff.mpr c24
       subst c24
       have H1 : (some false) = some r := by rw [if_neg (show ¬ (false = true) by decide)] at H; exact H
       clear H
       have H := H1
       clear H1
       obtain rfl := Option.some.inj H
       obtain ⟨Ao31, co31, eo31⟩ := Kd.N_slice HO_3.out
       subst eo31
       obtain ⟨Ao32, co32, eo32⟩ := Kd.N_slice HO_4.out
       subst eo32
       go_wp2_with (first | ((with_reducible refine gate_callee (f := 8) rfl ?_); refine goesL_ (some 46) rfl rfl Try.func8 (by kernel_rfl) rfl #[.slice Ao32 x4_1.length co32] rfl (by (try simp only [List.map_toArray, List.map_cons, List.map_nil]); first | done | rfl | (simp only [List.length_drop, List.length_take]; rfl)) ?_; (with_reducible refine (code_Encode.calls k1 _ _ x4_1 t450 t451 _ ?side1 ?side2 A21.out).mono ?_); (case side1 => repeat (first | exact (Kd.N_reads' HO_4.out).2.2 | (with_reducible refine Kd.C_alloc ?_ _) | (with_reducible refine Kd.C_drewN ?_ _) | (with_reducible refine Kd.C_drew ?_))); (case side2 => exact (Kd.N_reads' HO_4.out).2.1); rintro e w33 ⟨v452, rfl, ho0, hb⟩; refine ⟨_, rfl, ?_⟩; have n0_ := Aside0.mk (Kd.N_elder' (by (with_reducible repeat (first | apply Kd.N_alloc | apply Kd.N_drewN | apply Kd.N_drew)); exact HO_3.out) (Kd.R_base ho0) hb); have n1_ := Aside0.mk (Kd.N_elder' (by (with_reducible repeat (first | apply Kd.N_alloc | apply Kd.N_drewN | apply Kd.N_drew)); exact HO_4.out) (Kd.R_base ho0) hb); have n2_ := Aside0.mk (Kd.R_lower ho0 (below_size (by repeat (first | (with_reducible first | exact HB.out | apply below_alloc | apply pw_below_drewN | apply below_drew1) | exact HB.out)))); have n3_ := Aside0.mk (below_step (by repeat (first | (with_reducible first | exact HB.out | apply below_alloc | apply pw_below_drewN | apply below_drew1) | exact HB.out)) hb); clear HO_3; clear HO_4; clear HB; have HO_3 := n0_; have HO_4 := n1_; have HO453 := n2_; have HB := n3_; clear n0_ n1_ n2_ n3_; (try clear hb); (try clear hb2); (try clear hk); (try clear hi); (try clear ho0); obtain ⟨Ao34, co34, eo34⟩ := Kd.R_slice HO453.out; subst eo34) | (go_at_call 11; (with_reducible refine (temperaref21_Bytes.calls k1 _ _ t450 _ _ l0 false _ ?side1 ?side2 ?side3 ?side4 A23.out).mono ?_); (case side1 => repeat (first | exact (Kd.R_reads' HO453.out).2.2 | (with_reducible refine Kd.C_alloc ?_ _) | (with_reducible refine Kd.C_drewN ?_ _) | (with_reducible refine Kd.C_drew ?_))); (case side2 => exact (Kd.R_reads' HO453.out).2.1); (case side3 => repeat (first | exact (Kd.C_below HR0.out HB.out) | (with_reducible refine Kd.C_alloc ?_ _) | (with_reducible refine Kd.C_drewN ?_ _) | (with_reducible refine Kd.C_drew ?_))); (case side4 => exact HC0.out); rintro e w' ⟨rfl, ⟨nd, rfl⟩⟩))
       go_ret
       exact ⟨by first | rfl | (simp [errW_none, errW_some] <;> rfl) | (simp [*, errW_none, errW_some] <;> rfl), by repeat (first | (with_reducible first | exact HB.out | apply below_alloc | apply pw_below_drewN | apply below_drew1) | exact HB.out)⟩
     ·rw [if_neg c22] at H
      have c22b0 : (t451 == 0) = false := beq_eq_false_iff_ne.mpr c22
      have c22b1 : (t451 != 0) = true := bne_iff_ne.mpr c22
      obtain rfl := Option.some.inj H
      obtain ⟨Ao35, co35, eo35⟩ := Kd.N_slice HO_3.out
      subst eo35
      obtain ⟨Ao36, co36, eo36⟩ := Kd.N_slice HO_4.out
      subst eo36
      go_wp2_with (first | ((with_reducible refine gate_callee (f := 8) rfl ?_); refine goesL_ (some 46) rfl rfl Try.func8 (by kernel_rfl) rfl #[.slice Ao36 x4_1.length co36] rfl (by (try simp only [List.map_toArray, List.map_cons, List.map_nil]); first | done | rfl | (simp only [List.length_drop, List.length_take]; rfl)) ?_; (with_reducible refine (code_Encode.calls k1 _ _ x4_1 t450 t451 _ ?side1 ?side2 A21.out).mono ?_); (case side1 => repeat (first | exact (Kd.N_reads' HO_4.out).2.2 | (with_reducible refine Kd.C_alloc ?_ _) | (with_reducible refine Kd.C_drewN ?_ _) | (with_reducible refine Kd.C_drew ?_))); (case side2 => exact (Kd.N_reads' HO_4.out).2.1); rintro e w37 ⟨v452, rfl, ho0, hb⟩; refine ⟨_, rfl, ?_⟩; have n0_ := Aside0.mk (Kd.N_elder' (by (with_reducible repeat (first | apply Kd.N_alloc | apply Kd.N_drewN | apply Kd.N_drew)); exact HO_3.out) (Kd.R_base ho0) hb); have n1_ := Aside0.mk (Kd.N_elder' (by (with_reducible repeat (first | apply Kd.N_alloc | apply Kd.N_drewN | apply Kd.N_drew)); exact HO_4.out) (Kd.R_base ho0) hb); have n2_ := Aside0.mk (Kd.R_lower ho0 (below_size (by repeat (first | (with_reducible first | exact HB.out | apply below_alloc | apply pw_below_drewN | apply below_drew1) | exact HB.out)))); have n3_ := Aside0.mk (below_step (by repeat (first | (with_reducible first | exact HB.out | apply below_alloc | apply pw_below_drewN | apply below_drew1) | exact HB.out)) hb); clear HO_3; clear HO_4; clear HB; have HO_3 := n0_; have HO_4 := n1_; have HO453 := n2_; have HB := n3_; clear n0_ n1_ n2_ n3_; (try clear hb); (try clear hb2); (try clear hk); (try clear hi); (try clear ho0)))
      go_ret
      exact ⟨by first | rfl | (simp [errW_none, errW_some] <;> rfl) | (simp [*, errW_none, errW_some] <;> rfl), by repeat (first | (with_reducible first | exact HB.out | apply below_alloc | apply pw_below_drewN | apply below_drew1) | exact HB.out)⟩
end Go.Proofs.Ytpgjkndijdleeaa.PCode
end
section
namespace Go.Proofs.Ytpgjkndijdleeaa.PCode
open Go.RowKit Go.Proofs.YtpgjkndijdleeaaW.PrintWords Go.Proofs.YtpgjkndijdleeaaW.PrintLast Go.Proofs.YtpgjkndijdleeaaW.PrintMore
set_option linter.unusedVariables false
set_option linter.unusedSimpArgs false
theorem okC.small {x : S37} (h : okC x) : (1 ≤ x.f0 ∧ x.f0 ≤ 19) ∧ ¬ bigC x := by
 refine ⟨h.1, ?_⟩
 unfold bigC
 rw [h.2.1]
 have h6 := h.2.2.2.1
 have h7 := h.2.2.2.2
 omega
theorem okC.light {x : S37} (h : okC x) : intsC x ∧ lightC x := ⟨h.2.2.1, by have := h.2.2.2.1; have := h.2.2.2.2; exact ⟨by omega, by omega⟩⟩
theorem once_l0 (b : List Int) (hlen : b.length ≤ 3000) (hb : ∀ x ∈ b, 0 ≤ x ∧ x ≤ 255) (its : List S39) (hits : its = decR (b.length + 1) b) : ∀ (d i : Nat), i + d = its.length → (∀ it ∈ its.take i, it.f1 = 0) → Ev (fun k => temperalaw21_CodeOnce.l0 k b its ((its.take i).map S39.f0) (i : Int)) true
 | 0, i, h, hz => by
  have hl : its.length ≤ 3000 := by rw [hits]; exact Nat.le_trans (decR_len _ _) hlen
  rw [List.take_of_length_le (by omega)] at hz ⊢
  have hok : ∀ x ∈ its.map S39.f0, okC x := by
   intro x hx
   obtain ⟨it, hit, rfl⟩ := List.mem_map.1 hx
   exact decR_ok (b.length + 1) b hb it (by rw [← hits]; exact hit) (hz it hit)
  have hinv : b = encL (its.map S39.f0) := by
   have := decR_inv (b.length + 1) b hb (by omega) (by rw [← hits]; exact hz)
   rw [← hits] at this
   exact this
  have hchk := chk_ok (its.map S39.f0) (fun x hx => (hok x hx).small)
  refine Ev.up (Ev.congr (f := fun k => (code_Encode.f k (its.map S39.f0)).bind fun bt => (if bt.2 = 0 then ((temperaref21_Bytes.f k bt.1 b).bind fun t => (if t = true then ((temperalaw21_awake.f k).bind fun t2 => (some t2)) else (some false))) else (some false))) (fun k => ?_) ?_)
  ·simp only [temperalaw21_CodeOnce.l0]
   rw [if_neg (by omega)]
  ·refine Ev.bind (encode_is _ (by rw [List.length_map]; omega) (fun x hx => (hok x hx).light)) ?_
   rw [encA_ok _ _ hchk, List.nil_append, ← hinv]
   simp only [if_true]
   refine Ev.bind (bytes_is b (by omega)) ?_
   simp only [if_true]
   exact Ev.bind awake_is (Ev.now true)
 | d + 1, i, h, hz => by
  have hl : its.length ≤ 3000 := by rw [hits]; exact Nat.le_trans (decR_len _ _) hlen
  have hlt : i < its.length := by omega
  have p1 : (i : Int) < (its.length : Int) := by omega
  have p2 : 0 ≤ (i : Int) := by omega
  have hmem : its[i] ∈ decR (b.length + 1) b := by rw [← hits]; exact List.getElem_mem hlt
  by_cases he : its[i].f1 = 0
  ·have ht : its.take (i + 1) = its.take i ++ [its[i]] := List.take_succ_eq_append_getElem hlt
   have ih := once_l0 b hlen hb its hits d (i + 1) (by omega) (fun it hit => by
    rw [ht] at hit
    rcases List.mem_append.1 hit with hit | hit
    ·exact hz it hit
    ·rw [List.mem_singleton.1 hit]; exact he)
   rw [ht, List.map_append] at ih
   refine Ev.up (Ev.congr (fun k => ?_) ih)
   simp only [temperalaw21_CodeOnce.l0]
   rw [if_pos p1, if_pos p2, rdT39 its i hlt, if_pos he, if_pos (by rw [List.length_map, List.length_take]; omega), w1 i (by omega)]
   rfl
  ·have hbad := decR_bad (b.length + 1) b its[i] hmem he
   refine Ev.up (Ev.congr (f := fun k => (temperaref20_Same.f k (zc 0).f0 (zc 0).f1 (zc 0).f2 (zc 0).f3 (zc 0).f4 (zc 0).f5 (zc 0).f6 (zc 0).f7 (zc 0).f0 (zc 0).f1 (zc 0).f2 (zc 0).f3 (zc 0).f4 (zc 0).f5 (zc 0).f6 (zc 0).f7).bind fun t => (if t = true then ((temperalaw21_awake.f k).bind fun t2 => (some t2)) else (some false))) (fun k => ?_) ?_)
   ·simp only [temperalaw21_CodeOnce.l0]
    rw [if_pos p1, if_pos p2, rdT39 its i hlt, if_neg he, hbad]
    rfl
   ·refine Ev.bind (same_is (zc 0) (by decide) (by decide)) ?_
    simp only [if_true]
    exact Ev.bind awake_is (Ev.now true)
theorem once_plain (b : List Int) (hb : ∀ x ∈ b, 0 ≤ x ∧ x ≤ 255) : ∃ k, temperalaw21_CodeOnce.f k b = some true := by
 refine Ev.rounds ?_
 unfold temperalaw21_CodeOnce.f
 by_cases h : (b.length : Int) > 3000
 ·simp only [if_pos h]
  exact Ev.bind awake_is (Ev.now true)
 ·simp only [if_neg h]
  rw [decode_is b (by omega) hb]
  simp only [Option.bind_some]
  exact once_l0 b (by omega) hb _ rfl (decR (b.length + 1) b).length 0 (by omega) (by simp)
end Go.Proofs.Ytpgjkndijdleeaa.PCode
end
section
namespace Go.Proofs.Ytpgjkndijdleeaa.Plain
open Go.RowKit Go.Proofs.Ytpgjkndijdleeaa.PCode Go.Proofs.YtpgjkndijdleeaaW.PrintWords
theorem CodeOnce (l : List Int) (h : rowOk (inKind .u8) l) : ∃ k, temperalaw21_CodeOnce.f k l = some true := once_plain l (fun x hx => inKind_u8 (h.2 x hx))
end Go.Proofs.Ytpgjkndijdleeaa.Plain
end
