/- The law LexWords, as myprint.py prints it, under the tables. -/
import Derived.Test.YtaaibnpjajfpgaaDoorLexG
namespace Go.Proofs.YtaaibnpjajfpgaaDoor.PLex
open Go.RowKit Go.Proofs.YtaaibnpjajfpgaaDoorW.PrintWords Go.Proofs.YtaaibnpjajfpgaaDoorW.PrintLast Go.Proofs.YtaaibnpjajfpgaaDoorW.PrintMore
attribute [local go_sem] max2_int min2_int max_two min_two max_three min_three max_four min_four   -- for this text's walks alone
set_option linter.unusedVariables false
set_option linter.unusedSimpArgs false

/-! ### temperalaw04_LexWords: function 5 -/
mutual
def temperalaw04_LexWords.j0 : Nat → ByteArray → List ByteArray → Bool → Option (Bool)
  | 0, _, _, _ => none
  | k + 1, x0, x1, x22 => if x22 = true then ((temperalaw04_awake.f k).bind fun t260 => (some t260)) else ((lex_Words.f k x0).bind fun bt261 => ((temperaref04_Words.f k x0).bind fun bt265 => (if bt265.2 = true then (if bt261.2 = 0 then ((temperaref04_Same.f k bt261.1 bt265.1).bind fun t269 => (if t269 = true then (temperalaw04_LexWords.j1 k x1 false) else (temperalaw04_LexWords.j1 k x1 true))) else (temperalaw04_LexWords.j1 k x1 true)) else (if bt261.2 = 13 then (temperalaw04_LexWords.j1 k x1 ((bt261.1.length : Int) != 0)) else (temperalaw04_LexWords.j1 k x1 true)))))
def temperalaw04_LexWords.j1 : Nat → List ByteArray → Bool → Option (Bool)
  | 0, _, _ => none
  | k + 1, x1, x57 => if x57 = true then (some false) else (temperalaw04_LexWords.l0 k x1 0)
def temperalaw04_LexWords.l0 : Nat → List ByteArray → Int → Option (Bool)
  | 0, _, _ => none
  | k + 1, x1, x9 => if x9 < (x1.length : Int) then (if 0 ≤ x9 then (if ((rdOf ByteArray.empty x1 x9).size : Int) > 100 then ((temperalaw04_awake.f k).bind fun t271 => (some t271)) else (temperalaw04_LexWords.l0 k x1 (wrap64 (x9 + 1)))) else (none)) else ((lex_Join.f k x1).bind fun bt272 => ((temperaref04_Join.f k x1).bind fun t274 => ((temperaref04_Words.f k t274).bind fun bt275 => (if bt275.2 = true then ((temperaref04_Same.f k bt275.1 x1).bind fun t279 => (temperalaw04_LexWords.j3 k bt272.1 bt272.2 t274 (!t279))) else (temperalaw04_LexWords.j3 k bt272.1 bt272.2 t274 true)))))
def temperalaw04_LexWords.j3 : Nat → ByteArray → Int → ByteArray → Bool → Option (Bool)
  | 0, _, _, _, _ => none
  | k + 1, x10, x11, x12, x90 => if x90 = true then (if x10.toList = ([] : List UInt8) then (if x11 = 13 then ((temperalaw04_awake.f k).bind fun t280 => (some t280)) else (some false)) else (some false)) else (if x10.toList = x12.toList then (if x11 = 0 then ((temperalaw04_awake.f k).bind fun t281 => (some t281)) else (some false)) else (some false))
end
def temperalaw04_LexWords.f (k : Nat) (a0 : ByteArray) (l1 : List ByteArray) : Option (Bool) := if (a0.size : Int) > 300 then (temperalaw04_LexWords.j0 k a0 l1 true) else (temperalaw04_LexWords.j0 k a0 l1 (decide ((l1.length : Int) > 30)))
theorem temperalaw04_LexWords.mono_l : ∀ k, (∀ y0 y1 y2, LeO (temperalaw04_LexWords.j0 k y0 y1 y2) (temperalaw04_LexWords.j0 (k + 1) y0 y1 y2)) ∧ (∀ y0 y1, LeO (temperalaw04_LexWords.j1 k y0 y1) (temperalaw04_LexWords.j1 (k + 1) y0 y1)) ∧ (∀ y0 y1, LeO (temperalaw04_LexWords.l0 k y0 y1) (temperalaw04_LexWords.l0 (k + 1) y0 y1)) ∧ (∀ y0 y1 y2 y3, LeO (temperalaw04_LexWords.j3 k y0 y1 y2 y3) (temperalaw04_LexWords.j3 (k + 1) y0 y1 y2 y3))
  | 0 => ⟨fun _ _ _ r h => by simp [temperalaw04_LexWords.j0] at h, fun _ _ r h => by simp [temperalaw04_LexWords.j1] at h, fun _ _ r h => by simp [temperalaw04_LexWords.l0] at h, fun _ _ _ _ r h => by simp [temperalaw04_LexWords.j3] at h⟩
  | k + 1 => by
    obtain ⟨ih0, ih1, ih2, ih3⟩ := temperalaw04_LexWords.mono_l k
    refine ⟨?_, ?_, ?_, ?_⟩
    · intro y0 y1 y2
      unfold temperalaw04_LexWords.j0
      repeat' first
      | (with_reducible exact ih0 _ _ _)
      | (with_reducible exact ih1 _ _)
      | (with_reducible exact ih2 _ _)
      | (with_reducible exact ih3 _ _ _ _)
      | (with_reducible exact lex_Join.mono _ _)
      | (with_reducible exact lex_Words.mono _ _)
      | (with_reducible exact temperalaw04_awake.mono _)
      | (with_reducible exact temperaref04_Join.mono _ _)
      | (with_reducible exact temperaref04_Same.mono _ _ _)
      | (with_reducible exact temperaref04_Words.mono _ _)
      | (with_reducible exact LeO.refl _)
      | (with_reducible exact LeO.none _)
      | (with_reducible refine LeO.ite ?_ ?_)
      | (with_reducible refine LeO.bind ?_ (fun _ => ?_))
      | exact ih0 _ _ _
      | exact ih1 _ _
      | exact ih2 _ _
      | exact ih3 _ _ _ _
      | exact lex_Join.mono _ _
      | exact lex_Words.mono _ _
      | exact temperalaw04_awake.mono _
      | exact temperaref04_Join.mono _ _
      | exact temperaref04_Same.mono _ _ _
      | exact temperaref04_Words.mono _ _
      | exact LeO.none _
      | refine LeO.ite ?_ ?_
      | refine LeO.bind ?_ (fun _ => ?_)
    · intro y0 y1
      unfold temperalaw04_LexWords.j1
      repeat' first
      | (with_reducible exact ih0 _ _ _)
      | (with_reducible exact ih1 _ _)
      | (with_reducible exact ih2 _ _)
      | (with_reducible exact ih3 _ _ _ _)
      | (with_reducible exact lex_Join.mono _ _)
      | (with_reducible exact lex_Words.mono _ _)
      | (with_reducible exact temperalaw04_awake.mono _)
      | (with_reducible exact temperaref04_Join.mono _ _)
      | (with_reducible exact temperaref04_Same.mono _ _ _)
      | (with_reducible exact temperaref04_Words.mono _ _)
      | (with_reducible exact LeO.refl _)
      | (with_reducible exact LeO.none _)
      | (with_reducible refine LeO.ite ?_ ?_)
      | (with_reducible refine LeO.bind ?_ (fun _ => ?_))
      | exact ih0 _ _ _
      | exact ih1 _ _
      | exact ih2 _ _
      | exact ih3 _ _ _ _
      | exact lex_Join.mono _ _
      | exact lex_Words.mono _ _
      | exact temperalaw04_awake.mono _
      | exact temperaref04_Join.mono _ _
      | exact temperaref04_Same.mono _ _ _
      | exact temperaref04_Words.mono _ _
      | exact LeO.none _
      | refine LeO.ite ?_ ?_
      | refine LeO.bind ?_ (fun _ => ?_)
    · intro y0 y1
      unfold temperalaw04_LexWords.l0
      repeat' first
      | (with_reducible exact ih0 _ _ _)
      | (with_reducible exact ih1 _ _)
      | (with_reducible exact ih2 _ _)
      | (with_reducible exact ih3 _ _ _ _)
      | (with_reducible exact lex_Join.mono _ _)
      | (with_reducible exact lex_Words.mono _ _)
      | (with_reducible exact temperalaw04_awake.mono _)
      | (with_reducible exact temperaref04_Join.mono _ _)
      | (with_reducible exact temperaref04_Same.mono _ _ _)
      | (with_reducible exact temperaref04_Words.mono _ _)
      | (with_reducible exact LeO.refl _)
      | (with_reducible exact LeO.none _)
      | (with_reducible refine LeO.ite ?_ ?_)
      | (with_reducible refine LeO.bind ?_ (fun _ => ?_))
      | exact ih0 _ _ _
      | exact ih1 _ _
      | exact ih2 _ _
      | exact ih3 _ _ _ _
      | exact lex_Join.mono _ _
      | exact lex_Words.mono _ _
      | exact temperalaw04_awake.mono _
      | exact temperaref04_Join.mono _ _
      | exact temperaref04_Same.mono _ _ _
      | exact temperaref04_Words.mono _ _
      | exact LeO.none _
      | refine LeO.ite ?_ ?_
      | refine LeO.bind ?_ (fun _ => ?_)
    · intro y0 y1 y2 y3
      unfold temperalaw04_LexWords.j3
      repeat' first
      | (with_reducible exact ih0 _ _ _)
      | (with_reducible exact ih1 _ _)
      | (with_reducible exact ih2 _ _)
      | (with_reducible exact ih3 _ _ _ _)
      | (with_reducible exact lex_Join.mono _ _)
      | (with_reducible exact lex_Words.mono _ _)
      | (with_reducible exact temperalaw04_awake.mono _)
      | (with_reducible exact temperaref04_Join.mono _ _)
      | (with_reducible exact temperaref04_Same.mono _ _ _)
      | (with_reducible exact temperaref04_Words.mono _ _)
      | (with_reducible exact LeO.refl _)
      | (with_reducible exact LeO.none _)
      | (with_reducible refine LeO.ite ?_ ?_)
      | (with_reducible refine LeO.bind ?_ (fun _ => ?_))
      | exact ih0 _ _ _
      | exact ih1 _ _
      | exact ih2 _ _
      | exact ih3 _ _ _ _
      | exact lex_Join.mono _ _
      | exact lex_Words.mono _ _
      | exact temperalaw04_awake.mono _
      | exact temperaref04_Join.mono _ _
      | exact temperaref04_Same.mono _ _ _
      | exact temperaref04_Words.mono _ _
      | exact LeO.none _
      | refine LeO.ite ?_ ?_
      | refine LeO.bind ?_ (fun _ => ?_)
theorem temperalaw04_LexWords.mono : ∀ a0 a1 k, LeO (temperalaw04_LexWords.f k a0 a1) (temperalaw04_LexWords.f (k + 1) a0 a1) := by
  intro a0 a1 k
  obtain ⟨ih0, ih1, ih2, ih3⟩ := temperalaw04_LexWords.mono_l k
  unfold temperalaw04_LexWords.f
  repeat' first
      | (with_reducible exact ih0 _ _ _)
      | (with_reducible exact ih1 _ _)
      | (with_reducible exact ih2 _ _)
      | (with_reducible exact ih3 _ _ _ _)
      | (with_reducible exact lex_Join.mono _ _)
      | (with_reducible exact lex_Words.mono _ _)
      | (with_reducible exact temperalaw04_awake.mono _)
      | (with_reducible exact temperaref04_Join.mono _ _)
      | (with_reducible exact temperaref04_Same.mono _ _ _)
      | (with_reducible exact temperaref04_Words.mono _ _)
      | (with_reducible exact LeO.refl _)
      | (with_reducible exact LeO.none _)
      | (with_reducible refine LeO.ite ?_ ?_)
      | (with_reducible refine LeO.bind ?_ (fun _ => ?_))
      | exact ih0 _ _ _
      | exact ih1 _ _
      | exact ih2 _ _
      | exact ih3 _ _ _ _
      | exact lex_Join.mono _ _
      | exact lex_Words.mono _ _
      | exact temperalaw04_awake.mono _
      | exact temperaref04_Join.mono _ _
      | exact temperaref04_Same.mono _ _ _
      | exact temperaref04_Words.mono _ _
      | exact LeO.none _
      | refine LeO.ite ?_ ?_
      | refine LeO.bind ?_ (fun _ => ?_)
set_option maxHeartbeats 8000000 in
set_option maxRecDepth 100000 in
theorem temperalaw04_LexWords.calls (k : Nat) (a0 : ByteArray) (A1 : Option Addr) (c1 : Nat) (l1 : List ByteArray) (r : Bool) (w : World) (hT : Tabs w) (hr1 : Kd.C Kd.string w A1 l1.length l1) (hc1 : l1.length ≤ c1) (h : temperalaw04_LexWords.f k a0 l1 = some r) :
    Calls Tryd.prog 5 #[.string a0, .slice A1 l1.length c1] w fun e w' => e = .returned (.bool r) ∧ Below w.heap.size w w' := by
  have HT := Aside0.mk hT
  clear hT
  have HR1 := Aside0.mk hr1
  have HC1 := Aside0.mk hc1
  clear hr1 hc1
  have HB := Aside0.mk (Below.refl w.heap.size w)
  have H : (if (a0.size : Int) > 300 then (temperalaw04_LexWords.j0 k a0 l1 true) else (temperalaw04_LexWords.j0 k a0 l1 (decide ((l1.length : Int) > 30)))) = some r := h
  clear h
  have HC3 := Aside0.mk H
  clear H
  go_enter Tryd.func5, Tryd.ntmps5
  go_upto_region 1 with (fail)
  go_cut [22] (fun v22 wc => ∃ (kq : Nat) (x22_2 : Bool), v22 = .bool x22_2 ∧ Aside0 (temperalaw04_LexWords.j0 kq a0 l1 x22_2 = some r) ∧ Aside0 (kq ≤ k) ∧ Aside0 (Below w.heap.size w wc))
  case first =>
    have H := HC3.out
    clear HC3
    by_cases c4 : (a0.size : Int) > 300
    · rw [if_pos c4] at H
      have c4b0 : decide (300 < (a0.size : Int)) = true := decide_eq_true c4
      have c4b1 : decide (300 < a0.size) = true := decide_eq_true (by omega)
      clear c4
      (first | rw [c4b0] | (simp only [i64_w, i32_w]; rw [c4b0]) | skip)
      have H' := Aside0.mk H
      clear H
      go_wp2
      go_meet
      case rel => exact ⟨_, (true), (by first | rfl | (simp; done) | (simp [*]; done)), H', ⟨by first | omega | exact Nat.le_refl _⟩, ⟨by repeat (first | (with_reducible first | exact HB.out | apply below_alloc | apply pw_below_drewN | apply below_drew1) | exact HB.out)⟩⟩
    · rw [if_neg c4] at H
      have c4b0 : decide (300 < (a0.size : Int)) = false := decide_eq_false c4
      have c4b1 : decide (300 < a0.size) = false := decide_eq_false (by omega)
      clear c4
      (first | rw [c4b0] | (simp only [i64_w, i32_w]; rw [c4b0]) | skip)
      have H' := Aside0.mk H
      clear H
      go_wp2
      go_meet
      case rel => exact ⟨_, (decide ((l1.length : Int) > 30)), (by first | rfl | (simp; done) | (simp [*]; done)), H', ⟨by first | omega | exact Nat.le_refl _⟩, ⟨by repeat (first | (with_reducible first | exact HB.out | apply below_alloc | apply pw_below_drewN | apply below_drew1) | exact HB.out)⟩⟩
  case rest =>
    clear HC3
    try clear c1
    try clear p2
    try clear c4
    try clear c4b0
    try clear c4b1
    obtain ⟨kq, x22_2, rfl, HA, HJ2, HB⟩ := hcut
    cases kq with
    | zero => exact absurd HA.out (by simp [temperalaw04_LexWords.j0])
    | succ kj2 =>
      have H := HA.out
      clear HA
      simp only [temperalaw04_LexWords.j0] at H
      by_cases c5 : x22_2 = true
      · subst c5
        have H1 : ((temperalaw04_awake.f kj2).bind fun t260 => (some t260)) = some r := by rw [if_pos rfl] at H; exact H
        clear H
        have H := H1
        clear H1
        replace H := Option.bind_eq_some_iff.mp H
        obtain ⟨t260, A60, H⟩ := H
        replace H : (some t260) = some r := H
        have A6 := Aside0.mk A60
        clear A60
        obtain rfl := Option.some.inj H
        go_wp2_with (first | ((with_reducible refine gate_callee (f := 6) rfl ?_); refine goesL_ (some 23) rfl rfl Tryd.func6 (by kernel_rfl) rfl #[] rfl (by (try simp only [List.map_toArray, List.map_cons, List.map_nil]); first | done | rfl | (simp only [List.length_drop, List.length_take]; rfl)) ?_; (with_reducible refine (temperalaw04_awake.calls kj2  t260 _ (tabs_up HT.out (by repeat (first | (with_reducible first | exact HB.out | apply below_alloc | apply pw_below_drewN | apply below_drew1) | exact HB.out))) A6.out).mono ?_); rintro e w7 ⟨rfl, hb⟩; refine ⟨_, rfl, ?_⟩; have n0_ := Aside0.mk (below_step (by repeat (first | (with_reducible first | exact HB.out | apply below_alloc | apply pw_below_drewN | apply below_drew1) | exact HB.out)) hb); clear HB; have HB := n0_; clear n0_; (try clear hb); (try clear hb2); (try clear hk); (try clear hi)))
        go_ret
        exact ⟨by first | rfl | (simp [errW_none, errW_some] <;> rfl) | (simp [*, errW_none, errW_some] <;> rfl), by repeat (first | (with_reducible first | exact HB.out | apply below_alloc | apply pw_below_drewN | apply below_drew1) | exact HB.out)⟩
      · replace c5 := Bool.eq_false_iff.mpr c5
        subst c5
        have H1 : ((lex_Words.f kj2 a0).bind fun bt261 => ((temperaref04_Words.f kj2 a0).bind fun bt265 => (if bt265.2 = true then (if bt261.2 = 0 then ((temperaref04_Same.f kj2 bt261.1 bt265.1).bind fun t269 => (if t269 = true then (temperalaw04_LexWords.j1 kj2 l1 false) else (temperalaw04_LexWords.j1 kj2 l1 true))) else (temperalaw04_LexWords.j1 kj2 l1 true)) else (if bt261.2 = 13 then (temperalaw04_LexWords.j1 kj2 l1 ((bt261.1.length : Int) != 0)) else (temperalaw04_LexWords.j1 kj2 l1 true))))) = some r := by rw [if_neg (show ¬ (false = true) by decide)] at H; exact H
        clear H
        have H := H1
        clear H1
        replace H := Option.bind_eq_some_iff.mp H
        obtain ⟨⟨t261, t262⟩, A80, H⟩ := H
        replace H : ((temperaref04_Words.f kj2 a0).bind fun bt265 => (if bt265.2 = true then (if t262 = 0 then ((temperaref04_Same.f kj2 t261 bt265.1).bind fun t269 => (if t269 = true then (temperalaw04_LexWords.j1 kj2 l1 false) else (temperalaw04_LexWords.j1 kj2 l1 true))) else (temperalaw04_LexWords.j1 kj2 l1 true)) else (if t262 = 13 then (temperalaw04_LexWords.j1 kj2 l1 ((t261.length : Int) != 0)) else (temperalaw04_LexWords.j1 kj2 l1 true)))) = some r := H
        have A8 := Aside0.mk A80
        clear A80
        replace H := Option.bind_eq_some_iff.mp H
        obtain ⟨⟨t265, t266⟩, A90, H⟩ := H
        replace H : (if t266 = true then (if t262 = 0 then ((temperaref04_Same.f kj2 t261 t265).bind fun t269 => (if t269 = true then (temperalaw04_LexWords.j1 kj2 l1 false) else (temperalaw04_LexWords.j1 kj2 l1 true))) else (temperalaw04_LexWords.j1 kj2 l1 true)) else (if t262 = 13 then (temperalaw04_LexWords.j1 kj2 l1 ((t261.length : Int) != 0)) else (temperalaw04_LexWords.j1 kj2 l1 true))) = some r := H
        have A9 := Aside0.mk A90
        clear A90
        have HC10 := Aside0.mk H
        clear H
        go_upto_region 5 with (first | ((with_reducible refine gate_callee (f := 17) rfl ?_); refine goesL_ (some 26) rfl rfl Tryd.func17 (by kernel_rfl) rfl #[.string a0] rfl (by (try simp only [List.map_toArray, List.map_cons, List.map_nil]); first | done | rfl | (simp only [List.length_drop, List.length_take]; rfl)) ?_; (with_reducible refine (lex_Words.calls kj2 a0 t261 t262 _ (tabs_up HT.out (by repeat (first | (with_reducible first | exact HB.out | apply below_alloc | apply pw_below_drewN | apply below_drew1) | exact HB.out))) A8.out).mono ?_); rintro e w11 ⟨v263, rfl, ho0, hb⟩; refine ⟨_, rfl, ?_⟩; have n0_ := Aside0.mk (Kd.R_lower ho0 (below_size (by repeat (first | (with_reducible first | exact HB.out | apply below_alloc | apply pw_below_drewN | apply below_drew1) | exact HB.out)))); have n1_ := Aside0.mk (below_step (by repeat (first | (with_reducible first | exact HB.out | apply below_alloc | apply pw_below_drewN | apply below_drew1) | exact HB.out)) hb); clear HB; have HO264 := n0_; have HB := n1_; clear n0_ n1_; (try clear hb); (try clear hb2); (try clear hk); (try clear hi); (try clear ho0)) | ((with_reducible refine gate_callee (f := 18) rfl ?_); refine goesL_ (some 31) rfl rfl Tryd.func18 (by kernel_rfl) rfl #[.string a0] rfl (by (try simp only [List.map_toArray, List.map_cons, List.map_nil]); first | done | rfl | (simp only [List.length_drop, List.length_take]; rfl)) ?_; (with_reducible refine (temperaref04_Words.calls kj2 a0 t265 t266 _ A9.out).mono ?_); rintro e w12 ⟨v267, rfl, ho0, hb⟩; refine ⟨_, rfl, ?_⟩; have n0_ := Aside0.mk (Kd.R_elder' (by (with_reducible repeat (first | apply Kd.R_alloc | apply Kd.R_drewN | apply Kd.R_drew)); exact HO264.out) (Kd.R_base ho0) hb); have n1_ := Aside0.mk (Kd.R_lower (Kd.R_new' ho0 (Kd.R_lt (by (with_reducible repeat (first | apply Kd.R_alloc | apply Kd.R_drewN | apply Kd.R_drew)); exact HO264.out))) (below_size (by repeat (first | (with_reducible first | exact HB.out | apply below_alloc | apply pw_below_drewN | apply below_drew1) | exact HB.out)))); have n2_ := Aside0.mk (below_step (by repeat (first | (with_reducible first | exact HB.out | apply below_alloc | apply pw_below_drewN | apply below_drew1) | exact HB.out)) hb); clear HO264; clear HB; have HO264 := n0_; have HO268 := n1_; have HB := n2_; clear n0_ n1_ n2_; (try clear hb); (try clear hb2); (try clear hk); (try clear hi); (try clear ho0)))
        (try simp only [Act.put, List.setIfInBounds_toArray, List.set_cons_zero, List.set_cons_succ])
        go_cut [57] (fun v57 wc => ∃ (kq : Nat) (x57_9 : Bool), v57 = .bool x57_9 ∧ Aside0 (temperalaw04_LexWords.j1 kq l1 x57_9 = some r) ∧ Aside0 (kq ≤ kj2) ∧ Aside0 (Below w.heap.size w wc))
        case first =>
          have H := HC10.out
          clear HC10
          by_cases c13 : t266 = true
          · subst c13
            have H1 : (if t262 = 0 then ((temperaref04_Same.f kj2 t261 t265).bind fun t269 => (if t269 = true then (temperalaw04_LexWords.j1 kj2 l1 false) else (temperalaw04_LexWords.j1 kj2 l1 true))) else (temperalaw04_LexWords.j1 kj2 l1 true)) = some r := by rw [if_pos rfl] at H; exact H
            clear H
            have H := H1
            clear H1
            by_cases c14 : t262 = 0
            · rw [if_pos c14] at H
              have c14b0 : (t262 == 0) = true := beq_iff_eq.mpr c14
              have c14b1 : (t262 != 0) = false := bne_eq_false_iff_eq.mpr c14
              clear c14
              (first | rw [c14b0] | (simp only [i64_w, i32_w]; rw [c14b0]) | skip)
              replace H := Option.bind_eq_some_iff.mp H
              obtain ⟨t269, A150, H⟩ := H
              replace H : (if t269 = true then (temperalaw04_LexWords.j1 kj2 l1 false) else (temperalaw04_LexWords.j1 kj2 l1 true)) = some r := H
              have A15 := Aside0.mk A150
              clear A150
              by_cases c16 : t269 = true
              · subst c16
                have H1 : (temperalaw04_LexWords.j1 kj2 l1 false) = some r := by rw [if_pos rfl] at H; exact H
                clear H
                have H := H1
                clear H1
                have H' := Aside0.mk H
                clear H
                obtain ⟨Ao17, co17, eo17⟩ := Kd.R_slice HO264.out
                subst eo17
                obtain ⟨Ao18, co18, eo18⟩ := Kd.R_slice HO268.out
                subst eo18
                go_wp2_with (first | (go_at_call 19; (with_reducible refine (temperaref04_Same.calls kj2 _ _ t261 _ _ t265 true _ ?side1 ?side2 ?side3 ?side4 A15.out).mono ?_); (case side1 => repeat (first | exact (Kd.R_reads' HO264.out).2.2 | (with_reducible refine Kd.C_alloc ?_ _) | (with_reducible refine Kd.C_drewN ?_ _) | (with_reducible refine Kd.C_drew ?_))); (case side2 => exact (Kd.R_reads' HO264.out).2.1); (case side3 => repeat (first | exact (Kd.R_reads' HO268.out).2.2 | (with_reducible refine Kd.C_alloc ?_ _) | (with_reducible refine Kd.C_drewN ?_ _) | (with_reducible refine Kd.C_drew ?_))); (case side4 => exact (Kd.R_reads' HO268.out).2.1); rintro e w' ⟨rfl, ⟨nd, rfl⟩⟩))
                go_meet
                case rel => exact ⟨_, (false), (by first | rfl | (simp; done) | (simp [*]; done)), H', ⟨by have := HJ2.out; first | omega | exact Nat.le_refl _⟩, ⟨by repeat (first | (with_reducible first | exact HB.out | apply below_alloc | apply pw_below_drewN | apply below_drew1) | exact HB.out)⟩⟩
              · replace c16 := Bool.eq_false_iff.mpr c16
                subst c16
                have H1 : (temperalaw04_LexWords.j1 kj2 l1 true) = some r := by rw [if_neg (show ¬ (false = true) by decide)] at H; exact H
                clear H
                have H := H1
                clear H1
                have H' := Aside0.mk H
                clear H
                obtain ⟨Ao19, co19, eo19⟩ := Kd.R_slice HO264.out
                subst eo19
                obtain ⟨Ao20, co20, eo20⟩ := Kd.R_slice HO268.out
                subst eo20
                go_wp2_with (first | (go_at_call 19; (with_reducible refine (temperaref04_Same.calls kj2 _ _ t261 _ _ t265 false _ ?side1 ?side2 ?side3 ?side4 A15.out).mono ?_); (case side1 => repeat (first | exact (Kd.R_reads' HO264.out).2.2 | (with_reducible refine Kd.C_alloc ?_ _) | (with_reducible refine Kd.C_drewN ?_ _) | (with_reducible refine Kd.C_drew ?_))); (case side2 => exact (Kd.R_reads' HO264.out).2.1); (case side3 => repeat (first | exact (Kd.R_reads' HO268.out).2.2 | (with_reducible refine Kd.C_alloc ?_ _) | (with_reducible refine Kd.C_drewN ?_ _) | (with_reducible refine Kd.C_drew ?_))); (case side4 => exact (Kd.R_reads' HO268.out).2.1); rintro e w' ⟨rfl, ⟨nd, rfl⟩⟩))
                go_meet
                case rel => exact ⟨_, (true), (by first | rfl | (simp; done) | (simp [*]; done)), H', ⟨by have := HJ2.out; first | omega | exact Nat.le_refl _⟩, ⟨by repeat (first | (with_reducible first | exact HB.out | apply below_alloc | apply pw_below_drewN | apply below_drew1) | exact HB.out)⟩⟩
            · rw [if_neg c14] at H
              have c14b0 : (t262 == 0) = false := beq_eq_false_iff_ne.mpr c14
              have c14b1 : (t262 != 0) = true := bne_iff_ne.mpr c14
              (first | rw [c14b0] | (simp only [i64_w, i32_w]; rw [c14b0]) | skip)
              have H' := Aside0.mk H
              clear H
              go_wp2
              go_meet
              case rel => exact ⟨_, (true), (by first | rfl | (simp; done) | (simp [*]; done)), H', ⟨by have := HJ2.out; first | omega | exact Nat.le_refl _⟩, ⟨by repeat (first | (with_reducible first | exact HB.out | apply below_alloc | apply pw_below_drewN | apply below_drew1) | exact HB.out)⟩⟩
          · replace c13 := Bool.eq_false_iff.mpr c13
            subst c13
            have H1 : (if t262 = 13 then (temperalaw04_LexWords.j1 kj2 l1 ((t261.length : Int) != 0)) else (temperalaw04_LexWords.j1 kj2 l1 true)) = some r := by rw [if_neg (show ¬ (false = true) by decide)] at H; exact H
            clear H
            have H := H1
            clear H1
            by_cases c21 : t262 = 13
            · rw [if_pos c21] at H
              have c21b0 : (t262 == 13) = true := beq_iff_eq.mpr c21
              have c21b1 : (t262 != 13) = false := bne_eq_false_iff_eq.mpr c21
              clear c21
              have H' := Aside0.mk H
              clear H
              obtain ⟨Ao22, co22, eo22⟩ := Kd.R_slice HO264.out
              subst eo22
              go_wp2
              go_meet
              case rel => exact ⟨_, (((t261.length : Int) != 0)), (by first | rfl | (simp; done) | (simp [*]; done)), H', ⟨by have := HJ2.out; first | omega | exact Nat.le_refl _⟩, ⟨by repeat (first | (with_reducible first | exact HB.out | apply below_alloc | apply pw_below_drewN | apply below_drew1) | exact HB.out)⟩⟩
            · rw [if_neg c21] at H
              have c21b0 : (t262 == 13) = false := beq_eq_false_iff_ne.mpr c21
              have c21b1 : (t262 != 13) = true := bne_iff_ne.mpr c21
              have H' := Aside0.mk H
              clear H
              go_wp2
              go_meet
              case rel => exact ⟨_, (true), (by first | rfl | (simp; done) | (simp [*]; done)), H', ⟨by have := HJ2.out; first | omega | exact Nat.le_refl _⟩, ⟨by repeat (first | (with_reducible first | exact HB.out | apply below_alloc | apply pw_below_drewN | apply below_drew1) | exact HB.out)⟩⟩
        case rest =>
          clear HC10
          try clear c1
          try clear c2
          try clear p2
          try clear c4
          try clear c4b0
          try clear c4b1
          try clear c5
          try clear c6
          try clear c13
          try clear c14
          try clear c14b0
          try clear c14b1
          try clear c16
          try clear c17
          try clear c18
          try clear c21
          try clear c21b0
          try clear c21b1
          try clear p2
          obtain ⟨kq, x57_9, rfl, HA, HJ9, HB⟩ := hcut
          cases kq with
          | zero => exact absurd HA.out (by simp [temperalaw04_LexWords.j1])
          | succ kj9 =>
            have H := HA.out
            clear HA
            simp only [temperalaw04_LexWords.j1] at H
            by_cases c23 : x57_9 = true
            · subst c23
              have H1 : (some false) = some r := by rw [if_pos rfl] at H; exact H
              clear H
              have H := H1
              clear H1
              obtain rfl := Option.some.inj H
              go_wp2
              go_ret
              exact ⟨by first | rfl | (simp [errW_none, errW_some] <;> rfl) | (simp [*, errW_none, errW_some] <;> rfl), by repeat (first | (with_reducible first | exact HB.out | apply below_alloc | apply pw_below_drewN | apply below_drew1) | exact HB.out)⟩
            · replace c23 := Bool.eq_false_iff.mpr c23
              subst c23
              have H1 : (temperalaw04_LexWords.l0 kj9 l1 0) = some r := by rw [if_neg (show ¬ (false = true) by decide)] at H; exact H
              clear H
              have H := H1
              clear H1
              have H' := Aside0.mk H
              clear H
              go_wp2
              go_loopg [9] kj9 (fun kq v9 w' => ∃ (x9_3 : Int), v9 = .int .i64 x9_3 ∧ Aside0 (temperalaw04_LexWords.l0 kq l1 x9_3 = some r) ∧ Aside0 (kq ≤ kj9) ∧ Aside0 (Below w.heap.size w w'))
              case atStart => exact ⟨(0), (by first | rfl | (simp; done) | (simp [*]; done)), H', ⟨Nat.le_refl _⟩, ⟨by repeat (first | (with_reducible first | exact HB.out | apply below_alloc | apply pw_below_drewN | apply below_drew1) | exact HB.out)⟩⟩
              case round =>
                clear H'
                try clear c1
                try clear c2
                try clear p2
                try clear c4
                try clear c4b0
                try clear c4b1
                try clear c5
                try clear c6
                try clear c13
                try clear c14
                try clear c14b0
                try clear c14b1
                try clear c16
                try clear c17
                try clear c18
                try clear c21
                try clear c21b0
                try clear c21b1
                try clear c23
                try clear p2
                obtain ⟨x9_3, rfl, HA, HK3, HB⟩ := hrel
                cases gk with
                | zero => exact absurd HA.out (by simp [temperalaw04_LexWords.l0])
                | succ k3 =>
                  have H := HA.out
                  clear HA
                  simp only [temperalaw04_LexWords.l0] at H
                  by_cases c24 : x9_3 < (l1.length : Int)
                  · rw [if_pos c24] at H
                    have c24b0 : decide (x9_3 < (l1.length : Int)) = true := decide_eq_true c24
                    clear c24
                    by_cases c25 : 0 ≤ x9_3
                    · rw [if_pos c25] at H
                      have c25b0 : decide (0 ≤ x9_3) = true := decide_eq_true c25
                      clear c25
                      by_cases c26 : ((rdOf ByteArray.empty l1 x9_3).size : Int) > 100
                      · rw [if_pos c26] at H
                        have c26b0 : decide (100 < ((rdOf ByteArray.empty l1 x9_3).size : Int)) = true := decide_eq_true c26
                        have c26b1 : decide (100 < (rdOf ByteArray.empty l1 x9_3).size) = true := decide_eq_true (by omega)
                        clear c26
                        replace H := Option.bind_eq_some_iff.mp H
                        obtain ⟨t271, A270, H⟩ := H
                        replace H : (some t271) = some r := H
                        have A27 := Aside0.mk A270
                        clear A270
                        obtain rfl := Option.some.inj H
                        have p270 : 0 ≤ (x9_3 : Int) := of_decide_eq_true (by first | (with_reducible assumption) | assumption)
                        have q270 : x9_3 < (l1.length : Int) := of_decide_eq_true (by first | (with_reducible assumption) | assumption)
                        obtain ⟨ad270, e270, hx270_0⟩ := Kd.at_string HR1.out x9_3 p270 q270
                        cases e270
                        replace hx270_0 := (HB.out.cell (World.block_lt_of_cell? w _ hx270_0)).trans hx270_0
                        replace p270 := eq_true p270
                        replace q270 := eq_true q270
                        go_wp2_with (first | ((with_reducible refine gate_callee (f := 6) rfl ?_); refine goesL_ (some 70) rfl rfl Tryd.func6 (by kernel_rfl) rfl #[] rfl (by (try simp only [List.map_toArray, List.map_cons, List.map_nil]); first | done | rfl | (simp only [List.length_drop, List.length_take]; rfl)) ?_; (with_reducible refine (temperalaw04_awake.calls k3  t271 _ (tabs_up HT.out (by repeat (first | (with_reducible first | exact HB.out | apply below_alloc | apply pw_below_drewN | apply below_drew1) | exact HB.out))) A27.out).mono ?_); rintro e w28 ⟨rfl, hb⟩; refine ⟨_, rfl, ?_⟩; have n0_ := Aside0.mk (below_step (by repeat (first | (with_reducible first | exact HB.out | apply below_alloc | apply pw_below_drewN | apply below_drew1) | exact HB.out)) hb); clear HB; have HB := n0_; clear n0_; (try clear hb); (try clear hb2); (try clear hk); (try clear hi)))
                        go_ret
                        exact ⟨by first | rfl | (simp [errW_none, errW_some] <;> rfl) | (simp [*, errW_none, errW_some] <;> rfl), by repeat (first | (with_reducible first | exact HB.out | apply below_alloc | apply pw_below_drewN | apply below_drew1) | exact HB.out)⟩
                      · rw [if_neg c26] at H
                        have c26b0 : decide (100 < ((rdOf ByteArray.empty l1 x9_3).size : Int)) = false := decide_eq_false c26
                        have c26b1 : decide (100 < (rdOf ByteArray.empty l1 x9_3).size) = false := decide_eq_false (by omega)
                        clear c26
                        have H' := Aside0.mk H
                        clear H
                        have p270 : 0 ≤ (x9_3 : Int) := of_decide_eq_true (by first | (with_reducible assumption) | assumption)
                        have q270 : x9_3 < (l1.length : Int) := of_decide_eq_true (by first | (with_reducible assumption) | assumption)
                        obtain ⟨ad270, e270, hx270_0⟩ := Kd.at_string HR1.out x9_3 p270 q270
                        cases e270
                        replace hx270_0 := (HB.out.cell (World.block_lt_of_cell? w _ hx270_0)).trans hx270_0
                        replace p270 := eq_true p270
                        replace q270 := eq_true q270
                        go_wp2
                        go_roundg k3
                        case measure => have := HJ2.out; have := HJ9.out; have := HK3.out; omega
                        case rel => exact ⟨(wrap64 (x9_3 + 1)), (by first | rfl | (simp; done) | (simp [*]; done)), H', ⟨by have := HJ2.out; have := HJ9.out; have := HK3.out; omega⟩, ⟨by repeat (first | (with_reducible first | exact HB.out | apply below_alloc | apply pw_below_drewN | apply below_drew1) | exact HB.out)⟩⟩
                    · rw [if_neg c25] at H
                      exact absurd H (by simp)
                  · rw [if_neg c24] at H
                    have c24b0 : decide (x9_3 < (l1.length : Int)) = false := decide_eq_false c24
                    clear c24
                    replace H := Option.bind_eq_some_iff.mp H
                    obtain ⟨⟨t272, t273⟩, A290, H⟩ := H
                    replace H : ((temperaref04_Join.f k3 l1).bind fun t274 => ((temperaref04_Words.f k3 t274).bind fun bt275 => (if bt275.2 = true then ((temperaref04_Same.f k3 bt275.1 l1).bind fun t279 => (temperalaw04_LexWords.j3 k3 t272 t273 t274 (!t279))) else (temperalaw04_LexWords.j3 k3 t272 t273 t274 true)))) = some r := H
                    have A29 := Aside0.mk A290
                    clear A290
                    replace H := Option.bind_eq_some_iff.mp H
                    obtain ⟨t274, A300, H⟩ := H
                    replace H : ((temperaref04_Words.f k3 t274).bind fun bt275 => (if bt275.2 = true then ((temperaref04_Same.f k3 bt275.1 l1).bind fun t279 => (temperalaw04_LexWords.j3 k3 t272 t273 t274 (!t279))) else (temperalaw04_LexWords.j3 k3 t272 t273 t274 true))) = some r := H
                    have A30 := Aside0.mk A300
                    clear A300
                    replace H := Option.bind_eq_some_iff.mp H
                    obtain ⟨⟨t275, t276⟩, A310, H⟩ := H
                    replace H : (if t276 = true then ((temperaref04_Same.f k3 t275 l1).bind fun t279 => (temperalaw04_LexWords.j3 k3 t272 t273 t274 (!t279))) else (temperalaw04_LexWords.j3 k3 t272 t273 t274 true)) = some r := H
                    have A31 := Aside0.mk A310
                    clear A310
                    have HC32 := Aside0.mk H
                    clear H
                    go_upto_region 15 with (first | ((with_reducible refine gate_callee (f := 20) rfl ?_); refine goesL_ (some 73) rfl rfl Tryd.func20 (by kernel_rfl) rfl #[.slice A1 l1.length c1] rfl (by (try simp only [List.map_toArray, List.map_cons, List.map_nil]); first | done | rfl | (simp only [List.length_drop, List.length_take]; rfl)) ?_; (with_reducible refine (lex_Join.calls k3 _ _ l1 t272 t273 _ (tabs_up HT.out (by repeat (first | (with_reducible first | exact HB.out | apply below_alloc | apply pw_below_drewN | apply below_drew1) | exact HB.out))) ?side1 ?side2 A29.out).mono ?_); (case side1 => repeat (first | exact (Kd.C_below HR1.out HB.out) | (with_reducible refine Kd.C_alloc ?_ _) | (with_reducible refine Kd.C_drewN ?_ _) | (with_reducible refine Kd.C_drew ?_))); (case side2 => exact HC1.out); rintro e w33 ⟨rfl, hb⟩; refine ⟨_, rfl, ?_⟩; have n0_ := Aside0.mk (below_step (by repeat (first | (with_reducible first | exact HB.out | apply below_alloc | apply pw_below_drewN | apply below_drew1) | exact HB.out)) hb); clear HB; have HB := n0_; clear n0_; (try clear hb); (try clear hb2); (try clear hk); (try clear hi)) | ((with_reducible refine gate_callee (f := 21) rfl ?_); refine goesL_ (some 77) rfl rfl Tryd.func21 (by kernel_rfl) rfl #[.slice A1 l1.length c1] rfl (by (try simp only [List.map_toArray, List.map_cons, List.map_nil]); first | done | rfl | (simp only [List.length_drop, List.length_take]; rfl)) ?_; (with_reducible refine (temperaref04_Join.calls k3 _ _ l1 t274 _ ?side1 ?side2 A30.out).mono ?_); (case side1 => repeat (first | exact (Kd.C_below HR1.out HB.out) | (with_reducible refine Kd.C_alloc ?_ _) | (with_reducible refine Kd.C_drewN ?_ _) | (with_reducible refine Kd.C_drew ?_))); (case side2 => exact HC1.out); rintro e w' ⟨rfl, ⟨nd, rfl⟩⟩; refine ⟨_, rfl, ?_⟩) | ((with_reducible refine gate_callee (f := 18) rfl ?_); refine goesL_ (some 80) rfl rfl Tryd.func18 (by kernel_rfl) rfl #[.string t274] rfl (by (try simp only [List.map_toArray, List.map_cons, List.map_nil]); first | done | rfl | (simp only [List.length_drop, List.length_take]; rfl)) ?_; (with_reducible refine (temperaref04_Words.calls k3 t274 t275 t276 _ A31.out).mono ?_); rintro e w34 ⟨v277, rfl, ho0, hb⟩; refine ⟨_, rfl, ?_⟩; have n0_ := Aside0.mk (Kd.R_lower ho0 (below_size (by repeat (first | (with_reducible first | exact HB.out | apply below_alloc | apply pw_below_drewN | apply below_drew1) | exact HB.out)))); have n1_ := Aside0.mk (below_step (by repeat (first | (with_reducible first | exact HB.out | apply below_alloc | apply pw_below_drewN | apply below_drew1) | exact HB.out)) hb); clear HB; have HO278 := n0_; have HB := n1_; clear n0_ n1_; (try clear hb); (try clear hb2); (try clear hk); (try clear hi); (try clear ho0)))
                    (try simp only [Act.put, List.setIfInBounds_toArray, List.set_cons_zero, List.set_cons_succ])
                    go_cut [90] (fun v90 wc => ∃ (kq : Nat) (x90_31 : Bool), v90 = .bool x90_31 ∧ Aside0 (temperalaw04_LexWords.j3 kq t272 t273 t274 x90_31 = some r) ∧ Aside0 (kq ≤ k3) ∧ Aside0 (Below w.heap.size w wc))
                    case first =>
                      have H := HC32.out
                      clear HC32
                      by_cases c35 : t276 = true
                      · subst c35
                        have H1 : ((temperaref04_Same.f k3 t275 l1).bind fun t279 => (temperalaw04_LexWords.j3 k3 t272 t273 t274 (!t279))) = some r := by rw [if_pos rfl] at H; exact H
                        clear H
                        have H := H1
                        clear H1
                        replace H := Option.bind_eq_some_iff.mp H
                        obtain ⟨t279, A360, H⟩ := H
                        replace H : (temperalaw04_LexWords.j3 k3 t272 t273 t274 (!t279)) = some r := H
                        have A36 := Aside0.mk A360
                        clear A360
                        have H' := Aside0.mk H
                        clear H
                        obtain ⟨Ao37, co37, eo37⟩ := Kd.R_slice HO278.out
                        subst eo37
                        go_wp2_with (first | (go_at_call 19; (with_reducible refine (temperaref04_Same.calls k3 _ _ t275 _ _ l1 t279 _ ?side1 ?side2 ?side3 ?side4 A36.out).mono ?_); (case side1 => repeat (first | exact (Kd.R_reads' HO278.out).2.2 | (with_reducible refine Kd.C_alloc ?_ _) | (with_reducible refine Kd.C_drewN ?_ _) | (with_reducible refine Kd.C_drew ?_))); (case side2 => exact (Kd.R_reads' HO278.out).2.1); (case side3 => repeat (first | exact (Kd.C_below HR1.out HB.out) | (with_reducible refine Kd.C_alloc ?_ _) | (with_reducible refine Kd.C_drewN ?_ _) | (with_reducible refine Kd.C_drew ?_))); (case side4 => exact HC1.out); rintro e w' ⟨rfl, ⟨nd, rfl⟩⟩))
                        go_meet
                        case rel => exact ⟨_, (!t279), (by first | rfl | (simp; done) | (simp [*]; done)), H', ⟨by have := HJ2.out; have := HJ9.out; have := HK3.out; first | omega | exact Nat.le_refl _⟩, ⟨by repeat (first | (with_reducible first | exact HB.out | apply below_alloc | apply pw_below_drewN | apply below_drew1) | exact HB.out)⟩⟩
                      · replace c35 := Bool.eq_false_iff.mpr c35
                        subst c35
                        have H1 : (temperalaw04_LexWords.j3 k3 t272 t273 t274 true) = some r := by rw [if_neg (show ¬ (false = true) by decide)] at H; exact H
                        clear H
                        have H := H1
                        clear H1
                        have H' := Aside0.mk H
                        clear H
                        go_wp2
                        go_meet
                        case rel => exact ⟨_, (true), (by first | rfl | (simp; done) | (simp [*]; done)), H', ⟨by have := HJ2.out; have := HJ9.out; have := HK3.out; first | omega | exact Nat.le_refl _⟩, ⟨by repeat (first | (with_reducible first | exact HB.out | apply below_alloc | apply pw_below_drewN | apply below_drew1) | exact HB.out)⟩⟩
                    case rest =>
                      clear HC32
                      try clear c1
                      try clear c2
                      try clear p2
                      try clear q2
                      try clear hx2
                      try clear c3
                      try clear c4
                      try clear c4b0
                      try clear c4b1
                      try clear c5
                      try clear c6
                      try clear p6
                      try clear c13
                      try clear c14
                      try clear c14b0
                      try clear c14b1
                      try clear c16
                      try clear c17
                      try clear c18
                      try clear c20
                      try clear c21
                      try clear c21b0
                      try clear c21b1
                      try clear c23
                      try clear c24
                      try clear c24b0
                      try clear c25
                      try clear c25b0
                      try clear c26
                      try clear c26b0
                      try clear c26b1
                      try clear p27
                      try clear q27
                      try clear hx27
                      try clear c35
                      try clear hx270_0
                      try clear p2
                      try clear p270
                      try clear q270
                      obtain ⟨kq, x90_31, rfl, HA, HJ31, HB⟩ := hcut
                      cases kq with
                      | zero => exact absurd HA.out (by simp [temperalaw04_LexWords.j3])
                      | succ kj31 =>
                        have H := HA.out
                        clear HA
                        simp only [temperalaw04_LexWords.j3] at H
                        by_cases c38 : x90_31 = true
                        · subst c38
                          have H1 : (if t272.toList = ([] : List UInt8) then (if t273 = 13 then ((temperalaw04_awake.f kj31).bind fun t280 => (some t280)) else (some false)) else (some false)) = some r := by rw [if_pos rfl] at H; exact H
                          clear H
                          have H := H1
                          clear H1
                          by_cases c39 : t272.toList = ([] : List UInt8)
                          · rw [if_pos c39] at H
                            have c39b0 : (t272.toList == ([] : List UInt8)) = true := beq_iff_eq.mpr c39
                            have c39b1 : (t272.toList != ([] : List UInt8)) = false := bne_eq_false_iff_eq.mpr c39
                            clear c39
                            by_cases c40 : t273 = 13
                            · rw [if_pos c40] at H
                              have c40b0 : (t273 == 13) = true := beq_iff_eq.mpr c40
                              have c40b1 : (t273 != 13) = false := bne_eq_false_iff_eq.mpr c40
                              clear c40
                              replace H := Option.bind_eq_some_iff.mp H
                              obtain ⟨t280, A410, H⟩ := H
                              replace H : (some t280) = some r := H
                              have A41 := Aside0.mk A410
                              clear A410
                              obtain rfl := Option.some.inj H
                              go_wp2_with (first | (go_at_call 6; (with_reducible refine (temperalaw04_awake.calls kj31  t280 _ (tabs_up HT.out (by repeat (first | (with_reducible first | exact HB.out | apply below_alloc | apply pw_below_drewN | apply below_drew1) | exact HB.out))) A41.out).mono ?_); rintro e w42 ⟨rfl, hb⟩; have n0_ := Aside0.mk (below_step (by repeat (first | (with_reducible first | exact HB.out | apply below_alloc | apply pw_below_drewN | apply below_drew1) | exact HB.out)) hb); clear HB; have HB := n0_; clear n0_; (try clear hb); (try clear hb2); (try clear hk); (try clear hi)))
                              go_ret
                              exact ⟨by first | rfl | (simp [errW_none, errW_some] <;> rfl) | (simp [*, errW_none, errW_some] <;> rfl), by repeat (first | (with_reducible first | exact HB.out | apply below_alloc | apply pw_below_drewN | apply below_drew1) | exact HB.out)⟩
                            · rw [if_neg c40] at H
                              have c40b0 : (t273 == 13) = false := beq_eq_false_iff_ne.mpr c40
                              have c40b1 : (t273 != 13) = true := bne_iff_ne.mpr c40
                              obtain rfl := Option.some.inj H
                              go_wp2
                              go_ret
                              exact ⟨by first | rfl | (simp [errW_none, errW_some] <;> rfl) | (simp [*, errW_none, errW_some] <;> rfl), by repeat (first | (with_reducible first | exact HB.out | apply below_alloc | apply pw_below_drewN | apply below_drew1) | exact HB.out)⟩
                          · rw [if_neg c39] at H
                            have c39b0 : (t272.toList == ([] : List UInt8)) = false := beq_eq_false_iff_ne.mpr c39
                            have c39b1 : (t272.toList != ([] : List UInt8)) = true := bne_iff_ne.mpr c39
                            obtain rfl := Option.some.inj H
                            go_wp2
                            go_ret
                            exact ⟨by first | rfl | (simp [errW_none, errW_some] <;> rfl) | (simp [*, errW_none, errW_some] <;> rfl), by repeat (first | (with_reducible first | exact HB.out | apply below_alloc | apply pw_below_drewN | apply below_drew1) | exact HB.out)⟩
                        · replace c38 := Bool.eq_false_iff.mpr c38
                          subst c38
                          have H1 : (if t272.toList = t274.toList then (if t273 = 0 then ((temperalaw04_awake.f kj31).bind fun t281 => (some t281)) else (some false)) else (some false)) = some r := by rw [if_neg (show ¬ (false = true) by decide)] at H; exact H
                          clear H
                          have H := H1
                          clear H1
                          by_cases c43 : t272.toList = t274.toList
                          · rw [if_pos c43] at H
                            have c43b0 : (t272.toList == t274.toList) = true := beq_iff_eq.mpr c43
                            have c43b1 : (t272.toList != t274.toList) = false := bne_eq_false_iff_eq.mpr c43
                            clear c43
                            by_cases c44 : t273 = 0
                            · rw [if_pos c44] at H
                              have c44b0 : (t273 == 0) = true := beq_iff_eq.mpr c44
                              have c44b1 : (t273 != 0) = false := bne_eq_false_iff_eq.mpr c44
                              clear c44
                              replace H := Option.bind_eq_some_iff.mp H
                              obtain ⟨t281, A450, H⟩ := H
                              replace H : (some t281) = some r := H
                              have A45 := Aside0.mk A450
                              clear A450
                              obtain rfl := Option.some.inj H
                              go_wp2_with (first | (go_at_call 6; (with_reducible refine (temperalaw04_awake.calls kj31  t281 _ (tabs_up HT.out (by repeat (first | (with_reducible first | exact HB.out | apply below_alloc | apply pw_below_drewN | apply below_drew1) | exact HB.out))) A45.out).mono ?_); rintro e w46 ⟨rfl, hb⟩; have n0_ := Aside0.mk (below_step (by repeat (first | (with_reducible first | exact HB.out | apply below_alloc | apply pw_below_drewN | apply below_drew1) | exact HB.out)) hb); clear HB; have HB := n0_; clear n0_; (try clear hb); (try clear hb2); (try clear hk); (try clear hi)))
                              go_ret
                              exact ⟨by first | rfl | (simp [errW_none, errW_some] <;> rfl) | (simp [*, errW_none, errW_some] <;> rfl), by repeat (first | (with_reducible first | exact HB.out | apply below_alloc | apply pw_below_drewN | apply below_drew1) | exact HB.out)⟩
                            · rw [if_neg c44] at H
                              have c44b0 : (t273 == 0) = false := beq_eq_false_iff_ne.mpr c44
                              have c44b1 : (t273 != 0) = true := bne_iff_ne.mpr c44
                              obtain rfl := Option.some.inj H
                              go_wp2
                              go_ret
                              exact ⟨by first | rfl | (simp [errW_none, errW_some] <;> rfl) | (simp [*, errW_none, errW_some] <;> rfl), by repeat (first | (with_reducible first | exact HB.out | apply below_alloc | apply pw_below_drewN | apply below_drew1) | exact HB.out)⟩
                          · rw [if_neg c43] at H
                            have c43b0 : (t272.toList == t274.toList) = false := beq_eq_false_iff_ne.mpr c43
                            have c43b1 : (t272.toList != t274.toList) = true := bne_iff_ne.mpr c43
                            obtain rfl := Option.some.inj H
                            go_wp2
                            go_ret
                            exact ⟨by first | rfl | (simp [errW_none, errW_some] <;> rfl) | (simp [*, errW_none, errW_some] <;> rfl), by repeat (first | (with_reducible first | exact HB.out | apply below_alloc | apply pw_below_drewN | apply below_drew1) | exact HB.out)⟩

end Go.Proofs.YtaaibnpjajfpgaaDoor.PLex
