-- Contracts of functions, written by myprint.py (wip/): my own program, over the kit's print.py with arrays told as structs. Lean checks it.
import Derived.Test.YtibglhnafohmhaaPStatx0
namespace Go.Proofs.Ytibglhnafohmhaa.PStat
open Go.RowKit Go.Proofs.YtibglhnafohmhaaW.PrintWords Go.Proofs.YtibglhnafohmhaaW.PrintLast Go.Proofs.YtibglhnafohmhaaW.PrintMore
attribute [local go_sem high] fl_eql fl_neq fl_lss fl_leq fl_gtr fl_geq fl_foi
attribute [local go_sem] fl_ari fl_max fl_min fl_store
attribute [local go_sem] max2_int min2_int max_two min_two max_three min_three max_four min_four   -- for this text's walks alone
set_option linter.unusedVariables false
set_option linter.unusedSimpArgs false

/-! ### audit_Loads: function 14 -/
mutual
def audit_Loads.j0 : Nat → List (S40) → Int → Bool → Option ((List (S45)) × Int)
  | 0, _, _, _ => none
  | k + 1, x0, x1, x15 => if x15 = true then (some (([] : List (S45)), 2)) else (if 0 ≤ x1 then (if (x1 : Int).toNat ≤ 11728124029610 then (audit_Loads.l0 k x1 (List.replicate (x1 : Int).toNat z45) x0 (x0.length : Int) 0) else (none)) else (none))
def audit_Loads.l0 : Nat → Int → List (S45) → List (S40) → Int → Int → Option ((List (S45)) × Int)
  | 0, _, _, _, _, _ => none
  | k + 1, x1, x6, x18, x19, x20 => if x20 < x19 then (if 0 ≤ x20 then (if x20 < (x18.length : Int) then (if ((rd_T40 x18 x20).f0) < 1 then (audit_Loads.j2 k x1 x6 x18 x19 x20 true ((rd_T40 x18 x20).f0) ((rd_T40 x18 x20).f1) ((rd_T40 x18 x20).f2) ((rd_T40 x18 x20).f3)) else (audit_Loads.j2 k x1 x6 x18 x19 x20 (decide (((rd_T40 x18 x20).f0) > x1)) ((rd_T40 x18 x20).f0) ((rd_T40 x18 x20).f1) ((rd_T40 x18 x20).f2) ((rd_T40 x18 x20).f3))) else (none)) else (none)) else (some (x6, 0))
def audit_Loads.j2 : Nat → Int → List (S45) → List (S40) → Int → Int → Bool → Int → Int → Int → Int → Option ((List (S45)) × Int)
  | 0, _, _, _, _, _, _, _, _, _, _ => none
  | k + 1, x1, x6, x18, x19, x20, x32, x106000, x106001, x106002, x106003 => if x32 = true then (audit_Loads.l0 k x1 x6 x18 x19 (wrap64 (x20 + 1))) else (if 0 ≤ (wrap64 (x106000 - 1)) then (if (wrap64 (x106000 - 1)) < (x6.length : Int) then (if x106001 = 1 then (audit_Loads.l0 k x1 (x6.set ((wrap64 (x106000 - 1)) : Int).toNat (⟨wrap64 (((rd_T45 x6 (wrap64 (x106000 - 1))).f0) + 1), (rd_T45 x6 (wrap64 (x106000 - 1))).f1, (rd_T45 x6 (wrap64 (x106000 - 1))).f2⟩ : S45)) x18 x19 (wrap64 (x20 + 1))) else (if x106001 = 2 then (audit_Loads.l0 k x1 (x6.set ((wrap64 (x106000 - 1)) : Int).toNat (⟨(rd_T45 x6 (wrap64 (x106000 - 1))).f0, wrap64 (((rd_T45 x6 (wrap64 (x106000 - 1))).f1) + 1), (rd_T45 x6 (wrap64 (x106000 - 1))).f2⟩ : S45)) x18 x19 (wrap64 (x20 + 1))) else (if x106001 = 3 then (audit_Loads.l0 k x1 (x6.set ((wrap64 (x106000 - 1)) : Int).toNat (⟨(rd_T45 x6 (wrap64 (x106000 - 1))).f0, (rd_T45 x6 (wrap64 (x106000 - 1))).f1, wrap64 (((rd_T45 x6 (wrap64 (x106000 - 1))).f2) + 1)⟩ : S45)) x18 x19 (wrap64 (x20 + 1))) else (audit_Loads.l0 k x1 x6 x18 x19 (wrap64 (x20 + 1)))))) else (none)) else (none))
end
def audit_Loads.f (k : Nat) (l0 : List (S40)) (a1 : Int) : Option ((List (S45)) × Int) := if a1 < 1 then (audit_Loads.j0 k l0 a1 true) else (audit_Loads.j0 k l0 a1 (decide (a1 > 64)))
theorem audit_Loads.mono_l : ∀ k, (∀ y0 y1 y2, LeO (audit_Loads.j0 k y0 y1 y2) (audit_Loads.j0 (k + 1) y0 y1 y2)) ∧ (∀ y0 y1 y2 y3 y4, LeO (audit_Loads.l0 k y0 y1 y2 y3 y4) (audit_Loads.l0 (k + 1) y0 y1 y2 y3 y4)) ∧ (∀ y0 y1 y2 y3 y4 y5 y6 y7 y8 y9, LeO (audit_Loads.j2 k y0 y1 y2 y3 y4 y5 y6 y7 y8 y9) (audit_Loads.j2 (k + 1) y0 y1 y2 y3 y4 y5 y6 y7 y8 y9))
  | 0 => ⟨fun _ _ _ r h => by simp [audit_Loads.j0] at h, fun _ _ _ _ _ r h => by simp [audit_Loads.l0] at h, fun _ _ _ _ _ _ _ _ _ _ r h => by simp [audit_Loads.j2] at h⟩
  | k + 1 => by
    obtain ⟨ih0, ih1, ih2⟩ := audit_Loads.mono_l k
    refine ⟨?_, ?_, ?_⟩
    · intro y0 y1 y2
      unfold audit_Loads.j0
      repeat' first
      | (with_reducible exact ih0 _ _ _)
      | (with_reducible exact ih1 _ _ _ _ _)
      | (with_reducible exact ih2 _ _ _ _ _ _ _ _ _ _)
      | (with_reducible exact LeO.refl _)
      | (with_reducible exact LeO.none _)
      | (with_reducible refine LeO.ite ?_ ?_)
      | (with_reducible refine LeO.bind ?_ (fun _ => ?_))
      | exact ih0 _ _ _
      | exact ih1 _ _ _ _ _
      | exact ih2 _ _ _ _ _ _ _ _ _ _
      | exact LeO.none _
      | refine LeO.ite ?_ ?_
      | refine LeO.bind ?_ (fun _ => ?_)
    · intro y0 y1 y2 y3 y4
      unfold audit_Loads.l0
      repeat' first
      | (with_reducible exact ih0 _ _ _)
      | (with_reducible exact ih1 _ _ _ _ _)
      | (with_reducible exact ih2 _ _ _ _ _ _ _ _ _ _)
      | (with_reducible exact LeO.refl _)
      | (with_reducible exact LeO.none _)
      | (with_reducible refine LeO.ite ?_ ?_)
      | (with_reducible refine LeO.bind ?_ (fun _ => ?_))
      | exact ih0 _ _ _
      | exact ih1 _ _ _ _ _
      | exact ih2 _ _ _ _ _ _ _ _ _ _
      | exact LeO.none _
      | refine LeO.ite ?_ ?_
      | refine LeO.bind ?_ (fun _ => ?_)
    · intro y0 y1 y2 y3 y4 y5 y6 y7 y8 y9
      unfold audit_Loads.j2
      repeat' first
      | (with_reducible exact ih0 _ _ _)
      | (with_reducible exact ih1 _ _ _ _ _)
      | (with_reducible exact ih2 _ _ _ _ _ _ _ _ _ _)
      | (with_reducible exact LeO.refl _)
      | (with_reducible exact LeO.none _)
      | (with_reducible refine LeO.ite ?_ ?_)
      | (with_reducible refine LeO.bind ?_ (fun _ => ?_))
      | exact ih0 _ _ _
      | exact ih1 _ _ _ _ _
      | exact ih2 _ _ _ _ _ _ _ _ _ _
      | exact LeO.none _
      | refine LeO.ite ?_ ?_
      | refine LeO.bind ?_ (fun _ => ?_)
theorem audit_Loads.mono : ∀ a0 a1 k, LeO (audit_Loads.f k a0 a1) (audit_Loads.f (k + 1) a0 a1) := by
  intro a0 a1 k
  obtain ⟨ih0, ih1, ih2⟩ := audit_Loads.mono_l k
  unfold audit_Loads.f
  repeat' first
      | (with_reducible exact ih0 _ _ _)
      | (with_reducible exact ih1 _ _ _ _ _)
      | (with_reducible exact ih2 _ _ _ _ _ _ _ _ _ _)
      | (with_reducible exact LeO.refl _)
      | (with_reducible exact LeO.none _)
      | (with_reducible refine LeO.ite ?_ ?_)
      | (with_reducible refine LeO.bind ?_ (fun _ => ?_))
      | exact ih0 _ _ _
      | exact ih1 _ _ _ _ _
      | exact ih2 _ _ _ _ _ _ _ _ _ _
      | exact LeO.none _
      | refine LeO.ite ?_ ?_
      | refine LeO.bind ?_ (fun _ => ?_)
set_option maxHeartbeats 8000000 in
set_option maxRecDepth 100000 in
theorem audit_Loads.calls (k : Nat) (A0 : Option Addr) (c0 : Nat) (l0 : List (S40)) (a1 : Int) (r1 : List (S45)) (r2 : Int) (w : World) (hr0 : Kd.C k40 w A0 l0.length l0) (hc0 : l0.length ≤ c0) (h : audit_Loads.f k l0 a1 = some (r1, r2)) :
    Calls Try.prog 14 #[.slice A0 l0.length c0, .int .i64 a1] w fun e w' => ∃ v0_ : Value, e = .returned (.tuple #[v0_, .int .i64 r2]) ∧ Kd.R k45 45 w' w.heap.size (fun _ => True) v0_ r1 ∧ Below w.heap.size w w' := by
  have hu40 := Try.underlying40
  have HR0 := Aside0.mk hr0
  have HC0 := Aside0.mk hc0
  clear hr0 hc0
  have HB := Aside0.mk (Below.refl w.heap.size w)
  have H : (if a1 < 1 then (audit_Loads.j0 k l0 a1 true) else (audit_Loads.j0 k l0 a1 (decide (a1 > 64)))) = some (r1, r2) := h
  clear h
  have HC3 := Aside0.mk H
  clear H
  go_enter Try.func14, Try.ntmps14
  go_upto_region 1 with (fail)
  go_cut [15] (fun v15 wc => ∃ (kq : Nat) (x15_2 : Bool), v15 = .bool x15_2 ∧ Aside0 (audit_Loads.j0 kq l0 a1 x15_2 = some (r1, r2)) ∧ Aside0 (kq ≤ k) ∧ Aside0 (Below w.heap.size w wc))
  case first =>
    have H := HC3.out
    clear HC3
    by_cases c4 : a1 < 1
    · rw [if_pos c4] at H
      have c4b0 : decide (a1 < 1) = true := decide_eq_true c4
      clear c4
      (first | rw [c4b0] | (simp only [i64_w, i32_w]; rw [c4b0]) | skip)
      have H' := Aside0.mk H
      clear H
      go_wp2
      go_meet
      case rel => exact ⟨_, (true), (by first | rfl | (simp; done) | (simp [*]; done)), H', ⟨by first | omega | exact Nat.le_refl _⟩, ⟨by repeat (first | (with_reducible first | exact HB.out | apply below_alloc | apply pw_below_drewN | apply below_drew1) | exact HB.out)⟩⟩
    · rw [if_neg c4] at H
      have c4b0 : decide (a1 < 1) = false := decide_eq_false c4
      clear c4
      (first | rw [c4b0] | (simp only [i64_w, i32_w]; rw [c4b0]) | skip)
      have H' := Aside0.mk H
      clear H
      go_wp2
      go_meet
      case rel => exact ⟨_, (decide (a1 > 64)), (by first | rfl | (simp; done) | (simp [*]; done)), H', ⟨by first | omega | exact Nat.le_refl _⟩, ⟨by repeat (first | (with_reducible first | exact HB.out | apply below_alloc | apply pw_below_drewN | apply below_drew1) | exact HB.out)⟩⟩
  case rest =>
    clear HC3
    try clear c1
    try clear p2
    try clear c4
    try clear c4b0
    obtain ⟨kq, x15_2, rfl, HA, HJ2, HB⟩ := hcut
    cases kq with
    | zero => exact absurd HA.out (by simp [audit_Loads.j0])
    | succ kj2 =>
      have H := HA.out
      clear HA
      simp only [audit_Loads.j0] at H
      by_cases c5 : x15_2 = true
      · subst c5
        have H1 : (some (([] : List (S45)), 2)) = some (r1, r2) := by rw [if_pos rfl] at H; exact H
        clear H
        have H := H1
        clear H1
        simp only [Option.some.injEq, Prod.mk.injEq] at H
        obtain ⟨rfl, rfl⟩ := H
        go_wp2
        go_ret2
        exact ⟨_, by first | rfl | (simp [errW_none, errW_some] <;> rfl) | (simp [*, errW_none, errW_some] <;> rfl), by first | exact Kd.R_nil _ _ _ _ _ | exact Kd.N_nil _ _ _ _ _ | exact Kd.V_nil _ _ _ _ _ | exact Kd.Q_nil _ _ _ _ _ | exact Kd.S_nil _ _ _ _ _, by repeat (first | (with_reducible first | exact HB.out | apply below_alloc | apply pw_below_drewN | apply below_drew1) | exact HB.out)⟩
      · replace c5 := Bool.eq_false_iff.mpr c5
        subst c5
        have H1 : (if 0 ≤ a1 then (if (a1 : Int).toNat ≤ 11728124029610 then (audit_Loads.l0 kj2 a1 (List.replicate (a1 : Int).toNat z45) l0 (l0.length : Int) 0) else (none)) else (none)) = some (r1, r2) := by rw [if_neg (show ¬ (false = true) by decide)] at H; exact H
        clear H
        have H := H1
        clear H1
        by_cases c6 : 0 ≤ a1
        · rw [if_pos c6] at H
          have c6b0 := eq_true c6
          have c6b1 : decide (0 ≤ a1) = true := decide_eq_true c6
          clear c6
          by_cases c7 : (a1 : Int).toNat ≤ 11728124029610
          · rw [if_pos c7] at H
            have c7b0 := eq_true c7
            have c7b1 : decide ((a1 : Int).toNat ≤ 11728124029610) = true := decide_eq_true c7
            clear c7
            obtain ⟨y101, hy101⟩ : ∃ y_ : List (S45), y_ = (List.replicate (a1 : Int).toNat z45) := ⟨_, rfl⟩
            replace H : (audit_Loads.l0 kj2 a1 y101 l0 (l0.length : Int) 0) = some (r1, r2) := by first | (rw [hy101]; with_reducible exact H) | (have H2_ := (Option.bind_some _ _).symm.trans H; rw [hy101]; with_reducible exact H2_) | (have H2_ := (Option.bind_some _ _).symm.trans H; with_reducible exact H2_) | with_reducible exact H | (rw [hy101]; exact H) | exact H
            have Ny101 := Aside0.mk hy101
            clear hy101
            have H' := Aside0.mk H
            clear H
            go_wp2_with (first | ((with_reducible refine gate_dst (N := 17) rfl ?_); refine Kd.R_make k45 _ 45 rfl (N := 17) rfl 41 _ _ rfl a1 rfl rfl Try.underlying41 (.agg #[(.int .i64 0), (.int .i64 0), (.int .i64 0)]) 24 info45 rfl (by decide) (by omega) z45 (ok := fun _ => True) (okp := fun _ => True) (k45_mkM _ _ _ z45 ) (fun _ hk => hk) trivial (of_decide_eq_true (by first | (with_reducible assumption) | assumption)) (Nat.le_trans (Nat.mul_le_mul_right _ (of_decide_eq_true (by first | (with_reducible assumption) | assumption) : a1.toNat ≤ 11728124029610)) (by omega)) (Below.refl _ _) (Nat.le_refl _) ?_; intro v102 w8 ho9 hb hg_ hnew_; clear hg_ hnew_; (first | rw [← Ny101.out] at ho9 | (simp only [Int.reduceToNat] at ho9; rw [← Ny101.out] at ho9)); have n0_ := Aside0.mk (Kd.R_lower ho9 (below_size (by repeat (first | (with_reducible first | exact HB.out | apply below_alloc | apply pw_below_drewN | apply below_drew1) | exact HB.out)))); have n1_ := Aside0.mk (below_step (by repeat (first | (with_reducible first | exact HB.out | apply below_alloc | apply pw_below_drewN | apply below_drew1) | exact HB.out)) hb); clear HB; have HO103 := n0_; have HB := n1_; clear n0_ n1_; clear hb ho9))
            go_loopg [20] kj2 (fun kq v20 w' => ∃ (x6_2 : List (S45)) (x20_2 : Int), v20 = .int .i64 x20_2 ∧ Aside0 (audit_Loads.l0 kq a1 x6_2 l0 (l0.length : Int) x20_2 = some (r1, r2)) ∧ Aside0 (kq ≤ kj2) ∧ Aside0 (Kd.R k45 45 w' w.heap.size (fun _ => True) v102 x6_2) ∧ Aside0 (Below w.heap.size w w'))
            case atStart => exact ⟨(y101), (0), (by first | rfl | (simp; done) | (simp [*]; done)), H', ⟨Nat.le_refl _⟩, ⟨by (with_reducible repeat (first | apply Kd.R_alloc | apply Kd.R_drewN | apply Kd.R_drew)); exact HO103.out⟩, ⟨by repeat (first | (with_reducible first | exact HB.out | apply below_alloc | apply pw_below_drewN | apply below_drew1) | exact HB.out)⟩⟩
            case round =>
              clear H'
              try clear c1
              try clear p2
              try clear c4
              try clear c4b0
              try clear c5
              try clear c6
              try clear c6b0
              try clear c6b1
              try clear c7
              try clear c7b0
              try clear c7b1
              try clear p2
              obtain ⟨x6_2, x20_2, rfl, HA, HK2, HO_6, HB⟩ := hrel
              cases gk with
              | zero => exact absurd HA.out (by simp [audit_Loads.l0])
              | succ k2 =>
                have H := HA.out
                clear HA
                simp only [audit_Loads.l0] at H
                by_cases c10 : x20_2 < (l0.length : Int)
                · rw [if_pos c10] at H
                  have c10b0 : decide (x20_2 < (l0.length : Int)) = true := decide_eq_true c10
                  clear c10
                  by_cases c11 : 0 ≤ x20_2
                  · rw [if_pos c11] at H
                    have c11b0 : decide (0 ≤ x20_2) = true := decide_eq_true c11
                    clear c11
                    by_cases c12 : x20_2 < (l0.length : Int)
                    · rw [if_pos c12] at H
                      have c12b0 : decide (x20_2 < (l0.length : Int)) = true := decide_eq_true c12
                      clear c12
                      have HC13 := Aside0.mk H
                      clear H
                      have p104 : 0 ≤ (x20_2 : Int) := of_decide_eq_true (by first | (with_reducible assumption) | assumption)
                      have q104 : x20_2 < (l0.length : Int) := of_decide_eq_true (by first | (with_reducible assumption) | assumption)
                      obtain ⟨ad104, e104, hx104_0, hx104_1, hx104_2, hx104_3⟩ := at_T40 HR0.out x20_2 p104 q104
                      cases e104
                      replace hx104_0 := (HB.out.cell (World.block_lt_of_cell? w _ hx104_0)).trans hx104_0
                      replace hx104_1 := (HB.out.cell (World.block_lt_of_cell? w _ hx104_1)).trans hx104_1
                      replace hx104_2 := (HB.out.cell (World.block_lt_of_cell? w _ hx104_2)).trans hx104_2
                      replace hx104_3 := (HB.out.cell (World.block_lt_of_cell? w _ hx104_3)).trans hx104_3
                      replace p104 := eq_true p104
                      replace q104 := eq_true q104
                      go_upto_region 7 with (first | ((with_reducible refine gate_dst (N := 8) rfl ?_); refine box_event ?hg (N := 8) ?hd (cs := #[.int .i64 0, .int .i64 0, .int .i64 0, .int .i64 0]) (t := 40) ?hr ?_; (case hd => rfl); (case hg => rfl); (case hr => first | (go_simp; done) | (go_simp; rfl)); intro gb105 hg w14 hbox hb; have n0_ := Aside0.mk (Kd.R_below (by (with_reducible repeat (first | apply Kd.R_alloc | apply Kd.R_drewN | apply Kd.R_drew)); exact HO_6.out) hb); have n1_ := Aside0.mk (below_step (by repeat (first | (with_reducible first | exact HB.out | apply below_alloc | apply pw_below_drewN | apply below_drew1) | exact HB.out)) hb); have n2_ := Aside0.mk (hbox); have n3_ := Aside0.mk ((by rw [hg]; exact (below_size (by repeat (first | (with_reducible first | exact HB.out | apply below_alloc | apply pw_below_drewN | apply below_drew1) | exact HB.out))) : w.heap.size ≤ gb105)); have n4_ := Aside0.mk ((by rw [hg]; exact (below_size (by repeat (first | (with_reducible first | exact HB.out | apply below_alloc | apply pw_below_drewN | apply below_drew1) | exact HB.out))) : w.heap.size ≤ gb105)); clear HO_6; clear HB; have HO_6 := n0_; have HB := n1_; have BK105 := n2_; have GW105 := n3_; have GE105 := n4_; clear n0_ n1_ n2_ n3_ n4_; clear hb hbox hg; have hcz15_0 : w14.cell? ⟨gb105, 0, none⟩ = some (.int .i64 0) := (blk_cell BK105.out 0).trans rfl; have hcz15_1 : w14.cell? ⟨gb105, 1, none⟩ = some (.int .i64 0) := (blk_cell BK105.out 1).trans rfl; have hcz15_2 : w14.cell? ⟨gb105, 2, none⟩ = some (.int .i64 0) := (blk_cell BK105.out 2).trans rfl; have hcz15_3 : w14.cell? ⟨gb105, 3, none⟩ = some (.int .i64 0) := (blk_cell BK105.out 3).trans rfl; have hfz15_0 := blk_frozen BK105.out 0; have hfz15_1 := blk_frozen BK105.out 1; have hfz15_2 := blk_frozen BK105.out 2; have hfz15_3 := blk_frozen BK105.out 3))
                      (try simp only [Act.put, List.setIfInBounds_toArray, List.set_cons_zero, List.set_cons_succ])
                      go_cut [32] (fun v32 wc => ∃ (kq : Nat) (x32_12 : Bool), v32 = .bool x32_12 ∧ Aside0 (audit_Loads.j2 kq a1 x6_2 l0 (l0.length : Int) x20_2 x32_12 ((rd_T40 l0 x20_2).f0) ((rd_T40 l0 x20_2).f1) ((rd_T40 l0 x20_2).f2) ((rd_T40 l0 x20_2).f3) = some (r1, r2)) ∧ Aside0 (kq ≤ k2) ∧ Aside0 (Kd.R k45 45 wc w.heap.size (fun _ => True) v102 x6_2) ∧ Aside0 (wc.heap[gb105]? = some (.cells #[.int .i64 ((rd_T40 l0 x20_2).f0), .int .i64 ((rd_T40 l0 x20_2).f1), .int .i64 ((rd_T40 l0 x20_2).f2), .int .i64 ((rd_T40 l0 x20_2).f3)] 40 (0, 0))) ∧ Aside0 (Below w.heap.size w wc))
                      case first =>
                        have H := HC13.out
                        clear HC13
                        by_cases c16 : ((rd_T40 l0 x20_2).f0) < 1
                        · rw [if_pos c16] at H
                          have c16b0 : decide (((rd_T40 l0 x20_2).f0) < 1) = true := decide_eq_true c16
                          clear c16
                          (first | rw [c16b0] | (simp only [i64_w, i32_w]; rw [c16b0]) | skip)
                          have H' := Aside0.mk H
                          clear H
                          have hcz17_0 : w14.cell? ⟨gb105, 0, none⟩ = some (.int .i64 0) := (blk_cell BK105.out 0).trans rfl
                          have hcz17_1 : w14.cell? ⟨gb105, 1, none⟩ = some (.int .i64 0) := (blk_cell BK105.out 1).trans rfl
                          have hcz17_2 : w14.cell? ⟨gb105, 2, none⟩ = some (.int .i64 0) := (blk_cell BK105.out 2).trans rfl
                          have hcz17_3 : w14.cell? ⟨gb105, 3, none⟩ = some (.int .i64 0) := (blk_cell BK105.out 3).trans rfl
                          have hfz17_0 := blk_frozen BK105.out 0
                          have hfz17_1 := blk_frozen BK105.out 1
                          have hfz17_2 := blk_frozen BK105.out 2
                          have hfz17_3 := blk_frozen BK105.out 3
                          go_wp2
                          go_meet
                          case rel => exact ⟨_, (true), (by first | rfl | (simp; done) | (simp [*]; done)), H', ⟨by have := HJ2.out; have := HK2.out; first | omega | exact Nat.le_refl _⟩, ⟨by (with_reducible repeat (first | apply Kd.R_alloc | apply Kd.R_drewN | apply Kd.R_drew)); exact Kd.R_mono (Kd.R_far (p := ⟨gb105, 3, none⟩) (Kd.R_far (p := ⟨gb105, 2, none⟩) (Kd.R_far (p := ⟨gb105, 1, none⟩) (Kd.R_far (p := ⟨gb105, 0, none⟩) (Kd.R_types HO_6.out BK105.out (by decide)) (fun _ hk => hk.2) (.int .i64 ((rd_T40 l0 x20_2).f0))) (fun _ hk => hk.2) (.int .i64 ((rd_T40 l0 x20_2).f1))) (fun _ hk => hk.2) (.int .i64 ((rd_T40 l0 x20_2).f2))) (fun _ hk => hk.2) (.int .i64 ((rd_T40 l0 x20_2).f3))) (fun _ hk => trivial)⟩, ⟨by (with_reducible repeat (first | refine blk_drewN ?_ _ | refine blk_drew ?_ | refine blk_alloc ?_ _)); refine blk_put (cs := #[.int .i64 ((rd_T40 l0 x20_2).f0), .int .i64 ((rd_T40 l0 x20_2).f1), .int .i64 ((rd_T40 l0 x20_2).f2), .int .i64 0]) ?_ 3 _ rfl; (with_reducible repeat (first | refine blk_drewN ?_ _ | refine blk_drew ?_ | refine blk_alloc ?_ _)); refine blk_put (cs := #[.int .i64 ((rd_T40 l0 x20_2).f0), .int .i64 ((rd_T40 l0 x20_2).f1), .int .i64 0, .int .i64 0]) ?_ 2 _ rfl; (with_reducible repeat (first | refine blk_drewN ?_ _ | refine blk_drew ?_ | refine blk_alloc ?_ _)); refine blk_put (cs := #[.int .i64 ((rd_T40 l0 x20_2).f0), .int .i64 0, .int .i64 0, .int .i64 0]) ?_ 1 _ rfl; (with_reducible repeat (first | refine blk_drewN ?_ _ | refine blk_drew ?_ | refine blk_alloc ?_ _)); refine blk_put (cs := #[.int .i64 0, .int .i64 0, .int .i64 0, .int .i64 0]) ?_ 0 _ rfl; (with_reducible repeat (first | refine blk_drewN ?_ _ | refine blk_drew ?_ | refine blk_alloc ?_ _)); exact BK105.out⟩, ⟨by repeat (first | (with_reducible first | exact HB.out | apply below_alloc | apply pw_below_drewN | apply below_drew1 | refine below_set ?_ GE105.out) | exact HB.out)⟩⟩
                        · rw [if_neg c16] at H
                          have c16b0 : decide (((rd_T40 l0 x20_2).f0) < 1) = false := decide_eq_false c16
                          clear c16
                          (first | rw [c16b0] | (simp only [i64_w, i32_w]; rw [c16b0]) | skip)
                          have H' := Aside0.mk H
                          clear H
                          have hcz18_0 : w14.cell? ⟨gb105, 0, none⟩ = some (.int .i64 0) := (blk_cell BK105.out 0).trans rfl
                          have hcz18_1 : w14.cell? ⟨gb105, 1, none⟩ = some (.int .i64 0) := (blk_cell BK105.out 1).trans rfl
                          have hcz18_2 : w14.cell? ⟨gb105, 2, none⟩ = some (.int .i64 0) := (blk_cell BK105.out 2).trans rfl
                          have hcz18_3 : w14.cell? ⟨gb105, 3, none⟩ = some (.int .i64 0) := (blk_cell BK105.out 3).trans rfl
                          have hfz18_0 := blk_frozen BK105.out 0
                          have hfz18_1 := blk_frozen BK105.out 1
                          have hfz18_2 := blk_frozen BK105.out 2
                          have hfz18_3 := blk_frozen BK105.out 3
                          go_wp2
                          go_meet
                          case rel => exact ⟨_, (decide (((rd_T40 l0 x20_2).f0) > a1)), (by first | rfl | (simp; done) | (simp [*]; done)), H', ⟨by have := HJ2.out; have := HK2.out; first | omega | exact Nat.le_refl _⟩, ⟨by (with_reducible repeat (first | apply Kd.R_alloc | apply Kd.R_drewN | apply Kd.R_drew)); exact Kd.R_mono (Kd.R_far (p := ⟨gb105, 3, none⟩) (Kd.R_far (p := ⟨gb105, 2, none⟩) (Kd.R_far (p := ⟨gb105, 1, none⟩) (Kd.R_far (p := ⟨gb105, 0, none⟩) (Kd.R_types HO_6.out BK105.out (by decide)) (fun _ hk => hk.2) (.int .i64 ((rd_T40 l0 x20_2).f0))) (fun _ hk => hk.2) (.int .i64 ((rd_T40 l0 x20_2).f1))) (fun _ hk => hk.2) (.int .i64 ((rd_T40 l0 x20_2).f2))) (fun _ hk => hk.2) (.int .i64 ((rd_T40 l0 x20_2).f3))) (fun _ hk => trivial)⟩, ⟨by (with_reducible repeat (first | refine blk_drewN ?_ _ | refine blk_drew ?_ | refine blk_alloc ?_ _)); refine blk_put (cs := #[.int .i64 ((rd_T40 l0 x20_2).f0), .int .i64 ((rd_T40 l0 x20_2).f1), .int .i64 ((rd_T40 l0 x20_2).f2), .int .i64 0]) ?_ 3 _ rfl; (with_reducible repeat (first | refine blk_drewN ?_ _ | refine blk_drew ?_ | refine blk_alloc ?_ _)); refine blk_put (cs := #[.int .i64 ((rd_T40 l0 x20_2).f0), .int .i64 ((rd_T40 l0 x20_2).f1), .int .i64 0, .int .i64 0]) ?_ 2 _ rfl; (with_reducible repeat (first | refine blk_drewN ?_ _ | refine blk_drew ?_ | refine blk_alloc ?_ _)); refine blk_put (cs := #[.int .i64 ((rd_T40 l0 x20_2).f0), .int .i64 0, .int .i64 0, .int .i64 0]) ?_ 1 _ rfl; (with_reducible repeat (first | refine blk_drewN ?_ _ | refine blk_drew ?_ | refine blk_alloc ?_ _)); refine blk_put (cs := #[.int .i64 0, .int .i64 0, .int .i64 0, .int .i64 0]) ?_ 0 _ rfl; (with_reducible repeat (first | refine blk_drewN ?_ _ | refine blk_drew ?_ | refine blk_alloc ?_ _)); exact BK105.out⟩, ⟨by repeat (first | (with_reducible first | exact HB.out | apply below_alloc | apply pw_below_drewN | apply below_drew1 | refine below_set ?_ GE105.out) | exact HB.out)⟩⟩
                      case rest =>
                        clear HC13
                        try clear c1
                        try clear p1
                        try clear q1
                        try clear hx1
                        try clear p2
                        try clear c4
                        try clear c4b0
                        try clear c5
                        try clear c6
                        try clear c6b0
                        try clear c6b1
                        try clear c7
                        try clear c7b0
                        try clear c7b1
                        try clear c10
                        try clear c10b0
                        try clear p10
                        try clear q10
                        try clear hx10
                        try clear c11
                        try clear c11b0
                        try clear c12
                        try clear c12b0
                        try clear c14
                        try clear c16
                        try clear c16b0
                        try clear hcz15_0
                        try clear hcz15_1
                        try clear hcz15_2
                        try clear hcz15_3
                        try clear hcz17_0
                        try clear hcz17_1
                        try clear hcz17_2
                        try clear hcz17_3
                        try clear hcz18_0
                        try clear hcz18_1
                        try clear hcz18_2
                        try clear hcz18_3
                        try clear hfz15_0
                        try clear hfz15_1
                        try clear hfz15_2
                        try clear hfz15_3
                        try clear hfz17_0
                        try clear hfz17_1
                        try clear hfz17_2
                        try clear hfz17_3
                        try clear hfz18_0
                        try clear hfz18_1
                        try clear hfz18_2
                        try clear hfz18_3
                        try clear hx104_0
                        try clear hx104_1
                        try clear hx104_2
                        try clear hx104_3
                        try clear p104
                        try clear p2
                        try clear q104
                        obtain ⟨kq, x32_12, rfl, HA, HJ12, HO_6, BK105, HB⟩ := hcut
                        cases kq with
                        | zero => exact absurd HA.out (by simp [audit_Loads.j2])
                        | succ kj12 =>
                          have H := HA.out
                          clear HA
                          simp only [audit_Loads.j2] at H
                          by_cases c19 : x32_12 = true
                          · subst c19
                            have H1 : (audit_Loads.l0 kj12 a1 x6_2 l0 (l0.length : Int) (wrap64 (x20_2 + 1))) = some (r1, r2) := by rw [if_pos rfl] at H; exact H
                            clear H
                            have H := H1
                            clear H1
                            have H' := Aside0.mk H
                            clear H
                            go_wp2
                            go_roundg kj12
                            case measure => have := HJ2.out; have := HK2.out; have := HJ12.out; omega
                            case rel => exact ⟨(x6_2), (wrap64 (x20_2 + 1)), (by first | rfl | (simp; done) | (simp [*]; done)), H', ⟨by have := HJ2.out; have := HK2.out; have := HJ12.out; omega⟩, ⟨by (with_reducible repeat (first | apply Kd.R_alloc | apply Kd.R_drewN | apply Kd.R_drew)); exact HO_6.out⟩, ⟨by repeat (first | (with_reducible first | exact HB.out | apply below_alloc | apply pw_below_drewN | apply below_drew1 | refine below_set ?_ GE105.out) | exact HB.out)⟩⟩
                          · replace c19 := Bool.eq_false_iff.mpr c19
                            subst c19
                            have H1 : (if 0 ≤ (wrap64 (((rd_T40 l0 x20_2).f0) - 1)) then (if (wrap64 (((rd_T40 l0 x20_2).f0) - 1)) < (x6_2.length : Int) then (if ((rd_T40 l0 x20_2).f1) = 1 then (audit_Loads.l0 kj12 a1 (x6_2.set ((wrap64 (((rd_T40 l0 x20_2).f0) - 1)) : Int).toNat (⟨wrap64 (((rd_T45 x6_2 (wrap64 (((rd_T40 l0 x20_2).f0) - 1))).f0) + 1), (rd_T45 x6_2 (wrap64 (((rd_T40 l0 x20_2).f0) - 1))).f1, (rd_T45 x6_2 (wrap64 (((rd_T40 l0 x20_2).f0) - 1))).f2⟩ : S45)) l0 (l0.length : Int) (wrap64 (x20_2 + 1))) else (if ((rd_T40 l0 x20_2).f1) = 2 then (audit_Loads.l0 kj12 a1 (x6_2.set ((wrap64 (((rd_T40 l0 x20_2).f0) - 1)) : Int).toNat (⟨(rd_T45 x6_2 (wrap64 (((rd_T40 l0 x20_2).f0) - 1))).f0, wrap64 (((rd_T45 x6_2 (wrap64 (((rd_T40 l0 x20_2).f0) - 1))).f1) + 1), (rd_T45 x6_2 (wrap64 (((rd_T40 l0 x20_2).f0) - 1))).f2⟩ : S45)) l0 (l0.length : Int) (wrap64 (x20_2 + 1))) else (if ((rd_T40 l0 x20_2).f1) = 3 then (audit_Loads.l0 kj12 a1 (x6_2.set ((wrap64 (((rd_T40 l0 x20_2).f0) - 1)) : Int).toNat (⟨(rd_T45 x6_2 (wrap64 (((rd_T40 l0 x20_2).f0) - 1))).f0, (rd_T45 x6_2 (wrap64 (((rd_T40 l0 x20_2).f0) - 1))).f1, wrap64 (((rd_T45 x6_2 (wrap64 (((rd_T40 l0 x20_2).f0) - 1))).f2) + 1)⟩ : S45)) l0 (l0.length : Int) (wrap64 (x20_2 + 1))) else (audit_Loads.l0 kj12 a1 x6_2 l0 (l0.length : Int) (wrap64 (x20_2 + 1)))))) else (none)) else (none)) = some (r1, r2) := by rw [if_neg (show ¬ (false = true) by decide)] at H; exact H
                            clear H
                            have H := H1
                            clear H1
                            obtain ⟨ji20, hji20⟩ : ∃ j_ : Int, (wrap64 (((rd_T40 l0 x20_2).f0) - 1)) = j_ := ⟨_, rfl⟩
                            replace H : (if 0 ≤ (ji20) then (if (ji20) < (x6_2.length : Int) then (if ((rd_T40 l0 x20_2).f1) = 1 then (audit_Loads.l0 kj12 a1 (x6_2.set ((ji20) : Int).toNat (⟨wrap64 (((rd_T45 x6_2 (ji20)).f0) + 1), (rd_T45 x6_2 (ji20)).f1, (rd_T45 x6_2 (ji20)).f2⟩ : S45)) l0 (l0.length : Int) (wrap64 (x20_2 + 1))) else (if ((rd_T40 l0 x20_2).f1) = 2 then (audit_Loads.l0 kj12 a1 (x6_2.set ((ji20) : Int).toNat (⟨(rd_T45 x6_2 (ji20)).f0, wrap64 (((rd_T45 x6_2 (ji20)).f1) + 1), (rd_T45 x6_2 (ji20)).f2⟩ : S45)) l0 (l0.length : Int) (wrap64 (x20_2 + 1))) else (if ((rd_T40 l0 x20_2).f1) = 3 then (audit_Loads.l0 kj12 a1 (x6_2.set ((ji20) : Int).toNat (⟨(rd_T45 x6_2 (ji20)).f0, (rd_T45 x6_2 (ji20)).f1, wrap64 (((rd_T45 x6_2 (ji20)).f2) + 1)⟩ : S45)) l0 (l0.length : Int) (wrap64 (x20_2 + 1))) else (audit_Loads.l0 kj12 a1 x6_2 l0 (l0.length : Int) (wrap64 (x20_2 + 1)))))) else (none)) else (none)) = some (r1, r2) := by first | (rw [hji20] at H; exact H) | (simp only [hji20] at H ⊢; exact H)
                            have hji20w : (IntKind.i64.wrap (((rd_T40 l0 x20_2).f0) - 1)) = ji20 := (i64_w _).trans hji20
                            by_cases c21 : 0 ≤ (ji20)
                            · rw [if_pos c21] at H
                              have c21b0 : decide (0 ≤ (ji20)) = true := decide_eq_true c21
                              clear c21
                              by_cases c22 : (ji20) < (x6_2.length : Int)
                              · rw [if_pos c22] at H
                                have c22b0 : decide ((ji20) < (x6_2.length : Int)) = true := decide_eq_true c22
                                clear c22
                                by_cases c24 : ((rd_T40 l0 x20_2).f1) = 1
                                · rw [if_pos c24] at H
                                  have c24b0 : (((rd_T40 l0 x20_2).f1) == 1) = true := beq_iff_eq.mpr c24
                                  have c24b1 : (((rd_T40 l0 x20_2).f1) != 1) = false := bne_eq_false_iff_eq.mpr c24
                                  clear c24
                                  obtain ⟨y106, hy106⟩ : ∃ y_ : List (S45), y_ = (x6_2.set ((ji20) : Int).toNat (⟨wrap64 (((rd_T45 x6_2 (ji20)).f0) + 1), (rd_T45 x6_2 (ji20)).f1, (rd_T45 x6_2 (ji20)).f2⟩ : S45)) := ⟨_, rfl⟩
                                  replace H : (audit_Loads.l0 kj12 a1 y106 l0 (l0.length : Int) (wrap64 (x20_2 + 1))) = some (r1, r2) := by first | (rw [hy106]; with_reducible exact H) | (have H2_ := (Option.bind_some _ _).symm.trans H; rw [hy106]; with_reducible exact H2_) | (have H2_ := (Option.bind_some _ _).symm.trans H; with_reducible exact H2_) | with_reducible exact H | (rw [hy106]; exact H) | exact H
                                  have Ny106 := Aside0.mk hy106
                                  clear hy106
                                  have H' := Aside0.mk H
                                  clear H
                                  have hcz25_0 : wc.cell? ⟨gb105, 0, none⟩ = some (.int .i64 ((rd_T40 l0 x20_2).f0)) := (blk_cell BK105.out 0).trans rfl
                                  have hcz25_1 : wc.cell? ⟨gb105, 1, none⟩ = some (.int .i64 ((rd_T40 l0 x20_2).f1)) := (blk_cell BK105.out 1).trans rfl
                                  have hcz25_2 : wc.cell? ⟨gb105, 2, none⟩ = some (.int .i64 ((rd_T40 l0 x20_2).f2)) := (blk_cell BK105.out 2).trans rfl
                                  have hcz25_3 : wc.cell? ⟨gb105, 3, none⟩ = some (.int .i64 ((rd_T40 l0 x20_2).f3)) := (blk_cell BK105.out 3).trans rfl
                                  have hfz25_0 := blk_frozen BK105.out 0
                                  have hfz25_1 := blk_frozen BK105.out 1
                                  have hfz25_2 := blk_frozen BK105.out 2
                                  have hfz25_3 := blk_frozen BK105.out 3
                                  have p23 : 0 ≤ ((ji20) : Int) := of_decide_eq_true (by first | (with_reducible assumption) | assumption)
                                  have q23 : ((ji20) : Int) < ((x6_2.length : Int) : Int) := of_decide_eq_true (by first | (with_reducible assumption) | assumption)
                                  obtain ⟨go23, co23, eo23, gb23, gl23, cl23, HG23⟩ := Kd.R_form HO_6.out (by omega)
                                  (first | cases eo23 | (injection eo23 with ea_ en_ ec_; (first | subst ea_ | (injection ea_ with ea_; subst ea_)); subst ec_; clear en_))
                                  have GB23 := Aside0.mk gb23
                                  have GG23 := Aside0.mk HG23
                                  clear gb23 gl23 HG23
                                  obtain ⟨ce23, hcl23, hM23, hcc23, hfr23⟩ := Kd.R_elem HO_6.out z45 ((ji20) : Int) p23 q23
                                  obtain rfl := k45_openM hM23
                                  have hx23_0 : wc.cell? ⟨go23, ((ji20) : Int).toNat * 3, none⟩ = some (.int .i64 ((rd_T45 x6_2 (ji20)).f0)) := hcc23 0 _ rfl
                                  have hx23_1 : wc.cell? ⟨go23, ((ji20) : Int).toNat * 3 + 1, none⟩ = some (.int .i64 ((rd_T45 x6_2 (ji20)).f1)) := hcc23 1 _ rfl
                                  have hx23_2 : wc.cell? ⟨go23, ((ji20) : Int).toNat * 3 + 2, none⟩ = some (.int .i64 ((rd_T45 x6_2 (ji20)).f2)) := hcc23 2 _ rfl
                                  have hf23_0 : wc.frozen? ⟨go23, ((ji20) : Int).toNat * 3, none⟩ = false := hfr23 0
                                  have hf23_1 : wc.frozen? ⟨go23, ((ji20) : Int).toNat * 3 + 1, none⟩ = false := hfr23 1
                                  have hf23_2 : wc.frozen? ⟨go23, ((ji20) : Int).toNat * 3 + 2, none⟩ = false := hfr23 2
                                  clear hcl23 hcc23 hfr23 hM23
                                  replace p23 := eq_true p23
                                  replace q23 := eq_true q23
                                  have HX26 := Aside0.mk (show Kd.R k45 45 wc w.heap.size (fun _ => True) (.slice (some ⟨go23, 0, none⟩) x6_2.length co23) x6_2 from (by (with_reducible repeat (first | apply Kd.R_alloc | apply Kd.R_drewN | apply Kd.R_drew)); exact HO_6.out))
                                  obtain ⟨ce26, hcl26, hM26, hcc26, hfr26⟩ := Kd.R_elem HX26.out z45 ((ji20) : Int) (of_decide_eq_true (by first | (with_reducible assumption) | assumption)) (by have h_ : ((ji20) : Int) < ((x6_2.length : Int) : Int) := of_decide_eq_true (by first | (with_reducible assumption) | assumption); first | exact h_ | (have e_ := (Kd.R_reads' HO_6.out).1; omega) | simpa using h_)
                                  obtain rfl := k45_openM hM26
                                  have HP26 := Kd.R_seg HX26.out ((ji20) : Int) (of_decide_eq_true (by first | (with_reducible assumption) | assumption)) (by have h_ : ((ji20) : Int) < ((x6_2.length : Int) : Int) := of_decide_eq_true (by first | (with_reducible assumption) | assumption); first | exact h_ | (have e_ := (Kd.R_reads' HO_6.out).1; omega) | simpa using h_) (seg := [.int .i64 (wrap64 (((rd_T45 x6_2 (ji20)).f0) + 1))]) (j := 0) hcl26 hcc26 (show 1 ≤ 3 from by decide) (x' := (⟨wrap64 (((rd_T45 x6_2 (ji20)).f0) + 1), (rd_T45 x6_2 (ji20)).f1, (rd_T45 x6_2 (ji20)).f2⟩ : S45)) (k45_mkM _ _ _ (⟨wrap64 (((rd_T45 x6_2 (ji20)).f0) + 1), (rd_T45 x6_2 (ji20)).f1, (rd_T45 x6_2 (ji20)).f2⟩ : S45) ) (fun _ hk => hk)
                                  have hx26_0 := hcc26 0 _ rfl
                                  (try simp only [show (k45).sz = 3 from rfl, Nat.mul_one, Nat.add_zero] at hx26_0)
                                  have hf26_0 := hfr26 0
                                  (try simp only [show (k45).sz = 3 from rfl, Nat.mul_one, Nat.add_zero] at hf26_0)
                                  clear hcl26 hcc26 hfr26 hM26
                                  go_wp2_with (first | ((with_reducible refine gate_store (t := 3) (p := 48) rfl ?_); refine store_event (t := 3) (p := 48) (v := ?vo_w27) (w1 := (wc.setCell ⟨go23, ((ji20) : Int).toNat * 3, none⟩ (.int .i64 (wrap64 (((rd_T45 x6_2 (ji20)).f0) + 1))))) ?hg ?ho ?hn ?hr ?_; (case ho => rfl); (case hg => rfl); (case hn => rfl); (case hr => first | (go_simp; done) | (go_simp; rfl)); intro w27 hw; have hg : wc.grownBy w27 (some go23) := (by rw [hw]; exact HP26.2); have hp_ : Kd.R k45 45 w27 w.heap.size (fun _ => True) (.slice (some ⟨go23, 0, none⟩) x6_2.length co23) y106 := (by rw [hw, Ny106.out]; exact HP26.1); clear HP26; have n0_ := Aside0.mk (hp_); have n1_ := Aside0.mk (blk_grown (g := gb105) (o := .cells #[.int .i64 ((rd_T40 l0 x20_2).f0), .int .i64 ((rd_T40 l0 x20_2).f1), .int .i64 ((rd_T40 l0 x20_2).f2), .int .i64 ((rd_T40 l0 x20_2).f3)] 40 (0, 0)) (by (with_reducible repeat (first | refine blk_drewN ?_ _ | refine blk_drew ?_ | refine blk_alloc ?_ _)); exact BK105.out) hg (Kd.R_ne HO_6.out BK105.out (by decide))); have n2_ := Aside0.mk ((by rw [hw]; exact below_set (HB.out) GB23.out : Below w.heap.size w w27)); clear HO_6; clear BK105; clear HB; have HO_6 := n0_; have BK105 := n1_; have HB := n2_; clear n0_ n1_ n2_; clear hg hw hp_))
                                  go_roundg kj12
                                  case measure => have := HJ2.out; have := HK2.out; have := HJ12.out; omega
                                  case rel => exact ⟨(y106), (wrap64 (x20_2 + 1)), (by first | rfl | (simp; done) | (simp [*]; done)), H', ⟨by have := HJ2.out; have := HK2.out; have := HJ12.out; omega⟩, ⟨by (with_reducible repeat (first | apply Kd.R_alloc | apply Kd.R_drewN | apply Kd.R_drew)); exact HO_6.out⟩, ⟨by repeat (first | (with_reducible first | exact HB.out | apply below_alloc | apply pw_below_drewN | apply below_drew1 | refine below_set ?_ GE105.out) | exact HB.out)⟩⟩
                                · rw [if_neg c24] at H
                                  have c24b0 : (((rd_T40 l0 x20_2).f1) == 1) = false := beq_eq_false_iff_ne.mpr c24
                                  have c24b1 : (((rd_T40 l0 x20_2).f1) != 1) = true := bne_iff_ne.mpr c24
                                  by_cases c28 : ((rd_T40 l0 x20_2).f1) = 2
                                  · rw [if_pos c28] at H
                                    have c28b0 : (((rd_T40 l0 x20_2).f1) == 2) = true := beq_iff_eq.mpr c28
                                    have c28b1 : (((rd_T40 l0 x20_2).f1) != 2) = false := bne_eq_false_iff_eq.mpr c28
                                    clear c28
                                    obtain ⟨y107, hy107⟩ : ∃ y_ : List (S45), y_ = (x6_2.set ((ji20) : Int).toNat (⟨(rd_T45 x6_2 (ji20)).f0, wrap64 (((rd_T45 x6_2 (ji20)).f1) + 1), (rd_T45 x6_2 (ji20)).f2⟩ : S45)) := ⟨_, rfl⟩
                                    replace H : (audit_Loads.l0 kj12 a1 y107 l0 (l0.length : Int) (wrap64 (x20_2 + 1))) = some (r1, r2) := by first | (rw [hy107]; with_reducible exact H) | (have H2_ := (Option.bind_some _ _).symm.trans H; rw [hy107]; with_reducible exact H2_) | (have H2_ := (Option.bind_some _ _).symm.trans H; with_reducible exact H2_) | with_reducible exact H | (rw [hy107]; exact H) | exact H
                                    have Ny107 := Aside0.mk hy107
                                    clear hy107
                                    have H' := Aside0.mk H
                                    clear H
                                    have hcz29_0 : wc.cell? ⟨gb105, 0, none⟩ = some (.int .i64 ((rd_T40 l0 x20_2).f0)) := (blk_cell BK105.out 0).trans rfl
                                    have hcz29_1 : wc.cell? ⟨gb105, 1, none⟩ = some (.int .i64 ((rd_T40 l0 x20_2).f1)) := (blk_cell BK105.out 1).trans rfl
                                    have hcz29_2 : wc.cell? ⟨gb105, 2, none⟩ = some (.int .i64 ((rd_T40 l0 x20_2).f2)) := (blk_cell BK105.out 2).trans rfl
                                    have hcz29_3 : wc.cell? ⟨gb105, 3, none⟩ = some (.int .i64 ((rd_T40 l0 x20_2).f3)) := (blk_cell BK105.out 3).trans rfl
                                    have hfz29_0 := blk_frozen BK105.out 0
                                    have hfz29_1 := blk_frozen BK105.out 1
                                    have hfz29_2 := blk_frozen BK105.out 2
                                    have hfz29_3 := blk_frozen BK105.out 3
                                    have p23 : 0 ≤ ((ji20) : Int) := of_decide_eq_true (by first | (with_reducible assumption) | assumption)
                                    have q23 : ((ji20) : Int) < ((x6_2.length : Int) : Int) := of_decide_eq_true (by first | (with_reducible assumption) | assumption)
                                    obtain ⟨go23, co23, eo23, gb23, gl23, cl23, HG23⟩ := Kd.R_form HO_6.out (by omega)
                                    (first | cases eo23 | (injection eo23 with ea_ en_ ec_; (first | subst ea_ | (injection ea_ with ea_; subst ea_)); subst ec_; clear en_))
                                    have GB23 := Aside0.mk gb23
                                    have GG23 := Aside0.mk HG23
                                    clear gb23 gl23 HG23
                                    obtain ⟨ce23, hcl23, hM23, hcc23, hfr23⟩ := Kd.R_elem HO_6.out z45 ((ji20) : Int) p23 q23
                                    obtain rfl := k45_openM hM23
                                    have hx23_0 : wc.cell? ⟨go23, ((ji20) : Int).toNat * 3, none⟩ = some (.int .i64 ((rd_T45 x6_2 (ji20)).f0)) := hcc23 0 _ rfl
                                    have hx23_1 : wc.cell? ⟨go23, ((ji20) : Int).toNat * 3 + 1, none⟩ = some (.int .i64 ((rd_T45 x6_2 (ji20)).f1)) := hcc23 1 _ rfl
                                    have hx23_2 : wc.cell? ⟨go23, ((ji20) : Int).toNat * 3 + 2, none⟩ = some (.int .i64 ((rd_T45 x6_2 (ji20)).f2)) := hcc23 2 _ rfl
                                    have hf23_0 : wc.frozen? ⟨go23, ((ji20) : Int).toNat * 3, none⟩ = false := hfr23 0
                                    have hf23_1 : wc.frozen? ⟨go23, ((ji20) : Int).toNat * 3 + 1, none⟩ = false := hfr23 1
                                    have hf23_2 : wc.frozen? ⟨go23, ((ji20) : Int).toNat * 3 + 2, none⟩ = false := hfr23 2
                                    clear hcl23 hcc23 hfr23 hM23
                                    replace p23 := eq_true p23
                                    replace q23 := eq_true q23
                                    have HX30 := Aside0.mk (show Kd.R k45 45 wc w.heap.size (fun _ => True) (.slice (some ⟨go23, 0, none⟩) x6_2.length co23) x6_2 from (by (with_reducible repeat (first | apply Kd.R_alloc | apply Kd.R_drewN | apply Kd.R_drew)); exact HO_6.out))
                                    obtain ⟨ce30, hcl30, hM30, hcc30, hfr30⟩ := Kd.R_elem HX30.out z45 ((ji20) : Int) (of_decide_eq_true (by first | (with_reducible assumption) | assumption)) (by have h_ : ((ji20) : Int) < ((x6_2.length : Int) : Int) := of_decide_eq_true (by first | (with_reducible assumption) | assumption); first | exact h_ | (have e_ := (Kd.R_reads' HO_6.out).1; omega) | simpa using h_)
                                    obtain rfl := k45_openM hM30
                                    have HP30 := Kd.R_seg HX30.out ((ji20) : Int) (of_decide_eq_true (by first | (with_reducible assumption) | assumption)) (by have h_ : ((ji20) : Int) < ((x6_2.length : Int) : Int) := of_decide_eq_true (by first | (with_reducible assumption) | assumption); first | exact h_ | (have e_ := (Kd.R_reads' HO_6.out).1; omega) | simpa using h_) (seg := [.int .i64 (wrap64 (((rd_T45 x6_2 (ji20)).f1) + 1))]) (j := 1) hcl30 hcc30 (show 2 ≤ 3 from by decide) (x' := (⟨(rd_T45 x6_2 (ji20)).f0, wrap64 (((rd_T45 x6_2 (ji20)).f1) + 1), (rd_T45 x6_2 (ji20)).f2⟩ : S45)) (k45_mkM _ _ _ (⟨(rd_T45 x6_2 (ji20)).f0, wrap64 (((rd_T45 x6_2 (ji20)).f1) + 1), (rd_T45 x6_2 (ji20)).f2⟩ : S45) ) (fun _ hk => hk)
                                    have hx30_1 := hcc30 1 _ rfl
                                    (try simp only [show (k45).sz = 3 from rfl, Nat.mul_one, Nat.add_zero] at hx30_1)
                                    have hf30_1 := hfr30 1
                                    (try simp only [show (k45).sz = 3 from rfl, Nat.mul_one, Nat.add_zero] at hf30_1)
                                    clear hcl30 hcc30 hfr30 hM30
                                    go_wp2_with (first | ((with_reducible refine gate_store (t := 3) (p := 57) rfl ?_); refine store_event (t := 3) (p := 57) (v := ?vo_w31) (w1 := (wc.setCell ⟨go23, ((ji20) : Int).toNat * 3 + 1, none⟩ (.int .i64 (wrap64 (((rd_T45 x6_2 (ji20)).f1) + 1))))) ?hg ?ho ?hn ?hr ?_; (case ho => rfl); (case hg => rfl); (case hn => rfl); (case hr => first | (go_simp; done) | (go_simp; rfl)); intro w31 hw; have hg : wc.grownBy w31 (some go23) := (by rw [hw]; exact HP30.2); have hp_ : Kd.R k45 45 w31 w.heap.size (fun _ => True) (.slice (some ⟨go23, 0, none⟩) x6_2.length co23) y107 := (by rw [hw, Ny107.out]; exact HP30.1); clear HP30; have n0_ := Aside0.mk (hp_); have n1_ := Aside0.mk (blk_grown (g := gb105) (o := .cells #[.int .i64 ((rd_T40 l0 x20_2).f0), .int .i64 ((rd_T40 l0 x20_2).f1), .int .i64 ((rd_T40 l0 x20_2).f2), .int .i64 ((rd_T40 l0 x20_2).f3)] 40 (0, 0)) (by (with_reducible repeat (first | refine blk_drewN ?_ _ | refine blk_drew ?_ | refine blk_alloc ?_ _)); exact BK105.out) hg (Kd.R_ne HO_6.out BK105.out (by decide))); have n2_ := Aside0.mk ((by rw [hw]; exact below_set (HB.out) GB23.out : Below w.heap.size w w31)); clear HO_6; clear BK105; clear HB; have HO_6 := n0_; have BK105 := n1_; have HB := n2_; clear n0_ n1_ n2_; clear hg hw hp_))
                                    go_roundg kj12
                                    case measure => have := HJ2.out; have := HK2.out; have := HJ12.out; omega
                                    case rel => exact ⟨(y107), (wrap64 (x20_2 + 1)), (by first | rfl | (simp; done) | (simp [*]; done)), H', ⟨by have := HJ2.out; have := HK2.out; have := HJ12.out; omega⟩, ⟨by (with_reducible repeat (first | apply Kd.R_alloc | apply Kd.R_drewN | apply Kd.R_drew)); exact HO_6.out⟩, ⟨by repeat (first | (with_reducible first | exact HB.out | apply below_alloc | apply pw_below_drewN | apply below_drew1 | refine below_set ?_ GE105.out) | exact HB.out)⟩⟩
                                  · rw [if_neg c28] at H
                                    have c28b0 : (((rd_T40 l0 x20_2).f1) == 2) = false := beq_eq_false_iff_ne.mpr c28
                                    have c28b1 : (((rd_T40 l0 x20_2).f1) != 2) = true := bne_iff_ne.mpr c28
                                    by_cases c32 : ((rd_T40 l0 x20_2).f1) = 3
                                    · rw [if_pos c32] at H
                                      have c32b0 : (((rd_T40 l0 x20_2).f1) == 3) = true := beq_iff_eq.mpr c32
                                      have c32b1 : (((rd_T40 l0 x20_2).f1) != 3) = false := bne_eq_false_iff_eq.mpr c32
                                      clear c32
                                      obtain ⟨y108, hy108⟩ : ∃ y_ : List (S45), y_ = (x6_2.set ((ji20) : Int).toNat (⟨(rd_T45 x6_2 (ji20)).f0, (rd_T45 x6_2 (ji20)).f1, wrap64 (((rd_T45 x6_2 (ji20)).f2) + 1)⟩ : S45)) := ⟨_, rfl⟩
                                      replace H : (audit_Loads.l0 kj12 a1 y108 l0 (l0.length : Int) (wrap64 (x20_2 + 1))) = some (r1, r2) := by first | (rw [hy108]; with_reducible exact H) | (have H2_ := (Option.bind_some _ _).symm.trans H; rw [hy108]; with_reducible exact H2_) | (have H2_ := (Option.bind_some _ _).symm.trans H; with_reducible exact H2_) | with_reducible exact H | (rw [hy108]; exact H) | exact H
                                      have Ny108 := Aside0.mk hy108
                                      clear hy108
                                      have H' := Aside0.mk H
                                      clear H
                                      have hcz33_0 : wc.cell? ⟨gb105, 0, none⟩ = some (.int .i64 ((rd_T40 l0 x20_2).f0)) := (blk_cell BK105.out 0).trans rfl
                                      have hcz33_1 : wc.cell? ⟨gb105, 1, none⟩ = some (.int .i64 ((rd_T40 l0 x20_2).f1)) := (blk_cell BK105.out 1).trans rfl
                                      have hcz33_2 : wc.cell? ⟨gb105, 2, none⟩ = some (.int .i64 ((rd_T40 l0 x20_2).f2)) := (blk_cell BK105.out 2).trans rfl
                                      have hcz33_3 : wc.cell? ⟨gb105, 3, none⟩ = some (.int .i64 ((rd_T40 l0 x20_2).f3)) := (blk_cell BK105.out 3).trans rfl
                                      have hfz33_0 := blk_frozen BK105.out 0
                                      have hfz33_1 := blk_frozen BK105.out 1
                                      have hfz33_2 := blk_frozen BK105.out 2
                                      have hfz33_3 := blk_frozen BK105.out 3
                                      have p23 : 0 ≤ ((ji20) : Int) := of_decide_eq_true (by first | (with_reducible assumption) | assumption)
                                      have q23 : ((ji20) : Int) < ((x6_2.length : Int) : Int) := of_decide_eq_true (by first | (with_reducible assumption) | assumption)
                                      obtain ⟨go23, co23, eo23, gb23, gl23, cl23, HG23⟩ := Kd.R_form HO_6.out (by omega)
                                      (first | cases eo23 | (injection eo23 with ea_ en_ ec_; (first | subst ea_ | (injection ea_ with ea_; subst ea_)); subst ec_; clear en_))
                                      have GB23 := Aside0.mk gb23
                                      have GG23 := Aside0.mk HG23
                                      clear gb23 gl23 HG23
                                      obtain ⟨ce23, hcl23, hM23, hcc23, hfr23⟩ := Kd.R_elem HO_6.out z45 ((ji20) : Int) p23 q23
                                      obtain rfl := k45_openM hM23
                                      have hx23_0 : wc.cell? ⟨go23, ((ji20) : Int).toNat * 3, none⟩ = some (.int .i64 ((rd_T45 x6_2 (ji20)).f0)) := hcc23 0 _ rfl
                                      have hx23_1 : wc.cell? ⟨go23, ((ji20) : Int).toNat * 3 + 1, none⟩ = some (.int .i64 ((rd_T45 x6_2 (ji20)).f1)) := hcc23 1 _ rfl
                                      have hx23_2 : wc.cell? ⟨go23, ((ji20) : Int).toNat * 3 + 2, none⟩ = some (.int .i64 ((rd_T45 x6_2 (ji20)).f2)) := hcc23 2 _ rfl
                                      have hf23_0 : wc.frozen? ⟨go23, ((ji20) : Int).toNat * 3, none⟩ = false := hfr23 0
                                      have hf23_1 : wc.frozen? ⟨go23, ((ji20) : Int).toNat * 3 + 1, none⟩ = false := hfr23 1
                                      have hf23_2 : wc.frozen? ⟨go23, ((ji20) : Int).toNat * 3 + 2, none⟩ = false := hfr23 2
                                      clear hcl23 hcc23 hfr23 hM23
                                      replace p23 := eq_true p23
                                      replace q23 := eq_true q23
                                      have HX34 := Aside0.mk (show Kd.R k45 45 wc w.heap.size (fun _ => True) (.slice (some ⟨go23, 0, none⟩) x6_2.length co23) x6_2 from (by (with_reducible repeat (first | apply Kd.R_alloc | apply Kd.R_drewN | apply Kd.R_drew)); exact HO_6.out))
                                      obtain ⟨ce34, hcl34, hM34, hcc34, hfr34⟩ := Kd.R_elem HX34.out z45 ((ji20) : Int) (of_decide_eq_true (by first | (with_reducible assumption) | assumption)) (by have h_ : ((ji20) : Int) < ((x6_2.length : Int) : Int) := of_decide_eq_true (by first | (with_reducible assumption) | assumption); first | exact h_ | (have e_ := (Kd.R_reads' HO_6.out).1; omega) | simpa using h_)
                                      obtain rfl := k45_openM hM34
                                      have HP34 := Kd.R_seg HX34.out ((ji20) : Int) (of_decide_eq_true (by first | (with_reducible assumption) | assumption)) (by have h_ : ((ji20) : Int) < ((x6_2.length : Int) : Int) := of_decide_eq_true (by first | (with_reducible assumption) | assumption); first | exact h_ | (have e_ := (Kd.R_reads' HO_6.out).1; omega) | simpa using h_) (seg := [.int .i64 (wrap64 (((rd_T45 x6_2 (ji20)).f2) + 1))]) (j := 2) hcl34 hcc34 (show 3 ≤ 3 from by decide) (x' := (⟨(rd_T45 x6_2 (ji20)).f0, (rd_T45 x6_2 (ji20)).f1, wrap64 (((rd_T45 x6_2 (ji20)).f2) + 1)⟩ : S45)) (k45_mkM _ _ _ (⟨(rd_T45 x6_2 (ji20)).f0, (rd_T45 x6_2 (ji20)).f1, wrap64 (((rd_T45 x6_2 (ji20)).f2) + 1)⟩ : S45) ) (fun _ hk => hk)
                                      have hx34_2 := hcc34 2 _ rfl
                                      (try simp only [show (k45).sz = 3 from rfl, Nat.mul_one, Nat.add_zero] at hx34_2)
                                      have hf34_2 := hfr34 2
                                      (try simp only [show (k45).sz = 3 from rfl, Nat.mul_one, Nat.add_zero] at hf34_2)
                                      clear hcl34 hcc34 hfr34 hM34
                                      go_wp2_with (first | ((with_reducible refine gate_store (t := 3) (p := 66) rfl ?_); refine store_event (t := 3) (p := 66) (v := ?vo_w35) (w1 := (wc.setCell ⟨go23, ((ji20) : Int).toNat * 3 + 2, none⟩ (.int .i64 (wrap64 (((rd_T45 x6_2 (ji20)).f2) + 1))))) ?hg ?ho ?hn ?hr ?_; (case ho => rfl); (case hg => rfl); (case hn => rfl); (case hr => first | (go_simp; done) | (go_simp; rfl)); intro w35 hw; have hg : wc.grownBy w35 (some go23) := (by rw [hw]; exact HP34.2); have hp_ : Kd.R k45 45 w35 w.heap.size (fun _ => True) (.slice (some ⟨go23, 0, none⟩) x6_2.length co23) y108 := (by rw [hw, Ny108.out]; exact HP34.1); clear HP34; have n0_ := Aside0.mk (hp_); have n1_ := Aside0.mk (blk_grown (g := gb105) (o := .cells #[.int .i64 ((rd_T40 l0 x20_2).f0), .int .i64 ((rd_T40 l0 x20_2).f1), .int .i64 ((rd_T40 l0 x20_2).f2), .int .i64 ((rd_T40 l0 x20_2).f3)] 40 (0, 0)) (by (with_reducible repeat (first | refine blk_drewN ?_ _ | refine blk_drew ?_ | refine blk_alloc ?_ _)); exact BK105.out) hg (Kd.R_ne HO_6.out BK105.out (by decide))); have n2_ := Aside0.mk ((by rw [hw]; exact below_set (HB.out) GB23.out : Below w.heap.size w w35)); clear HO_6; clear BK105; clear HB; have HO_6 := n0_; have BK105 := n1_; have HB := n2_; clear n0_ n1_ n2_; clear hg hw hp_))
                                      go_roundg kj12
                                      case measure => have := HJ2.out; have := HK2.out; have := HJ12.out; omega
                                      case rel => exact ⟨(y108), (wrap64 (x20_2 + 1)), (by first | rfl | (simp; done) | (simp [*]; done)), H', ⟨by have := HJ2.out; have := HK2.out; have := HJ12.out; omega⟩, ⟨by (with_reducible repeat (first | apply Kd.R_alloc | apply Kd.R_drewN | apply Kd.R_drew)); exact HO_6.out⟩, ⟨by repeat (first | (with_reducible first | exact HB.out | apply below_alloc | apply pw_below_drewN | apply below_drew1 | refine below_set ?_ GE105.out) | exact HB.out)⟩⟩
                                    · rw [if_neg c32] at H
                                      have c32b0 : (((rd_T40 l0 x20_2).f1) == 3) = false := beq_eq_false_iff_ne.mpr c32
                                      have c32b1 : (((rd_T40 l0 x20_2).f1) != 3) = true := bne_iff_ne.mpr c32
                                      have H' := Aside0.mk H
                                      clear H
                                      have hcz36_0 : wc.cell? ⟨gb105, 0, none⟩ = some (.int .i64 ((rd_T40 l0 x20_2).f0)) := (blk_cell BK105.out 0).trans rfl
                                      have hcz36_1 : wc.cell? ⟨gb105, 1, none⟩ = some (.int .i64 ((rd_T40 l0 x20_2).f1)) := (blk_cell BK105.out 1).trans rfl
                                      have hcz36_2 : wc.cell? ⟨gb105, 2, none⟩ = some (.int .i64 ((rd_T40 l0 x20_2).f2)) := (blk_cell BK105.out 2).trans rfl
                                      have hcz36_3 : wc.cell? ⟨gb105, 3, none⟩ = some (.int .i64 ((rd_T40 l0 x20_2).f3)) := (blk_cell BK105.out 3).trans rfl
                                      have hfz36_0 := blk_frozen BK105.out 0
                                      have hfz36_1 := blk_frozen BK105.out 1
                                      have hfz36_2 := blk_frozen BK105.out 2
                                      have hfz36_3 := blk_frozen BK105.out 3
                                      have p23 : 0 ≤ ((ji20) : Int) := of_decide_eq_true (by first | (with_reducible assumption) | assumption)
                                      have q23 : ((ji20) : Int) < ((x6_2.length : Int) : Int) := of_decide_eq_true (by first | (with_reducible assumption) | assumption)
                                      obtain ⟨go23, co23, eo23, gb23, gl23, cl23, HG23⟩ := Kd.R_form HO_6.out (by omega)
                                      (first | cases eo23 | (injection eo23 with ea_ en_ ec_; (first | subst ea_ | (injection ea_ with ea_; subst ea_)); subst ec_; clear en_))
                                      have GB23 := Aside0.mk gb23
                                      have GG23 := Aside0.mk HG23
                                      clear gb23 gl23 HG23
                                      obtain ⟨ce23, hcl23, hM23, hcc23, hfr23⟩ := Kd.R_elem HO_6.out z45 ((ji20) : Int) p23 q23
                                      obtain rfl := k45_openM hM23
                                      have hx23_0 : wc.cell? ⟨go23, ((ji20) : Int).toNat * 3, none⟩ = some (.int .i64 ((rd_T45 x6_2 (ji20)).f0)) := hcc23 0 _ rfl
                                      have hx23_1 : wc.cell? ⟨go23, ((ji20) : Int).toNat * 3 + 1, none⟩ = some (.int .i64 ((rd_T45 x6_2 (ji20)).f1)) := hcc23 1 _ rfl
                                      have hx23_2 : wc.cell? ⟨go23, ((ji20) : Int).toNat * 3 + 2, none⟩ = some (.int .i64 ((rd_T45 x6_2 (ji20)).f2)) := hcc23 2 _ rfl
                                      have hf23_0 : wc.frozen? ⟨go23, ((ji20) : Int).toNat * 3, none⟩ = false := hfr23 0
                                      have hf23_1 : wc.frozen? ⟨go23, ((ji20) : Int).toNat * 3 + 1, none⟩ = false := hfr23 1
                                      have hf23_2 : wc.frozen? ⟨go23, ((ji20) : Int).toNat * 3 + 2, none⟩ = false := hfr23 2
                                      clear hcl23 hcc23 hfr23 hM23
                                      replace p23 := eq_true p23
                                      replace q23 := eq_true q23
                                      go_wp2
                                      go_roundg kj12
                                      case measure => have := HJ2.out; have := HK2.out; have := HJ12.out; omega
                                      case rel => exact ⟨(x6_2), (wrap64 (x20_2 + 1)), (by first | rfl | (simp; done) | (simp [*]; done)), H', ⟨by have := HJ2.out; have := HK2.out; have := HJ12.out; omega⟩, ⟨by (with_reducible repeat (first | apply Kd.R_alloc | apply Kd.R_drewN | apply Kd.R_drew)); exact HO_6.out⟩, ⟨by repeat (first | (with_reducible first | exact HB.out | apply below_alloc | apply pw_below_drewN | apply below_drew1 | refine below_set ?_ GE105.out) | exact HB.out)⟩⟩
                              · rw [if_neg c22] at H
                                exact absurd H (by simp)
                            · rw [if_neg c21] at H
                              exact absurd H (by simp)
                    · rw [if_neg c12] at H
                      exact absurd H (by simp)
                  · rw [if_neg c11] at H
                    exact absurd H (by simp)
                · rw [if_neg c10] at H
                  have c10b0 : decide (x20_2 < (l0.length : Int)) = false := decide_eq_false c10
                  clear c10
                  simp only [Option.some.injEq, Prod.mk.injEq] at H
                  obtain ⟨rfl, rfl⟩ := H
                  go_wp2
                  go_ret2
                  exact ⟨_, by first | rfl | (simp [errW_none, errW_some] <;> rfl) | (simp [*, errW_none, errW_some] <;> rfl), by (with_reducible repeat (first | apply Kd.R_alloc | apply Kd.R_drewN | apply Kd.R_drew)); exact HO_6.out, by repeat (first | (with_reducible first | exact HB.out | apply below_alloc | apply pw_below_drewN | apply below_drew1) | exact HB.out)⟩
          · rw [if_neg c7] at H
            exact absurd H (by simp)
        · rw [if_neg c6] at H
          exact absurd H (by simp)

/-! ### stat_Shares: function 7 -/
mutual
def stat_Shares.l0 : Nat → List (S45) → Int → List (S45) → Int → Int → Option (List Nat × Int)
  | 0, _, _, _, _, _ => none
  | k + 1, x6, x8, x23, x24, x25 => if x25 < x24 then (if 0 ≤ x25 then (if x25 < (x23.length : Int) then (stat_Shares.l0 k x6 (wrap64 (x8 + ((rd_T45 x23 x25).f1))) x23 x24 (wrap64 (x25 + 1))) else (none)) else (none)) else (if 0 ≤ (x6.length : Int) then (if ((x6.length : Int) : Int).toNat ≤ 35184372088832 then (stat_Shares.l1 k x8 (List.replicate ((x6.length : Int) : Int).toNat 0) x6 (x6.length : Int) 0) else (none)) else (none))
def stat_Shares.l1 : Nat → Int → List Nat → List (S45) → Int → Int → Option (List Nat × Int)
  | 0, _, _, _, _, _ => none
  | k + 1, x8, x11, x37, x38, x39 => if x39 < x38 then (if 0 ≤ x39 then (if x39 < (x37.length : Int) then (if x8 > 0 then (if (fok .quo (foi ((rd_T45 x37 x39).f1)) (foi x8)) = true then (if x39 < (x11.length : Int) then (stat_Shares.l1 k x8 (x11.set (x39 : Int).toNat (fop .quo (foi ((rd_T45 x37 x39).f1)) (foi x8))) x37 x38 (wrap64 (x39 + 1))) else (none)) else (none)) else (stat_Shares.l1 k x8 x11 x37 x38 (wrap64 (x39 + 1)))) else (none)) else (none)) else (some (x11, 0))
end
def stat_Shares.f (k : Nat) (l0 : List (S40)) (a1 : Int) : Option (List Nat × Int) := (audit_Loads.f k l0 a1).bind fun bt109 => (if bt109.2 = 0 then (stat_Shares.l0 k bt109.1 0 bt109.1 (bt109.1.length : Int) 0) else (some (([] : List Nat), bt109.2)))
theorem stat_Shares.mono_l : ∀ k, (∀ y0 y1 y2 y3 y4, LeO (stat_Shares.l0 k y0 y1 y2 y3 y4) (stat_Shares.l0 (k + 1) y0 y1 y2 y3 y4)) ∧ (∀ y0 y1 y2 y3 y4, LeO (stat_Shares.l1 k y0 y1 y2 y3 y4) (stat_Shares.l1 (k + 1) y0 y1 y2 y3 y4))
  | 0 => ⟨fun _ _ _ _ _ r h => by simp [stat_Shares.l0] at h, fun _ _ _ _ _ r h => by simp [stat_Shares.l1] at h⟩
  | k + 1 => by
    obtain ⟨ih0, ih1⟩ := stat_Shares.mono_l k
    refine ⟨?_, ?_⟩
    · intro y0 y1 y2 y3 y4
      unfold stat_Shares.l0
      repeat' first
      | (with_reducible exact ih0 _ _ _ _ _)
      | (with_reducible exact ih1 _ _ _ _ _)
      | (with_reducible exact audit_Loads.mono _ _ _)
      | (with_reducible exact LeO.refl _)
      | (with_reducible exact LeO.none _)
      | (with_reducible refine LeO.ite ?_ ?_)
      | (with_reducible refine LeO.bind ?_ (fun _ => ?_))
      | exact ih0 _ _ _ _ _
      | exact ih1 _ _ _ _ _
      | exact audit_Loads.mono _ _ _
      | exact LeO.none _
      | refine LeO.ite ?_ ?_
      | refine LeO.bind ?_ (fun _ => ?_)
    · intro y0 y1 y2 y3 y4
      unfold stat_Shares.l1
      repeat' first
      | (with_reducible exact ih0 _ _ _ _ _)
      | (with_reducible exact ih1 _ _ _ _ _)
      | (with_reducible exact audit_Loads.mono _ _ _)
      | (with_reducible exact LeO.refl _)
      | (with_reducible exact LeO.none _)
      | (with_reducible refine LeO.ite ?_ ?_)
      | (with_reducible refine LeO.bind ?_ (fun _ => ?_))
      | exact ih0 _ _ _ _ _
      | exact ih1 _ _ _ _ _
      | exact audit_Loads.mono _ _ _
      | exact LeO.none _
      | refine LeO.ite ?_ ?_
      | refine LeO.bind ?_ (fun _ => ?_)
theorem stat_Shares.mono : ∀ a0 a1 k, LeO (stat_Shares.f k a0 a1) (stat_Shares.f (k + 1) a0 a1) := by
  intro a0 a1 k
  obtain ⟨ih0, ih1⟩ := stat_Shares.mono_l k
  unfold stat_Shares.f
  repeat' first
      | (with_reducible exact ih0 _ _ _ _ _)
      | (with_reducible exact ih1 _ _ _ _ _)
      | (with_reducible exact audit_Loads.mono _ _ _)
      | (with_reducible exact LeO.refl _)
      | (with_reducible exact LeO.none _)
      | (with_reducible refine LeO.ite ?_ ?_)
      | (with_reducible refine LeO.bind ?_ (fun _ => ?_))
      | exact ih0 _ _ _ _ _
      | exact ih1 _ _ _ _ _
      | exact audit_Loads.mono _ _ _
      | exact LeO.none _
      | refine LeO.ite ?_ ?_
      | refine LeO.bind ?_ (fun _ => ?_)
set_option maxHeartbeats 8000000 in
set_option maxRecDepth 100000 in
theorem stat_Shares.calls (k : Nat) (A0 : Option Addr) (c0 : Nat) (l0 : List (S40)) (a1 : Int) (r1 : List Nat) (r2 : Int) (w : World) (hr0 : Kd.C k40 w A0 l0.length l0) (hc0 : l0.length ≤ c0) (h : stat_Shares.f k l0 a1 = some (r1, r2)) :
    Calls Try.prog 7 #[.slice A0 l0.length c0, .int .i64 a1] w fun e w' => ∃ v0_ : Value, e = .returned (.tuple #[v0_, .int .i64 r2]) ∧ Kd.R Kd.float 28 w' w.heap.size (fun _ => True) v0_ r1 ∧ Below w.heap.size w w' := by
  have hu45 := Try.underlying45
  have HR0 := Aside0.mk hr0
  have HC0 := Aside0.mk hc0
  clear hr0 hc0
  have HB := Aside0.mk (Below.refl w.heap.size w)
  have H : ((audit_Loads.f k l0 a1).bind fun bt109 => (if bt109.2 = 0 then (stat_Shares.l0 k bt109.1 0 bt109.1 (bt109.1.length : Int) 0) else (some (([] : List Nat), bt109.2)))) = some (r1, r2) := h
  clear h
  replace H := Option.bind_eq_some_iff.mp H
  obtain ⟨⟨t109, t110⟩, A30, H⟩ := H
  replace H : (if t110 = 0 then (stat_Shares.l0 k t109 0 t109 (t109.length : Int) 0) else (some (([] : List Nat), t110))) = some (r1, r2) := H
  have A3 := Aside0.mk A30
  clear A30
  by_cases c4 : t110 = 0
  · rw [if_pos c4] at H
    have c4b0 : (t110 == 0) = true := beq_iff_eq.mpr c4
    have c4b1 : (t110 != 0) = false := bne_eq_false_iff_eq.mpr c4
    clear c4
    have H' := Aside0.mk H
    clear H
    go_enter Try.func7, Try.ntmps7
    go_wp2_with (first | ((with_reducible refine gate_callee (f := 14) rfl ?_); refine goesL_ (some 17) rfl rfl Try.func14 (by kernel_rfl) rfl #[.slice A0 l0.length c0, .int .i64 a1] rfl (by (try simp only [List.map_toArray, List.map_cons, List.map_nil]); first | done | rfl | (simp only [List.length_drop, List.length_take]; rfl)) ?_; (with_reducible refine (audit_Loads.calls k _ _ l0 a1 t109 t110 _ ?side1 ?side2 A3.out).mono ?_); (case side1 => repeat (first | exact HR0.out | (with_reducible refine Kd.C_alloc ?_ _) | (with_reducible refine Kd.C_drewN ?_ _) | (with_reducible refine Kd.C_drew ?_))); (case side2 => exact HC0.out); rintro e w5 ⟨v111, rfl, ho0, hb⟩; refine ⟨_, rfl, ?_⟩; have n0_ := Aside0.mk (Kd.R_lower ho0 (below_size (by repeat (first | (with_reducible first | exact HB.out | apply below_alloc | apply pw_below_drewN | apply below_drew1) | exact HB.out)))); have n1_ := Aside0.mk (below_step (by repeat (first | (with_reducible first | exact HB.out | apply below_alloc | apply pw_below_drewN | apply below_drew1) | exact HB.out)) hb); clear HB; have HO112 := n0_; have HB := n1_; clear n0_ n1_; (try clear hb); (try clear hb2); (try clear hk); (try clear hi); (try clear ho0); obtain ⟨Ao6, co6, eo6⟩ := Kd.R_slice HO112.out; subst eo6))
    go_loopg [8, 25] k (fun kq v8 v25 w' => ∃ (x8_1 : Int) (x25_1 : Int), v8 = .int .i64 x8_1 ∧ v25 = .int .i64 x25_1 ∧ Aside0 (stat_Shares.l0 kq t109 x8_1 t109 (t109.length : Int) x25_1 = some (r1, r2)) ∧ Aside0 (kq ≤ k) ∧ Aside0 (Kd.R k45 45 w' w.heap.size (fun _ => True) (.slice Ao6 t109.length co6) t109) ∧ Aside0 (Kd.R k45 45 w' w.heap.size (fun _ => True) (.slice Ao6 t109.length co6) t109) ∧ Aside0 (Below w.heap.size w w'))
    case atStart => exact ⟨(0), (0), (by first | rfl | (simp; done) | (simp [*]; done)), (by first | rfl | (simp; done) | (simp [*]; done)), H', ⟨Nat.le_refl _⟩, ⟨by (with_reducible repeat (first | apply Kd.R_alloc | apply Kd.R_drewN | apply Kd.R_drew)); exact HO112.out⟩, ⟨by (with_reducible repeat (first | apply Kd.R_alloc | apply Kd.R_drewN | apply Kd.R_drew)); exact HO112.out⟩, ⟨by repeat (first | (with_reducible first | exact HB.out | apply below_alloc | apply pw_below_drewN | apply below_drew1) | exact HB.out)⟩⟩
    case round =>
      clear H'
      try clear c1
      try clear p2
      try clear c4
      try clear c4b0
      try clear c4b1
      obtain ⟨x8_1, x25_1, rfl, rfl, HA, HK1, HO_6, HO_23, HB⟩ := hrel
      cases gk with
      | zero => exact absurd HA.out (by simp [stat_Shares.l0])
      | succ k1 =>
        have H := HA.out
        clear HA
        simp only [stat_Shares.l0] at H
        by_cases c7 : x25_1 < (t109.length : Int)
        · rw [if_pos c7] at H
          have c7b0 : decide (x25_1 < (t109.length : Int)) = true := decide_eq_true c7
          clear c7
          by_cases c8 : 0 ≤ x25_1
          · rw [if_pos c8] at H
            have c8b0 : decide (0 ≤ x25_1) = true := decide_eq_true c8
            clear c8
            by_cases c9 : x25_1 < (t109.length : Int)
            · rw [if_pos c9] at H
              have c9b0 : decide (x25_1 < (t109.length : Int)) = true := decide_eq_true c9
              clear c9
              have H' := Aside0.mk H
              clear H
              have p113 : 0 ≤ (x25_1 : Int) := of_decide_eq_true (by first | (with_reducible assumption) | assumption)
              have q113 : x25_1 < (t109.length : Int) := of_decide_eq_true (by first | (with_reducible assumption) | assumption)
              obtain ⟨ad113, e113, hx113_0, hx113_1, hx113_2⟩ := at_T45 (Kd.R_reads' HO_23.out).2.2 x25_1 p113 q113
              cases e113
              replace p113 := eq_true p113
              replace q113 := eq_true q113
              go_wp2_with (first | ((with_reducible refine gate_dst (N := 10) rfl ?_); refine box_event ?hg (N := 10) ?hd (cs := #[.int .i64 0, .int .i64 0, .int .i64 0]) (t := 45) ?hr ?_; (case hd => rfl); (case hg => rfl); (case hr => first | (go_simp; done) | (go_simp; rfl)); intro gb114 hg w10 hbox hb; have n0_ := Aside0.mk (Kd.R_below (Kd.R_elderB (by (with_reducible repeat (first | apply Kd.R_alloc | apply Kd.R_drewN | apply Kd.R_drew)); exact HO_6.out) gb114 (Nat.le_of_eq hg.symm)) hb); have n1_ := Aside0.mk (Kd.R_below (Kd.R_elderB (by (with_reducible repeat (first | apply Kd.R_alloc | apply Kd.R_drewN | apply Kd.R_drew)); exact HO_23.out) gb114 (Nat.le_of_eq hg.symm)) hb); have n2_ := Aside0.mk (below_step (by repeat (first | (with_reducible first | exact HB.out | apply below_alloc | apply pw_below_drewN | apply below_drew1) | exact HB.out)) hb); have n3_ := Aside0.mk (hbox); have n4_ := Aside0.mk ((by rw [hg]; exact (below_size (by repeat (first | (with_reducible first | exact HB.out | apply below_alloc | apply pw_below_drewN | apply below_drew1) | exact HB.out))) : w.heap.size ≤ gb114)); have n5_ := Aside0.mk ((by rw [hg]; exact (below_size (by repeat (first | (with_reducible first | exact HB.out | apply below_alloc | apply pw_below_drewN | apply below_drew1) | exact HB.out))) : w.heap.size ≤ gb114)); clear HO_6; clear HO_23; clear HB; have HO_6 := n0_; have HO_23 := n1_; have HB := n2_; have BK114 := n3_; have GW114 := n4_; have GE114 := n5_; clear n0_ n1_ n2_ n3_ n4_ n5_; clear hb hbox hg; have hcz11_0 : w10.cell? ⟨gb114, 0, none⟩ = some (.int .i64 0) := (blk_cell BK114.out 0).trans rfl; have hcz11_1 : w10.cell? ⟨gb114, 1, none⟩ = some (.int .i64 0) := (blk_cell BK114.out 1).trans rfl; have hcz11_2 : w10.cell? ⟨gb114, 2, none⟩ = some (.int .i64 0) := (blk_cell BK114.out 2).trans rfl; have hfz11_0 := blk_frozen BK114.out 0; have hfz11_1 := blk_frozen BK114.out 1; have hfz11_2 := blk_frozen BK114.out 2))
              go_roundg k1
              case measure => have := HK1.out; omega
              case rel => exact ⟨(wrap64 (x8_1 + ((rd_T45 t109 x25_1).f1))), (wrap64 (x25_1 + 1)), (by first | rfl | (simp; done) | (simp [*]; done)), (by first | rfl | (simp; done) | (simp [*]; done)), H', ⟨by have := HK1.out; omega⟩, ⟨by (with_reducible repeat (first | apply Kd.R_alloc | apply Kd.R_drewN | apply Kd.R_drew)); exact Kd.R_mono (Kd.R_far (p := ⟨gb114, 2, none⟩) (Kd.R_far (p := ⟨gb114, 1, none⟩) (Kd.R_far (p := ⟨gb114, 0, none⟩) (Kd.R_mono HO_6.out (fun k_ hk => (⟨hk, hk.2⟩ : _ ∧ k_ ≠ gb114))) (fun _ hk => hk.2) (.int .i64 ((rd_T45 t109 x25_1).f0))) (fun _ hk => hk.2) (.int .i64 ((rd_T45 t109 x25_1).f1))) (fun _ hk => hk.2) (.int .i64 ((rd_T45 t109 x25_1).f2))) (fun _ hk => trivial)⟩, ⟨by (with_reducible repeat (first | apply Kd.R_alloc | apply Kd.R_drewN | apply Kd.R_drew)); exact Kd.R_mono (Kd.R_far (p := ⟨gb114, 2, none⟩) (Kd.R_far (p := ⟨gb114, 1, none⟩) (Kd.R_far (p := ⟨gb114, 0, none⟩) (Kd.R_mono HO_23.out (fun k_ hk => (⟨hk, hk.2⟩ : _ ∧ k_ ≠ gb114))) (fun _ hk => hk.2) (.int .i64 ((rd_T45 t109 x25_1).f0))) (fun _ hk => hk.2) (.int .i64 ((rd_T45 t109 x25_1).f1))) (fun _ hk => hk.2) (.int .i64 ((rd_T45 t109 x25_1).f2))) (fun _ hk => trivial)⟩, ⟨by repeat (first | (with_reducible first | exact HB.out | apply below_alloc | apply pw_below_drewN | apply below_drew1 | refine below_set ?_ GE114.out) | exact HB.out)⟩⟩
            · rw [if_neg c9] at H
              exact absurd H (by simp)
          · rw [if_neg c8] at H
            exact absurd H (by simp)
        · rw [if_neg c7] at H
          have c7b0 : decide (x25_1 < (t109.length : Int)) = false := decide_eq_false c7
          clear c7
          by_cases c12 : 0 ≤ (t109.length : Int)
          · rw [if_pos c12] at H
            have c12b0 := eq_true c12
            have c12b1 : decide (0 ≤ (t109.length : Int)) = true := decide_eq_true c12
            clear c12
            by_cases c13 : ((t109.length : Int) : Int).toNat ≤ 35184372088832
            · rw [if_pos c13] at H
              have c13b0 := eq_true c13
              have c13b1 : decide (((t109.length : Int) : Int).toNat ≤ 35184372088832) = true := decide_eq_true c13
              clear c13
              obtain ⟨y115, hy115⟩ : ∃ y_ : List Nat, y_ = (List.replicate ((t109.length : Int) : Int).toNat 0) := ⟨_, rfl⟩
              replace H : (stat_Shares.l1 k1 x8_1 y115 t109 (t109.length : Int) 0) = some (r1, r2) := by first | (rw [hy115]; with_reducible exact H) | (have H2_ := (Option.bind_some _ _).symm.trans H; rw [hy115]; with_reducible exact H2_) | (have H2_ := (Option.bind_some _ _).symm.trans H; with_reducible exact H2_) | with_reducible exact H | (rw [hy115]; exact H) | exact H
              have Ny115 := Aside0.mk hy115
              clear hy115
              have H' := Aside0.mk H
              clear H
              go_wp2_with (first | ((with_reducible refine gate_dst (N := 36) rfl ?_); refine Kd.R_make Kd.float _ 28 rfl (N := 36) rfl 24 _ _ rfl (t109.length : Int) rfl rfl Try.underlying24 (.float .f64 0) 8 info28 rfl (by decide) (by omega) 0 (ok := fun _ => True) (okp := fun _ => True) rfl (fun _ hk => hk) trivial (of_decide_eq_true (by first | (with_reducible assumption) | assumption)) (Nat.le_trans (Nat.mul_le_mul_right _ (of_decide_eq_true (by first | (with_reducible assumption) | assumption) : (t109.length : Int).toNat ≤ 35184372088832)) (by omega)) (Below.refl _ _) (Nat.le_refl _) ?_; intro v116 w14 ho15 hb hg_ hnew_; clear hg_ hnew_; (first | rw [← Ny115.out] at ho15 | (simp only [Int.reduceToNat] at ho15; rw [← Ny115.out] at ho15)); have n0_ := Aside0.mk (Kd.R_below (by (with_reducible repeat (first | apply Kd.R_alloc | apply Kd.R_drewN | apply Kd.R_drew)); exact HO_6.out) hb); have n1_ := Aside0.mk (Kd.R_below (by (with_reducible repeat (first | apply Kd.R_alloc | apply Kd.R_drewN | apply Kd.R_drew)); exact HO_23.out) hb); have n2_ := Aside0.mk (Kd.R_lower ho15 (below_size (by repeat (first | (with_reducible first | exact HB.out | apply below_alloc | apply pw_below_drewN | apply below_drew1) | exact HB.out)))); have n3_ := Aside0.mk (below_step (by repeat (first | (with_reducible first | exact HB.out | apply below_alloc | apply pw_below_drewN | apply below_drew1) | exact HB.out)) hb); clear HO_6; clear HO_23; clear HB; have HO_6 := n0_; have HO_23 := n1_; have HO117 := n2_; have HB := n3_; clear n0_ n1_ n2_ n3_; clear hb ho15))
              go_loopg [39] k1 (fun kq v39 w' => ∃ (x11_2 : List Nat) (x39_2 : Int), v39 = .int .i64 x39_2 ∧ Aside0 (stat_Shares.l1 kq x8_1 x11_2 t109 (t109.length : Int) x39_2 = some (r1, r2)) ∧ Aside0 (kq ≤ k1) ∧ Aside0 (Kd.R Kd.float 28 w' w.heap.size (fun _ => True) v116 x11_2) ∧ Aside0 (Kd.R k45 45 w' w.heap.size (fun _ => True) (.slice Ao6 t109.length co6) t109) ∧ Aside0 (Below w.heap.size w w'))
              case atStart => exact ⟨(y115), (0), (by first | rfl | (simp; done) | (simp [*]; done)), H', ⟨Nat.le_refl _⟩, ⟨by (with_reducible repeat (first | apply Kd.R_alloc | apply Kd.R_drewN | apply Kd.R_drew)); exact HO117.out⟩, ⟨by (with_reducible repeat (first | apply Kd.R_alloc | apply Kd.R_drewN | apply Kd.R_drew)); exact HO_6.out⟩, ⟨by repeat (first | (with_reducible first | exact HB.out | apply below_alloc | apply pw_below_drewN | apply below_drew1) | exact HB.out)⟩⟩
              case round =>
                clear H'
                try clear c1
                try clear p1
                try clear q1
                try clear hx1
                try clear p2
                try clear c4
                try clear c4b0
                try clear c4b1
                try clear p6
                try clear c7
                try clear c7b0
                try clear c8
                try clear c8b0
                try clear c9
                try clear c9b0
                try clear p11
                try clear q11
                try clear hx11
                try clear c12
                try clear c12b0
                try clear c12b1
                try clear c13
                try clear c13b0
                try clear c13b1
                try clear c14
                try clear hcz11_0
                try clear hcz11_1
                try clear hcz11_2
                try clear hfz11_0
                try clear hfz11_1
                try clear hfz11_2
                try clear hx113_0
                try clear hx113_1
                try clear hx113_2
                try clear p113
                try clear p2
                try clear q113
                obtain ⟨x11_2, x39_2, rfl, HA, HK2, HO_11, HO_37, HB⟩ := hrel
                cases gk with
                | zero => exact absurd HA.out (by simp [stat_Shares.l1])
                | succ k2 =>
                  have H := HA.out
                  clear HA
                  simp only [stat_Shares.l1] at H
                  by_cases c16 : x39_2 < (t109.length : Int)
                  · rw [if_pos c16] at H
                    have c16b0 : decide (x39_2 < (t109.length : Int)) = true := decide_eq_true c16
                    clear c16
                    by_cases c17 : 0 ≤ x39_2
                    · rw [if_pos c17] at H
                      have c17b0 : decide (0 ≤ x39_2) = true := decide_eq_true c17
                      clear c17
                      by_cases c18 : x39_2 < (t109.length : Int)
                      · rw [if_pos c18] at H
                        have c18b0 : decide (x39_2 < (t109.length : Int)) = true := decide_eq_true c18
                        clear c18
                        by_cases c19 : x8_1 > 0
                        · rw [if_pos c19] at H
                          have c19b0 : decide (0 < x8_1) = true := decide_eq_true c19
                          clear c19
                          by_cases c20 : (fok .quo (foi ((rd_T45 t109 x39_2).f1)) (foi x8_1)) = true
                          · rw [if_pos c20] at H
                            have c20b0 := eq_true c20
                            have c20b1 : decide ((fok .quo (foi ((rd_T45 t109 x39_2).f1)) (foi x8_1)) = true) = true := decide_eq_true c20
                            clear c20
                            by_cases c21 : x39_2 < (x11_2.length : Int)
                            · rw [if_pos c21] at H
                              have c21b0 : decide (x39_2 < (x11_2.length : Int)) = true := decide_eq_true c21
                              clear c21
                              obtain ⟨y120, hy120⟩ : ∃ y_ : List Nat, y_ = (x11_2.set (x39_2 : Int).toNat (fop .quo (foi ((rd_T45 t109 x39_2).f1)) (foi x8_1))) := ⟨_, rfl⟩
                              replace H : (stat_Shares.l1 k2 x8_1 y120 t109 (t109.length : Int) (wrap64 (x39_2 + 1))) = some (r1, r2) := by first | (rw [hy120]; with_reducible exact H) | (have H2_ := (Option.bind_some _ _).symm.trans H; rw [hy120]; with_reducible exact H2_) | (have H2_ := (Option.bind_some _ _).symm.trans H; with_reducible exact H2_) | with_reducible exact H | (rw [hy120]; exact H) | exact H
                              have Ny120 := Aside0.mk hy120
                              clear hy120
                              have H' := Aside0.mk H
                              clear H
                              have p118 : 0 ≤ (x39_2 : Int) := of_decide_eq_true (by first | (with_reducible assumption) | assumption)
                              have q118 : x39_2 < (t109.length : Int) := of_decide_eq_true (by first | (with_reducible assumption) | assumption)
                              obtain ⟨ad118, e118, hx118_0, hx118_1, hx118_2⟩ := at_T45 (Kd.R_reads' HO_37.out).2.2 x39_2 p118 q118
                              cases e118
                              replace p118 := eq_true p118
                              replace q118 := eq_true q118
                              go_wp2_with (first | ((with_reducible refine gate_dst (N := 13) rfl ?_); refine box_event ?hg (N := 13) ?hd (cs := #[.int .i64 0, .int .i64 0, .int .i64 0]) (t := 45) ?hr ?_; (case hd => rfl); (case hg => rfl); (case hr => first | (go_simp; done) | (go_simp; rfl)); intro gb119 hg w23 hbox hb; have n0_ := Aside0.mk (Kd.R_below (by (with_reducible repeat (first | apply Kd.R_alloc | apply Kd.R_drewN | apply Kd.R_drew)); exact HO_11.out) hb); have n1_ := Aside0.mk (Kd.R_below (Kd.R_elderB (by (with_reducible repeat (first | apply Kd.R_alloc | apply Kd.R_drewN | apply Kd.R_drew)); exact HO_37.out) gb119 (Nat.le_of_eq hg.symm)) hb); have n2_ := Aside0.mk (below_step (by repeat (first | (with_reducible first | exact HB.out | apply below_alloc | apply pw_below_drewN | apply below_drew1) | exact HB.out)) hb); have n3_ := Aside0.mk (hbox); have n4_ := Aside0.mk ((by rw [hg]; exact (below_size (by repeat (first | (with_reducible first | exact HB.out | apply below_alloc | apply pw_below_drewN | apply below_drew1) | exact HB.out))) : w.heap.size ≤ gb119)); have n5_ := Aside0.mk ((by rw [hg]; exact (below_size (by repeat (first | (with_reducible first | exact HB.out | apply below_alloc | apply pw_below_drewN | apply below_drew1) | exact HB.out))) : w.heap.size ≤ gb119)); clear HO_11; clear HO_37; clear HB; have HO_11 := n0_; have HO_37 := n1_; have HB := n2_; have BK119 := n3_; have GW119 := n4_; have GE119 := n5_; clear n0_ n1_ n2_ n3_ n4_ n5_; clear hb hbox hg; have hcz24_0 : w23.cell? ⟨gb119, 0, none⟩ = some (.int .i64 0) := (blk_cell BK119.out 0).trans rfl; have hcz24_1 : w23.cell? ⟨gb119, 1, none⟩ = some (.int .i64 0) := (blk_cell BK119.out 1).trans rfl; have hcz24_2 : w23.cell? ⟨gb119, 2, none⟩ = some (.int .i64 0) := (blk_cell BK119.out 2).trans rfl; have hfz24_0 := blk_frozen BK119.out 0; have hfz24_1 := blk_frozen BK119.out 1; have hfz24_2 := blk_frozen BK119.out 2) | ((with_reducible refine gate_store (t := 45) (p := 13) rfl ?_); refine store_event (t := 45) (p := 13) (v := ?vo_w25) (w1 := (((w23.setCell ⟨gb119, 0, none⟩ (.int .i64 ((rd_T45 t109 x39_2).f0))).setCell ⟨gb119, 1, none⟩ (.int .i64 ((rd_T45 t109 x39_2).f1))).setCell ⟨gb119, 2, none⟩ (.int .i64 ((rd_T45 t109 x39_2).f2)))) ?hg ?ho ?hn ?hr ?_; (case ho => rfl); (case hg => rfl); (case hn => rfl); (case hr => first | (go_simp; done) | (go_simp; rfl)); intro w25 hw; have n0_ : Aside0 (Kd.R Kd.float 28 w25 w.heap.size (fun _ => True) v116 x11_2) := ⟨(by rw [hw]; exact (by (with_reducible repeat (first | apply Kd.R_alloc | apply Kd.R_drewN | apply Kd.R_drew)); exact Kd.R_mono (Kd.R_far (p := ⟨gb119, 2, none⟩) (Kd.R_far (p := ⟨gb119, 1, none⟩) (Kd.R_far (p := ⟨gb119, 0, none⟩) (Kd.R_types HO_11.out BK119.out (by decide)) (fun _ hk => hk.2) (.int .i64 ((rd_T45 t109 x39_2).f0))) (fun _ hk => hk.2) (.int .i64 ((rd_T45 t109 x39_2).f1))) (fun _ hk => hk.2) (.int .i64 ((rd_T45 t109 x39_2).f2))) (fun _ hk => trivial)))⟩; have n1_ : Aside0 (Kd.R k45 45 w25 w.heap.size (fun k_ => k_ ≠ gb119) (.slice (some ad118) t109.length co6) t109) := ⟨(by rw [hw]; exact (by (with_reducible repeat (first | apply Kd.R_alloc | apply Kd.R_drewN | apply Kd.R_drew)); exact Kd.R_mono (Kd.R_far (p := ⟨gb119, 2, none⟩) (Kd.R_far (p := ⟨gb119, 1, none⟩) (Kd.R_far (p := ⟨gb119, 0, none⟩) (Kd.R_mono HO_37.out (fun k_ hk => (⟨hk, hk.2⟩ : _ ∧ k_ ≠ gb119))) (fun _ hk => hk.2) (.int .i64 ((rd_T45 t109 x39_2).f0))) (fun _ hk => hk.2) (.int .i64 ((rd_T45 t109 x39_2).f1))) (fun _ hk => hk.2) (.int .i64 ((rd_T45 t109 x39_2).f2))) (fun _ hk => hk.1.2)))⟩; have n2_ : Aside0 (w25.heap[gb119]? = some (.cells #[.int .i64 ((rd_T45 t109 x39_2).f0), .int .i64 ((rd_T45 t109 x39_2).f1), .int .i64 ((rd_T45 t109 x39_2).f2)] 45 (0, 0))) := ⟨(by rw [hw]; exact (by (with_reducible repeat (first | refine blk_drewN ?_ _ | refine blk_drew ?_ | refine blk_alloc ?_ _)); refine blk_put (cs := #[.int .i64 ((rd_T45 t109 x39_2).f0), .int .i64 ((rd_T45 t109 x39_2).f1), .int .i64 0]) ?_ 2 _ rfl; (with_reducible repeat (first | refine blk_drewN ?_ _ | refine blk_drew ?_ | refine blk_alloc ?_ _)); refine blk_put (cs := #[.int .i64 ((rd_T45 t109 x39_2).f0), .int .i64 0, .int .i64 0]) ?_ 1 _ rfl; (with_reducible repeat (first | refine blk_drewN ?_ _ | refine blk_drew ?_ | refine blk_alloc ?_ _)); refine blk_put (cs := #[.int .i64 0, .int .i64 0, .int .i64 0]) ?_ 0 _ rfl; (with_reducible repeat (first | refine blk_drewN ?_ _ | refine blk_drew ?_ | refine blk_alloc ?_ _)); exact BK119.out))⟩; have n3_ : Aside0 (Below w.heap.size w w25) := ⟨(by rw [hw]; exact (by repeat (first | (with_reducible first | exact HB.out | apply below_alloc | apply pw_below_drewN | apply below_drew1 | refine below_set ?_ GE119.out) | exact HB.out)))⟩; clear hw; clear HO_11; clear HO_37; clear BK119; clear HB; have HO_11 := n0_; have HO_37 := n1_; have BK119 := n2_; have HB := n3_; clear n0_ n1_ n2_ n3_; have hcz26_0 : w25.cell? ⟨gb119, 0, none⟩ = some (.int .i64 ((rd_T45 t109 x39_2).f0)) := (blk_cell BK119.out 0).trans rfl; have hcz26_1 : w25.cell? ⟨gb119, 1, none⟩ = some (.int .i64 ((rd_T45 t109 x39_2).f1)) := (blk_cell BK119.out 1).trans rfl; have hcz26_2 : w25.cell? ⟨gb119, 2, none⟩ = some (.int .i64 ((rd_T45 t109 x39_2).f2)) := (blk_cell BK119.out 2).trans rfl; have hfz26_0 := blk_frozen BK119.out 0; have hfz26_1 := blk_frozen BK119.out 1; have hfz26_2 := blk_frozen BK119.out 2; have p22 : 0 ≤ (x39_2 : Int) := of_decide_eq_true (by first | (with_reducible assumption) | assumption); have q22 : (x39_2 : Int) < ((x11_2.length : Int) : Int) := of_decide_eq_true (by first | (with_reducible assumption) | assumption); obtain ⟨go22, co22, eo22, gb22, gl22, cl22, HG22⟩ := Kd.R_form HO_11.out (by omega); (first | cases eo22 | (injection eo22 with ea_ en_ ec_; (first | subst ea_ | (injection ea_ with ea_; subst ea_)); subst ec_; clear en_)); have GB22 := Aside0.mk gb22; have GG22 := Aside0.mk HG22; clear gb22 gl22 HG22; obtain ⟨hx22_0, hf22_0⟩ := Kd.R_celln 0 HO_11.out (x39_2 : Int) p22 q22; replace p22 := eq_true p22; replace q22 := eq_true q22; obtain ⟨hy27_, hz27_⟩ := Kd.R_celln 0 HO_11.out (x39_2 : Int) (of_decide_eq_true (by first | (with_reducible assumption) | assumption)) (of_decide_eq_true (by first | (with_reducible assumption) | assumption)); have HP27 := Kd.R_putg HO_11.out (x39_2 : Int) (fop .quo (foi ((rd_T45 t109 x39_2).f1)) (foi x8_1))) | ((with_reducible refine gate_store (t := 28) (p := 54) rfl ?_); refine store_event (t := 28) (p := 54) (v := ?vo_w28) (w1 := (w25.setCell ⟨go22, (x39_2 : Int).toNat, none⟩ (.float .f64 (fop .quo (foi ((rd_T45 t109 x39_2).f1)) (foi x8_1))))) ?hg ?ho ?hn ?hr ?_; (case ho => rfl); (case hg => rfl); (case hn => rfl); (case hr => first | (go_simp; done) | (go_simp; rfl)); intro w28 hw; have hg : w25.grownBy w28 (some go22) := (by rw [hw]; exact HP27.2); have hp_ : Kd.R Kd.float 28 w28 w.heap.size (fun _ => True) (.slice (some ⟨go22, 0, none⟩) x11_2.length co22) y120 := (by rw [hw, Ny120.out]; exact HP27.1); clear HP27; have n0_ := Aside0.mk (hp_); have n1_ := Aside0.mk (Kd.R_over' (v := (.slice (some ⟨go22, 0, none⟩) x11_2.length co22)) (by (with_reducible repeat (first | apply Kd.R_alloc | apply Kd.R_drewN | apply Kd.R_drew)); exact HO_37.out) (Kd.R_typed HO_11.out) (by decide) hg); have n2_ := Aside0.mk (blk_grown (g := gb119) (o := .cells #[.int .i64 ((rd_T45 t109 x39_2).f0), .int .i64 ((rd_T45 t109 x39_2).f1), .int .i64 ((rd_T45 t109 x39_2).f2)] 45 (0, 0)) (by (with_reducible repeat (first | refine blk_drewN ?_ _ | refine blk_drew ?_ | refine blk_alloc ?_ _)); exact BK119.out) hg (Kd.R_ne HO_11.out BK119.out (by decide))); have n3_ := Aside0.mk ((by rw [hw]; exact below_set (HB.out) GB22.out : Below w.heap.size w w28)); clear HO_11; clear HO_37; clear BK119; clear HB; have HO_11 := n0_; have HO_37 := n1_; have BK119 := n2_; have HB := n3_; clear n0_ n1_ n2_ n3_; clear hg hw hp_))
                              go_roundg k2
                              case measure => have := HK1.out; have := HK2.out; omega
                              case rel => exact ⟨(y120), (wrap64 (x39_2 + 1)), (by first | rfl | (simp; done) | (simp [*]; done)), H', ⟨by have := HK1.out; have := HK2.out; omega⟩, ⟨by (with_reducible repeat (first | apply Kd.R_alloc | apply Kd.R_drewN | apply Kd.R_drew)); exact HO_11.out⟩, ⟨by (with_reducible repeat (first | apply Kd.R_alloc | apply Kd.R_drewN | apply Kd.R_drew)); exact Kd.R_mono HO_37.out (fun _ hk => trivial)⟩, ⟨by repeat (first | (with_reducible first | exact HB.out | apply below_alloc | apply pw_below_drewN | apply below_drew1 | refine below_set ?_ GE119.out) | exact HB.out)⟩⟩
                            · rw [if_neg c21] at H
                              exact absurd H (by simp)
                          · rw [if_neg c20] at H
                            exact absurd H (by simp)
                        · rw [if_neg c19] at H
                          have c19b0 : decide (0 < x8_1) = false := decide_eq_false c19
                          clear c19
                          have H' := Aside0.mk H
                          clear H
                          have p118 : 0 ≤ (x39_2 : Int) := of_decide_eq_true (by first | (with_reducible assumption) | assumption)
                          have q118 : x39_2 < (t109.length : Int) := of_decide_eq_true (by first | (with_reducible assumption) | assumption)
                          obtain ⟨ad118, e118, hx118_0, hx118_1, hx118_2⟩ := at_T45 (Kd.R_reads' HO_37.out).2.2 x39_2 p118 q118
                          cases e118
                          replace p118 := eq_true p118
                          replace q118 := eq_true q118
                          go_wp2_with (first | ((with_reducible refine gate_dst (N := 13) rfl ?_); refine box_event ?hg (N := 13) ?hd (cs := #[.int .i64 0, .int .i64 0, .int .i64 0]) (t := 45) ?hr ?_; (case hd => rfl); (case hg => rfl); (case hr => first | (go_simp; done) | (go_simp; rfl)); intro gb119 hg w29 hbox hb; have n0_ := Aside0.mk (Kd.R_below (by (with_reducible repeat (first | apply Kd.R_alloc | apply Kd.R_drewN | apply Kd.R_drew)); exact HO_11.out) hb); have n1_ := Aside0.mk (Kd.R_below (Kd.R_elderB (by (with_reducible repeat (first | apply Kd.R_alloc | apply Kd.R_drewN | apply Kd.R_drew)); exact HO_37.out) gb119 (Nat.le_of_eq hg.symm)) hb); have n2_ := Aside0.mk (below_step (by repeat (first | (with_reducible first | exact HB.out | apply below_alloc | apply pw_below_drewN | apply below_drew1) | exact HB.out)) hb); have n3_ := Aside0.mk (hbox); have n4_ := Aside0.mk ((by rw [hg]; exact (below_size (by repeat (first | (with_reducible first | exact HB.out | apply below_alloc | apply pw_below_drewN | apply below_drew1) | exact HB.out))) : w.heap.size ≤ gb119)); have n5_ := Aside0.mk ((by rw [hg]; exact (below_size (by repeat (first | (with_reducible first | exact HB.out | apply below_alloc | apply pw_below_drewN | apply below_drew1) | exact HB.out))) : w.heap.size ≤ gb119)); clear HO_11; clear HO_37; clear HB; have HO_11 := n0_; have HO_37 := n1_; have HB := n2_; have BK119 := n3_; have GW119 := n4_; have GE119 := n5_; clear n0_ n1_ n2_ n3_ n4_ n5_; clear hb hbox hg; have hcz30_0 : w29.cell? ⟨gb119, 0, none⟩ = some (.int .i64 0) := (blk_cell BK119.out 0).trans rfl; have hcz30_1 : w29.cell? ⟨gb119, 1, none⟩ = some (.int .i64 0) := (blk_cell BK119.out 1).trans rfl; have hcz30_2 : w29.cell? ⟨gb119, 2, none⟩ = some (.int .i64 0) := (blk_cell BK119.out 2).trans rfl; have hfz30_0 := blk_frozen BK119.out 0; have hfz30_1 := blk_frozen BK119.out 1; have hfz30_2 := blk_frozen BK119.out 2))
                          go_roundg k2
                          case measure => have := HK1.out; have := HK2.out; omega
                          case rel => exact ⟨(x11_2), (wrap64 (x39_2 + 1)), (by first | rfl | (simp; done) | (simp [*]; done)), H', ⟨by have := HK1.out; have := HK2.out; omega⟩, ⟨by (with_reducible repeat (first | apply Kd.R_alloc | apply Kd.R_drewN | apply Kd.R_drew)); exact Kd.R_mono (Kd.R_far (p := ⟨gb119, 2, none⟩) (Kd.R_far (p := ⟨gb119, 1, none⟩) (Kd.R_far (p := ⟨gb119, 0, none⟩) (Kd.R_types HO_11.out BK119.out (by decide)) (fun _ hk => hk.2) (.int .i64 ((rd_T45 t109 x39_2).f0))) (fun _ hk => hk.2) (.int .i64 ((rd_T45 t109 x39_2).f1))) (fun _ hk => hk.2) (.int .i64 ((rd_T45 t109 x39_2).f2))) (fun _ hk => trivial)⟩, ⟨by (with_reducible repeat (first | apply Kd.R_alloc | apply Kd.R_drewN | apply Kd.R_drew)); exact Kd.R_mono (Kd.R_far (p := ⟨gb119, 2, none⟩) (Kd.R_far (p := ⟨gb119, 1, none⟩) (Kd.R_far (p := ⟨gb119, 0, none⟩) (Kd.R_mono HO_37.out (fun k_ hk => (⟨hk, hk.2⟩ : _ ∧ k_ ≠ gb119))) (fun _ hk => hk.2) (.int .i64 ((rd_T45 t109 x39_2).f0))) (fun _ hk => hk.2) (.int .i64 ((rd_T45 t109 x39_2).f1))) (fun _ hk => hk.2) (.int .i64 ((rd_T45 t109 x39_2).f2))) (fun _ hk => trivial)⟩, ⟨by repeat (first | (with_reducible first | exact HB.out | apply below_alloc | apply pw_below_drewN | apply below_drew1 | refine below_set ?_ GE119.out) | exact HB.out)⟩⟩
                      · rw [if_neg c18] at H
                        exact absurd H (by simp)
                    · rw [if_neg c17] at H
                      exact absurd H (by simp)
                  · rw [if_neg c16] at H
                    have c16b0 : decide (x39_2 < (t109.length : Int)) = false := decide_eq_false c16
                    clear c16
                    simp only [Option.some.injEq, Prod.mk.injEq] at H
                    obtain ⟨rfl, rfl⟩ := H
                    go_wp2
                    go_ret2
                    exact ⟨_, by first | rfl | (simp [errW_none, errW_some] <;> rfl) | (simp [*, errW_none, errW_some] <;> rfl), by (with_reducible repeat (first | apply Kd.R_alloc | apply Kd.R_drewN | apply Kd.R_drew)); exact HO_11.out, by repeat (first | (with_reducible first | exact HB.out | apply below_alloc | apply pw_below_drewN | apply below_drew1) | exact HB.out)⟩
            · rw [if_neg c13] at H
              exact absurd H (by simp)
          · rw [if_neg c12] at H
            exact absurd H (by simp)
  · rw [if_neg c4] at H
    have c4b0 : (t110 == 0) = false := beq_eq_false_iff_ne.mpr c4
    have c4b1 : (t110 != 0) = true := bne_iff_ne.mpr c4
    simp only [Option.some.injEq, Prod.mk.injEq] at H
    obtain ⟨rfl, rfl⟩ := H
    go_enter Try.func7, Try.ntmps7
    go_wp2_with (first | ((with_reducible refine gate_callee (f := 14) rfl ?_); refine goesL_ (some 17) rfl rfl Try.func14 (by kernel_rfl) rfl #[.slice A0 l0.length c0, .int .i64 a1] rfl (by (try simp only [List.map_toArray, List.map_cons, List.map_nil]); first | done | rfl | (simp only [List.length_drop, List.length_take]; rfl)) ?_; (with_reducible refine (audit_Loads.calls k _ _ l0 a1 t109 t110 _ ?side1 ?side2 A3.out).mono ?_); (case side1 => repeat (first | exact HR0.out | (with_reducible refine Kd.C_alloc ?_ _) | (with_reducible refine Kd.C_drewN ?_ _) | (with_reducible refine Kd.C_drew ?_))); (case side2 => exact HC0.out); rintro e w31 ⟨v111, rfl, ho0, hb⟩; refine ⟨_, rfl, ?_⟩; have n0_ := Aside0.mk (Kd.R_lower ho0 (below_size (by repeat (first | (with_reducible first | exact HB.out | apply below_alloc | apply pw_below_drewN | apply below_drew1) | exact HB.out)))); have n1_ := Aside0.mk (below_step (by repeat (first | (with_reducible first | exact HB.out | apply below_alloc | apply pw_below_drewN | apply below_drew1) | exact HB.out)) hb); clear HB; have HO112 := n0_; have HB := n1_; clear n0_ n1_; (try clear hb); (try clear hb2); (try clear hk); (try clear hi); (try clear ho0)))
    go_ret2
    exact ⟨_, by first | rfl | (simp [errW_none, errW_some] <;> rfl) | (simp [*, errW_none, errW_some] <;> rfl), by first | exact Kd.R_nil _ _ _ _ _ | exact Kd.N_nil _ _ _ _ _ | exact Kd.V_nil _ _ _ _ _ | exact Kd.Q_nil _ _ _ _ _ | exact Kd.S_nil _ _ _ _ _, by repeat (first | (with_reducible first | exact HB.out | apply below_alloc | apply pw_below_drewN | apply below_drew1) | exact HB.out)⟩

end Go.Proofs.Ytibglhnafohmhaa.PStat
