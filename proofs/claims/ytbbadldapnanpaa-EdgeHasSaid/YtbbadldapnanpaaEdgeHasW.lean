/- The walk of the law EdgeHas: at whatever triangle and pixel it returns true, and nothing that was in memory is turned. Conditions: each number is a 64-bit whole number. -/
import Derived.Test.YtbbadldapnanpaaEdgePlain
import Derived.Deep.RegionWith
namespace Go.Proofs.Ytbbadldapnanpaa.PEdge
open Go.RowKit Go.Proofs.YtbbadldapnanpaaW.PrintWords Go.Proofs.YtbbadldapnanpaaW.PrintLast Go.Proofs.YtbbadldapnanpaaW.PrintMore
attribute [local go_sem] max2_int min2_int max_two min_two max_three min_three max_four min_four   -- for this text's walks alone
set_option linter.unusedVariables false
set_option linter.unusedSimpArgs false

theorem eqPoint (d : Nat) (w : World) (x0 y0 : Int) (x1 y1 : Int) :
    (Op.equalIn (d + 2) 23 (.agg #[.int .i64 x0, .int .i64 x1]) (.agg #[.int .i64 y0, .int .i64 y1])).run Try.prog w = .ok (x0 == y0 && (x1 == y1)) w := by
  refine eqA_of Try.underlying23 (by kernel_rfl) ?_
  refine eqf_cons (by rfl) (by go_simp; rfl) (by go_simp; rfl) (by go_simp) ?_
  exact eqf_last (by rfl) (by go_simp; rfl) (by go_simp; rfl) (by go_simp)
attribute [local go_sem high] eqPoint

set_option maxHeartbeats 8000000 in
set_option maxRecDepth 100000 in
theorem edgeHas_w1 (p0 p1 p2 p3 p4 p5 x y : Int) (w : World) (hf : fitB x y = false) :
    Calls Try.prog 3 #[.agg #[.int .i64 p0, .int .i64 p1, .int .i64 p2, .int .i64 p3, .int .i64 p4, .int .i64 p5], .int .i64 x, .int .i64 y] w fun e w' => e = .returned (.bool true) ∧ Below w.heap.size w w' := by
  have hu24 := Try.underlying24
  have hu23 := Try.underlying23
  have A7 := Aside0.mk (@Has_nofit p0 p1 p2 p3 p4 p5 x y hf)
  have A8 := Aside0.mk (mid_no hf)
  have A9 := Aside0.mk ((fits_is x y).trans (by rw [hf]))
  clear hf
  go_enter Try.func3, Try.ntmps3
  go_wp2_with (first | (go_at_call 7; ((with_reducible refine (edge_Has.calls p0 p1 p2 p3 p4 p5 x y false 3 _ A7.out).mono ?_); rintro e w1 ⟨rfl, hb⟩; have BK := Aside0.mk (blk_below (blk_new w _) hb); have HB := Aside0.mk (below_step (below_alloc (Below.refl _ _) _) hb); clear hb)) | (go_at_call 8; ((with_reducible refine (edge_Middle.calls x y 0 0 3 _ A8.out).mono ?_); rintro e w2 ⟨rfl, hb⟩; have BK2 := Aside0.mk (blk_below BK.out hb); have HB2 := Aside0.mk (below_step HB.out hb); clear hb BK HB)) | (go_at_call 9; ((with_reducible refine (temperaref12_Fits.calls x y false _ A9.out).mono ?_); rintro e w3 ⟨rfl, ⟨nd, rfl⟩⟩)) | (go_at_call 10; ((with_reducible refine (temperalaw12_awake.calls true _ awake_is).mono ?_); rintro e w9 ⟨rfl, hb⟩; have HE := Aside0.mk (below_step (pw_below_drewN (below_alloc HB2.out _) _) hb))))
  go_ret
  exact ⟨rfl, HE.out⟩

set_option maxHeartbeats 8000000 in
set_option maxRecDepth 100000 in
theorem edgeHas_w2 (p0 p1 p2 p3 p4 p5 x y : Int) (w : World) (hf : fitB x y = true) (hn : (inB p0 p1 && (inB p2 p3 && inB p4 p5)) = false) :
    Calls Try.prog 3 #[.agg #[.int .i64 p0, .int .i64 p1, .int .i64 p2, .int .i64 p3, .int .i64 p4, .int .i64 p5], .int .i64 x, .int .i64 y] w fun e w' => e = .returned (.bool true) ∧ Below w.heap.size w w' := by
  obtain ⟨m1, hm1⟩ : ∃ m, m = 16 * x + 8 := ⟨_, rfl⟩
  obtain ⟨m2, hm2⟩ : ∃ m, m = 16 * y + 8 := ⟨_, rfl⟩
  have hu24 := Try.underlying24
  have hu23 := Try.underlying23
  have A7 := Aside0.mk (@Has_nomay p0 p1 p2 p3 p4 p5 x y hn)
  have A8 := Aside0.mk ((mid_is hf).trans (by rw [← hm1, ← hm2]))
  have A11 := Aside0.mk ((rmid_is hf).trans (by rw [← hm1, ← hm2]))
  have A9 := Aside0.mk ((fits_is x y).trans (by rw [hf]))
  have A12 := Aside0.mk ((may_t p0 p1 p2 p3 p4 p5).trans (by rw [hn]))
  clear hf hn hm1 hm2
  go_enter Try.func3, Try.ntmps3
  go_wp2_with (first | (go_at_call 7; ((with_reducible refine (edge_Has.calls p0 p1 p2 p3 p4 p5 x y false 3 _ A7.out).mono ?_); rintro e w1 ⟨rfl, hb⟩; have BK := Aside0.mk (blk_below (blk_new w _) hb); have HB := Aside0.mk (below_step (below_alloc (Below.refl _ _) _) hb); clear hb)) | (go_at_call 8; ((with_reducible refine (edge_Middle.calls x y m1 m2 0 _ A8.out).mono ?_); rintro e w2 ⟨rfl, hb⟩; have BK2 := Aside0.mk (blk_below BK.out hb); have HB2 := Aside0.mk (below_step HB.out hb); clear hb BK HB)) | (go_at_call 9; ((with_reducible refine (temperaref12_Fits.calls x y true _ A9.out).mono ?_); rintro e w3 ⟨rfl, ⟨nd, rfl⟩⟩)) | (fail))
  go_region_with ((go_at_call 11; ((with_reducible refine (temperaref12_Middle.calls x y m1 m2 _ A11.out).mono ?_); rintro e w4 ⟨rfl, hb⟩; have PK4 := Aside0.mk (blk_below (blk_drew (blk_drewN (blk_new w2 _) _)) hb); have BK4 := Aside0.mk (blk_below (blk_drew (blk_drewN (blk_alloc BK2.out _) _)) hb); have HB4 := Aside0.mk (below_step (below_drew (pw_below_drewN (below_alloc HB2.out _) _)) hb); clear hb; have hq0 := (blk_cell PK4.out 0).trans rfl; have hq1 := (blk_cell PK4.out 1).trans rfl)))
  all_goals (have hc0 := (blk_cell BK4.out 0).trans rfl; have hc1 := (blk_cell BK4.out 1).trans rfl; have hc2 := (blk_cell BK4.out 2).trans rfl; have hc3 := (blk_cell BK4.out 3).trans rfl; have hc4 := (blk_cell BK4.out 4).trans rfl; have hc5 := (blk_cell BK4.out 5).trans rfl; have hf0 := blk_frozen BK4.out 0; have hf1 := blk_frozen BK4.out 1; have hf2 := blk_frozen BK4.out 2; have hf3 := blk_frozen BK4.out 3; have hf4 := blk_frozen BK4.out 4; have hf5 := blk_frozen BK4.out 5)
  all_goals (go_wp2_with (first | (go_at_call 12; ((with_reducible refine (temperalaw12_may.calls p0 p1 p2 p3 p4 p5 false _ A12.out).mono ?_); rintro e w5 ⟨rfl, hb⟩; have HB5 := Aside0.mk (below_step HB4.out hb); clear hb)) | (go_at_call 10; ((with_reducible refine (temperalaw12_awake.calls true _ awake_is).mono ?_); rintro e w9 ⟨rfl, hb⟩; have HE := Aside0.mk (below_step (HB5.out) hb)))))
  all_goals go_ret
  all_goals exact ⟨rfl, HE.out⟩

set_option maxHeartbeats 8000000 in
set_option maxRecDepth 100000 in
theorem edgeHas_w3 (p0 p1 p2 p3 p4 p5 x y : Int) (w : World) (hf : fitB x y = true) (ha : inB p0 p1 = true) (hb : inB p2 p3 = true) (hc : inB p4 p5 = true) :
    Calls Try.prog 3 #[.agg #[.int .i64 p0, .int .i64 p1, .int .i64 p2, .int .i64 p3, .int .i64 p4, .int .i64 p5], .int .i64 x, .int .i64 y] w fun e w' => e = .returned (.bool true) ∧ Below w.heap.size w w' := by
  obtain ⟨m1, hm1⟩ : ∃ m, m = 16 * x + 8 := ⟨_, rfl⟩
  obtain ⟨m2, hm2⟩ : ∃ m, m = 16 * y + 8 := ⟨_, rfl⟩
  obtain ⟨h, hh⟩ : ∃ h, h = hasB p0 p1 p2 p3 p4 p5 (16 * x + 8) (16 * y + 8) := ⟨_, rfl⟩
  have hu24 := Try.underlying24
  have hu23 := Try.underlying23
  have A7 := Aside0.mk ((Has_is ha hb hc hf).trans (by rw [← hh]))
  have A13 := Aside0.mk ((rHas_is ha hb hc hf).trans (by rw [← hh]))
  have A8 := Aside0.mk ((mid_is hf).trans (by rw [← hm1, ← hm2]))
  have A11 := Aside0.mk ((rmid_is hf).trans (by rw [← hm1, ← hm2]))
  have A9 := Aside0.mk ((fits_is x y).trans (by rw [hf]))
  have A12 := Aside0.mk ((may_t p0 p1 p2 p3 p4 p5).trans (show some _ = some true by rw [ha, hb, hc]; rfl))
  clear hf ha hb hc hm1 hm2 hh
  go_enter Try.func3, Try.ntmps3
  go_wp2_with (first | (go_at_call 7; ((with_reducible refine (edge_Has.calls p0 p1 p2 p3 p4 p5 x y h 0 _ A7.out).mono ?_); rintro e w1 ⟨rfl, hb⟩; have BK := Aside0.mk (blk_below (blk_new w _) hb); have HB := Aside0.mk (below_step (below_alloc (Below.refl _ _) _) hb); clear hb)) | (go_at_call 8; ((with_reducible refine (edge_Middle.calls x y m1 m2 0 _ A8.out).mono ?_); rintro e w2 ⟨rfl, hb⟩; have BK2 := Aside0.mk (blk_below BK.out hb); have HB2 := Aside0.mk (below_step HB.out hb); clear hb BK HB)) | (go_at_call 9; ((with_reducible refine (temperaref12_Fits.calls x y true _ A9.out).mono ?_); rintro e w3 ⟨rfl, ⟨nd, rfl⟩⟩)) | (fail))
  go_region_with ((go_at_call 11; ((with_reducible refine (temperaref12_Middle.calls x y m1 m2 _ A11.out).mono ?_); rintro e w4 ⟨rfl, hb⟩; have PK4 := Aside0.mk (blk_below (blk_drew (blk_drewN (blk_new w2 _) _)) hb); have BK4 := Aside0.mk (blk_below (blk_drew (blk_drewN (blk_alloc BK2.out _) _)) hb); have HB4 := Aside0.mk (below_step (below_drew (pw_below_drewN (below_alloc HB2.out _) _)) hb); clear hb; have hq0 := (blk_cell PK4.out 0).trans rfl; have hq1 := (blk_cell PK4.out 1).trans rfl)))
  all_goals (have hc0 := (blk_cell BK4.out 0).trans rfl; have hc1 := (blk_cell BK4.out 1).trans rfl; have hc2 := (blk_cell BK4.out 2).trans rfl; have hc3 := (blk_cell BK4.out 3).trans rfl; have hc4 := (blk_cell BK4.out 4).trans rfl; have hc5 := (blk_cell BK4.out 5).trans rfl; have hf0 := blk_frozen BK4.out 0; have hf1 := blk_frozen BK4.out 1; have hf2 := blk_frozen BK4.out 2; have hf3 := blk_frozen BK4.out 3; have hf4 := blk_frozen BK4.out 4; have hf5 := blk_frozen BK4.out 5)
  all_goals (go_wp2_with (first | (go_at_call 12; ((with_reducible refine (temperalaw12_may.calls p0 p1 p2 p3 p4 p5 true _ A12.out).mono ?_); rintro e w5 ⟨rfl, hb⟩; have HB5 := Aside0.mk (below_step HB4.out hb); have BK5 := Aside0.mk (blk_below BK4.out hb); clear hb BK4 HB4; have hzc0 := (blk_cell BK5.out 0).trans rfl; have hzc1 := (blk_cell BK5.out 1).trans rfl; have hzc2 := (blk_cell BK5.out 2).trans rfl; have hzc3 := (blk_cell BK5.out 3).trans rfl; have hzc4 := (blk_cell BK5.out 4).trans rfl; have hzc5 := (blk_cell BK5.out 5).trans rfl; have hzf0 := blk_frozen BK5.out 0; have hzf1 := blk_frozen BK5.out 1; have hzf2 := blk_frozen BK5.out 2; have hzf3 := blk_frozen BK5.out 3; have hzf4 := blk_frozen BK5.out 4; have hzf5 := blk_frozen BK5.out 5)) | (go_at_call 13; ((with_reducible refine (temperaref12_Has.calls p0 p1 p2 p3 p4 p5 x y h _ A13.out).mono ?_); rintro e w6 ⟨rfl, hb⟩; have HB6 := Aside0.mk (below_step HB5.out hb); clear hb)) | (go_at_call 10; ((with_reducible refine (temperalaw12_awake.calls true _ awake_is).mono ?_); rintro e w9 ⟨rfl, hb⟩; have HE := Aside0.mk (below_step (HB6.out) hb)))))
  all_goals go_ret
  all_goals exact ⟨rfl, HE.out⟩

theorem edgeHas_walk (p0 p1 p2 p3 p4 p5 x y : Int) (w : World) :
    Calls Try.prog 3 #[.agg #[.int .i64 p0, .int .i64 p1, .int .i64 p2, .int .i64 p3, .int .i64 p4, .int .i64 p5], .int .i64 x, .int .i64 y] w fun e w' => e = .returned (.bool true) ∧ Below w.heap.size w w' := by
  cases hf : fitB x y with
  | false => exact edgeHas_w1 _ _ _ _ _ _ _ _ w hf
  | true =>
    cases ha : inB p0 p1 with
    | false => exact edgeHas_w2 _ _ _ _ _ _ _ _ w hf (by rw [ha]; rfl)
    | true =>
      cases hb : inB p2 p3 with
      | false => exact edgeHas_w2 _ _ _ _ _ _ _ _ w hf (by rw [ha, hb]; rfl)
      | true =>
        cases hc : inB p4 p5 with
        | false => exact edgeHas_w2 _ _ _ _ _ _ _ _ w hf (by rw [ha, hb, hc]; rfl)
        | true => exact edgeHas_w3 _ _ _ _ _ _ _ _ w hf ha hb hc

end Go.Proofs.Ytbbadldapnanpaa.PEdge
