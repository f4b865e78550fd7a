/- cmd.Of, walked by hand, kind by kind. -/
import Derived.Test.YtcadgbeablpnmaaCmdFlats
import Derived.Outline
import Derived.WalkSpells
import Derived.Deep.RegionHeld3
namespace Go.Proofs.Ytcadgbeablpnmaa.PCmd
open Go.RowKit Go.Proofs.YtcadgbeablpnmaaW.PrintWords Go.Proofs.YtcadgbeablpnmaaW.PrintLast Go.Proofs.YtcadgbeablpnmaaW.PrintMore
attribute [local go_sem] max2_int min2_int max_two min_two max_three min_three max_four min_four   -- for this text's walks alone
set_option linter.unusedVariables false
set_option linter.unusedSimpArgs false

attribute [local go_sem] alloc_drewN setCell_drewN
set_option maxHeartbeats 8000000 in
set_option maxRecDepth 100000 in
theorem Of_none (op h a b c d : Int) (A6 : Option Addr) (c6 : Nat) (l6 : List Int) (A7 : Option Addr) (c7 : Nat) (l7 : List S60) (w : World) (hop : op < 1 ∨ 19 < op) :
    Calls Try.prog 12 #[.agg #[.int .i64 op, .int .i64 h, .int .i64 a, .int .i64 b, .int .i64 c, .int .i64 d, .slice A6 l6.length c6, .slice A7 l7.length c7]] w fun e w' => e = .returned (.tuple #[.nilIface, .int .i64 9]) ∧ Below w.heap.size w w' := by
  have hu25 := Try.underlying25
  have HOP := Aside0.mk hop
  clear hop
  go_enter Try.func12, Try.ntmps12
  go_wp2_with (first | (go_at_call 11; go_must (refine (own_none op h a b c d A6 c6 l6 A7 c7 l7 _ HOP.out).mono ?_; rintro e w2 ⟨rfl, hb2⟩; have RES2 := Aside0.mk (blk_below (blk_new w _) hb2); have HB2 := Aside0.mk (below_step (below_alloc (Below.refl _ _) _) hb2); clear hb2; have ho0 := (blk_cell RES2.out 0).trans rfl; have hp0 := blk_frozen RES2.out 0; have ho1 := (blk_cell RES2.out 1).trans rfl; have hp1 := blk_frozen RES2.out 1; have ho2 := (blk_cell RES2.out 2).trans rfl; have hp2 := blk_frozen RES2.out 2; have ho3 := (blk_cell RES2.out 3).trans rfl; have hp3 := blk_frozen RES2.out 3; have ho4 := (blk_cell RES2.out 4).trans rfl; have hp4 := blk_frozen RES2.out 4; have ho5 := (blk_cell RES2.out 5).trans rfl; have hp5 := blk_frozen RES2.out 5; have ho6 := (blk_cell RES2.out 6).trans rfl; have hp6 := blk_frozen RES2.out 6; have ho7 := (blk_cell RES2.out 7).trans rfl; have hp7 := blk_frozen RES2.out 7)))
  go_ret2
  exact ⟨rfl, by repeat (first | (with_reducible exact HB2.out) | (with_reducible refine below8 ?_ (Nat.le_refl _)) | (with_reducible apply pw_below_drewN) | (with_reducible apply below_drew1))⟩
set_option maxHeartbeats 8000000 in
set_option maxRecDepth 100000 in
theorem Of_1 (h a b c d : Int) (A6 : Option Addr) (c6 : Nat) (l6 : List Int) (A7 : Option Addr) (c7 : Nat) (l7 : List S60) (w : World) (hr6 : Kd.C (Kd.int .i64) w A6 l6.length l6) (hc6 : l6.length ≤ c6) (hr7 : Kd.C k60 w A7 l7.length l7) (hc7 : l7.length ≤ c7) (hl6 : l6.length ≤ 5000) (hl7 : l7.length ≤ 1100) :
    Calls Try.prog 12 #[.agg #[.int .i64 1, .int .i64 h, .int .i64 a, .int .i64 b, .int .i64 c, .int .i64 d, .slice A6 l6.length c6, .slice A7 l7.length c7]] w fun e w' => ∃ v6 v7, e = .returned (.tuple #[.iface 32 (.agg #[.int .i64 1, .int .i64 h, .int .i64 0, .int .i64 0, v6, v7]), .int .i64 0]) ∧ Kd.R (Kd.int .i64) 3 w' w.heap.size (fun _ => True) v6 [] ∧ Kd.R k60 60 w' w.heap.size (fun _ => True) v7 l7 ∧ Below w.heap.size w w' := by
  have hu25 := Try.underlying25
  have H6 := Aside0.mk hr6
  have C6 := Aside0.mk hc6
  have H7 := Aside0.mk hr7
  have C7 := Aside0.mk hc7
  have L6 := Aside0.mk hl6
  have L7 := Aside0.mk hl7
  clear hr6 hc6 hr7 hc7 hl6 hl7
  go_enter Try.func12, Try.ntmps12
  go_wp2_with (first | (go_at_call 11; go_must (refine (own_1 h a b c d A6 c6 l6 A7 c7 l7 _ (Kd.C_below H6.out (below_alloc (Below.refl _ _) _)) C6.out (Kd.C_below H7.out (below_alloc (Below.refl _ _) _)) C7.out L6.out L7.out).mono ?_; rintro e w2 ⟨v6, v7, rfl, hR6, hR7, hb2⟩; have RES2 := Aside0.mk (blk_below (blk_new w _) hb2); have HB2 := Aside0.mk (below_step (below_alloc (Below.refl _ _) _) hb2); obtain ⟨A6_, c6_, rfl⟩ := Kd.R_slice hR6; obtain ⟨A7_, c7_, rfl⟩ := Kd.R_slice hR7; have HR6 := Aside0.mk (R_up hR6 (blk_lt (blk_new w _)) (below_size (below_alloc (Below.refl _ _) _))); have HR7 := Aside0.mk (R_up hR7 (blk_lt (blk_new w _)) (below_size (below_alloc (Below.refl _ _) _))); clear hR6 hR7 hb2; have ho0 := (blk_cell RES2.out 0).trans rfl; have hp0 := blk_frozen RES2.out 0; have ho1 := (blk_cell RES2.out 1).trans rfl; have hp1 := blk_frozen RES2.out 1; have ho2 := (blk_cell RES2.out 2).trans rfl; have hp2 := blk_frozen RES2.out 2; have ho3 := (blk_cell RES2.out 3).trans rfl; have hp3 := blk_frozen RES2.out 3; have ho4 := (blk_cell RES2.out 4).trans rfl; have hp4 := blk_frozen RES2.out 4; have ho5 := (blk_cell RES2.out 5).trans rfl; have hp5 := blk_frozen RES2.out 5; have ho6 := (blk_cell RES2.out 6).trans rfl; have hp6 := blk_frozen RES2.out 6; have ho7 := (blk_cell RES2.out 7).trans rfl; have hp7 := blk_frozen RES2.out 7)))
  go_ret2
  exact ⟨_, _, rfl, by (refine Kd.R_mono (ok := fun k => w.heap.size < k) ?_ (fun _ _ => trivial); repeat (first | (with_reducible exact HR6.out) | (with_reducible refine Kd.R_drewN ?_ _) | (with_reducible refine Kd.R_drew ?_) | (refine Kd.R_far ?_ (fun k hk => Nat.ne_of_gt hk) _) | exact HR6.out)), by (refine Kd.R_mono (ok := fun k => w.heap.size < k) ?_ (fun _ _ => trivial); repeat (first | (with_reducible exact HR7.out) | (with_reducible refine Kd.R_drewN ?_ _) | (with_reducible refine Kd.R_drew ?_) | (refine Kd.R_far ?_ (fun k hk => Nat.ne_of_gt hk) _) | exact HR7.out)), by repeat (first | (with_reducible exact HB2.out) | (with_reducible refine below8 ?_ (Nat.le_refl _)) | (with_reducible apply pw_below_drewN) | (with_reducible apply below_drew1))⟩
set_option maxHeartbeats 8000000 in
set_option maxRecDepth 100000 in
theorem Of_2 (h a b c d : Int) (A6 : Option Addr) (c6 : Nat) (l6 : List Int) (A7 : Option Addr) (c7 : Nat) (l7 : List S60) (w : World) (hr6 : Kd.C (Kd.int .i64) w A6 l6.length l6) (hc6 : l6.length ≤ c6) (hr7 : Kd.C k60 w A7 l7.length l7) (hc7 : l7.length ≤ c7) (hl6 : l6.length ≤ 5000) (hl7 : l7.length ≤ 1100) :
    Calls Try.prog 12 #[.agg #[.int .i64 2, .int .i64 h, .int .i64 a, .int .i64 b, .int .i64 c, .int .i64 d, .slice A6 l6.length c6, .slice A7 l7.length c7]] w fun e w' => ∃ v6 v7, e = .returned (.tuple #[.iface 32 (.agg #[.int .i64 2, .int .i64 h, .int .i64 0, .int .i64 0, v6, v7]), .int .i64 0]) ∧ Kd.R (Kd.int .i64) 3 w' w.heap.size (fun _ => True) v6 l6 ∧ Kd.R k60 60 w' w.heap.size (fun _ => True) v7 [] ∧ Below w.heap.size w w' := by
  have hu25 := Try.underlying25
  have H6 := Aside0.mk hr6
  have C6 := Aside0.mk hc6
  have H7 := Aside0.mk hr7
  have C7 := Aside0.mk hc7
  have L6 := Aside0.mk hl6
  have L7 := Aside0.mk hl7
  clear hr6 hc6 hr7 hc7 hl6 hl7
  go_enter Try.func12, Try.ntmps12
  go_wp2_with (first | (go_at_call 11; go_must (refine (own_2 h a b c d A6 c6 l6 A7 c7 l7 _ (Kd.C_below H6.out (below_alloc (Below.refl _ _) _)) C6.out (Kd.C_below H7.out (below_alloc (Below.refl _ _) _)) C7.out L6.out L7.out).mono ?_; rintro e w2 ⟨v6, v7, rfl, hR6, hR7, hb2⟩; have RES2 := Aside0.mk (blk_below (blk_new w _) hb2); have HB2 := Aside0.mk (below_step (below_alloc (Below.refl _ _) _) hb2); obtain ⟨A6_, c6_, rfl⟩ := Kd.R_slice hR6; obtain ⟨A7_, c7_, rfl⟩ := Kd.R_slice hR7; have HR6 := Aside0.mk (R_up hR6 (blk_lt (blk_new w _)) (below_size (below_alloc (Below.refl _ _) _))); have HR7 := Aside0.mk (R_up hR7 (blk_lt (blk_new w _)) (below_size (below_alloc (Below.refl _ _) _))); clear hR6 hR7 hb2; have ho0 := (blk_cell RES2.out 0).trans rfl; have hp0 := blk_frozen RES2.out 0; have ho1 := (blk_cell RES2.out 1).trans rfl; have hp1 := blk_frozen RES2.out 1; have ho2 := (blk_cell RES2.out 2).trans rfl; have hp2 := blk_frozen RES2.out 2; have ho3 := (blk_cell RES2.out 3).trans rfl; have hp3 := blk_frozen RES2.out 3; have ho4 := (blk_cell RES2.out 4).trans rfl; have hp4 := blk_frozen RES2.out 4; have ho5 := (blk_cell RES2.out 5).trans rfl; have hp5 := blk_frozen RES2.out 5; have ho6 := (blk_cell RES2.out 6).trans rfl; have hp6 := blk_frozen RES2.out 6; have ho7 := (blk_cell RES2.out 7).trans rfl; have hp7 := blk_frozen RES2.out 7)))
  go_ret2
  exact ⟨_, _, rfl, by (refine Kd.R_mono (ok := fun k => w.heap.size < k) ?_ (fun _ _ => trivial); repeat (first | (with_reducible exact HR6.out) | (with_reducible refine Kd.R_drewN ?_ _) | (with_reducible refine Kd.R_drew ?_) | (refine Kd.R_far ?_ (fun k hk => Nat.ne_of_gt hk) _) | exact HR6.out)), by (refine Kd.R_mono (ok := fun k => w.heap.size < k) ?_ (fun _ _ => trivial); repeat (first | (with_reducible exact HR7.out) | (with_reducible refine Kd.R_drewN ?_ _) | (with_reducible refine Kd.R_drew ?_) | (refine Kd.R_far ?_ (fun k hk => Nat.ne_of_gt hk) _) | exact HR7.out)), by repeat (first | (with_reducible exact HB2.out) | (with_reducible refine below8 ?_ (Nat.le_refl _)) | (with_reducible apply pw_below_drewN) | (with_reducible apply below_drew1))⟩
set_option maxHeartbeats 8000000 in
set_option maxRecDepth 100000 in
theorem Of_3 (h a b c d : Int) (A6 : Option Addr) (c6 : Nat) (l6 : List Int) (A7 : Option Addr) (c7 : Nat) (l7 : List S60) (w : World) (hr6 : Kd.C (Kd.int .i64) w A6 l6.length l6) (hc6 : l6.length ≤ c6) (hr7 : Kd.C k60 w A7 l7.length l7) (hc7 : l7.length ≤ c7) (hl6 : l6.length ≤ 5000) (hl7 : l7.length ≤ 1100) :
    Calls Try.prog 12 #[.agg #[.int .i64 3, .int .i64 h, .int .i64 a, .int .i64 b, .int .i64 c, .int .i64 d, .slice A6 l6.length c6, .slice A7 l7.length c7]] w fun e w' => ∃ v6 v7, e = .returned (.tuple #[.iface 32 (.agg #[.int .i64 3, .int .i64 h, .int .i64 a, .int .i64 b, v6, v7]), .int .i64 0]) ∧ Kd.R (Kd.int .i64) 3 w' w.heap.size (fun _ => True) v6 l6 ∧ Kd.R k60 60 w' w.heap.size (fun _ => True) v7 [] ∧ Below w.heap.size w w' := by
  have hu25 := Try.underlying25
  have H6 := Aside0.mk hr6
  have C6 := Aside0.mk hc6
  have H7 := Aside0.mk hr7
  have C7 := Aside0.mk hc7
  have L6 := Aside0.mk hl6
  have L7 := Aside0.mk hl7
  clear hr6 hc6 hr7 hc7 hl6 hl7
  go_enter Try.func12, Try.ntmps12
  go_wp2_with (first | (go_at_call 11; go_must (refine (own_3 h a b c d A6 c6 l6 A7 c7 l7 _ (Kd.C_below H6.out (below_alloc (Below.refl _ _) _)) C6.out (Kd.C_below H7.out (below_alloc (Below.refl _ _) _)) C7.out L6.out L7.out).mono ?_; rintro e w2 ⟨v6, v7, rfl, hR6, hR7, hb2⟩; have RES2 := Aside0.mk (blk_below (blk_new w _) hb2); have HB2 := Aside0.mk (below_step (below_alloc (Below.refl _ _) _) hb2); obtain ⟨A6_, c6_, rfl⟩ := Kd.R_slice hR6; obtain ⟨A7_, c7_, rfl⟩ := Kd.R_slice hR7; have HR6 := Aside0.mk (R_up hR6 (blk_lt (blk_new w _)) (below_size (below_alloc (Below.refl _ _) _))); have HR7 := Aside0.mk (R_up hR7 (blk_lt (blk_new w _)) (below_size (below_alloc (Below.refl _ _) _))); clear hR6 hR7 hb2; have ho0 := (blk_cell RES2.out 0).trans rfl; have hp0 := blk_frozen RES2.out 0; have ho1 := (blk_cell RES2.out 1).trans rfl; have hp1 := blk_frozen RES2.out 1; have ho2 := (blk_cell RES2.out 2).trans rfl; have hp2 := blk_frozen RES2.out 2; have ho3 := (blk_cell RES2.out 3).trans rfl; have hp3 := blk_frozen RES2.out 3; have ho4 := (blk_cell RES2.out 4).trans rfl; have hp4 := blk_frozen RES2.out 4; have ho5 := (blk_cell RES2.out 5).trans rfl; have hp5 := blk_frozen RES2.out 5; have ho6 := (blk_cell RES2.out 6).trans rfl; have hp6 := blk_frozen RES2.out 6; have ho7 := (blk_cell RES2.out 7).trans rfl; have hp7 := blk_frozen RES2.out 7)))
  go_ret2
  exact ⟨_, _, rfl, by (refine Kd.R_mono (ok := fun k => w.heap.size < k) ?_ (fun _ _ => trivial); repeat (first | (with_reducible exact HR6.out) | (with_reducible refine Kd.R_drewN ?_ _) | (with_reducible refine Kd.R_drew ?_) | (refine Kd.R_far ?_ (fun k hk => Nat.ne_of_gt hk) _) | exact HR6.out)), by (refine Kd.R_mono (ok := fun k => w.heap.size < k) ?_ (fun _ _ => trivial); repeat (first | (with_reducible exact HR7.out) | (with_reducible refine Kd.R_drewN ?_ _) | (with_reducible refine Kd.R_drew ?_) | (refine Kd.R_far ?_ (fun k hk => Nat.ne_of_gt hk) _) | exact HR7.out)), by repeat (first | (with_reducible exact HB2.out) | (with_reducible refine below8 ?_ (Nat.le_refl _)) | (with_reducible apply pw_below_drewN) | (with_reducible apply below_drew1))⟩
set_option maxHeartbeats 8000000 in
set_option maxRecDepth 100000 in
theorem Of_4 (h a b c d : Int) (A6 : Option Addr) (c6 : Nat) (l6 : List Int) (A7 : Option Addr) (c7 : Nat) (l7 : List S60) (w : World) (hr6 : Kd.C (Kd.int .i64) w A6 l6.length l6) (hc6 : l6.length ≤ c6) (hr7 : Kd.C k60 w A7 l7.length l7) (hc7 : l7.length ≤ c7) (hl6 : l6.length ≤ 5000) (hl7 : l7.length ≤ 1100) :
    Calls Try.prog 12 #[.agg #[.int .i64 4, .int .i64 h, .int .i64 a, .int .i64 b, .int .i64 c, .int .i64 d, .slice A6 l6.length c6, .slice A7 l7.length c7]] w fun e w' => ∃ v6 v7, e = .returned (.tuple #[.iface 32 (.agg #[.int .i64 4, .int .i64 h, .int .i64 0, .int .i64 0, v6, v7]), .int .i64 0]) ∧ Kd.R (Kd.int .i64) 3 w' w.heap.size (fun _ => True) v6 [] ∧ Kd.R k60 60 w' w.heap.size (fun _ => True) v7 [] ∧ Below w.heap.size w w' := by
  have hu25 := Try.underlying25
  have H6 := Aside0.mk hr6
  have C6 := Aside0.mk hc6
  have H7 := Aside0.mk hr7
  have C7 := Aside0.mk hc7
  have L6 := Aside0.mk hl6
  have L7 := Aside0.mk hl7
  clear hr6 hc6 hr7 hc7 hl6 hl7
  go_enter Try.func12, Try.ntmps12
  go_wp2_with (first | (go_at_call 11; go_must (refine (own_4 h a b c d A6 c6 l6 A7 c7 l7 _ (Kd.C_below H6.out (below_alloc (Below.refl _ _) _)) C6.out (Kd.C_below H7.out (below_alloc (Below.refl _ _) _)) C7.out L6.out L7.out).mono ?_; rintro e w2 ⟨v6, v7, rfl, hR6, hR7, hb2⟩; have RES2 := Aside0.mk (blk_below (blk_new w _) hb2); have HB2 := Aside0.mk (below_step (below_alloc (Below.refl _ _) _) hb2); obtain ⟨A6_, c6_, rfl⟩ := Kd.R_slice hR6; obtain ⟨A7_, c7_, rfl⟩ := Kd.R_slice hR7; have HR6 := Aside0.mk (R_up hR6 (blk_lt (blk_new w _)) (below_size (below_alloc (Below.refl _ _) _))); have HR7 := Aside0.mk (R_up hR7 (blk_lt (blk_new w _)) (below_size (below_alloc (Below.refl _ _) _))); clear hR6 hR7 hb2; have ho0 := (blk_cell RES2.out 0).trans rfl; have hp0 := blk_frozen RES2.out 0; have ho1 := (blk_cell RES2.out 1).trans rfl; have hp1 := blk_frozen RES2.out 1; have ho2 := (blk_cell RES2.out 2).trans rfl; have hp2 := blk_frozen RES2.out 2; have ho3 := (blk_cell RES2.out 3).trans rfl; have hp3 := blk_frozen RES2.out 3; have ho4 := (blk_cell RES2.out 4).trans rfl; have hp4 := blk_frozen RES2.out 4; have ho5 := (blk_cell RES2.out 5).trans rfl; have hp5 := blk_frozen RES2.out 5; have ho6 := (blk_cell RES2.out 6).trans rfl; have hp6 := blk_frozen RES2.out 6; have ho7 := (blk_cell RES2.out 7).trans rfl; have hp7 := blk_frozen RES2.out 7)))
  go_ret2
  exact ⟨_, _, rfl, by (refine Kd.R_mono (ok := fun k => w.heap.size < k) ?_ (fun _ _ => trivial); repeat (first | (with_reducible exact HR6.out) | (with_reducible refine Kd.R_drewN ?_ _) | (with_reducible refine Kd.R_drew ?_) | (refine Kd.R_far ?_ (fun k hk => Nat.ne_of_gt hk) _) | exact HR6.out)), by (refine Kd.R_mono (ok := fun k => w.heap.size < k) ?_ (fun _ _ => trivial); repeat (first | (with_reducible exact HR7.out) | (with_reducible refine Kd.R_drewN ?_ _) | (with_reducible refine Kd.R_drew ?_) | (refine Kd.R_far ?_ (fun k hk => Nat.ne_of_gt hk) _) | exact HR7.out)), by repeat (first | (with_reducible exact HB2.out) | (with_reducible refine below8 ?_ (Nat.le_refl _)) | (with_reducible apply pw_below_drewN) | (with_reducible apply below_drew1))⟩
set_option maxHeartbeats 8000000 in
set_option maxRecDepth 100000 in
theorem Of_5 (h a b c d : Int) (A6 : Option Addr) (c6 : Nat) (l6 : List Int) (A7 : Option Addr) (c7 : Nat) (l7 : List S60) (w : World) (hr6 : Kd.C (Kd.int .i64) w A6 l6.length l6) (hc6 : l6.length ≤ c6) (hr7 : Kd.C k60 w A7 l7.length l7) (hc7 : l7.length ≤ c7) (hl6 : l6.length ≤ 5000) (hl7 : l7.length ≤ 1100) :
    Calls Try.prog 12 #[.agg #[.int .i64 5, .int .i64 h, .int .i64 a, .int .i64 b, .int .i64 c, .int .i64 d, .slice A6 l6.length c6, .slice A7 l7.length c7]] w fun e w' => ∃ v6 v7, e = .returned (.tuple #[.iface 36 (.agg #[.int .i64 5, .int .i64 0, .int .i64 0, .int .i64 0, .int .i64 0, .int .i64 0, v6, v7]), .int .i64 0]) ∧ Kd.R (Kd.int .i64) 3 w' w.heap.size (fun _ => True) v6 l6 ∧ Kd.R k60 60 w' w.heap.size (fun _ => True) v7 [] ∧ Below w.heap.size w w' := by
  have hu25 := Try.underlying25
  have H6 := Aside0.mk hr6
  have C6 := Aside0.mk hc6
  have H7 := Aside0.mk hr7
  have C7 := Aside0.mk hc7
  have L6 := Aside0.mk hl6
  have L7 := Aside0.mk hl7
  clear hr6 hc6 hr7 hc7 hl6 hl7
  go_enter Try.func12, Try.ntmps12
  go_wp2_with (first | (go_at_call 11; go_must (refine (own_5 h a b c d A6 c6 l6 A7 c7 l7 _ (Kd.C_below H6.out (below_alloc (Below.refl _ _) _)) C6.out (Kd.C_below H7.out (below_alloc (Below.refl _ _) _)) C7.out L6.out L7.out).mono ?_; rintro e w2 ⟨v6, v7, rfl, hR6, hR7, hb2⟩; have RES2 := Aside0.mk (blk_below (blk_new w _) hb2); have HB2 := Aside0.mk (below_step (below_alloc (Below.refl _ _) _) hb2); obtain ⟨A6_, c6_, rfl⟩ := Kd.R_slice hR6; obtain ⟨A7_, c7_, rfl⟩ := Kd.R_slice hR7; have HR6 := Aside0.mk (R_up hR6 (blk_lt (blk_new w _)) (below_size (below_alloc (Below.refl _ _) _))); have HR7 := Aside0.mk (R_up hR7 (blk_lt (blk_new w _)) (below_size (below_alloc (Below.refl _ _) _))); clear hR6 hR7 hb2; have ho0 := (blk_cell RES2.out 0).trans rfl; have hp0 := blk_frozen RES2.out 0; have ho1 := (blk_cell RES2.out 1).trans rfl; have hp1 := blk_frozen RES2.out 1; have ho2 := (blk_cell RES2.out 2).trans rfl; have hp2 := blk_frozen RES2.out 2; have ho3 := (blk_cell RES2.out 3).trans rfl; have hp3 := blk_frozen RES2.out 3; have ho4 := (blk_cell RES2.out 4).trans rfl; have hp4 := blk_frozen RES2.out 4; have ho5 := (blk_cell RES2.out 5).trans rfl; have hp5 := blk_frozen RES2.out 5; have ho6 := (blk_cell RES2.out 6).trans rfl; have hp6 := blk_frozen RES2.out 6; have ho7 := (blk_cell RES2.out 7).trans rfl; have hp7 := blk_frozen RES2.out 7)))
  go_ret2
  exact ⟨_, _, rfl, by (refine Kd.R_mono (ok := fun k => w.heap.size < k) ?_ (fun _ _ => trivial); repeat (first | (with_reducible exact HR6.out) | (with_reducible refine Kd.R_drewN ?_ _) | (with_reducible refine Kd.R_drew ?_) | (refine Kd.R_far ?_ (fun k hk => Nat.ne_of_gt hk) _) | exact HR6.out)), by (refine Kd.R_mono (ok := fun k => w.heap.size < k) ?_ (fun _ _ => trivial); repeat (first | (with_reducible exact HR7.out) | (with_reducible refine Kd.R_drewN ?_ _) | (with_reducible refine Kd.R_drew ?_) | (refine Kd.R_far ?_ (fun k hk => Nat.ne_of_gt hk) _) | exact HR7.out)), by repeat (first | (with_reducible exact HB2.out) | (with_reducible refine below8 ?_ (Nat.le_refl _)) | (with_reducible apply pw_below_drewN) | (with_reducible apply below_drew1))⟩
set_option maxHeartbeats 8000000 in
set_option maxRecDepth 100000 in
theorem Of_6 (h a b c d : Int) (A6 : Option Addr) (c6 : Nat) (l6 : List Int) (A7 : Option Addr) (c7 : Nat) (l7 : List S60) (w : World) (hr6 : Kd.C (Kd.int .i64) w A6 l6.length l6) (hc6 : l6.length ≤ c6) (hr7 : Kd.C k60 w A7 l7.length l7) (hc7 : l7.length ≤ c7) (hl6 : l6.length ≤ 5000) (hl7 : l7.length ≤ 1100) :
    Calls Try.prog 12 #[.agg #[.int .i64 6, .int .i64 h, .int .i64 a, .int .i64 b, .int .i64 c, .int .i64 d, .slice A6 l6.length c6, .slice A7 l7.length c7]] w fun e w' => ∃ v6 v7, e = .returned (.tuple #[.iface 36 (.agg #[.int .i64 6, .int .i64 0, .int .i64 a, .int .i64 b, .int .i64 c, .int .i64 d, v6, v7]), .int .i64 0]) ∧ Kd.R (Kd.int .i64) 3 w' w.heap.size (fun _ => True) v6 [] ∧ Kd.R k60 60 w' w.heap.size (fun _ => True) v7 [] ∧ Below w.heap.size w w' := by
  have hu25 := Try.underlying25
  have H6 := Aside0.mk hr6
  have C6 := Aside0.mk hc6
  have H7 := Aside0.mk hr7
  have C7 := Aside0.mk hc7
  have L6 := Aside0.mk hl6
  have L7 := Aside0.mk hl7
  clear hr6 hc6 hr7 hc7 hl6 hl7
  go_enter Try.func12, Try.ntmps12
  go_wp2_with (first | (go_at_call 11; go_must (refine (own_6 h a b c d A6 c6 l6 A7 c7 l7 _ (Kd.C_below H6.out (below_alloc (Below.refl _ _) _)) C6.out (Kd.C_below H7.out (below_alloc (Below.refl _ _) _)) C7.out L6.out L7.out).mono ?_; rintro e w2 ⟨v6, v7, rfl, hR6, hR7, hb2⟩; have RES2 := Aside0.mk (blk_below (blk_new w _) hb2); have HB2 := Aside0.mk (below_step (below_alloc (Below.refl _ _) _) hb2); obtain ⟨A6_, c6_, rfl⟩ := Kd.R_slice hR6; obtain ⟨A7_, c7_, rfl⟩ := Kd.R_slice hR7; have HR6 := Aside0.mk (R_up hR6 (blk_lt (blk_new w _)) (below_size (below_alloc (Below.refl _ _) _))); have HR7 := Aside0.mk (R_up hR7 (blk_lt (blk_new w _)) (below_size (below_alloc (Below.refl _ _) _))); clear hR6 hR7 hb2; have ho0 := (blk_cell RES2.out 0).trans rfl; have hp0 := blk_frozen RES2.out 0; have ho1 := (blk_cell RES2.out 1).trans rfl; have hp1 := blk_frozen RES2.out 1; have ho2 := (blk_cell RES2.out 2).trans rfl; have hp2 := blk_frozen RES2.out 2; have ho3 := (blk_cell RES2.out 3).trans rfl; have hp3 := blk_frozen RES2.out 3; have ho4 := (blk_cell RES2.out 4).trans rfl; have hp4 := blk_frozen RES2.out 4; have ho5 := (blk_cell RES2.out 5).trans rfl; have hp5 := blk_frozen RES2.out 5; have ho6 := (blk_cell RES2.out 6).trans rfl; have hp6 := blk_frozen RES2.out 6; have ho7 := (blk_cell RES2.out 7).trans rfl; have hp7 := blk_frozen RES2.out 7)))
  go_ret2
  exact ⟨_, _, rfl, by (refine Kd.R_mono (ok := fun k => w.heap.size < k) ?_ (fun _ _ => trivial); repeat (first | (with_reducible exact HR6.out) | (with_reducible refine Kd.R_drewN ?_ _) | (with_reducible refine Kd.R_drew ?_) | (refine Kd.R_far ?_ (fun k hk => Nat.ne_of_gt hk) _) | exact HR6.out)), by (refine Kd.R_mono (ok := fun k => w.heap.size < k) ?_ (fun _ _ => trivial); repeat (first | (with_reducible exact HR7.out) | (with_reducible refine Kd.R_drewN ?_ _) | (with_reducible refine Kd.R_drew ?_) | (refine Kd.R_far ?_ (fun k hk => Nat.ne_of_gt hk) _) | exact HR7.out)), by repeat (first | (with_reducible exact HB2.out) | (with_reducible refine below8 ?_ (Nat.le_refl _)) | (with_reducible apply pw_below_drewN) | (with_reducible apply below_drew1))⟩
set_option maxHeartbeats 8000000 in
set_option maxRecDepth 100000 in
theorem Of_7 (h a b c d : Int) (A6 : Option Addr) (c6 : Nat) (l6 : List Int) (A7 : Option Addr) (c7 : Nat) (l7 : List S60) (w : World) (hr6 : Kd.C (Kd.int .i64) w A6 l6.length l6) (hc6 : l6.length ≤ c6) (hr7 : Kd.C k60 w A7 l7.length l7) (hc7 : l7.length ≤ c7) (hl6 : l6.length ≤ 5000) (hl7 : l7.length ≤ 1100) :
    Calls Try.prog 12 #[.agg #[.int .i64 7, .int .i64 h, .int .i64 a, .int .i64 b, .int .i64 c, .int .i64 d, .slice A6 l6.length c6, .slice A7 l7.length c7]] w fun e w' => ∃ v6 v7, e = .returned (.tuple #[.iface 36 (.agg #[.int .i64 7, .int .i64 0, .int .i64 a, .int .i64 b, .int .i64 c, .int .i64 d, v6, v7]), .int .i64 0]) ∧ Kd.R (Kd.int .i64) 3 w' w.heap.size (fun _ => True) v6 [] ∧ Kd.R k60 60 w' w.heap.size (fun _ => True) v7 [] ∧ Below w.heap.size w w' := by
  have hu25 := Try.underlying25
  have H6 := Aside0.mk hr6
  have C6 := Aside0.mk hc6
  have H7 := Aside0.mk hr7
  have C7 := Aside0.mk hc7
  have L6 := Aside0.mk hl6
  have L7 := Aside0.mk hl7
  clear hr6 hc6 hr7 hc7 hl6 hl7
  go_enter Try.func12, Try.ntmps12
  go_wp2_with (first | (go_at_call 11; go_must (refine (own_7 h a b c d A6 c6 l6 A7 c7 l7 _ (Kd.C_below H6.out (below_alloc (Below.refl _ _) _)) C6.out (Kd.C_below H7.out (below_alloc (Below.refl _ _) _)) C7.out L6.out L7.out).mono ?_; rintro e w2 ⟨v6, v7, rfl, hR6, hR7, hb2⟩; have RES2 := Aside0.mk (blk_below (blk_new w _) hb2); have HB2 := Aside0.mk (below_step (below_alloc (Below.refl _ _) _) hb2); obtain ⟨A6_, c6_, rfl⟩ := Kd.R_slice hR6; obtain ⟨A7_, c7_, rfl⟩ := Kd.R_slice hR7; have HR6 := Aside0.mk (R_up hR6 (blk_lt (blk_new w _)) (below_size (below_alloc (Below.refl _ _) _))); have HR7 := Aside0.mk (R_up hR7 (blk_lt (blk_new w _)) (below_size (below_alloc (Below.refl _ _) _))); clear hR6 hR7 hb2; have ho0 := (blk_cell RES2.out 0).trans rfl; have hp0 := blk_frozen RES2.out 0; have ho1 := (blk_cell RES2.out 1).trans rfl; have hp1 := blk_frozen RES2.out 1; have ho2 := (blk_cell RES2.out 2).trans rfl; have hp2 := blk_frozen RES2.out 2; have ho3 := (blk_cell RES2.out 3).trans rfl; have hp3 := blk_frozen RES2.out 3; have ho4 := (blk_cell RES2.out 4).trans rfl; have hp4 := blk_frozen RES2.out 4; have ho5 := (blk_cell RES2.out 5).trans rfl; have hp5 := blk_frozen RES2.out 5; have ho6 := (blk_cell RES2.out 6).trans rfl; have hp6 := blk_frozen RES2.out 6; have ho7 := (blk_cell RES2.out 7).trans rfl; have hp7 := blk_frozen RES2.out 7)))
  go_ret2
  exact ⟨_, _, rfl, by (refine Kd.R_mono (ok := fun k => w.heap.size < k) ?_ (fun _ _ => trivial); repeat (first | (with_reducible exact HR6.out) | (with_reducible refine Kd.R_drewN ?_ _) | (with_reducible refine Kd.R_drew ?_) | (refine Kd.R_far ?_ (fun k hk => Nat.ne_of_gt hk) _) | exact HR6.out)), by (refine Kd.R_mono (ok := fun k => w.heap.size < k) ?_ (fun _ _ => trivial); repeat (first | (with_reducible exact HR7.out) | (with_reducible refine Kd.R_drewN ?_ _) | (with_reducible refine Kd.R_drew ?_) | (refine Kd.R_far ?_ (fun k hk => Nat.ne_of_gt hk) _) | exact HR7.out)), by repeat (first | (with_reducible exact HB2.out) | (with_reducible refine below8 ?_ (Nat.le_refl _)) | (with_reducible apply pw_below_drewN) | (with_reducible apply below_drew1))⟩
set_option maxHeartbeats 8000000 in
set_option maxRecDepth 100000 in
theorem Of_8 (h a b c d : Int) (A6 : Option Addr) (c6 : Nat) (l6 : List Int) (A7 : Option Addr) (c7 : Nat) (l7 : List S60) (w : World) (hr6 : Kd.C (Kd.int .i64) w A6 l6.length l6) (hc6 : l6.length ≤ c6) (hr7 : Kd.C k60 w A7 l7.length l7) (hc7 : l7.length ≤ c7) (hl6 : l6.length ≤ 5000) (hl7 : l7.length ≤ 1100) :
    Calls Try.prog 12 #[.agg #[.int .i64 8, .int .i64 h, .int .i64 a, .int .i64 b, .int .i64 c, .int .i64 d, .slice A6 l6.length c6, .slice A7 l7.length c7]] w fun e w' => ∃ v6 v7, e = .returned (.tuple #[.iface 36 (.agg #[.int .i64 8, .int .i64 0, .int .i64 a, .int .i64 b, .int .i64 0, .int .i64 0, v6, v7]), .int .i64 0]) ∧ Kd.R (Kd.int .i64) 3 w' w.heap.size (fun _ => True) v6 [] ∧ Kd.R k60 60 w' w.heap.size (fun _ => True) v7 [] ∧ Below w.heap.size w w' := by
  have hu25 := Try.underlying25
  have H6 := Aside0.mk hr6
  have C6 := Aside0.mk hc6
  have H7 := Aside0.mk hr7
  have C7 := Aside0.mk hc7
  have L6 := Aside0.mk hl6
  have L7 := Aside0.mk hl7
  clear hr6 hc6 hr7 hc7 hl6 hl7
  go_enter Try.func12, Try.ntmps12
  go_wp2_with (first | (go_at_call 11; go_must (refine (own_8 h a b c d A6 c6 l6 A7 c7 l7 _ (Kd.C_below H6.out (below_alloc (Below.refl _ _) _)) C6.out (Kd.C_below H7.out (below_alloc (Below.refl _ _) _)) C7.out L6.out L7.out).mono ?_; rintro e w2 ⟨v6, v7, rfl, hR6, hR7, hb2⟩; have RES2 := Aside0.mk (blk_below (blk_new w _) hb2); have HB2 := Aside0.mk (below_step (below_alloc (Below.refl _ _) _) hb2); obtain ⟨A6_, c6_, rfl⟩ := Kd.R_slice hR6; obtain ⟨A7_, c7_, rfl⟩ := Kd.R_slice hR7; have HR6 := Aside0.mk (R_up hR6 (blk_lt (blk_new w _)) (below_size (below_alloc (Below.refl _ _) _))); have HR7 := Aside0.mk (R_up hR7 (blk_lt (blk_new w _)) (below_size (below_alloc (Below.refl _ _) _))); clear hR6 hR7 hb2; have ho0 := (blk_cell RES2.out 0).trans rfl; have hp0 := blk_frozen RES2.out 0; have ho1 := (blk_cell RES2.out 1).trans rfl; have hp1 := blk_frozen RES2.out 1; have ho2 := (blk_cell RES2.out 2).trans rfl; have hp2 := blk_frozen RES2.out 2; have ho3 := (blk_cell RES2.out 3).trans rfl; have hp3 := blk_frozen RES2.out 3; have ho4 := (blk_cell RES2.out 4).trans rfl; have hp4 := blk_frozen RES2.out 4; have ho5 := (blk_cell RES2.out 5).trans rfl; have hp5 := blk_frozen RES2.out 5; have ho6 := (blk_cell RES2.out 6).trans rfl; have hp6 := blk_frozen RES2.out 6; have ho7 := (blk_cell RES2.out 7).trans rfl; have hp7 := blk_frozen RES2.out 7)))
  go_ret2
  exact ⟨_, _, rfl, by (refine Kd.R_mono (ok := fun k => w.heap.size < k) ?_ (fun _ _ => trivial); repeat (first | (with_reducible exact HR6.out) | (with_reducible refine Kd.R_drewN ?_ _) | (with_reducible refine Kd.R_drew ?_) | (refine Kd.R_far ?_ (fun k hk => Nat.ne_of_gt hk) _) | exact HR6.out)), by (refine Kd.R_mono (ok := fun k => w.heap.size < k) ?_ (fun _ _ => trivial); repeat (first | (with_reducible exact HR7.out) | (with_reducible refine Kd.R_drewN ?_ _) | (with_reducible refine Kd.R_drew ?_) | (refine Kd.R_far ?_ (fun k hk => Nat.ne_of_gt hk) _) | exact HR7.out)), by repeat (first | (with_reducible exact HB2.out) | (with_reducible refine below8 ?_ (Nat.le_refl _)) | (with_reducible apply pw_below_drewN) | (with_reducible apply below_drew1))⟩
set_option maxHeartbeats 8000000 in
set_option maxRecDepth 100000 in
theorem Of_9 (h a b c d : Int) (A6 : Option Addr) (c6 : Nat) (l6 : List Int) (A7 : Option Addr) (c7 : Nat) (l7 : List S60) (w : World) (hr6 : Kd.C (Kd.int .i64) w A6 l6.length l6) (hc6 : l6.length ≤ c6) (hr7 : Kd.C k60 w A7 l7.length l7) (hc7 : l7.length ≤ c7) (hl6 : l6.length ≤ 5000) (hl7 : l7.length ≤ 1100) :
    Calls Try.prog 12 #[.agg #[.int .i64 9, .int .i64 h, .int .i64 a, .int .i64 b, .int .i64 c, .int .i64 d, .slice A6 l6.length c6, .slice A7 l7.length c7]] w fun e w' => ∃ v6 v7, e = .returned (.tuple #[.iface 36 (.agg #[.int .i64 9, .int .i64 0, .int .i64 0, .int .i64 0, .int .i64 0, .int .i64 0, v6, v7]), .int .i64 0]) ∧ Kd.R (Kd.int .i64) 3 w' w.heap.size (fun _ => True) v6 l6 ∧ Kd.R k60 60 w' w.heap.size (fun _ => True) v7 [] ∧ Below w.heap.size w w' := by
  have hu25 := Try.underlying25
  have H6 := Aside0.mk hr6
  have C6 := Aside0.mk hc6
  have H7 := Aside0.mk hr7
  have C7 := Aside0.mk hc7
  have L6 := Aside0.mk hl6
  have L7 := Aside0.mk hl7
  clear hr6 hc6 hr7 hc7 hl6 hl7
  go_enter Try.func12, Try.ntmps12
  go_wp2_with (first | (go_at_call 11; go_must (refine (own_9 h a b c d A6 c6 l6 A7 c7 l7 _ (Kd.C_below H6.out (below_alloc (Below.refl _ _) _)) C6.out (Kd.C_below H7.out (below_alloc (Below.refl _ _) _)) C7.out L6.out L7.out).mono ?_; rintro e w2 ⟨v6, v7, rfl, hR6, hR7, hb2⟩; have RES2 := Aside0.mk (blk_below (blk_new w _) hb2); have HB2 := Aside0.mk (below_step (below_alloc (Below.refl _ _) _) hb2); obtain ⟨A6_, c6_, rfl⟩ := Kd.R_slice hR6; obtain ⟨A7_, c7_, rfl⟩ := Kd.R_slice hR7; have HR6 := Aside0.mk (R_up hR6 (blk_lt (blk_new w _)) (below_size (below_alloc (Below.refl _ _) _))); have HR7 := Aside0.mk (R_up hR7 (blk_lt (blk_new w _)) (below_size (below_alloc (Below.refl _ _) _))); clear hR6 hR7 hb2; have ho0 := (blk_cell RES2.out 0).trans rfl; have hp0 := blk_frozen RES2.out 0; have ho1 := (blk_cell RES2.out 1).trans rfl; have hp1 := blk_frozen RES2.out 1; have ho2 := (blk_cell RES2.out 2).trans rfl; have hp2 := blk_frozen RES2.out 2; have ho3 := (blk_cell RES2.out 3).trans rfl; have hp3 := blk_frozen RES2.out 3; have ho4 := (blk_cell RES2.out 4).trans rfl; have hp4 := blk_frozen RES2.out 4; have ho5 := (blk_cell RES2.out 5).trans rfl; have hp5 := blk_frozen RES2.out 5; have ho6 := (blk_cell RES2.out 6).trans rfl; have hp6 := blk_frozen RES2.out 6; have ho7 := (blk_cell RES2.out 7).trans rfl; have hp7 := blk_frozen RES2.out 7)))
  go_ret2
  exact ⟨_, _, rfl, by (refine Kd.R_mono (ok := fun k => w.heap.size < k) ?_ (fun _ _ => trivial); repeat (first | (with_reducible exact HR6.out) | (with_reducible refine Kd.R_drewN ?_ _) | (with_reducible refine Kd.R_drew ?_) | (refine Kd.R_far ?_ (fun k hk => Nat.ne_of_gt hk) _) | exact HR6.out)), by (refine Kd.R_mono (ok := fun k => w.heap.size < k) ?_ (fun _ _ => trivial); repeat (first | (with_reducible exact HR7.out) | (with_reducible refine Kd.R_drewN ?_ _) | (with_reducible refine Kd.R_drew ?_) | (refine Kd.R_far ?_ (fun k hk => Nat.ne_of_gt hk) _) | exact HR7.out)), by repeat (first | (with_reducible exact HB2.out) | (with_reducible refine below8 ?_ (Nat.le_refl _)) | (with_reducible apply pw_below_drewN) | (with_reducible apply below_drew1))⟩
set_option maxHeartbeats 8000000 in
set_option maxRecDepth 100000 in
theorem Of_10 (h a b c d : Int) (A6 : Option Addr) (c6 : Nat) (l6 : List Int) (A7 : Option Addr) (c7 : Nat) (l7 : List S60) (w : World) (hr6 : Kd.C (Kd.int .i64) w A6 l6.length l6) (hc6 : l6.length ≤ c6) (hr7 : Kd.C k60 w A7 l7.length l7) (hc7 : l7.length ≤ c7) (hl6 : l6.length ≤ 5000) (hl7 : l7.length ≤ 1100) :
    Calls Try.prog 12 #[.agg #[.int .i64 10, .int .i64 h, .int .i64 a, .int .i64 b, .int .i64 c, .int .i64 d, .slice A6 l6.length c6, .slice A7 l7.length c7]] w fun e w' => ∃ v6 v7, e = .returned (.tuple #[.iface 36 (.agg #[.int .i64 10, .int .i64 0, .int .i64 a, .int .i64 b, .int .i64 c, .int .i64 d, v6, v7]), .int .i64 0]) ∧ Kd.R (Kd.int .i64) 3 w' w.heap.size (fun _ => True) v6 [] ∧ Kd.R k60 60 w' w.heap.size (fun _ => True) v7 [] ∧ Below w.heap.size w w' := by
  have hu25 := Try.underlying25
  have H6 := Aside0.mk hr6
  have C6 := Aside0.mk hc6
  have H7 := Aside0.mk hr7
  have C7 := Aside0.mk hc7
  have L6 := Aside0.mk hl6
  have L7 := Aside0.mk hl7
  clear hr6 hc6 hr7 hc7 hl6 hl7
  go_enter Try.func12, Try.ntmps12
  go_wp2_with (first | (go_at_call 11; go_must (refine (own_10 h a b c d A6 c6 l6 A7 c7 l7 _ (Kd.C_below H6.out (below_alloc (Below.refl _ _) _)) C6.out (Kd.C_below H7.out (below_alloc (Below.refl _ _) _)) C7.out L6.out L7.out).mono ?_; rintro e w2 ⟨v6, v7, rfl, hR6, hR7, hb2⟩; have RES2 := Aside0.mk (blk_below (blk_new w _) hb2); have HB2 := Aside0.mk (below_step (below_alloc (Below.refl _ _) _) hb2); obtain ⟨A6_, c6_, rfl⟩ := Kd.R_slice hR6; obtain ⟨A7_, c7_, rfl⟩ := Kd.R_slice hR7; have HR6 := Aside0.mk (R_up hR6 (blk_lt (blk_new w _)) (below_size (below_alloc (Below.refl _ _) _))); have HR7 := Aside0.mk (R_up hR7 (blk_lt (blk_new w _)) (below_size (below_alloc (Below.refl _ _) _))); clear hR6 hR7 hb2; have ho0 := (blk_cell RES2.out 0).trans rfl; have hp0 := blk_frozen RES2.out 0; have ho1 := (blk_cell RES2.out 1).trans rfl; have hp1 := blk_frozen RES2.out 1; have ho2 := (blk_cell RES2.out 2).trans rfl; have hp2 := blk_frozen RES2.out 2; have ho3 := (blk_cell RES2.out 3).trans rfl; have hp3 := blk_frozen RES2.out 3; have ho4 := (blk_cell RES2.out 4).trans rfl; have hp4 := blk_frozen RES2.out 4; have ho5 := (blk_cell RES2.out 5).trans rfl; have hp5 := blk_frozen RES2.out 5; have ho6 := (blk_cell RES2.out 6).trans rfl; have hp6 := blk_frozen RES2.out 6; have ho7 := (blk_cell RES2.out 7).trans rfl; have hp7 := blk_frozen RES2.out 7)))
  go_ret2
  exact ⟨_, _, rfl, by (refine Kd.R_mono (ok := fun k => w.heap.size < k) ?_ (fun _ _ => trivial); repeat (first | (with_reducible exact HR6.out) | (with_reducible refine Kd.R_drewN ?_ _) | (with_reducible refine Kd.R_drew ?_) | (refine Kd.R_far ?_ (fun k hk => Nat.ne_of_gt hk) _) | exact HR6.out)), by (refine Kd.R_mono (ok := fun k => w.heap.size < k) ?_ (fun _ _ => trivial); repeat (first | (with_reducible exact HR7.out) | (with_reducible refine Kd.R_drewN ?_ _) | (with_reducible refine Kd.R_drew ?_) | (refine Kd.R_far ?_ (fun k hk => Nat.ne_of_gt hk) _) | exact HR7.out)), by repeat (first | (with_reducible exact HB2.out) | (with_reducible refine below8 ?_ (Nat.le_refl _)) | (with_reducible apply pw_below_drewN) | (with_reducible apply below_drew1))⟩
set_option maxHeartbeats 8000000 in
set_option maxRecDepth 100000 in
theorem Of_11 (h a b c d : Int) (A6 : Option Addr) (c6 : Nat) (l6 : List Int) (A7 : Option Addr) (c7 : Nat) (l7 : List S60) (w : World) (hr6 : Kd.C (Kd.int .i64) w A6 l6.length l6) (hc6 : l6.length ≤ c6) (hr7 : Kd.C k60 w A7 l7.length l7) (hc7 : l7.length ≤ c7) (hl6 : l6.length ≤ 5000) (hl7 : l7.length ≤ 1100) :
    Calls Try.prog 12 #[.agg #[.int .i64 11, .int .i64 h, .int .i64 a, .int .i64 b, .int .i64 c, .int .i64 d, .slice A6 l6.length c6, .slice A7 l7.length c7]] w fun e w' => ∃ v6 v7, e = .returned (.tuple #[.iface 36 (.agg #[.int .i64 11, .int .i64 0, .int .i64 a, .int .i64 0, .int .i64 0, .int .i64 0, v6, v7]), .int .i64 0]) ∧ Kd.R (Kd.int .i64) 3 w' w.heap.size (fun _ => True) v6 [] ∧ Kd.R k60 60 w' w.heap.size (fun _ => True) v7 [] ∧ Below w.heap.size w w' := by
  have hu25 := Try.underlying25
  have H6 := Aside0.mk hr6
  have C6 := Aside0.mk hc6
  have H7 := Aside0.mk hr7
  have C7 := Aside0.mk hc7
  have L6 := Aside0.mk hl6
  have L7 := Aside0.mk hl7
  clear hr6 hc6 hr7 hc7 hl6 hl7
  go_enter Try.func12, Try.ntmps12
  go_wp2_with (first | (go_at_call 11; go_must (refine (own_11 h a b c d A6 c6 l6 A7 c7 l7 _ (Kd.C_below H6.out (below_alloc (Below.refl _ _) _)) C6.out (Kd.C_below H7.out (below_alloc (Below.refl _ _) _)) C7.out L6.out L7.out).mono ?_; rintro e w2 ⟨v6, v7, rfl, hR6, hR7, hb2⟩; have RES2 := Aside0.mk (blk_below (blk_new w _) hb2); have HB2 := Aside0.mk (below_step (below_alloc (Below.refl _ _) _) hb2); obtain ⟨A6_, c6_, rfl⟩ := Kd.R_slice hR6; obtain ⟨A7_, c7_, rfl⟩ := Kd.R_slice hR7; have HR6 := Aside0.mk (R_up hR6 (blk_lt (blk_new w _)) (below_size (below_alloc (Below.refl _ _) _))); have HR7 := Aside0.mk (R_up hR7 (blk_lt (blk_new w _)) (below_size (below_alloc (Below.refl _ _) _))); clear hR6 hR7 hb2; have ho0 := (blk_cell RES2.out 0).trans rfl; have hp0 := blk_frozen RES2.out 0; have ho1 := (blk_cell RES2.out 1).trans rfl; have hp1 := blk_frozen RES2.out 1; have ho2 := (blk_cell RES2.out 2).trans rfl; have hp2 := blk_frozen RES2.out 2; have ho3 := (blk_cell RES2.out 3).trans rfl; have hp3 := blk_frozen RES2.out 3; have ho4 := (blk_cell RES2.out 4).trans rfl; have hp4 := blk_frozen RES2.out 4; have ho5 := (blk_cell RES2.out 5).trans rfl; have hp5 := blk_frozen RES2.out 5; have ho6 := (blk_cell RES2.out 6).trans rfl; have hp6 := blk_frozen RES2.out 6; have ho7 := (blk_cell RES2.out 7).trans rfl; have hp7 := blk_frozen RES2.out 7)))
  go_ret2
  exact ⟨_, _, rfl, by (refine Kd.R_mono (ok := fun k => w.heap.size < k) ?_ (fun _ _ => trivial); repeat (first | (with_reducible exact HR6.out) | (with_reducible refine Kd.R_drewN ?_ _) | (with_reducible refine Kd.R_drew ?_) | (refine Kd.R_far ?_ (fun k hk => Nat.ne_of_gt hk) _) | exact HR6.out)), by (refine Kd.R_mono (ok := fun k => w.heap.size < k) ?_ (fun _ _ => trivial); repeat (first | (with_reducible exact HR7.out) | (with_reducible refine Kd.R_drewN ?_ _) | (with_reducible refine Kd.R_drew ?_) | (refine Kd.R_far ?_ (fun k hk => Nat.ne_of_gt hk) _) | exact HR7.out)), by repeat (first | (with_reducible exact HB2.out) | (with_reducible refine below8 ?_ (Nat.le_refl _)) | (with_reducible apply pw_below_drewN) | (with_reducible apply below_drew1))⟩
set_option maxHeartbeats 8000000 in
set_option maxRecDepth 100000 in
theorem Of_12 (h a b c d : Int) (A6 : Option Addr) (c6 : Nat) (l6 : List Int) (A7 : Option Addr) (c7 : Nat) (l7 : List S60) (w : World) (hr6 : Kd.C (Kd.int .i64) w A6 l6.length l6) (hc6 : l6.length ≤ c6) (hr7 : Kd.C k60 w A7 l7.length l7) (hc7 : l7.length ≤ c7) (hl6 : l6.length ≤ 5000) (hl7 : l7.length ≤ 1100) :
    Calls Try.prog 12 #[.agg #[.int .i64 12, .int .i64 h, .int .i64 a, .int .i64 b, .int .i64 c, .int .i64 d, .slice A6 l6.length c6, .slice A7 l7.length c7]] w fun e w' => ∃ v6 v7, e = .returned (.tuple #[.iface 36 (.agg #[.int .i64 12, .int .i64 h, .int .i64 a, .int .i64 b, .int .i64 0, .int .i64 0, v6, v7]), .int .i64 0]) ∧ Kd.R (Kd.int .i64) 3 w' w.heap.size (fun _ => True) v6 [] ∧ Kd.R k60 60 w' w.heap.size (fun _ => True) v7 [] ∧ Below w.heap.size w w' := by
  have hu25 := Try.underlying25
  have H6 := Aside0.mk hr6
  have C6 := Aside0.mk hc6
  have H7 := Aside0.mk hr7
  have C7 := Aside0.mk hc7
  have L6 := Aside0.mk hl6
  have L7 := Aside0.mk hl7
  clear hr6 hc6 hr7 hc7 hl6 hl7
  go_enter Try.func12, Try.ntmps12
  go_wp2_with (first | (go_at_call 11; go_must (refine (own_12 h a b c d A6 c6 l6 A7 c7 l7 _ (Kd.C_below H6.out (below_alloc (Below.refl _ _) _)) C6.out (Kd.C_below H7.out (below_alloc (Below.refl _ _) _)) C7.out L6.out L7.out).mono ?_; rintro e w2 ⟨v6, v7, rfl, hR6, hR7, hb2⟩; have RES2 := Aside0.mk (blk_below (blk_new w _) hb2); have HB2 := Aside0.mk (below_step (below_alloc (Below.refl _ _) _) hb2); obtain ⟨A6_, c6_, rfl⟩ := Kd.R_slice hR6; obtain ⟨A7_, c7_, rfl⟩ := Kd.R_slice hR7; have HR6 := Aside0.mk (R_up hR6 (blk_lt (blk_new w _)) (below_size (below_alloc (Below.refl _ _) _))); have HR7 := Aside0.mk (R_up hR7 (blk_lt (blk_new w _)) (below_size (below_alloc (Below.refl _ _) _))); clear hR6 hR7 hb2; have ho0 := (blk_cell RES2.out 0).trans rfl; have hp0 := blk_frozen RES2.out 0; have ho1 := (blk_cell RES2.out 1).trans rfl; have hp1 := blk_frozen RES2.out 1; have ho2 := (blk_cell RES2.out 2).trans rfl; have hp2 := blk_frozen RES2.out 2; have ho3 := (blk_cell RES2.out 3).trans rfl; have hp3 := blk_frozen RES2.out 3; have ho4 := (blk_cell RES2.out 4).trans rfl; have hp4 := blk_frozen RES2.out 4; have ho5 := (blk_cell RES2.out 5).trans rfl; have hp5 := blk_frozen RES2.out 5; have ho6 := (blk_cell RES2.out 6).trans rfl; have hp6 := blk_frozen RES2.out 6; have ho7 := (blk_cell RES2.out 7).trans rfl; have hp7 := blk_frozen RES2.out 7)))
  go_ret2
  exact ⟨_, _, rfl, by (refine Kd.R_mono (ok := fun k => w.heap.size < k) ?_ (fun _ _ => trivial); repeat (first | (with_reducible exact HR6.out) | (with_reducible refine Kd.R_drewN ?_ _) | (with_reducible refine Kd.R_drew ?_) | (refine Kd.R_far ?_ (fun k hk => Nat.ne_of_gt hk) _) | exact HR6.out)), by (refine Kd.R_mono (ok := fun k => w.heap.size < k) ?_ (fun _ _ => trivial); repeat (first | (with_reducible exact HR7.out) | (with_reducible refine Kd.R_drewN ?_ _) | (with_reducible refine Kd.R_drew ?_) | (refine Kd.R_far ?_ (fun k hk => Nat.ne_of_gt hk) _) | exact HR7.out)), by repeat (first | (with_reducible exact HB2.out) | (with_reducible refine below8 ?_ (Nat.le_refl _)) | (with_reducible apply pw_below_drewN) | (with_reducible apply below_drew1))⟩
set_option maxHeartbeats 8000000 in
set_option maxRecDepth 100000 in
theorem Of_13 (h a b c d : Int) (A6 : Option Addr) (c6 : Nat) (l6 : List Int) (A7 : Option Addr) (c7 : Nat) (l7 : List S60) (w : World) (hr6 : Kd.C (Kd.int .i64) w A6 l6.length l6) (hc6 : l6.length ≤ c6) (hr7 : Kd.C k60 w A7 l7.length l7) (hc7 : l7.length ≤ c7) (hl6 : l6.length ≤ 5000) (hl7 : l7.length ≤ 1100) :
    Calls Try.prog 12 #[.agg #[.int .i64 13, .int .i64 h, .int .i64 a, .int .i64 b, .int .i64 c, .int .i64 d, .slice A6 l6.length c6, .slice A7 l7.length c7]] w fun e w' => e = .returned (.tuple #[.iface 67 (.agg #[.int .i64 a, .int .i64 b, .int .i64 c, .int .i64 d]), .int .i64 0]) ∧ Below w.heap.size w w' := by
  have hu25 := Try.underlying25
  have H6 := Aside0.mk hr6
  have C6 := Aside0.mk hc6
  have H7 := Aside0.mk hr7
  have C7 := Aside0.mk hc7
  have L6 := Aside0.mk hl6
  have L7 := Aside0.mk hl7
  clear hr6 hc6 hr7 hc7 hl6 hl7
  go_enter Try.func12, Try.ntmps12
  go_wp2_with (first | (go_at_call 11; go_must (refine (own_13 h a b c d A6 c6 l6 A7 c7 l7 _ (Kd.C_below H6.out (below_alloc (Below.refl _ _) _)) C6.out (Kd.C_below H7.out (below_alloc (Below.refl _ _) _)) C7.out L6.out L7.out).mono ?_; rintro e w2 ⟨v6, v7, rfl, hR6, hR7, hb2⟩; have RES2 := Aside0.mk (blk_below (blk_new w _) hb2); have HB2 := Aside0.mk (below_step (below_alloc (Below.refl _ _) _) hb2); obtain ⟨A6_, c6_, rfl⟩ := Kd.R_slice hR6; obtain ⟨A7_, c7_, rfl⟩ := Kd.R_slice hR7; have HR6 := Aside0.mk (R_up hR6 (blk_lt (blk_new w _)) (below_size (below_alloc (Below.refl _ _) _))); have HR7 := Aside0.mk (R_up hR7 (blk_lt (blk_new w _)) (below_size (below_alloc (Below.refl _ _) _))); clear hR6 hR7 hb2; have ho0 := (blk_cell RES2.out 0).trans rfl; have hp0 := blk_frozen RES2.out 0; have ho1 := (blk_cell RES2.out 1).trans rfl; have hp1 := blk_frozen RES2.out 1; have ho2 := (blk_cell RES2.out 2).trans rfl; have hp2 := blk_frozen RES2.out 2; have ho3 := (blk_cell RES2.out 3).trans rfl; have hp3 := blk_frozen RES2.out 3; have ho4 := (blk_cell RES2.out 4).trans rfl; have hp4 := blk_frozen RES2.out 4; have ho5 := (blk_cell RES2.out 5).trans rfl; have hp5 := blk_frozen RES2.out 5; have ho6 := (blk_cell RES2.out 6).trans rfl; have hp6 := blk_frozen RES2.out 6; have ho7 := (blk_cell RES2.out 7).trans rfl; have hp7 := blk_frozen RES2.out 7)))
  go_ret2
  exact ⟨rfl, by repeat (first | (with_reducible exact HB2.out) | (with_reducible refine below8 ?_ (Nat.le_refl _)) | (with_reducible apply pw_below_drewN) | (with_reducible apply below_drew1))⟩
set_option maxHeartbeats 8000000 in
set_option maxRecDepth 100000 in
theorem Of_14 (h a b c d : Int) (A6 : Option Addr) (c6 : Nat) (l6 : List Int) (A7 : Option Addr) (c7 : Nat) (l7 : List S60) (w : World) (hr6 : Kd.C (Kd.int .i64) w A6 l6.length l6) (hc6 : l6.length ≤ c6) (hr7 : Kd.C k60 w A7 l7.length l7) (hc7 : l7.length ≤ c7) (hl6 : l6.length ≤ 5000) (hl7 : l7.length ≤ 1100) :
    Calls Try.prog 12 #[.agg #[.int .i64 14, .int .i64 h, .int .i64 a, .int .i64 b, .int .i64 c, .int .i64 d, .slice A6 l6.length c6, .slice A7 l7.length c7]] w fun e w' => e = .returned (.tuple #[.iface 49 (.agg #[.int .i64 h, .int .i64 a, .int .i64 b, .int .i64 c]), .int .i64 0]) ∧ Below w.heap.size w w' := by
  have hu25 := Try.underlying25
  have H6 := Aside0.mk hr6
  have C6 := Aside0.mk hc6
  have H7 := Aside0.mk hr7
  have C7 := Aside0.mk hc7
  have L6 := Aside0.mk hl6
  have L7 := Aside0.mk hl7
  clear hr6 hc6 hr7 hc7 hl6 hl7
  go_enter Try.func12, Try.ntmps12
  go_wp2_with (first | (go_at_call 11; go_must (refine (own_14 h a b c d A6 c6 l6 A7 c7 l7 _ (Kd.C_below H6.out (below_alloc (Below.refl _ _) _)) C6.out (Kd.C_below H7.out (below_alloc (Below.refl _ _) _)) C7.out L6.out L7.out).mono ?_; rintro e w2 ⟨v6, v7, rfl, hR6, hR7, hb2⟩; have RES2 := Aside0.mk (blk_below (blk_new w _) hb2); have HB2 := Aside0.mk (below_step (below_alloc (Below.refl _ _) _) hb2); obtain ⟨A6_, c6_, rfl⟩ := Kd.R_slice hR6; obtain ⟨A7_, c7_, rfl⟩ := Kd.R_slice hR7; have HR6 := Aside0.mk (R_up hR6 (blk_lt (blk_new w _)) (below_size (below_alloc (Below.refl _ _) _))); have HR7 := Aside0.mk (R_up hR7 (blk_lt (blk_new w _)) (below_size (below_alloc (Below.refl _ _) _))); clear hR6 hR7 hb2; have ho0 := (blk_cell RES2.out 0).trans rfl; have hp0 := blk_frozen RES2.out 0; have ho1 := (blk_cell RES2.out 1).trans rfl; have hp1 := blk_frozen RES2.out 1; have ho2 := (blk_cell RES2.out 2).trans rfl; have hp2 := blk_frozen RES2.out 2; have ho3 := (blk_cell RES2.out 3).trans rfl; have hp3 := blk_frozen RES2.out 3; have ho4 := (blk_cell RES2.out 4).trans rfl; have hp4 := blk_frozen RES2.out 4; have ho5 := (blk_cell RES2.out 5).trans rfl; have hp5 := blk_frozen RES2.out 5; have ho6 := (blk_cell RES2.out 6).trans rfl; have hp6 := blk_frozen RES2.out 6; have ho7 := (blk_cell RES2.out 7).trans rfl; have hp7 := blk_frozen RES2.out 7)))
  go_ret2
  exact ⟨rfl, by repeat (first | (with_reducible exact HB2.out) | (with_reducible refine below8 ?_ (Nat.le_refl _)) | (with_reducible apply pw_below_drewN) | (with_reducible apply below_drew1))⟩
set_option maxHeartbeats 8000000 in
set_option maxRecDepth 100000 in
theorem Of_15 (h a b c d : Int) (A6 : Option Addr) (c6 : Nat) (l6 : List Int) (A7 : Option Addr) (c7 : Nat) (l7 : List S60) (w : World) (hr6 : Kd.C (Kd.int .i64) w A6 l6.length l6) (hc6 : l6.length ≤ c6) (hr7 : Kd.C k60 w A7 l7.length l7) (hc7 : l7.length ≤ c7) (hl6 : l6.length ≤ 5000) (hl7 : l7.length ≤ 1100) :
    Calls Try.prog 12 #[.agg #[.int .i64 15, .int .i64 h, .int .i64 a, .int .i64 b, .int .i64 c, .int .i64 d, .slice A6 l6.length c6, .slice A7 l7.length c7]] w fun e w' => e = .returned (.tuple #[.iface 34 (.agg #[.int .i64 15, .int .i64 0]), .int .i64 0]) ∧ Below w.heap.size w w' := by
  have hu25 := Try.underlying25
  have H6 := Aside0.mk hr6
  have C6 := Aside0.mk hc6
  have H7 := Aside0.mk hr7
  have C7 := Aside0.mk hc7
  have L6 := Aside0.mk hl6
  have L7 := Aside0.mk hl7
  clear hr6 hc6 hr7 hc7 hl6 hl7
  go_enter Try.func12, Try.ntmps12
  go_wp2_with (first | (go_at_call 11; go_must (refine (own_15 h a b c d A6 c6 l6 A7 c7 l7 _ (Kd.C_below H6.out (below_alloc (Below.refl _ _) _)) C6.out (Kd.C_below H7.out (below_alloc (Below.refl _ _) _)) C7.out L6.out L7.out).mono ?_; rintro e w2 ⟨v6, v7, rfl, hR6, hR7, hb2⟩; have RES2 := Aside0.mk (blk_below (blk_new w _) hb2); have HB2 := Aside0.mk (below_step (below_alloc (Below.refl _ _) _) hb2); obtain ⟨A6_, c6_, rfl⟩ := Kd.R_slice hR6; obtain ⟨A7_, c7_, rfl⟩ := Kd.R_slice hR7; have HR6 := Aside0.mk (R_up hR6 (blk_lt (blk_new w _)) (below_size (below_alloc (Below.refl _ _) _))); have HR7 := Aside0.mk (R_up hR7 (blk_lt (blk_new w _)) (below_size (below_alloc (Below.refl _ _) _))); clear hR6 hR7 hb2; have ho0 := (blk_cell RES2.out 0).trans rfl; have hp0 := blk_frozen RES2.out 0; have ho1 := (blk_cell RES2.out 1).trans rfl; have hp1 := blk_frozen RES2.out 1; have ho2 := (blk_cell RES2.out 2).trans rfl; have hp2 := blk_frozen RES2.out 2; have ho3 := (blk_cell RES2.out 3).trans rfl; have hp3 := blk_frozen RES2.out 3; have ho4 := (blk_cell RES2.out 4).trans rfl; have hp4 := blk_frozen RES2.out 4; have ho5 := (blk_cell RES2.out 5).trans rfl; have hp5 := blk_frozen RES2.out 5; have ho6 := (blk_cell RES2.out 6).trans rfl; have hp6 := blk_frozen RES2.out 6; have ho7 := (blk_cell RES2.out 7).trans rfl; have hp7 := blk_frozen RES2.out 7)))
  go_ret2
  exact ⟨rfl, by repeat (first | (with_reducible exact HB2.out) | (with_reducible refine below8 ?_ (Nat.le_refl _)) | (with_reducible apply pw_below_drewN) | (with_reducible apply below_drew1))⟩
set_option maxHeartbeats 8000000 in
set_option maxRecDepth 100000 in
theorem Of_16 (h a b c d : Int) (A6 : Option Addr) (c6 : Nat) (l6 : List Int) (A7 : Option Addr) (c7 : Nat) (l7 : List S60) (w : World) (hr6 : Kd.C (Kd.int .i64) w A6 l6.length l6) (hc6 : l6.length ≤ c6) (hr7 : Kd.C k60 w A7 l7.length l7) (hc7 : l7.length ≤ c7) (hl6 : l6.length ≤ 5000) (hl7 : l7.length ≤ 1100) :
    Calls Try.prog 12 #[.agg #[.int .i64 16, .int .i64 h, .int .i64 a, .int .i64 b, .int .i64 c, .int .i64 d, .slice A6 l6.length c6, .slice A7 l7.length c7]] w fun e w' => e = .returned (.tuple #[.iface 34 (.agg #[.int .i64 16, .int .i64 a]), .int .i64 0]) ∧ Below w.heap.size w w' := by
  have hu25 := Try.underlying25
  have H6 := Aside0.mk hr6
  have C6 := Aside0.mk hc6
  have H7 := Aside0.mk hr7
  have C7 := Aside0.mk hc7
  have L6 := Aside0.mk hl6
  have L7 := Aside0.mk hl7
  clear hr6 hc6 hr7 hc7 hl6 hl7
  go_enter Try.func12, Try.ntmps12
  go_wp2_with (first | (go_at_call 11; go_must (refine (own_16 h a b c d A6 c6 l6 A7 c7 l7 _ (Kd.C_below H6.out (below_alloc (Below.refl _ _) _)) C6.out (Kd.C_below H7.out (below_alloc (Below.refl _ _) _)) C7.out L6.out L7.out).mono ?_; rintro e w2 ⟨v6, v7, rfl, hR6, hR7, hb2⟩; have RES2 := Aside0.mk (blk_below (blk_new w _) hb2); have HB2 := Aside0.mk (below_step (below_alloc (Below.refl _ _) _) hb2); obtain ⟨A6_, c6_, rfl⟩ := Kd.R_slice hR6; obtain ⟨A7_, c7_, rfl⟩ := Kd.R_slice hR7; have HR6 := Aside0.mk (R_up hR6 (blk_lt (blk_new w _)) (below_size (below_alloc (Below.refl _ _) _))); have HR7 := Aside0.mk (R_up hR7 (blk_lt (blk_new w _)) (below_size (below_alloc (Below.refl _ _) _))); clear hR6 hR7 hb2; have ho0 := (blk_cell RES2.out 0).trans rfl; have hp0 := blk_frozen RES2.out 0; have ho1 := (blk_cell RES2.out 1).trans rfl; have hp1 := blk_frozen RES2.out 1; have ho2 := (blk_cell RES2.out 2).trans rfl; have hp2 := blk_frozen RES2.out 2; have ho3 := (blk_cell RES2.out 3).trans rfl; have hp3 := blk_frozen RES2.out 3; have ho4 := (blk_cell RES2.out 4).trans rfl; have hp4 := blk_frozen RES2.out 4; have ho5 := (blk_cell RES2.out 5).trans rfl; have hp5 := blk_frozen RES2.out 5; have ho6 := (blk_cell RES2.out 6).trans rfl; have hp6 := blk_frozen RES2.out 6; have ho7 := (blk_cell RES2.out 7).trans rfl; have hp7 := blk_frozen RES2.out 7)))
  go_ret2
  exact ⟨rfl, by repeat (first | (with_reducible exact HB2.out) | (with_reducible refine below8 ?_ (Nat.le_refl _)) | (with_reducible apply pw_below_drewN) | (with_reducible apply below_drew1))⟩
set_option maxHeartbeats 8000000 in
set_option maxRecDepth 100000 in
theorem Of_17 (h a b c d : Int) (A6 : Option Addr) (c6 : Nat) (l6 : List Int) (A7 : Option Addr) (c7 : Nat) (l7 : List S60) (w : World) (hr6 : Kd.C (Kd.int .i64) w A6 l6.length l6) (hc6 : l6.length ≤ c6) (hr7 : Kd.C k60 w A7 l7.length l7) (hc7 : l7.length ≤ c7) (hl6 : l6.length ≤ 5000) (hl7 : l7.length ≤ 1100) :
    Calls Try.prog 12 #[.agg #[.int .i64 17, .int .i64 h, .int .i64 a, .int .i64 b, .int .i64 c, .int .i64 d, .slice A6 l6.length c6, .slice A7 l7.length c7]] w fun e w' => e = .returned (.tuple #[.iface 34 (.agg #[.int .i64 17, .int .i64 a]), .int .i64 0]) ∧ Below w.heap.size w w' := by
  have hu25 := Try.underlying25
  have H6 := Aside0.mk hr6
  have C6 := Aside0.mk hc6
  have H7 := Aside0.mk hr7
  have C7 := Aside0.mk hc7
  have L6 := Aside0.mk hl6
  have L7 := Aside0.mk hl7
  clear hr6 hc6 hr7 hc7 hl6 hl7
  go_enter Try.func12, Try.ntmps12
  go_wp2_with (first | (go_at_call 11; go_must (refine (own_17 h a b c d A6 c6 l6 A7 c7 l7 _ (Kd.C_below H6.out (below_alloc (Below.refl _ _) _)) C6.out (Kd.C_below H7.out (below_alloc (Below.refl _ _) _)) C7.out L6.out L7.out).mono ?_; rintro e w2 ⟨v6, v7, rfl, hR6, hR7, hb2⟩; have RES2 := Aside0.mk (blk_below (blk_new w _) hb2); have HB2 := Aside0.mk (below_step (below_alloc (Below.refl _ _) _) hb2); obtain ⟨A6_, c6_, rfl⟩ := Kd.R_slice hR6; obtain ⟨A7_, c7_, rfl⟩ := Kd.R_slice hR7; have HR6 := Aside0.mk (R_up hR6 (blk_lt (blk_new w _)) (below_size (below_alloc (Below.refl _ _) _))); have HR7 := Aside0.mk (R_up hR7 (blk_lt (blk_new w _)) (below_size (below_alloc (Below.refl _ _) _))); clear hR6 hR7 hb2; have ho0 := (blk_cell RES2.out 0).trans rfl; have hp0 := blk_frozen RES2.out 0; have ho1 := (blk_cell RES2.out 1).trans rfl; have hp1 := blk_frozen RES2.out 1; have ho2 := (blk_cell RES2.out 2).trans rfl; have hp2 := blk_frozen RES2.out 2; have ho3 := (blk_cell RES2.out 3).trans rfl; have hp3 := blk_frozen RES2.out 3; have ho4 := (blk_cell RES2.out 4).trans rfl; have hp4 := blk_frozen RES2.out 4; have ho5 := (blk_cell RES2.out 5).trans rfl; have hp5 := blk_frozen RES2.out 5; have ho6 := (blk_cell RES2.out 6).trans rfl; have hp6 := blk_frozen RES2.out 6; have ho7 := (blk_cell RES2.out 7).trans rfl; have hp7 := blk_frozen RES2.out 7)))
  go_ret2
  exact ⟨rfl, by repeat (first | (with_reducible exact HB2.out) | (with_reducible refine below8 ?_ (Nat.le_refl _)) | (with_reducible apply pw_below_drewN) | (with_reducible apply below_drew1))⟩
set_option maxHeartbeats 8000000 in
set_option maxRecDepth 100000 in
theorem Of_18 (h a b c d : Int) (A6 : Option Addr) (c6 : Nat) (l6 : List Int) (A7 : Option Addr) (c7 : Nat) (l7 : List S60) (w : World) (hr6 : Kd.C (Kd.int .i64) w A6 l6.length l6) (hc6 : l6.length ≤ c6) (hr7 : Kd.C k60 w A7 l7.length l7) (hc7 : l7.length ≤ c7) (hl6 : l6.length ≤ 5000) (hl7 : l7.length ≤ 1100) :
    Calls Try.prog 12 #[.agg #[.int .i64 18, .int .i64 h, .int .i64 a, .int .i64 b, .int .i64 c, .int .i64 d, .slice A6 l6.length c6, .slice A7 l7.length c7]] w fun e w' => e = .returned (.tuple #[.iface 69 (.agg #[.int .i64 h, .int .i64 a, .int .i64 b, .int .i64 c, .int .i64 d]), .int .i64 0]) ∧ Below w.heap.size w w' := by
  have hu25 := Try.underlying25
  have H6 := Aside0.mk hr6
  have C6 := Aside0.mk hc6
  have H7 := Aside0.mk hr7
  have C7 := Aside0.mk hc7
  have L6 := Aside0.mk hl6
  have L7 := Aside0.mk hl7
  clear hr6 hc6 hr7 hc7 hl6 hl7
  go_enter Try.func12, Try.ntmps12
  go_wp2_with (first | (go_at_call 11; go_must (refine (own_18 h a b c d A6 c6 l6 A7 c7 l7 _ (Kd.C_below H6.out (below_alloc (Below.refl _ _) _)) C6.out (Kd.C_below H7.out (below_alloc (Below.refl _ _) _)) C7.out L6.out L7.out).mono ?_; rintro e w2 ⟨v6, v7, rfl, hR6, hR7, hb2⟩; have RES2 := Aside0.mk (blk_below (blk_new w _) hb2); have HB2 := Aside0.mk (below_step (below_alloc (Below.refl _ _) _) hb2); obtain ⟨A6_, c6_, rfl⟩ := Kd.R_slice hR6; obtain ⟨A7_, c7_, rfl⟩ := Kd.R_slice hR7; have HR6 := Aside0.mk (R_up hR6 (blk_lt (blk_new w _)) (below_size (below_alloc (Below.refl _ _) _))); have HR7 := Aside0.mk (R_up hR7 (blk_lt (blk_new w _)) (below_size (below_alloc (Below.refl _ _) _))); clear hR6 hR7 hb2; have ho0 := (blk_cell RES2.out 0).trans rfl; have hp0 := blk_frozen RES2.out 0; have ho1 := (blk_cell RES2.out 1).trans rfl; have hp1 := blk_frozen RES2.out 1; have ho2 := (blk_cell RES2.out 2).trans rfl; have hp2 := blk_frozen RES2.out 2; have ho3 := (blk_cell RES2.out 3).trans rfl; have hp3 := blk_frozen RES2.out 3; have ho4 := (blk_cell RES2.out 4).trans rfl; have hp4 := blk_frozen RES2.out 4; have ho5 := (blk_cell RES2.out 5).trans rfl; have hp5 := blk_frozen RES2.out 5; have ho6 := (blk_cell RES2.out 6).trans rfl; have hp6 := blk_frozen RES2.out 6; have ho7 := (blk_cell RES2.out 7).trans rfl; have hp7 := blk_frozen RES2.out 7)))
  go_ret2
  exact ⟨rfl, by repeat (first | (with_reducible exact HB2.out) | (with_reducible refine below8 ?_ (Nat.le_refl _)) | (with_reducible apply pw_below_drewN) | (with_reducible apply below_drew1))⟩
set_option maxHeartbeats 8000000 in
set_option maxRecDepth 100000 in
theorem Of_19 (h a b c d : Int) (A6 : Option Addr) (c6 : Nat) (l6 : List Int) (A7 : Option Addr) (c7 : Nat) (l7 : List S60) (w : World) (hr6 : Kd.C (Kd.int .i64) w A6 l6.length l6) (hc6 : l6.length ≤ c6) (hr7 : Kd.C k60 w A7 l7.length l7) (hc7 : l7.length ≤ c7) (hl6 : l6.length ≤ 5000) (hl7 : l7.length ≤ 1100) :
    Calls Try.prog 12 #[.agg #[.int .i64 19, .int .i64 h, .int .i64 a, .int .i64 b, .int .i64 c, .int .i64 d, .slice A6 l6.length c6, .slice A7 l7.length c7]] w fun e w' => e = .returned (.tuple #[.iface 34 (.agg #[.int .i64 19, .int .i64 0]), .int .i64 0]) ∧ Below w.heap.size w w' := by
  have hu25 := Try.underlying25
  have H6 := Aside0.mk hr6
  have C6 := Aside0.mk hc6
  have H7 := Aside0.mk hr7
  have C7 := Aside0.mk hc7
  have L6 := Aside0.mk hl6
  have L7 := Aside0.mk hl7
  clear hr6 hc6 hr7 hc7 hl6 hl7
  go_enter Try.func12, Try.ntmps12
  go_wp2_with (first | (go_at_call 11; go_must (refine (own_19 h a b c d A6 c6 l6 A7 c7 l7 _ (Kd.C_below H6.out (below_alloc (Below.refl _ _) _)) C6.out (Kd.C_below H7.out (below_alloc (Below.refl _ _) _)) C7.out L6.out L7.out).mono ?_; rintro e w2 ⟨v6, v7, rfl, hR6, hR7, hb2⟩; have RES2 := Aside0.mk (blk_below (blk_new w _) hb2); have HB2 := Aside0.mk (below_step (below_alloc (Below.refl _ _) _) hb2); obtain ⟨A6_, c6_, rfl⟩ := Kd.R_slice hR6; obtain ⟨A7_, c7_, rfl⟩ := Kd.R_slice hR7; have HR6 := Aside0.mk (R_up hR6 (blk_lt (blk_new w _)) (below_size (below_alloc (Below.refl _ _) _))); have HR7 := Aside0.mk (R_up hR7 (blk_lt (blk_new w _)) (below_size (below_alloc (Below.refl _ _) _))); clear hR6 hR7 hb2; have ho0 := (blk_cell RES2.out 0).trans rfl; have hp0 := blk_frozen RES2.out 0; have ho1 := (blk_cell RES2.out 1).trans rfl; have hp1 := blk_frozen RES2.out 1; have ho2 := (blk_cell RES2.out 2).trans rfl; have hp2 := blk_frozen RES2.out 2; have ho3 := (blk_cell RES2.out 3).trans rfl; have hp3 := blk_frozen RES2.out 3; have ho4 := (blk_cell RES2.out 4).trans rfl; have hp4 := blk_frozen RES2.out 4; have ho5 := (blk_cell RES2.out 5).trans rfl; have hp5 := blk_frozen RES2.out 5; have ho6 := (blk_cell RES2.out 6).trans rfl; have hp6 := blk_frozen RES2.out 6; have ho7 := (blk_cell RES2.out 7).trans rfl; have hp7 := blk_frozen RES2.out 7)))
  go_ret2
  exact ⟨rfl, by repeat (first | (with_reducible exact HB2.out) | (with_reducible refine below8 ?_ (Nat.le_refl _)) | (with_reducible apply pw_below_drewN) | (with_reducible apply below_drew1))⟩
end Go.Proofs.Ytcadgbeablpnmaa.PCmd
