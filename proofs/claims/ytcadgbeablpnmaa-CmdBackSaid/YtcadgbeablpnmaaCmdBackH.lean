/- The law CmdBack, walked by hand, kind by kind. -/
import Derived.Test.YtcadgbeablpnmaaCmdMore
import Derived.Outline
import Derived.WalkSpells
import Derived.Deep.RegionHeld3
namespace Go.Proofs.Ytcadgbeablpnmaa.PCmd
open Go.RowKit Go.Proofs.YtcadgbeablpnmaaW.PrintWords Go.Proofs.YtcadgbeablpnmaaW.PrintLast Go.Proofs.YtcadgbeablpnmaaW.PrintMore
attribute [local go_sem] max2_int min2_int max_two min_two max_three min_three max_four min_four   -- for this text's walks alone
set_option linter.unusedVariables false
set_option linter.unusedSimpArgs false

attribute [local go_sem] alloc_drewN setCell_drewN
theorem blk8 {W : World} {g t : Nat} {v0 v1 v2 v3 v4 v5 v6 v7 : Value} (h : W.heap[g]? = some (.cells #[v0, v1, v2, v3, v4, v5, v6, v7] t (0, 0))) : g < W.heap.size ∧ g ≠ W.heap.size ∧ W.cell? ⟨g, 0, none⟩ = some v0 ∧ W.cell? ⟨g, 1, none⟩ = some v1 ∧ W.cell? ⟨g, 2, none⟩ = some v2 ∧ W.cell? ⟨g, 3, none⟩ = some v3 ∧ W.cell? ⟨g, 4, none⟩ = some v4 ∧ W.cell? ⟨g, 5, none⟩ = some v5 ∧ W.cell? ⟨g, 6, none⟩ = some v6 ∧ W.cell? ⟨g, 7, none⟩ = some v7 :=
  ⟨blk_lt h, Nat.ne_of_lt (blk_lt h), (blk_cell h 0).trans rfl, (blk_cell h 1).trans rfl, (blk_cell h 2).trans rfl, (blk_cell h 3).trans rfl, (blk_cell h 4).trans rfl, (blk_cell h 5).trans rfl, (blk_cell h 6).trans rfl, (blk_cell h 7).trans rfl⟩
theorem blk_x {W W1 w1 : World} {g : Nat} {o : Obj} (h : W.heap[g]? = some o) (h1 : Below W.heap.size W W1) (hb : Below W1.heap.size W1 w1) : w1.heap[g]? = some o := blk_below (blk_below h h1) hb
theorem blk_z {W w1 : World} {g : Nat} {o : Obj} (h : W.heap[g]? = some o) (z : ∃ W1, Below W.heap.size W W1 ∧ Below W1.heap.size W1 w1) : w1.heap[g]? = some o := by
  obtain ⟨W1, h1, h2⟩ := z
  exact blk_x h h1 h2
theorem below_z {w W w1 : World} (h : Below w.heap.size w W) (z : ∃ W1, Below W.heap.size W W1 ∧ Below W1.heap.size W1 w1) : Below w.heap.size w w1 := by
  obtain ⟨W1, h1, h2⟩ := z
  exact below_step (below_step h h1) h2
theorem sl_z {α : Type} {d : Kd α} {W w1 : World} {v : Value} {l : List α} (h : Sl d W v l) (z : ∃ W1, Below W.heap.size W W1 ∧ Below W1.heap.size W1 w1) : Sl d w1 v l := by
  obtain ⟨W1, h1, h2⟩ := z
  exact (h.below h1).below h2
theorem sl_x {α : Type} {d : Kd α} {W W1 w1 : World} {v : Value} {l : List α} (h : Sl d W v l) (h1 : Below W.heap.size W W1) (hb : Below W1.heap.size W1 w1) : Sl d w1 v l := (h.below h1).below hb
set_option maxHeartbeats 8000000 in
set_option maxRecDepth 100000 in
theorem Op_32 (x0 x1 x2 x3 : Int) (A6 : Option Addr) (n6 c6 : Nat) (A7 : Option Addr) (n7 c7 : Nat) (w : World) : Calls Try.prog 37 #[.agg #[.int .i64 x0, .int .i64 x1, .int .i64 x2, .int .i64 x3, .slice A6 n6 c6, .slice A7 n7 c7]] w fun e w' => e = .returned (.int .i64 x0) ∧ Below w.heap.size w w' := by
  have hu25 := Try.underlying25
  have hu := Try.underlying32
  go_enter Try.func37, Try.ntmps37
  go_wp2
  go_ret
  exact ⟨rfl, by repeat (first | (with_reducible exact Below.refl _ _) | (with_reducible apply below_alloc) | (with_reducible apply pw_below_drewN) | (with_reducible apply below_drew1))⟩
set_option maxHeartbeats 8000000 in
set_option maxRecDepth 100000 in
theorem Op_34 (x0 x1 : Int) (w : World) : Calls Try.prog 38 #[.agg #[.int .i64 x0, .int .i64 x1]] w fun e w' => e = .returned (.int .i64 x0) ∧ Below w.heap.size w w' := by
  have hu25 := Try.underlying25
  have hu := Try.underlying34
  go_enter Try.func38, Try.ntmps38
  go_wp2
  go_ret
  exact ⟨rfl, by repeat (first | (with_reducible exact Below.refl _ _) | (with_reducible apply below_alloc) | (with_reducible apply pw_below_drewN) | (with_reducible apply below_drew1))⟩
set_option maxHeartbeats 8000000 in
set_option maxRecDepth 100000 in
theorem Op_36 (x0 x1 x2 x3 x4 x5 : Int) (A6 : Option Addr) (n6 c6 : Nat) (A7 : Option Addr) (n7 c7 : Nat) (w : World) : Calls Try.prog 39 #[.agg #[.int .i64 x0, .int .i64 x1, .int .i64 x2, .int .i64 x3, .int .i64 x4, .int .i64 x5, .slice A6 n6 c6, .slice A7 n7 c7]] w fun e w' => e = .returned (.int .i64 x0) ∧ Below w.heap.size w w' := by
  have hu25 := Try.underlying25
  have hu := Try.underlying36
  go_enter Try.func39, Try.ntmps39
  go_wp2
  go_ret
  exact ⟨rfl, by repeat (first | (with_reducible exact Below.refl _ _) | (with_reducible apply below_alloc) | (with_reducible apply pw_below_drewN) | (with_reducible apply below_drew1))⟩
set_option maxHeartbeats 8000000 in
set_option maxRecDepth 100000 in
theorem Op_49 (x0 x1 x2 x3 : Int) (w : World) : Calls Try.prog 40 #[.agg #[.int .i64 x0, .int .i64 x1, .int .i64 x2, .int .i64 x3]] w fun e w' => e = .returned (.int .i64 14) ∧ Below w.heap.size w w' := by
  have hu25 := Try.underlying25
  have hu := Try.underlying49
  go_enter Try.func40, Try.ntmps40
  go_wp2
  go_ret
  exact ⟨rfl, by repeat (first | (with_reducible exact Below.refl _ _) | (with_reducible apply below_alloc) | (with_reducible apply pw_below_drewN) | (with_reducible apply below_drew1))⟩
set_option maxHeartbeats 8000000 in
set_option maxRecDepth 100000 in
theorem Op_67 (x0 x1 x2 x3 : Int) (w : World) : Calls Try.prog 41 #[.agg #[.int .i64 x0, .int .i64 x1, .int .i64 x2, .int .i64 x3]] w fun e w' => e = .returned (.int .i64 13) ∧ Below w.heap.size w w' := by
  have hu25 := Try.underlying25
  have hu := Try.underlying67
  go_enter Try.func41, Try.ntmps41
  go_wp2
  go_ret
  exact ⟨rfl, by repeat (first | (with_reducible exact Below.refl _ _) | (with_reducible apply below_alloc) | (with_reducible apply pw_below_drewN) | (with_reducible apply below_drew1))⟩
set_option maxHeartbeats 8000000 in
set_option maxRecDepth 100000 in
theorem Op_69 (x0 x1 x2 x3 x4 : Int) (w : World) : Calls Try.prog 42 #[.agg #[.int .i64 x0, .int .i64 x1, .int .i64 x2, .int .i64 x3, .int .i64 x4]] w fun e w' => e = .returned (.int .i64 18) ∧ Below w.heap.size w w' := by
  have hu25 := Try.underlying25
  have hu := Try.underlying69
  go_enter Try.func42, Try.ntmps42
  go_wp2
  go_ret
  exact ⟨rfl, by repeat (first | (with_reducible exact Below.refl _ _) | (with_reducible apply below_alloc) | (with_reducible apply pw_below_drewN) | (with_reducible apply below_drew1))⟩
theorem meth_32 (v : Value) (w : World) : (method 187 32 v "Op").run Try.prog w = .ok (37, v) w := by kernel_rfl
theorem meth_34 (v : Value) (w : World) : (method 187 34 v "Op").run Try.prog w = .ok (38, v) w := by kernel_rfl
theorem meth_36 (v : Value) (w : World) : (method 187 36 v "Op").run Try.prog w = .ok (39, v) w := by kernel_rfl
theorem meth_49 (v : Value) (w : World) : (method 187 49 v "Op").run Try.prog w = .ok (40, v) w := by kernel_rfl
theorem meth_67 (v : Value) (w : World) : (method 187 67 v "Op").run Try.prog w = .ok (41, v) w := by kernel_rfl
theorem meth_69 (v : Value) (w : World) : (method 187 69 v "Op").run Try.prog w = .ok (42, v) w := by kernel_rfl
attribute [local go_sem] meth_32 meth_34 meth_36 meth_49 meth_67 meth_69
set_option maxHeartbeats 8000000 in
set_option maxRecDepth 100000 in
theorem back_lo (op h a b c d : Int) (A6 : Option Addr) (c6 : Nat) (l6 : List Int) (A7 : Option Addr) (c7 : Nat) (l7 : List S60) (w : World) (hr6 : Kd.C (Kd.int .i64) w A6 l6.length l6) (hc6 : l6.length ≤ c6) (hr7 : Kd.C k60 w A7 l7.length l7) (hc7 : l7.length ≤ c7) (hl6 : l6.length ≤ 5000) (hl7 : l7.length ≤ 1100) (hop : op < 1) :
    Calls Try.prog 4 #[.agg #[.int .i64 op, .int .i64 h, .int .i64 a, .int .i64 b, .int .i64 c, .int .i64 d, .slice A6 l6.length c6, .slice A7 l7.length c7]] w fun e w' => e = .returned (.bool true) ∧ Below w.heap.size w w' := by
  have hu25 := Try.underlying25
  have OP := Aside0.mk (show op < 1 ∨ 19 < op by omega)
  have d0 : decide (op < 1) = true := decide_eq_true hop
  have LY := Aside0.mk (show decide (l6.length ≤ 5000 ∧ l7.length ≤ 1100) = true from decide_eq_true ⟨hl6, hl7⟩)
  have S6 := Aside0.mk (Sl.mk hr6 hc6)
  have S7 := Aside0.mk (Sl.mk hr7 hc7)
  have H6 := Aside0.mk hr6
  have C6 := Aside0.mk hc6
  have H7 := Aside0.mk hr7
  have C7 := Aside0.mk hc7
  have L6 := Aside0.mk hl6
  have L7 := Aside0.mk hl7
  clear hop
  clear hr6 hc6 hr7 hc7 hl6 hl7
  go_enter Try.func4, Try.ntmps4
  go_wp2_with (first | (go_at_call 6; go_must (refine (Light_yes op h a b c d l6 l7 _ _ _ (S6.out.below (below_alloc (Below.refl _ _) _)) (S7.out.below (below_alloc (Below.refl _ _) _)) true LY.out).mono ?_; rintro e w1 ⟨rfl, hb⟩; have HB1 := Aside0.mk (below_step (below_alloc (Below.refl _ _) _) hb); have P1a := Aside0.mk (blk_below (blk_new w _) hb); clear hb; obtain ⟨hclt, hcne, hc0, hc1, hc2, hc3, hc4, hc5, hc6, hc7⟩ := blk8 P1a.out)) | (go_at_call 11; (with_reducible refine (own_none op h a b c d A6 c6 l6 A7 c7 l7 _ OP.out).mono ?_); rintro e w2 ⟨rfl, hb⟩; have bz : ∃ W1, Below w1.heap.size w1 W1 ∧ Below W1.heap.size W1 w2 := ⟨_, (by repeat (first | (with_reducible exact Below.refl _ _) | (with_reducible apply below_alloc) | (with_reducible apply pw_below_drewN) | (with_reducible apply below_drew1))), hb⟩; have HB2 := Aside0.mk (below_z HB1.out bz); have P1b := Aside0.mk (blk_z P1a.out bz); clear hb bz HB1 P1a; clear hc0 hc1 hc2 hc3 hc4 hc5 hc6 hc7 hclt hcne; obtain ⟨hdlt, hdne, hd0, hd1, hd2, hd3, hd4, hd5, hd6, hd7⟩ := blk8 P1b.out) | (go_at_call 12; (with_reducible refine (Of_none op h a b c d A6 c6 l6 A7 c7 l7 _ OP.out).mono ?_); rintro e w3 ⟨rfl, hb⟩; have bz : ∃ W1, Below w2.heap.size w2 W1 ∧ Below W1.heap.size W1 w3 := ⟨_, (by repeat (first | (with_reducible exact Below.refl _ _) | (with_reducible apply below_alloc) | (with_reducible apply pw_below_drewN) | (with_reducible apply below_drew1))), hb⟩; have HB3 := Aside0.mk (below_z HB2.out bz); have P1c := Aside0.mk (blk_z P1b.out bz); have P3c := Aside0.mk (blk_below (blk_new w2 _) hb); clear hb bz HB2 P1b; clear hd0 hd1 hd2 hd3 hd4 hd5 hd6 hd7 hdlt hdne; obtain ⟨k1_lt, k1_ne, k1_0, k1_1, k1_2, k1_3, k1_4, k1_5, k1_6, k1_7⟩ := blk8 P1c.out; obtain ⟨k3_lt, k3_ne, k3_0, k3_1, k3_2, k3_3, k3_4, k3_5, k3_6, k3_7⟩ := blk8 P3c.out))
  go_region_held3 (fun w' => w'.cell? ⟨w.heap.size, 0, none⟩ = some (.int .i64 op) ∧ w'.cell? ⟨w.heap.size, 1, none⟩ = some (.int .i64 h) ∧ w'.cell? ⟨w.heap.size, 2, none⟩ = some (.int .i64 a) ∧ w'.cell? ⟨w.heap.size, 3, none⟩ = some (.int .i64 b) ∧ w'.cell? ⟨w.heap.size, 4, none⟩ = some (.int .i64 c) ∧ w'.cell? ⟨w.heap.size, 5, none⟩ = some (.int .i64 d) ∧ w'.cell? ⟨w.heap.size, 6, none⟩ = some (.slice A6 l6.length c6) ∧ w'.cell? ⟨w.heap.size, 7, none⟩ = some (.slice A7 l7.length c7) ∧ w'.cell? ⟨w2.heap.size, 0, none⟩ = some (.int .i64 0) ∧ w'.cell? ⟨w2.heap.size, 1, none⟩ = some (.int .i64 0) ∧ w'.cell? ⟨w2.heap.size, 2, none⟩ = some (.int .i64 0) ∧ w'.cell? ⟨w2.heap.size, 3, none⟩ = some (.int .i64 0) ∧ w'.cell? ⟨w2.heap.size, 4, none⟩ = some (.int .i64 0) ∧ w'.cell? ⟨w2.heap.size, 5, none⟩ = some (.int .i64 0) ∧ w'.cell? ⟨w2.heap.size, 6, none⟩ = some (.slice none 0 0) ∧ w'.cell? ⟨w2.heap.size, 7, none⟩ = some (.slice none 0 0)) (first | go_keep | ((repeat' apply And.intro) <;> assumption)) (first | (go_at_call 10; refine (rown_none op h a b c d A6 c6 l6 A7 c7 l7 _ OP.out).mono ?_; rintro e w4 ⟨rfl, hb⟩; have bz : ∃ W1, Below w3.heap.size w3 W1 ∧ Below W1.heap.size W1 w4 := ⟨_, (by repeat (first | (with_reducible exact Below.refl _ _) | (with_reducible apply below_alloc) | (with_reducible apply pw_below_drewN) | (with_reducible apply below_drew1))), hb⟩; have HB4 := Aside0.mk (below_z HB3.out bz); have P1d := Aside0.mk (blk_z P1c.out bz); have P3d := Aside0.mk (blk_z P3c.out bz); obtain ⟨k41_lt, k41_ne, k41_0, k41_1, k41_2, k41_3, k41_4, k41_5, k41_6, k41_7⟩ := blk8 P1d.out; obtain ⟨k43_lt, k43_ne, k43_0, k43_1, k43_2, k43_3, k43_4, k43_5, k43_6, k43_7⟩ := blk8 P3d.out; clear hb bz) | (go_at_call 9; refine (Same_eq 0 0 0 0 0 0 [] [] _ _ _ _ _ (Sl.nil _ _ _ _) (Sl.nil _ _ _ _) (Sl.nil _ _ _ _) (Sl.nil _ _ _ _) (by simp) (by simp)).mono ?_; rintro e w5 ⟨rfl, hb⟩; have bz : ∃ W1, Below w4.heap.size w4 W1 ∧ Below W1.heap.size W1 w5 := ⟨_, (by repeat (first | (with_reducible exact Below.refl _ _) | (with_reducible apply below_alloc) | (with_reducible apply pw_below_drewN) | (with_reducible apply below_drew1))), hb⟩; have HB5 := Aside0.mk (below_z HB4.out bz); have P1e := Aside0.mk (blk_z P1d.out bz); have P3e := Aside0.mk (blk_z P3d.out bz); obtain ⟨k51_lt, k51_ne, k51_0, k51_1, k51_2, k51_3, k51_4, k51_5, k51_6, k51_7⟩ := blk8 P1e.out; obtain ⟨k53_lt, k53_ne, k53_0, k53_1, k53_2, k53_3, k53_4, k53_5, k53_6, k53_7⟩ := blk8 P3e.out; clear hb bz))
  all_goals go_wp2_with (first | (go_at_call 7; (with_reducible refine (awake20 _).mono ?_); rintro e w6 ⟨rfl, hb⟩; have bz : ∃ W1, Below w5.heap.size w5 W1 ∧ Below W1.heap.size W1 w6 := ⟨_, (by repeat (first | (with_reducible exact Below.refl _ _) | (with_reducible apply below_alloc) | (with_reducible apply pw_below_drewN) | (with_reducible apply below_drew1))), hb⟩; have HB6 := Aside0.mk (below_z HB5.out bz); clear hb))
  all_goals (go_ret; exact ⟨rfl, by repeat (first | (with_reducible exact HB6.out) | (with_reducible apply pw_below_drewN) | (with_reducible apply below_drew1))⟩)
set_option maxHeartbeats 8000000 in
set_option maxRecDepth 100000 in
theorem back_hi (op h a b c d : Int) (A6 : Option Addr) (c6 : Nat) (l6 : List Int) (A7 : Option Addr) (c7 : Nat) (l7 : List S60) (w : World) (hr6 : Kd.C (Kd.int .i64) w A6 l6.length l6) (hc6 : l6.length ≤ c6) (hr7 : Kd.C k60 w A7 l7.length l7) (hc7 : l7.length ≤ c7) (hl6 : l6.length ≤ 5000) (hl7 : l7.length ≤ 1100) (hop : 19 < op) :
    Calls Try.prog 4 #[.agg #[.int .i64 op, .int .i64 h, .int .i64 a, .int .i64 b, .int .i64 c, .int .i64 d, .slice A6 l6.length c6, .slice A7 l7.length c7]] w fun e w' => e = .returned (.bool true) ∧ Below w.heap.size w w' := by
  have hu25 := Try.underlying25
  have OP := Aside0.mk (show op < 1 ∨ 19 < op by omega)
  have d0 : decide (op < 1) = false := decide_eq_false (by omega)
  have d1 : decide (19 < op) = true := decide_eq_true hop
  have LY := Aside0.mk (show decide (l6.length ≤ 5000 ∧ l7.length ≤ 1100) = true from decide_eq_true ⟨hl6, hl7⟩)
  have S6 := Aside0.mk (Sl.mk hr6 hc6)
  have S7 := Aside0.mk (Sl.mk hr7 hc7)
  have H6 := Aside0.mk hr6
  have C6 := Aside0.mk hc6
  have H7 := Aside0.mk hr7
  have C7 := Aside0.mk hc7
  have L6 := Aside0.mk hl6
  have L7 := Aside0.mk hl7
  clear hop
  clear hr6 hc6 hr7 hc7 hl6 hl7
  go_enter Try.func4, Try.ntmps4
  go_wp2_with (first | (go_at_call 6; go_must (refine (Light_yes op h a b c d l6 l7 _ _ _ (S6.out.below (below_alloc (Below.refl _ _) _)) (S7.out.below (below_alloc (Below.refl _ _) _)) true LY.out).mono ?_; rintro e w1 ⟨rfl, hb⟩; have HB1 := Aside0.mk (below_step (below_alloc (Below.refl _ _) _) hb); have P1a := Aside0.mk (blk_below (blk_new w _) hb); clear hb; obtain ⟨hclt, hcne, hc0, hc1, hc2, hc3, hc4, hc5, hc6, hc7⟩ := blk8 P1a.out)) | (go_at_call 11; (with_reducible refine (own_none op h a b c d A6 c6 l6 A7 c7 l7 _ OP.out).mono ?_); rintro e w2 ⟨rfl, hb⟩; have bz : ∃ W1, Below w1.heap.size w1 W1 ∧ Below W1.heap.size W1 w2 := ⟨_, (by repeat (first | (with_reducible exact Below.refl _ _) | (with_reducible apply below_alloc) | (with_reducible apply pw_below_drewN) | (with_reducible apply below_drew1))), hb⟩; have HB2 := Aside0.mk (below_z HB1.out bz); have P1b := Aside0.mk (blk_z P1a.out bz); clear hb bz HB1 P1a; clear hc0 hc1 hc2 hc3 hc4 hc5 hc6 hc7 hclt hcne; obtain ⟨hdlt, hdne, hd0, hd1, hd2, hd3, hd4, hd5, hd6, hd7⟩ := blk8 P1b.out) | (go_at_call 12; (with_reducible refine (Of_none op h a b c d A6 c6 l6 A7 c7 l7 _ OP.out).mono ?_); rintro e w3 ⟨rfl, hb⟩; have bz : ∃ W1, Below w2.heap.size w2 W1 ∧ Below W1.heap.size W1 w3 := ⟨_, (by repeat (first | (with_reducible exact Below.refl _ _) | (with_reducible apply below_alloc) | (with_reducible apply pw_below_drewN) | (with_reducible apply below_drew1))), hb⟩; have HB3 := Aside0.mk (below_z HB2.out bz); have P1c := Aside0.mk (blk_z P1b.out bz); have P3c := Aside0.mk (blk_below (blk_new w2 _) hb); clear hb bz HB2 P1b; clear hd0 hd1 hd2 hd3 hd4 hd5 hd6 hd7 hdlt hdne; obtain ⟨k1_lt, k1_ne, k1_0, k1_1, k1_2, k1_3, k1_4, k1_5, k1_6, k1_7⟩ := blk8 P1c.out; obtain ⟨k3_lt, k3_ne, k3_0, k3_1, k3_2, k3_3, k3_4, k3_5, k3_6, k3_7⟩ := blk8 P3c.out))
  go_region_held3 (fun w' => w'.cell? ⟨w.heap.size, 0, none⟩ = some (.int .i64 op) ∧ w'.cell? ⟨w.heap.size, 1, none⟩ = some (.int .i64 h) ∧ w'.cell? ⟨w.heap.size, 2, none⟩ = some (.int .i64 a) ∧ w'.cell? ⟨w.heap.size, 3, none⟩ = some (.int .i64 b) ∧ w'.cell? ⟨w.heap.size, 4, none⟩ = some (.int .i64 c) ∧ w'.cell? ⟨w.heap.size, 5, none⟩ = some (.int .i64 d) ∧ w'.cell? ⟨w.heap.size, 6, none⟩ = some (.slice A6 l6.length c6) ∧ w'.cell? ⟨w.heap.size, 7, none⟩ = some (.slice A7 l7.length c7) ∧ w'.cell? ⟨w2.heap.size, 0, none⟩ = some (.int .i64 0) ∧ w'.cell? ⟨w2.heap.size, 1, none⟩ = some (.int .i64 0) ∧ w'.cell? ⟨w2.heap.size, 2, none⟩ = some (.int .i64 0) ∧ w'.cell? ⟨w2.heap.size, 3, none⟩ = some (.int .i64 0) ∧ w'.cell? ⟨w2.heap.size, 4, none⟩ = some (.int .i64 0) ∧ w'.cell? ⟨w2.heap.size, 5, none⟩ = some (.int .i64 0) ∧ w'.cell? ⟨w2.heap.size, 6, none⟩ = some (.slice none 0 0) ∧ w'.cell? ⟨w2.heap.size, 7, none⟩ = some (.slice none 0 0)) (first | go_keep | ((repeat' apply And.intro) <;> assumption)) (first | (go_at_call 10; refine (rown_none op h a b c d A6 c6 l6 A7 c7 l7 _ OP.out).mono ?_; rintro e w4 ⟨rfl, hb⟩; have bz : ∃ W1, Below w3.heap.size w3 W1 ∧ Below W1.heap.size W1 w4 := ⟨_, (by repeat (first | (with_reducible exact Below.refl _ _) | (with_reducible apply below_alloc) | (with_reducible apply pw_below_drewN) | (with_reducible apply below_drew1))), hb⟩; have HB4 := Aside0.mk (below_z HB3.out bz); have P1d := Aside0.mk (blk_z P1c.out bz); have P3d := Aside0.mk (blk_z P3c.out bz); obtain ⟨k41_lt, k41_ne, k41_0, k41_1, k41_2, k41_3, k41_4, k41_5, k41_6, k41_7⟩ := blk8 P1d.out; obtain ⟨k43_lt, k43_ne, k43_0, k43_1, k43_2, k43_3, k43_4, k43_5, k43_6, k43_7⟩ := blk8 P3d.out; clear hb bz) | (go_at_call 9; refine (Same_eq 0 0 0 0 0 0 [] [] _ _ _ _ _ (Sl.nil _ _ _ _) (Sl.nil _ _ _ _) (Sl.nil _ _ _ _) (Sl.nil _ _ _ _) (by simp) (by simp)).mono ?_; rintro e w5 ⟨rfl, hb⟩; have bz : ∃ W1, Below w4.heap.size w4 W1 ∧ Below W1.heap.size W1 w5 := ⟨_, (by repeat (first | (with_reducible exact Below.refl _ _) | (with_reducible apply below_alloc) | (with_reducible apply pw_below_drewN) | (with_reducible apply below_drew1))), hb⟩; have HB5 := Aside0.mk (below_z HB4.out bz); have P1e := Aside0.mk (blk_z P1d.out bz); have P3e := Aside0.mk (blk_z P3d.out bz); obtain ⟨k51_lt, k51_ne, k51_0, k51_1, k51_2, k51_3, k51_4, k51_5, k51_6, k51_7⟩ := blk8 P1e.out; obtain ⟨k53_lt, k53_ne, k53_0, k53_1, k53_2, k53_3, k53_4, k53_5, k53_6, k53_7⟩ := blk8 P3e.out; clear hb bz))
  all_goals go_wp2_with (first | (go_at_call 7; (with_reducible refine (awake20 _).mono ?_); rintro e w6 ⟨rfl, hb⟩; have bz : ∃ W1, Below w5.heap.size w5 W1 ∧ Below W1.heap.size W1 w6 := ⟨_, (by repeat (first | (with_reducible exact Below.refl _ _) | (with_reducible apply below_alloc) | (with_reducible apply pw_below_drewN) | (with_reducible apply below_drew1))), hb⟩; have HB6 := Aside0.mk (below_z HB5.out bz); clear hb))
  all_goals (go_ret; exact ⟨rfl, by repeat (first | (with_reducible exact HB6.out) | (with_reducible apply pw_below_drewN) | (with_reducible apply below_drew1))⟩)
set_option maxHeartbeats 8000000 in
set_option maxRecDepth 100000 in
theorem back_heavy (op h a b c d : Int) (A6 : Option Addr) (c6 : Nat) (l6 : List Int) (A7 : Option Addr) (c7 : Nat) (l7 : List S60) (w : World) (hr6 : Kd.C (Kd.int .i64) w A6 l6.length l6) (hc6 : l6.length ≤ c6) (hr7 : Kd.C k60 w A7 l7.length l7) (hc7 : l7.length ≤ c7) (hl : ¬ (l6.length ≤ 5000 ∧ l7.length ≤ 1100)) :
    Calls Try.prog 4 #[.agg #[.int .i64 op, .int .i64 h, .int .i64 a, .int .i64 b, .int .i64 c, .int .i64 d, .slice A6 l6.length c6, .slice A7 l7.length c7]] w fun e w' => e = .returned (.bool true) ∧ Below w.heap.size w w' := by
  have hu25 := Try.underlying25
  have LY := Aside0.mk (show decide (l6.length ≤ 5000 ∧ l7.length ≤ 1100) = false from decide_eq_false hl)
  have S6 := Aside0.mk (Sl.mk hr6 hc6)
  have S7 := Aside0.mk (Sl.mk hr7 hc7)
  clear hr6 hc6 hr7 hc7 hl
  go_enter Try.func4, Try.ntmps4
  go_wp2_with (first | (go_at_call 6; go_must (refine (Light_yes op h a b c d l6 l7 _ _ _ (S6.out.below (below_alloc (Below.refl _ _) _)) (S7.out.below (below_alloc (Below.refl _ _) _)) false LY.out).mono ?_; rintro e w1 ⟨rfl, hb⟩; have HB1 := Aside0.mk (below_step (below_alloc (Below.refl _ _) _) hb); clear hb)) | (go_at_call 7; (with_reducible refine (awake20 _).mono ?_); rintro e w9 ⟨rfl, hb⟩; have HB9 := Aside0.mk (below_step HB1.out hb); clear hb))
  go_ret
  exact ⟨rfl, HB9.out⟩
end Go.Proofs.Ytcadgbeablpnmaa.PCmd
