/- What the claim of RowCodeBack needs of this seat's texts (drawn together by wip/prune.py): CodeROwn. -/
import Derived.Outline
import Derived.WalkSpells
import Derived.Test.YtpgjkndijdleeaaBak3
section
namespace Go.Proofs.Ytpgjkndijdleeaa.PCode
open Go.RowKit Go.Proofs.YtpgjkndijdleeaaW.PrintWords Go.Proofs.YtpgjkndijdleeaaW.PrintLast Go.Proofs.YtpgjkndijdleeaaW.PrintMore
attribute [local go_sem] max2_int min2_int max_two min_two max_three min_three max_four min_four   -- for this text's walks alone
set_option linter.unusedVariables false
set_option linter.unusedSimpArgs false
theorem ret8 {W : World} {g : Nat} {v0 v1 v2 v3 v4 v5 v6 v7 : Value} (h : W.heap[g]? = some (.cells #[.int .i64 0, .int .i64 0, .int .i64 0, .int .i64 0, .int .i64 0, .int .i64 0, .slice none 0 0, .slice none 0 0] 37 (0, 0))) : ((((((((W.setCell ⟨g, 0, none⟩ v0).setCell ⟨g, 1, none⟩ v1).setCell ⟨g, 2, none⟩ v2).setCell ⟨g, 3, none⟩ v3).setCell ⟨g, 4, none⟩ v4).setCell ⟨g, 5, none⟩ v5).setCell ⟨g, 6, none⟩ v6).setCell ⟨g, 7, none⟩ v7).heap[g]? = some (.cells #[v0, v1, v2, v3, v4, v5, v6, v7] 37 (0, 0)) :=
 (blk_put (cs := #[v0, v1, v2, v3, v4, v5, v6, .slice none 0 0]) (cs' := #[v0, v1, v2, v3, v4, v5, v6, v7]) (blk_put (cs := #[v0, v1, v2, v3, v4, v5, .slice none 0 0, .slice none 0 0]) (cs' := #[v0, v1, v2, v3, v4, v5, v6, .slice none 0 0]) (blk_put (cs := #[v0, v1, v2, v3, v4, .int .i64 0, .slice none 0 0, .slice none 0 0]) (cs' := #[v0, v1, v2, v3, v4, v5, .slice none 0 0, .slice none 0 0]) (blk_put (cs := #[v0, v1, v2, v3, .int .i64 0, .int .i64 0, .slice none 0 0, .slice none 0 0]) (cs' := #[v0, v1, v2, v3, v4, .int .i64 0, .slice none 0 0, .slice none 0 0]) (blk_put (cs := #[v0, v1, v2, .int .i64 0, .int .i64 0, .int .i64 0, .slice none 0 0, .slice none 0 0]) (cs' := #[v0, v1, v2, v3, .int .i64 0, .int .i64 0, .slice none 0 0, .slice none 0 0]) (blk_put (cs := #[v0, v1, .int .i64 0, .int .i64 0, .int .i64 0, .int .i64 0, .slice none 0 0, .slice none 0 0]) (cs' := #[v0, v1, v2, .int .i64 0, .int .i64 0, .int .i64 0, .slice none 0 0, .slice none 0 0]) (blk_put (cs := #[v0, .int .i64 0, .int .i64 0, .int .i64 0, .int .i64 0, .int .i64 0, .slice none 0 0, .slice none 0 0]) (cs' := #[v0, v1, .int .i64 0, .int .i64 0, .int .i64 0, .int .i64 0, .slice none 0 0, .slice none 0 0]) (blk_put (cs := #[.int .i64 0, .int .i64 0, .int .i64 0, .int .i64 0, .int .i64 0, .int .i64 0, .slice none 0 0, .slice none 0 0]) (cs' := #[v0, .int .i64 0, .int .i64 0, .int .i64 0, .int .i64 0, .int .i64 0, .slice none 0 0, .slice none 0 0]) h 0 v0 rfl) 1 v1 rfl) 2 v2 rfl) 3 v3 rfl) 4 v4 rfl) 5 v5 rfl) 6 v6 rfl) 7 v7 rfl)
theorem below8 {w W : World} {g : Nat} {v0 v1 v2 v3 v4 v5 v6 v7 : Value} (h : Below w.heap.size w W) (hg : w.heap.size ≤ g) : Below w.heap.size w ((((((((W.setCell ⟨g, 0, none⟩ v0).setCell ⟨g, 1, none⟩ v1).setCell ⟨g, 2, none⟩ v2).setCell ⟨g, 3, none⟩ v3).setCell ⟨g, 4, none⟩ v4).setCell ⟨g, 5, none⟩ v5).setCell ⟨g, 6, none⟩ v6).setCell ⟨g, 7, none⟩ v7) :=
 below_set (below_set (below_set (below_set (below_set (below_set (below_set (below_set h hg) hg) hg) hg) hg) hg) hg) hg
theorem alloc_drewN (w : World) (n : Nat) (o : Obj) : (w.drewN n).alloc o = (w.alloc o).drewN n := rfl
theorem setCell_drewN (w : World) (n : Nat) (a : Addr) (v : Value) : (w.drewN n).setCell a v = (w.setCell a v).drewN n := rfl
attribute [local go_sem] alloc_drewN setCell_drewN
theorem blk_new2 (w : World) (o o' : Obj) : ((w.alloc o).alloc o').heap[w.heap.size + 1]? = some o' := by
 have h := blk_new (w.alloc o) o'
 simpa using h
set_option maxHeartbeats 8000000 in
set_option maxRecDepth 100000 in
theorem rown_main (k : Nat) (op h a b c d : Int) (A6 : Option Addr) (c6 : Nat) (l6 : List Int) (A7 : Option Addr) (c7 : Nat) (l7 : List S62) (s : ByteArray) (x1 x2 x3 x4 x5 : Int) (b6 b7 : Bool) (w : World) (hop : 1 ≤ op ∧ op ≤ 19) (hF : temperaref20_Fields.f op = some s)
  (h1 : temperaref20_pick.f k s 72 h = some x1) (h2 : temperaref20_pick.f k s 65 a = some x2) (h3 : temperaref20_pick.f k s 66 b = some x3) (h4 : temperaref20_pick.f k s 67 c = some x4) (h5 : temperaref20_pick.f k s 68 d = some x5) (h6 : temperaref20_has.f k s 76 = some b6) (h7 : temperaref20_has.f k s 86 = some b7) :
  Calls Try.prog 14 #[.agg #[.int .i64 op, .int .i64 h, .int .i64 a, .int .i64 b, .int .i64 c, .int .i64 d, .slice A6 l6.length c6, .slice A7 l7.length c7]] w fun e w' => e = .returned (.agg #[.int .i64 op, .int .i64 x1, .int .i64 x2, .int .i64 x3, .int .i64 x4, .int .i64 x5, cond b6 (.slice A6 l6.length c6) (.slice none 0 0), cond b7 (.slice A7 l7.length c7) (.slice none 0 0)]) ∧ Below w.heap.size w w' := by
 have hu37 := Try.underlying37
 have F0 := Aside0.mk hF
 have P1 := Aside0.mk h1
 have P2 := Aside0.mk h2
 have P3 := Aside0.mk h3
 have P4 := Aside0.mk h4
 have P5 := Aside0.mk h5
 have P6 := Aside0.mk h6
 have P7 := Aside0.mk h7
 have d1 : decide (op < 1) = false := decide_eq_false (by omega)
 have d2 : decide (19 < op) = false := decide_eq_false (by omega)
 clear hF h1 h2 h3 h4 h5 h6 h7 hop
 go_enter Try.func14, Try.ntmps14
 go_wp2_with (first | (go_at_call 25; go_must ((with_reducible refine (temperaref20_Fields.calls op s _ F0.out).mono ?_); rintro e w1 ⟨rfl, hb⟩; have BK := Aside0.mk (blk_below (blk_alloc (blk_new w _) _) hb); have RK := Aside0.mk (blk_below (blk_new2 w _ _) hb); have HB := Aside0.mk (below_step (below_alloc (below_alloc (Below.refl _ _) _) _) hb); clear hb; have hc0 := (blk_cell BK.out 0).trans rfl; have hc1 := (blk_cell BK.out 1).trans rfl; have hc2 := (blk_cell BK.out 2).trans rfl; have hc3 := (blk_cell BK.out 3).trans rfl; have hc4 := (blk_cell BK.out 4).trans rfl; have hc5 := (blk_cell BK.out 5).trans rfl; have hc6 := (blk_cell BK.out 6).trans rfl; have hc7 := (blk_cell BK.out 7).trans rfl)))
 have hr0 := (blk_cell RK.out 0).trans rfl
 have hz0 := blk_frozen RK.out 0
 have hr1 := (blk_cell RK.out 1).trans rfl
 have hz1 := blk_frozen RK.out 1
 have hr2 := (blk_cell RK.out 2).trans rfl
 have hz2 := blk_frozen RK.out 2
 have hr3 := (blk_cell RK.out 3).trans rfl
 have hz3 := blk_frozen RK.out 3
 have hr4 := (blk_cell RK.out 4).trans rfl
 have hz4 := blk_frozen RK.out 4
 have hr5 := (blk_cell RK.out 5).trans rfl
 have hz5 := blk_frozen RK.out 5
 have hr6 := (blk_cell RK.out 6).trans rfl
 have hz6 := blk_frozen RK.out 6
 have hr7 := (blk_cell RK.out 7).trans rfl
 have hz7 := blk_frozen RK.out 7
 have hlt := blk_lt RK.out
 have hlt0 := blk_lt BK.out
 go_region_held3 (fun w' => w'.cell? ⟨w.heap.size, 0, none⟩ = some (.int .i64 op) ∧ w'.cell? ⟨w.heap.size, 1, none⟩ = some (.int .i64 h) ∧ w'.cell? ⟨w.heap.size, 2, none⟩ = some (.int .i64 a) ∧ w'.cell? ⟨w.heap.size, 3, none⟩ = some (.int .i64 b) ∧ w'.cell? ⟨w.heap.size, 4, none⟩ = some (.int .i64 c) ∧ w'.cell? ⟨w.heap.size, 5, none⟩ = some (.int .i64 d)) (go_keep) (first | (go_at_call_of 26 (Value.int .u8 72); refine (temperaref20_pick.calls k s 72 h x1 _ P1.out).mono ?_; rintro e w' ⟨rfl, ⟨nd, rfl⟩⟩) | (go_at_call_of 26 (Value.int .u8 65); refine (temperaref20_pick.calls k s 65 a x2 _ P2.out).mono ?_; rintro e w' ⟨rfl, ⟨nd, rfl⟩⟩) | (go_at_call_of 26 (Value.int .u8 66); refine (temperaref20_pick.calls k s 66 b x3 _ P3.out).mono ?_; rintro e w' ⟨rfl, ⟨nd, rfl⟩⟩) | (go_at_call_of 26 (Value.int .u8 67); refine (temperaref20_pick.calls k s 67 c x4 _ P4.out).mono ?_; rintro e w' ⟨rfl, ⟨nd, rfl⟩⟩) | (go_at_call_of 26 (Value.int .u8 68); refine (temperaref20_pick.calls k s 68 d x5 _ P5.out).mono ?_; rintro e w' ⟨rfl, ⟨nd, rfl⟩⟩))
 all_goals (cases b6 <;> cases b7 <;> (go_wp2_with (first | (go_at_call_of 27 (Value.int .u8 76); go_must ((with_reducible refine (temperaref20_has.calls k s 76 _ _ P6.out).mono ?_); rintro e w' ⟨rfl, ⟨nd, rfl⟩⟩)) | (go_at_call_of 27 (Value.int .u8 86); go_must ((with_reducible refine (temperaref20_has.calls k s 86 _ _ P7.out).mono ?_); rintro e w' ⟨rfl, ⟨nd, rfl⟩⟩)))))
 all_goals (first | (refine bodyPost_ret (results_cell_row rfl _ _ (w.heap.size + 1) 37 #[.int .i64 op, .int .i64 x1, .int .i64 x2, .int .i64 x3, .int .i64 x4, .int .i64 x5, (.slice none 0 0), (.slice none 0 0)] (0, 0) _ rfl ?_ Try.underlying37 rfl (by kernel_rfl)) rfl ?_; (focus (repeat (first | (with_reducible refine blk_drewN ?_ _) | (with_reducible refine blk_drew ?_) | (with_reducible refine ret8 ?_) | (with_reducible refine blk_far ?_ (Nat.ne_of_lt hlt) _) | (with_reducible refine blk_alloc ?_ _) | (with_reducible exact RK.out))); done)) | (refine bodyPost_ret (results_cell_row rfl _ _ (w.heap.size + 1) 37 #[.int .i64 op, .int .i64 x1, .int .i64 x2, .int .i64 x3, .int .i64 x4, .int .i64 x5, (.slice none 0 0), (.slice A7 l7.length c7)] (0, 0) _ rfl ?_ Try.underlying37 rfl (by kernel_rfl)) rfl ?_; (focus (repeat (first | (with_reducible refine blk_drewN ?_ _) | (with_reducible refine blk_drew ?_) | (with_reducible refine ret8 ?_) | (with_reducible refine blk_far ?_ (Nat.ne_of_lt hlt) _) | (with_reducible refine blk_alloc ?_ _) | (with_reducible exact RK.out))); done)) | (refine bodyPost_ret (results_cell_row rfl _ _ (w.heap.size + 1) 37 #[.int .i64 op, .int .i64 x1, .int .i64 x2, .int .i64 x3, .int .i64 x4, .int .i64 x5, (.slice A6 l6.length c6), (.slice none 0 0)] (0, 0) _ rfl ?_ Try.underlying37 rfl (by kernel_rfl)) rfl ?_; (focus (repeat (first | (with_reducible refine blk_drewN ?_ _) | (with_reducible refine blk_drew ?_) | (with_reducible refine ret8 ?_) | (with_reducible refine blk_far ?_ (Nat.ne_of_lt hlt) _) | (with_reducible refine blk_alloc ?_ _) | (with_reducible exact RK.out))); done)) | (refine bodyPost_ret (results_cell_row rfl _ _ (w.heap.size + 1) 37 #[.int .i64 op, .int .i64 x1, .int .i64 x2, .int .i64 x3, .int .i64 x4, .int .i64 x5, (.slice A6 l6.length c6), (.slice A7 l7.length c7)] (0, 0) _ rfl ?_ Try.underlying37 rfl (by kernel_rfl)) rfl ?_; (focus (repeat (first | (with_reducible refine blk_drewN ?_ _) | (with_reducible refine blk_drew ?_) | (with_reducible refine ret8 ?_) | (with_reducible refine blk_far ?_ (Nat.ne_of_lt hlt) _) | (with_reducible refine blk_alloc ?_ _) | (with_reducible exact RK.out))); done)))
 all_goals (refine ⟨rfl, ?_⟩; repeat (first | (with_reducible exact HB.out) | (with_reducible refine below8 ?_ (Nat.le_succ _)) | (with_reducible apply below_alloc) | (with_reducible apply pw_below_drewN) | (with_reducible apply below_drew1) | (with_reducible refine below_set ?_ (Nat.le_of_lt hlt0))))
end Go.Proofs.Ytpgjkndijdleeaa.PCode
end
