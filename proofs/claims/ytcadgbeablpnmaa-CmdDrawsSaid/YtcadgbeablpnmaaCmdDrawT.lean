/- What the law CmdDraws calls: AsDraw, Of, Draws. -/
import Derived.Test.YtcadgbeablpnmaaCmdMore
import Derived.Outline
import Derived.WalkSpells
import Derived.Deep.RegionHeld3
namespace Go.Proofs.Ytcadgbeablpnmaa.PCmd
open Go.RowKit Go.Proofs.YtcadgbeablpnmaaW.PrintWords Go.Proofs.YtcadgbeablpnmaaW.PrintLast Go.Proofs.YtcadgbeablpnmaaW.PrintMore
attribute [local go_sem] max2_int min2_int max_two min_two max_three min_three max_four min_four   -- for this text's walks alone
set_option linter.unusedVariables false
set_option linter.unusedSimpArgs false

attribute [local go_sem] alloc_drewN setCell_drewN
theorem blk8 {W : World} {g t : Nat} {v0 v1 v2 v3 v4 v5 v6 v7 : Value} (h : W.heap[g]? = some (.cells #[v0, v1, v2, v3, v4, v5, v6, v7] t (0, 0))) : g < W.heap.size ∧ g ≠ W.heap.size ∧ W.cell? ⟨g, 0, none⟩ = some v0 ∧ W.cell? ⟨g, 1, none⟩ = some v1 ∧ W.cell? ⟨g, 2, none⟩ = some v2 ∧ W.cell? ⟨g, 3, none⟩ = some v3 ∧ W.cell? ⟨g, 4, none⟩ = some v4 ∧ W.cell? ⟨g, 5, none⟩ = some v5 ∧ W.cell? ⟨g, 6, none⟩ = some v6 ∧ W.cell? ⟨g, 7, none⟩ = some v7 :=
  ⟨blk_lt h, Nat.ne_of_lt (blk_lt h), (blk_cell h 0).trans rfl, (blk_cell h 1).trans rfl, (blk_cell h 2).trans rfl, (blk_cell h 3).trans rfl, (blk_cell h 4).trans rfl, (blk_cell h 5).trans rfl, (blk_cell h 6).trans rfl, (blk_cell h 7).trans rfl⟩
theorem blk_x {W W1 w1 : World} {g : Nat} {o : Obj} (h : W.heap[g]? = some o) (h1 : Below W.heap.size W W1) (hb : Below W1.heap.size W1 w1) : w1.heap[g]? = some o := blk_below (blk_below h h1) hb
theorem blk_z {W w1 : World} {g : Nat} {o : Obj} (h : W.heap[g]? = some o) (z : ∃ W1, Below W.heap.size W W1 ∧ Below W1.heap.size W1 w1) : w1.heap[g]? = some o := by
  obtain ⟨W1, h1, h2⟩ := z
  exact blk_x h h1 h2
theorem below_z {w W w1 : World} (h : Below w.heap.size w W) (z : ∃ W1, Below W.heap.size W W1 ∧ Below W1.heap.size W1 w1) : Below w.heap.size w w1 := by
  obtain ⟨W1, h1, h2⟩ := z
  exact below_step (below_step h h1) h2
theorem sl_z {α : Type} {d : Kd α} {W w1 : World} {v : Value} {l : List α} (h : Sl d W v l) (z : ∃ W1, Below W.heap.size W W1 ∧ Below W1.heap.size W1 w1) : Sl d w1 v l := by
  obtain ⟨W1, h1, h2⟩ := z
  exact (h.below h1).below h2
theorem sl_x {α : Type} {d : Kd α} {W W1 w1 : World} {v : Value} {l : List α} (h : Sl d W v l) (h1 : Below W.heap.size W W1) (hb : Below W1.heap.size W1 w1) : Sl d w1 v l := (h.below h1).below hb
attribute [local go_sem] as_32_49 as_36_49 as_67_49 as_49_49 as_34_49 as_69_49 as_nil_49
theorem blk4 {W : World} {g t : Nat} {v0 v1 v2 v3 : Value} (h : W.heap[g]? = some (.cells #[v0, v1, v2, v3] t (0, 0))) : g < W.heap.size ∧ g ≠ W.heap.size ∧ W.cell? ⟨g, 0, none⟩ = some v0 ∧ W.cell? ⟨g, 1, none⟩ = some v1 ∧ W.cell? ⟨g, 2, none⟩ = some v2 ∧ W.cell? ⟨g, 3, none⟩ = some v3 :=
  ⟨blk_lt h, Nat.ne_of_lt (blk_lt h), (blk_cell h 0).trans rfl, (blk_cell h 1).trans rfl, (blk_cell h 2).trans rfl, (blk_cell h 3).trans rfl⟩
theorem ret4 {W : World} {g : Nat} {v0 v1 v2 v3 u0 u1 u2 u3 : Value} (h : W.heap[g]? = some (.cells #[u0, u1, u2, u3] 49 (0, 0))) : ((((W.setCell ⟨g, 0, none⟩ v0).setCell ⟨g, 1, none⟩ v1).setCell ⟨g, 2, none⟩ v2).setCell ⟨g, 3, none⟩ v3).heap[g]? = some (.cells #[v0, v1, v2, v3] 49 (0, 0)) :=
  blk_put (cs := #[v0, v1, v2, u3]) (blk_put (cs := #[v0, v1, u2, u3]) (blk_put (cs := #[v0, u1, u2, u3]) (blk_put (cs := #[u0, u1, u2, u3]) h 0 _ rfl) 1 _ rfl) 2 _ rfl) 3 _ rfl
theorem below4 {w W : World} {g : Nat} {v0 v1 v2 v3 : Value} (h : Below w.heap.size w W) (hg : w.heap.size ≤ g) : Below w.heap.size w ((((W.setCell ⟨g, 0, none⟩ v0).setCell ⟨g, 1, none⟩ v1).setCell ⟨g, 2, none⟩ v2).setCell ⟨g, 3, none⟩ v3) :=
  below_set (below_set (below_set (below_set h hg) hg) hg) hg
set_option maxHeartbeats 8000000 in
set_option maxRecDepth 100000 in
theorem AsDraw_yes (h a b c : Int) (w : World) : Calls Try.prog 13 #[.iface 49 (.agg #[.int .i64 h, .int .i64 a, .int .i64 b, .int .i64 c])] w fun e w' => e = .returned (.tuple #[.agg #[.int .i64 h, .int .i64 a, .int .i64 b, .int .i64 c], .bool true]) ∧ Below w.heap.size w w' := by
  have hu := Try.underlying49
  have hd1 : w.heap.size ≠ w.heap.size + 1 := by omega
  go_enter Try.func13, Try.ntmps13
  go_wp2
  refine bodyPost_ret (results_cell_row_tmp rfl _ _ w.heap.size 49 #[.int .i64 h, .int .i64 a, .int .i64 b, .int .i64 c] (0, 0) _ rfl ?_ Try.underlying49 rfl (by kernel_rfl)) rfl ?_
  · repeat (first | (with_reducible exact blk_new _ _) | (with_reducible refine blk_drewN ?_ _) | (with_reducible refine blk_drew ?_) | (with_reducible refine ret4 ?_) | (with_reducible refine blk_far ?_ hd1 _) | (with_reducible refine blk_alloc ?_ _))
  · exact ⟨rfl, by repeat (first | (with_reducible exact Below.refl _ _) | (with_reducible refine below4 ?_ (Nat.le_refl _)) | (with_reducible apply below_alloc) | (with_reducible apply pw_below_drewN) | (with_reducible apply below_drew1))⟩
set_option maxHeartbeats 8000000 in
set_option maxRecDepth 100000 in
theorem AsDraw_no32 (v : Value) (w : World) : Calls Try.prog 13 #[.iface 32 v] w fun e w' => e = .returned (.tuple #[.agg #[.int .i64 0, .int .i64 0, .int .i64 0, .int .i64 0], .bool false]) ∧ Below w.heap.size w w' := by
  have hu := Try.underlying49
  have hd1 : w.heap.size ≠ w.heap.size + 1 := by omega
  go_enter Try.func13, Try.ntmps13
  go_wp2
  refine bodyPost_ret (results_cell_row_tmp rfl _ _ w.heap.size 49 #[.int .i64 0, .int .i64 0, .int .i64 0, .int .i64 0] (0, 0) _ rfl ?_ Try.underlying49 rfl (by kernel_rfl)) rfl ?_
  · repeat (first | (with_reducible exact blk_new _ _) | (with_reducible refine blk_drewN ?_ _) | (with_reducible refine blk_drew ?_) | (with_reducible refine ret4 ?_) | (with_reducible refine blk_far ?_ hd1 _) | (with_reducible refine blk_alloc ?_ _))
  · exact ⟨rfl, by repeat (first | (with_reducible exact Below.refl _ _) | (with_reducible refine below4 ?_ (Nat.le_refl _)) | (with_reducible apply below_alloc) | (with_reducible apply pw_below_drewN) | (with_reducible apply below_drew1))⟩
set_option maxHeartbeats 8000000 in
set_option maxRecDepth 100000 in
theorem AsDraw_no36 (v : Value) (w : World) : Calls Try.prog 13 #[.iface 36 v] w fun e w' => e = .returned (.tuple #[.agg #[.int .i64 0, .int .i64 0, .int .i64 0, .int .i64 0], .bool false]) ∧ Below w.heap.size w w' := by
  have hu := Try.underlying49
  have hd1 : w.heap.size ≠ w.heap.size + 1 := by omega
  go_enter Try.func13, Try.ntmps13
  go_wp2
  refine bodyPost_ret (results_cell_row_tmp rfl _ _ w.heap.size 49 #[.int .i64 0, .int .i64 0, .int .i64 0, .int .i64 0] (0, 0) _ rfl ?_ Try.underlying49 rfl (by kernel_rfl)) rfl ?_
  · repeat (first | (with_reducible exact blk_new _ _) | (with_reducible refine blk_drewN ?_ _) | (with_reducible refine blk_drew ?_) | (with_reducible refine ret4 ?_) | (with_reducible refine blk_far ?_ hd1 _) | (with_reducible refine blk_alloc ?_ _))
  · exact ⟨rfl, by repeat (first | (with_reducible exact Below.refl _ _) | (with_reducible refine below4 ?_ (Nat.le_refl _)) | (with_reducible apply below_alloc) | (with_reducible apply pw_below_drewN) | (with_reducible apply below_drew1))⟩
set_option maxHeartbeats 8000000 in
set_option maxRecDepth 100000 in
theorem AsDraw_no67 (v : Value) (w : World) : Calls Try.prog 13 #[.iface 67 v] w fun e w' => e = .returned (.tuple #[.agg #[.int .i64 0, .int .i64 0, .int .i64 0, .int .i64 0], .bool false]) ∧ Below w.heap.size w w' := by
  have hu := Try.underlying49
  have hd1 : w.heap.size ≠ w.heap.size + 1 := by omega
  go_enter Try.func13, Try.ntmps13
  go_wp2
  refine bodyPost_ret (results_cell_row_tmp rfl _ _ w.heap.size 49 #[.int .i64 0, .int .i64 0, .int .i64 0, .int .i64 0] (0, 0) _ rfl ?_ Try.underlying49 rfl (by kernel_rfl)) rfl ?_
  · repeat (first | (with_reducible exact blk_new _ _) | (with_reducible refine blk_drewN ?_ _) | (with_reducible refine blk_drew ?_) | (with_reducible refine ret4 ?_) | (with_reducible refine blk_far ?_ hd1 _) | (with_reducible refine blk_alloc ?_ _))
  · exact ⟨rfl, by repeat (first | (with_reducible exact Below.refl _ _) | (with_reducible refine below4 ?_ (Nat.le_refl _)) | (with_reducible apply below_alloc) | (with_reducible apply pw_below_drewN) | (with_reducible apply below_drew1))⟩
set_option maxHeartbeats 8000000 in
set_option maxRecDepth 100000 in
theorem AsDraw_no34 (v : Value) (w : World) : Calls Try.prog 13 #[.iface 34 v] w fun e w' => e = .returned (.tuple #[.agg #[.int .i64 0, .int .i64 0, .int .i64 0, .int .i64 0], .bool false]) ∧ Below w.heap.size w w' := by
  have hu := Try.underlying49
  have hd1 : w.heap.size ≠ w.heap.size + 1 := by omega
  go_enter Try.func13, Try.ntmps13
  go_wp2
  refine bodyPost_ret (results_cell_row_tmp rfl _ _ w.heap.size 49 #[.int .i64 0, .int .i64 0, .int .i64 0, .int .i64 0] (0, 0) _ rfl ?_ Try.underlying49 rfl (by kernel_rfl)) rfl ?_
  · repeat (first | (with_reducible exact blk_new _ _) | (with_reducible refine blk_drewN ?_ _) | (with_reducible refine blk_drew ?_) | (with_reducible refine ret4 ?_) | (with_reducible refine blk_far ?_ hd1 _) | (with_reducible refine blk_alloc ?_ _))
  · exact ⟨rfl, by repeat (first | (with_reducible exact Below.refl _ _) | (with_reducible refine below4 ?_ (Nat.le_refl _)) | (with_reducible apply below_alloc) | (with_reducible apply pw_below_drewN) | (with_reducible apply below_drew1))⟩
set_option maxHeartbeats 8000000 in
set_option maxRecDepth 100000 in
theorem AsDraw_no69 (v : Value) (w : World) : Calls Try.prog 13 #[.iface 69 v] w fun e w' => e = .returned (.tuple #[.agg #[.int .i64 0, .int .i64 0, .int .i64 0, .int .i64 0], .bool false]) ∧ Below w.heap.size w w' := by
  have hu := Try.underlying49
  have hd1 : w.heap.size ≠ w.heap.size + 1 := by omega
  go_enter Try.func13, Try.ntmps13
  go_wp2
  refine bodyPost_ret (results_cell_row_tmp rfl _ _ w.heap.size 49 #[.int .i64 0, .int .i64 0, .int .i64 0, .int .i64 0] (0, 0) _ rfl ?_ Try.underlying49 rfl (by kernel_rfl)) rfl ?_
  · repeat (first | (with_reducible exact blk_new _ _) | (with_reducible refine blk_drewN ?_ _) | (with_reducible refine blk_drew ?_) | (with_reducible refine ret4 ?_) | (with_reducible refine blk_far ?_ hd1 _) | (with_reducible refine blk_alloc ?_ _))
  · exact ⟨rfl, by repeat (first | (with_reducible exact Below.refl _ _) | (with_reducible refine below4 ?_ (Nat.le_refl _)) | (with_reducible apply below_alloc) | (with_reducible apply pw_below_drewN) | (with_reducible apply below_drew1))⟩
set_option maxHeartbeats 8000000 in
set_option maxRecDepth 100000 in
theorem AsDraw_nil (w : World) : Calls Try.prog 13 #[.nilIface] w fun e w' => e = .returned (.tuple #[.agg #[.int .i64 0, .int .i64 0, .int .i64 0, .int .i64 0], .bool false]) ∧ Below w.heap.size w w' := by
  have hu := Try.underlying49
  have hd1 : w.heap.size ≠ w.heap.size + 1 := by omega
  go_enter Try.func13, Try.ntmps13
  go_wp2
  refine bodyPost_ret (results_cell_row_tmp rfl _ _ w.heap.size 49 #[.int .i64 0, .int .i64 0, .int .i64 0, .int .i64 0] (0, 0) _ rfl ?_ Try.underlying49 rfl (by kernel_rfl)) rfl ?_
  · repeat (first | (with_reducible exact blk_new _ _) | (with_reducible refine blk_drewN ?_ _) | (with_reducible refine blk_drew ?_) | (with_reducible refine ret4 ?_) | (with_reducible refine blk_far ?_ hd1 _) | (with_reducible refine blk_alloc ?_ _))
  · exact ⟨rfl, by repeat (first | (with_reducible exact Below.refl _ _) | (with_reducible refine below4 ?_ (Nat.le_refl _)) | (with_reducible apply below_alloc) | (with_reducible apply pw_below_drewN) | (with_reducible apply below_drew1))⟩
end Go.Proofs.Ytcadgbeablpnmaa.PCmd
