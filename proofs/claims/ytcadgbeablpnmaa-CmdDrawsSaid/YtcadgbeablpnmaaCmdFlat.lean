/- cmd.flat, walked by hand, type by type. -/
import Derived.Test.YtcadgbeablpnmaaCmdAs
import Derived.Outline
import Derived.WalkSpells
import Derived.Deep.RegionHeld3
namespace Go.Proofs.Ytcadgbeablpnmaa.PCmd
open Go.RowKit Go.Proofs.YtcadgbeablpnmaaW.PrintWords Go.Proofs.YtcadgbeablpnmaaW.PrintLast Go.Proofs.YtcadgbeablpnmaaW.PrintMore
attribute [local go_sem] max2_int min2_int max_two min_two max_three min_three max_four min_four   -- for this text's walks alone
set_option linter.unusedVariables false
set_option linter.unusedSimpArgs false

attribute [local go_sem] alloc_drewN setCell_drewN
attribute [local go_sem] as_32_32 as_32_36 as_32_67 as_32_49 as_32_34 as_32_69 as_36_32 as_36_36 as_36_67 as_36_49 as_36_34 as_36_69 as_67_32 as_67_36 as_67_67 as_67_49 as_67_34 as_67_69 as_49_32 as_49_36 as_49_67 as_49_49 as_49_34 as_49_69 as_34_32 as_34_36 as_34_67 as_34_49 as_34_34 as_34_69 as_69_32 as_69_36 as_69_67 as_69_49 as_69_34 as_69_69 as_nil_32 as_nil_36 as_nil_67 as_nil_49 as_nil_34 as_nil_69
theorem results_cell_row_tmp {P : Program} {fn : Func} {p u : Tmp} {ty : TypeId} (h : fn.results = #[.cell p ty, .tmp u]) (tmps : Array Value) (w : World) (g : Nat) (t : TypeId) (cs : Array Value) (fr : Nat × Nat) (d : TypeDesc)
    (hp : tmps.getD p undef = .pointer (some ⟨g, 0, none⟩)) (hg : w.heap[g]? = some (.cells cs t fr))
    (hu : P.underlying ty = some d) (hd : (match d with | .struct _ | .array _ _ => true | _ => false) = true) (hi : (P.info? ty).map (·.size) = some cs.size) :
    (results fn tmps).run P w = .ok (.tuple #[.agg cs, tmps.getD u undef]) w := by
  have hp' : tmps[p]?.getD undef = .pointer (some ⟨g, 0, none⟩) := by simpa using hp
  simp [results, h, hp', asAddr, run_loadVar_row w g t ty cs fr d hg hu hd hi]
set_option maxHeartbeats 8000000 in
set_option maxRecDepth 100000 in
theorem flat_make (kind h a b : Int) (A6 : Option Addr) (n6 c6 : Nat) (A7 : Option Addr) (n7 c7 : Nat) (w : World) (hk : 1 ≤ kind ∧ kind ≤ 4) :
    Calls Try.prog 15 #[.iface 32 (.agg #[.int .i64 kind, .int .i64 h, .int .i64 a, .int .i64 b, .slice A6 n6 c6, .slice A7 n7 c7])] w fun e w' => e = .returned (.tuple #[.agg #[.int .i64 kind, .int .i64 h, .int .i64 a, .int .i64 b, .int .i64 0, .int .i64 0, .slice A6 n6 c6, .slice A7 n7 c7], .bool true]) ∧ Below w.heap.size w w' := by
  have hu25 := Try.underlying25
  have d1 : decide (1 ≤ kind) = true := decide_eq_true hk.1
  have d2 : decide (kind ≤ 4) = true := decide_eq_true hk.2
  clear hk
  have hd1 : w.heap.size ≠ w.heap.size + 1 := by omega
  have hd2 : w.heap.size + 1 ≠ w.heap.size := by omega
  go_enter Try.func15, Try.ntmps15
  go_wp2
  first | go_region_held3 (fun w' => w'.cell? ⟨w.heap.size + 1, 0, none⟩ = some (.int .i64 kind) ∧ w'.cell? ⟨w.heap.size + 1, 1, none⟩ = some (.int .i64 h) ∧ w'.cell? ⟨w.heap.size + 1, 2, none⟩ = some (.int .i64 a) ∧ w'.cell? ⟨w.heap.size + 1, 3, none⟩ = some (.int .i64 b) ∧ w'.cell? ⟨w.heap.size + 1, 4, none⟩ = some (.slice A6 n6 c6) ∧ w'.cell? ⟨w.heap.size + 1, 5, none⟩ = some (.slice A7 n7 c7)) (go_keep) (first | fail) | fail
  all_goals go_wp2
  all_goals (
    refine bodyPost_ret (results_cell_row_tmp rfl _ _ w.heap.size 25 #[.int .i64 kind, .int .i64 h, .int .i64 a, .int .i64 b, .int .i64 0, .int .i64 0, .slice A6 n6 c6, .slice A7 n7 c7] (0, 0) _ rfl ?_ Try.underlying25 rfl (by kernel_rfl)) rfl ?_
    · repeat (first | (with_reducible exact blk_new _ _) | (with_reducible refine blk_drewN ?_ _) | (with_reducible refine blk_drew ?_) | (with_reducible refine ret8 ?_) | (with_reducible refine blk_far ?_ hd1 _) | (with_reducible refine blk_alloc ?_ _))
    · exact ⟨rfl, by repeat (first | (with_reducible exact Below.refl _ _) | (with_reducible refine below8 ?_ (Nat.le_refl _)) | (with_reducible apply below_alloc) | (with_reducible apply pw_below_drewN) | (with_reducible apply below_drew1) | (with_reducible refine below_set ?_ (by omega)))⟩)
set_option maxHeartbeats 8000000 in
set_option maxRecDepth 100000 in
theorem flat_make_lo (kind h a b : Int) (A6 : Option Addr) (n6 c6 : Nat) (A7 : Option Addr) (n7 c7 : Nat) (w : World) (hk : kind < 1) :
    Calls Try.prog 15 #[.iface 32 (.agg #[.int .i64 kind, .int .i64 h, .int .i64 a, .int .i64 b, .slice A6 n6 c6, .slice A7 n7 c7])] w fun e w' => e = .returned (.tuple #[.agg #[.int .i64 kind, .int .i64 h, .int .i64 a, .int .i64 b, .int .i64 0, .int .i64 0, .slice A6 n6 c6, .slice A7 n7 c7], .bool false]) ∧ Below w.heap.size w w' := by
  have hu25 := Try.underlying25
  have d1 : decide (1 ≤ kind) = false := decide_eq_false (by omega)
  clear hk
  have hd1 : w.heap.size ≠ w.heap.size + 1 := by omega
  have hd2 : w.heap.size + 1 ≠ w.heap.size := by omega
  go_enter Try.func15, Try.ntmps15
  go_wp2
  refine wp_region_held_drew (S := fun w' => w'.cell? ⟨w.heap.size + 1, 0, none⟩ = some (.int .i64 kind) ∧ w'.cell? ⟨w.heap.size + 1, 1, none⟩ = some (.int .i64 h) ∧ w'.cell? ⟨w.heap.size + 1, 2, none⟩ = some (.int .i64 a) ∧ w'.cell? ⟨w.heap.size + 1, 3, none⟩ = some (.int .i64 b) ∧ w'.cell? ⟨w.heap.size + 1, 4, none⟩ = some (.slice A6 n6 c6) ∧ w'.cell? ⟨w.heap.size + 1, 5, none⟩ = some (.slice A7 n7 c7)) (by kernel_rfl) ?_ (fun hHeld => ?_)
  · go_keep
  refine wpAnyH_take (i := 0) (oi := _) (v := ?_) rfl (by kernel_rfl) (by kernel_rfl) (by kernel_rfl) (fun _ _ _ h => h) (Or.inl ⟨by rfl, ?_⟩) (by assumption) ?_
  rotate_left
  · (intro w hSw; (try dsimp only at hSw); go_simp; try with_reducible rfl)
  try simp only [Act.put, List.setIfInBounds_toArray, List.set_cons_zero, List.set_cons_succ]
  refine wpAnyH_take (i := 1) (oi := _) (v := ?_) rfl (by kernel_rfl) (by kernel_rfl) (by kernel_rfl) (fun _ _ _ h => h) (Or.inl ⟨by rfl, ?_⟩) (by assumption) ?_
  rotate_left
  · (intro w hSw; (try dsimp only at hSw); go_simp; try with_reducible rfl)
  try simp only [Act.put, List.setIfInBounds_toArray, List.set_cons_zero, List.set_cons_succ]
  refine wpAnyH_take (i := 2) (oi := _) (v := ?_) rfl (by kernel_rfl) (by kernel_rfl) (by kernel_rfl) (fun _ _ _ h => h) (Or.inl ⟨by rfl, ?_⟩) (by assumption) ?_
  rotate_left
  · (intro w hSw; (try dsimp only at hSw); go_simp; try with_reducible rfl)
  try simp only [Act.put, List.setIfInBounds_toArray, List.set_cons_zero, List.set_cons_succ]
  refine wpAnyH_take (i := 3) (oi := _) (v := ?_) rfl (by kernel_rfl) (by kernel_rfl) (by kernel_rfl) (fun _ _ _ h => h) (Or.inl ⟨by rfl, ?_⟩) (by assumption) ?_
  rotate_left
  · (intro w hSw; (try dsimp only at hSw); go_simp; try with_reducible rfl)
  try simp only [Act.put, List.setIfInBounds_toArray, List.set_cons_zero, List.set_cons_succ]
  refine wpAnyH_take (i := 4) (oi := _) (v := ?_) rfl (by kernel_rfl) (by kernel_rfl) (by kernel_rfl) (fun _ _ _ h => h) (Or.inl ⟨by rfl, ?_⟩) (by assumption) ?_
  rotate_left
  · (intro w hSw; (try dsimp only at hSw); go_simp; try with_reducible rfl)
  try simp only [Act.put, List.setIfInBounds_toArray, List.set_cons_zero, List.set_cons_succ]
  refine wpAnyH_take (i := 5) (oi := _) (v := ?_) rfl (by kernel_rfl) (by kernel_rfl) (by kernel_rfl) (fun _ _ _ h => h) (Or.inl ⟨by rfl, ?_⟩) (by assumption) ?_
  rotate_left
  · (intro w hSw; (try dsimp only at hSw); go_simp; try with_reducible rfl)
  try simp only [Act.put, List.setIfInBounds_toArray, List.set_cons_zero, List.set_cons_succ]
  refine wpAnyH_take (i := 6) (oi := _) (v := ?_) rfl (by kernel_rfl) (by kernel_rfl) (by kernel_rfl) (fun _ _ _ h => h) (Or.inl ⟨by rfl, ?_⟩) (by assumption) ?_
  rotate_left
  · (intro w hSw; (try dsimp only at hSw); go_simp; try with_reducible rfl)
  try simp only [Act.put, List.setIfInBounds_toArray, List.set_cons_zero, List.set_cons_succ]
  refine wpAnyH_take (i := 7) (oi := _) (v := ?_) rfl (by kernel_rfl) (by kernel_rfl) (by kernel_rfl) (fun _ _ _ h => h) (Or.inl ⟨by rfl, ?_⟩) (by assumption) ?_
  rotate_left
  · (intro w hSw; (try dsimp only at hSw); go_simp; try with_reducible rfl)
  try simp only [Act.put, List.setIfInBounds_toArray, List.set_cons_zero, List.set_cons_succ]
  refine wpAnyH_take (i := 8) (oi := _) (v := ?_) rfl (by kernel_rfl) (by kernel_rfl) (by kernel_rfl) (fun _ _ _ h => h) (Or.inl ⟨by rfl, ?_⟩) (by assumption) ?_
  rotate_left
  · (intro w hSw; (try dsimp only at hSw); go_simp; try with_reducible rfl)
  try simp only [Act.put, List.setIfInBounds_toArray, List.set_cons_zero, List.set_cons_succ]
  refine wpAnyH_take (i := 9) (oi := _) (v := ?_) rfl (by kernel_rfl) (by kernel_rfl) (by kernel_rfl) (fun _ _ _ h => h) (Or.inl ⟨by rfl, ?_⟩) (by assumption) ?_
  rotate_left
  · (intro w hSw; (try dsimp only at hSw); go_simp; try with_reducible rfl)
  try simp only [Act.put, List.setIfInBounds_toArray, List.set_cons_zero, List.set_cons_succ]
  refine wpAnyH_take (i := 10) (oi := _) (v := ?_) rfl (by kernel_rfl) (by kernel_rfl) (by kernel_rfl) (fun _ _ _ h => h) (Or.inl ⟨by rfl, ?_⟩) (by assumption) ?_
  rotate_left
  · (intro w hSw; (try dsimp only at hSw); go_simp; try with_reducible rfl)
  try simp only [Act.put, List.setIfInBounds_toArray, List.set_cons_zero, List.set_cons_succ]
  refine wpAnyH_take (i := 11) (oi := _) (v := ?_) rfl (by kernel_rfl) (by kernel_rfl) (by kernel_rfl) (fun _ _ _ h => h) (Or.inl ⟨by rfl, ?_⟩) (by assumption) ?_
  rotate_left
  · (intro w hSw; (try dsimp only at hSw); go_simp; try with_reducible rfl)
  try simp only [Act.put, List.setIfInBounds_toArray, List.set_cons_zero, List.set_cons_succ]
  refine wpAnyH_take (i := 12) (oi := _) (v := ?_) rfl (by kernel_rfl) (by kernel_rfl) (by kernel_rfl) (fun _ _ _ h => h) (Or.inl ⟨by rfl, ?_⟩) (by assumption) ?_
  rotate_left
  · (intro w hSw; (try dsimp only at hSw); go_simp; try with_reducible rfl)
  try simp only [Act.put, List.setIfInBounds_toArray, List.set_cons_zero, List.set_cons_succ]
  refine wpAnyH_take (i := 13) (oi := _) (v := ?_) rfl (by kernel_rfl) (by kernel_rfl) (by kernel_rfl) (fun _ _ _ h => h) (Or.inl ⟨by rfl, ?_⟩) (by assumption) ?_
  rotate_left
  · (intro w hSw; (try dsimp only at hSw); go_simp; try with_reducible rfl)
  try simp only [Act.put, List.setIfInBounds_toArray, List.set_cons_zero, List.set_cons_succ]
  refine wpAnyH_take (i := 14) (oi := _) (v := ?_) rfl (by kernel_rfl) (by kernel_rfl) (by kernel_rfl) (fun _ _ _ h => h) (Or.inl ⟨by rfl, ?_⟩) (by assumption) ?_
  rotate_left
  · (intro w hSw; (try dsimp only at hSw); go_simp; try with_reducible rfl)
  try simp only [Act.put, List.setIfInBounds_toArray, List.set_cons_zero, List.set_cons_succ]
  refine wpAnyH_take (i := 15) (oi := _) (v := ?_) rfl (by kernel_rfl) (by kernel_rfl) (by kernel_rfl) (fun _ _ _ h => h) (Or.inl ⟨by rfl, ?_⟩) (by assumption) ?_
  rotate_left
  · (intro w hSw; (try dsimp only at hSw); go_simp; try with_reducible rfl)
  try simp only [Act.put, List.setIfInBounds_toArray, List.set_cons_zero, List.set_cons_succ]
  refine wpAnyH_take (i := 16) (oi := _) (v := ?_) rfl (by kernel_rfl) (by kernel_rfl) (by kernel_rfl) (fun _ _ _ h => h) (Or.inl ⟨by rfl, ?_⟩) (by assumption) ?_
  rotate_left
  · (intro w hSw; (try dsimp only at hSw); go_simp; try with_reducible rfl)
  try simp only [Act.put, List.setIfInBounds_toArray, List.set_cons_zero, List.set_cons_succ]
  refine wpAnyH_take (i := 17) (oi := _) (v := undef) rfl (by kernel_rfl) (by kernel_rfl) (by kernel_rfl) (fun _ _ _ h => h) (Or.inr ⟨by go_simp, rfl⟩) (by assumption) ?_
  try simp only [Act.put, List.setIfInBounds_toArray, List.set_cons_zero, List.set_cons_succ]
  refine wpAnyH_take (i := 18) (oi := _) (v := undef) rfl (by kernel_rfl) (by kernel_rfl) (by kernel_rfl) (fun _ _ _ h => h) (Or.inr ⟨by go_simp, rfl⟩) (by assumption) ?_
  try simp only [Act.put, List.setIfInBounds_toArray, List.set_cons_zero, List.set_cons_succ]
  refine wpAnyH_take (i := 19) (oi := _) (v := undef) rfl (by kernel_rfl) (by kernel_rfl) (by kernel_rfl) (fun _ _ _ h => h) (Or.inr ⟨by go_simp, rfl⟩) (by assumption) ?_
  try simp only [Act.put, List.setIfInBounds_toArray, List.set_cons_zero, List.set_cons_succ]
  refine wpAnyH_take (i := 20) (oi := _) (v := ?_) rfl (by kernel_rfl) (by kernel_rfl) (by kernel_rfl) (fun _ _ _ h => h) (Or.inl ⟨by rfl, ?_⟩) (by assumption) ?_
  rotate_left
  · (intro w hSw; (try dsimp only at hSw); go_simp; try with_reducible rfl)
  try simp only [Act.put, List.setIfInBounds_toArray, List.set_cons_zero, List.set_cons_succ]
  refine wpAnyH_ready (rs := [21]) (by kernel_rfl) (by simp) ?_
  refine AllReadyH.cons (o := _) rfl (fun K hK => ?_) AllReadyH.nil
  go_simp
  refine hK.out _ _ ?_ (fun hHeld => ?_)
  · go_keep
  clear hK K
  try simp only [Act.put, List.setIfInBounds_toArray, List.set_cons_zero, List.set_cons_succ]
  refine wpAnyH_take (i := 22) (oi := ⟨some 3, _, _, _, _, none⟩) (v := ?_) rfl (by kernel_rfl) (by kernel_rfl) (by kernel_rfl) (fun _ _ _ h => h) (Or.inl ⟨by rfl, ?_⟩) (by assumption) ?_
  rotate_left
  · (intro w hSw; (try dsimp only at hSw); go_simp; try with_reducible rfl)
  try simp only [Act.put, List.setIfInBounds_toArray, List.set_cons_zero, List.set_cons_succ]
  try simp only [List.getElem_toArray, List.getElem_cons_succ, List.getElem_cons_zero, Act.put, List.setIfInBounds_toArray, List.set_cons_zero, List.set_cons_succ]
  refine wpAnyH_done (by kernel_rfl) ?_ _
  try simp only [Act.put, List.setIfInBounds_toArray, List.set_cons_zero, List.set_cons_succ]
  go_wp2
  try simp only [List.set_cons_zero, List.set_cons_succ, List.setIfInBounds_toArray]
  all_goals (
    refine bodyPost_ret (results_cell_row_tmp rfl _ _ w.heap.size 25 #[.int .i64 kind, .int .i64 h, .int .i64 a, .int .i64 b, .int .i64 0, .int .i64 0, .slice A6 n6 c6, .slice A7 n7 c7] (0, 0) _ rfl ?_ Try.underlying25 rfl (by kernel_rfl)) rfl ?_
    · repeat (first | (with_reducible exact blk_new _ _) | (with_reducible refine blk_drewN ?_ _) | (with_reducible refine blk_drew ?_) | (with_reducible refine ret8 ?_) | (with_reducible refine blk_far ?_ hd1 _) | (with_reducible refine blk_alloc ?_ _))
    · exact ⟨rfl, by repeat (first | (with_reducible exact Below.refl _ _) | (with_reducible refine below8 ?_ (Nat.le_refl _)) | (with_reducible apply below_alloc) | (with_reducible apply pw_below_drewN) | (with_reducible apply below_drew1) | (with_reducible refine below_set ?_ (by omega)))⟩)
set_option maxHeartbeats 8000000 in
set_option maxRecDepth 100000 in
theorem flat_make_hi (kind h a b : Int) (A6 : Option Addr) (n6 c6 : Nat) (A7 : Option Addr) (n7 c7 : Nat) (w : World) (hk : 4 < kind) :
    Calls Try.prog 15 #[.iface 32 (.agg #[.int .i64 kind, .int .i64 h, .int .i64 a, .int .i64 b, .slice A6 n6 c6, .slice A7 n7 c7])] w fun e w' => e = .returned (.tuple #[.agg #[.int .i64 kind, .int .i64 h, .int .i64 a, .int .i64 b, .int .i64 0, .int .i64 0, .slice A6 n6 c6, .slice A7 n7 c7], .bool false]) ∧ Below w.heap.size w w' := by
  have hu25 := Try.underlying25
  have d1 : decide (1 ≤ kind) = true := decide_eq_true (by omega)
  have d2 : decide (kind ≤ 4) = false := decide_eq_false (by omega)
  clear hk
  have hd1 : w.heap.size ≠ w.heap.size + 1 := by omega
  have hd2 : w.heap.size + 1 ≠ w.heap.size := by omega
  go_enter Try.func15, Try.ntmps15
  go_wp2
  first | go_region_held3 (fun w' => w'.cell? ⟨w.heap.size + 1, 0, none⟩ = some (.int .i64 kind) ∧ w'.cell? ⟨w.heap.size + 1, 1, none⟩ = some (.int .i64 h) ∧ w'.cell? ⟨w.heap.size + 1, 2, none⟩ = some (.int .i64 a) ∧ w'.cell? ⟨w.heap.size + 1, 3, none⟩ = some (.int .i64 b) ∧ w'.cell? ⟨w.heap.size + 1, 4, none⟩ = some (.slice A6 n6 c6) ∧ w'.cell? ⟨w.heap.size + 1, 5, none⟩ = some (.slice A7 n7 c7)) (go_keep) (first | fail) | fail
  all_goals go_wp2
  all_goals (
    refine bodyPost_ret (results_cell_row_tmp rfl _ _ w.heap.size 25 #[.int .i64 kind, .int .i64 h, .int .i64 a, .int .i64 b, .int .i64 0, .int .i64 0, .slice A6 n6 c6, .slice A7 n7 c7] (0, 0) _ rfl ?_ Try.underlying25 rfl (by kernel_rfl)) rfl ?_
    · repeat (first | (with_reducible exact blk_new _ _) | (with_reducible refine blk_drewN ?_ _) | (with_reducible refine blk_drew ?_) | (with_reducible refine ret8 ?_) | (with_reducible refine blk_far ?_ hd1 _) | (with_reducible refine blk_alloc ?_ _))
    · exact ⟨rfl, by repeat (first | (with_reducible exact Below.refl _ _) | (with_reducible refine below8 ?_ (Nat.le_refl _)) | (with_reducible apply below_alloc) | (with_reducible apply pw_below_drewN) | (with_reducible apply below_drew1) | (with_reducible refine below_set ?_ (by omega)))⟩)
set_option maxHeartbeats 8000000 in
set_option maxRecDepth 100000 in
theorem flat_set (op h a b c d : Int) (A6 : Option Addr) (n6 c6 : Nat) (A7 : Option Addr) (n7 c7 : Nat) (w : World) (hk : 5 ≤ op ∧ op ≤ 12) :
    Calls Try.prog 15 #[.iface 36 (.agg #[.int .i64 op, .int .i64 h, .int .i64 a, .int .i64 b, .int .i64 c, .int .i64 d, .slice A6 n6 c6, .slice A7 n7 c7])] w fun e w' => e = .returned (.tuple #[.agg #[.int .i64 op, .int .i64 h, .int .i64 a, .int .i64 b, .int .i64 c, .int .i64 d, .slice A6 n6 c6, .slice A7 n7 c7], .bool true]) ∧ Below w.heap.size w w' := by
  have hu25 := Try.underlying25
  have d1 : decide (5 ≤ op) = true := decide_eq_true hk.1
  have d2 : decide (op ≤ 12) = true := decide_eq_true hk.2
  clear hk
  have hd1 : w.heap.size ≠ w.heap.size + 1 := by omega
  have hd2 : w.heap.size + 1 ≠ w.heap.size := by omega
  go_enter Try.func15, Try.ntmps15
  go_wp2
  first | go_region_held3 (fun w' => w'.cell? ⟨w.heap.size + 1, 0, none⟩ = some (.int .i64 op) ∧ w'.cell? ⟨w.heap.size + 1, 1, none⟩ = some (.int .i64 h) ∧ w'.cell? ⟨w.heap.size + 1, 2, none⟩ = some (.int .i64 a) ∧ w'.cell? ⟨w.heap.size + 1, 3, none⟩ = some (.int .i64 b) ∧ w'.cell? ⟨w.heap.size + 1, 4, none⟩ = some (.int .i64 c) ∧ w'.cell? ⟨w.heap.size + 1, 5, none⟩ = some (.int .i64 d) ∧ w'.cell? ⟨w.heap.size + 1, 6, none⟩ = some (.slice A6 n6 c6) ∧ w'.cell? ⟨w.heap.size + 1, 7, none⟩ = some (.slice A7 n7 c7)) (go_keep) (first | fail) | fail
  all_goals go_wp2
  all_goals (
    refine bodyPost_ret (results_cell_row_tmp rfl _ _ w.heap.size 25 #[.int .i64 op, .int .i64 h, .int .i64 a, .int .i64 b, .int .i64 c, .int .i64 d, .slice A6 n6 c6, .slice A7 n7 c7] (0, 0) _ rfl ?_ Try.underlying25 rfl (by kernel_rfl)) rfl ?_
    · repeat (first | (with_reducible exact blk_new _ _) | (with_reducible refine blk_drewN ?_ _) | (with_reducible refine blk_drew ?_) | (with_reducible refine ret8 ?_) | (with_reducible refine blk_far ?_ hd1 _) | (with_reducible refine blk_alloc ?_ _))
    · exact ⟨rfl, by repeat (first | (with_reducible exact Below.refl _ _) | (with_reducible refine below8 ?_ (Nat.le_refl _)) | (with_reducible apply below_alloc) | (with_reducible apply pw_below_drewN) | (with_reducible apply below_drew1) | (with_reducible refine below_set ?_ (by omega)))⟩)
set_option maxHeartbeats 8000000 in
set_option maxRecDepth 100000 in
theorem flat_set_lo (op h a b c d : Int) (A6 : Option Addr) (n6 c6 : Nat) (A7 : Option Addr) (n7 c7 : Nat) (w : World) (hk : op < 5) :
    Calls Try.prog 15 #[.iface 36 (.agg #[.int .i64 op, .int .i64 h, .int .i64 a, .int .i64 b, .int .i64 c, .int .i64 d, .slice A6 n6 c6, .slice A7 n7 c7])] w fun e w' => e = .returned (.tuple #[.agg #[.int .i64 op, .int .i64 h, .int .i64 a, .int .i64 b, .int .i64 c, .int .i64 d, .slice A6 n6 c6, .slice A7 n7 c7], .bool false]) ∧ Below w.heap.size w w' := by
  have hu25 := Try.underlying25
  have d1 : decide (5 ≤ op) = false := decide_eq_false (by omega)
  clear hk
  have hd1 : w.heap.size ≠ w.heap.size + 1 := by omega
  have hd2 : w.heap.size + 1 ≠ w.heap.size := by omega
  go_enter Try.func15, Try.ntmps15
  go_wp2
  refine wp_region_held_drew (S := fun w' => w'.cell? ⟨w.heap.size + 1, 0, none⟩ = some (.int .i64 op) ∧ w'.cell? ⟨w.heap.size + 1, 1, none⟩ = some (.int .i64 h) ∧ w'.cell? ⟨w.heap.size + 1, 2, none⟩ = some (.int .i64 a) ∧ w'.cell? ⟨w.heap.size + 1, 3, none⟩ = some (.int .i64 b) ∧ w'.cell? ⟨w.heap.size + 1, 4, none⟩ = some (.int .i64 c) ∧ w'.cell? ⟨w.heap.size + 1, 5, none⟩ = some (.int .i64 d) ∧ w'.cell? ⟨w.heap.size + 1, 6, none⟩ = some (.slice A6 n6 c6) ∧ w'.cell? ⟨w.heap.size + 1, 7, none⟩ = some (.slice A7 n7 c7)) (by kernel_rfl) ?_ (fun hHeld => ?_)
  · go_keep
  refine wpAnyH_take (i := 0) (oi := _) (v := ?_) rfl (by kernel_rfl) (by kernel_rfl) (by kernel_rfl) (fun _ _ _ h => h) (Or.inl ⟨by rfl, ?_⟩) (by assumption) ?_
  rotate_left
  · (intro w hSw; (try dsimp only at hSw); go_simp; try with_reducible rfl)
  try simp only [Act.put, List.setIfInBounds_toArray, List.set_cons_zero, List.set_cons_succ]
  refine wpAnyH_take (i := 1) (oi := _) (v := ?_) rfl (by kernel_rfl) (by kernel_rfl) (by kernel_rfl) (fun _ _ _ h => h) (Or.inl ⟨by rfl, ?_⟩) (by assumption) ?_
  rotate_left
  · (intro w hSw; (try dsimp only at hSw); go_simp; try with_reducible rfl)
  try simp only [Act.put, List.setIfInBounds_toArray, List.set_cons_zero, List.set_cons_succ]
  refine wpAnyH_take (i := 2) (oi := _) (v := ?_) rfl (by kernel_rfl) (by kernel_rfl) (by kernel_rfl) (fun _ _ _ h => h) (Or.inl ⟨by rfl, ?_⟩) (by assumption) ?_
  rotate_left
  · (intro w hSw; (try dsimp only at hSw); go_simp; try with_reducible rfl)
  try simp only [Act.put, List.setIfInBounds_toArray, List.set_cons_zero, List.set_cons_succ]
  refine wpAnyH_take (i := 3) (oi := _) (v := ?_) rfl (by kernel_rfl) (by kernel_rfl) (by kernel_rfl) (fun _ _ _ h => h) (Or.inl ⟨by rfl, ?_⟩) (by assumption) ?_
  rotate_left
  · (intro w hSw; (try dsimp only at hSw); go_simp; try with_reducible rfl)
  try simp only [Act.put, List.setIfInBounds_toArray, List.set_cons_zero, List.set_cons_succ]
  refine wpAnyH_take (i := 4) (oi := _) (v := ?_) rfl (by kernel_rfl) (by kernel_rfl) (by kernel_rfl) (fun _ _ _ h => h) (Or.inl ⟨by rfl, ?_⟩) (by assumption) ?_
  rotate_left
  · (intro w hSw; (try dsimp only at hSw); go_simp; try with_reducible rfl)
  try simp only [Act.put, List.setIfInBounds_toArray, List.set_cons_zero, List.set_cons_succ]
  refine wpAnyH_take (i := 5) (oi := _) (v := ?_) rfl (by kernel_rfl) (by kernel_rfl) (by kernel_rfl) (fun _ _ _ h => h) (Or.inl ⟨by rfl, ?_⟩) (by assumption) ?_
  rotate_left
  · (intro w hSw; (try dsimp only at hSw); go_simp; try with_reducible rfl)
  try simp only [Act.put, List.setIfInBounds_toArray, List.set_cons_zero, List.set_cons_succ]
  refine wpAnyH_take (i := 6) (oi := _) (v := ?_) rfl (by kernel_rfl) (by kernel_rfl) (by kernel_rfl) (fun _ _ _ h => h) (Or.inl ⟨by rfl, ?_⟩) (by assumption) ?_
  rotate_left
  · (intro w hSw; (try dsimp only at hSw); go_simp; try with_reducible rfl)
  try simp only [Act.put, List.setIfInBounds_toArray, List.set_cons_zero, List.set_cons_succ]
  refine wpAnyH_take (i := 7) (oi := _) (v := undef) rfl (by kernel_rfl) (by kernel_rfl) (by kernel_rfl) (fun _ _ _ h => h) (Or.inr ⟨by go_simp, rfl⟩) (by assumption) ?_
  try simp only [Act.put, List.setIfInBounds_toArray, List.set_cons_zero, List.set_cons_succ]
  refine wpAnyH_take (i := 8) (oi := _) (v := undef) rfl (by kernel_rfl) (by kernel_rfl) (by kernel_rfl) (fun _ _ _ h => h) (Or.inr ⟨by go_simp, rfl⟩) (by assumption) ?_
  try simp only [Act.put, List.setIfInBounds_toArray, List.set_cons_zero, List.set_cons_succ]
  refine wpAnyH_take (i := 9) (oi := _) (v := undef) rfl (by kernel_rfl) (by kernel_rfl) (by kernel_rfl) (fun _ _ _ h => h) (Or.inr ⟨by go_simp, rfl⟩) (by assumption) ?_
  try simp only [Act.put, List.setIfInBounds_toArray, List.set_cons_zero, List.set_cons_succ]
  refine wpAnyH_take (i := 10) (oi := _) (v := undef) rfl (by kernel_rfl) (by kernel_rfl) (by kernel_rfl) (fun _ _ _ h => h) (Or.inr ⟨by go_simp, rfl⟩) (by assumption) ?_
  try simp only [Act.put, List.setIfInBounds_toArray, List.set_cons_zero, List.set_cons_succ]
  refine wpAnyH_take (i := 11) (oi := _) (v := ?_) rfl (by kernel_rfl) (by kernel_rfl) (by kernel_rfl) (fun _ _ _ h => h) (Or.inl ⟨by rfl, ?_⟩) (by assumption) ?_
  rotate_left
  · (intro w hSw; (try dsimp only at hSw); go_simp; try with_reducible rfl)
  try simp only [Act.put, List.setIfInBounds_toArray, List.set_cons_zero, List.set_cons_succ]
  refine wpAnyH_ready (rs := [12]) (by kernel_rfl) (by simp) ?_
  refine AllReadyH.cons (o := _) rfl (fun K hK => ?_) AllReadyH.nil
  go_simp
  refine hK.out _ _ ?_ (fun hHeld => ?_)
  · go_keep
  clear hK K
  try simp only [Act.put, List.setIfInBounds_toArray, List.set_cons_zero, List.set_cons_succ]
  refine wpAnyH_take (i := 13) (oi := ⟨some 3, _, _, _, _, none⟩) (v := ?_) rfl (by kernel_rfl) (by kernel_rfl) (by kernel_rfl) (fun _ _ _ h => h) (Or.inl ⟨by rfl, ?_⟩) (by assumption) ?_
  rotate_left
  · (intro w hSw; (try dsimp only at hSw); go_simp; try with_reducible rfl)
  try simp only [Act.put, List.setIfInBounds_toArray, List.set_cons_zero, List.set_cons_succ]
  try simp only [List.getElem_toArray, List.getElem_cons_succ, List.getElem_cons_zero, Act.put, List.setIfInBounds_toArray, List.set_cons_zero, List.set_cons_succ]
  refine wpAnyH_done (by kernel_rfl) ?_ _
  try simp only [Act.put, List.setIfInBounds_toArray, List.set_cons_zero, List.set_cons_succ]
  go_wp2
  try simp only [List.set_cons_zero, List.set_cons_succ, List.setIfInBounds_toArray]
  all_goals (
    refine bodyPost_ret (results_cell_row_tmp rfl _ _ w.heap.size 25 #[.int .i64 op, .int .i64 h, .int .i64 a, .int .i64 b, .int .i64 c, .int .i64 d, .slice A6 n6 c6, .slice A7 n7 c7] (0, 0) _ rfl ?_ Try.underlying25 rfl (by kernel_rfl)) rfl ?_
    · repeat (first | (with_reducible exact blk_new _ _) | (with_reducible refine blk_drewN ?_ _) | (with_reducible refine blk_drew ?_) | (with_reducible refine ret8 ?_) | (with_reducible refine blk_far ?_ hd1 _) | (with_reducible refine blk_alloc ?_ _))
    · exact ⟨rfl, by repeat (first | (with_reducible exact Below.refl _ _) | (with_reducible refine below8 ?_ (Nat.le_refl _)) | (with_reducible apply below_alloc) | (with_reducible apply pw_below_drewN) | (with_reducible apply below_drew1) | (with_reducible refine below_set ?_ (by omega)))⟩)
set_option maxHeartbeats 8000000 in
set_option maxRecDepth 100000 in
theorem flat_set_hi (op h a b c d : Int) (A6 : Option Addr) (n6 c6 : Nat) (A7 : Option Addr) (n7 c7 : Nat) (w : World) (hk : 12 < op) :
    Calls Try.prog 15 #[.iface 36 (.agg #[.int .i64 op, .int .i64 h, .int .i64 a, .int .i64 b, .int .i64 c, .int .i64 d, .slice A6 n6 c6, .slice A7 n7 c7])] w fun e w' => e = .returned (.tuple #[.agg #[.int .i64 op, .int .i64 h, .int .i64 a, .int .i64 b, .int .i64 c, .int .i64 d, .slice A6 n6 c6, .slice A7 n7 c7], .bool false]) ∧ Below w.heap.size w w' := by
  have hu25 := Try.underlying25
  have d1 : decide (5 ≤ op) = true := decide_eq_true (by omega)
  have d2 : decide (op ≤ 12) = false := decide_eq_false (by omega)
  clear hk
  have hd1 : w.heap.size ≠ w.heap.size + 1 := by omega
  have hd2 : w.heap.size + 1 ≠ w.heap.size := by omega
  go_enter Try.func15, Try.ntmps15
  go_wp2
  first | go_region_held3 (fun w' => w'.cell? ⟨w.heap.size + 1, 0, none⟩ = some (.int .i64 op) ∧ w'.cell? ⟨w.heap.size + 1, 1, none⟩ = some (.int .i64 h) ∧ w'.cell? ⟨w.heap.size + 1, 2, none⟩ = some (.int .i64 a) ∧ w'.cell? ⟨w.heap.size + 1, 3, none⟩ = some (.int .i64 b) ∧ w'.cell? ⟨w.heap.size + 1, 4, none⟩ = some (.int .i64 c) ∧ w'.cell? ⟨w.heap.size + 1, 5, none⟩ = some (.int .i64 d) ∧ w'.cell? ⟨w.heap.size + 1, 6, none⟩ = some (.slice A6 n6 c6) ∧ w'.cell? ⟨w.heap.size + 1, 7, none⟩ = some (.slice A7 n7 c7)) (go_keep) (first | fail) | fail
  all_goals go_wp2
  all_goals (
    refine bodyPost_ret (results_cell_row_tmp rfl _ _ w.heap.size 25 #[.int .i64 op, .int .i64 h, .int .i64 a, .int .i64 b, .int .i64 c, .int .i64 d, .slice A6 n6 c6, .slice A7 n7 c7] (0, 0) _ rfl ?_ Try.underlying25 rfl (by kernel_rfl)) rfl ?_
    · repeat (first | (with_reducible exact blk_new _ _) | (with_reducible refine blk_drewN ?_ _) | (with_reducible refine blk_drew ?_) | (with_reducible refine ret8 ?_) | (with_reducible refine blk_far ?_ hd1 _) | (with_reducible refine blk_alloc ?_ _))
    · exact ⟨rfl, by repeat (first | (with_reducible exact Below.refl _ _) | (with_reducible refine below8 ?_ (Nat.le_refl _)) | (with_reducible apply below_alloc) | (with_reducible apply pw_below_drewN) | (with_reducible apply below_drew1) | (with_reducible refine below_set ?_ (by omega)))⟩)
set_option maxHeartbeats 8000000 in
set_option maxRecDepth 100000 in
theorem flat_mark (kind fence : Int) (w : World) (hk : 15 ≤ kind ∧ kind ≤ 17) :
    Calls Try.prog 15 #[.iface 34 (.agg #[.int .i64 kind, .int .i64 fence])] w fun e w' => e = .returned (.tuple #[.agg #[.int .i64 kind, .int .i64 0, .int .i64 fence, .int .i64 0, .int .i64 0, .int .i64 0, .slice none 0 0, .slice none 0 0], .bool true]) ∧ Below w.heap.size w w' := by
  have hu25 := Try.underlying25
  have d1 : decide (15 ≤ kind) = true := decide_eq_true hk.1
  have d2 : decide (kind ≤ 17) = true := decide_eq_true hk.2
  clear hk
  have hd1 : w.heap.size ≠ w.heap.size + 1 := by omega
  have hd2 : w.heap.size + 1 ≠ w.heap.size := by omega
  go_enter Try.func15, Try.ntmps15
  go_wp2
  refine wp_region_held_drew (S := fun w' => w'.cell? ⟨w.heap.size + 1, 0, none⟩ = some (.int .i64 kind) ∧ w'.cell? ⟨w.heap.size + 1, 1, none⟩ = some (.int .i64 fence)) (by kernel_rfl) ?_ (fun hHeld => ?_)
  · go_keep
  refine wpAnyH_take (i := 0) (oi := _) (v := ?_) rfl (by kernel_rfl) (by kernel_rfl) (by kernel_rfl) (fun _ _ _ h => h) (Or.inl ⟨by rfl, ?_⟩) (by assumption) ?_
  rotate_left
  · (intro w hSw; (try dsimp only at hSw); go_simp; try with_reducible rfl)
  try simp only [Act.put, List.setIfInBounds_toArray, List.set_cons_zero, List.set_cons_succ]
  refine wpAnyH_take (i := 1) (oi := _) (v := ?_) rfl (by kernel_rfl) (by kernel_rfl) (by kernel_rfl) (fun _ _ _ h => h) (Or.inl ⟨by rfl, ?_⟩) (by assumption) ?_
  rotate_left
  · (intro w hSw; (try dsimp only at hSw); go_simp; try with_reducible rfl)
  try simp only [Act.put, List.setIfInBounds_toArray, List.set_cons_zero, List.set_cons_succ]
  refine wpAnyH_take (i := 2) (oi := _) (v := ?_) rfl (by kernel_rfl) (by kernel_rfl) (by kernel_rfl) (fun _ _ _ h => h) (Or.inl ⟨by rfl, ?_⟩) (by assumption) ?_
  rotate_left
  · (intro w hSw; (try dsimp only at hSw); go_simp; try with_reducible rfl)
  try simp only [Act.put, List.setIfInBounds_toArray, List.set_cons_zero, List.set_cons_succ]
  refine wpAnyH_take (i := 3) (oi := _) (v := ?_) rfl (by kernel_rfl) (by kernel_rfl) (by kernel_rfl) (fun _ _ _ h => h) (Or.inl ⟨by rfl, ?_⟩) (by assumption) ?_
  rotate_left
  · (intro w hSw; (try dsimp only at hSw); go_simp; try with_reducible rfl)
  try simp only [Act.put, List.setIfInBounds_toArray, List.set_cons_zero, List.set_cons_succ]
  refine wpAnyH_take (i := 4) (oi := _) (v := ?_) rfl (by kernel_rfl) (by kernel_rfl) (by kernel_rfl) (fun _ _ _ h => h) (Or.inl ⟨by rfl, ?_⟩) (by assumption) ?_
  rotate_left
  · (intro w hSw; (try dsimp only at hSw); go_simp; try with_reducible rfl)
  try simp only [Act.put, List.setIfInBounds_toArray, List.set_cons_zero, List.set_cons_succ]
  refine wpAnyH_take (i := 5) (oi := _) (v := ?_) rfl (by kernel_rfl) (by kernel_rfl) (by kernel_rfl) (fun _ _ _ h => h) (Or.inl ⟨by rfl, ?_⟩) (by assumption) ?_
  rotate_left
  · (intro w hSw; (try dsimp only at hSw); go_simp; try with_reducible rfl)
  try simp only [Act.put, List.setIfInBounds_toArray, List.set_cons_zero, List.set_cons_succ]
  refine wpAnyH_take (i := 6) (oi := _) (v := ?_) rfl (by kernel_rfl) (by kernel_rfl) (by kernel_rfl) (fun _ _ _ h => h) (Or.inl ⟨by rfl, ?_⟩) (by assumption) ?_
  rotate_left
  · (intro w hSw; (try dsimp only at hSw); go_simp; try with_reducible rfl)
  try simp only [Act.put, List.setIfInBounds_toArray, List.set_cons_zero, List.set_cons_succ]
  refine wpAnyH_take (i := 7) (oi := _) (v := ?_) rfl (by kernel_rfl) (by kernel_rfl) (by kernel_rfl) (fun _ _ _ h => h) (Or.inl ⟨by rfl, ?_⟩) (by assumption) ?_
  rotate_left
  · (intro w hSw; (try dsimp only at hSw); go_simp; try with_reducible rfl)
  try simp only [Act.put, List.setIfInBounds_toArray, List.set_cons_zero, List.set_cons_succ]
  refine wpAnyH_take (i := 8) (oi := _) (v := ?_) rfl (by kernel_rfl) (by kernel_rfl) (by kernel_rfl) (fun _ _ _ h => h) (Or.inl ⟨by rfl, ?_⟩) (by assumption) ?_
  rotate_left
  · (intro w hSw; (try dsimp only at hSw); go_simp; try with_reducible rfl)
  try simp only [Act.put, List.setIfInBounds_toArray, List.set_cons_zero, List.set_cons_succ]
  refine wpAnyH_take (i := 9) (oi := _) (v := ?_) rfl (by kernel_rfl) (by kernel_rfl) (by kernel_rfl) (fun _ _ _ h => h) (Or.inl ⟨by go_simp, ?_⟩) (by assumption) ?_
  rotate_left
  · (intro w hSw; (try dsimp only at hSw); go_simp; try with_reducible rfl)
  try simp only [Act.put, List.setIfInBounds_toArray, List.set_cons_zero, List.set_cons_succ]
  refine wpAnyH_take (i := 10) (oi := _) (v := ?_) rfl (by kernel_rfl) (by kernel_rfl) (by kernel_rfl) (fun _ _ _ h => h) (Or.inl ⟨by go_simp, ?_⟩) (by assumption) ?_
  rotate_left
  · (intro w hSw; (try dsimp only at hSw); go_simp; try with_reducible rfl)
  try simp only [Act.put, List.setIfInBounds_toArray, List.set_cons_zero, List.set_cons_succ]
  refine wpAnyH_take (i := 11) (oi := _) (v := ?_) rfl (by kernel_rfl) (by kernel_rfl) (by kernel_rfl) (fun _ _ _ h => h) (Or.inl ⟨by go_simp, ?_⟩) (by assumption) ?_
  rotate_left
  · (intro w hSw; (try dsimp only at hSw); go_simp; try with_reducible rfl)
  try simp only [Act.put, List.setIfInBounds_toArray, List.set_cons_zero, List.set_cons_succ]
  refine wpAnyH_take (i := 12) (oi := _) (v := ?_) rfl (by kernel_rfl) (by kernel_rfl) (by kernel_rfl) (fun _ _ _ h => h) (Or.inl ⟨by rfl, ?_⟩) (by assumption) ?_
  rotate_left
  · (intro w hSw; (try dsimp only at hSw); go_simp; try with_reducible rfl)
  try simp only [Act.put, List.setIfInBounds_toArray, List.set_cons_zero, List.set_cons_succ]
  refine wpAnyH_take (i := 13) (oi := _) (v := ?_) rfl (by kernel_rfl) (by kernel_rfl) (by kernel_rfl) (fun _ _ _ h => h) (Or.inl ⟨by rfl, ?_⟩) (by assumption) ?_
  rotate_left
  · (intro w hSw; (try dsimp only at hSw); go_simp; try with_reducible rfl)
  try simp only [Act.put, List.setIfInBounds_toArray, List.set_cons_zero, List.set_cons_succ]
  refine wpAnyH_take (i := 14) (oi := _) (v := undef) rfl (by kernel_rfl) (by kernel_rfl) (by kernel_rfl) (fun _ _ _ h => h) (Or.inr ⟨by go_simp, rfl⟩) (by assumption) ?_
  try simp only [Act.put, List.setIfInBounds_toArray, List.set_cons_zero, List.set_cons_succ]
  refine wpAnyH_take (i := 15) (oi := _) (v := undef) rfl (by kernel_rfl) (by kernel_rfl) (by kernel_rfl) (fun _ _ _ h => h) (Or.inr ⟨by go_simp, rfl⟩) (by assumption) ?_
  try simp only [Act.put, List.setIfInBounds_toArray, List.set_cons_zero, List.set_cons_succ]
  refine wpAnyH_take (i := 16) (oi := _) (v := undef) rfl (by kernel_rfl) (by kernel_rfl) (by kernel_rfl) (fun _ _ _ h => h) (Or.inr ⟨by go_simp, rfl⟩) (by assumption) ?_
  try simp only [Act.put, List.setIfInBounds_toArray, List.set_cons_zero, List.set_cons_succ]
  refine wpAnyH_take (i := 17) (oi := _) (v := ?_) rfl (by kernel_rfl) (by kernel_rfl) (by kernel_rfl) (fun _ _ _ h => h) (Or.inl ⟨by rfl, ?_⟩) (by assumption) ?_
  rotate_left
  · (intro w hSw; (try dsimp only at hSw); go_simp; try with_reducible rfl)
  try simp only [Act.put, List.setIfInBounds_toArray, List.set_cons_zero, List.set_cons_succ]
  refine wpAnyH_ready (rs := [18]) (by kernel_rfl) (by simp) ?_
  refine AllReadyH.cons (o := _) rfl (fun K hK => ?_) AllReadyH.nil
  go_simp
  refine hK.out _ _ ?_ (fun hHeld => ?_)
  · go_keep
  clear hK K
  try simp only [Act.put, List.setIfInBounds_toArray, List.set_cons_zero, List.set_cons_succ]
  refine wpAnyH_take (i := 19) (oi := ⟨some 3, _, _, _, _, none⟩) (v := ?_) rfl (by kernel_rfl) (by kernel_rfl) (by kernel_rfl) (fun _ _ _ h => h) (Or.inl ⟨by rfl, ?_⟩) (by assumption) ?_
  rotate_left
  · (intro w hSw; (try dsimp only at hSw); go_simp; try with_reducible rfl)
  try simp only [Act.put, List.setIfInBounds_toArray, List.set_cons_zero, List.set_cons_succ]
  try simp only [List.getElem_toArray, List.getElem_cons_succ, List.getElem_cons_zero, Act.put, List.setIfInBounds_toArray, List.set_cons_zero, List.set_cons_succ]
  refine wpAnyH_done (by kernel_rfl) ?_ _
  try simp only [Act.put, List.setIfInBounds_toArray, List.set_cons_zero, List.set_cons_succ]
  go_wp2
  try simp only [List.set_cons_zero, List.set_cons_succ, List.setIfInBounds_toArray]
  all_goals (
    refine bodyPost_ret (results_cell_row_tmp rfl _ _ w.heap.size 25 #[.int .i64 kind, .int .i64 0, .int .i64 fence, .int .i64 0, .int .i64 0, .int .i64 0, .slice none 0 0, .slice none 0 0] (0, 0) _ rfl ?_ Try.underlying25 rfl (by kernel_rfl)) rfl ?_
    · repeat (first | (with_reducible exact blk_new _ _) | (with_reducible refine blk_drewN ?_ _) | (with_reducible refine blk_drew ?_) | (with_reducible refine ret8 ?_) | (with_reducible refine blk_far ?_ hd1 _) | (with_reducible refine blk_alloc ?_ _))
    · exact ⟨rfl, by repeat (first | (with_reducible exact Below.refl _ _) | (with_reducible refine below8 ?_ (Nat.le_refl _)) | (with_reducible apply below_alloc) | (with_reducible apply pw_below_drewN) | (with_reducible apply below_drew1) | (with_reducible refine below_set ?_ (by omega)))⟩)
set_option maxHeartbeats 8000000 in
set_option maxRecDepth 100000 in
theorem flat_mark_19 (kind fence : Int) (w : World) (hk : kind = 19) :
    Calls Try.prog 15 #[.iface 34 (.agg #[.int .i64 kind, .int .i64 fence])] w fun e w' => e = .returned (.tuple #[.agg #[.int .i64 kind, .int .i64 0, .int .i64 fence, .int .i64 0, .int .i64 0, .int .i64 0, .slice none 0 0, .slice none 0 0], .bool true]) ∧ Below w.heap.size w w' := by
  have hu25 := Try.underlying25
  have d1 : decide (15 ≤ kind) = true := decide_eq_true (by omega)
  have d2 : decide (kind ≤ 17) = false := decide_eq_false (by omega)
  have d3 : (kind == 19) = true := beq_iff_eq.mpr hk
  clear hk
  have hd1 : w.heap.size ≠ w.heap.size + 1 := by omega
  have hd2 : w.heap.size + 1 ≠ w.heap.size := by omega
  go_enter Try.func15, Try.ntmps15
  go_wp2
  first | go_region_held3 (fun w' => w'.cell? ⟨w.heap.size + 1, 0, none⟩ = some (.int .i64 kind) ∧ w'.cell? ⟨w.heap.size + 1, 1, none⟩ = some (.int .i64 fence)) (go_keep) (first | fail) | fail
  all_goals go_wp2
  all_goals (
    refine bodyPost_ret (results_cell_row_tmp rfl _ _ w.heap.size 25 #[.int .i64 kind, .int .i64 0, .int .i64 fence, .int .i64 0, .int .i64 0, .int .i64 0, .slice none 0 0, .slice none 0 0] (0, 0) _ rfl ?_ Try.underlying25 rfl (by kernel_rfl)) rfl ?_
    · repeat (first | (with_reducible exact blk_new _ _) | (with_reducible refine blk_drewN ?_ _) | (with_reducible refine blk_drew ?_) | (with_reducible refine ret8 ?_) | (with_reducible refine blk_far ?_ hd1 _) | (with_reducible refine blk_alloc ?_ _))
    · exact ⟨rfl, by repeat (first | (with_reducible exact Below.refl _ _) | (with_reducible refine below8 ?_ (Nat.le_refl _)) | (with_reducible apply below_alloc) | (with_reducible apply pw_below_drewN) | (with_reducible apply below_drew1) | (with_reducible refine below_set ?_ (by omega)))⟩)
set_option maxHeartbeats 8000000 in
set_option maxRecDepth 100000 in
theorem flat_mark_lo (kind fence : Int) (w : World) (hk : kind < 15) :
    Calls Try.prog 15 #[.iface 34 (.agg #[.int .i64 kind, .int .i64 fence])] w fun e w' => e = .returned (.tuple #[.agg #[.int .i64 kind, .int .i64 0, .int .i64 fence, .int .i64 0, .int .i64 0, .int .i64 0, .slice none 0 0, .slice none 0 0], .bool false]) ∧ Below w.heap.size w w' := by
  have hu25 := Try.underlying25
  have d1 : decide (15 ≤ kind) = false := decide_eq_false (by omega)
  have d3 : (kind == 19) = false := beq_eq_false_iff_ne.mpr (by omega)
  clear hk
  have hd1 : w.heap.size ≠ w.heap.size + 1 := by omega
  have hd2 : w.heap.size + 1 ≠ w.heap.size := by omega
  go_enter Try.func15, Try.ntmps15
  go_wp2
  refine wp_region_held_drew (S := fun w' => w'.cell? ⟨w.heap.size + 1, 0, none⟩ = some (.int .i64 kind) ∧ w'.cell? ⟨w.heap.size + 1, 1, none⟩ = some (.int .i64 fence)) (by kernel_rfl) ?_ (fun hHeld => ?_)
  · go_keep
  refine wpAnyH_take (i := 0) (oi := _) (v := ?_) rfl (by kernel_rfl) (by kernel_rfl) (by kernel_rfl) (fun _ _ _ h => h) (Or.inl ⟨by rfl, ?_⟩) (by assumption) ?_
  rotate_left
  · (intro w hSw; (try dsimp only at hSw); go_simp; try with_reducible rfl)
  try simp only [Act.put, List.setIfInBounds_toArray, List.set_cons_zero, List.set_cons_succ]
  refine wpAnyH_take (i := 1) (oi := _) (v := ?_) rfl (by kernel_rfl) (by kernel_rfl) (by kernel_rfl) (fun _ _ _ h => h) (Or.inl ⟨by rfl, ?_⟩) (by assumption) ?_
  rotate_left
  · (intro w hSw; (try dsimp only at hSw); go_simp; try with_reducible rfl)
  try simp only [Act.put, List.setIfInBounds_toArray, List.set_cons_zero, List.set_cons_succ]
  refine wpAnyH_take (i := 2) (oi := _) (v := ?_) rfl (by kernel_rfl) (by kernel_rfl) (by kernel_rfl) (fun _ _ _ h => h) (Or.inl ⟨by rfl, ?_⟩) (by assumption) ?_
  rotate_left
  · (intro w hSw; (try dsimp only at hSw); go_simp; try with_reducible rfl)
  try simp only [Act.put, List.setIfInBounds_toArray, List.set_cons_zero, List.set_cons_succ]
  refine wpAnyH_take (i := 3) (oi := _) (v := ?_) rfl (by kernel_rfl) (by kernel_rfl) (by kernel_rfl) (fun _ _ _ h => h) (Or.inl ⟨by rfl, ?_⟩) (by assumption) ?_
  rotate_left
  · (intro w hSw; (try dsimp only at hSw); go_simp; try with_reducible rfl)
  try simp only [Act.put, List.setIfInBounds_toArray, List.set_cons_zero, List.set_cons_succ]
  refine wpAnyH_take (i := 4) (oi := _) (v := ?_) rfl (by kernel_rfl) (by kernel_rfl) (by kernel_rfl) (fun _ _ _ h => h) (Or.inl ⟨by rfl, ?_⟩) (by assumption) ?_
  rotate_left
  · (intro w hSw; (try dsimp only at hSw); go_simp; try with_reducible rfl)
  try simp only [Act.put, List.setIfInBounds_toArray, List.set_cons_zero, List.set_cons_succ]
  refine wpAnyH_take (i := 5) (oi := _) (v := ?_) rfl (by kernel_rfl) (by kernel_rfl) (by kernel_rfl) (fun _ _ _ h => h) (Or.inl ⟨by rfl, ?_⟩) (by assumption) ?_
  rotate_left
  · (intro w hSw; (try dsimp only at hSw); go_simp; try with_reducible rfl)
  try simp only [Act.put, List.setIfInBounds_toArray, List.set_cons_zero, List.set_cons_succ]
  refine wpAnyH_take (i := 6) (oi := _) (v := ?_) rfl (by kernel_rfl) (by kernel_rfl) (by kernel_rfl) (fun _ _ _ h => h) (Or.inl ⟨by rfl, ?_⟩) (by assumption) ?_
  rotate_left
  · (intro w hSw; (try dsimp only at hSw); go_simp; try with_reducible rfl)
  try simp only [Act.put, List.setIfInBounds_toArray, List.set_cons_zero, List.set_cons_succ]
  refine wpAnyH_take (i := 7) (oi := _) (v := ?_) rfl (by kernel_rfl) (by kernel_rfl) (by kernel_rfl) (fun _ _ _ h => h) (Or.inl ⟨by rfl, ?_⟩) (by assumption) ?_
  rotate_left
  · (intro w hSw; (try dsimp only at hSw); go_simp; try with_reducible rfl)
  try simp only [Act.put, List.setIfInBounds_toArray, List.set_cons_zero, List.set_cons_succ]
  refine wpAnyH_take (i := 8) (oi := _) (v := ?_) rfl (by kernel_rfl) (by kernel_rfl) (by kernel_rfl) (fun _ _ _ h => h) (Or.inl ⟨by rfl, ?_⟩) (by assumption) ?_
  rotate_left
  · (intro w hSw; (try dsimp only at hSw); go_simp; try with_reducible rfl)
  try simp only [Act.put, List.setIfInBounds_toArray, List.set_cons_zero, List.set_cons_succ]
  refine wpAnyH_take (i := 9) (oi := _) (v := undef) rfl (by kernel_rfl) (by kernel_rfl) (by kernel_rfl) (fun _ _ _ h => h) (Or.inr ⟨by go_simp, rfl⟩) (by assumption) ?_
  try simp only [Act.put, List.setIfInBounds_toArray, List.set_cons_zero, List.set_cons_succ]
  refine wpAnyH_take (i := 10) (oi := _) (v := undef) rfl (by kernel_rfl) (by kernel_rfl) (by kernel_rfl) (fun _ _ _ h => h) (Or.inr ⟨by go_simp, rfl⟩) (by assumption) ?_
  try simp only [Act.put, List.setIfInBounds_toArray, List.set_cons_zero, List.set_cons_succ]
  refine wpAnyH_take (i := 11) (oi := _) (v := undef) rfl (by kernel_rfl) (by kernel_rfl) (by kernel_rfl) (fun _ _ _ h => h) (Or.inr ⟨by go_simp, rfl⟩) (by assumption) ?_
  try simp only [Act.put, List.setIfInBounds_toArray, List.set_cons_zero, List.set_cons_succ]
  refine wpAnyH_take (i := 12) (oi := _) (v := ?_) rfl (by kernel_rfl) (by kernel_rfl) (by kernel_rfl) (fun _ _ _ h => h) (Or.inl ⟨by rfl, ?_⟩) (by assumption) ?_
  rotate_left
  · (intro w hSw; (try dsimp only at hSw); go_simp; try with_reducible rfl)
  try simp only [Act.put, List.setIfInBounds_toArray, List.set_cons_zero, List.set_cons_succ]
  refine wpAnyH_take (i := 13) (oi := _) (v := ?_) rfl (by kernel_rfl) (by kernel_rfl) (by kernel_rfl) (fun _ _ _ h => h) (Or.inl ⟨by rfl, ?_⟩) (by assumption) ?_
  rotate_left
  · (intro w hSw; (try dsimp only at hSw); go_simp; try with_reducible rfl)
  try simp only [Act.put, List.setIfInBounds_toArray, List.set_cons_zero, List.set_cons_succ]
  refine wpAnyH_take (i := 14) (oi := _) (v := ?_) rfl (by kernel_rfl) (by kernel_rfl) (by kernel_rfl) (fun _ _ _ h => h) (Or.inl ⟨by go_simp, ?_⟩) (by assumption) ?_
  rotate_left
  · (intro w hSw; (try dsimp only at hSw); go_simp; try with_reducible rfl)
  try simp only [Act.put, List.setIfInBounds_toArray, List.set_cons_zero, List.set_cons_succ]
  refine wpAnyH_take (i := 15) (oi := _) (v := ?_) rfl (by kernel_rfl) (by kernel_rfl) (by kernel_rfl) (fun _ _ _ h => h) (Or.inl ⟨by go_simp, ?_⟩) (by assumption) ?_
  rotate_left
  · (intro w hSw; (try dsimp only at hSw); go_simp; try with_reducible rfl)
  try simp only [Act.put, List.setIfInBounds_toArray, List.set_cons_zero, List.set_cons_succ]
  refine wpAnyH_take (i := 16) (oi := _) (v := ?_) rfl (by kernel_rfl) (by kernel_rfl) (by kernel_rfl) (fun _ _ _ h => h) (Or.inl ⟨by go_simp, ?_⟩) (by assumption) ?_
  rotate_left
  · (intro w hSw; (try dsimp only at hSw); go_simp; try with_reducible rfl)
  try simp only [Act.put, List.setIfInBounds_toArray, List.set_cons_zero, List.set_cons_succ]
  refine wpAnyH_take (i := 17) (oi := _) (v := ?_) rfl (by kernel_rfl) (by kernel_rfl) (by kernel_rfl) (fun _ _ _ h => h) (Or.inl ⟨by rfl, ?_⟩) (by assumption) ?_
  rotate_left
  · (intro w hSw; (try dsimp only at hSw); go_simp; try with_reducible rfl)
  try simp only [Act.put, List.setIfInBounds_toArray, List.set_cons_zero, List.set_cons_succ]
  refine wpAnyH_ready (rs := [18]) (by kernel_rfl) (by simp) ?_
  refine AllReadyH.cons (o := _) rfl (fun K hK => ?_) AllReadyH.nil
  go_simp
  refine hK.out _ _ ?_ (fun hHeld => ?_)
  · go_keep
  clear hK K
  try simp only [Act.put, List.setIfInBounds_toArray, List.set_cons_zero, List.set_cons_succ]
  refine wpAnyH_take (i := 19) (oi := ⟨some 3, _, _, _, _, none⟩) (v := ?_) rfl (by kernel_rfl) (by kernel_rfl) (by kernel_rfl) (fun _ _ _ h => h) (Or.inl ⟨by rfl, ?_⟩) (by assumption) ?_
  rotate_left
  · (intro w hSw; (try dsimp only at hSw); go_simp; try with_reducible rfl)
  try simp only [Act.put, List.setIfInBounds_toArray, List.set_cons_zero, List.set_cons_succ]
  try simp only [List.getElem_toArray, List.getElem_cons_succ, List.getElem_cons_zero, Act.put, List.setIfInBounds_toArray, List.set_cons_zero, List.set_cons_succ]
  refine wpAnyH_done (by kernel_rfl) ?_ _
  try simp only [Act.put, List.setIfInBounds_toArray, List.set_cons_zero, List.set_cons_succ]
  go_wp2
  try simp only [List.set_cons_zero, List.set_cons_succ, List.setIfInBounds_toArray]
  all_goals (
    refine bodyPost_ret (results_cell_row_tmp rfl _ _ w.heap.size 25 #[.int .i64 kind, .int .i64 0, .int .i64 fence, .int .i64 0, .int .i64 0, .int .i64 0, .slice none 0 0, .slice none 0 0] (0, 0) _ rfl ?_ Try.underlying25 rfl (by kernel_rfl)) rfl ?_
    · repeat (first | (with_reducible exact blk_new _ _) | (with_reducible refine blk_drewN ?_ _) | (with_reducible refine blk_drew ?_) | (with_reducible refine ret8 ?_) | (with_reducible refine blk_far ?_ hd1 _) | (with_reducible refine blk_alloc ?_ _))
    · exact ⟨rfl, by repeat (first | (with_reducible exact Below.refl _ _) | (with_reducible refine below8 ?_ (Nat.le_refl _)) | (with_reducible apply below_alloc) | (with_reducible apply pw_below_drewN) | (with_reducible apply below_drew1) | (with_reducible refine below_set ?_ (by omega)))⟩)
set_option maxHeartbeats 8000000 in
set_option maxRecDepth 100000 in
theorem flat_mark_hi (kind fence : Int) (w : World) (hk : 17 < kind ∧ kind ≠ 19) :
    Calls Try.prog 15 #[.iface 34 (.agg #[.int .i64 kind, .int .i64 fence])] w fun e w' => e = .returned (.tuple #[.agg #[.int .i64 kind, .int .i64 0, .int .i64 fence, .int .i64 0, .int .i64 0, .int .i64 0, .slice none 0 0, .slice none 0 0], .bool false]) ∧ Below w.heap.size w w' := by
  have hu25 := Try.underlying25
  have d1 : decide (15 ≤ kind) = true := decide_eq_true (by omega)
  have d2 : decide (kind ≤ 17) = false := decide_eq_false (by omega)
  have d3 : (kind == 19) = false := beq_eq_false_iff_ne.mpr (by omega)
  clear hk
  have hd1 : w.heap.size ≠ w.heap.size + 1 := by omega
  have hd2 : w.heap.size + 1 ≠ w.heap.size := by omega
  go_enter Try.func15, Try.ntmps15
  go_wp2
  first | go_region_held3 (fun w' => w'.cell? ⟨w.heap.size + 1, 0, none⟩ = some (.int .i64 kind) ∧ w'.cell? ⟨w.heap.size + 1, 1, none⟩ = some (.int .i64 fence)) (go_keep) (first | fail) | fail
  all_goals go_wp2
  all_goals (
    refine bodyPost_ret (results_cell_row_tmp rfl _ _ w.heap.size 25 #[.int .i64 kind, .int .i64 0, .int .i64 fence, .int .i64 0, .int .i64 0, .int .i64 0, .slice none 0 0, .slice none 0 0] (0, 0) _ rfl ?_ Try.underlying25 rfl (by kernel_rfl)) rfl ?_
    · repeat (first | (with_reducible exact blk_new _ _) | (with_reducible refine blk_drewN ?_ _) | (with_reducible refine blk_drew ?_) | (with_reducible refine ret8 ?_) | (with_reducible refine blk_far ?_ hd1 _) | (with_reducible refine blk_alloc ?_ _))
    · exact ⟨rfl, by repeat (first | (with_reducible exact Below.refl _ _) | (with_reducible refine below8 ?_ (Nat.le_refl _)) | (with_reducible apply below_alloc) | (with_reducible apply pw_below_drewN) | (with_reducible apply below_drew1) | (with_reducible refine below_set ?_ (by omega)))⟩)
set_option maxHeartbeats 8000000 in
set_option maxRecDepth 100000 in
theorem flat_wipe (a b c d : Int) (w : World)  :
    Calls Try.prog 15 #[.iface 67 (.agg #[.int .i64 a, .int .i64 b, .int .i64 c, .int .i64 d])] w fun e w' => e = .returned (.tuple #[.agg #[.int .i64 13, .int .i64 0, .int .i64 a, .int .i64 b, .int .i64 c, .int .i64 d, .slice none 0 0, .slice none 0 0], .bool true]) ∧ Below w.heap.size w w' := by
  have hu25 := Try.underlying25
  have hd1 : w.heap.size ≠ w.heap.size + 1 := by omega
  have hd2 : w.heap.size + 1 ≠ w.heap.size := by omega
  go_enter Try.func15, Try.ntmps15
  go_wp2
  all_goals (
    refine bodyPost_ret (results_cell_row_tmp rfl _ _ w.heap.size 25 #[.int .i64 13, .int .i64 0, .int .i64 a, .int .i64 b, .int .i64 c, .int .i64 d, .slice none 0 0, .slice none 0 0] (0, 0) _ rfl ?_ Try.underlying25 rfl (by kernel_rfl)) rfl ?_
    · repeat (first | (with_reducible exact blk_new _ _) | (with_reducible refine blk_drewN ?_ _) | (with_reducible refine blk_drew ?_) | (with_reducible refine ret8 ?_) | (with_reducible refine blk_far ?_ hd1 _) | (with_reducible refine blk_alloc ?_ _))
    · exact ⟨rfl, by repeat (first | (with_reducible exact Below.refl _ _) | (with_reducible refine below8 ?_ (Nat.le_refl _)) | (with_reducible apply below_alloc) | (with_reducible apply pw_below_drewN) | (with_reducible apply below_drew1) | (with_reducible refine below_set ?_ (by omega)))⟩)
set_option maxHeartbeats 8000000 in
set_option maxRecDepth 100000 in
theorem flat_draw (h a b c : Int) (w : World)  :
    Calls Try.prog 15 #[.iface 49 (.agg #[.int .i64 h, .int .i64 a, .int .i64 b, .int .i64 c])] w fun e w' => e = .returned (.tuple #[.agg #[.int .i64 14, .int .i64 h, .int .i64 a, .int .i64 b, .int .i64 c, .int .i64 0, .slice none 0 0, .slice none 0 0], .bool true]) ∧ Below w.heap.size w w' := by
  have hu25 := Try.underlying25
  have hd1 : w.heap.size ≠ w.heap.size + 1 := by omega
  have hd2 : w.heap.size + 1 ≠ w.heap.size := by omega
  go_enter Try.func15, Try.ntmps15
  go_wp2
  all_goals (
    refine bodyPost_ret (results_cell_row_tmp rfl _ _ w.heap.size 25 #[.int .i64 14, .int .i64 h, .int .i64 a, .int .i64 b, .int .i64 c, .int .i64 0, .slice none 0 0, .slice none 0 0] (0, 0) _ rfl ?_ Try.underlying25 rfl (by kernel_rfl)) rfl ?_
    · repeat (first | (with_reducible exact blk_new _ _) | (with_reducible refine blk_drewN ?_ _) | (with_reducible refine blk_drew ?_) | (with_reducible refine ret8 ?_) | (with_reducible refine blk_far ?_ hd1 _) | (with_reducible refine blk_alloc ?_ _))
    · exact ⟨rfl, by repeat (first | (with_reducible exact Below.refl _ _) | (with_reducible refine below8 ?_ (Nat.le_refl _)) | (with_reducible apply below_alloc) | (with_reducible apply pw_below_drewN) | (with_reducible apply below_drew1) | (with_reducible refine below_set ?_ (by omega)))⟩)
set_option maxHeartbeats 8000000 in
set_option maxRecDepth 100000 in
theorem flat_look (h a b c d : Int) (w : World)  :
    Calls Try.prog 15 #[.iface 69 (.agg #[.int .i64 h, .int .i64 a, .int .i64 b, .int .i64 c, .int .i64 d])] w fun e w' => e = .returned (.tuple #[.agg #[.int .i64 18, .int .i64 h, .int .i64 a, .int .i64 b, .int .i64 c, .int .i64 d, .slice none 0 0, .slice none 0 0], .bool true]) ∧ Below w.heap.size w w' := by
  have hu25 := Try.underlying25
  have hd1 : w.heap.size ≠ w.heap.size + 1 := by omega
  have hd2 : w.heap.size + 1 ≠ w.heap.size := by omega
  go_enter Try.func15, Try.ntmps15
  go_wp2
  all_goals (
    refine bodyPost_ret (results_cell_row_tmp rfl _ _ w.heap.size 25 #[.int .i64 18, .int .i64 h, .int .i64 a, .int .i64 b, .int .i64 c, .int .i64 d, .slice none 0 0, .slice none 0 0] (0, 0) _ rfl ?_ Try.underlying25 rfl (by kernel_rfl)) rfl ?_
    · repeat (first | (with_reducible exact blk_new _ _) | (with_reducible refine blk_drewN ?_ _) | (with_reducible refine blk_drew ?_) | (with_reducible refine ret8 ?_) | (with_reducible refine blk_far ?_ hd1 _) | (with_reducible refine blk_alloc ?_ _))
    · exact ⟨rfl, by repeat (first | (with_reducible exact Below.refl _ _) | (with_reducible refine below8 ?_ (Nat.le_refl _)) | (with_reducible apply below_alloc) | (with_reducible apply pw_below_drewN) | (with_reducible apply below_drew1) | (with_reducible refine below_set ?_ (by omega)))⟩)
end Go.Proofs.Ytcadgbeablpnmaa.PCmd
