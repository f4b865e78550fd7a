/- cmd.Own, walked by hand, kind by kind. -/
import Derived.Test.YtcadgbeablpnmaaCmdROwn
import Derived.Outline
import Derived.WalkSpells
import Derived.Deep.RegionHeld3
namespace Go.Proofs.Ytcadgbeablpnmaa.PCmd
open Go.RowKit Go.Proofs.YtcadgbeablpnmaaW.PrintWords Go.Proofs.YtcadgbeablpnmaaW.PrintLast Go.Proofs.YtcadgbeablpnmaaW.PrintMore
attribute [local go_sem] max2_int min2_int max_two min_two max_three min_three max_four min_four   -- for this text's walks alone
set_option linter.unusedVariables false
set_option linter.unusedSimpArgs false

attribute [local go_sem] alloc_drewN setCell_drewN
theorem blk_new3 (w : World) (o o1 o2 : Obj) : (((w.alloc o).alloc o1).alloc o2).heap[w.heap.size + 1 + 1]? = some o2 := by
  have h := blk_new2 (w.alloc o) o1 o2
  simpa using h
theorem clone_facts {α : Type} {kd : Kd α} {e : Nat} {w W w1 : World} {v : Value} {l : List α} {cobj zobj oobj : Obj} (hb : Below W.heap.size W w1) (hR : kd.R e w1 W.heap.size (fun _ => True) v l) (hc : W.heap[w.heap.size]? = some cobj) (hz : W.heap[w.heap.size + 1]? = some zobj) (ho : W.heap[w.heap.size + 1 + 1]? = some oobj) (hB : Below w.heap.size w W) :
    w1.heap[w.heap.size]? = some cobj ∧ w1.heap[w.heap.size + 1]? = some zobj ∧ w1.heap[w.heap.size + 1 + 1]? = some oobj ∧ Below w.heap.size w w1 ∧ kd.R e w1 w.heap.size (fun k => w.heap.size + 1 + 1 < k) v l ∧ w.heap.size + 1 + 1 < w1.heap.size := by
  have h2 : w.heap.size + 1 + 1 < W.heap.size := blk_lt ho
  have ho1 := blk_below ho hb
  exact ⟨blk_below hc hb, blk_below hz hb, ho1, below_step hB hb, Kd.R_lower (Kd.R_mono (Kd.R_bound hR) (fun k hk => Nat.lt_of_lt_of_le h2 hk.2.1)) (by omega), blk_lt ho1⟩

set_option maxHeartbeats 8000000 in
set_option maxRecDepth 100000 in
theorem own_none (op h a b c d : Int) (A6 : Option Addr) (c6 : Nat) (l6 : List Int) (A7 : Option Addr) (c7 : Nat) (l7 : List S60) (w : World) (hop : op < 1 ∨ 19 < op) :
    Calls Try.prog 11 #[.agg #[.int .i64 op, .int .i64 h, .int .i64 a, .int .i64 b, .int .i64 c, .int .i64 d, .slice A6 l6.length c6, .slice A7 l7.length c7]] w fun e w' => e = .returned (.agg #[.int .i64 0, .int .i64 0, .int .i64 0, .int .i64 0, .int .i64 0, .int .i64 0, .slice none 0 0, .slice none 0 0]) ∧ Below w.heap.size w w' := by
  have hu25 := Try.underlying25
  have e1 : (op == 1) = false := beq_eq_false_iff_ne.mpr (by omega)
  have e2 : (op == 2) = false := beq_eq_false_iff_ne.mpr (by omega)
  have e3 : (op == 3) = false := beq_eq_false_iff_ne.mpr (by omega)
  have e4 : (op == 4) = false := beq_eq_false_iff_ne.mpr (by omega)
  have e5 : (op == 5) = false := beq_eq_false_iff_ne.mpr (by omega)
  have e6 : (op == 6) = false := beq_eq_false_iff_ne.mpr (by omega)
  have e7 : (op == 7) = false := beq_eq_false_iff_ne.mpr (by omega)
  have e8 : (op == 8) = false := beq_eq_false_iff_ne.mpr (by omega)
  have e9 : (op == 9) = false := beq_eq_false_iff_ne.mpr (by omega)
  have e10 : (op == 10) = false := beq_eq_false_iff_ne.mpr (by omega)
  have e11 : (op == 11) = false := beq_eq_false_iff_ne.mpr (by omega)
  have e12 : (op == 12) = false := beq_eq_false_iff_ne.mpr (by omega)
  have e13 : (op == 13) = false := beq_eq_false_iff_ne.mpr (by omega)
  have e14 : (op == 14) = false := beq_eq_false_iff_ne.mpr (by omega)
  have e15 : (op == 15) = false := beq_eq_false_iff_ne.mpr (by omega)
  have e16 : (op == 16) = false := beq_eq_false_iff_ne.mpr (by omega)
  have e17 : (op == 17) = false := beq_eq_false_iff_ne.mpr (by omega)
  have e18 : (op == 18) = false := beq_eq_false_iff_ne.mpr (by omega)
  have e19 : (op == 19) = false := beq_eq_false_iff_ne.mpr (by omega)
  clear hop
  go_enter Try.func11, Try.ntmps11
  go_wp2
  all_goals (refine bodyPost_ret (results_cell_row rfl _ _ (w.heap.size + 1) 25 #[.int .i64 0, .int .i64 0, .int .i64 0, .int .i64 0, .int .i64 0, .int .i64 0, .slice none 0 0, .slice none 0 0] (0, 0) _ rfl ?_ Try.underlying25 rfl (by kernel_rfl)) rfl ?_)
  · repeat (first | (with_reducible exact blk_new2 _ _ _) | (with_reducible refine blk_drewN ?_ _) | (with_reducible refine blk_drew ?_) | (with_reducible refine ret8 ?_) | (with_reducible refine blk_far ?_ (by show w.heap.size + 1 ≠ w.heap.size + 1 + 1; omega) _) | (with_reducible refine blk_alloc ?_ _))
  · exact ⟨rfl, by repeat (first | (with_reducible exact Below.refl _ _) | (with_reducible refine below8 ?_ (Nat.le_succ _)) | (with_reducible apply below_alloc) | (with_reducible apply pw_below_drewN) | (with_reducible apply below_drew1) | (with_reducible refine below_set ?_ (by omega)))⟩
set_option maxHeartbeats 8000000 in
set_option maxRecDepth 100000 in
theorem rown_none (op h a b c d : Int) (A6 : Option Addr) (c6 : Nat) (l6 : List Int) (A7 : Option Addr) (c7 : Nat) (l7 : List S60) (w : World) (hop : op < 1 ∨ 19 < op) :
    Calls Try.prog 10 #[.agg #[.int .i64 op, .int .i64 h, .int .i64 a, .int .i64 b, .int .i64 c, .int .i64 d, .slice A6 l6.length c6, .slice A7 l7.length c7]] w fun e w' => e = .returned (.agg #[.int .i64 0, .int .i64 0, .int .i64 0, .int .i64 0, .int .i64 0, .int .i64 0, .slice none 0 0, .slice none 0 0]) ∧ Below w.heap.size w w' := by
  have hu25 := Try.underlying25
  rcases hop with hop | hop
  · have d1 : decide (op < 1) = true := decide_eq_true hop
    clear hop
    go_enter Try.func10, Try.ntmps10
    go_wp2
    all_goals (refine bodyPost_ret (results_cell_row rfl _ _ (w.heap.size + 1) 25 #[.int .i64 0, .int .i64 0, .int .i64 0, .int .i64 0, .int .i64 0, .int .i64 0, .slice none 0 0, .slice none 0 0] (0, 0) _ rfl ?_ Try.underlying25 rfl (by kernel_rfl)) rfl ?_)
    · repeat (first | (with_reducible exact blk_new2 _ _ _) | (with_reducible refine blk_drewN ?_ _) | (with_reducible refine blk_drew ?_) | (with_reducible refine ret8 ?_) | (with_reducible refine blk_far ?_ (by show w.heap.size + 1 ≠ w.heap.size + 1 + 1; omega) _) | (with_reducible refine blk_alloc ?_ _))
    · exact ⟨rfl, by repeat (first | (with_reducible exact Below.refl _ _) | (with_reducible refine below8 ?_ (Nat.le_succ _)) | (with_reducible apply below_alloc) | (with_reducible apply pw_below_drewN) | (with_reducible apply below_drew1) | (with_reducible refine below_set ?_ (by omega)))⟩
  · have d1 : decide (op < 1) = false := decide_eq_false (by omega)
    have d2 : decide (19 < op) = true := decide_eq_true hop
    clear hop
    go_enter Try.func10, Try.ntmps10
    go_wp2
    all_goals (refine bodyPost_ret (results_cell_row rfl _ _ (w.heap.size + 1) 25 #[.int .i64 0, .int .i64 0, .int .i64 0, .int .i64 0, .int .i64 0, .int .i64 0, .slice none 0 0, .slice none 0 0] (0, 0) _ rfl ?_ Try.underlying25 rfl (by kernel_rfl)) rfl ?_)
    · repeat (first | (with_reducible exact blk_new2 _ _ _) | (with_reducible refine blk_drewN ?_ _) | (with_reducible refine blk_drew ?_) | (with_reducible refine ret8 ?_) | (with_reducible refine blk_far ?_ (by show w.heap.size + 1 ≠ w.heap.size + 1 + 1; omega) _) | (with_reducible refine blk_alloc ?_ _))
    · exact ⟨rfl, by repeat (first | (with_reducible exact Below.refl _ _) | (with_reducible refine below8 ?_ (Nat.le_succ _)) | (with_reducible apply below_alloc) | (with_reducible apply pw_below_drewN) | (with_reducible apply below_drew1) | (with_reducible refine below_set ?_ (by omega)))⟩
set_option maxHeartbeats 8000000 in
set_option maxRecDepth 100000 in
theorem own_1 (h a b c d : Int) (A6 : Option Addr) (c6 : Nat) (l6 : List Int) (A7 : Option Addr) (c7 : Nat) (l7 : List S60) (w : World) (hr6 : Kd.C (Kd.int .i64) w A6 l6.length l6) (hc6 : l6.length ≤ c6) (hr7 : Kd.C k60 w A7 l7.length l7) (hc7 : l7.length ≤ c7) (hl6 : l6.length ≤ 5000) (hl7 : l7.length ≤ 1100) :
    Calls Try.prog 11 #[.agg #[.int .i64 1, .int .i64 h, .int .i64 a, .int .i64 b, .int .i64 c, .int .i64 d, .slice A6 l6.length c6, .slice A7 l7.length c7]] w fun e w' => ∃ v6 v7, e = .returned (.agg #[.int .i64 1, .int .i64 h, .int .i64 0, .int .i64 0, .int .i64 0, .int .i64 0, v6, v7]) ∧ Kd.R (Kd.int .i64) 3 w' w.heap.size (fun _ => True) v6 [] ∧ Kd.R k60 60 w' w.heap.size (fun _ => True) v7 l7 ∧ Below w.heap.size w w' := by
  have hu25 := Try.underlying25
  have H6 := Aside0.mk hr6
  have C6 := Aside0.mk hc6
  have H7 := Aside0.mk hr7
  have C7 := Aside0.mk hc7
  have R6 : Aside0 (slices_Clone_int_int.f l6 = some l6) := Aside0.mk (by have hx : l6.length < 17592186044416 := (by omega); simp [slices_Clone_int_int.f, hx])
  have R7 : Aside0 (api_Vertex.f l7 = some l7) := Aside0.mk (by have hx : l7.length < 1954687338268 := (by omega); simp [api_Vertex.f, hx])
  clear hr6 hc6 hr7 hc7 hl6 hl7
  have hdn : w.heap.size + 1 + 1 ≠ w.heap.size := by omega
  go_enter Try.func11, Try.ntmps11
  go_wp2
  go_region_held3 (fun w' => w'.cell? ⟨w.heap.size, 1, none⟩ = some (.int .i64 h) ∧ w'.cell? ⟨w.heap.size, 7, none⟩ = some (.slice A7 l7.length c7)) (first | go_keep | ((repeat' apply And.intro) <;> (first | assumption | (rw [World.cell?_setCell_far _ _ _ _ hdn]; assumption) | (rw [World.cell?_setCell_far _ _ _ _ hdn, World.cell?_setCell_far _ _ _ _ hdn]; assumption)))) (first | (go_at_call 19; ((with_reducible refine (api_Vertex.calls _ _ l7 l7 _ (by repeat (first | (with_reducible exact H7.out) | (with_reducible refine Kd.C_alloc ?_ _) | (with_reducible refine Kd.C_drewN ?_ _) | (with_reducible refine Kd.C_drew ?_))) C7.out R7.out).mono ?_); rintro e w1 ⟨v, rfl, hR, hb⟩; obtain ⟨Av, cv, rfl⟩ := Kd.R_slice hR; have CF := clone_facts (w := w) (cobj := .cells #[.int .i64 1, .int .i64 h, .int .i64 a, .int .i64 b, .int .i64 c, .int .i64 d, .slice A6 l6.length c6, .slice A7 l7.length c7] 25 (0, 0)) (zobj := .cells #[.int .i64 0, .int .i64 0, .int .i64 0, .int .i64 0, .int .i64 0, .int .i64 0, .slice none 0 0, .slice none 0 0] 25 (0, 0)) (oobj := .cells #[.int .i64 1, .int .i64 0, .int .i64 0, .int .i64 0, .int .i64 0, .int .i64 0, .slice none 0 0, .slice none 0 0] 25 (0, 0)) hb hR (by repeat (first | (with_reducible exact blk_new _ _) | (with_reducible refine blk_drewN ?_ _) | (with_reducible refine blk_drew ?_) | (with_reducible refine blk_alloc ?_ _))) (by repeat (first | (with_reducible exact blk_new2 _ _ _) | (with_reducible refine blk_drewN ?_ _) | (with_reducible refine blk_drew ?_) | (with_reducible refine blk_alloc ?_ _))) (by repeat (first | (with_reducible exact blk_new3 _ _ _ _) | (with_reducible refine blk_drewN ?_ _) | (with_reducible refine blk_drew ?_))) (by repeat (first | (with_reducible exact Below.refl _ _) | (with_reducible apply below_alloc) | (with_reducible apply pw_below_drewN) | (with_reducible apply below_drew1))); clear hR hb; have INP := Aside0.mk CF.1; have RES := Aside0.mk CF.2.1; have OUT := Aside0.mk CF.2.2.1; have HB := Aside0.mk CF.2.2.2.1; have HR := Aside0.mk CF.2.2.2.2.1; have hlt := CF.2.2.2.2.2; clear CF; have hc0 : w1.cell? ⟨w.heap.size, 0, none⟩ = some (.int .i64 1) := (blk_cell INP.out 0).trans rfl; have hc1 : w1.cell? ⟨w.heap.size, 1, none⟩ = some (.int .i64 h) := (blk_cell INP.out 1).trans rfl; have hc2 : w1.cell? ⟨w.heap.size, 2, none⟩ = some (.int .i64 a) := (blk_cell INP.out 2).trans rfl; have hc3 : w1.cell? ⟨w.heap.size, 3, none⟩ = some (.int .i64 b) := (blk_cell INP.out 3).trans rfl; have hc4 : w1.cell? ⟨w.heap.size, 4, none⟩ = some (.int .i64 c) := (blk_cell INP.out 4).trans rfl; have hc5 : w1.cell? ⟨w.heap.size, 5, none⟩ = some (.int .i64 d) := (blk_cell INP.out 5).trans rfl; have hc6 : w1.cell? ⟨w.heap.size, 6, none⟩ = some (.slice A6 l6.length c6) := (blk_cell INP.out 6).trans rfl; have hc7 : w1.cell? ⟨w.heap.size, 7, none⟩ = some (.slice A7 l7.length c7) := (blk_cell INP.out 7).trans rfl; have ho0 := (blk_cell OUT.out 0).trans rfl; have hp0 := blk_frozen OUT.out 0; have ho1 := (blk_cell OUT.out 1).trans rfl; have hp1 := blk_frozen OUT.out 1; have ho2 := (blk_cell OUT.out 2).trans rfl; have hp2 := blk_frozen OUT.out 2; have ho3 := (blk_cell OUT.out 3).trans rfl; have hp3 := blk_frozen OUT.out 3; have ho4 := (blk_cell OUT.out 4).trans rfl; have hp4 := blk_frozen OUT.out 4; have ho5 := (blk_cell OUT.out 5).trans rfl; have hp5 := blk_frozen OUT.out 5; have ho6 := (blk_cell OUT.out 6).trans rfl; have hp6 := blk_frozen OUT.out 6; have ho7 := (blk_cell OUT.out 7).trans rfl; have hp7 := blk_frozen OUT.out 7; have hr0 := (blk_cell RES.out 0).trans rfl; have hq0 := blk_frozen RES.out 0; have hr1 := (blk_cell RES.out 1).trans rfl; have hq1 := blk_frozen RES.out 1; have hr2 := (blk_cell RES.out 2).trans rfl; have hq2 := blk_frozen RES.out 2; have hr3 := (blk_cell RES.out 3).trans rfl; have hq3 := blk_frozen RES.out 3; have hr4 := (blk_cell RES.out 4).trans rfl; have hq4 := blk_frozen RES.out 4; have hr5 := (blk_cell RES.out 5).trans rfl; have hq5 := blk_frozen RES.out 5; have hr6 := (blk_cell RES.out 6).trans rfl; have hq6 := blk_frozen RES.out 6; have hr7 := (blk_cell RES.out 7).trans rfl; have hq7 := blk_frozen RES.out 7)) | (go_at_call 19; ((with_reducible refine (api_Vertex.calls _ _ l7 l7 _ (by repeat (first | (with_reducible exact H7.out) | (with_reducible refine Kd.C_alloc ?_ _) | (with_reducible refine Kd.C_drewN ?_ _) | (with_reducible refine Kd.C_drew ?_))) C7.out R7.out).mono ?_); rintro e w1 ⟨v, rfl, hR, hb⟩; obtain ⟨Av, cv, rfl⟩ := Kd.R_slice hR; have CF := clone_facts (w := w) (cobj := .cells #[.int .i64 1, .int .i64 h, .int .i64 a, .int .i64 b, .int .i64 c, .int .i64 d, .slice A6 l6.length c6, .slice A7 l7.length c7] 25 (0, 0)) (zobj := .cells #[.int .i64 0, .int .i64 0, .int .i64 0, .int .i64 0, .int .i64 0, .int .i64 0, .slice none 0 0, .slice none 0 0] 25 (0, 0)) (oobj := .cells #[.int .i64 1, .int .i64 h, .int .i64 0, .int .i64 0, .int .i64 0, .int .i64 0, .slice none 0 0, .slice none 0 0] 25 (0, 0)) hb hR (by repeat (first | (with_reducible exact blk_new _ _) | (with_reducible refine blk_drewN ?_ _) | (with_reducible refine blk_drew ?_) | (with_reducible refine blk_alloc ?_ _))) (by repeat (first | (with_reducible exact blk_new2 _ _ _) | (with_reducible refine blk_drewN ?_ _) | (with_reducible refine blk_drew ?_) | (with_reducible refine blk_alloc ?_ _))) (by repeat (first | (with_reducible exact blk_new3 _ _ _ _) | (with_reducible refine blk_drewN ?_ _) | (with_reducible refine blk_drew ?_))) (by repeat (first | (with_reducible exact Below.refl _ _) | (with_reducible apply below_alloc) | (with_reducible apply pw_below_drewN) | (with_reducible apply below_drew1))); clear hR hb; have INP := Aside0.mk CF.1; have RES := Aside0.mk CF.2.1; have OUT := Aside0.mk CF.2.2.1; have HB := Aside0.mk CF.2.2.2.1; have HR := Aside0.mk CF.2.2.2.2.1; have hlt := CF.2.2.2.2.2; clear CF; have hc0 : w1.cell? ⟨w.heap.size, 0, none⟩ = some (.int .i64 1) := (blk_cell INP.out 0).trans rfl; have hc1 : w1.cell? ⟨w.heap.size, 1, none⟩ = some (.int .i64 h) := (blk_cell INP.out 1).trans rfl; have hc2 : w1.cell? ⟨w.heap.size, 2, none⟩ = some (.int .i64 a) := (blk_cell INP.out 2).trans rfl; have hc3 : w1.cell? ⟨w.heap.size, 3, none⟩ = some (.int .i64 b) := (blk_cell INP.out 3).trans rfl; have hc4 : w1.cell? ⟨w.heap.size, 4, none⟩ = some (.int .i64 c) := (blk_cell INP.out 4).trans rfl; have hc5 : w1.cell? ⟨w.heap.size, 5, none⟩ = some (.int .i64 d) := (blk_cell INP.out 5).trans rfl; have hc6 : w1.cell? ⟨w.heap.size, 6, none⟩ = some (.slice A6 l6.length c6) := (blk_cell INP.out 6).trans rfl; have hc7 : w1.cell? ⟨w.heap.size, 7, none⟩ = some (.slice A7 l7.length c7) := (blk_cell INP.out 7).trans rfl; have ho0 := (blk_cell OUT.out 0).trans rfl; have hp0 := blk_frozen OUT.out 0; have ho1 := (blk_cell OUT.out 1).trans rfl; have hp1 := blk_frozen OUT.out 1; have ho2 := (blk_cell OUT.out 2).trans rfl; have hp2 := blk_frozen OUT.out 2; have ho3 := (blk_cell OUT.out 3).trans rfl; have hp3 := blk_frozen OUT.out 3; have ho4 := (blk_cell OUT.out 4).trans rfl; have hp4 := blk_frozen OUT.out 4; have ho5 := (blk_cell OUT.out 5).trans rfl; have hp5 := blk_frozen OUT.out 5; have ho6 := (blk_cell OUT.out 6).trans rfl; have hp6 := blk_frozen OUT.out 6; have ho7 := (blk_cell OUT.out 7).trans rfl; have hp7 := blk_frozen OUT.out 7; have hr0 := (blk_cell RES.out 0).trans rfl; have hq0 := blk_frozen RES.out 0; have hr1 := (blk_cell RES.out 1).trans rfl; have hq1 := blk_frozen RES.out 1; have hr2 := (blk_cell RES.out 2).trans rfl; have hq2 := blk_frozen RES.out 2; have hr3 := (blk_cell RES.out 3).trans rfl; have hq3 := blk_frozen RES.out 3; have hr4 := (blk_cell RES.out 4).trans rfl; have hq4 := blk_frozen RES.out 4; have hr5 := (blk_cell RES.out 5).trans rfl; have hq5 := blk_frozen RES.out 5; have hr6 := (blk_cell RES.out 6).trans rfl; have hq6 := blk_frozen RES.out 6; have hr7 := (blk_cell RES.out 7).trans rfl; have hq7 := blk_frozen RES.out 7)))
  all_goals go_wp2
  all_goals (
    refine bodyPost_ret (results_cell_row rfl _ _ (w.heap.size + 1) 25 #[.int .i64 1, .int .i64 h, .int .i64 0, .int .i64 0, .int .i64 0, .int .i64 0, .slice none 0 0, .slice Av l7.length cv] (0, 0) _ rfl ?_ Try.underlying25 rfl (by kernel_rfl)) rfl ?_
    · repeat (first | (with_reducible exact RES.out) | (with_reducible refine blk_drewN ?_ _) | (with_reducible refine blk_drew ?_) | (with_reducible refine ret8 ?_) | (with_reducible refine blk_far ?_ (by show w.heap.size + 1 ≠ w.heap.size + 1 + 1; omega) _))
    · exact ⟨_, _, rfl, Kd.R_nil _ _ _ _ _, by (refine Kd.R_mono (ok := fun k => w.heap.size + 1 + 1 < k) ?_ (fun _ _ => trivial); repeat (first | (with_reducible exact HR.out) | (with_reducible refine Kd.R_drewN ?_ _) | (with_reducible refine Kd.R_drew ?_) | (refine Kd.R_far ?_ (by intro k hk; (try simp only []); omega) _))), by repeat (first | (with_reducible exact HB.out) | (with_reducible refine below8 ?_ (Nat.le_succ _)) | (with_reducible apply pw_below_drewN) | (with_reducible apply below_drew1) | (with_reducible refine below_set ?_ (by omega)))⟩)
set_option maxHeartbeats 8000000 in
set_option maxRecDepth 100000 in
theorem own_2 (h a b c d : Int) (A6 : Option Addr) (c6 : Nat) (l6 : List Int) (A7 : Option Addr) (c7 : Nat) (l7 : List S60) (w : World) (hr6 : Kd.C (Kd.int .i64) w A6 l6.length l6) (hc6 : l6.length ≤ c6) (hr7 : Kd.C k60 w A7 l7.length l7) (hc7 : l7.length ≤ c7) (hl6 : l6.length ≤ 5000) (hl7 : l7.length ≤ 1100) :
    Calls Try.prog 11 #[.agg #[.int .i64 2, .int .i64 h, .int .i64 a, .int .i64 b, .int .i64 c, .int .i64 d, .slice A6 l6.length c6, .slice A7 l7.length c7]] w fun e w' => ∃ v6 v7, e = .returned (.agg #[.int .i64 2, .int .i64 h, .int .i64 0, .int .i64 0, .int .i64 0, .int .i64 0, v6, v7]) ∧ Kd.R (Kd.int .i64) 3 w' w.heap.size (fun _ => True) v6 l6 ∧ Kd.R k60 60 w' w.heap.size (fun _ => True) v7 [] ∧ Below w.heap.size w w' := by
  have hu25 := Try.underlying25
  have H6 := Aside0.mk hr6
  have C6 := Aside0.mk hc6
  have H7 := Aside0.mk hr7
  have C7 := Aside0.mk hc7
  have R6 : Aside0 (slices_Clone_int_int.f l6 = some l6) := Aside0.mk (by have hx : l6.length < 17592186044416 := (by omega); simp [slices_Clone_int_int.f, hx])
  have R7 : Aside0 (api_Vertex.f l7 = some l7) := Aside0.mk (by have hx : l7.length < 1954687338268 := (by omega); simp [api_Vertex.f, hx])
  clear hr6 hc6 hr7 hc7 hl6 hl7
  have hdn : w.heap.size + 1 + 1 ≠ w.heap.size := by omega
  go_enter Try.func11, Try.ntmps11
  go_wp2
  go_region_held3 (fun w' => w'.cell? ⟨w.heap.size, 1, none⟩ = some (.int .i64 h) ∧ w'.cell? ⟨w.heap.size, 6, none⟩ = some (.slice A6 l6.length c6)) (first | go_keep | ((repeat' apply And.intro) <;> (first | assumption | (rw [World.cell?_setCell_far _ _ _ _ hdn]; assumption) | (rw [World.cell?_setCell_far _ _ _ _ hdn, World.cell?_setCell_far _ _ _ _ hdn]; assumption)))) (first | (go_at_call 20; ((with_reducible refine (slices_Clone_int_int.calls _ _ l6 l6 _ (by repeat (first | (with_reducible exact H6.out) | (with_reducible refine Kd.C_alloc ?_ _) | (with_reducible refine Kd.C_drewN ?_ _) | (with_reducible refine Kd.C_drew ?_))) C6.out R6.out).mono ?_); rintro e w1 ⟨v, rfl, hR, hb⟩; obtain ⟨Av, cv, rfl⟩ := Kd.R_slice hR; have CF := clone_facts (w := w) (cobj := .cells #[.int .i64 2, .int .i64 h, .int .i64 a, .int .i64 b, .int .i64 c, .int .i64 d, .slice A6 l6.length c6, .slice A7 l7.length c7] 25 (0, 0)) (zobj := .cells #[.int .i64 0, .int .i64 0, .int .i64 0, .int .i64 0, .int .i64 0, .int .i64 0, .slice none 0 0, .slice none 0 0] 25 (0, 0)) (oobj := .cells #[.int .i64 2, .int .i64 0, .int .i64 0, .int .i64 0, .int .i64 0, .int .i64 0, .slice none 0 0, .slice none 0 0] 25 (0, 0)) hb hR (by repeat (first | (with_reducible exact blk_new _ _) | (with_reducible refine blk_drewN ?_ _) | (with_reducible refine blk_drew ?_) | (with_reducible refine blk_alloc ?_ _))) (by repeat (first | (with_reducible exact blk_new2 _ _ _) | (with_reducible refine blk_drewN ?_ _) | (with_reducible refine blk_drew ?_) | (with_reducible refine blk_alloc ?_ _))) (by repeat (first | (with_reducible exact blk_new3 _ _ _ _) | (with_reducible refine blk_drewN ?_ _) | (with_reducible refine blk_drew ?_))) (by repeat (first | (with_reducible exact Below.refl _ _) | (with_reducible apply below_alloc) | (with_reducible apply pw_below_drewN) | (with_reducible apply below_drew1))); clear hR hb; have INP := Aside0.mk CF.1; have RES := Aside0.mk CF.2.1; have OUT := Aside0.mk CF.2.2.1; have HB := Aside0.mk CF.2.2.2.1; have HR := Aside0.mk CF.2.2.2.2.1; have hlt := CF.2.2.2.2.2; clear CF; have hc0 : w1.cell? ⟨w.heap.size, 0, none⟩ = some (.int .i64 2) := (blk_cell INP.out 0).trans rfl; have hc1 : w1.cell? ⟨w.heap.size, 1, none⟩ = some (.int .i64 h) := (blk_cell INP.out 1).trans rfl; have hc2 : w1.cell? ⟨w.heap.size, 2, none⟩ = some (.int .i64 a) := (blk_cell INP.out 2).trans rfl; have hc3 : w1.cell? ⟨w.heap.size, 3, none⟩ = some (.int .i64 b) := (blk_cell INP.out 3).trans rfl; have hc4 : w1.cell? ⟨w.heap.size, 4, none⟩ = some (.int .i64 c) := (blk_cell INP.out 4).trans rfl; have hc5 : w1.cell? ⟨w.heap.size, 5, none⟩ = some (.int .i64 d) := (blk_cell INP.out 5).trans rfl; have hc6 : w1.cell? ⟨w.heap.size, 6, none⟩ = some (.slice A6 l6.length c6) := (blk_cell INP.out 6).trans rfl; have hc7 : w1.cell? ⟨w.heap.size, 7, none⟩ = some (.slice A7 l7.length c7) := (blk_cell INP.out 7).trans rfl; have ho0 := (blk_cell OUT.out 0).trans rfl; have hp0 := blk_frozen OUT.out 0; have ho1 := (blk_cell OUT.out 1).trans rfl; have hp1 := blk_frozen OUT.out 1; have ho2 := (blk_cell OUT.out 2).trans rfl; have hp2 := blk_frozen OUT.out 2; have ho3 := (blk_cell OUT.out 3).trans rfl; have hp3 := blk_frozen OUT.out 3; have ho4 := (blk_cell OUT.out 4).trans rfl; have hp4 := blk_frozen OUT.out 4; have ho5 := (blk_cell OUT.out 5).trans rfl; have hp5 := blk_frozen OUT.out 5; have ho6 := (blk_cell OUT.out 6).trans rfl; have hp6 := blk_frozen OUT.out 6; have ho7 := (blk_cell OUT.out 7).trans rfl; have hp7 := blk_frozen OUT.out 7; have hr0 := (blk_cell RES.out 0).trans rfl; have hq0 := blk_frozen RES.out 0; have hr1 := (blk_cell RES.out 1).trans rfl; have hq1 := blk_frozen RES.out 1; have hr2 := (blk_cell RES.out 2).trans rfl; have hq2 := blk_frozen RES.out 2; have hr3 := (blk_cell RES.out 3).trans rfl; have hq3 := blk_frozen RES.out 3; have hr4 := (blk_cell RES.out 4).trans rfl; have hq4 := blk_frozen RES.out 4; have hr5 := (blk_cell RES.out 5).trans rfl; have hq5 := blk_frozen RES.out 5; have hr6 := (blk_cell RES.out 6).trans rfl; have hq6 := blk_frozen RES.out 6; have hr7 := (blk_cell RES.out 7).trans rfl; have hq7 := blk_frozen RES.out 7)) | (go_at_call 20; ((with_reducible refine (slices_Clone_int_int.calls _ _ l6 l6 _ (by repeat (first | (with_reducible exact H6.out) | (with_reducible refine Kd.C_alloc ?_ _) | (with_reducible refine Kd.C_drewN ?_ _) | (with_reducible refine Kd.C_drew ?_))) C6.out R6.out).mono ?_); rintro e w1 ⟨v, rfl, hR, hb⟩; obtain ⟨Av, cv, rfl⟩ := Kd.R_slice hR; have CF := clone_facts (w := w) (cobj := .cells #[.int .i64 2, .int .i64 h, .int .i64 a, .int .i64 b, .int .i64 c, .int .i64 d, .slice A6 l6.length c6, .slice A7 l7.length c7] 25 (0, 0)) (zobj := .cells #[.int .i64 0, .int .i64 0, .int .i64 0, .int .i64 0, .int .i64 0, .int .i64 0, .slice none 0 0, .slice none 0 0] 25 (0, 0)) (oobj := .cells #[.int .i64 2, .int .i64 h, .int .i64 0, .int .i64 0, .int .i64 0, .int .i64 0, .slice none 0 0, .slice none 0 0] 25 (0, 0)) hb hR (by repeat (first | (with_reducible exact blk_new _ _) | (with_reducible refine blk_drewN ?_ _) | (with_reducible refine blk_drew ?_) | (with_reducible refine blk_alloc ?_ _))) (by repeat (first | (with_reducible exact blk_new2 _ _ _) | (with_reducible refine blk_drewN ?_ _) | (with_reducible refine blk_drew ?_) | (with_reducible refine blk_alloc ?_ _))) (by repeat (first | (with_reducible exact blk_new3 _ _ _ _) | (with_reducible refine blk_drewN ?_ _) | (with_reducible refine blk_drew ?_))) (by repeat (first | (with_reducible exact Below.refl _ _) | (with_reducible apply below_alloc) | (with_reducible apply pw_below_drewN) | (with_reducible apply below_drew1))); clear hR hb; have INP := Aside0.mk CF.1; have RES := Aside0.mk CF.2.1; have OUT := Aside0.mk CF.2.2.1; have HB := Aside0.mk CF.2.2.2.1; have HR := Aside0.mk CF.2.2.2.2.1; have hlt := CF.2.2.2.2.2; clear CF; have hc0 : w1.cell? ⟨w.heap.size, 0, none⟩ = some (.int .i64 2) := (blk_cell INP.out 0).trans rfl; have hc1 : w1.cell? ⟨w.heap.size, 1, none⟩ = some (.int .i64 h) := (blk_cell INP.out 1).trans rfl; have hc2 : w1.cell? ⟨w.heap.size, 2, none⟩ = some (.int .i64 a) := (blk_cell INP.out 2).trans rfl; have hc3 : w1.cell? ⟨w.heap.size, 3, none⟩ = some (.int .i64 b) := (blk_cell INP.out 3).trans rfl; have hc4 : w1.cell? ⟨w.heap.size, 4, none⟩ = some (.int .i64 c) := (blk_cell INP.out 4).trans rfl; have hc5 : w1.cell? ⟨w.heap.size, 5, none⟩ = some (.int .i64 d) := (blk_cell INP.out 5).trans rfl; have hc6 : w1.cell? ⟨w.heap.size, 6, none⟩ = some (.slice A6 l6.length c6) := (blk_cell INP.out 6).trans rfl; have hc7 : w1.cell? ⟨w.heap.size, 7, none⟩ = some (.slice A7 l7.length c7) := (blk_cell INP.out 7).trans rfl; have ho0 := (blk_cell OUT.out 0).trans rfl; have hp0 := blk_frozen OUT.out 0; have ho1 := (blk_cell OUT.out 1).trans rfl; have hp1 := blk_frozen OUT.out 1; have ho2 := (blk_cell OUT.out 2).trans rfl; have hp2 := blk_frozen OUT.out 2; have ho3 := (blk_cell OUT.out 3).trans rfl; have hp3 := blk_frozen OUT.out 3; have ho4 := (blk_cell OUT.out 4).trans rfl; have hp4 := blk_frozen OUT.out 4; have ho5 := (blk_cell OUT.out 5).trans rfl; have hp5 := blk_frozen OUT.out 5; have ho6 := (blk_cell OUT.out 6).trans rfl; have hp6 := blk_frozen OUT.out 6; have ho7 := (blk_cell OUT.out 7).trans rfl; have hp7 := blk_frozen OUT.out 7; have hr0 := (blk_cell RES.out 0).trans rfl; have hq0 := blk_frozen RES.out 0; have hr1 := (blk_cell RES.out 1).trans rfl; have hq1 := blk_frozen RES.out 1; have hr2 := (blk_cell RES.out 2).trans rfl; have hq2 := blk_frozen RES.out 2; have hr3 := (blk_cell RES.out 3).trans rfl; have hq3 := blk_frozen RES.out 3; have hr4 := (blk_cell RES.out 4).trans rfl; have hq4 := blk_frozen RES.out 4; have hr5 := (blk_cell RES.out 5).trans rfl; have hq5 := blk_frozen RES.out 5; have hr6 := (blk_cell RES.out 6).trans rfl; have hq6 := blk_frozen RES.out 6; have hr7 := (blk_cell RES.out 7).trans rfl; have hq7 := blk_frozen RES.out 7)))
  all_goals go_wp2
  all_goals (
    refine bodyPost_ret (results_cell_row rfl _ _ (w.heap.size + 1) 25 #[.int .i64 2, .int .i64 h, .int .i64 0, .int .i64 0, .int .i64 0, .int .i64 0, .slice Av l6.length cv, .slice none 0 0] (0, 0) _ rfl ?_ Try.underlying25 rfl (by kernel_rfl)) rfl ?_
    · repeat (first | (with_reducible exact RES.out) | (with_reducible refine blk_drewN ?_ _) | (with_reducible refine blk_drew ?_) | (with_reducible refine ret8 ?_) | (with_reducible refine blk_far ?_ (by show w.heap.size + 1 ≠ w.heap.size + 1 + 1; omega) _))
    · exact ⟨_, _, rfl, by (refine Kd.R_mono (ok := fun k => w.heap.size + 1 + 1 < k) ?_ (fun _ _ => trivial); repeat (first | (with_reducible exact HR.out) | (with_reducible refine Kd.R_drewN ?_ _) | (with_reducible refine Kd.R_drew ?_) | (refine Kd.R_far ?_ (by intro k hk; (try simp only []); omega) _))), Kd.R_nil _ _ _ _ _, by repeat (first | (with_reducible exact HB.out) | (with_reducible refine below8 ?_ (Nat.le_succ _)) | (with_reducible apply pw_below_drewN) | (with_reducible apply below_drew1) | (with_reducible refine below_set ?_ (by omega)))⟩)
set_option maxHeartbeats 8000000 in
set_option maxRecDepth 100000 in
theorem own_3 (h a b c d : Int) (A6 : Option Addr) (c6 : Nat) (l6 : List Int) (A7 : Option Addr) (c7 : Nat) (l7 : List S60) (w : World) (hr6 : Kd.C (Kd.int .i64) w A6 l6.length l6) (hc6 : l6.length ≤ c6) (hr7 : Kd.C k60 w A7 l7.length l7) (hc7 : l7.length ≤ c7) (hl6 : l6.length ≤ 5000) (hl7 : l7.length ≤ 1100) :
    Calls Try.prog 11 #[.agg #[.int .i64 3, .int .i64 h, .int .i64 a, .int .i64 b, .int .i64 c, .int .i64 d, .slice A6 l6.length c6, .slice A7 l7.length c7]] w fun e w' => ∃ v6 v7, e = .returned (.agg #[.int .i64 3, .int .i64 h, .int .i64 a, .int .i64 b, .int .i64 0, .int .i64 0, v6, v7]) ∧ Kd.R (Kd.int .i64) 3 w' w.heap.size (fun _ => True) v6 l6 ∧ Kd.R k60 60 w' w.heap.size (fun _ => True) v7 [] ∧ Below w.heap.size w w' := by
  have hu25 := Try.underlying25
  have H6 := Aside0.mk hr6
  have C6 := Aside0.mk hc6
  have H7 := Aside0.mk hr7
  have C7 := Aside0.mk hc7
  have R6 : Aside0 (slices_Clone_int_int.f l6 = some l6) := Aside0.mk (by have hx : l6.length < 17592186044416 := (by omega); simp [slices_Clone_int_int.f, hx])
  have R7 : Aside0 (api_Vertex.f l7 = some l7) := Aside0.mk (by have hx : l7.length < 1954687338268 := (by omega); simp [api_Vertex.f, hx])
  clear hr6 hc6 hr7 hc7 hl6 hl7
  have hdn : w.heap.size + 1 + 1 ≠ w.heap.size := by omega
  go_enter Try.func11, Try.ntmps11
  go_wp2
  go_region_held3 (fun w' => w'.cell? ⟨w.heap.size, 1, none⟩ = some (.int .i64 h) ∧ w'.cell? ⟨w.heap.size, 2, none⟩ = some (.int .i64 a) ∧ w'.cell? ⟨w.heap.size, 3, none⟩ = some (.int .i64 b) ∧ w'.cell? ⟨w.heap.size, 6, none⟩ = some (.slice A6 l6.length c6)) (first | go_keep | ((repeat' apply And.intro) <;> (first | assumption | (rw [World.cell?_setCell_far _ _ _ _ hdn]; assumption) | (rw [World.cell?_setCell_far _ _ _ _ hdn, World.cell?_setCell_far _ _ _ _ hdn]; assumption)))) (first | (go_at_call 20; ((with_reducible refine (slices_Clone_int_int.calls _ _ l6 l6 _ (by repeat (first | (with_reducible exact H6.out) | (with_reducible refine Kd.C_alloc ?_ _) | (with_reducible refine Kd.C_drewN ?_ _) | (with_reducible refine Kd.C_drew ?_))) C6.out R6.out).mono ?_); rintro e w1 ⟨v, rfl, hR, hb⟩; obtain ⟨Av, cv, rfl⟩ := Kd.R_slice hR; have CF := clone_facts (w := w) (cobj := .cells #[.int .i64 3, .int .i64 h, .int .i64 a, .int .i64 b, .int .i64 c, .int .i64 d, .slice A6 l6.length c6, .slice A7 l7.length c7] 25 (0, 0)) (zobj := .cells #[.int .i64 0, .int .i64 0, .int .i64 0, .int .i64 0, .int .i64 0, .int .i64 0, .slice none 0 0, .slice none 0 0] 25 (0, 0)) (oobj := .cells #[.int .i64 3, .int .i64 0, .int .i64 0, .int .i64 0, .int .i64 0, .int .i64 0, .slice none 0 0, .slice none 0 0] 25 (0, 0)) hb hR (by repeat (first | (with_reducible exact blk_new _ _) | (with_reducible refine blk_drewN ?_ _) | (with_reducible refine blk_drew ?_) | (with_reducible refine blk_alloc ?_ _))) (by repeat (first | (with_reducible exact blk_new2 _ _ _) | (with_reducible refine blk_drewN ?_ _) | (with_reducible refine blk_drew ?_) | (with_reducible refine blk_alloc ?_ _))) (by repeat (first | (with_reducible exact blk_new3 _ _ _ _) | (with_reducible refine blk_drewN ?_ _) | (with_reducible refine blk_drew ?_))) (by repeat (first | (with_reducible exact Below.refl _ _) | (with_reducible apply below_alloc) | (with_reducible apply pw_below_drewN) | (with_reducible apply below_drew1))); clear hR hb; have INP := Aside0.mk CF.1; have RES := Aside0.mk CF.2.1; have OUT := Aside0.mk CF.2.2.1; have HB := Aside0.mk CF.2.2.2.1; have HR := Aside0.mk CF.2.2.2.2.1; have hlt := CF.2.2.2.2.2; clear CF; have hc0 : w1.cell? ⟨w.heap.size, 0, none⟩ = some (.int .i64 3) := (blk_cell INP.out 0).trans rfl; have hc1 : w1.cell? ⟨w.heap.size, 1, none⟩ = some (.int .i64 h) := (blk_cell INP.out 1).trans rfl; have hc2 : w1.cell? ⟨w.heap.size, 2, none⟩ = some (.int .i64 a) := (blk_cell INP.out 2).trans rfl; have hc3 : w1.cell? ⟨w.heap.size, 3, none⟩ = some (.int .i64 b) := (blk_cell INP.out 3).trans rfl; have hc4 : w1.cell? ⟨w.heap.size, 4, none⟩ = some (.int .i64 c) := (blk_cell INP.out 4).trans rfl; have hc5 : w1.cell? ⟨w.heap.size, 5, none⟩ = some (.int .i64 d) := (blk_cell INP.out 5).trans rfl; have hc6 : w1.cell? ⟨w.heap.size, 6, none⟩ = some (.slice A6 l6.length c6) := (blk_cell INP.out 6).trans rfl; have hc7 : w1.cell? ⟨w.heap.size, 7, none⟩ = some (.slice A7 l7.length c7) := (blk_cell INP.out 7).trans rfl; have ho0 := (blk_cell OUT.out 0).trans rfl; have hp0 := blk_frozen OUT.out 0; have ho1 := (blk_cell OUT.out 1).trans rfl; have hp1 := blk_frozen OUT.out 1; have ho2 := (blk_cell OUT.out 2).trans rfl; have hp2 := blk_frozen OUT.out 2; have ho3 := (blk_cell OUT.out 3).trans rfl; have hp3 := blk_frozen OUT.out 3; have ho4 := (blk_cell OUT.out 4).trans rfl; have hp4 := blk_frozen OUT.out 4; have ho5 := (blk_cell OUT.out 5).trans rfl; have hp5 := blk_frozen OUT.out 5; have ho6 := (blk_cell OUT.out 6).trans rfl; have hp6 := blk_frozen OUT.out 6; have ho7 := (blk_cell OUT.out 7).trans rfl; have hp7 := blk_frozen OUT.out 7; have hr0 := (blk_cell RES.out 0).trans rfl; have hq0 := blk_frozen RES.out 0; have hr1 := (blk_cell RES.out 1).trans rfl; have hq1 := blk_frozen RES.out 1; have hr2 := (blk_cell RES.out 2).trans rfl; have hq2 := blk_frozen RES.out 2; have hr3 := (blk_cell RES.out 3).trans rfl; have hq3 := blk_frozen RES.out 3; have hr4 := (blk_cell RES.out 4).trans rfl; have hq4 := blk_frozen RES.out 4; have hr5 := (blk_cell RES.out 5).trans rfl; have hq5 := blk_frozen RES.out 5; have hr6 := (blk_cell RES.out 6).trans rfl; have hq6 := blk_frozen RES.out 6; have hr7 := (blk_cell RES.out 7).trans rfl; have hq7 := blk_frozen RES.out 7)) | (go_at_call 20; ((with_reducible refine (slices_Clone_int_int.calls _ _ l6 l6 _ (by repeat (first | (with_reducible exact H6.out) | (with_reducible refine Kd.C_alloc ?_ _) | (with_reducible refine Kd.C_drewN ?_ _) | (with_reducible refine Kd.C_drew ?_))) C6.out R6.out).mono ?_); rintro e w1 ⟨v, rfl, hR, hb⟩; obtain ⟨Av, cv, rfl⟩ := Kd.R_slice hR; have CF := clone_facts (w := w) (cobj := .cells #[.int .i64 3, .int .i64 h, .int .i64 a, .int .i64 b, .int .i64 c, .int .i64 d, .slice A6 l6.length c6, .slice A7 l7.length c7] 25 (0, 0)) (zobj := .cells #[.int .i64 0, .int .i64 0, .int .i64 0, .int .i64 0, .int .i64 0, .int .i64 0, .slice none 0 0, .slice none 0 0] 25 (0, 0)) (oobj := .cells #[.int .i64 3, .int .i64 h, .int .i64 0, .int .i64 0, .int .i64 0, .int .i64 0, .slice none 0 0, .slice none 0 0] 25 (0, 0)) hb hR (by repeat (first | (with_reducible exact blk_new _ _) | (with_reducible refine blk_drewN ?_ _) | (with_reducible refine blk_drew ?_) | (with_reducible refine blk_alloc ?_ _))) (by repeat (first | (with_reducible exact blk_new2 _ _ _) | (with_reducible refine blk_drewN ?_ _) | (with_reducible refine blk_drew ?_) | (with_reducible refine blk_alloc ?_ _))) (by repeat (first | (with_reducible exact blk_new3 _ _ _ _) | (with_reducible refine blk_drewN ?_ _) | (with_reducible refine blk_drew ?_))) (by repeat (first | (with_reducible exact Below.refl _ _) | (with_reducible apply below_alloc) | (with_reducible apply pw_below_drewN) | (with_reducible apply below_drew1))); clear hR hb; have INP := Aside0.mk CF.1; have RES := Aside0.mk CF.2.1; have OUT := Aside0.mk CF.2.2.1; have HB := Aside0.mk CF.2.2.2.1; have HR := Aside0.mk CF.2.2.2.2.1; have hlt := CF.2.2.2.2.2; clear CF; have hc0 : w1.cell? ⟨w.heap.size, 0, none⟩ = some (.int .i64 3) := (blk_cell INP.out 0).trans rfl; have hc1 : w1.cell? ⟨w.heap.size, 1, none⟩ = some (.int .i64 h) := (blk_cell INP.out 1).trans rfl; have hc2 : w1.cell? ⟨w.heap.size, 2, none⟩ = some (.int .i64 a) := (blk_cell INP.out 2).trans rfl; have hc3 : w1.cell? ⟨w.heap.size, 3, none⟩ = some (.int .i64 b) := (blk_cell INP.out 3).trans rfl; have hc4 : w1.cell? ⟨w.heap.size, 4, none⟩ = some (.int .i64 c) := (blk_cell INP.out 4).trans rfl; have hc5 : w1.cell? ⟨w.heap.size, 5, none⟩ = some (.int .i64 d) := (blk_cell INP.out 5).trans rfl; have hc6 : w1.cell? ⟨w.heap.size, 6, none⟩ = some (.slice A6 l6.length c6) := (blk_cell INP.out 6).trans rfl; have hc7 : w1.cell? ⟨w.heap.size, 7, none⟩ = some (.slice A7 l7.length c7) := (blk_cell INP.out 7).trans rfl; have ho0 := (blk_cell OUT.out 0).trans rfl; have hp0 := blk_frozen OUT.out 0; have ho1 := (blk_cell OUT.out 1).trans rfl; have hp1 := blk_frozen OUT.out 1; have ho2 := (blk_cell OUT.out 2).trans rfl; have hp2 := blk_frozen OUT.out 2; have ho3 := (blk_cell OUT.out 3).trans rfl; have hp3 := blk_frozen OUT.out 3; have ho4 := (blk_cell OUT.out 4).trans rfl; have hp4 := blk_frozen OUT.out 4; have ho5 := (blk_cell OUT.out 5).trans rfl; have hp5 := blk_frozen OUT.out 5; have ho6 := (blk_cell OUT.out 6).trans rfl; have hp6 := blk_frozen OUT.out 6; have ho7 := (blk_cell OUT.out 7).trans rfl; have hp7 := blk_frozen OUT.out 7; have hr0 := (blk_cell RES.out 0).trans rfl; have hq0 := blk_frozen RES.out 0; have hr1 := (blk_cell RES.out 1).trans rfl; have hq1 := blk_frozen RES.out 1; have hr2 := (blk_cell RES.out 2).trans rfl; have hq2 := blk_frozen RES.out 2; have hr3 := (blk_cell RES.out 3).trans rfl; have hq3 := blk_frozen RES.out 3; have hr4 := (blk_cell RES.out 4).trans rfl; have hq4 := blk_frozen RES.out 4; have hr5 := (blk_cell RES.out 5).trans rfl; have hq5 := blk_frozen RES.out 5; have hr6 := (blk_cell RES.out 6).trans rfl; have hq6 := blk_frozen RES.out 6; have hr7 := (blk_cell RES.out 7).trans rfl; have hq7 := blk_frozen RES.out 7)))
  all_goals go_wp2
  all_goals (
    refine bodyPost_ret (results_cell_row rfl _ _ (w.heap.size + 1) 25 #[.int .i64 3, .int .i64 h, .int .i64 a, .int .i64 b, .int .i64 0, .int .i64 0, .slice Av l6.length cv, .slice none 0 0] (0, 0) _ rfl ?_ Try.underlying25 rfl (by kernel_rfl)) rfl ?_
    · repeat (first | (with_reducible exact RES.out) | (with_reducible refine blk_drewN ?_ _) | (with_reducible refine blk_drew ?_) | (with_reducible refine ret8 ?_) | (with_reducible refine blk_far ?_ (by show w.heap.size + 1 ≠ w.heap.size + 1 + 1; omega) _))
    · exact ⟨_, _, rfl, by (refine Kd.R_mono (ok := fun k => w.heap.size + 1 + 1 < k) ?_ (fun _ _ => trivial); repeat (first | (with_reducible exact HR.out) | (with_reducible refine Kd.R_drewN ?_ _) | (with_reducible refine Kd.R_drew ?_) | (refine Kd.R_far ?_ (by intro k hk; (try simp only []); omega) _))), Kd.R_nil _ _ _ _ _, by repeat (first | (with_reducible exact HB.out) | (with_reducible refine below8 ?_ (Nat.le_succ _)) | (with_reducible apply pw_below_drewN) | (with_reducible apply below_drew1) | (with_reducible refine below_set ?_ (by omega)))⟩)
set_option maxHeartbeats 8000000 in
set_option maxRecDepth 100000 in
theorem own_4 (h a b c d : Int) (A6 : Option Addr) (c6 : Nat) (l6 : List Int) (A7 : Option Addr) (c7 : Nat) (l7 : List S60) (w : World) (hr6 : Kd.C (Kd.int .i64) w A6 l6.length l6) (hc6 : l6.length ≤ c6) (hr7 : Kd.C k60 w A7 l7.length l7) (hc7 : l7.length ≤ c7) (hl6 : l6.length ≤ 5000) (hl7 : l7.length ≤ 1100) :
    Calls Try.prog 11 #[.agg #[.int .i64 4, .int .i64 h, .int .i64 a, .int .i64 b, .int .i64 c, .int .i64 d, .slice A6 l6.length c6, .slice A7 l7.length c7]] w fun e w' => ∃ v6 v7, e = .returned (.agg #[.int .i64 4, .int .i64 h, .int .i64 0, .int .i64 0, .int .i64 0, .int .i64 0, v6, v7]) ∧ Kd.R (Kd.int .i64) 3 w' w.heap.size (fun _ => True) v6 [] ∧ Kd.R k60 60 w' w.heap.size (fun _ => True) v7 [] ∧ Below w.heap.size w w' := by
  have hu25 := Try.underlying25
  have H6 := Aside0.mk hr6
  have C6 := Aside0.mk hc6
  have H7 := Aside0.mk hr7
  have C7 := Aside0.mk hc7
  have R6 : Aside0 (slices_Clone_int_int.f l6 = some l6) := Aside0.mk (by have hx : l6.length < 17592186044416 := (by omega); simp [slices_Clone_int_int.f, hx])
  have R7 : Aside0 (api_Vertex.f l7 = some l7) := Aside0.mk (by have hx : l7.length < 1954687338268 := (by omega); simp [api_Vertex.f, hx])
  clear hr6 hc6 hr7 hc7 hl6 hl7
  have hdn : w.heap.size + 1 + 1 ≠ w.heap.size := by omega
  go_enter Try.func11, Try.ntmps11
  go_wp2
  all_goals (refine bodyPost_ret (results_cell_row rfl _ _ (w.heap.size + 1) 25 #[.int .i64 4, .int .i64 h, .int .i64 0, .int .i64 0, .int .i64 0, .int .i64 0, .slice none 0 0, .slice none 0 0] (0, 0) _ rfl ?_ Try.underlying25 rfl (by kernel_rfl)) rfl ?_)
  · repeat (first | (with_reducible exact blk_new2 _ _ _) | (with_reducible refine blk_drewN ?_ _) | (with_reducible refine blk_drew ?_) | (with_reducible refine ret8 ?_) | (with_reducible refine blk_far ?_ (by show w.heap.size + 1 ≠ w.heap.size + 1 + 1; omega) _) | (with_reducible refine blk_alloc ?_ _))
  · exact ⟨_, _, rfl, Kd.R_nil _ _ _ _ _, Kd.R_nil _ _ _ _ _, by repeat (first | (with_reducible exact Below.refl _ _) | (with_reducible refine below8 ?_ (Nat.le_succ _)) | (with_reducible apply below_alloc) | (with_reducible apply pw_below_drewN) | (with_reducible apply below_drew1) | (with_reducible refine below_set ?_ (by omega)))⟩
set_option maxHeartbeats 8000000 in
set_option maxRecDepth 100000 in
theorem own_5 (h a b c d : Int) (A6 : Option Addr) (c6 : Nat) (l6 : List Int) (A7 : Option Addr) (c7 : Nat) (l7 : List S60) (w : World) (hr6 : Kd.C (Kd.int .i64) w A6 l6.length l6) (hc6 : l6.length ≤ c6) (hr7 : Kd.C k60 w A7 l7.length l7) (hc7 : l7.length ≤ c7) (hl6 : l6.length ≤ 5000) (hl7 : l7.length ≤ 1100) :
    Calls Try.prog 11 #[.agg #[.int .i64 5, .int .i64 h, .int .i64 a, .int .i64 b, .int .i64 c, .int .i64 d, .slice A6 l6.length c6, .slice A7 l7.length c7]] w fun e w' => ∃ v6 v7, e = .returned (.agg #[.int .i64 5, .int .i64 0, .int .i64 0, .int .i64 0, .int .i64 0, .int .i64 0, v6, v7]) ∧ Kd.R (Kd.int .i64) 3 w' w.heap.size (fun _ => True) v6 l6 ∧ Kd.R k60 60 w' w.heap.size (fun _ => True) v7 [] ∧ Below w.heap.size w w' := by
  have hu25 := Try.underlying25
  have H6 := Aside0.mk hr6
  have C6 := Aside0.mk hc6
  have H7 := Aside0.mk hr7
  have C7 := Aside0.mk hc7
  have R6 : Aside0 (slices_Clone_int_int.f l6 = some l6) := Aside0.mk (by have hx : l6.length < 17592186044416 := (by omega); simp [slices_Clone_int_int.f, hx])
  have R7 : Aside0 (api_Vertex.f l7 = some l7) := Aside0.mk (by have hx : l7.length < 1954687338268 := (by omega); simp [api_Vertex.f, hx])
  clear hr6 hc6 hr7 hc7 hl6 hl7
  have hdn : w.heap.size + 1 + 1 ≠ w.heap.size := by omega
  go_enter Try.func11, Try.ntmps11
  go_wp2_with (first | (go_at_call 20; go_must ((with_reducible refine (slices_Clone_int_int.calls _ _ l6 l6 _ (by repeat (first | (with_reducible exact H6.out) | (with_reducible refine Kd.C_alloc ?_ _) | (with_reducible refine Kd.C_drewN ?_ _) | (with_reducible refine Kd.C_drew ?_))) C6.out R6.out).mono ?_); rintro e w1 ⟨v, rfl, hR, hb⟩; obtain ⟨Av, cv, rfl⟩ := Kd.R_slice hR; have CF := clone_facts (w := w) (cobj := .cells #[.int .i64 5, .int .i64 h, .int .i64 a, .int .i64 b, .int .i64 c, .int .i64 d, .slice A6 l6.length c6, .slice A7 l7.length c7] 25 (0, 0)) (zobj := .cells #[.int .i64 0, .int .i64 0, .int .i64 0, .int .i64 0, .int .i64 0, .int .i64 0, .slice none 0 0, .slice none 0 0] 25 (0, 0)) (oobj := .cells #[.int .i64 5, .int .i64 0, .int .i64 0, .int .i64 0, .int .i64 0, .int .i64 0, .slice none 0 0, .slice none 0 0] 25 (0, 0)) hb hR (by repeat (first | (with_reducible exact blk_new _ _) | (with_reducible refine blk_drewN ?_ _) | (with_reducible refine blk_drew ?_) | (with_reducible refine blk_alloc ?_ _))) (by repeat (first | (with_reducible exact blk_new2 _ _ _) | (with_reducible refine blk_drewN ?_ _) | (with_reducible refine blk_drew ?_) | (with_reducible refine blk_alloc ?_ _))) (by repeat (first | (with_reducible exact blk_new3 _ _ _ _) | (with_reducible refine blk_drewN ?_ _) | (with_reducible refine blk_drew ?_))) (by repeat (first | (with_reducible exact Below.refl _ _) | (with_reducible apply below_alloc) | (with_reducible apply pw_below_drewN) | (with_reducible apply below_drew1))); clear hR hb; have INP := Aside0.mk CF.1; have RES := Aside0.mk CF.2.1; have OUT := Aside0.mk CF.2.2.1; have HB := Aside0.mk CF.2.2.2.1; have HR := Aside0.mk CF.2.2.2.2.1; have hlt := CF.2.2.2.2.2; clear CF; have hc0 : w1.cell? ⟨w.heap.size, 0, none⟩ = some (.int .i64 5) := (blk_cell INP.out 0).trans rfl; have hc1 : w1.cell? ⟨w.heap.size, 1, none⟩ = some (.int .i64 h) := (blk_cell INP.out 1).trans rfl; have hc2 : w1.cell? ⟨w.heap.size, 2, none⟩ = some (.int .i64 a) := (blk_cell INP.out 2).trans rfl; have hc3 : w1.cell? ⟨w.heap.size, 3, none⟩ = some (.int .i64 b) := (blk_cell INP.out 3).trans rfl; have hc4 : w1.cell? ⟨w.heap.size, 4, none⟩ = some (.int .i64 c) := (blk_cell INP.out 4).trans rfl; have hc5 : w1.cell? ⟨w.heap.size, 5, none⟩ = some (.int .i64 d) := (blk_cell INP.out 5).trans rfl; have hc6 : w1.cell? ⟨w.heap.size, 6, none⟩ = some (.slice A6 l6.length c6) := (blk_cell INP.out 6).trans rfl; have hc7 : w1.cell? ⟨w.heap.size, 7, none⟩ = some (.slice A7 l7.length c7) := (blk_cell INP.out 7).trans rfl; have ho0 := (blk_cell OUT.out 0).trans rfl; have hp0 := blk_frozen OUT.out 0; have ho1 := (blk_cell OUT.out 1).trans rfl; have hp1 := blk_frozen OUT.out 1; have ho2 := (blk_cell OUT.out 2).trans rfl; have hp2 := blk_frozen OUT.out 2; have ho3 := (blk_cell OUT.out 3).trans rfl; have hp3 := blk_frozen OUT.out 3; have ho4 := (blk_cell OUT.out 4).trans rfl; have hp4 := blk_frozen OUT.out 4; have ho5 := (blk_cell OUT.out 5).trans rfl; have hp5 := blk_frozen OUT.out 5; have ho6 := (blk_cell OUT.out 6).trans rfl; have hp6 := blk_frozen OUT.out 6; have ho7 := (blk_cell OUT.out 7).trans rfl; have hp7 := blk_frozen OUT.out 7; have hr0 := (blk_cell RES.out 0).trans rfl; have hq0 := blk_frozen RES.out 0; have hr1 := (blk_cell RES.out 1).trans rfl; have hq1 := blk_frozen RES.out 1; have hr2 := (blk_cell RES.out 2).trans rfl; have hq2 := blk_frozen RES.out 2; have hr3 := (blk_cell RES.out 3).trans rfl; have hq3 := blk_frozen RES.out 3; have hr4 := (blk_cell RES.out 4).trans rfl; have hq4 := blk_frozen RES.out 4; have hr5 := (blk_cell RES.out 5).trans rfl; have hq5 := blk_frozen RES.out 5; have hr6 := (blk_cell RES.out 6).trans rfl; have hq6 := blk_frozen RES.out 6; have hr7 := (blk_cell RES.out 7).trans rfl; have hq7 := blk_frozen RES.out 7)))
  all_goals (
    refine bodyPost_ret (results_cell_row rfl _ _ (w.heap.size + 1) 25 #[.int .i64 5, .int .i64 0, .int .i64 0, .int .i64 0, .int .i64 0, .int .i64 0, .slice Av l6.length cv, .slice none 0 0] (0, 0) _ rfl ?_ Try.underlying25 rfl (by kernel_rfl)) rfl ?_
    · repeat (first | (with_reducible exact RES.out) | (with_reducible refine blk_drewN ?_ _) | (with_reducible refine blk_drew ?_) | (with_reducible refine ret8 ?_) | (with_reducible refine blk_far ?_ (by show w.heap.size + 1 ≠ w.heap.size + 1 + 1; omega) _))
    · exact ⟨_, _, rfl, by (refine Kd.R_mono (ok := fun k => w.heap.size + 1 + 1 < k) ?_ (fun _ _ => trivial); repeat (first | (with_reducible exact HR.out) | (with_reducible refine Kd.R_drewN ?_ _) | (with_reducible refine Kd.R_drew ?_) | (refine Kd.R_far ?_ (by intro k hk; (try simp only []); omega) _))), Kd.R_nil _ _ _ _ _, by repeat (first | (with_reducible exact HB.out) | (with_reducible refine below8 ?_ (Nat.le_succ _)) | (with_reducible apply pw_below_drewN) | (with_reducible apply below_drew1) | (with_reducible refine below_set ?_ (by omega)))⟩)
set_option maxHeartbeats 8000000 in
set_option maxRecDepth 100000 in
theorem own_6 (h a b c d : Int) (A6 : Option Addr) (c6 : Nat) (l6 : List Int) (A7 : Option Addr) (c7 : Nat) (l7 : List S60) (w : World) (hr6 : Kd.C (Kd.int .i64) w A6 l6.length l6) (hc6 : l6.length ≤ c6) (hr7 : Kd.C k60 w A7 l7.length l7) (hc7 : l7.length ≤ c7) (hl6 : l6.length ≤ 5000) (hl7 : l7.length ≤ 1100) :
    Calls Try.prog 11 #[.agg #[.int .i64 6, .int .i64 h, .int .i64 a, .int .i64 b, .int .i64 c, .int .i64 d, .slice A6 l6.length c6, .slice A7 l7.length c7]] w fun e w' => ∃ v6 v7, e = .returned (.agg #[.int .i64 6, .int .i64 0, .int .i64 a, .int .i64 b, .int .i64 c, .int .i64 d, v6, v7]) ∧ Kd.R (Kd.int .i64) 3 w' w.heap.size (fun _ => True) v6 [] ∧ Kd.R k60 60 w' w.heap.size (fun _ => True) v7 [] ∧ Below w.heap.size w w' := by
  have hu25 := Try.underlying25
  have H6 := Aside0.mk hr6
  have C6 := Aside0.mk hc6
  have H7 := Aside0.mk hr7
  have C7 := Aside0.mk hc7
  have R6 : Aside0 (slices_Clone_int_int.f l6 = some l6) := Aside0.mk (by have hx : l6.length < 17592186044416 := (by omega); simp [slices_Clone_int_int.f, hx])
  have R7 : Aside0 (api_Vertex.f l7 = some l7) := Aside0.mk (by have hx : l7.length < 1954687338268 := (by omega); simp [api_Vertex.f, hx])
  clear hr6 hc6 hr7 hc7 hl6 hl7
  have hdn : w.heap.size + 1 + 1 ≠ w.heap.size := by omega
  go_enter Try.func11, Try.ntmps11
  go_wp2
  go_region_held3 (fun w' => w'.cell? ⟨w.heap.size, 2, none⟩ = some (.int .i64 a) ∧ w'.cell? ⟨w.heap.size, 3, none⟩ = some (.int .i64 b) ∧ w'.cell? ⟨w.heap.size, 4, none⟩ = some (.int .i64 c) ∧ w'.cell? ⟨w.heap.size, 5, none⟩ = some (.int .i64 d)) (first | go_keep | ((repeat' apply And.intro) <;> (first | assumption | (rw [World.cell?_setCell_far _ _ _ _ hdn]; assumption) | (rw [World.cell?_setCell_far _ _ _ _ hdn, World.cell?_setCell_far _ _ _ _ hdn]; assumption)))) (first | fail)
  all_goals go_wp2
  all_goals (refine bodyPost_ret (results_cell_row rfl _ _ (w.heap.size + 1) 25 #[.int .i64 6, .int .i64 0, .int .i64 a, .int .i64 b, .int .i64 c, .int .i64 d, .slice none 0 0, .slice none 0 0] (0, 0) _ rfl ?_ Try.underlying25 rfl (by kernel_rfl)) rfl ?_)
  · repeat (first | (with_reducible exact blk_new2 _ _ _) | (with_reducible refine blk_drewN ?_ _) | (with_reducible refine blk_drew ?_) | (with_reducible refine ret8 ?_) | (with_reducible refine blk_far ?_ (by show w.heap.size + 1 ≠ w.heap.size + 1 + 1; omega) _) | (with_reducible refine blk_alloc ?_ _))
  · exact ⟨_, _, rfl, Kd.R_nil _ _ _ _ _, Kd.R_nil _ _ _ _ _, by repeat (first | (with_reducible exact Below.refl _ _) | (with_reducible refine below8 ?_ (Nat.le_succ _)) | (with_reducible apply below_alloc) | (with_reducible apply pw_below_drewN) | (with_reducible apply below_drew1) | (with_reducible refine below_set ?_ (by omega)))⟩
set_option maxHeartbeats 8000000 in
set_option maxRecDepth 100000 in
theorem own_7 (h a b c d : Int) (A6 : Option Addr) (c6 : Nat) (l6 : List Int) (A7 : Option Addr) (c7 : Nat) (l7 : List S60) (w : World) (hr6 : Kd.C (Kd.int .i64) w A6 l6.length l6) (hc6 : l6.length ≤ c6) (hr7 : Kd.C k60 w A7 l7.length l7) (hc7 : l7.length ≤ c7) (hl6 : l6.length ≤ 5000) (hl7 : l7.length ≤ 1100) :
    Calls Try.prog 11 #[.agg #[.int .i64 7, .int .i64 h, .int .i64 a, .int .i64 b, .int .i64 c, .int .i64 d, .slice A6 l6.length c6, .slice A7 l7.length c7]] w fun e w' => ∃ v6 v7, e = .returned (.agg #[.int .i64 7, .int .i64 0, .int .i64 a, .int .i64 b, .int .i64 c, .int .i64 d, v6, v7]) ∧ Kd.R (Kd.int .i64) 3 w' w.heap.size (fun _ => True) v6 [] ∧ Kd.R k60 60 w' w.heap.size (fun _ => True) v7 [] ∧ Below w.heap.size w w' := by
  have hu25 := Try.underlying25
  have H6 := Aside0.mk hr6
  have C6 := Aside0.mk hc6
  have H7 := Aside0.mk hr7
  have C7 := Aside0.mk hc7
  have R6 : Aside0 (slices_Clone_int_int.f l6 = some l6) := Aside0.mk (by have hx : l6.length < 17592186044416 := (by omega); simp [slices_Clone_int_int.f, hx])
  have R7 : Aside0 (api_Vertex.f l7 = some l7) := Aside0.mk (by have hx : l7.length < 1954687338268 := (by omega); simp [api_Vertex.f, hx])
  clear hr6 hc6 hr7 hc7 hl6 hl7
  have hdn : w.heap.size + 1 + 1 ≠ w.heap.size := by omega
  go_enter Try.func11, Try.ntmps11
  go_wp2
  go_region_held3 (fun w' => w'.cell? ⟨w.heap.size, 2, none⟩ = some (.int .i64 a) ∧ w'.cell? ⟨w.heap.size, 3, none⟩ = some (.int .i64 b) ∧ w'.cell? ⟨w.heap.size, 4, none⟩ = some (.int .i64 c) ∧ w'.cell? ⟨w.heap.size, 5, none⟩ = some (.int .i64 d)) (first | go_keep | ((repeat' apply And.intro) <;> (first | assumption | (rw [World.cell?_setCell_far _ _ _ _ hdn]; assumption) | (rw [World.cell?_setCell_far _ _ _ _ hdn, World.cell?_setCell_far _ _ _ _ hdn]; assumption)))) (first | fail)
  all_goals go_wp2
  all_goals (refine bodyPost_ret (results_cell_row rfl _ _ (w.heap.size + 1) 25 #[.int .i64 7, .int .i64 0, .int .i64 a, .int .i64 b, .int .i64 c, .int .i64 d, .slice none 0 0, .slice none 0 0] (0, 0) _ rfl ?_ Try.underlying25 rfl (by kernel_rfl)) rfl ?_)
  · repeat (first | (with_reducible exact blk_new2 _ _ _) | (with_reducible refine blk_drewN ?_ _) | (with_reducible refine blk_drew ?_) | (with_reducible refine ret8 ?_) | (with_reducible refine blk_far ?_ (by show w.heap.size + 1 ≠ w.heap.size + 1 + 1; omega) _) | (with_reducible refine blk_alloc ?_ _))
  · exact ⟨_, _, rfl, Kd.R_nil _ _ _ _ _, Kd.R_nil _ _ _ _ _, by repeat (first | (with_reducible exact Below.refl _ _) | (with_reducible refine below8 ?_ (Nat.le_succ _)) | (with_reducible apply below_alloc) | (with_reducible apply pw_below_drewN) | (with_reducible apply below_drew1) | (with_reducible refine below_set ?_ (by omega)))⟩
set_option maxHeartbeats 8000000 in
set_option maxRecDepth 100000 in
theorem own_8 (h a b c d : Int) (A6 : Option Addr) (c6 : Nat) (l6 : List Int) (A7 : Option Addr) (c7 : Nat) (l7 : List S60) (w : World) (hr6 : Kd.C (Kd.int .i64) w A6 l6.length l6) (hc6 : l6.length ≤ c6) (hr7 : Kd.C k60 w A7 l7.length l7) (hc7 : l7.length ≤ c7) (hl6 : l6.length ≤ 5000) (hl7 : l7.length ≤ 1100) :
    Calls Try.prog 11 #[.agg #[.int .i64 8, .int .i64 h, .int .i64 a, .int .i64 b, .int .i64 c, .int .i64 d, .slice A6 l6.length c6, .slice A7 l7.length c7]] w fun e w' => ∃ v6 v7, e = .returned (.agg #[.int .i64 8, .int .i64 0, .int .i64 a, .int .i64 b, .int .i64 0, .int .i64 0, v6, v7]) ∧ Kd.R (Kd.int .i64) 3 w' w.heap.size (fun _ => True) v6 [] ∧ Kd.R k60 60 w' w.heap.size (fun _ => True) v7 [] ∧ Below w.heap.size w w' := by
  have hu25 := Try.underlying25
  have H6 := Aside0.mk hr6
  have C6 := Aside0.mk hc6
  have H7 := Aside0.mk hr7
  have C7 := Aside0.mk hc7
  have R6 : Aside0 (slices_Clone_int_int.f l6 = some l6) := Aside0.mk (by have hx : l6.length < 17592186044416 := (by omega); simp [slices_Clone_int_int.f, hx])
  have R7 : Aside0 (api_Vertex.f l7 = some l7) := Aside0.mk (by have hx : l7.length < 1954687338268 := (by omega); simp [api_Vertex.f, hx])
  clear hr6 hc6 hr7 hc7 hl6 hl7
  have hdn : w.heap.size + 1 + 1 ≠ w.heap.size := by omega
  go_enter Try.func11, Try.ntmps11
  go_wp2
  go_region_held3 (fun w' => w'.cell? ⟨w.heap.size, 2, none⟩ = some (.int .i64 a) ∧ w'.cell? ⟨w.heap.size, 3, none⟩ = some (.int .i64 b)) (first | go_keep | ((repeat' apply And.intro) <;> (first | assumption | (rw [World.cell?_setCell_far _ _ _ _ hdn]; assumption) | (rw [World.cell?_setCell_far _ _ _ _ hdn, World.cell?_setCell_far _ _ _ _ hdn]; assumption)))) (first | fail)
  all_goals go_wp2
  all_goals (refine bodyPost_ret (results_cell_row rfl _ _ (w.heap.size + 1) 25 #[.int .i64 8, .int .i64 0, .int .i64 a, .int .i64 b, .int .i64 0, .int .i64 0, .slice none 0 0, .slice none 0 0] (0, 0) _ rfl ?_ Try.underlying25 rfl (by kernel_rfl)) rfl ?_)
  · repeat (first | (with_reducible exact blk_new2 _ _ _) | (with_reducible refine blk_drewN ?_ _) | (with_reducible refine blk_drew ?_) | (with_reducible refine ret8 ?_) | (with_reducible refine blk_far ?_ (by show w.heap.size + 1 ≠ w.heap.size + 1 + 1; omega) _) | (with_reducible refine blk_alloc ?_ _))
  · exact ⟨_, _, rfl, Kd.R_nil _ _ _ _ _, Kd.R_nil _ _ _ _ _, by repeat (first | (with_reducible exact Below.refl _ _) | (with_reducible refine below8 ?_ (Nat.le_succ _)) | (with_reducible apply below_alloc) | (with_reducible apply pw_below_drewN) | (with_reducible apply below_drew1) | (with_reducible refine below_set ?_ (by omega)))⟩
set_option maxHeartbeats 8000000 in
set_option maxRecDepth 100000 in
theorem own_9 (h a b c d : Int) (A6 : Option Addr) (c6 : Nat) (l6 : List Int) (A7 : Option Addr) (c7 : Nat) (l7 : List S60) (w : World) (hr6 : Kd.C (Kd.int .i64) w A6 l6.length l6) (hc6 : l6.length ≤ c6) (hr7 : Kd.C k60 w A7 l7.length l7) (hc7 : l7.length ≤ c7) (hl6 : l6.length ≤ 5000) (hl7 : l7.length ≤ 1100) :
    Calls Try.prog 11 #[.agg #[.int .i64 9, .int .i64 h, .int .i64 a, .int .i64 b, .int .i64 c, .int .i64 d, .slice A6 l6.length c6, .slice A7 l7.length c7]] w fun e w' => ∃ v6 v7, e = .returned (.agg #[.int .i64 9, .int .i64 0, .int .i64 0, .int .i64 0, .int .i64 0, .int .i64 0, v6, v7]) ∧ Kd.R (Kd.int .i64) 3 w' w.heap.size (fun _ => True) v6 l6 ∧ Kd.R k60 60 w' w.heap.size (fun _ => True) v7 [] ∧ Below w.heap.size w w' := by
  have hu25 := Try.underlying25
  have H6 := Aside0.mk hr6
  have C6 := Aside0.mk hc6
  have H7 := Aside0.mk hr7
  have C7 := Aside0.mk hc7
  have R6 : Aside0 (slices_Clone_int_int.f l6 = some l6) := Aside0.mk (by have hx : l6.length < 17592186044416 := (by omega); simp [slices_Clone_int_int.f, hx])
  have R7 : Aside0 (api_Vertex.f l7 = some l7) := Aside0.mk (by have hx : l7.length < 1954687338268 := (by omega); simp [api_Vertex.f, hx])
  clear hr6 hc6 hr7 hc7 hl6 hl7
  have hdn : w.heap.size + 1 + 1 ≠ w.heap.size := by omega
  go_enter Try.func11, Try.ntmps11
  go_wp2_with (first | (go_at_call 20; go_must ((with_reducible refine (slices_Clone_int_int.calls _ _ l6 l6 _ (by repeat (first | (with_reducible exact H6.out) | (with_reducible refine Kd.C_alloc ?_ _) | (with_reducible refine Kd.C_drewN ?_ _) | (with_reducible refine Kd.C_drew ?_))) C6.out R6.out).mono ?_); rintro e w1 ⟨v, rfl, hR, hb⟩; obtain ⟨Av, cv, rfl⟩ := Kd.R_slice hR; have CF := clone_facts (w := w) (cobj := .cells #[.int .i64 9, .int .i64 h, .int .i64 a, .int .i64 b, .int .i64 c, .int .i64 d, .slice A6 l6.length c6, .slice A7 l7.length c7] 25 (0, 0)) (zobj := .cells #[.int .i64 0, .int .i64 0, .int .i64 0, .int .i64 0, .int .i64 0, .int .i64 0, .slice none 0 0, .slice none 0 0] 25 (0, 0)) (oobj := .cells #[.int .i64 9, .int .i64 0, .int .i64 0, .int .i64 0, .int .i64 0, .int .i64 0, .slice none 0 0, .slice none 0 0] 25 (0, 0)) hb hR (by repeat (first | (with_reducible exact blk_new _ _) | (with_reducible refine blk_drewN ?_ _) | (with_reducible refine blk_drew ?_) | (with_reducible refine blk_alloc ?_ _))) (by repeat (first | (with_reducible exact blk_new2 _ _ _) | (with_reducible refine blk_drewN ?_ _) | (with_reducible refine blk_drew ?_) | (with_reducible refine blk_alloc ?_ _))) (by repeat (first | (with_reducible exact blk_new3 _ _ _ _) | (with_reducible refine blk_drewN ?_ _) | (with_reducible refine blk_drew ?_))) (by repeat (first | (with_reducible exact Below.refl _ _) | (with_reducible apply below_alloc) | (with_reducible apply pw_below_drewN) | (with_reducible apply below_drew1))); clear hR hb; have INP := Aside0.mk CF.1; have RES := Aside0.mk CF.2.1; have OUT := Aside0.mk CF.2.2.1; have HB := Aside0.mk CF.2.2.2.1; have HR := Aside0.mk CF.2.2.2.2.1; have hlt := CF.2.2.2.2.2; clear CF; have hc0 : w1.cell? ⟨w.heap.size, 0, none⟩ = some (.int .i64 9) := (blk_cell INP.out 0).trans rfl; have hc1 : w1.cell? ⟨w.heap.size, 1, none⟩ = some (.int .i64 h) := (blk_cell INP.out 1).trans rfl; have hc2 : w1.cell? ⟨w.heap.size, 2, none⟩ = some (.int .i64 a) := (blk_cell INP.out 2).trans rfl; have hc3 : w1.cell? ⟨w.heap.size, 3, none⟩ = some (.int .i64 b) := (blk_cell INP.out 3).trans rfl; have hc4 : w1.cell? ⟨w.heap.size, 4, none⟩ = some (.int .i64 c) := (blk_cell INP.out 4).trans rfl; have hc5 : w1.cell? ⟨w.heap.size, 5, none⟩ = some (.int .i64 d) := (blk_cell INP.out 5).trans rfl; have hc6 : w1.cell? ⟨w.heap.size, 6, none⟩ = some (.slice A6 l6.length c6) := (blk_cell INP.out 6).trans rfl; have hc7 : w1.cell? ⟨w.heap.size, 7, none⟩ = some (.slice A7 l7.length c7) := (blk_cell INP.out 7).trans rfl; have ho0 := (blk_cell OUT.out 0).trans rfl; have hp0 := blk_frozen OUT.out 0; have ho1 := (blk_cell OUT.out 1).trans rfl; have hp1 := blk_frozen OUT.out 1; have ho2 := (blk_cell OUT.out 2).trans rfl; have hp2 := blk_frozen OUT.out 2; have ho3 := (blk_cell OUT.out 3).trans rfl; have hp3 := blk_frozen OUT.out 3; have ho4 := (blk_cell OUT.out 4).trans rfl; have hp4 := blk_frozen OUT.out 4; have ho5 := (blk_cell OUT.out 5).trans rfl; have hp5 := blk_frozen OUT.out 5; have ho6 := (blk_cell OUT.out 6).trans rfl; have hp6 := blk_frozen OUT.out 6; have ho7 := (blk_cell OUT.out 7).trans rfl; have hp7 := blk_frozen OUT.out 7; have hr0 := (blk_cell RES.out 0).trans rfl; have hq0 := blk_frozen RES.out 0; have hr1 := (blk_cell RES.out 1).trans rfl; have hq1 := blk_frozen RES.out 1; have hr2 := (blk_cell RES.out 2).trans rfl; have hq2 := blk_frozen RES.out 2; have hr3 := (blk_cell RES.out 3).trans rfl; have hq3 := blk_frozen RES.out 3; have hr4 := (blk_cell RES.out 4).trans rfl; have hq4 := blk_frozen RES.out 4; have hr5 := (blk_cell RES.out 5).trans rfl; have hq5 := blk_frozen RES.out 5; have hr6 := (blk_cell RES.out 6).trans rfl; have hq6 := blk_frozen RES.out 6; have hr7 := (blk_cell RES.out 7).trans rfl; have hq7 := blk_frozen RES.out 7)))
  all_goals (
    refine bodyPost_ret (results_cell_row rfl _ _ (w.heap.size + 1) 25 #[.int .i64 9, .int .i64 0, .int .i64 0, .int .i64 0, .int .i64 0, .int .i64 0, .slice Av l6.length cv, .slice none 0 0] (0, 0) _ rfl ?_ Try.underlying25 rfl (by kernel_rfl)) rfl ?_
    · repeat (first | (with_reducible exact RES.out) | (with_reducible refine blk_drewN ?_ _) | (with_reducible refine blk_drew ?_) | (with_reducible refine ret8 ?_) | (with_reducible refine blk_far ?_ (by show w.heap.size + 1 ≠ w.heap.size + 1 + 1; omega) _))
    · exact ⟨_, _, rfl, by (refine Kd.R_mono (ok := fun k => w.heap.size + 1 + 1 < k) ?_ (fun _ _ => trivial); repeat (first | (with_reducible exact HR.out) | (with_reducible refine Kd.R_drewN ?_ _) | (with_reducible refine Kd.R_drew ?_) | (refine Kd.R_far ?_ (by intro k hk; (try simp only []); omega) _))), Kd.R_nil _ _ _ _ _, by repeat (first | (with_reducible exact HB.out) | (with_reducible refine below8 ?_ (Nat.le_succ _)) | (with_reducible apply pw_below_drewN) | (with_reducible apply below_drew1) | (with_reducible refine below_set ?_ (by omega)))⟩)
set_option maxHeartbeats 8000000 in
set_option maxRecDepth 100000 in
theorem own_10 (h a b c d : Int) (A6 : Option Addr) (c6 : Nat) (l6 : List Int) (A7 : Option Addr) (c7 : Nat) (l7 : List S60) (w : World) (hr6 : Kd.C (Kd.int .i64) w A6 l6.length l6) (hc6 : l6.length ≤ c6) (hr7 : Kd.C k60 w A7 l7.length l7) (hc7 : l7.length ≤ c7) (hl6 : l6.length ≤ 5000) (hl7 : l7.length ≤ 1100) :
    Calls Try.prog 11 #[.agg #[.int .i64 10, .int .i64 h, .int .i64 a, .int .i64 b, .int .i64 c, .int .i64 d, .slice A6 l6.length c6, .slice A7 l7.length c7]] w fun e w' => ∃ v6 v7, e = .returned (.agg #[.int .i64 10, .int .i64 0, .int .i64 a, .int .i64 b, .int .i64 c, .int .i64 d, v6, v7]) ∧ Kd.R (Kd.int .i64) 3 w' w.heap.size (fun _ => True) v6 [] ∧ Kd.R k60 60 w' w.heap.size (fun _ => True) v7 [] ∧ Below w.heap.size w w' := by
  have hu25 := Try.underlying25
  have H6 := Aside0.mk hr6
  have C6 := Aside0.mk hc6
  have H7 := Aside0.mk hr7
  have C7 := Aside0.mk hc7
  have R6 : Aside0 (slices_Clone_int_int.f l6 = some l6) := Aside0.mk (by have hx : l6.length < 17592186044416 := (by omega); simp [slices_Clone_int_int.f, hx])
  have R7 : Aside0 (api_Vertex.f l7 = some l7) := Aside0.mk (by have hx : l7.length < 1954687338268 := (by omega); simp [api_Vertex.f, hx])
  clear hr6 hc6 hr7 hc7 hl6 hl7
  have hdn : w.heap.size + 1 + 1 ≠ w.heap.size := by omega
  go_enter Try.func11, Try.ntmps11
  go_wp2
  go_region_held3 (fun w' => w'.cell? ⟨w.heap.size, 2, none⟩ = some (.int .i64 a) ∧ w'.cell? ⟨w.heap.size, 3, none⟩ = some (.int .i64 b) ∧ w'.cell? ⟨w.heap.size, 4, none⟩ = some (.int .i64 c) ∧ w'.cell? ⟨w.heap.size, 5, none⟩ = some (.int .i64 d)) (first | go_keep | ((repeat' apply And.intro) <;> (first | assumption | (rw [World.cell?_setCell_far _ _ _ _ hdn]; assumption) | (rw [World.cell?_setCell_far _ _ _ _ hdn, World.cell?_setCell_far _ _ _ _ hdn]; assumption)))) (first | fail)
  all_goals go_wp2
  all_goals (refine bodyPost_ret (results_cell_row rfl _ _ (w.heap.size + 1) 25 #[.int .i64 10, .int .i64 0, .int .i64 a, .int .i64 b, .int .i64 c, .int .i64 d, .slice none 0 0, .slice none 0 0] (0, 0) _ rfl ?_ Try.underlying25 rfl (by kernel_rfl)) rfl ?_)
  · repeat (first | (with_reducible exact blk_new2 _ _ _) | (with_reducible refine blk_drewN ?_ _) | (with_reducible refine blk_drew ?_) | (with_reducible refine ret8 ?_) | (with_reducible refine blk_far ?_ (by show w.heap.size + 1 ≠ w.heap.size + 1 + 1; omega) _) | (with_reducible refine blk_alloc ?_ _))
  · exact ⟨_, _, rfl, Kd.R_nil _ _ _ _ _, Kd.R_nil _ _ _ _ _, by repeat (first | (with_reducible exact Below.refl _ _) | (with_reducible refine below8 ?_ (Nat.le_succ _)) | (with_reducible apply below_alloc) | (with_reducible apply pw_below_drewN) | (with_reducible apply below_drew1) | (with_reducible refine below_set ?_ (by omega)))⟩
set_option maxHeartbeats 8000000 in
set_option maxRecDepth 100000 in
theorem own_11 (h a b c d : Int) (A6 : Option Addr) (c6 : Nat) (l6 : List Int) (A7 : Option Addr) (c7 : Nat) (l7 : List S60) (w : World) (hr6 : Kd.C (Kd.int .i64) w A6 l6.length l6) (hc6 : l6.length ≤ c6) (hr7 : Kd.C k60 w A7 l7.length l7) (hc7 : l7.length ≤ c7) (hl6 : l6.length ≤ 5000) (hl7 : l7.length ≤ 1100) :
    Calls Try.prog 11 #[.agg #[.int .i64 11, .int .i64 h, .int .i64 a, .int .i64 b, .int .i64 c, .int .i64 d, .slice A6 l6.length c6, .slice A7 l7.length c7]] w fun e w' => ∃ v6 v7, e = .returned (.agg #[.int .i64 11, .int .i64 0, .int .i64 a, .int .i64 0, .int .i64 0, .int .i64 0, v6, v7]) ∧ Kd.R (Kd.int .i64) 3 w' w.heap.size (fun _ => True) v6 [] ∧ Kd.R k60 60 w' w.heap.size (fun _ => True) v7 [] ∧ Below w.heap.size w w' := by
  have hu25 := Try.underlying25
  have H6 := Aside0.mk hr6
  have C6 := Aside0.mk hc6
  have H7 := Aside0.mk hr7
  have C7 := Aside0.mk hc7
  have R6 : Aside0 (slices_Clone_int_int.f l6 = some l6) := Aside0.mk (by have hx : l6.length < 17592186044416 := (by omega); simp [slices_Clone_int_int.f, hx])
  have R7 : Aside0 (api_Vertex.f l7 = some l7) := Aside0.mk (by have hx : l7.length < 1954687338268 := (by omega); simp [api_Vertex.f, hx])
  clear hr6 hc6 hr7 hc7 hl6 hl7
  have hdn : w.heap.size + 1 + 1 ≠ w.heap.size := by omega
  go_enter Try.func11, Try.ntmps11
  go_wp2
  all_goals (refine bodyPost_ret (results_cell_row rfl _ _ (w.heap.size + 1) 25 #[.int .i64 11, .int .i64 0, .int .i64 a, .int .i64 0, .int .i64 0, .int .i64 0, .slice none 0 0, .slice none 0 0] (0, 0) _ rfl ?_ Try.underlying25 rfl (by kernel_rfl)) rfl ?_)
  · repeat (first | (with_reducible exact blk_new2 _ _ _) | (with_reducible refine blk_drewN ?_ _) | (with_reducible refine blk_drew ?_) | (with_reducible refine ret8 ?_) | (with_reducible refine blk_far ?_ (by show w.heap.size + 1 ≠ w.heap.size + 1 + 1; omega) _) | (with_reducible refine blk_alloc ?_ _))
  · exact ⟨_, _, rfl, Kd.R_nil _ _ _ _ _, Kd.R_nil _ _ _ _ _, by repeat (first | (with_reducible exact Below.refl _ _) | (with_reducible refine below8 ?_ (Nat.le_succ _)) | (with_reducible apply below_alloc) | (with_reducible apply pw_below_drewN) | (with_reducible apply below_drew1) | (with_reducible refine below_set ?_ (by omega)))⟩
set_option maxHeartbeats 8000000 in
set_option maxRecDepth 100000 in
theorem own_12 (h a b c d : Int) (A6 : Option Addr) (c6 : Nat) (l6 : List Int) (A7 : Option Addr) (c7 : Nat) (l7 : List S60) (w : World) (hr6 : Kd.C (Kd.int .i64) w A6 l6.length l6) (hc6 : l6.length ≤ c6) (hr7 : Kd.C k60 w A7 l7.length l7) (hc7 : l7.length ≤ c7) (hl6 : l6.length ≤ 5000) (hl7 : l7.length ≤ 1100) :
    Calls Try.prog 11 #[.agg #[.int .i64 12, .int .i64 h, .int .i64 a, .int .i64 b, .int .i64 c, .int .i64 d, .slice A6 l6.length c6, .slice A7 l7.length c7]] w fun e w' => ∃ v6 v7, e = .returned (.agg #[.int .i64 12, .int .i64 h, .int .i64 a, .int .i64 b, .int .i64 0, .int .i64 0, v6, v7]) ∧ Kd.R (Kd.int .i64) 3 w' w.heap.size (fun _ => True) v6 [] ∧ Kd.R k60 60 w' w.heap.size (fun _ => True) v7 [] ∧ Below w.heap.size w w' := by
  have hu25 := Try.underlying25
  have H6 := Aside0.mk hr6
  have C6 := Aside0.mk hc6
  have H7 := Aside0.mk hr7
  have C7 := Aside0.mk hc7
  have R6 : Aside0 (slices_Clone_int_int.f l6 = some l6) := Aside0.mk (by have hx : l6.length < 17592186044416 := (by omega); simp [slices_Clone_int_int.f, hx])
  have R7 : Aside0 (api_Vertex.f l7 = some l7) := Aside0.mk (by have hx : l7.length < 1954687338268 := (by omega); simp [api_Vertex.f, hx])
  clear hr6 hc6 hr7 hc7 hl6 hl7
  have hdn : w.heap.size + 1 + 1 ≠ w.heap.size := by omega
  go_enter Try.func11, Try.ntmps11
  go_wp2
  go_region_held3 (fun w' => w'.cell? ⟨w.heap.size, 1, none⟩ = some (.int .i64 h) ∧ w'.cell? ⟨w.heap.size, 2, none⟩ = some (.int .i64 a) ∧ w'.cell? ⟨w.heap.size, 3, none⟩ = some (.int .i64 b)) (first | go_keep | ((repeat' apply And.intro) <;> (first | assumption | (rw [World.cell?_setCell_far _ _ _ _ hdn]; assumption) | (rw [World.cell?_setCell_far _ _ _ _ hdn, World.cell?_setCell_far _ _ _ _ hdn]; assumption)))) (first | fail)
  all_goals go_wp2
  all_goals (refine bodyPost_ret (results_cell_row rfl _ _ (w.heap.size + 1) 25 #[.int .i64 12, .int .i64 h, .int .i64 a, .int .i64 b, .int .i64 0, .int .i64 0, .slice none 0 0, .slice none 0 0] (0, 0) _ rfl ?_ Try.underlying25 rfl (by kernel_rfl)) rfl ?_)
  · repeat (first | (with_reducible exact blk_new2 _ _ _) | (with_reducible refine blk_drewN ?_ _) | (with_reducible refine blk_drew ?_) | (with_reducible refine ret8 ?_) | (with_reducible refine blk_far ?_ (by show w.heap.size + 1 ≠ w.heap.size + 1 + 1; omega) _) | (with_reducible refine blk_alloc ?_ _))
  · exact ⟨_, _, rfl, Kd.R_nil _ _ _ _ _, Kd.R_nil _ _ _ _ _, by repeat (first | (with_reducible exact Below.refl _ _) | (with_reducible refine below8 ?_ (Nat.le_succ _)) | (with_reducible apply below_alloc) | (with_reducible apply pw_below_drewN) | (with_reducible apply below_drew1) | (with_reducible refine below_set ?_ (by omega)))⟩
set_option maxHeartbeats 8000000 in
set_option maxRecDepth 100000 in
theorem own_13 (h a b c d : Int) (A6 : Option Addr) (c6 : Nat) (l6 : List Int) (A7 : Option Addr) (c7 : Nat) (l7 : List S60) (w : World) (hr6 : Kd.C (Kd.int .i64) w A6 l6.length l6) (hc6 : l6.length ≤ c6) (hr7 : Kd.C k60 w A7 l7.length l7) (hc7 : l7.length ≤ c7) (hl6 : l6.length ≤ 5000) (hl7 : l7.length ≤ 1100) :
    Calls Try.prog 11 #[.agg #[.int .i64 13, .int .i64 h, .int .i64 a, .int .i64 b, .int .i64 c, .int .i64 d, .slice A6 l6.length c6, .slice A7 l7.length c7]] w fun e w' => ∃ v6 v7, e = .returned (.agg #[.int .i64 13, .int .i64 0, .int .i64 a, .int .i64 b, .int .i64 c, .int .i64 d, v6, v7]) ∧ Kd.R (Kd.int .i64) 3 w' w.heap.size (fun _ => True) v6 [] ∧ Kd.R k60 60 w' w.heap.size (fun _ => True) v7 [] ∧ Below w.heap.size w w' := by
  have hu25 := Try.underlying25
  have H6 := Aside0.mk hr6
  have C6 := Aside0.mk hc6
  have H7 := Aside0.mk hr7
  have C7 := Aside0.mk hc7
  have R6 : Aside0 (slices_Clone_int_int.f l6 = some l6) := Aside0.mk (by have hx : l6.length < 17592186044416 := (by omega); simp [slices_Clone_int_int.f, hx])
  have R7 : Aside0 (api_Vertex.f l7 = some l7) := Aside0.mk (by have hx : l7.length < 1954687338268 := (by omega); simp [api_Vertex.f, hx])
  clear hr6 hc6 hr7 hc7 hl6 hl7
  have hdn : w.heap.size + 1 + 1 ≠ w.heap.size := by omega
  go_enter Try.func11, Try.ntmps11
  go_wp2
  go_region_held3 (fun w' => w'.cell? ⟨w.heap.size, 2, none⟩ = some (.int .i64 a) ∧ w'.cell? ⟨w.heap.size, 3, none⟩ = some (.int .i64 b) ∧ w'.cell? ⟨w.heap.size, 4, none⟩ = some (.int .i64 c) ∧ w'.cell? ⟨w.heap.size, 5, none⟩ = some (.int .i64 d)) (first | go_keep | ((repeat' apply And.intro) <;> (first | assumption | (rw [World.cell?_setCell_far _ _ _ _ hdn]; assumption) | (rw [World.cell?_setCell_far _ _ _ _ hdn, World.cell?_setCell_far _ _ _ _ hdn]; assumption)))) (first | fail)
  all_goals go_wp2
  all_goals (refine bodyPost_ret (results_cell_row rfl _ _ (w.heap.size + 1) 25 #[.int .i64 13, .int .i64 0, .int .i64 a, .int .i64 b, .int .i64 c, .int .i64 d, .slice none 0 0, .slice none 0 0] (0, 0) _ rfl ?_ Try.underlying25 rfl (by kernel_rfl)) rfl ?_)
  · repeat (first | (with_reducible exact blk_new2 _ _ _) | (with_reducible refine blk_drewN ?_ _) | (with_reducible refine blk_drew ?_) | (with_reducible refine ret8 ?_) | (with_reducible refine blk_far ?_ (by show w.heap.size + 1 ≠ w.heap.size + 1 + 1; omega) _) | (with_reducible refine blk_alloc ?_ _))
  · exact ⟨_, _, rfl, Kd.R_nil _ _ _ _ _, Kd.R_nil _ _ _ _ _, by repeat (first | (with_reducible exact Below.refl _ _) | (with_reducible refine below8 ?_ (Nat.le_succ _)) | (with_reducible apply below_alloc) | (with_reducible apply pw_below_drewN) | (with_reducible apply below_drew1) | (with_reducible refine below_set ?_ (by omega)))⟩
set_option maxHeartbeats 8000000 in
set_option maxRecDepth 100000 in
theorem own_14 (h a b c d : Int) (A6 : Option Addr) (c6 : Nat) (l6 : List Int) (A7 : Option Addr) (c7 : Nat) (l7 : List S60) (w : World) (hr6 : Kd.C (Kd.int .i64) w A6 l6.length l6) (hc6 : l6.length ≤ c6) (hr7 : Kd.C k60 w A7 l7.length l7) (hc7 : l7.length ≤ c7) (hl6 : l6.length ≤ 5000) (hl7 : l7.length ≤ 1100) :
    Calls Try.prog 11 #[.agg #[.int .i64 14, .int .i64 h, .int .i64 a, .int .i64 b, .int .i64 c, .int .i64 d, .slice A6 l6.length c6, .slice A7 l7.length c7]] w fun e w' => ∃ v6 v7, e = .returned (.agg #[.int .i64 14, .int .i64 h, .int .i64 a, .int .i64 b, .int .i64 c, .int .i64 0, v6, v7]) ∧ Kd.R (Kd.int .i64) 3 w' w.heap.size (fun _ => True) v6 [] ∧ Kd.R k60 60 w' w.heap.size (fun _ => True) v7 [] ∧ Below w.heap.size w w' := by
  have hu25 := Try.underlying25
  have H6 := Aside0.mk hr6
  have C6 := Aside0.mk hc6
  have H7 := Aside0.mk hr7
  have C7 := Aside0.mk hc7
  have R6 : Aside0 (slices_Clone_int_int.f l6 = some l6) := Aside0.mk (by have hx : l6.length < 17592186044416 := (by omega); simp [slices_Clone_int_int.f, hx])
  have R7 : Aside0 (api_Vertex.f l7 = some l7) := Aside0.mk (by have hx : l7.length < 1954687338268 := (by omega); simp [api_Vertex.f, hx])
  clear hr6 hc6 hr7 hc7 hl6 hl7
  have hdn : w.heap.size + 1 + 1 ≠ w.heap.size := by omega
  go_enter Try.func11, Try.ntmps11
  go_wp2
  go_region_held3 (fun w' => w'.cell? ⟨w.heap.size, 1, none⟩ = some (.int .i64 h) ∧ w'.cell? ⟨w.heap.size, 2, none⟩ = some (.int .i64 a) ∧ w'.cell? ⟨w.heap.size, 3, none⟩ = some (.int .i64 b) ∧ w'.cell? ⟨w.heap.size, 4, none⟩ = some (.int .i64 c)) (first | go_keep | ((repeat' apply And.intro) <;> (first | assumption | (rw [World.cell?_setCell_far _ _ _ _ hdn]; assumption) | (rw [World.cell?_setCell_far _ _ _ _ hdn, World.cell?_setCell_far _ _ _ _ hdn]; assumption)))) (first | fail)
  all_goals go_wp2
  all_goals (refine bodyPost_ret (results_cell_row rfl _ _ (w.heap.size + 1) 25 #[.int .i64 14, .int .i64 h, .int .i64 a, .int .i64 b, .int .i64 c, .int .i64 0, .slice none 0 0, .slice none 0 0] (0, 0) _ rfl ?_ Try.underlying25 rfl (by kernel_rfl)) rfl ?_)
  · repeat (first | (with_reducible exact blk_new2 _ _ _) | (with_reducible refine blk_drewN ?_ _) | (with_reducible refine blk_drew ?_) | (with_reducible refine ret8 ?_) | (with_reducible refine blk_far ?_ (by show w.heap.size + 1 ≠ w.heap.size + 1 + 1; omega) _) | (with_reducible refine blk_alloc ?_ _))
  · exact ⟨_, _, rfl, Kd.R_nil _ _ _ _ _, Kd.R_nil _ _ _ _ _, by repeat (first | (with_reducible exact Below.refl _ _) | (with_reducible refine below8 ?_ (Nat.le_succ _)) | (with_reducible apply below_alloc) | (with_reducible apply pw_below_drewN) | (with_reducible apply below_drew1) | (with_reducible refine below_set ?_ (by omega)))⟩
set_option maxHeartbeats 8000000 in
set_option maxRecDepth 100000 in
theorem own_15 (h a b c d : Int) (A6 : Option Addr) (c6 : Nat) (l6 : List Int) (A7 : Option Addr) (c7 : Nat) (l7 : List S60) (w : World) (hr6 : Kd.C (Kd.int .i64) w A6 l6.length l6) (hc6 : l6.length ≤ c6) (hr7 : Kd.C k60 w A7 l7.length l7) (hc7 : l7.length ≤ c7) (hl6 : l6.length ≤ 5000) (hl7 : l7.length ≤ 1100) :
    Calls Try.prog 11 #[.agg #[.int .i64 15, .int .i64 h, .int .i64 a, .int .i64 b, .int .i64 c, .int .i64 d, .slice A6 l6.length c6, .slice A7 l7.length c7]] w fun e w' => ∃ v6 v7, e = .returned (.agg #[.int .i64 15, .int .i64 0, .int .i64 0, .int .i64 0, .int .i64 0, .int .i64 0, v6, v7]) ∧ Kd.R (Kd.int .i64) 3 w' w.heap.size (fun _ => True) v6 [] ∧ Kd.R k60 60 w' w.heap.size (fun _ => True) v7 [] ∧ Below w.heap.size w w' := by
  have hu25 := Try.underlying25
  have H6 := Aside0.mk hr6
  have C6 := Aside0.mk hc6
  have H7 := Aside0.mk hr7
  have C7 := Aside0.mk hc7
  have R6 : Aside0 (slices_Clone_int_int.f l6 = some l6) := Aside0.mk (by have hx : l6.length < 17592186044416 := (by omega); simp [slices_Clone_int_int.f, hx])
  have R7 : Aside0 (api_Vertex.f l7 = some l7) := Aside0.mk (by have hx : l7.length < 1954687338268 := (by omega); simp [api_Vertex.f, hx])
  clear hr6 hc6 hr7 hc7 hl6 hl7
  have hdn : w.heap.size + 1 + 1 ≠ w.heap.size := by omega
  go_enter Try.func11, Try.ntmps11
  go_wp2
  all_goals (refine bodyPost_ret (results_cell_row rfl _ _ (w.heap.size + 1) 25 #[.int .i64 15, .int .i64 0, .int .i64 0, .int .i64 0, .int .i64 0, .int .i64 0, .slice none 0 0, .slice none 0 0] (0, 0) _ rfl ?_ Try.underlying25 rfl (by kernel_rfl)) rfl ?_)
  · repeat (first | (with_reducible exact blk_new2 _ _ _) | (with_reducible refine blk_drewN ?_ _) | (with_reducible refine blk_drew ?_) | (with_reducible refine ret8 ?_) | (with_reducible refine blk_far ?_ (by show w.heap.size + 1 ≠ w.heap.size + 1 + 1; omega) _) | (with_reducible refine blk_alloc ?_ _))
  · exact ⟨_, _, rfl, Kd.R_nil _ _ _ _ _, Kd.R_nil _ _ _ _ _, by repeat (first | (with_reducible exact Below.refl _ _) | (with_reducible refine below8 ?_ (Nat.le_succ _)) | (with_reducible apply below_alloc) | (with_reducible apply pw_below_drewN) | (with_reducible apply below_drew1) | (with_reducible refine below_set ?_ (by omega)))⟩
set_option maxHeartbeats 8000000 in
set_option maxRecDepth 100000 in
theorem own_16 (h a b c d : Int) (A6 : Option Addr) (c6 : Nat) (l6 : List Int) (A7 : Option Addr) (c7 : Nat) (l7 : List S60) (w : World) (hr6 : Kd.C (Kd.int .i64) w A6 l6.length l6) (hc6 : l6.length ≤ c6) (hr7 : Kd.C k60 w A7 l7.length l7) (hc7 : l7.length ≤ c7) (hl6 : l6.length ≤ 5000) (hl7 : l7.length ≤ 1100) :
    Calls Try.prog 11 #[.agg #[.int .i64 16, .int .i64 h, .int .i64 a, .int .i64 b, .int .i64 c, .int .i64 d, .slice A6 l6.length c6, .slice A7 l7.length c7]] w fun e w' => ∃ v6 v7, e = .returned (.agg #[.int .i64 16, .int .i64 0, .int .i64 a, .int .i64 0, .int .i64 0, .int .i64 0, v6, v7]) ∧ Kd.R (Kd.int .i64) 3 w' w.heap.size (fun _ => True) v6 [] ∧ Kd.R k60 60 w' w.heap.size (fun _ => True) v7 [] ∧ Below w.heap.size w w' := by
  have hu25 := Try.underlying25
  have H6 := Aside0.mk hr6
  have C6 := Aside0.mk hc6
  have H7 := Aside0.mk hr7
  have C7 := Aside0.mk hc7
  have R6 : Aside0 (slices_Clone_int_int.f l6 = some l6) := Aside0.mk (by have hx : l6.length < 17592186044416 := (by omega); simp [slices_Clone_int_int.f, hx])
  have R7 : Aside0 (api_Vertex.f l7 = some l7) := Aside0.mk (by have hx : l7.length < 1954687338268 := (by omega); simp [api_Vertex.f, hx])
  clear hr6 hc6 hr7 hc7 hl6 hl7
  have hdn : w.heap.size + 1 + 1 ≠ w.heap.size := by omega
  go_enter Try.func11, Try.ntmps11
  go_wp2
  all_goals (refine bodyPost_ret (results_cell_row rfl _ _ (w.heap.size + 1) 25 #[.int .i64 16, .int .i64 0, .int .i64 a, .int .i64 0, .int .i64 0, .int .i64 0, .slice none 0 0, .slice none 0 0] (0, 0) _ rfl ?_ Try.underlying25 rfl (by kernel_rfl)) rfl ?_)
  · repeat (first | (with_reducible exact blk_new2 _ _ _) | (with_reducible refine blk_drewN ?_ _) | (with_reducible refine blk_drew ?_) | (with_reducible refine ret8 ?_) | (with_reducible refine blk_far ?_ (by show w.heap.size + 1 ≠ w.heap.size + 1 + 1; omega) _) | (with_reducible refine blk_alloc ?_ _))
  · exact ⟨_, _, rfl, Kd.R_nil _ _ _ _ _, Kd.R_nil _ _ _ _ _, by repeat (first | (with_reducible exact Below.refl _ _) | (with_reducible refine below8 ?_ (Nat.le_succ _)) | (with_reducible apply below_alloc) | (with_reducible apply pw_below_drewN) | (with_reducible apply below_drew1) | (with_reducible refine below_set ?_ (by omega)))⟩
set_option maxHeartbeats 8000000 in
set_option maxRecDepth 100000 in
theorem own_17 (h a b c d : Int) (A6 : Option Addr) (c6 : Nat) (l6 : List Int) (A7 : Option Addr) (c7 : Nat) (l7 : List S60) (w : World) (hr6 : Kd.C (Kd.int .i64) w A6 l6.length l6) (hc6 : l6.length ≤ c6) (hr7 : Kd.C k60 w A7 l7.length l7) (hc7 : l7.length ≤ c7) (hl6 : l6.length ≤ 5000) (hl7 : l7.length ≤ 1100) :
    Calls Try.prog 11 #[.agg #[.int .i64 17, .int .i64 h, .int .i64 a, .int .i64 b, .int .i64 c, .int .i64 d, .slice A6 l6.length c6, .slice A7 l7.length c7]] w fun e w' => ∃ v6 v7, e = .returned (.agg #[.int .i64 17, .int .i64 0, .int .i64 a, .int .i64 0, .int .i64 0, .int .i64 0, v6, v7]) ∧ Kd.R (Kd.int .i64) 3 w' w.heap.size (fun _ => True) v6 [] ∧ Kd.R k60 60 w' w.heap.size (fun _ => True) v7 [] ∧ Below w.heap.size w w' := by
  have hu25 := Try.underlying25
  have H6 := Aside0.mk hr6
  have C6 := Aside0.mk hc6
  have H7 := Aside0.mk hr7
  have C7 := Aside0.mk hc7
  have R6 : Aside0 (slices_Clone_int_int.f l6 = some l6) := Aside0.mk (by have hx : l6.length < 17592186044416 := (by omega); simp [slices_Clone_int_int.f, hx])
  have R7 : Aside0 (api_Vertex.f l7 = some l7) := Aside0.mk (by have hx : l7.length < 1954687338268 := (by omega); simp [api_Vertex.f, hx])
  clear hr6 hc6 hr7 hc7 hl6 hl7
  have hdn : w.heap.size + 1 + 1 ≠ w.heap.size := by omega
  go_enter Try.func11, Try.ntmps11
  go_wp2
  all_goals (refine bodyPost_ret (results_cell_row rfl _ _ (w.heap.size + 1) 25 #[.int .i64 17, .int .i64 0, .int .i64 a, .int .i64 0, .int .i64 0, .int .i64 0, .slice none 0 0, .slice none 0 0] (0, 0) _ rfl ?_ Try.underlying25 rfl (by kernel_rfl)) rfl ?_)
  · repeat (first | (with_reducible exact blk_new2 _ _ _) | (with_reducible refine blk_drewN ?_ _) | (with_reducible refine blk_drew ?_) | (with_reducible refine ret8 ?_) | (with_reducible refine blk_far ?_ (by show w.heap.size + 1 ≠ w.heap.size + 1 + 1; omega) _) | (with_reducible refine blk_alloc ?_ _))
  · exact ⟨_, _, rfl, Kd.R_nil _ _ _ _ _, Kd.R_nil _ _ _ _ _, by repeat (first | (with_reducible exact Below.refl _ _) | (with_reducible refine below8 ?_ (Nat.le_succ _)) | (with_reducible apply below_alloc) | (with_reducible apply pw_below_drewN) | (with_reducible apply below_drew1) | (with_reducible refine below_set ?_ (by omega)))⟩
set_option maxHeartbeats 8000000 in
set_option maxRecDepth 100000 in
theorem own_18 (h a b c d : Int) (A6 : Option Addr) (c6 : Nat) (l6 : List Int) (A7 : Option Addr) (c7 : Nat) (l7 : List S60) (w : World) (hr6 : Kd.C (Kd.int .i64) w A6 l6.length l6) (hc6 : l6.length ≤ c6) (hr7 : Kd.C k60 w A7 l7.length l7) (hc7 : l7.length ≤ c7) (hl6 : l6.length ≤ 5000) (hl7 : l7.length ≤ 1100) :
    Calls Try.prog 11 #[.agg #[.int .i64 18, .int .i64 h, .int .i64 a, .int .i64 b, .int .i64 c, .int .i64 d, .slice A6 l6.length c6, .slice A7 l7.length c7]] w fun e w' => ∃ v6 v7, e = .returned (.agg #[.int .i64 18, .int .i64 h, .int .i64 a, .int .i64 b, .int .i64 c, .int .i64 d, v6, v7]) ∧ Kd.R (Kd.int .i64) 3 w' w.heap.size (fun _ => True) v6 [] ∧ Kd.R k60 60 w' w.heap.size (fun _ => True) v7 [] ∧ Below w.heap.size w w' := by
  have hu25 := Try.underlying25
  have H6 := Aside0.mk hr6
  have C6 := Aside0.mk hc6
  have H7 := Aside0.mk hr7
  have C7 := Aside0.mk hc7
  have R6 : Aside0 (slices_Clone_int_int.f l6 = some l6) := Aside0.mk (by have hx : l6.length < 17592186044416 := (by omega); simp [slices_Clone_int_int.f, hx])
  have R7 : Aside0 (api_Vertex.f l7 = some l7) := Aside0.mk (by have hx : l7.length < 1954687338268 := (by omega); simp [api_Vertex.f, hx])
  clear hr6 hc6 hr7 hc7 hl6 hl7
  have hdn : w.heap.size + 1 + 1 ≠ w.heap.size := by omega
  go_enter Try.func11, Try.ntmps11
  go_wp2
  go_region_held3 (fun w' => w'.cell? ⟨w.heap.size, 1, none⟩ = some (.int .i64 h) ∧ w'.cell? ⟨w.heap.size, 2, none⟩ = some (.int .i64 a) ∧ w'.cell? ⟨w.heap.size, 3, none⟩ = some (.int .i64 b) ∧ w'.cell? ⟨w.heap.size, 4, none⟩ = some (.int .i64 c) ∧ w'.cell? ⟨w.heap.size, 5, none⟩ = some (.int .i64 d)) (first | go_keep | ((repeat' apply And.intro) <;> (first | assumption | (rw [World.cell?_setCell_far _ _ _ _ hdn]; assumption) | (rw [World.cell?_setCell_far _ _ _ _ hdn, World.cell?_setCell_far _ _ _ _ hdn]; assumption)))) (first | fail)
  all_goals go_wp2
  all_goals (refine bodyPost_ret (results_cell_row rfl _ _ (w.heap.size + 1) 25 #[.int .i64 18, .int .i64 h, .int .i64 a, .int .i64 b, .int .i64 c, .int .i64 d, .slice none 0 0, .slice none 0 0] (0, 0) _ rfl ?_ Try.underlying25 rfl (by kernel_rfl)) rfl ?_)
  · repeat (first | (with_reducible exact blk_new2 _ _ _) | (with_reducible refine blk_drewN ?_ _) | (with_reducible refine blk_drew ?_) | (with_reducible refine ret8 ?_) | (with_reducible refine blk_far ?_ (by show w.heap.size + 1 ≠ w.heap.size + 1 + 1; omega) _) | (with_reducible refine blk_alloc ?_ _))
  · exact ⟨_, _, rfl, Kd.R_nil _ _ _ _ _, Kd.R_nil _ _ _ _ _, by repeat (first | (with_reducible exact Below.refl _ _) | (with_reducible refine below8 ?_ (Nat.le_succ _)) | (with_reducible apply below_alloc) | (with_reducible apply pw_below_drewN) | (with_reducible apply below_drew1) | (with_reducible refine below_set ?_ (by omega)))⟩
set_option maxHeartbeats 8000000 in
set_option maxRecDepth 100000 in
theorem own_19 (h a b c d : Int) (A6 : Option Addr) (c6 : Nat) (l6 : List Int) (A7 : Option Addr) (c7 : Nat) (l7 : List S60) (w : World) (hr6 : Kd.C (Kd.int .i64) w A6 l6.length l6) (hc6 : l6.length ≤ c6) (hr7 : Kd.C k60 w A7 l7.length l7) (hc7 : l7.length ≤ c7) (hl6 : l6.length ≤ 5000) (hl7 : l7.length ≤ 1100) :
    Calls Try.prog 11 #[.agg #[.int .i64 19, .int .i64 h, .int .i64 a, .int .i64 b, .int .i64 c, .int .i64 d, .slice A6 l6.length c6, .slice A7 l7.length c7]] w fun e w' => ∃ v6 v7, e = .returned (.agg #[.int .i64 19, .int .i64 0, .int .i64 0, .int .i64 0, .int .i64 0, .int .i64 0, v6, v7]) ∧ Kd.R (Kd.int .i64) 3 w' w.heap.size (fun _ => True) v6 [] ∧ Kd.R k60 60 w' w.heap.size (fun _ => True) v7 [] ∧ Below w.heap.size w w' := by
  have hu25 := Try.underlying25
  have H6 := Aside0.mk hr6
  have C6 := Aside0.mk hc6
  have H7 := Aside0.mk hr7
  have C7 := Aside0.mk hc7
  have R6 : Aside0 (slices_Clone_int_int.f l6 = some l6) := Aside0.mk (by have hx : l6.length < 17592186044416 := (by omega); simp [slices_Clone_int_int.f, hx])
  have R7 : Aside0 (api_Vertex.f l7 = some l7) := Aside0.mk (by have hx : l7.length < 1954687338268 := (by omega); simp [api_Vertex.f, hx])
  clear hr6 hc6 hr7 hc7 hl6 hl7
  have hdn : w.heap.size + 1 + 1 ≠ w.heap.size := by omega
  go_enter Try.func11, Try.ntmps11
  go_wp2
  all_goals (refine bodyPost_ret (results_cell_row rfl _ _ (w.heap.size + 1) 25 #[.int .i64 19, .int .i64 0, .int .i64 0, .int .i64 0, .int .i64 0, .int .i64 0, .slice none 0 0, .slice none 0 0] (0, 0) _ rfl ?_ Try.underlying25 rfl (by kernel_rfl)) rfl ?_)
  · repeat (first | (with_reducible exact blk_new2 _ _ _) | (with_reducible refine blk_drewN ?_ _) | (with_reducible refine blk_drew ?_) | (with_reducible refine ret8 ?_) | (with_reducible refine blk_far ?_ (by show w.heap.size + 1 ≠ w.heap.size + 1 + 1; omega) _) | (with_reducible refine blk_alloc ?_ _))
  · exact ⟨_, _, rfl, Kd.R_nil _ _ _ _ _, Kd.R_nil _ _ _ _ _, by repeat (first | (with_reducible exact Below.refl _ _) | (with_reducible refine below8 ?_ (Nat.le_succ _)) | (with_reducible apply below_alloc) | (with_reducible apply pw_below_drewN) | (with_reducible apply below_drew1) | (with_reducible refine below_set ?_ (by omega)))⟩
end Go.Proofs.Ytcadgbeablpnmaa.PCmd
