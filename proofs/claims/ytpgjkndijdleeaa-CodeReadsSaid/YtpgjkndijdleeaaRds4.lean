/- What the claim of RowCodeReads needs of this seat's texts (drawn together by wip/prune.py): PCodex8, PCodex9. -/
import Derived.Test.YtpgjkndijdleeaaRds3
section
namespace Go.Proofs.Ytpgjkndijdleeaa.PCode
open Go.RowKit Go.Proofs.YtpgjkndijdleeaaW.PrintWords Go.Proofs.YtpgjkndijdleeaaW.PrintLast Go.Proofs.YtpgjkndijdleeaaW.PrintMore
attribute [local go_sem] max2_int min2_int max_two min_two max_three min_three max_four min_four   -- for this text's walks alone
set_option linter.unusedVariables false
set_option linter.unusedSimpArgs false
mutual
def temperaref21_Read.l0 : Nat → List Int → ByteArray → Int → Int → Int → Int → Int → Int → Int → Int → Int → List Int → List (S62) → Option (Int × Int × Int × Int × Int × Int × List Int × (List (S62)) × Int)
 | 0, _, _, _, _, _, _, _, _, _, _, _, _, _ => none
 | k + 1, x1, x7, x8, x9, x10, x283000, x283001, x283002, x283003, x283004, x283005, x283006, x283007 => if x10 < (x7.size : Int) then (temperaref21_Read.j1 k x1 x7 x8 x9 x10 (x9 == 0) x283000 x283001 x283002 x283003 x283004 x283005 x283006 x283007) else (temperaref21_Read.j1 k x1 x7 x8 x9 x10 false x283000 x283001 x283002 x283003 x283004 x283005 x283006 x283007)
def temperaref21_Read.j1 : Nat → List Int → ByteArray → Int → Int → Int → Bool → Int → Int → Int → Int → Int → Int → List Int → List (S62) → Option (Int × Int × Int × Int × Int × Int × List Int × (List (S62)) × Int)
 | 0, _, _, _, _, _, _, _, _, _, _, _, _, _, _ => none
 | k + 1, x1, x7, x8, x9, x10, x25, x283000, x283001, x283002, x283003, x283004, x283005, x283006, x283007 => if x25 = true then (if 0 ≤ x10 then (if x10 < (x7.size : Int) then (if (bt x7 x10) = 76 then ((temperaref21_list.f k x1 x8 4096 1).bind fun bt284 => (temperaref21_Read.l0 k x1 x7 bt284.2.1 bt284.2.2 (wrap64 (x10 + 1)) x283000 x283001 x283002 x283003 x283004 x283005 bt284.1 x283007)) else (if (bt x7 x10) = 86 then ((temperaref21_list.f k x1 x8 1024 9).bind fun bt289 => (temperaref21_Read.l1 k x1 x7 bt289.2.1 bt289.2.2 x10 bt289.1 0 x283000 x283001 x283002 x283003 x283004 x283005 x283006 x283007)) else ((temperaref21_ReadNumber.f k x1 x8).bind fun bt306 => ((temperaref21_put.f x283000 x283001 x283002 x283003 x283004 x283005 x283006 x283007 (bt x7 x10) bt306.1).bind fun bt309 => (temperaref21_Read.l0 k x1 x7 bt306.2.1 bt306.2.2 (wrap64 (x10 + 1)) bt309.1 bt309.2.1 bt309.2.2.1 bt309.2.2.2.1 bt309.2.2.2.2.1 bt309.2.2.2.2.2.1 bt309.2.2.2.2.2.2.1 bt309.2.2.2.2.2.2.2))))) else (none)) else (none)) else (if x9 = 4 then (some (0, 0, 0, 0, 0, 0, ([] : List Int), ([] : List (S62)), 4)) else (if x9 = 0 then (if x8 = (x1.length : Int) then (some (x283000, x283001, x283002, x283003, x283004, x283005, x283006, x283007, 0)) else (some (0, 0, 0, 0, 0, 0, ([] : List Int), ([] : List (S62)), 6))) else (some (0, 0, 0, 0, 0, 0, ([] : List Int), ([] : List (S62)), 6))))
def temperaref21_Read.l1 : Nat → List Int → ByteArray → Int → Int → Int → List Int → Int → Int → Int → Int → Int → Int → Int → List Int → List (S62) → Option (Int × Int × Int × Int × Int × Int × List Int × (List (S62)) × Int)
 | 0, _, _, _, _, _, _, _, _, _, _, _, _, _, _, _ => none
 | k + 1, x1, x7, x8, x9, x10, x12, x13, x283000, x283001, x283002, x283003, x283004, x283005, x283006, x283007 => if (wrap64 (x13 + 8)) < (x12.length : Int) then (if 0 ≤ x13 then (if x13 < (x12.length : Int) then (if 0 ≤ (wrap64 (x13 + 1)) then (if (wrap64 (x13 + 1)) < (x12.length : Int) then (if 0 ≤ (wrap64 (x13 + 2)) then (if (wrap64 (x13 + 2)) < (x12.length : Int) then (if 0 ≤ (wrap64 (x13 + 3)) then (if (wrap64 (x13 + 3)) < (x12.length : Int) then (if 0 ≤ (wrap64 (x13 + 4)) then (if (wrap64 (x13 + 4)) < (x12.length : Int) then (if 0 ≤ (wrap64 (x13 + 5)) then (if (wrap64 (x13 + 5)) < (x12.length : Int) then (if 0 ≤ (wrap64 (x13 + 6)) then (if (wrap64 (x13 + 6)) < (x12.length : Int) then (if 0 ≤ (wrap64 (x13 + 7)) then (if (wrap64 (x13 + 7)) < (x12.length : Int) then (if 0 ≤ (wrap64 (x13 + 8)) then (if x283007.length < 1954687338268 then (temperaref21_Read.l1 k x1 x7 x8 x9 x10 x12 (wrap64 (x13 + 9)) x283000 x283001 x283002 x283003 x283004 x283005 x283006 (x283007 ++ [(⟨rd x12 x13, rd x12 (wrap64 (x13 + 1)), rd x12 (wrap64 (x13 + 2)), (⟨rd x12 (wrap64 (x13 + 3)), rd x12 (wrap64 (x13 + 4)), rd x12 (wrap64 (x13 + 5)), rd x12 (wrap64 (x13 + 6))⟩ : S60), rd x12 (wrap64 (x13 + 7)), rd x12 (wrap64 (x13 + 8))⟩ : S62)])) else (none)) else (none)) else (none)) else (none)) else (none)) else (none)) else (none)) else (none)) else (none)) else (none)) else (none)) else (none)) else (none)) else (none)) else (none)) else (none)) else (none)) else (none)) else (temperaref21_Read.l0 k x1 x7 x8 x9 (wrap64 (x10 + 1)) x283000 x283001 x283002 x283003 x283004 x283005 x283006 x283007)
end
def temperaref21_Read.f (k : Nat) (a0 : Int) (l1 : List Int) : Option (Int × Int × Int × Int × Int × Int × List Int × (List (S62)) × Int) := (temperaref20_Fields.f a0).bind fun t283 => (temperaref21_Read.l0 k l1 t283 0 0 0 a0 0 0 0 0 0 ([] : List Int) ([] : List (S62)))
def temperaref21_Read.T20 : Bool × List (List Nat × List Nat) := (true, [([], []), ([0], [0]), ([], []), ([], []), ([2, 3], [2, 3]), ([4], [4]), ([], []), ([], []), ([7], [7]), ([6, 8], [6, 8]), ([9], [9]), ([], []), ([], []), ([12], [12]), ([11, 13], [11, 13]), ([14], [14]), ([], []), ([], []), ([17], [17]), ([16, 18], [16, 18]), ([19], [19]), ([], []), ([], []), ([22], [22]), ([21, 23], [21, 23]), ([24], [24]), ([], []), ([], []), ([27], [27]), ([26, 28], [26, 28]), ([29], [29]), ([], []), ([], []), ([32], [32]), ([31, 33], [31, 33]), ([34], [34]), ([20, 25, 30, 35], [20, 25, 30, 35]), ([], []), ([], []), ([38], [38]), ([37, 39], [37, 39]), ([40], [40]), ([], []), ([], []), ([43], [43]), ([42, 44], [42, 44]), ([45], [45]), ([5, 10, 15, 36, 41, 46], [5, 10, 15, 36, 41, 46]), ([47], [47]), ([1, 48], [1, 48]), ([0, 1, 2, 3, 4, 5, 6, 7, 8, 9, 10, 11, 12, 13, 14, 15, 16, 17, 18, 19, 20, 21, 22, 23, 24, 25, 26, 27, 28, 29, 30, 31, 32, 33, 34, 35, 36, 37, 38, 39, 40, 41, 42, 43, 44, 45, 46, 47, 48, 49], []), ([50, 49, 49, 0, 1, 2, 3, 4, 5, 6, 7, 8, 9, 10, 11, 12, 13, 14, 15, 16, 17, 18, 19, 20, 21, 22, 23, 24, 25, 26, 27, 28, 29, 30, 31, 32, 33, 34, 35, 36, 37, 38, 39, 40, 41, 42, 43, 44, 45, 46, 47, 48, 49], [49, 50])])
def temperaref21_Read.B20 : List Nat := [0, 1, 0, 0, 12, 28, 0, 0, 128, 448, 960, 0, 0, 4096, 14336, 30720, 0, 0, 131072, 458752, 983040, 0, 0, 4194304, 14680064, 31457280, 0, 0, 134217728, 469762048, 1006632960, 0, 0, 4294967296, 15032385536, 32212254720, 68719411200, 0, 0, 274877906944, 962072674304, 2061584302080, 0, 0, 8796093022208, 30786325577728, 65970697666560, 140737488355324, 281474976710652, 562949953421311, 1125899906842623, 2251799813685247]
theorem temperaref21_Read.tab20 : rtab .any (opsOf Try.f29 20) = temperaref21_Read.T20 := by kernel_rfl
theorem temperaref21_Read.bits20 : waitsOk temperaref21_Read.T20.2 temperaref21_Read.B20 = true := by kernel_rfl
set_option maxHeartbeats 8000000 in
set_option maxRecDepth 100000 in
theorem temperaref21_Read.calls (k : Nat) (a0 : Int) (A1 : Option Addr) (c1 : Nat) (l1 : List Int) (r1 : Int) (r2 : Int) (r3 : Int) (r4 : Int) (r5 : Int) (r6 : Int) (r7 : List Int) (r8 : List (S62)) (r9 : Int) (w : World) (hr1 : Kd.C (Kd.int .u8) w A1 l1.length l1) (hc1 : l1.length ≤ c1) (h : temperaref21_Read.f k a0 l1 = some (r1, r2, r3, r4, r5, r6, r7, r8, r9)) :
  Calls Try.prog 29 #[.int .i64 a0, .slice A1 l1.length c1] w fun e w' => ∃ v6_ v7_ : Value, e = .returned (.tuple #[.agg #[.int .i64 r1, .int .i64 r2, .int .i64 r3, .int .i64 r4, .int .i64 r5, .int .i64 r6, v6_, v7_], .int .i64 r9]) ∧ Kd.R (Kd.int .i64) 3 w' w.heap.size (fun _ => True) v6_ r7 ∧ Kd.R k62 62 w' w.heap.size (fun _ => True) v7_ r8 ∧ Below w.heap.size w w' := by
 have hu37 := Try.underlying37
 have hu60 := Try.underlying60
 have hu62 := Try.underlying62
 have HR1 := Aside0.mk hr1
 have HC1 := Aside0.mk hc1
 clear hr1 hc1
 have HB := Aside0.mk (Below.refl w.heap.size w)
 have H : ((temperaref20_Fields.f a0).bind fun t283 => (temperaref21_Read.l0 k l1 t283 0 0 0 a0 0 0 0 0 0 ([] : List Int) ([] : List (S62)))) = some (r1, r2, r3, r4, r5, r6, r7, r8, r9) := h
 clear h
 replace H := Option.bind_eq_some_iff.mp H
 obtain ⟨t283, A30, H⟩ := H
 replace H : (temperaref21_Read.l0 k l1 t283 0 0 0 a0 0 0 0 0 0 ([] : List Int) ([] : List (S62))) = some (r1, r2, r3, r4, r5, r6, r7, r8, r9) := H
 have A3 := Aside0.mk A30
 clear A30
 have H' := Aside0.mk H
 clear H
 go_enter Try.func29, Try.ntmps29
 go_wp2_with (first | ((with_reducible refine gate_dst (N := 4) rfl ?_); (try (refine gate_guard (by rfl) ?_; dsimp only)); refine box_event ?hg (N := 4) ?hd (cs := #[.int .i64 0, .int .i64 0, .int .i64 0, .int .i64 0, .int .i64 0, .int .i64 0, .slice none 0 0, .slice none 0 0]) (t := 37) ?hr ?_; (case hd => rfl); (case hg => rfl); (case hr => first | (go_simp; done) | (go_simp; rfl)); intro gb281 hg w4 hbox hb; have n0_ := Aside0.mk (below_step (by repeat (first | (with_reducible first | exact HB.out | apply below_alloc | apply pw_below_drewN | apply below_drew1) | exact HB.out)) hb); have n1_ := Aside0.mk (hbox); have n2_ := Aside0.mk ((by rw [hg]; exact (below_size (by repeat (first | (with_reducible first | exact HB.out | apply below_alloc | apply pw_below_drewN | apply below_drew1) | exact HB.out))) : w.heap.size ≤ gb281)); have n3_ := Aside0.mk ((by rw [hg]; exact (below_size (by repeat (first | (with_reducible first | exact HB.out | apply below_alloc | apply pw_below_drewN | apply below_drew1) | exact HB.out))) : w.heap.size ≤ gb281)); clear HB; have HB := n0_; have BK281 := n1_; have GW281 := n2_; have GE281 := n3_; clear n0_ n1_ n2_ n3_; clear hb hbox hg) | ((with_reducible refine gate_dst (N := 6) rfl ?_); (try (refine gate_guard (by rfl) ?_; dsimp only)); refine box_event ?hg (N := 6) ?hd (cs := #[.int .i64 0, .int .i64 0, .int .i64 0, .int .i64 0, .int .i64 0, .int .i64 0, .slice none 0 0, .slice none 0 0]) (t := 37) ?hr ?_; (case hd => rfl); (case hg => rfl); (case hr => first | (go_simp; done) | (go_simp; rfl)); intro gb282 hg w5 hbox hb; have n0_ := Aside0.mk (blk_below (g := gb281) (o := .cells #[.int .i64 0, .int .i64 0, .int .i64 0, .int .i64 0, .int .i64 0, .int .i64 0, .slice none 0 0, .slice none 0 0] 37 (0, 0)) (by (with_reducible repeat (first | refine blk_drewN ?_ _ | refine blk_drew ?_ | refine blk_alloc ?_ _)); exact BK281.out) hb); have n1_ := Aside0.mk (below_step (by repeat (first | (with_reducible first | exact HB.out | apply below_alloc | apply pw_below_drewN | apply below_drew1 | refine below_set ?_ GE281.out) | exact HB.out)) hb); have n2_ := Aside0.mk (hbox); have n3_ := Aside0.mk ((by rw [hg]; exact (below_size (by repeat (first | (with_reducible first | exact HB.out | apply below_alloc | apply pw_below_drewN | apply below_drew1 | refine below_set ?_ GE281.out) | exact HB.out))) : w.heap.size ≤ gb282)); have n4_ := Aside0.mk ((by rw [hg]; exact (below_size (by repeat (first | (with_reducible first | exact HB.out | apply below_alloc | apply pw_below_drewN | apply below_drew1 | refine below_set ?_ GE281.out) | exact HB.out))) : w.heap.size ≤ gb282)); have n5_ := Aside0.mk ((by rw [hg]; exact Nat.ne_of_lt (blk_lt (g := gb281) (o := .cells #[.int .i64 0, .int .i64 0, .int .i64 0, .int .i64 0, .int .i64 0, .int .i64 0, .slice none 0 0, .slice none 0 0] 37 (0, 0)) (by (with_reducible repeat (first | refine blk_drewN ?_ _ | refine blk_drew ?_ | refine blk_alloc ?_ _)); exact BK281.out)) : gb281 ≠ gb282)); have n6_ := Aside0.mk ((by rw [hg]; exact Nat.ne_of_gt (blk_lt (g := gb281) (o := .cells #[.int .i64 0, .int .i64 0, .int .i64 0, .int .i64 0, .int .i64 0, .int .i64 0, .slice none 0 0, .slice none 0 0] 37 (0, 0)) (by (with_reducible repeat (first | refine blk_drewN ?_ _ | refine blk_drew ?_ | refine blk_alloc ?_ _)); exact BK281.out)) : gb282 ≠ gb281)); clear BK281; clear HB; have BK281 := n0_; have HB := n1_; have BK282 := n2_; have GW282 := n3_; have GE282 := n4_; have NB281_282 := n5_; have NB282_281 := n6_; clear n0_ n1_ n2_ n3_ n4_ n5_ n6_; clear hb hbox hg; have hnb6 := NB282_281.out; have hnc6 := NB281_282.out; have hcz7_0 : w5.cell? ⟨gb282, 0, none⟩ = some (.int .i64 0) := (blk_cell BK282.out 0).trans rfl; have hcz7_1 : w5.cell? ⟨gb282, 1, none⟩ = some (.int .i64 0) := (blk_cell BK282.out 1).trans rfl; have hcz7_2 : w5.cell? ⟨gb282, 2, none⟩ = some (.int .i64 0) := (blk_cell BK282.out 2).trans rfl; have hcz7_3 : w5.cell? ⟨gb282, 3, none⟩ = some (.int .i64 0) := (blk_cell BK282.out 3).trans rfl; have hcz7_4 : w5.cell? ⟨gb282, 4, none⟩ = some (.int .i64 0) := (blk_cell BK282.out 4).trans rfl; have hcz7_5 : w5.cell? ⟨gb282, 5, none⟩ = some (.int .i64 0) := (blk_cell BK282.out 5).trans rfl; have hcz7_6 : w5.cell? ⟨gb282, 6, none⟩ = some (.slice none 0 0) := (blk_cell BK282.out 6).trans rfl; have hcz7_7 : w5.cell? ⟨gb282, 7, none⟩ = some (.slice none 0 0) := (blk_cell BK282.out 7).trans rfl; have hfz7_0 := blk_frozen BK282.out 0; have hfz7_1 := blk_frozen BK282.out 1; have hfz7_2 := blk_frozen BK282.out 2; have hfz7_3 := blk_frozen BK282.out 3; have hfz7_4 := blk_frozen BK282.out 4; have hfz7_5 := blk_frozen BK282.out 5; have hfz7_6 := blk_frozen BK282.out 6; have hfz7_7 := blk_frozen BK282.out 7) | ((with_reducible refine gate_callee (f := 25) rfl ?_); refine goesL_ (some 17) rfl rfl Try.func25 (by kernel_rfl) rfl #[.int .i64 a0] rfl (by (try simp only [List.map_toArray, List.map_cons, List.map_nil]); first | done | rfl | (simp only [List.length_drop, List.length_take]; rfl)) ?_; (with_reducible refine (temperaref20_Fields.calls a0 t283 _ A3.out).mono ?_); rintro e w8 ⟨rfl, hb⟩; refine ⟨_, rfl, ?_⟩; have n0_ := Aside0.mk (blk_below (g := gb281) (o := .cells #[.int .i64 0, .int .i64 0, .int .i64 0, .int .i64 0, .int .i64 0, .int .i64 0, .slice none 0 0, .slice none 0 0] 37 (0, 0)) (by (with_reducible repeat (first | refine blk_drewN ?_ _ | refine blk_drew ?_ | refine blk_alloc ?_ _)); refine blk_far ?_ NB281_282.out _; (with_reducible repeat (first | refine blk_drewN ?_ _ | refine blk_drew ?_ | refine blk_alloc ?_ _)); refine blk_far ?_ NB281_282.out _; (with_reducible repeat (first | refine blk_drewN ?_ _ | refine blk_drew ?_ | refine blk_alloc ?_ _)); refine blk_far ?_ NB281_282.out _; (with_reducible repeat (first | refine blk_drewN ?_ _ | refine blk_drew ?_ | refine blk_alloc ?_ _)); refine blk_far ?_ NB281_282.out _; (with_reducible repeat (first | refine blk_drewN ?_ _ | refine blk_drew ?_ | refine blk_alloc ?_ _)); refine blk_far ?_ NB281_282.out _; (with_reducible repeat (first | refine blk_drewN ?_ _ | refine blk_drew ?_ | refine blk_alloc ?_ _)); refine blk_far ?_ NB281_282.out _; (with_reducible repeat (first | refine blk_drewN ?_ _ | refine blk_drew ?_ | refine blk_alloc ?_ _)); refine blk_far ?_ NB281_282.out _; (with_reducible repeat (first | refine blk_drewN ?_ _ | refine blk_drew ?_ | refine blk_alloc ?_ _)); refine blk_far ?_ NB281_282.out _; (with_reducible repeat (first | refine blk_drewN ?_ _ | refine blk_drew ?_ | refine blk_alloc ?_ _)); exact BK281.out) hb); have n1_ := Aside0.mk (blk_below (g := gb282) (o := .cells #[.int .i64 a0, .int .i64 0, .int .i64 0, .int .i64 0, .int .i64 0, .int .i64 0, .slice none 0 0, .slice none 0 0] 37 (0, 0)) (by (with_reducible repeat (first | refine blk_drewN ?_ _ | refine blk_drew ?_ | refine blk_alloc ?_ _)); refine blk_put (cs := #[.int .i64 a0, .int .i64 0, .int .i64 0, .int .i64 0, .int .i64 0, .int .i64 0, .slice none 0 0, .slice none 0 0]) ?_ 7 _ rfl; (with_reducible repeat (first | refine blk_drewN ?_ _ | refine blk_drew ?_ | refine blk_alloc ?_ _)); refine blk_put (cs := #[.int .i64 a0, .int .i64 0, .int .i64 0, .int .i64 0, .int .i64 0, .int .i64 0, .slice none 0 0, .slice none 0 0]) ?_ 6 _ rfl; (with_reducible repeat (first | refine blk_drewN ?_ _ | refine blk_drew ?_ | refine blk_alloc ?_ _)); refine blk_put (cs := #[.int .i64 a0, .int .i64 0, .int .i64 0, .int .i64 0, .int .i64 0, .int .i64 0, .slice none 0 0, .slice none 0 0]) ?_ 5 _ rfl; (with_reducible repeat (first | refine blk_drewN ?_ _ | refine blk_drew ?_ | refine blk_alloc ?_ _)); refine blk_put (cs := #[.int .i64 a0, .int .i64 0, .int .i64 0, .int .i64 0, .int .i64 0, .int .i64 0, .slice none 0 0, .slice none 0 0]) ?_ 4 _ rfl; (with_reducible repeat (first | refine blk_drewN ?_ _ | refine blk_drew ?_ | refine blk_alloc ?_ _)); refine blk_put (cs := #[.int .i64 a0, .int .i64 0, .int .i64 0, .int .i64 0, .int .i64 0, .int .i64 0, .slice none 0 0, .slice none 0 0]) ?_ 3 _ rfl; (with_reducible repeat (first | refine blk_drewN ?_ _ | refine blk_drew ?_ | refine blk_alloc ?_ _)); refine blk_put (cs := #[.int .i64 a0, .int .i64 0, .int .i64 0, .int .i64 0, .int .i64 0, .int .i64 0, .slice none 0 0, .slice none 0 0]) ?_ 2 _ rfl; (with_reducible repeat (first | refine blk_drewN ?_ _ | refine blk_drew ?_ | refine blk_alloc ?_ _)); refine blk_put (cs := #[.int .i64 a0, .int .i64 0, .int .i64 0, .int .i64 0, .int .i64 0, .int .i64 0, .slice none 0 0, .slice none 0 0]) ?_ 1 _ rfl; (with_reducible repeat (first | refine blk_drewN ?_ _ | refine blk_drew ?_ | refine blk_alloc ?_ _)); refine blk_put (cs := #[.int .i64 0, .int .i64 0, .int .i64 0, .int .i64 0, .int .i64 0, .int .i64 0, .slice none 0 0, .slice none 0 0]) ?_ 0 _ rfl; (with_reducible repeat (first | refine blk_drewN ?_ _ | refine blk_drew ?_ | refine blk_alloc ?_ _)); exact BK282.out) hb); have n2_ := Aside0.mk (below_step (by repeat (first | (with_reducible first | exact HB.out | apply below_alloc | apply pw_below_drewN | apply below_drew1 | refine below_set ?_ GE281.out | refine below_set ?_ GE282.out) | exact HB.out)) hb); clear BK281; clear BK282; clear HB; have BK281 := n0_; have BK282 := n1_; have HB := n2_; clear n0_ n1_ n2_; (try clear hb); (try clear hb2); (try clear hk); (try clear hi)))
 go_loopg [8, 9, 10] k (fun kq v8 v9 v10 w' => ∃ (x8_1 : Int) (x9_1 : Int) (x10_1 : Int) (x283000_1 : Int) (x283001_1 : Int) (x283002_1 : Int) (x283003_1 : Int) (x283004_1 : Int) (x283005_1 : Int) (x283006_1 : List Int) (x283007_1 : List (S62)) (u283006 : Value) (u283007 : Value), v8 = .int .i64 x8_1 ∧ v9 = .int .i64 x9_1 ∧ v10 = .int .i64 x10_1 ∧ Aside0 (temperaref21_Read.l0 kq l1 t283 x8_1 x9_1 x10_1 x283000_1 x283001_1 x283002_1 x283003_1 x283004_1 x283005_1 x283006_1 x283007_1 = some (r1, r2, r3, r4, r5, r6, r7, r8, r9)) ∧ Aside0 (kq ≤ k) ∧ Aside0 (Kd.R (Kd.int .i64) 3 w' w.heap.size (fun _ => True) u283006 x283006_1) ∧ Aside0 (Kd.R k62 62 w' w.heap.size (fun _ => True) u283007 x283007_1) ∧ Aside0 (w'.heap[gb281]? = some (.cells #[.int .i64 0, .int .i64 0, .int .i64 0, .int .i64 0, .int .i64 0, .int .i64 0, (.slice none 0 0), (.slice none 0 0)] 37 (0, 0))) ∧ Aside0 (w'.heap[gb282]? = some (.cells #[.int .i64 x283000_1, .int .i64 x283001_1, .int .i64 x283002_1, .int .i64 x283003_1, .int .i64 x283004_1, .int .i64 x283005_1, u283006, u283007] 37 (0, 0))) ∧ Aside0 (Below w.heap.size w w'))
 case atStart => exact ⟨(0), (0), (0), (a0), (0), (0), (0), (0), (0), (([] : List Int)), (([] : List (S62))), (.slice none 0 0), (.slice none 0 0), (by first | rfl | (simp; done) | (simp [*]; done)), (by first | rfl | (simp; done) | (simp [*]; done)), (by first | rfl | (simp; done) | (simp [*]; done)), H', ⟨Nat.le_refl _⟩, ⟨by first | exact Kd.R_nil _ _ _ _ _ | exact Kd.N_nil _ _ _ _ _ | exact Kd.V_nil _ _ _ _ _ | exact Kd.Q_nil _ _ _ _ _ | exact Kd.S_nil _ _ _ _ _⟩, ⟨by first | exact Kd.R_nil _ _ _ _ _ | exact Kd.N_nil _ _ _ _ _ | exact Kd.V_nil _ _ _ _ _ | exact Kd.Q_nil _ _ _ _ _ | exact Kd.S_nil _ _ _ _ _⟩, ⟨by (with_reducible repeat (first | refine blk_drewN ?_ _ | refine blk_drew ?_ | refine blk_alloc ?_ _)); exact BK281.out⟩, ⟨by (with_reducible repeat (first | refine blk_drewN ?_ _ | refine blk_drew ?_ | refine blk_alloc ?_ _)); exact BK282.out⟩, ⟨by repeat (first | (with_reducible first | exact HB.out | apply below_alloc | apply pw_below_drewN | apply below_drew1 | refine below_set ?_ GE281.out | refine below_set ?_ GE282.out) | exact HB.out)⟩⟩
 case round =>
  clear H'
  try clear c1
  try clear c2
  try clear p2
  try clear c6
  try clear hcz7_0
  try clear hcz7_1
  try clear hcz7_2
  try clear hcz7_3
  try clear hcz7_4
  try clear hcz7_5
  try clear hcz7_6
  try clear hcz7_7
  try clear hfz7_0
  try clear hfz7_1
  try clear hfz7_2
  try clear hfz7_3
  try clear hfz7_4
  try clear hfz7_5
  try clear hfz7_6
  try clear hfz7_7
  obtain ⟨x8_1, x9_1, x10_1, x283000_1, x283001_1, x283002_1, x283003_1, x283004_1, x283005_1, x283006_1, x283007_1, u283006, u283007, rfl, rfl, rfl, HA, HK1, HO_283006, HO_283007, BK281, BK282, HB⟩ := hrel
  cases gk with
  | zero => exact absurd HA.out (by simp [temperaref21_Read.l0])
  | succ k1 =>
   have H := HA.out
   clear HA
   simp only [temperaref21_Read.l0] at H
   have HC9 := Aside0.mk H
   clear H
   go_upto_region 6 with (fail)
   go_cut [25] (fun v25 wc => ∃ (kq : Nat) (x25_8 : Bool), v25 = .bool x25_8 ∧ Aside0 (temperaref21_Read.j1 kq l1 t283 x8_1 x9_1 x10_1 x25_8 x283000_1 x283001_1 x283002_1 x283003_1 x283004_1 x283005_1 x283006_1 x283007_1 = some (r1, r2, r3, r4, r5, r6, r7, r8, r9)) ∧ Aside0 (kq ≤ k1) ∧ Aside0 (Kd.R (Kd.int .i64) 3 wc w.heap.size (fun _ => True) u283006 x283006_1) ∧ Aside0 (Kd.R k62 62 wc w.heap.size (fun _ => True) u283007 x283007_1) ∧ Aside0 (wc.heap[gb281]? = some (.cells #[.int .i64 0, .int .i64 0, .int .i64 0, .int .i64 0, .int .i64 0, .int .i64 0, (.slice none 0 0), (.slice none 0 0)] 37 (0, 0))) ∧ Aside0 (wc.heap[gb282]? = some (.cells #[.int .i64 x283000_1, .int .i64 x283001_1, .int .i64 x283002_1, .int .i64 x283003_1, .int .i64 x283004_1, .int .i64 x283005_1, u283006, u283007] 37 (0, 0))) ∧ Aside0 (Below w.heap.size w wc))
   case first =>
    have H := HC9.out
    clear HC9
    by_cases c10 : x10_1 < (t283.size : Int)
    ·rw [if_pos c10] at H
     have c10b0 : decide (x10_1 < (t283.size : Int)) = true := decide_eq_true c10
     clear c10
     (first | rw [c10b0] | (simp only [i64_w, i32_w]; rw [c10b0]) | skip)
     have H' := Aside0.mk H
     clear H
     go_wp2
     go_meet
     case rel => exact ⟨_, ((x9_1 == 0)), (by first | rfl | (simp; done) | (simp [*]; done)), H', ⟨by have := HK1.out; first | omega | exact Nat.le_refl _⟩, ⟨by (with_reducible repeat (first | apply Kd.R_alloc | apply Kd.R_drewN | apply Kd.R_drew)); exact HO_283006.out⟩, ⟨by (with_reducible repeat (first | apply Kd.R_alloc | apply Kd.R_drewN | apply Kd.R_drew)); exact HO_283007.out⟩, ⟨by (with_reducible repeat (first | refine blk_drewN ?_ _ | refine blk_drew ?_ | refine blk_alloc ?_ _)); exact BK281.out⟩, ⟨by (with_reducible repeat (first | refine blk_drewN ?_ _ | refine blk_drew ?_ | refine blk_alloc ?_ _)); exact BK282.out⟩, ⟨by repeat (first | (with_reducible first | exact HB.out | apply below_alloc | apply pw_below_drewN | apply below_drew1 | refine below_set ?_ GE281.out | refine below_set ?_ GE282.out) | exact HB.out)⟩⟩
    ·rw [if_neg c10] at H
     have c10b0 : decide (x10_1 < (t283.size : Int)) = false := decide_eq_false c10
     clear c10
     (first | rw [c10b0] | (simp only [i64_w, i32_w]; rw [c10b0]) | skip)
     have H' := Aside0.mk H
     clear H
     go_wp2
     go_meet
     case rel => exact ⟨_, (false), (by first | rfl | (simp; done) | (simp [*]; done)), H', ⟨by have := HK1.out; first | omega | exact Nat.le_refl _⟩, ⟨by (with_reducible repeat (first | apply Kd.R_alloc | apply Kd.R_drewN | apply Kd.R_drew)); exact HO_283006.out⟩, ⟨by (with_reducible repeat (first | apply Kd.R_alloc | apply Kd.R_drewN | apply Kd.R_drew)); exact HO_283007.out⟩, ⟨by (with_reducible repeat (first | refine blk_drewN ?_ _ | refine blk_drew ?_ | refine blk_alloc ?_ _)); exact BK281.out⟩, ⟨by (with_reducible repeat (first | refine blk_drewN ?_ _ | refine blk_drew ?_ | refine blk_alloc ?_ _)); exact BK282.out⟩, ⟨by repeat (first | (with_reducible first | exact HB.out | apply below_alloc | apply pw_below_drewN | apply below_drew1 | refine below_set ?_ GE281.out | refine below_set ?_ GE282.out) | exact HB.out)⟩⟩
   case rest =>
    clear HC9
    try clear c1
    try clear c2
    try clear p2
    try clear c6
    try clear c10
    try clear c10b0
    try clear hcz7_0
    try clear hcz7_1
    try clear hcz7_2
    try clear hcz7_3
    try clear hcz7_4
    try clear hcz7_5
    try clear hcz7_6
    try clear hcz7_7
    try clear hfz7_0
    try clear hfz7_1
    try clear hfz7_2
    try clear hfz7_3
    try clear hfz7_4
    try clear hfz7_5
    try clear hfz7_6
    try clear hfz7_7
    try clear p2
    obtain ⟨kq, x25_8, rfl, HA, HJ8, HO_283006, HO_283007, BK281, BK282, HB⟩ := hcut
    cases kq with
    | zero => exact absurd HA.out (by simp [temperaref21_Read.j1])
    | succ kj8 =>
     have H := HA.out
     clear HA
     simp only [temperaref21_Read.j1] at H
     by_cases c11 : x25_8 = true
     ·subst c11
      have H1 : (if 0 ≤ x10_1 then (if x10_1 < (t283.size : Int) then (if (bt t283 x10_1) = 76 then ((temperaref21_list.f kj8 l1 x8_1 4096 1).bind fun bt284 => (temperaref21_Read.l0 kj8 l1 t283 bt284.2.1 bt284.2.2 (wrap64 (x10_1 + 1)) x283000_1 x283001_1 x283002_1 x283003_1 x283004_1 x283005_1 bt284.1 x283007_1)) else (if (bt t283 x10_1) = 86 then ((temperaref21_list.f kj8 l1 x8_1 1024 9).bind fun bt289 => (temperaref21_Read.l1 kj8 l1 t283 bt289.2.1 bt289.2.2 x10_1 bt289.1 0 x283000_1 x283001_1 x283002_1 x283003_1 x283004_1 x283005_1 x283006_1 x283007_1)) else ((temperaref21_ReadNumber.f kj8 l1 x8_1).bind fun bt306 => ((temperaref21_put.f x283000_1 x283001_1 x283002_1 x283003_1 x283004_1 x283005_1 x283006_1 x283007_1 (bt t283 x10_1) bt306.1).bind fun bt309 => (temperaref21_Read.l0 kj8 l1 t283 bt306.2.1 bt306.2.2 (wrap64 (x10_1 + 1)) bt309.1 bt309.2.1 bt309.2.2.1 bt309.2.2.2.1 bt309.2.2.2.2.1 bt309.2.2.2.2.2.1 bt309.2.2.2.2.2.2.1 bt309.2.2.2.2.2.2.2))))) else (none)) else (none)) = some (r1, r2, r3, r4, r5, r6, r7, r8, r9) := by rw [if_pos rfl] at H; exact H
      clear H
      have H := H1
      clear H1
      by_cases c12 : 0 ≤ x10_1
      ·rw [if_pos c12] at H
       have c12b0 : decide (0 ≤ x10_1) = true := decide_eq_true c12
       clear c12
       by_cases c13 : x10_1 < (t283.size : Int)
       ·rw [if_pos c13] at H
        have c13b0 : decide (x10_1 < (t283.size : Int)) = true := decide_eq_true c13
        clear c13
        by_cases c15 : (bt t283 x10_1) = 76
        ·rw [if_pos c15] at H
         have c15b0 : ((bt t283 x10_1) == 76) = true := beq_iff_eq.mpr c15
         have c15b1 : ((bt t283 x10_1) != 76) = false := bne_eq_false_iff_eq.mpr c15
         clear c15
         replace H := Option.bind_eq_some_iff.mp H
         obtain ⟨⟨t284, t285, t286⟩, A160, H⟩ := H
         replace H : (temperaref21_Read.l0 kj8 l1 t283 t285 t286 (wrap64 (x10_1 + 1)) x283000_1 x283001_1 x283002_1 x283003_1 x283004_1 x283005_1 t284 x283007_1) = some (r1, r2, r3, r4, r5, r6, r7, r8, r9) := H
         have A16 := Aside0.mk A160
         clear A160
         have H' := Aside0.mk H
         clear H
         have p14 : 0 ≤ (x10_1 : Int) := of_decide_eq_true (by first | (with_reducible assumption) | assumption)
         have q14 : x10_1 < (t283.size : Int) := of_decide_eq_true (by first | (with_reducible assumption) | assumption)
         have hx14 := bt_at t283 x10_1
         replace p14 := eq_true p14
         replace q14 := eq_true q14
         go_wp2_with (first | ((with_reducible refine gate_callee (f := 38) rfl ?_); refine goesL_ (some 49) rfl rfl Try.func38 (by kernel_rfl) rfl #[.slice A1 l1.length c1, .int .i64 x8_1, .int .i64 4096, .int .i64 1] rfl (by (try simp only [List.map_toArray, List.map_cons, List.map_nil]); first | done | rfl | (simp only [List.length_drop, List.length_take]; rfl)) ?_; (with_reducible refine (temperaref21_list.calls kj8 _ _ l1 x8_1 4096 1 t284 t285 t286 _ ?side1 ?side2 A16.out).mono ?_); (case side1 => repeat (first | exact (Kd.C_below HR1.out HB.out) | (with_reducible refine Kd.C_alloc ?_ _) | (with_reducible refine Kd.C_drewN ?_ _) | (with_reducible refine Kd.C_drew ?_))); (case side2 => exact HC1.out); rintro e w17 ⟨v287, rfl, ho0, hb⟩; refine ⟨_, rfl, ?_⟩; have n0_ := Aside0.mk (Kd.R_elder' (by (with_reducible repeat (first | apply Kd.R_alloc | apply Kd.R_drewN | apply Kd.R_drew)); exact HO_283006.out) (Kd.R_base ho0) hb); have n1_ := Aside0.mk (Kd.R_below (by (with_reducible repeat (first | apply Kd.R_alloc | apply Kd.R_drewN | apply Kd.R_drew)); exact HO_283007.out) hb); have n2_ := Aside0.mk (Kd.R_lower (Kd.R_new' ho0 (Kd.R_lt (by (with_reducible repeat (first | apply Kd.R_alloc | apply Kd.R_drewN | apply Kd.R_drew)); exact HO_283006.out))) (below_size (by repeat (first | (with_reducible first | exact HB.out | apply below_alloc | apply pw_below_drewN | apply below_drew1 | refine below_set ?_ GE281.out | refine below_set ?_ GE282.out) | exact HB.out)))); have n3_ := Aside0.mk (blk_below (g := gb281) (o := .cells #[.int .i64 0, .int .i64 0, .int .i64 0, .int .i64 0, .int .i64 0, .int .i64 0, .slice none 0 0, .slice none 0 0] 37 (0, 0)) (by (with_reducible repeat (first | refine blk_drewN ?_ _ | refine blk_drew ?_ | refine blk_alloc ?_ _)); exact BK281.out) hb); have n4_ := Aside0.mk (blk_below (g := gb282) (o := .cells #[.int .i64 x283000_1, .int .i64 x283001_1, .int .i64 x283002_1, .int .i64 x283003_1, .int .i64 x283004_1, .int .i64 x283005_1, u283006, u283007] 37 (0, 0)) (by (with_reducible repeat (first | refine blk_drewN ?_ _ | refine blk_drew ?_ | refine blk_alloc ?_ _)); exact BK282.out) hb); have n5_ := Aside0.mk (below_step (by repeat (first | (with_reducible first | exact HB.out | apply below_alloc | apply pw_below_drewN | apply below_drew1 | refine below_set ?_ GE281.out | refine below_set ?_ GE282.out) | exact HB.out)) hb); clear HO_283006; clear HO_283007; clear BK281; clear BK282; clear HB; have HO_283006 := n0_; have HO_283007 := n1_; have HO288 := n2_; have BK281 := n3_; have BK282 := n4_; have HB := n5_; clear n0_ n1_ n2_ n3_ n4_ n5_; (try clear hb); (try clear hb2); (try clear hk); (try clear hi); (try clear ho0); obtain ⟨Ao18, co18, eo18⟩ := Kd.R_slice HO288.out; subst eo18; have hnb19 := NB282_281.out; have hnc19 := NB281_282.out; have hcz20_0 : w17.cell? ⟨gb282, 0, none⟩ = some (.int .i64 x283000_1) := (blk_cell BK282.out 0).trans rfl; have hcz20_1 : w17.cell? ⟨gb282, 1, none⟩ = some (.int .i64 x283001_1) := (blk_cell BK282.out 1).trans rfl; have hcz20_2 : w17.cell? ⟨gb282, 2, none⟩ = some (.int .i64 x283002_1) := (blk_cell BK282.out 2).trans rfl; have hcz20_3 : w17.cell? ⟨gb282, 3, none⟩ = some (.int .i64 x283003_1) := (blk_cell BK282.out 3).trans rfl; have hcz20_4 : w17.cell? ⟨gb282, 4, none⟩ = some (.int .i64 x283004_1) := (blk_cell BK282.out 4).trans rfl; have hcz20_5 : w17.cell? ⟨gb282, 5, none⟩ = some (.int .i64 x283005_1) := (blk_cell BK282.out 5).trans rfl; have hcz20_6 : w17.cell? ⟨gb282, 6, none⟩ = some (u283006) := (blk_cell BK282.out 6).trans rfl; have hcz20_7 : w17.cell? ⟨gb282, 7, none⟩ = some (u283007) := (blk_cell BK282.out 7).trans rfl; have hfz20_0 := blk_frozen BK282.out 0; have hfz20_1 := blk_frozen BK282.out 1; have hfz20_2 := blk_frozen BK282.out 2; have hfz20_3 := blk_frozen BK282.out 3; have hfz20_4 := blk_frozen BK282.out 4; have hfz20_5 := blk_frozen BK282.out 5; have hfz20_6 := blk_frozen BK282.out 6; have hfz20_7 := blk_frozen BK282.out 7))
         go_roundg kj8
         case measure => have := HK1.out; have := HJ8.out; omega
         case rel => exact ⟨(t285), (t286), (wrap64 (x10_1 + 1)), (x283000_1), (x283001_1), (x283002_1), (x283003_1), (x283004_1), (x283005_1), (t284), (x283007_1), (.slice Ao18 t284.length co18), (u283007), (by first | rfl | (simp; done) | (simp [*]; done)), (by first | rfl | (simp; done) | (simp [*]; done)), (by first | rfl | (simp; done) | (simp [*]; done)), H', ⟨by have := HK1.out; have := HJ8.out; omega⟩, ⟨by (with_reducible repeat (first | apply Kd.R_alloc | apply Kd.R_drewN | apply Kd.R_drew)); exact Kd.R_mono (Kd.R_far (p := ⟨gb282, 6, none⟩) (Kd.R_types HO288.out BK282.out (by decide)) (fun _ hk => hk.2) (.slice Ao18 t284.length co18)) (fun _ hk => trivial)⟩, ⟨by (with_reducible repeat (first | apply Kd.R_alloc | apply Kd.R_drewN | apply Kd.R_drew)); exact Kd.R_mono (Kd.R_far (p := ⟨gb282, 6, none⟩) (Kd.R_types HO_283007.out BK282.out (by decide)) (fun _ hk => hk.2) (.slice Ao18 t284.length co18)) (fun _ hk => trivial)⟩, ⟨by (with_reducible repeat (first | refine blk_drewN ?_ _ | refine blk_drew ?_ | refine blk_alloc ?_ _)); refine blk_far ?_ NB281_282.out _; (with_reducible repeat (first | refine blk_drewN ?_ _ | refine blk_drew ?_ | refine blk_alloc ?_ _)); exact BK281.out⟩, ⟨by (with_reducible repeat (first | refine blk_drewN ?_ _ | refine blk_drew ?_ | refine blk_alloc ?_ _)); refine blk_put (cs := #[.int .i64 x283000_1, .int .i64 x283001_1, .int .i64 x283002_1, .int .i64 x283003_1, .int .i64 x283004_1, .int .i64 x283005_1, u283006, u283007]) ?_ 6 _ rfl; (with_reducible repeat (first | refine blk_drewN ?_ _ | refine blk_drew ?_ | refine blk_alloc ?_ _)); exact BK282.out⟩, ⟨by repeat (first | (with_reducible first | exact HB.out | apply below_alloc | apply pw_below_drewN | apply below_drew1 | refine below_set ?_ GE281.out | refine below_set ?_ GE282.out) | exact HB.out)⟩⟩
        ·rw [if_neg c15] at H
         have c15b0 : ((bt t283 x10_1) == 76) = false := beq_eq_false_iff_ne.mpr c15
         have c15b1 : ((bt t283 x10_1) != 76) = true := bne_iff_ne.mpr c15
         by_cases c21 : (bt t283 x10_1) = 86
         ·rw [if_pos c21] at H
          have c21b0 : ((bt t283 x10_1) == 86) = true := beq_iff_eq.mpr c21
          have c21b1 : ((bt t283 x10_1) != 86) = false := bne_eq_false_iff_eq.mpr c21
          clear c21
          replace H := Option.bind_eq_some_iff.mp H
          obtain ⟨⟨t289, t290, t291⟩, A220, H⟩ := H
          replace H : (temperaref21_Read.l1 kj8 l1 t283 t290 t291 x10_1 t289 0 x283000_1 x283001_1 x283002_1 x283003_1 x283004_1 x283005_1 x283006_1 x283007_1) = some (r1, r2, r3, r4, r5, r6, r7, r8, r9) := H
          have A22 := Aside0.mk A220
          clear A220
          have H' := Aside0.mk H
          clear H
          have p14 : 0 ≤ (x10_1 : Int) := of_decide_eq_true (by first | (with_reducible assumption) | assumption)
          have q14 : x10_1 < (t283.size : Int) := of_decide_eq_true (by first | (with_reducible assumption) | assumption)
          have hx14 := bt_at t283 x10_1
          replace p14 := eq_true p14
          replace q14 := eq_true q14
          go_wp2_with (first | ((with_reducible refine gate_callee (f := 38) rfl ?_); refine goesL_ (some 59) rfl rfl Try.func38 (by kernel_rfl) rfl #[.slice A1 l1.length c1, .int .i64 x8_1, .int .i64 1024, .int .i64 9] rfl (by (try simp only [List.map_toArray, List.map_cons, List.map_nil]); first | done | rfl | (simp only [List.length_drop, List.length_take]; rfl)) ?_; (with_reducible refine (temperaref21_list.calls kj8 _ _ l1 x8_1 1024 9 t289 t290 t291 _ ?side1 ?side2 A22.out).mono ?_); (case side1 => repeat (first | exact (Kd.C_below HR1.out HB.out) | (with_reducible refine Kd.C_alloc ?_ _) | (with_reducible refine Kd.C_drewN ?_ _) | (with_reducible refine Kd.C_drew ?_))); (case side2 => exact HC1.out); rintro e w23 ⟨v292, rfl, ho0, hb⟩; refine ⟨_, rfl, ?_⟩; have n0_ := Aside0.mk (Kd.R_elder' (by (with_reducible repeat (first | apply Kd.R_alloc | apply Kd.R_drewN | apply Kd.R_drew)); exact HO_283006.out) (Kd.R_base ho0) hb); have n1_ := Aside0.mk (Kd.R_below (by (with_reducible repeat (first | apply Kd.R_alloc | apply Kd.R_drewN | apply Kd.R_drew)); exact HO_283007.out) hb); have n2_ := Aside0.mk (Kd.R_lower (Kd.R_new' ho0 (Kd.R_lt (by (with_reducible repeat (first | apply Kd.R_alloc | apply Kd.R_drewN | apply Kd.R_drew)); exact HO_283006.out))) (below_size (by repeat (first | (with_reducible first | exact HB.out | apply below_alloc | apply pw_below_drewN | apply below_drew1 | refine below_set ?_ GE281.out | refine below_set ?_ GE282.out) | exact HB.out)))); have n3_ := Aside0.mk (blk_below (g := gb281) (o := .cells #[.int .i64 0, .int .i64 0, .int .i64 0, .int .i64 0, .int .i64 0, .int .i64 0, .slice none 0 0, .slice none 0 0] 37 (0, 0)) (by (with_reducible repeat (first | refine blk_drewN ?_ _ | refine blk_drew ?_ | refine blk_alloc ?_ _)); exact BK281.out) hb); have n4_ := Aside0.mk (blk_below (g := gb282) (o := .cells #[.int .i64 x283000_1, .int .i64 x283001_1, .int .i64 x283002_1, .int .i64 x283003_1, .int .i64 x283004_1, .int .i64 x283005_1, u283006, u283007] 37 (0, 0)) (by (with_reducible repeat (first | refine blk_drewN ?_ _ | refine blk_drew ?_ | refine blk_alloc ?_ _)); exact BK282.out) hb); have n5_ := Aside0.mk (below_step (by repeat (first | (with_reducible first | exact HB.out | apply below_alloc | apply pw_below_drewN | apply below_drew1 | refine below_set ?_ GE281.out | refine below_set ?_ GE282.out) | exact HB.out)) hb); clear HO_283006; clear HO_283007; clear BK281; clear BK282; clear HB; have HO_283006 := n0_; have HO_283007 := n1_; have HO293 := n2_; have BK281 := n3_; have BK282 := n4_; have HB := n5_; clear n0_ n1_ n2_ n3_ n4_ n5_; (try clear hb); (try clear hb2); (try clear hk); (try clear hi); (try clear ho0)))
          go_loopg [13] kj8 (fun kq v13 w' => ∃ (x13_3 : Int) (x283007_3 : List (S62)) (u283007 : Value), v13 = .int .i64 x13_3 ∧ Aside0 (temperaref21_Read.l1 kq l1 t283 t290 t291 x10_1 t289 x13_3 x283000_1 x283001_1 x283002_1 x283003_1 x283004_1 x283005_1 x283006_1 x283007_3 = some (r1, r2, r3, r4, r5, r6, r7, r8, r9)) ∧ Aside0 (kq ≤ kj8) ∧ Aside0 (Kd.R (Kd.int .i64) 3 w' w.heap.size (fun k_ => some k_ ≠ (u283006 : Value).ownBlock) v292 t289) ∧ Aside0 (Kd.R (Kd.int .i64) 3 w' w.heap.size (fun k_ => some k_ ≠ (v292 : Value).ownBlock) u283006 x283006_1) ∧ Aside0 (Kd.R k62 62 w' w.heap.size (fun _ => True) u283007 x283007_3) ∧ Aside0 (w'.heap[gb281]? = some (.cells #[.int .i64 0, .int .i64 0, .int .i64 0, .int .i64 0, .int .i64 0, .int .i64 0, (.slice none 0 0), (.slice none 0 0)] 37 (0, 0))) ∧ Aside0 (w'.heap[gb282]? = some (.cells #[.int .i64 x283000_1, .int .i64 x283001_1, .int .i64 x283002_1, .int .i64 x283003_1, .int .i64 x283004_1, .int .i64 x283005_1, u283006, u283007] 37 (0, 0))) ∧ Aside0 (Below w.heap.size w w'))
          case atStart => exact ⟨(0), (x283007_1), (u283007), (by first | rfl | (simp; done) | (simp [*]; done)), H', ⟨Nat.le_refl _⟩, ⟨by (with_reducible repeat (first | apply Kd.R_alloc | apply Kd.R_drewN | apply Kd.R_drew)); exact Kd.R_mono HO293.out (fun _ hk => hk.2)⟩, ⟨by (with_reducible repeat (first | apply Kd.R_alloc | apply Kd.R_drewN | apply Kd.R_drew)); exact Kd.R_mono HO_283006.out (fun _ hk => hk.2)⟩, ⟨by (with_reducible repeat (first | apply Kd.R_alloc | apply Kd.R_drewN | apply Kd.R_drew)); exact HO_283007.out⟩, ⟨by (with_reducible repeat (first | refine blk_drewN ?_ _ | refine blk_drew ?_ | refine blk_alloc ?_ _)); exact BK281.out⟩, ⟨by (with_reducible repeat (first | refine blk_drewN ?_ _ | refine blk_drew ?_ | refine blk_alloc ?_ _)); exact BK282.out⟩, ⟨by repeat (first | (with_reducible first | exact HB.out | apply below_alloc | apply pw_below_drewN | apply below_drew1 | refine below_set ?_ GE281.out | refine below_set ?_ GE282.out) | exact HB.out)⟩⟩
          case round =>
           clear H'
           try clear c1
           try clear p1
           try clear q1
           try clear hx1
           try clear c2
           try clear p2
           try clear c3
           try clear c6
           try clear p6
           try clear c10
           try clear c10b0
           try clear c11
           try clear c12
           try clear c12b0
           try clear c13
           try clear c13b0
           try clear p14
           try clear q14
           try clear hx14
           try clear c15
           try clear c15b0
           try clear c15b1
           try clear c19
           try clear c21
           try clear c21b0
           try clear c21b1
           try clear hcz20_0
           try clear hcz20_1
           try clear hcz20_2
           try clear hcz20_3
           try clear hcz20_4
           try clear hcz20_5
           try clear hcz20_6
           try clear hcz20_7
           try clear hcz7_0
           try clear hcz7_1
           try clear hcz7_2
           try clear hcz7_3
           try clear hcz7_4
           try clear hcz7_5
           try clear hcz7_6
           try clear hcz7_7
           try clear hfz20_0
           try clear hfz20_1
           try clear hfz20_2
           try clear hfz20_3
           try clear hfz20_4
           try clear hfz20_5
           try clear hfz20_6
           try clear hfz20_7
           try clear hfz7_0
           try clear hfz7_1
           try clear hfz7_2
           try clear hfz7_3
           try clear hfz7_4
           try clear hfz7_5
           try clear hfz7_6
           try clear hfz7_7
           try clear p14
           try clear p2
           try clear q14
           obtain ⟨x13_3, x283007_3, u283007, rfl, HA, HK3, HO_12, HO_283006, HO_283007, BK281, BK282, HB⟩ := hrel
           cases gk with
           | zero => exact absurd HA.out (by simp [temperaref21_Read.l1])
           | succ k3 =>
            have H := HA.out
            clear HA
            simp only [temperaref21_Read.l1] at H
            by_cases c24 : (wrap64 (x13_3 + 8)) < (t289.length : Int)
            ·rw [if_pos c24] at H
             have c24b0 : decide ((wrap64 (x13_3 + 8)) < (t289.length : Int)) = true := decide_eq_true c24
             clear c24
             by_cases c25 : 0 ≤ x13_3
             ·rw [if_pos c25] at H
              have c25b0 : decide (0 ≤ x13_3) = true := decide_eq_true c25
              clear c25
              by_cases c26 : x13_3 < (t289.length : Int)
              ·rw [if_pos c26] at H
               have c26b0 : decide (x13_3 < (t289.length : Int)) = true := decide_eq_true c26
               clear c26
               obtain ⟨ji27, hji27⟩ : ∃ j_ : Int, (wrap64 (x13_3 + 1)) = j_ := ⟨_, rfl⟩
               replace H : (if 0 ≤ (ji27) then (if (ji27) < (t289.length : Int) then (if 0 ≤ (wrap64 (x13_3 + 2)) then (if (wrap64 (x13_3 + 2)) < (t289.length : Int) then (if 0 ≤ (wrap64 (x13_3 + 3)) then (if (wrap64 (x13_3 + 3)) < (t289.length : Int) then (if 0 ≤ (wrap64 (x13_3 + 4)) then (if (wrap64 (x13_3 + 4)) < (t289.length : Int) then (if 0 ≤ (wrap64 (x13_3 + 5)) then (if (wrap64 (x13_3 + 5)) < (t289.length : Int) then (if 0 ≤ (wrap64 (x13_3 + 6)) then (if (wrap64 (x13_3 + 6)) < (t289.length : Int) then (if 0 ≤ (wrap64 (x13_3 + 7)) then (if (wrap64 (x13_3 + 7)) < (t289.length : Int) then (if 0 ≤ (wrap64 (x13_3 + 8)) then (if x283007_3.length < 1954687338268 then (temperaref21_Read.l1 k3 l1 t283 t290 t291 x10_1 t289 (wrap64 (x13_3 + 9)) x283000_1 x283001_1 x283002_1 x283003_1 x283004_1 x283005_1 x283006_1 (x283007_3 ++ [(⟨rd t289 x13_3, rd t289 (ji27), rd t289 (wrap64 (x13_3 + 2)), (⟨rd t289 (wrap64 (x13_3 + 3)), rd t289 (wrap64 (x13_3 + 4)), rd t289 (wrap64 (x13_3 + 5)), rd t289 (wrap64 (x13_3 + 6))⟩ : S60), rd t289 (wrap64 (x13_3 + 7)), rd t289 (wrap64 (x13_3 + 8))⟩ : S62)])) else (none)) else (none)) else (none)) else (none)) else (none)) else (none)) else (none)) else (none)) else (none)) else (none)) else (none)) else (none)) else (none)) else (none)) else (none)) else (none)) = some (r1, r2, r3, r4, r5, r6, r7, r8, r9) := by first | (rw [hji27] at H; exact H) | (simp only [hji27] at H ⊢; exact H)
               have hji27w : (IntKind.i64.wrap (x13_3 + 1)) = ji27 := (i64_w _).trans hji27
               by_cases c28 : 0 ≤ (ji27)
               ·rw [if_pos c28] at H
                have c28b0 : decide (0 ≤ (ji27)) = true := decide_eq_true c28
                clear c28
                by_cases c29 : (ji27) < (t289.length : Int)
                ·rw [if_pos c29] at H
                 have c29b0 : decide ((ji27) < (t289.length : Int)) = true := decide_eq_true c29
                 clear c29
                 obtain ⟨ji30, hji30⟩ : ∃ j_ : Int, (wrap64 (x13_3 + 2)) = j_ := ⟨_, rfl⟩
                 replace H : (if 0 ≤ (ji30) then (if (ji30) < (t289.length : Int) then (if 0 ≤ (wrap64 (x13_3 + 3)) then (if (wrap64 (x13_3 + 3)) < (t289.length : Int) then (if 0 ≤ (wrap64 (x13_3 + 4)) then (if (wrap64 (x13_3 + 4)) < (t289.length : Int) then (if 0 ≤ (wrap64 (x13_3 + 5)) then (if (wrap64 (x13_3 + 5)) < (t289.length : Int) then (if 0 ≤ (wrap64 (x13_3 + 6)) then (if (wrap64 (x13_3 + 6)) < (t289.length : Int) then (if 0 ≤ (wrap64 (x13_3 + 7)) then (if (wrap64 (x13_3 + 7)) < (t289.length : Int) then (if 0 ≤ (wrap64 (x13_3 + 8)) then (if x283007_3.length < 1954687338268 then (temperaref21_Read.l1 k3 l1 t283 t290 t291 x10_1 t289 (wrap64 (x13_3 + 9)) x283000_1 x283001_1 x283002_1 x283003_1 x283004_1 x283005_1 x283006_1 (x283007_3 ++ [(⟨rd t289 x13_3, rd t289 (ji27), rd t289 (ji30), (⟨rd t289 (wrap64 (x13_3 + 3)), rd t289 (wrap64 (x13_3 + 4)), rd t289 (wrap64 (x13_3 + 5)), rd t289 (wrap64 (x13_3 + 6))⟩ : S60), rd t289 (wrap64 (x13_3 + 7)), rd t289 (wrap64 (x13_3 + 8))⟩ : S62)])) else (none)) else (none)) else (none)) else (none)) else (none)) else (none)) else (none)) else (none)) else (none)) else (none)) else (none)) else (none)) else (none)) else (none)) = some (r1, r2, r3, r4, r5, r6, r7, r8, r9) := by first | (rw [hji30] at H; exact H) | (simp only [hji30] at H ⊢; exact H)
                 have hji30w : (IntKind.i64.wrap (x13_3 + 2)) = ji30 := (i64_w _).trans hji30
                 by_cases c31 : 0 ≤ (ji30)
                 ·rw [if_pos c31] at H
                  have c31b0 : decide (0 ≤ (ji30)) = true := decide_eq_true c31
                  clear c31
                  by_cases c32 : (ji30) < (t289.length : Int)
                  ·rw [if_pos c32] at H
                   have c32b0 : decide ((ji30) < (t289.length : Int)) = true := decide_eq_true c32
                   clear c32
                   obtain ⟨ji33, hji33⟩ : ∃ j_ : Int, (wrap64 (x13_3 + 3)) = j_ := ⟨_, rfl⟩
                   replace H : (if 0 ≤ (ji33) then (if (ji33) < (t289.length : Int) then (if 0 ≤ (wrap64 (x13_3 + 4)) then (if (wrap64 (x13_3 + 4)) < (t289.length : Int) then (if 0 ≤ (wrap64 (x13_3 + 5)) then (if (wrap64 (x13_3 + 5)) < (t289.length : Int) then (if 0 ≤ (wrap64 (x13_3 + 6)) then (if (wrap64 (x13_3 + 6)) < (t289.length : Int) then (if 0 ≤ (wrap64 (x13_3 + 7)) then (if (wrap64 (x13_3 + 7)) < (t289.length : Int) then (if 0 ≤ (wrap64 (x13_3 + 8)) then (if x283007_3.length < 1954687338268 then (temperaref21_Read.l1 k3 l1 t283 t290 t291 x10_1 t289 (wrap64 (x13_3 + 9)) x283000_1 x283001_1 x283002_1 x283003_1 x283004_1 x283005_1 x283006_1 (x283007_3 ++ [(⟨rd t289 x13_3, rd t289 (ji27), rd t289 (ji30), (⟨rd t289 (ji33), rd t289 (wrap64 (x13_3 + 4)), rd t289 (wrap64 (x13_3 + 5)), rd t289 (wrap64 (x13_3 + 6))⟩ : S60), rd t289 (wrap64 (x13_3 + 7)), rd t289 (wrap64 (x13_3 + 8))⟩ : S62)])) else (none)) else (none)) else (none)) else (none)) else (none)) else (none)) else (none)) else (none)) else (none)) else (none)) else (none)) else (none)) = some (r1, r2, r3, r4, r5, r6, r7, r8, r9) := by first | (rw [hji33] at H; exact H) | (simp only [hji33] at H ⊢; exact H)
                   have hji33w : (IntKind.i64.wrap (x13_3 + 3)) = ji33 := (i64_w _).trans hji33
                   by_cases c34 : 0 ≤ (ji33)
                   ·rw [if_pos c34] at H
                    have c34b0 : decide (0 ≤ (ji33)) = true := decide_eq_true c34
                    clear c34
                    by_cases c35 : (ji33) < (t289.length : Int)
                    ·rw [if_pos c35] at H
                     have c35b0 : decide ((ji33) < (t289.length : Int)) = true := decide_eq_true c35
                     clear c35
                     obtain ⟨ji36, hji36⟩ : ∃ j_ : Int, (wrap64 (x13_3 + 4)) = j_ := ⟨_, rfl⟩
                     replace H : (if 0 ≤ (ji36) then (if (ji36) < (t289.length : Int) then (if 0 ≤ (wrap64 (x13_3 + 5)) then (if (wrap64 (x13_3 + 5)) < (t289.length : Int) then (if 0 ≤ (wrap64 (x13_3 + 6)) then (if (wrap64 (x13_3 + 6)) < (t289.length : Int) then (if 0 ≤ (wrap64 (x13_3 + 7)) then (if (wrap64 (x13_3 + 7)) < (t289.length : Int) then (if 0 ≤ (wrap64 (x13_3 + 8)) then (if x283007_3.length < 1954687338268 then (temperaref21_Read.l1 k3 l1 t283 t290 t291 x10_1 t289 (wrap64 (x13_3 + 9)) x283000_1 x283001_1 x283002_1 x283003_1 x283004_1 x283005_1 x283006_1 (x283007_3 ++ [(⟨rd t289 x13_3, rd t289 (ji27), rd t289 (ji30), (⟨rd t289 (ji33), rd t289 (ji36), rd t289 (wrap64 (x13_3 + 5)), rd t289 (wrap64 (x13_3 + 6))⟩ : S60), rd t289 (wrap64 (x13_3 + 7)), rd t289 (wrap64 (x13_3 + 8))⟩ : S62)])) else (none)) else (none)) else (none)) else (none)) else (none)) else (none)) else (none)) else (none)) else (none)) else (none)) = some (r1, r2, r3, r4, r5, r6, r7, r8, r9) := by first | (rw [hji36] at H; exact H) | (simp only [hji36] at H ⊢; exact H)
                     have hji36w : (IntKind.i64.wrap (x13_3 + 4)) = ji36 := (i64_w _).trans hji36
                     by_cases c37 : 0 ≤ (ji36)
                     ·rw [if_pos c37] at H
                      have c37b0 : decide (0 ≤ (ji36)) = true := decide_eq_true c37
                      clear c37
                      by_cases c38 : (ji36) < (t289.length : Int)
                      ·rw [if_pos c38] at H
                       have c38b0 : decide ((ji36) < (t289.length : Int)) = true := decide_eq_true c38
                       clear c38
                       obtain ⟨ji39, hji39⟩ : ∃ j_ : Int, (wrap64 (x13_3 + 5)) = j_ := ⟨_, rfl⟩
                       replace H : (if 0 ≤ (ji39) then (if (ji39) < (t289.length : Int) then (if 0 ≤ (wrap64 (x13_3 + 6)) then (if (wrap64 (x13_3 + 6)) < (t289.length : Int) then (if 0 ≤ (wrap64 (x13_3 + 7)) then (if (wrap64 (x13_3 + 7)) < (t289.length : Int) then (if 0 ≤ (wrap64 (x13_3 + 8)) then (if x283007_3.length < 1954687338268 then (temperaref21_Read.l1 k3 l1 t283 t290 t291 x10_1 t289 (wrap64 (x13_3 + 9)) x283000_1 x283001_1 x283002_1 x283003_1 x283004_1 x283005_1 x283006_1 (x283007_3 ++ [(⟨rd t289 x13_3, rd t289 (ji27), rd t289 (ji30), (⟨rd t289 (ji33), rd t289 (ji36), rd t289 (ji39), rd t289 (wrap64 (x13_3 + 6))⟩ : S60), rd t289 (wrap64 (x13_3 + 7)), rd t289 (wrap64 (x13_3 + 8))⟩ : S62)])) else (none)) else (none)) else (none)) else (none)) else (none)) else (none)) else (none)) else (none)) = some (r1, r2, r3, r4, r5, r6, r7, r8, r9) := by first | (rw [hji39] at H; exact H) | (simp only [hji39] at H ⊢; exact H)
                       have hji39w : (IntKind.i64.wrap (x13_3 + 5)) = ji39 := (i64_w _).trans hji39
                       by_cases c40 : 0 ≤ (ji39)
                       ·rw [if_pos c40] at H
                        have c40b0 : decide (0 ≤ (ji39)) = true := decide_eq_true c40
                        clear c40
                        by_cases c41 : (ji39) < (t289.length : Int)
                        ·rw [if_pos c41] at H
                         have c41b0 : decide ((ji39) < (t289.length : Int)) = true := decide_eq_true c41
                         clear c41
                         obtain ⟨ji42, hji42⟩ : ∃ j_ : Int, (wrap64 (x13_3 + 6)) = j_ := ⟨_, rfl⟩
                         replace H : (if 0 ≤ (ji42) then (if (ji42) < (t289.length : Int) then (if 0 ≤ (wrap64 (x13_3 + 7)) then (if (wrap64 (x13_3 + 7)) < (t289.length : Int) then (if 0 ≤ (wrap64 (x13_3 + 8)) then (if x283007_3.length < 1954687338268 then (temperaref21_Read.l1 k3 l1 t283 t290 t291 x10_1 t289 (wrap64 (x13_3 + 9)) x283000_1 x283001_1 x283002_1 x283003_1 x283004_1 x283005_1 x283006_1 (x283007_3 ++ [(⟨rd t289 x13_3, rd t289 (ji27), rd t289 (ji30), (⟨rd t289 (ji33), rd t289 (ji36), rd t289 (ji39), rd t289 (ji42)⟩ : S60), rd t289 (wrap64 (x13_3 + 7)), rd t289 (wrap64 (x13_3 + 8))⟩ : S62)])) else (none)) else (none)) else (none)) else (none)) else (none)) else (none)) = some (r1, r2, r3, r4, r5, r6, r7, r8, r9) := by first | (rw [hji42] at H; exact H) | (simp only [hji42] at H ⊢; exact H)
                         have hji42w : (IntKind.i64.wrap (x13_3 + 6)) = ji42 := (i64_w _).trans hji42
                         by_cases c43 : 0 ≤ (ji42)
                         ·rw [if_pos c43] at H
                          have c43b0 : decide (0 ≤ (ji42)) = true := decide_eq_true c43
                          clear c43
                          by_cases c44 : (ji42) < (t289.length : Int)
                          ·rw [if_pos c44] at H
                           have c44b0 : decide ((ji42) < (t289.length : Int)) = true := decide_eq_true c44
                           clear c44
                           obtain ⟨ji45, hji45⟩ : ∃ j_ : Int, (wrap64 (x13_3 + 7)) = j_ := ⟨_, rfl⟩
                           replace H : (if 0 ≤ (ji45) then (if (ji45) < (t289.length : Int) then (if 0 ≤ (wrap64 (x13_3 + 8)) then (if x283007_3.length < 1954687338268 then (temperaref21_Read.l1 k3 l1 t283 t290 t291 x10_1 t289 (wrap64 (x13_3 + 9)) x283000_1 x283001_1 x283002_1 x283003_1 x283004_1 x283005_1 x283006_1 (x283007_3 ++ [(⟨rd t289 x13_3, rd t289 (ji27), rd t289 (ji30), (⟨rd t289 (ji33), rd t289 (ji36), rd t289 (ji39), rd t289 (ji42)⟩ : S60), rd t289 (ji45), rd t289 (wrap64 (x13_3 + 8))⟩ : S62)])) else (none)) else (none)) else (none)) else (none)) = some (r1, r2, r3, r4, r5, r6, r7, r8, r9) := by first | (rw [hji45] at H; exact H) | (simp only [hji45] at H ⊢; exact H)
                           have hji45w : (IntKind.i64.wrap (x13_3 + 7)) = ji45 := (i64_w _).trans hji45
                           by_cases c46 : 0 ≤ (ji45)
                           ·rw [if_pos c46] at H
                            have c46b0 : decide (0 ≤ (ji45)) = true := decide_eq_true c46
                            clear c46
                            by_cases c47 : (ji45) < (t289.length : Int)
                            ·rw [if_pos c47] at H
                             have c47b0 : decide ((ji45) < (t289.length : Int)) = true := decide_eq_true c47
                             clear c47
                             obtain ⟨ji48, hji48⟩ : ∃ j_ : Int, (wrap64 (x13_3 + 8)) = j_ := ⟨_, rfl⟩
                             replace H : (if 0 ≤ (ji48) then (if x283007_3.length < 1954687338268 then (temperaref21_Read.l1 k3 l1 t283 t290 t291 x10_1 t289 (wrap64 (x13_3 + 9)) x283000_1 x283001_1 x283002_1 x283003_1 x283004_1 x283005_1 x283006_1 (x283007_3 ++ [(⟨rd t289 x13_3, rd t289 (ji27), rd t289 (ji30), (⟨rd t289 (ji33), rd t289 (ji36), rd t289 (ji39), rd t289 (ji42)⟩ : S60), rd t289 (ji45), rd t289 (ji48)⟩ : S62)])) else (none)) else (none)) = some (r1, r2, r3, r4, r5, r6, r7, r8, r9) := by first | (rw [hji48] at H; exact H) | (simp only [hji48] at H ⊢; exact H)
                             (try rw [hji48] at c24b0)
                             have hji48w : (IntKind.i64.wrap (x13_3 + 8)) = ji48 := (i64_w _).trans hji48
                             by_cases c49 : 0 ≤ (ji48)
                             ·rw [if_pos c49] at H
                              have c49b0 : decide (0 ≤ (ji48)) = true := decide_eq_true c49
                              clear c49
                              by_cases c50 : x283007_3.length < 1954687338268
                              ·rw [if_pos c50] at H
                               have LMc50 := Aside0.mk c50
                               clear c50
                               obtain ⟨y303, hy303⟩ : ∃ y_ : List (S62), y_ = (x283007_3 ++ [(⟨rd t289 x13_3, rd t289 (ji27), rd t289 (ji30), (⟨rd t289 (ji33), rd t289 (ji36), rd t289 (ji39), rd t289 (ji42)⟩ : S60), rd t289 (ji45), rd t289 (ji48)⟩ : S62)]) := ⟨_, rfl⟩
                               replace H : (temperaref21_Read.l1 k3 l1 t283 t290 t291 x10_1 t289 (wrap64 (x13_3 + 9)) x283000_1 x283001_1 x283002_1 x283003_1 x283004_1 x283005_1 x283006_1 y303) = some (r1, r2, r3, r4, r5, r6, r7, r8, r9) := by first | (rw [hy303]; with_reducible exact H) | (have H2_ := (Option.bind_some _ _).symm.trans H; rw [hy303]; with_reducible exact H2_) | (have H2_ := (Option.bind_some _ _).symm.trans H; with_reducible exact H2_) | with_reducible exact H | (rw [hy303]; exact H) | exact H
                               have Ny303 := Aside0.mk hy303
                               clear hy303
                               have H' := Aside0.mk H
                               clear H
                               obtain ⟨Ao51, co51, eo51⟩ := Kd.R_slice HO_12.out
                               subst eo51
                               try go_wp2
                               have n0_ := Aside0.mk (Kd.R_drew HO_12.out)
                               have n1_ := Aside0.mk (Kd.R_drew HO_283006.out)
                               have n2_ := Aside0.mk (Kd.R_drew HO_283007.out)
                               have n3_ := Aside0.mk (blk_drew BK281.out)
                               have n4_ := Aside0.mk (blk_drew BK282.out)
                               have n5_ := Aside0.mk (below_drew1 HB.out)
                               clear HO_12
                               clear HO_283006
                               clear HO_283007
                               clear BK281
                               clear BK282
                               clear HB
                               have HO_12 := n0_
                               have HO_283006 := n1_
                               have HO_283007 := n2_
                               have BK281 := n3_
                               have BK282 := n4_
                               have HB := n5_
                               clear n0_ n1_ n2_ n3_ n4_ n5_
                               have p294 : 0 ≤ (x13_3 : Int) := of_decide_eq_true (by first | (with_reducible assumption) | assumption)
                               have q294 : x13_3 < (t289.length : Int) := of_decide_eq_true (by first | (with_reducible assumption) | assumption)
                               obtain ⟨ad294, e294, hx294_0⟩ := Kd.at_int (Kd.R_reads' HO_12.out).2.2 x13_3 p294 q294
                               cases e294
                               replace p294 := eq_true p294
                               replace q294 := eq_true q294
                               have p295 : 0 ≤ ((ji27) : Int) := of_decide_eq_true (by first | (with_reducible assumption) | assumption)
                               have q295 : (ji27) < (t289.length : Int) := of_decide_eq_true (by first | (with_reducible assumption) | assumption)
                               obtain ⟨ad295, e295, hx295_0⟩ := Kd.at_int (Kd.R_reads' HO_12.out).2.2 (ji27) p295 q295
                               obtain rfl : ad294 = ad295 := (by injection e295)
                               replace p295 := eq_true p295
                               replace q295 := eq_true q295
                               have p296 : 0 ≤ ((ji30) : Int) := of_decide_eq_true (by first | (with_reducible assumption) | assumption)
                               have q296 : (ji30) < (t289.length : Int) := of_decide_eq_true (by first | (with_reducible assumption) | assumption)
                               obtain ⟨ad296, e296, hx296_0⟩ := Kd.at_int (Kd.R_reads' HO_12.out).2.2 (ji30) p296 q296
                               obtain rfl : ad294 = ad296 := (by injection e296)
                               replace p296 := eq_true p296
                               replace q296 := eq_true q296
                               have p297 : 0 ≤ ((ji33) : Int) := of_decide_eq_true (by first | (with_reducible assumption) | assumption)
                               have q297 : (ji33) < (t289.length : Int) := of_decide_eq_true (by first | (with_reducible assumption) | assumption)
                               obtain ⟨ad297, e297, hx297_0⟩ := Kd.at_int (Kd.R_reads' HO_12.out).2.2 (ji33) p297 q297
                               obtain rfl : ad294 = ad297 := (by injection e297)
                               replace p297 := eq_true p297
                               replace q297 := eq_true q297
                               have p298 : 0 ≤ ((ji36) : Int) := of_decide_eq_true (by first | (with_reducible assumption) | assumption)
                               have q298 : (ji36) < (t289.length : Int) := of_decide_eq_true (by first | (with_reducible assumption) | assumption)
                               obtain ⟨ad298, e298, hx298_0⟩ := Kd.at_int (Kd.R_reads' HO_12.out).2.2 (ji36) p298 q298
                               obtain rfl : ad294 = ad298 := (by injection e298)
                               replace p298 := eq_true p298
                               replace q298 := eq_true q298
                               have p299 : 0 ≤ ((ji39) : Int) := of_decide_eq_true (by first | (with_reducible assumption) | assumption)
                               have q299 : (ji39) < (t289.length : Int) := of_decide_eq_true (by first | (with_reducible assumption) | assumption)
                               obtain ⟨ad299, e299, hx299_0⟩ := Kd.at_int (Kd.R_reads' HO_12.out).2.2 (ji39) p299 q299
                               obtain rfl : ad294 = ad299 := (by injection e299)
                               replace p299 := eq_true p299
                               replace q299 := eq_true q299
                               have p300 : 0 ≤ ((ji42) : Int) := of_decide_eq_true (by first | (with_reducible assumption) | assumption)
                               have q300 : (ji42) < (t289.length : Int) := of_decide_eq_true (by first | (with_reducible assumption) | assumption)
                               obtain ⟨ad300, e300, hx300_0⟩ := Kd.at_int (Kd.R_reads' HO_12.out).2.2 (ji42) p300 q300
                               obtain rfl : ad294 = ad300 := (by injection e300)
                               replace p300 := eq_true p300
                               replace q300 := eq_true q300
                               have p301 : 0 ≤ ((ji45) : Int) := of_decide_eq_true (by first | (with_reducible assumption) | assumption)
                               have q301 : (ji45) < (t289.length : Int) := of_decide_eq_true (by first | (with_reducible assumption) | assumption)
                               obtain ⟨ad301, e301, hx301_0⟩ := Kd.at_int (Kd.R_reads' HO_12.out).2.2 (ji45) p301 q301
                               obtain rfl : ad294 = ad301 := (by injection e301)
                               replace p301 := eq_true p301
                               replace q301 := eq_true q301
                               have p302 : 0 ≤ ((ji48) : Int) := of_decide_eq_true (by first | (with_reducible assumption) | assumption)
                               have q302 : (ji48) < (t289.length : Int) := of_decide_eq_true (by first | (with_reducible assumption) | assumption)
                               obtain ⟨ad302, e302, hx302_0⟩ := Kd.at_int (Kd.R_reads' HO_12.out).2.2 (ji48) p302 q302
                               obtain rfl : ad294 = ad302 := (by injection e302)
                               replace p302 := eq_true p302
                               replace q302 := eq_true q302
                               refine start_ (n := 52) (S := fun w' => w'.cell? ⟨gb282, 0, none⟩ = some (.int .i64 x283000_1) ∧ w'.cell? ⟨gb282, 1, none⟩ = some (.int .i64 x283001_1) ∧ w'.cell? ⟨gb282, 2, none⟩ = some (.int .i64 x283002_1) ∧ w'.cell? ⟨gb282, 3, none⟩ = some (.int .i64 x283003_1) ∧ w'.cell? ⟨gb282, 4, none⟩ = some (.int .i64 x283004_1) ∧ w'.cell? ⟨gb282, 5, none⟩ = some (.int .i64 x283005_1) ∧ w'.cell? ⟨gb282, 6, none⟩ = some (u283006) ∧ w'.cell? ⟨gb282, 7, none⟩ = some (u283007) ∧ w'.cell? (ad294.add (x13_3).toNat) = some (.int .i64 (rd t289 x13_3)) ∧ w'.cell? (ad294.add ((ji27)).toNat) = some (.int .i64 (rd t289 (ji27))) ∧ w'.cell? (ad294.add ((ji30)).toNat) = some (.int .i64 (rd t289 (ji30))) ∧ w'.cell? (ad294.add ((ji33)).toNat) = some (.int .i64 (rd t289 (ji33))) ∧ w'.cell? (ad294.add ((ji36)).toNat) = some (.int .i64 (rd t289 (ji36))) ∧ w'.cell? (ad294.add ((ji39)).toNat) = some (.int .i64 (rd t289 (ji39))) ∧ w'.cell? (ad294.add ((ji42)).toNat) = some (.int .i64 (rd t289 (ji42))) ∧ w'.cell? (ad294.add ((ji45)).toNat) = some (.int .i64 (rd t289 (ji45))) ∧ w'.cell? (ad294.add ((ji48)).toNat) = some (.int .i64 (rd t289 (ji48)))) (ds := [49, 51]) #[false, false, false, false, false, false, false, false, false, false, false, false, false, false, false, false, false, false, false, false, false, false, false, false, false, false, false, false, false, false, false, false, false, false, false, false, false, false, false, false, false, false, false, false, false, false, false, false, false, false, false, false] (by kernel_rfl) rfl rfl ⟨(blk_cell BK282.out 0).trans rfl, (blk_cell BK282.out 1).trans rfl, (blk_cell BK282.out 2).trans rfl, (blk_cell BK282.out 3).trans rfl, (blk_cell BK282.out 4).trans rfl, (blk_cell BK282.out 5).trans rfl, (blk_cell BK282.out 6).trans rfl, (blk_cell BK282.out 7).trans rfl, hx294_0, hx295_0, hx296_0, hx297_0, hx298_0, hx299_0, hx300_0, hx301_0, hx302_0⟩ (fun hHeld => ?_); refine with_tabW temperaref21_Read.tab20 temperaref21_Read.bits20 (fun HT_ HW_ => ?_)
                               generalize wr.drew = w52 at HO_12 HO_283006 HO_283007 BK281 BK282 HB hx294_0 hx295_0 hx296_0 hx297_0 hx298_0 hx299_0 hx300_0 hx301_0 hx302_0 hHeld ⊢
                               refine pure_ (i := 0) (N := some 70) (v := ?_) (a' := ?_) #[true, false, false, false, false, false, false, false, false, false, false, false, false, false, false, false, false, false, false, false, false, false, false, false, false, false, false, false, false, false, false, false, false, false, false, false, false, false, false, false, false, false, false, false, false, false, false, false, false, false, false, false] rfl rfl (any_of HT_.out (by kernel_rfl)) (fun _ _ _ h => h) (Or.inl ⟨by rfl, ?_⟩) ?_ ?_
                               rotate_left
                               ·intro w'
                                go_simp
                                with_reducible rfl
                               rotate_left
                               ·simp only [Act.put, List.setIfInBounds_toArray, List.set_cons_zero, List.set_cons_succ, i64_w, i32_w]
                                rfl
                               refine pure_ (i := 2) (N := some 72) (v := ?_) (a' := ?_) #[true, false, true, false, false, false, false, false, false, false, false, false, false, false, false, false, false, false, false, false, false, false, false, false, false, false, false, false, false, false, false, false, false, false, false, false, false, false, false, false, false, false, false, false, false, false, false, false, false, false, false, false] rfl rfl (any_of HT_.out (by kernel_rfl)) (fun _ _ _ h => h) (Or.inl ⟨by rfl, ?_⟩) ?_ ?_
                               rotate_left
                               ·intro w'
                                go_simp
                                with_reducible rfl
                               rotate_left
                               ·simp only [Act.put, List.setIfInBounds_toArray, List.set_cons_zero, List.set_cons_succ, i64_w, i32_w]
                                rfl
                               refine pure_ (i := 3) (N := some 73) (v := ?_) (a' := ?_) #[true, false, true, true, false, false, false, false, false, false, false, false, false, false, false, false, false, false, false, false, false, false, false, false, false, false, false, false, false, false, false, false, false, false, false, false, false, false, false, false, false, false, false, false, false, false, false, false, false, false, false, false] rfl rfl (any_of HT_.out (by kernel_rfl)) (fun _ _ _ h => h) (Or.inl ⟨by rfl, ?_⟩) ?_ ?_
                               rotate_left
                               ·intro w'
                                go_simp
                                with_reducible rfl
                               rotate_left
                               ·simp only [Act.put, List.setIfInBounds_toArray, List.set_cons_zero, List.set_cons_succ, i64_w, i32_w]
                                rfl
                               refine pure_ (i := 4) (N := some 74) (v := ?_) (a' := ?_) #[true, false, true, true, true, false, false, false, false, false, false, false, false, false, false, false, false, false, false, false, false, false, false, false, false, false, false, false, false, false, false, false, false, false, false, false, false, false, false, false, false, false, false, false, false, false, false, false, false, false, false, false] rfl rfl (any_of HT_.out (by kernel_rfl)) (fun _ _ _ h => h) (Or.inl ⟨by rfl, ?_⟩) ?_ ?_
                               rotate_left
                               ·intro w'
                                go_simp
                                with_reducible rfl
                               rotate_left
                               ·simp only [Act.put, List.setIfInBounds_toArray, List.set_cons_zero, List.set_cons_succ, i64_w, i32_w]
                                rfl
                               refine pure_ (i := 6) (N := some 76) (v := ?_) (a' := ?_) #[true, false, true, true, true, false, true, false, false, false, false, false, false, false, false, false, false, false, false, false, false, false, false, false, false, false, false, false, false, false, false, false, false, false, false, false, false, false, false, false, false, false, false, false, false, false, false, false, false, false, false, false] rfl rfl (any_of HT_.out (by kernel_rfl)) (fun _ _ _ h => h) (Or.inl ⟨by rfl, ?_⟩) ?_ ?_
                               rotate_left
                               ·intro w'
                                go_simp
                                with_reducible rfl
                               rotate_left
                               ·simp only [Act.put, List.setIfInBounds_toArray, List.set_cons_zero, List.set_cons_succ, i64_w, i32_w]
                                rfl
                               refine pure_ (i := 7) (N := some 77) (v := ?_) (a' := ?_) #[true, false, true, true, true, false, true, true, false, false, false, false, false, false, false, false, false, false, false, false, false, false, false, false, false, false, false, false, false, false, false, false, false, false, false, false, false, false, false, false, false, false, false, false, false, false, false, false, false, false, false, false] rfl rfl (any_of HT_.out (by kernel_rfl)) (fun _ _ _ h => h) (Or.inl ⟨by rfl, ?_⟩) ?_ ?_
                               rotate_left
                               ·intro w'
                                go_simp
                                with_reducible rfl
                               rotate_left
                               ·simp only [Act.put, List.setIfInBounds_toArray, List.set_cons_zero, List.set_cons_succ, i64_w, i32_w]
                                rfl
                               refine pure_ (i := 8) (N := some 78) (v := ?_) (a' := ?_) #[true, false, true, true, true, false, true, true, true, false, false, false, false, false, false, false, false, false, false, false, false, false, false, false, false, false, false, false, false, false, false, false, false, false, false, false, false, false, false, false, false, false, false, false, false, false, false, false, false, false, false, false] rfl rfl (any_of HT_.out (by kernel_rfl)) (fun _ _ _ h => h) (Or.inl ⟨by rfl, ?_⟩) ?_ ?_
                               rotate_left
                               ·intro w'
                                go_simp
                                with_reducible rfl
                               rotate_left
                               ·simp only [Act.put, List.setIfInBounds_toArray, List.set_cons_zero, List.set_cons_succ, i64_w, i32_w]
                                rfl
                               refine pure_ (i := 9) (N := some 79) (v := ?_) (a' := ?_) #[true, false, true, true, true, false, true, true, true, true, false, false, false, false, false, false, false, false, false, false, false, false, false, false, false, false, false, false, false, false, false, false, false, false, false, false, false, false, false, false, false, false, false, false, false, false, false, false, false, false, false, false] rfl rfl (any_of HT_.out (by kernel_rfl)) (fun _ _ _ h => h) (Or.inl ⟨by rfl, ?_⟩) ?_ ?_
                               rotate_left
                               ·intro w'
                                go_simp
                                with_reducible rfl
                               rotate_left
                               ·simp only [Act.put, List.setIfInBounds_toArray, List.set_cons_zero, List.set_cons_succ, i64_w, i32_w]
                                rfl
                               refine pure_ (i := 11) (N := some 81) (v := ?_) (a' := ?_) #[true, false, true, true, true, false, true, true, true, true, false, true, false, false, false, false, false, false, false, false, false, false, false, false, false, false, false, false, false, false, false, false, false, false, false, false, false, false, false, false, false, false, false, false, false, false, false, false, false, false, false, false] rfl rfl (any_of HT_.out (by kernel_rfl)) (fun _ _ _ h => h) (Or.inl ⟨by rfl, ?_⟩) ?_ ?_
                               rotate_left
                               ·intro w'
                                go_simp
                                with_reducible rfl
                               rotate_left
                               ·simp only [Act.put, List.setIfInBounds_toArray, List.set_cons_zero, List.set_cons_succ, i64_w, i32_w]
                                rfl
                               refine pure_ (i := 12) (N := some 82) (v := ?_) (a' := ?_) #[true, false, true, true, true, false, true, true, true, true, false, true, true, false, false, false, false, false, false, false, false, false, false, false, false, false, false, false, false, false, false, false, false, false, false, false, false, false, false, false, false, false, false, false, false, false, false, false, false, false, false, false] rfl rfl (any_of HT_.out (by kernel_rfl)) (fun _ _ _ h => h) (Or.inl ⟨by rfl, ?_⟩) ?_ ?_
                               rotate_left
                               ·intro w'
                                go_simp
                                with_reducible rfl
                               rotate_left
                               ·simp only [Act.put, List.setIfInBounds_toArray, List.set_cons_zero, List.set_cons_succ, i64_w, i32_w]
                                rfl
                               refine pure_ (i := 13) (N := some 83) (v := ?_) (a' := ?_) #[true, false, true, true, true, false, true, true, true, true, false, true, true, true, false, false, false, false, false, false, false, false, false, false, false, false, false, false, false, false, false, false, false, false, false, false, false, false, false, false, false, false, false, false, false, false, false, false, false, false, false, false] rfl rfl (any_of HT_.out (by kernel_rfl)) (fun _ _ _ h => h) (Or.inl ⟨by rfl, ?_⟩) ?_ ?_
                               rotate_left
                               ·intro w'
                                go_simp
                                with_reducible rfl
                               rotate_left
                               ·simp only [Act.put, List.setIfInBounds_toArray, List.set_cons_zero, List.set_cons_succ, i64_w, i32_w]
                                rfl
                               refine pure_ (i := 14) (N := some 84) (v := ?_) (a' := ?_) #[true, false, true, true, true, false, true, true, true, true, false, true, true, true, true, false, false, false, false, false, false, false, false, false, false, false, false, false, false, false, false, false, false, false, false, false, false, false, false, false, false, false, false, false, false, false, false, false, false, false, false, false] rfl rfl (any_of HT_.out (by kernel_rfl)) (fun _ _ _ h => h) (Or.inl ⟨by rfl, ?_⟩) ?_ ?_
                               rotate_left
                               ·intro w'
                                go_simp
                                with_reducible rfl
                               rotate_left
                               ·simp only [Act.put, List.setIfInBounds_toArray, List.set_cons_zero, List.set_cons_succ, i64_w, i32_w]
                                rfl
                               refine pure_ (i := 16) (N := some 86) (v := ?_) (a' := ?_) #[true, false, true, true, true, false, true, true, true, true, false, true, true, true, true, false, true, false, false, false, false, false, false, false, false, false, false, false, false, false, false, false, false, false, false, false, false, false, false, false, false, false, false, false, false, false, false, false, false, false, false, false] rfl rfl (any_of HT_.out (by kernel_rfl)) (fun _ _ _ h => h) (Or.inl ⟨by rfl, ?_⟩) ?_ ?_
                               rotate_left
                               ·intro w'
                                go_simp
                                with_reducible rfl
                               rotate_left
                               ·simp only [Act.put, List.setIfInBounds_toArray, List.set_cons_zero, List.set_cons_succ, i64_w, i32_w]
                                rfl
                               refine pure_ (i := 17) (N := some 87) (v := ?_) (a' := ?_) #[true, false, true, true, true, false, true, true, true, true, false, true, true, true, true, false, true, true, false, false, false, false, false, false, false, false, false, false, false, false, false, false, false, false, false, false, false, false, false, false, false, false, false, false, false, false, false, false, false, false, false, false] rfl rfl (any_of HT_.out (by kernel_rfl)) (fun _ _ _ h => h) (Or.inl ⟨by rfl, ?_⟩) ?_ ?_
                               rotate_left
                               ·intro w'
                                go_simp
                                with_reducible rfl
                               rotate_left
                               ·simp only [Act.put, List.setIfInBounds_toArray, List.set_cons_zero, List.set_cons_succ, i64_w, i32_w]
                                rfl
                               refine pure_ (i := 18) (N := some 88) (v := ?_) (a' := ?_) #[true, false, true, true, true, false, true, true, true, true, false, true, true, true, true, false, true, true, true, false, false, false, false, false, false, false, false, false, false, false, false, false, false, false, false, false, false, false, false, false, false, false, false, false, false, false, false, false, false, false, false, false] rfl rfl (any_of HT_.out (by kernel_rfl)) (fun _ _ _ h => h) (Or.inl ⟨by rfl, ?_⟩) ?_ ?_
                               rotate_left
                               ·intro w'
                                go_simp
                                with_reducible rfl
                               rotate_left
                               ·simp only [Act.put, List.setIfInBounds_toArray, List.set_cons_zero, List.set_cons_succ, i64_w, i32_w]
                                rfl
                               refine pure_ (i := 19) (N := some 89) (v := ?_) (a' := ?_) #[true, false, true, true, true, false, true, true, true, true, false, true, true, true, true, false, true, true, true, true, false, false, false, false, false, false, false, false, false, false, false, false, false, false, false, false, false, false, false, false, false, false, false, false, false, false, false, false, false, false, false, false] rfl rfl (any_of HT_.out (by kernel_rfl)) (fun _ _ _ h => h) (Or.inl ⟨by rfl, ?_⟩) ?_ ?_
                               rotate_left
                               ·intro w'
                                go_simp
                                with_reducible rfl
                               rotate_left
                               ·simp only [Act.put, List.setIfInBounds_toArray, List.set_cons_zero, List.set_cons_succ, i64_w, i32_w]
                                rfl
                               refine pure_ (i := 21) (N := some 91) (v := ?_) (a' := ?_) #[true, false, true, true, true, false, true, true, true, true, false, true, true, true, true, false, true, true, true, true, false, true, false, false, false, false, false, false, false, false, false, false, false, false, false, false, false, false, false, false, false, false, false, false, false, false, false, false, false, false, false, false] rfl rfl (any_of HT_.out (by kernel_rfl)) (fun _ _ _ h => h) (Or.inl ⟨by rfl, ?_⟩) ?_ ?_
                               rotate_left
                               ·intro w'
                                go_simp
                                with_reducible rfl
                               rotate_left
                               ·simp only [Act.put, List.setIfInBounds_toArray, List.set_cons_zero, List.set_cons_succ, i64_w, i32_w]
                                rfl
                               refine pure_ (i := 22) (N := some 92) (v := ?_) (a' := ?_) #[true, false, true, true, true, false, true, true, true, true, false, true, true, true, true, false, true, true, true, true, false, true, true, false, false, false, false, false, false, false, false, false, false, false, false, false, false, false, false, false, false, false, false, false, false, false, false, false, false, false, false, false] rfl rfl (any_of HT_.out (by kernel_rfl)) (fun _ _ _ h => h) (Or.inl ⟨by rfl, ?_⟩) ?_ ?_
                               rotate_left
                               ·intro w'
                                go_simp
                                with_reducible rfl
                               rotate_left
                               ·simp only [Act.put, List.setIfInBounds_toArray, List.set_cons_zero, List.set_cons_succ, i64_w, i32_w]
                                rfl
                               refine pure_ (i := 23) (N := some 93) (v := ?_) (a' := ?_) #[true, false, true, true, true, false, true, true, true, true, false, true, true, true, true, false, true, true, true, true, false, true, true, true, false, false, false, false, false, false, false, false, false, false, false, false, false, false, false, false, false, false, false, false, false, false, false, false, false, false, false, false] rfl rfl (any_of HT_.out (by kernel_rfl)) (fun _ _ _ h => h) (Or.inl ⟨by rfl, ?_⟩) ?_ ?_
                               rotate_left
                               ·intro w'
                                go_simp
                                with_reducible rfl
                               rotate_left
                               ·simp only [Act.put, List.setIfInBounds_toArray, List.set_cons_zero, List.set_cons_succ, i64_w, i32_w]
                                rfl
                               refine pure_ (i := 24) (N := some 94) (v := ?_) (a' := ?_) #[true, false, true, true, true, false, true, true, true, true, false, true, true, true, true, false, true, true, true, true, false, true, true, true, true, false, false, false, false, false, false, false, false, false, false, false, false, false, false, false, false, false, false, false, false, false, false, false, false, false, false, false] rfl rfl (any_of HT_.out (by kernel_rfl)) (fun _ _ _ h => h) (Or.inl ⟨by rfl, ?_⟩) ?_ ?_
                               rotate_left
                               ·intro w'
                                go_simp
                                with_reducible rfl
                               rotate_left
                               ·simp only [Act.put, List.setIfInBounds_toArray, List.set_cons_zero, List.set_cons_succ, i64_w, i32_w]
                                rfl
                               refine pure_ (i := 26) (N := some 96) (v := ?_) (a' := ?_) #[true, false, true, true, true, false, true, true, true, true, false, true, true, true, true, false, true, true, true, true, false, true, true, true, true, false, true, false, false, false, false, false, false, false, false, false, false, false, false, false, false, false, false, false, false, false, false, false, false, false, false, false] rfl rfl (any_of HT_.out (by kernel_rfl)) (fun _ _ _ h => h) (Or.inl ⟨by rfl, ?_⟩) ?_ ?_
                               rotate_left
                               ·intro w'
                                go_simp
                                with_reducible rfl
                               rotate_left
                               ·simp only [Act.put, List.setIfInBounds_toArray, List.set_cons_zero, List.set_cons_succ, i64_w, i32_w]
                                rfl
                               refine pure_ (i := 27) (N := some 97) (v := ?_) (a' := ?_) #[true, false, true, true, true, false, true, true, true, true, false, true, true, true, true, false, true, true, true, true, false, true, true, true, true, false, true, true, false, false, false, false, false, false, false, false, false, false, false, false, false, false, false, false, false, false, false, false, false, false, false, false] rfl rfl (any_of HT_.out (by kernel_rfl)) (fun _ _ _ h => h) (Or.inl ⟨by rfl, ?_⟩) ?_ ?_
                               rotate_left
                               ·intro w'
                                go_simp
                                with_reducible rfl
                               rotate_left
                               ·simp only [Act.put, List.setIfInBounds_toArray, List.set_cons_zero, List.set_cons_succ, i64_w, i32_w]
                                rfl
                               refine pure_ (i := 28) (N := some 98) (v := ?_) (a' := ?_) #[true, false, true, true, true, false, true, true, true, true, false, true, true, true, true, false, true, true, true, true, false, true, true, true, true, false, true, true, true, false, false, false, false, false, false, false, false, false, false, false, false, false, false, false, false, false, false, false, false, false, false, false] rfl rfl (any_of HT_.out (by kernel_rfl)) (fun _ _ _ h => h) (Or.inl ⟨by rfl, ?_⟩) ?_ ?_
                               rotate_left
                               ·intro w'
                                go_simp
                                with_reducible rfl
                               rotate_left
                               ·simp only [Act.put, List.setIfInBounds_toArray, List.set_cons_zero, List.set_cons_succ, i64_w, i32_w]
                                rfl
                               refine pure_ (i := 29) (N := some 99) (v := ?_) (a' := ?_) #[true, false, true, true, true, false, true, true, true, true, false, true, true, true, true, false, true, true, true, true, false, true, true, true, true, false, true, true, true, true, false, false, false, false, false, false, false, false, false, false, false, false, false, false, false, false, false, false, false, false, false, false] rfl rfl (any_of HT_.out (by kernel_rfl)) (fun _ _ _ h => h) (Or.inl ⟨by rfl, ?_⟩) ?_ ?_
                               rotate_left
                               ·intro w'
                                go_simp
                                with_reducible rfl
                               rotate_left
                               ·simp only [Act.put, List.setIfInBounds_toArray, List.set_cons_zero, List.set_cons_succ, i64_w, i32_w]
                                rfl
                               refine pure_ (i := 31) (N := some 101) (v := ?_) (a' := ?_) #[true, false, true, true, true, false, true, true, true, true, false, true, true, true, true, false, true, true, true, true, false, true, true, true, true, false, true, true, true, true, false, true, false, false, false, false, false, false, false, false, false, false, false, false, false, false, false, false, false, false, false, false] rfl rfl (any_of HT_.out (by kernel_rfl)) (fun _ _ _ h => h) (Or.inl ⟨by rfl, ?_⟩) ?_ ?_
                               rotate_left
                               ·intro w'
                                go_simp
                                with_reducible rfl
                               rotate_left
                               ·simp only [Act.put, List.setIfInBounds_toArray, List.set_cons_zero, List.set_cons_succ, i64_w, i32_w]
                                rfl
                               refine pure_ (i := 32) (N := some 102) (v := ?_) (a' := ?_) #[true, false, true, true, true, false, true, true, true, true, false, true, true, true, true, false, true, true, true, true, false, true, true, true, true, false, true, true, true, true, false, true, true, false, false, false, false, false, false, false, false, false, false, false, false, false, false, false, false, false, false, false] rfl rfl (any_of HT_.out (by kernel_rfl)) (fun _ _ _ h => h) (Or.inl ⟨by rfl, ?_⟩) ?_ ?_
                               rotate_left
                               ·intro w'
                                go_simp
                                with_reducible rfl
                               rotate_left
                               ·simp only [Act.put, List.setIfInBounds_toArray, List.set_cons_zero, List.set_cons_succ, i64_w, i32_w]
                                rfl
                               refine pure_ (i := 33) (N := some 103) (v := ?_) (a' := ?_) #[true, false, true, true, true, false, true, true, true, true, false, true, true, true, true, false, true, true, true, true, false, true, true, true, true, false, true, true, true, true, false, true, true, true, false, false, false, false, false, false, false, false, false, false, false, false, false, false, false, false, false, false] rfl rfl (any_of HT_.out (by kernel_rfl)) (fun _ _ _ h => h) (Or.inl ⟨by rfl, ?_⟩) ?_ ?_
                               rotate_left
                               ·intro w'
                                go_simp
                                with_reducible rfl
                               rotate_left
                               ·simp only [Act.put, List.setIfInBounds_toArray, List.set_cons_zero, List.set_cons_succ, i64_w, i32_w]
                                rfl
                               refine pure_ (i := 34) (N := some 104) (v := ?_) (a' := ?_) #[true, false, true, true, true, false, true, true, true, true, false, true, true, true, true, false, true, true, true, true, false, true, true, true, true, false, true, true, true, true, false, true, true, true, true, false, false, false, false, false, false, false, false, false, false, false, false, false, false, false, false, false] rfl rfl (any_of HT_.out (by kernel_rfl)) (fun _ _ _ h => h) (Or.inl ⟨by rfl, ?_⟩) ?_ ?_
                               rotate_left
                               ·intro w'
                                go_simp
                                with_reducible rfl
                               rotate_left
                               ·simp only [Act.put, List.setIfInBounds_toArray, List.set_cons_zero, List.set_cons_succ, i64_w, i32_w]
                                rfl
                               refine pure_ (i := 37) (N := some 107) (v := ?_) (a' := ?_) #[true, false, true, true, true, false, true, true, true, true, false, true, true, true, true, false, true, true, true, true, false, true, true, true, true, false, true, true, true, true, false, true, true, true, true, false, false, true, false, false, false, false, false, false, false, false, false, false, false, false, false, false] rfl rfl (any_of HT_.out (by kernel_rfl)) (fun _ _ _ h => h) (Or.inl ⟨by rfl, ?_⟩) ?_ ?_
                               rotate_left
                               ·intro w'
                                go_simp
                                with_reducible rfl
                               rotate_left
                               ·simp only [Act.put, List.setIfInBounds_toArray, List.set_cons_zero, List.set_cons_succ, i64_w, i32_w]
                                rfl
                               refine pure_ (i := 38) (N := some 108) (v := ?_) (a' := ?_) #[true, false, true, true, true, false, true, true, true, true, false, true, true, true, true, false, true, true, true, true, false, true, true, true, true, false, true, true, true, true, false, true, true, true, true, false, false, true, true, false, false, false, false, false, false, false, false, false, false, false, false, false] rfl rfl (any_of HT_.out (by kernel_rfl)) (fun _ _ _ h => h) (Or.inl ⟨by rfl, ?_⟩) ?_ ?_
                               rotate_left
                               ·intro w'
                                go_simp
                                with_reducible rfl
                               rotate_left
                               ·simp only [Act.put, List.setIfInBounds_toArray, List.set_cons_zero, List.set_cons_succ, i64_w, i32_w]
                                rfl
                               refine pure_ (i := 39) (N := some 109) (v := ?_) (a' := ?_) #[true, false, true, true, true, false, true, true, true, true, false, true, true, true, true, false, true, true, true, true, false, true, true, true, true, false, true, true, true, true, false, true, true, true, true, false, false, true, true, true, false, false, false, false, false, false, false, false, false, false, false, false] rfl rfl (any_of HT_.out (by kernel_rfl)) (fun _ _ _ h => h) (Or.inl ⟨by rfl, ?_⟩) ?_ ?_
                               rotate_left
                               ·intro w'
                                go_simp
                                with_reducible rfl
                               rotate_left
                               ·simp only [Act.put, List.setIfInBounds_toArray, List.set_cons_zero, List.set_cons_succ, i64_w, i32_w]
                                rfl
                               refine pure_ (i := 40) (N := some 110) (v := ?_) (a' := ?_) #[true, false, true, true, true, false, true, true, true, true, false, true, true, true, true, false, true, true, true, true, false, true, true, true, true, false, true, true, true, true, false, true, true, true, true, false, false, true, true, true, true, false, false, false, false, false, false, false, false, false, false, false] rfl rfl (any_of HT_.out (by kernel_rfl)) (fun _ _ _ h => h) (Or.inl ⟨by rfl, ?_⟩) ?_ ?_
                               rotate_left
                               ·intro w'
                                go_simp
                                with_reducible rfl
                               rotate_left
                               ·simp only [Act.put, List.setIfInBounds_toArray, List.set_cons_zero, List.set_cons_succ, i64_w, i32_w]
                                rfl
                               refine pure_ (i := 42) (N := some 112) (v := ?_) (a' := ?_) #[true, false, true, true, true, false, true, true, true, true, false, true, true, true, true, false, true, true, true, true, false, true, true, true, true, false, true, true, true, true, false, true, true, true, true, false, false, true, true, true, true, false, true, false, false, false, false, false, false, false, false, false] rfl rfl (any_of HT_.out (by kernel_rfl)) (fun _ _ _ h => h) (Or.inl ⟨by rfl, ?_⟩) ?_ ?_
                               rotate_left
                               ·intro w'
                                go_simp
                                with_reducible rfl
                               rotate_left
                               ·simp only [Act.put, List.setIfInBounds_toArray, List.set_cons_zero, List.set_cons_succ, i64_w, i32_w]
                                rfl
                               refine pure_ (i := 43) (N := some 113) (v := ?_) (a' := ?_) #[true, false, true, true, true, false, true, true, true, true, false, true, true, true, true, false, true, true, true, true, false, true, true, true, true, false, true, true, true, true, false, true, true, true, true, false, false, true, true, true, true, false, true, true, false, false, false, false, false, false, false, false] rfl rfl (any_of HT_.out (by kernel_rfl)) (fun _ _ _ h => h) (Or.inl ⟨by rfl, ?_⟩) ?_ ?_
                               rotate_left
                               ·intro w'
                                go_simp
                                with_reducible rfl
                               rotate_left
                               ·simp only [Act.put, List.setIfInBounds_toArray, List.set_cons_zero, List.set_cons_succ, i64_w, i32_w]
                                rfl
                               refine pure_ (i := 44) (N := some 114) (v := ?_) (a' := ?_) #[true, false, true, true, true, false, true, true, true, true, false, true, true, true, true, false, true, true, true, true, false, true, true, true, true, false, true, true, true, true, false, true, true, true, true, false, false, true, true, true, true, false, true, true, true, false, false, false, false, false, false, false] rfl rfl (any_of HT_.out (by kernel_rfl)) (fun _ _ _ h => h) (Or.inl ⟨by rfl, ?_⟩) ?_ ?_
                               rotate_left
                               ·intro w'
                                go_simp
                                with_reducible rfl
                               rotate_left
                               ·simp only [Act.put, List.setIfInBounds_toArray, List.set_cons_zero, List.set_cons_succ, i64_w, i32_w]
                                rfl
                               refine pure_ (i := 45) (N := some 115) (v := ?_) (a' := ?_) #[true, false, true, true, true, false, true, true, true, true, false, true, true, true, true, false, true, true, true, true, false, true, true, true, true, false, true, true, true, true, false, true, true, true, true, false, false, true, true, true, true, false, true, true, true, true, false, false, false, false, false, false] rfl rfl (any_of HT_.out (by kernel_rfl)) (fun _ _ _ h => h) (Or.inl ⟨by rfl, ?_⟩) ?_ ?_
                               rotate_left
                               ·intro w'
                                go_simp
                                with_reducible rfl
                               rotate_left
                               ·simp only [Act.put, List.setIfInBounds_toArray, List.set_cons_zero, List.set_cons_succ, i64_w, i32_w]
                                rfl
                               refine take_ (i := 1) (N := some 71) (v := ?_) (a' := ?_) #[true, true, true, true, true, false, true, true, true, true, false, true, true, true, true, false, true, true, true, true, false, true, true, true, true, false, true, true, true, true, false, true, true, true, true, false, false, true, true, true, true, false, true, true, true, true, false, false, false, false, false, false] rfl rfl (take_ofW HT_.out HW_.out (by kernel_rfl)) (fun _ _ _ h => h) (Or.inl ⟨by rfl, ?_⟩) hHeld ?_ ?_
                               rotate_left
                               ·rintro w' ⟨s0, s1, s2, s3, s4, s5, s6, s7, s8, s9, s10, s11, s12, s13, s14, s15, s16⟩
                                go_simp
                                with_reducible rfl
                               rotate_left
                               ·simp only [Act.put, List.setIfInBounds_toArray, List.set_cons_zero, List.set_cons_succ, i64_w, i32_w]
                                rfl
                               refine take_ (i := 5) (N := some 75) (v := ?_) (a' := ?_) #[true, true, true, true, true, true, true, true, true, true, false, true, true, true, true, false, true, true, true, true, false, true, true, true, true, false, true, true, true, true, false, true, true, true, true, false, false, true, true, true, true, false, true, true, true, true, false, false, false, false, false, false] rfl rfl (take_ofW HT_.out HW_.out (by kernel_rfl)) (fun _ _ _ h => h) (Or.inl ⟨by rfl, ?_⟩) hHeld ?_ ?_
                               rotate_left
                               ·rintro w' ⟨s0, s1, s2, s3, s4, s5, s6, s7, s8, s9, s10, s11, s12, s13, s14, s15, s16⟩
                                go_simp
                                with_reducible rfl
                               rotate_left
                               ·simp only [Act.put, List.setIfInBounds_toArray, List.set_cons_zero, List.set_cons_succ, i64_w, i32_w]
                                rfl
                               refine take_ (i := 10) (N := some 80) (v := ?_) (a' := ?_) #[true, true, true, true, true, true, true, true, true, true, true, true, true, true, true, false, true, true, true, true, false, true, true, true, true, false, true, true, true, true, false, true, true, true, true, false, false, true, true, true, true, false, true, true, true, true, false, false, false, false, false, false] rfl rfl (take_ofW HT_.out HW_.out (by kernel_rfl)) (fun _ _ _ h => h) (Or.inl ⟨by rfl, ?_⟩) hHeld ?_ ?_
                               rotate_left
                               ·rintro w' ⟨s0, s1, s2, s3, s4, s5, s6, s7, s8, s9, s10, s11, s12, s13, s14, s15, s16⟩
                                go_simp
                                with_reducible rfl
                               rotate_left
                               ·simp only [Act.put, List.setIfInBounds_toArray, List.set_cons_zero, List.set_cons_succ, i64_w, i32_w]
                                rfl
                               refine take_ (i := 15) (N := some 85) (v := ?_) (a' := ?_) #[true, true, true, true, true, true, true, true, true, true, true, true, true, true, true, true, true, true, true, true, false, true, true, true, true, false, true, true, true, true, false, true, true, true, true, false, false, true, true, true, true, false, true, true, true, true, false, false, false, false, false, false] rfl rfl (take_ofW HT_.out HW_.out (by kernel_rfl)) (fun _ _ _ h => h) (Or.inl ⟨by rfl, ?_⟩) hHeld ?_ ?_
                               rotate_left
                               ·rintro w' ⟨s0, s1, s2, s3, s4, s5, s6, s7, s8, s9, s10, s11, s12, s13, s14, s15, s16⟩
                                go_simp
                                with_reducible rfl
                               rotate_left
                               ·simp only [Act.put, List.setIfInBounds_toArray, List.set_cons_zero, List.set_cons_succ, i64_w, i32_w]
                                rfl
                               refine take_ (i := 20) (N := some 90) (v := ?_) (a' := ?_) #[true, true, true, true, true, true, true, true, true, true, true, true, true, true, true, true, true, true, true, true, true, true, true, true, true, false, true, true, true, true, false, true, true, true, true, false, false, true, true, true, true, false, true, true, true, true, false, false, false, false, false, false] rfl rfl (take_ofW HT_.out HW_.out (by kernel_rfl)) (fun _ _ _ h => h) (Or.inl ⟨by rfl, ?_⟩) hHeld ?_ ?_
                               rotate_left
                               ·rintro w' ⟨s0, s1, s2, s3, s4, s5, s6, s7, s8, s9, s10, s11, s12, s13, s14, s15, s16⟩
                                go_simp
                                with_reducible rfl
                               rotate_left
                               ·simp only [Act.put, List.setIfInBounds_toArray, List.set_cons_zero, List.set_cons_succ, i64_w, i32_w]
                                rfl
                               refine take_ (i := 25) (N := some 95) (v := ?_) (a' := ?_) #[true, true, true, true, true, true, true, true, true, true, true, true, true, true, true, true, true, true, true, true, true, true, true, true, true, true, true, true, true, true, false, true, true, true, true, false, false, true, true, true, true, false, true, true, true, true, false, false, false, false, false, false] rfl rfl (take_ofW HT_.out HW_.out (by kernel_rfl)) (fun _ _ _ h => h) (Or.inl ⟨by rfl, ?_⟩) hHeld ?_ ?_
                               rotate_left
                               ·rintro w' ⟨s0, s1, s2, s3, s4, s5, s6, s7, s8, s9, s10, s11, s12, s13, s14, s15, s16⟩
                                go_simp
                                with_reducible rfl
                               rotate_left
                               ·simp only [Act.put, List.setIfInBounds_toArray, List.set_cons_zero, List.set_cons_succ, i64_w, i32_w]
                                rfl
                               refine take_ (i := 30) (N := some 100) (v := ?_) (a' := ?_) #[true, true, true, true, true, true, true, true, true, true, true, true, true, true, true, true, true, true, true, true, true, true, true, true, true, true, true, true, true, true, true, true, true, true, true, false, false, true, true, true, true, false, true, true, true, true, false, false, false, false, false, false] rfl rfl (take_ofW HT_.out HW_.out (by kernel_rfl)) (fun _ _ _ h => h) (Or.inl ⟨by rfl, ?_⟩) hHeld ?_ ?_
                               rotate_left
                               ·rintro w' ⟨s0, s1, s2, s3, s4, s5, s6, s7, s8, s9, s10, s11, s12, s13, s14, s15, s16⟩
                                go_simp
                                with_reducible rfl
                               rotate_left
                               ·simp only [Act.put, List.setIfInBounds_toArray, List.set_cons_zero, List.set_cons_succ, i64_w, i32_w]
                                rfl
                               refine take_ (i := 35) (N := some 105) (v := ?_) (a' := ?_) #[true, true, true, true, true, true, true, true, true, true, true, true, true, true, true, true, true, true, true, true, true, true, true, true, true, true, true, true, true, true, true, true, true, true, true, true, false, true, true, true, true, false, true, true, true, true, false, false, false, false, false, false] rfl rfl (take_ofW HT_.out HW_.out (by kernel_rfl)) (fun _ _ _ h => h) (Or.inl ⟨by rfl, ?_⟩) hHeld ?_ ?_
                               rotate_left
                               ·rintro w' ⟨s0, s1, s2, s3, s4, s5, s6, s7, s8, s9, s10, s11, s12, s13, s14, s15, s16⟩
                                go_simp
                                with_reducible rfl
                               rotate_left
                               ·simp only [Act.put, List.setIfInBounds_toArray, List.set_cons_zero, List.set_cons_succ, i64_w, i32_w]
                                rfl
                               refine pure_ (i := 36) (N := some 106) (v := ?_) (a' := ?_) #[true, true, true, true, true, true, true, true, true, true, true, true, true, true, true, true, true, true, true, true, true, true, true, true, true, true, true, true, true, true, true, true, true, true, true, true, true, true, true, true, true, false, true, true, true, true, false, false, false, false, false, false] rfl rfl (any_of HT_.out (by kernel_rfl)) (fun _ _ _ h => h) (Or.inl ⟨by rfl, ?_⟩) ?_ ?_
                               rotate_left
                               ·intro w'
                                go_simp
                                with_reducible rfl
                               rotate_left
                               ·simp only [Act.put, List.setIfInBounds_toArray, List.set_cons_zero, List.set_cons_succ, i64_w, i32_w]
                                rfl
                               refine take_ (i := 41) (N := some 111) (v := ?_) (a' := ?_) #[true, true, true, true, true, true, true, true, true, true, true, true, true, true, true, true, true, true, true, true, true, true, true, true, true, true, true, true, true, true, true, true, true, true, true, true, true, true, true, true, true, true, true, true, true, true, false, false, false, false, false, false] rfl rfl (take_ofW HT_.out HW_.out (by kernel_rfl)) (fun _ _ _ h => h) (Or.inl ⟨by rfl, ?_⟩) hHeld ?_ ?_
                               rotate_left
                               ·rintro w' ⟨s0, s1, s2, s3, s4, s5, s6, s7, s8, s9, s10, s11, s12, s13, s14, s15, s16⟩
                                go_simp
                                with_reducible rfl
                               rotate_left
                               ·simp only [Act.put, List.setIfInBounds_toArray, List.set_cons_zero, List.set_cons_succ, i64_w, i32_w]
                                rfl
                               refine take_ (i := 46) (N := some 116) (v := ?_) (a' := ?_) #[true, true, true, true, true, true, true, true, true, true, true, true, true, true, true, true, true, true, true, true, true, true, true, true, true, true, true, true, true, true, true, true, true, true, true, true, true, true, true, true, true, true, true, true, true, true, true, false, false, false, false, false] rfl rfl (take_ofW HT_.out HW_.out (by kernel_rfl)) (fun _ _ _ h => h) (Or.inl ⟨by rfl, ?_⟩) hHeld ?_ ?_
                               rotate_left
                               ·rintro w' ⟨s0, s1, s2, s3, s4, s5, s6, s7, s8, s9, s10, s11, s12, s13, s14, s15, s16⟩
                                go_simp
                                with_reducible rfl
                               rotate_left
                               ·simp only [Act.put, List.setIfInBounds_toArray, List.set_cons_zero, List.set_cons_succ, i64_w, i32_w]
                                rfl
                               refine pure_ (i := 47) (N := some 117) (v := ?_) (a' := ?_) #[true, true, true, true, true, true, true, true, true, true, true, true, true, true, true, true, true, true, true, true, true, true, true, true, true, true, true, true, true, true, true, true, true, true, true, true, true, true, true, true, true, true, true, true, true, true, true, true, false, false, false, false] rfl rfl (any_of HT_.out (by kernel_rfl)) (fun _ _ _ h => h) (Or.inl ⟨by rfl, ?_⟩) ?_ ?_
                               rotate_left
                               ·intro w'
                                go_simp
                                with_reducible rfl
                               rotate_left
                               ·simp only [Act.put, List.setIfInBounds_toArray, List.set_cons_zero, List.set_cons_succ, i64_w, i32_w]
                                rfl
                               refine one_ (i := 48) (N := some 118) #[true, true, true, true, true, true, true, true, true, true, true, true, true, true, true, true, true, true, true, true, true, true, true, true, true, true, true, true, true, true, true, true, true, true, true, true, true, true, true, true, true, true, true, true, true, true, true, true, true, false, false, false] rfl rfl (one_of HT_.out (by kernel_rfl)) (by decide) (fun K hK => ?_)
                               refine value_ (w1 := ?_) (v := ?_) (by rfl) rfl ?_ ?_
                               rotate_left 2
                               ·go_simp
                                constructor
                                ·rfl
                                ·rfl
                               refine hK.out _ _ ⟨(blk_cell (blk_alloc BK282.out _) 0).trans rfl, (blk_cell (blk_alloc BK282.out _) 1).trans rfl, (blk_cell (blk_alloc BK282.out _) 2).trans rfl, (blk_cell (blk_alloc BK282.out _) 3).trans rfl, (blk_cell (blk_alloc BK282.out _) 4).trans rfl, (blk_cell (blk_alloc BK282.out _) 5).trans rfl, (blk_cell (blk_alloc BK282.out _) 6).trans rfl, (blk_cell (blk_alloc BK282.out _) 7).trans rfl, (World.cell?_alloc_lt _ _ _ (World.block_lt_of_cell? _ _ (hHeld.2.2.2.2.2.2.2.2.1))).trans (hHeld.2.2.2.2.2.2.2.2.1), (World.cell?_alloc_lt _ _ _ (World.block_lt_of_cell? _ _ (hHeld.2.2.2.2.2.2.2.2.2.1))).trans (hHeld.2.2.2.2.2.2.2.2.2.1), (World.cell?_alloc_lt _ _ _ (World.block_lt_of_cell? _ _ (hHeld.2.2.2.2.2.2.2.2.2.2.1))).trans (hHeld.2.2.2.2.2.2.2.2.2.2.1), (World.cell?_alloc_lt _ _ _ (World.block_lt_of_cell? _ _ (hHeld.2.2.2.2.2.2.2.2.2.2.2.1))).trans (hHeld.2.2.2.2.2.2.2.2.2.2.2.1), (World.cell?_alloc_lt _ _ _ (World.block_lt_of_cell? _ _ (hHeld.2.2.2.2.2.2.2.2.2.2.2.2.1))).trans (hHeld.2.2.2.2.2.2.2.2.2.2.2.2.1), (World.cell?_alloc_lt _ _ _ (World.block_lt_of_cell? _ _ (hHeld.2.2.2.2.2.2.2.2.2.2.2.2.2.1))).trans (hHeld.2.2.2.2.2.2.2.2.2.2.2.2.2.1), (World.cell?_alloc_lt _ _ _ (World.block_lt_of_cell? _ _ (hHeld.2.2.2.2.2.2.2.2.2.2.2.2.2.2.1))).trans (hHeld.2.2.2.2.2.2.2.2.2.2.2.2.2.2.1), (World.cell?_alloc_lt _ _ _ (World.block_lt_of_cell? _ _ (hHeld.2.2.2.2.2.2.2.2.2.2.2.2.2.2.2.1))).trans (hHeld.2.2.2.2.2.2.2.2.2.2.2.2.2.2.2.1), (World.cell?_alloc_lt _ _ _ (World.block_lt_of_cell? _ _ (hHeld.2.2.2.2.2.2.2.2.2.2.2.2.2.2.2.2))).trans (hHeld.2.2.2.2.2.2.2.2.2.2.2.2.2.2.2.2)⟩ (fun hHeld => ?_)
                               clear hK K
                               refine norm_ (a' := ?_) ?_ ?_
                               rotate_left
                               ·show Act.put _ (some 118) _ = _
                                simp only [Act.put, List.setIfInBounds_toArray, List.set_cons_zero, List.set_cons_succ, i64_w, i32_w]
                                rfl
                               refine last_ (i := 49) (N := some 119) #[true, true, true, true, true, true, true, true, true, true, true, true, true, true, true, true, true, true, true, true, true, true, true, true, true, true, true, true, true, true, true, true, true, true, true, true, true, true, true, true, true, true, true, true, true, true, true, true, true, true, false, false] rfl rfl (one_of HT_.out (by kernel_rfl)) (by decide) (fun K hK => ?_)
                               refine Kd.R_append_step k62 (w0 := w) w.heap.size (by rfl) (.tmp 71) (.tmp 118) 35 62 (.agg #[(.int .i64 0), (.int .i64 0), (.int .i64 0), (.int .i64 0), (.int .i64 0), (.int .i64 0), (.int .i64 0), (.int .i64 0), (.int .i64 0)]) 72 rfl Try.underlying35 info62 rfl (by decide) (by omega) u283007 x283007_3 (⟨rd t289 x13_3, rd t289 (ji27), rd t289 (ji30), (⟨rd t289 (ji33), rd t289 (ji36), rd t289 (ji39), rd t289 (ji42)⟩ : S60), rd t289 (ji45), rd t289 (ji48)⟩ : S62) [.int .i64 (rd t289 x13_3), .int .i64 (rd t289 (ji27)), .int .i64 (rd t289 (ji30)), .int .i64 (rd t289 (ji33)), .int .i64 (rd t289 (ji36)), .int .i64 (rd t289 (ji39)), .int .i64 (rd t289 (ji42)), .int .i64 (rd t289 (ji45)), .int .i64 (rd t289 (ji48))] (fun _ => True) (fun _ => False) rfl rfl ?aP (fun _ hk => hk.elim) ?aF ?aO ?aB ?aS ?aL ?_
                               (case aP => exact k62_mkM _ _ _ (⟨rd t289 x13_3, rd t289 (ji27), rd t289 (ji30), (⟨rd t289 (ji33), rd t289 (ji36), rd t289 (ji39), rd t289 (ji42)⟩ : S60), rd t289 (ji45), rd t289 (ji48)⟩ : S62))
                               (case aB => exact (by repeat (first | (with_reducible first | exact HB.out | apply below_alloc | apply pw_below_drewN | apply below_drew1 | refine below_set ?_ GE281.out | refine below_set ?_ GE282.out) | exact HB.out)))
                               (case aF => exact (fun _ _ => trivial))
                               (case aO => exact (by (with_reducible repeat (first | apply Kd.R_alloc | apply Kd.R_drewN | apply Kd.R_drew)); exact HO_283007.out))
                               (case aS => exact (below_size (by repeat (first | (with_reducible first | exact HB.out | apply below_alloc | apply pw_below_drewN | apply below_drew1 | refine below_set ?_ GE281.out | refine below_set ?_ GE282.out) | exact HB.out))))
                               (case aL => have := LMc50.out; omega)
                               intro v304 w53 ho hb hg hat
                               rw [← Ny303.out] at ho
                               have n0_ := Aside0.mk (Kd.R_over' (by (with_reducible repeat (first | apply Kd.R_alloc | apply Kd.R_drewN | apply Kd.R_drew)); exact HO_12.out) (Kd.R_typed (by (with_reducible repeat (first | apply Kd.R_alloc | apply Kd.R_drewN | apply Kd.R_drew)); exact HO_283007.out)) (by decide) hg)
                               have n1_ := Aside0.mk (Kd.R_over' (by (with_reducible repeat (first | apply Kd.R_alloc | apply Kd.R_drewN | apply Kd.R_drew)); exact HO_283006.out) (Kd.R_typed (by (with_reducible repeat (first | apply Kd.R_alloc | apply Kd.R_drewN | apply Kd.R_drew)); exact HO_283007.out)) (by decide) hg)
                               have n2_ := Aside0.mk (blk_grown (g := gb281) (o := .cells #[.int .i64 0, .int .i64 0, .int .i64 0, .int .i64 0, .int .i64 0, .int .i64 0, .slice none 0 0, .slice none 0 0] 37 (0, 0)) (by (with_reducible repeat (first | refine blk_drewN ?_ _ | refine blk_drew ?_ | refine blk_alloc ?_ _)); exact BK281.out) hg (Kd.R_ne HO_283007.out BK281.out (by decide)))
                               have n3_ := Aside0.mk (blk_grown (g := gb282) (o := .cells #[.int .i64 x283000_1, .int .i64 x283001_1, .int .i64 x283002_1, .int .i64 x283003_1, .int .i64 x283004_1, .int .i64 x283005_1, u283006, u283007] 37 (0, 0)) (by (with_reducible repeat (first | refine blk_drewN ?_ _ | refine blk_drew ?_ | refine blk_alloc ?_ _)); exact BK282.out) hg (Kd.R_ne HO_283007.out BK282.out (by decide)))
                               have n4_ := Aside0.mk (hb)
                               have n5_ := Aside0.mk (ho)
                               clear HO_12
                               clear HO_283006
                               clear BK281
                               clear BK282
                               clear HB
                               clear HO_283007
                               have HO_12 := n0_
                               have HO_283006 := n1_
                               have BK281 := n2_
                               have BK282 := n3_
                               have HB := n4_
                               have HO305 := n5_
                               clear n0_ n1_ n2_ n3_ n4_ n5_
                               clear ho hb hg hat
                               obtain ⟨Ao54, co54, eo54⟩ := Kd.R_slice HO305.out
                               (first | subst eo54 | (injection eo54 with f1_ f2_ f3_; have f4_ := f1_.symm; have f5_ := f3_.symm; clear f1_ f2_ f3_; subst f4_; subst f5_))
                               refine hK.out _ _ ?_
                               clear hK K
                               refine norm_ (a' := ?_) ?_ ?_
                               rotate_left
                               ·show Act.put _ (some 119) _ = _
                                simp only [Act.put, List.setIfInBounds_toArray, List.set_cons_zero, List.set_cons_succ, i64_w, i32_w]
                                rfl
                               refine pure_ (i := 50) (N := some 120) (v := ?_) (a' := ?_) #[true, true, true, true, true, true, true, true, true, true, true, true, true, true, true, true, true, true, true, true, true, true, true, true, true, true, true, true, true, true, true, true, true, true, true, true, true, true, true, true, true, true, true, true, true, true, true, true, true, true, true, false] rfl rfl (any_of HT_.out (by kernel_rfl)) (fun _ _ _ h => h) (Or.inl ⟨by rfl, ?_⟩) ?_ ?_
                               rotate_left
                               ·intro w'
                                go_simp
                                with_reducible rfl
                               rotate_left
                               ·simp only [Act.put, List.setIfInBounds_toArray, List.set_cons_zero, List.set_cons_succ, i64_w, i32_w]
                                rfl
                               refine last_ (i := 51) (N := none) #[true, true, true, true, true, true, true, true, true, true, true, true, true, true, true, true, true, true, true, true, true, true, true, true, true, true, true, true, true, true, true, true, true, true, true, true, true, true, true, true, true, true, true, true, true, true, true, true, true, true, true, true] rfl rfl (one_of HT_.out (by kernel_rfl)) (by decide) (fun K hK => ?_)
                               have hs55 : w53.cell? ⟨gb282, 7, none⟩ = some (u283007) := (blk_cell BK282.out 7).trans rfl
                               have hfs55 := blk_frozen BK282.out 7
                               have hns55_0 := NB281_282.out
                               have hms55_0 := NB282_281.out
                               refine skip_ (w1 := ?_) (by rfl) rfl ?_ ?_
                               rotate_left
                               ·go_simp
                                rfl
                               refine hK.out _ _ ?_
                               clear hK K
                               refine done_ (done_of HT_.out (by kernel_rfl)) ?_
                               try go_wp2
                               go_roundg k3
                               case measure => have := HK1.out; have := HJ8.out; have := HK3.out; omega
                               case rel => exact ⟨(wrap64 (x13_3 + 9)), (y303), (.slice Ao54 y303.length co54), (by first | rfl | (simp; done) | (simp [*]; done)), H', ⟨by have := HK1.out; have := HJ8.out; have := HK3.out; omega⟩, ⟨by (with_reducible repeat (first | apply Kd.R_alloc | apply Kd.R_drewN | apply Kd.R_drew)); exact Kd.R_mono (Kd.R_far (p := ⟨gb282, 7, none⟩) (Kd.R_types HO_12.out BK282.out (by decide)) (fun _ hk => hk.2) (.slice Ao54 y303.length co54)) (fun _ hk => hk.1)⟩, ⟨by (with_reducible repeat (first | apply Kd.R_alloc | apply Kd.R_drewN | apply Kd.R_drew)); exact Kd.R_mono (Kd.R_far (p := ⟨gb282, 7, none⟩) (Kd.R_types HO_283006.out BK282.out (by decide)) (fun _ hk => hk.2) (.slice Ao54 y303.length co54)) (fun _ hk => hk.1)⟩, ⟨by (with_reducible repeat (first | apply Kd.R_alloc | apply Kd.R_drewN | apply Kd.R_drew)); exact Kd.R_mono (Kd.R_far (p := ⟨gb282, 7, none⟩) (Kd.R_types HO305.out BK282.out (by decide)) (fun _ hk => hk.2) (.slice Ao54 y303.length co54)) (fun _ hk => trivial)⟩, ⟨by (with_reducible repeat (first | refine blk_drewN ?_ _ | refine blk_drew ?_ | refine blk_alloc ?_ _)); refine blk_far ?_ NB281_282.out _; (with_reducible repeat (first | refine blk_drewN ?_ _ | refine blk_drew ?_ | refine blk_alloc ?_ _)); exact BK281.out⟩, ⟨by (with_reducible repeat (first | refine blk_drewN ?_ _ | refine blk_drew ?_ | refine blk_alloc ?_ _)); refine blk_put (cs := #[.int .i64 x283000_1, .int .i64 x283001_1, .int .i64 x283002_1, .int .i64 x283003_1, .int .i64 x283004_1, .int .i64 x283005_1, u283006, u283007]) ?_ 7 _ rfl; (with_reducible repeat (first | refine blk_drewN ?_ _ | refine blk_drew ?_ | refine blk_alloc ?_ _)); exact BK282.out⟩, ⟨by repeat (first | (with_reducible first | exact HB.out | apply below_alloc | apply pw_below_drewN | apply below_drew1 | refine below_set ?_ GE281.out | refine below_set ?_ GE282.out) | exact HB.out)⟩⟩
                              ·rw [if_neg c50] at H
                               exact absurd H (by simp)
                             ·rw [if_neg c49] at H
                              exact absurd H (by simp)
                            ·rw [if_neg c47] at H
                             exact absurd H (by simp)
                           ·rw [if_neg c46] at H
                            exact absurd H (by simp)
                          ·rw [if_neg c44] at H
                           exact absurd H (by simp)
                         ·rw [if_neg c43] at H
                          exact absurd H (by simp)
                        ·rw [if_neg c41] at H
                         exact absurd H (by simp)
                       ·rw [if_neg c40] at H
                        exact absurd H (by simp)
                      ·rw [if_neg c38] at H
                       exact absurd H (by simp)
                     ·rw [if_neg c37] at H
                      exact absurd H (by simp)
                    ·rw [if_neg c35] at H
                     exact absurd H (by simp)
                   ·rw [if_neg c34] at H
                    exact absurd H (by simp)
                  ·rw [if_neg c32] at H
                   exact absurd H (by simp)
                 ·rw [if_neg c31] at H
                  exact absurd H (by simp)
                ·rw [if_neg c29] at H
                 exact absurd H (by simp)
               ·rw [if_neg c28] at H
                exact absurd H (by simp)
              ·rw [if_neg c26] at H
               exact absurd H (by simp)
             ·rw [if_neg c25] at H
              exact absurd H (by simp)
            ·rw [if_neg c24] at H
             have c24b0 : decide ((wrap64 (x13_3 + 8)) < (t289.length : Int)) = false := decide_eq_false c24
             clear c24
             have H' := Aside0.mk H
             clear H
             obtain ⟨Ao56, co56, eo56⟩ := Kd.R_slice HO_12.out
             subst eo56
             go_wp2
             go_roundg k3
             case measure => have := HK1.out; have := HJ8.out; have := HK3.out; omega
             case rel => exact ⟨(t290), (t291), (wrap64 (x10_1 + 1)), (x283000_1), (x283001_1), (x283002_1), (x283003_1), (x283004_1), (x283005_1), (x283006_1), (x283007_3), (u283006), (u283007), (by first | rfl | (simp; done) | (simp [*]; done)), (by first | rfl | (simp; done) | (simp [*]; done)), (by first | rfl | (simp; done) | (simp [*]; done)), H', ⟨by have := HK1.out; have := HJ8.out; have := HK3.out; omega⟩, ⟨by (with_reducible repeat (first | apply Kd.R_alloc | apply Kd.R_drewN | apply Kd.R_drew)); exact Kd.R_mono HO_283006.out (fun _ hk => trivial)⟩, ⟨by (with_reducible repeat (first | apply Kd.R_alloc | apply Kd.R_drewN | apply Kd.R_drew)); exact HO_283007.out⟩, ⟨by (with_reducible repeat (first | refine blk_drewN ?_ _ | refine blk_drew ?_ | refine blk_alloc ?_ _)); exact BK281.out⟩, ⟨by (with_reducible repeat (first | refine blk_drewN ?_ _ | refine blk_drew ?_ | refine blk_alloc ?_ _)); exact BK282.out⟩, ⟨by repeat (first | (with_reducible first | exact HB.out | apply below_alloc | apply pw_below_drewN | apply below_drew1 | refine below_set ?_ GE281.out | refine below_set ?_ GE282.out) | exact HB.out)⟩⟩
         ·rw [if_neg c21] at H
          have c21b0 : ((bt t283 x10_1) == 86) = false := beq_eq_false_iff_ne.mpr c21
          have c21b1 : ((bt t283 x10_1) != 86) = true := bne_iff_ne.mpr c21
          replace H := Option.bind_eq_some_iff.mp H
          obtain ⟨⟨t306, t307, t308⟩, A570, H⟩ := H
          replace H : ((temperaref21_put.f x283000_1 x283001_1 x283002_1 x283003_1 x283004_1 x283005_1 x283006_1 x283007_1 (bt t283 x10_1) t306).bind fun bt309 => (temperaref21_Read.l0 kj8 l1 t283 t307 t308 (wrap64 (x10_1 + 1)) bt309.1 bt309.2.1 bt309.2.2.1 bt309.2.2.2.1 bt309.2.2.2.2.1 bt309.2.2.2.2.2.1 bt309.2.2.2.2.2.2.1 bt309.2.2.2.2.2.2.2)) = some (r1, r2, r3, r4, r5, r6, r7, r8, r9) := H
          have A57 := Aside0.mk A570
          clear A570
          replace H := Option.bind_eq_some_iff.mp H
          obtain ⟨⟨t309, t310, t311, t312, t313, t314, t315, t318⟩, A590, H⟩ := H
          replace H : (temperaref21_Read.l0 kj8 l1 t283 t307 t308 (wrap64 (x10_1 + 1)) t309 t310 t311 t312 t313 t314 t315 t318) = some (r1, r2, r3, r4, r5, r6, r7, r8, r9) := H
          have A59 := Aside0.mk A590
          clear A590
          have H' := Aside0.mk H
          clear H
          have p14 : 0 ≤ (x10_1 : Int) := of_decide_eq_true (by first | (with_reducible assumption) | assumption)
          have q14 : x10_1 < (t283.size : Int) := of_decide_eq_true (by first | (with_reducible assumption) | assumption)
          have hx14 := bt_at t283 x10_1
          replace p14 := eq_true p14
          replace q14 := eq_true q14
          try go_wp2_with (first | ((with_reducible refine gate_callee (f := 39) rfl ?_); refine goesL_ (some 34) rfl rfl Try.func39 (by kernel_rfl) rfl #[.slice A1 l1.length c1, .int .i64 x8_1] rfl (by (try simp only [List.map_toArray, List.map_cons, List.map_nil]); first | done | rfl | (simp only [List.length_drop, List.length_take]; rfl)) ?_; (with_reducible refine (temperaref21_ReadNumber.calls kj8 _ _ l1 x8_1 t306 t307 t308 _ ?side1 ?side2 A57.out).mono ?_); (case side1 => repeat (first | exact (Kd.C_below HR1.out HB.out) | (with_reducible refine Kd.C_alloc ?_ _) | (with_reducible refine Kd.C_drewN ?_ _) | (with_reducible refine Kd.C_drew ?_))); (case side2 => exact HC1.out); rintro e w' ⟨rfl, ⟨nd, rfl⟩⟩; refine ⟨_, rfl, ?_⟩; (try (rw [drewN_self wc]; generalize hq_ : World.drewN wc _ = wc; have n0_ : Aside0 (Kd.R (Kd.int .i64) 3 wc w.heap.size (fun _ => True) u283006 x283006_1) := ⟨by rw [← hq_]; exact (by (with_reducible repeat (first | apply Kd.R_alloc | apply Kd.R_drewN | apply Kd.R_drew)); exact HO_283006.out)⟩; have n1_ : Aside0 (Kd.R k62 62 wc w.heap.size (fun _ => True) u283007 x283007_1) := ⟨by rw [← hq_]; exact (by (with_reducible repeat (first | apply Kd.R_alloc | apply Kd.R_drewN | apply Kd.R_drew)); exact HO_283007.out)⟩; have n2_ : Aside0 (wc.heap[gb281]? = some (.cells #[.int .i64 0, .int .i64 0, .int .i64 0, .int .i64 0, .int .i64 0, .int .i64 0, .slice none 0 0, .slice none 0 0] 37 (0, 0))) := ⟨by rw [← hq_]; exact (by (with_reducible repeat (first | refine blk_drewN ?_ _ | refine blk_drew ?_ | refine blk_alloc ?_ _)); exact BK281.out)⟩; have n3_ : Aside0 (wc.heap[gb282]? = some (.cells #[.int .i64 x283000_1, .int .i64 x283001_1, .int .i64 x283002_1, .int .i64 x283003_1, .int .i64 x283004_1, .int .i64 x283005_1, u283006, u283007] 37 (0, 0))) := ⟨by rw [← hq_]; exact (by (with_reducible repeat (first | refine blk_drewN ?_ _ | refine blk_drew ?_ | refine blk_alloc ?_ _)); exact BK282.out)⟩; have n4_ : Aside0 (Below w.heap.size w wc) := ⟨by rw [← hq_]; exact (by repeat (first | (with_reducible first | exact HB.out | apply below_alloc | apply pw_below_drewN | apply below_drew1 | refine below_set ?_ GE281.out | refine below_set ?_ GE282.out) | exact HB.out))⟩; clear HO_283006 HO_283007 BK281 BK282 HB hq_; have HO_283006 := n0_; have HO_283007 := n1_; have BK281 := n2_; have BK282 := n3_; have HB := n4_; clear n0_ n1_ n2_ n3_ n4_))))
          have n0_ := Aside0.mk (Kd.R_drew HO_283006.out)
          have n1_ := Aside0.mk (Kd.R_drew HO_283007.out)
          have n2_ := Aside0.mk (blk_drew BK281.out)
          have n3_ := Aside0.mk (blk_drew BK282.out)
          have n4_ := Aside0.mk (below_drew1 HB.out)
          clear HO_283006
          clear HO_283007
          clear BK281
          clear BK282
          clear HB
          have HO_283006 := n0_
          have HO_283007 := n1_
          have BK281 := n2_
          have BK282 := n3_
          have HB := n4_
          clear n0_ n1_ n2_ n3_ n4_
          have p58 : 0 ≤ (x10_1 : Int) := of_decide_eq_true (by first | (with_reducible assumption) | assumption)
          have q58 : x10_1 < (t283.size : Int) := of_decide_eq_true (by first | (with_reducible assumption) | assumption)
          have hx58 := bt_at t283 x10_1
          replace p58 := eq_true p58
          replace q58 := eq_true q58
          obtain ⟨Ao61, co61, eo61⟩ := Kd.R_slice HO_283006.out
          (first | subst eo61 | (injection eo61 with f1_ f2_ f3_; have f4_ := f1_.symm; have f5_ := f3_.symm; clear f1_ f2_ f3_; subst f4_; subst f5_))
          obtain ⟨Ao62, co62, eo62⟩ := Kd.R_slice HO_283007.out
          (first | subst eo62 | (injection eo62 with f1_ f2_ f3_; have f4_ := f1_.symm; have f5_ := f3_.symm; clear f1_ f2_ f3_; subst f4_; subst f5_))
          refine start_ (n := 7) (S := fun w' => w'.cell? ⟨gb282, 0, none⟩ = some (.int .i64 x283000_1) ∧ w'.cell? ⟨gb282, 1, none⟩ = some (.int .i64 x283001_1) ∧ w'.cell? ⟨gb282, 2, none⟩ = some (.int .i64 x283002_1) ∧ w'.cell? ⟨gb282, 3, none⟩ = some (.int .i64 x283003_1) ∧ w'.cell? ⟨gb282, 4, none⟩ = some (.int .i64 x283004_1) ∧ w'.cell? ⟨gb282, 5, none⟩ = some (.int .i64 x283005_1) ∧ w'.cell? ⟨gb282, 6, none⟩ = some (.slice Ao61 x283006_1.length co61) ∧ w'.cell? ⟨gb282, 7, none⟩ = some (.slice Ao62 x283007_1.length co62)) (ds := [6]) #[false, false, false, false, false, false, false] (by kernel_rfl) rfl rfl ⟨(blk_cell BK282.out 0).trans rfl, (blk_cell BK282.out 1).trans rfl, (blk_cell BK282.out 2).trans rfl, (blk_cell BK282.out 3).trans rfl, (blk_cell BK282.out 4).trans rfl, (blk_cell BK282.out 5).trans rfl, (blk_cell BK282.out 6).trans rfl, (blk_cell BK282.out 7).trans rfl⟩ (fun hHeld => ?_)
          generalize wc.drew = w60 at HO_283006 HO_283007 BK281 BK282 HB hHeld ⊢
          refine pure_ (i := 1) (N := some 39) (v := ?_) (a' := ?_) #[false, true, false, false, false, false, false] rfl rfl (by kernel_rfl) (fun _ _ _ h => h) (Or.inl ⟨by rfl, ?_⟩) ?_ ?_
          rotate_left
          ·intro w'
           go_simp
           with_reducible rfl
          rotate_left
          ·simp only [Act.put, List.setIfInBounds_toArray, List.set_cons_zero, List.set_cons_succ, i64_w, i32_w]
           rfl
          refine pure_ (i := 2) (N := some 40) (v := ?_) (a' := ?_) #[false, true, true, false, false, false, false] rfl rfl (by kernel_rfl) (fun _ _ _ h => h) (Or.inl ⟨by rfl, ?_⟩) ?_ ?_
          rotate_left
          ·intro w'
           go_simp
           with_reducible rfl
          rotate_left
          ·simp only [Act.put, List.setIfInBounds_toArray, List.set_cons_zero, List.set_cons_succ, i64_w, i32_w]
           rfl
          refine pure_ (i := 4) (N := some 42) (v := ?_) (a' := ?_) #[false, true, true, false, true, false, false] rfl rfl (by kernel_rfl) (fun _ _ _ h => h) (Or.inl ⟨by rfl, ?_⟩) ?_ ?_
          rotate_left
          ·intro w'
           go_simp
           with_reducible rfl
          rotate_left
          ·simp only [Act.put, List.setIfInBounds_toArray, List.set_cons_zero, List.set_cons_succ, i64_w, i32_w]
           rfl
          refine take_ (i := 0) (N := some 38) (v := ?_) (a' := ?_) #[true, true, true, false, true, false, false] rfl rfl (by kernel_rfl) (fun _ _ _ h => h) (Or.inl ⟨by rfl, ?_⟩) hHeld ?_ ?_
          rotate_left
          ·rintro w' ⟨s0, s1, s2, s3, s4, s5, s6, s7⟩
           go_simp
           with_reducible rfl
          rotate_left
          ·simp only [Act.put, List.setIfInBounds_toArray, List.set_cons_zero, List.set_cons_succ, i64_w, i32_w]
           rfl
          refine take_ (i := 3) (N := some 41) (v := ?_) (a' := ?_) #[true, true, true, true, true, false, false] rfl rfl (by kernel_rfl) (fun _ _ _ h => h) (Or.inl ⟨by rfl, ?_⟩) hHeld ?_ ?_
          rotate_left
          ·rintro w' ⟨s0, s1, s2, s3, s4, s5, s6, s7⟩
           go_simp
           with_reducible rfl
          rotate_left
          ·simp only [Act.put, List.setIfInBounds_toArray, List.set_cons_zero, List.set_cons_succ, i64_w, i32_w]
           rfl
          refine one_ (i := 5) (N := some 43) #[true, true, true, true, true, true, false] rfl rfl (by kernel_rfl) (by decide) (fun K hK => ?_)
          refine goes_ Try.func40 (by kernel_rfl) rfl #[.agg #[.int .i64 x283000_1, .int .i64 x283001_1, .int .i64 x283002_1, .int .i64 x283003_1, .int .i64 x283004_1, .int .i64 x283005_1, .slice Ao61 x283006_1.length co61, .slice Ao62 x283007_1.length co62], .int .u8 (bt t283 x10_1), .int .i64 t306] (by rfl) rfl rfl (by (try simp only [List.map_toArray, List.map_cons, List.map_nil]); first | done | rfl | (simp only [List.length_drop, List.length_take]; rfl)) ?_
          with_reducible refine (temperaref21_put.calls x283000_1 x283001_1 x283002_1 x283003_1 x283004_1 x283005_1 (fun k_ => some k_ = (.slice Ao61 x283006_1.length co61 : Value).ownBlock) (.slice Ao61 x283006_1.length co61) x283006_1 (fun k_ => some k_ = (.slice Ao62 x283007_1.length co62 : Value).ownBlock) (.slice Ao62 x283007_1.length co62) x283007_1 (bt t283 x10_1) t306 t309 t310 t311 t312 t313 t314 t315 t318 w _ ?side1 ?side2 ?side3 A59.out).mono ?_
          (case side1 => repeat (first | (with_reducible first | exact HB.out | apply below_alloc | apply pw_below_drewN | apply below_drew1 | refine below_set ?_ GE281.out | refine below_set ?_ GE282.out) | exact HB.out))
          (case side2 => exact Kd.R_tight rfl HO_283006.out)
          (case side3 => exact Kd.R_tight rfl HO_283007.out)
          rintro e w63 ⟨v316, v319, rfl, ho0, ho1, hb, hkp⟩
          refine ⟨_, rfl, ?_⟩
          have n0_ := Aside0.mk (blk_kept (by (with_reducible repeat (first | refine blk_drewN ?_ _ | refine blk_drew ?_ | refine blk_alloc ?_ _)); exact BK281.out) hkp (fun hs_ => Or.elim hs_ (fun e_ => (fun e_ => (Kd.R_ne HO_283006.out BK281.out (by decide)) e_) e_) (fun e_ => (fun e_ => (Kd.R_ne HO_283007.out BK281.out (by decide)) e_) e_)))
          have n1_ := Aside0.mk (blk_kept (by (with_reducible repeat (first | refine blk_drewN ?_ _ | refine blk_drew ?_ | refine blk_alloc ?_ _)); exact BK282.out) hkp (fun hs_ => Or.elim hs_ (fun e_ => (fun e_ => (Kd.R_ne HO_283006.out BK282.out (by decide)) e_) e_) (fun e_ => (fun e_ => (Kd.R_ne HO_283007.out BK282.out (by decide)) e_) e_)))
          have n2_ := Aside0.mk (Kd.R_mono (ok' := fun k_ => True) ho0 (fun k_ hk_ => trivial))
          have n3_ := Aside0.mk (Kd.R_mono (ok' := fun k_ => True) ho1 (fun k_ hk_ => trivial))
          have n4_ := Aside0.mk (hb)
          clear BK281
          clear BK282
          clear HB
          clear HO_283006
          clear HO_283007
          have BK281 := n0_
          have BK282 := n1_
          have HO317 := n2_
          have HO320 := n3_
          have HB := n4_
          clear n0_ n1_ n2_ n3_ n4_
          (try clear hb)
          (try clear hkp)
          (try clear ho0)
          (try clear ho1)
          obtain ⟨Ao70, co70, eo70⟩ := Kd.R_slice HO317.out
          (first | subst eo70 | (injection eo70 with f1_ f2_ f3_; have f4_ := f1_.symm; have f5_ := f3_.symm; clear f1_ f2_ f3_; subst f4_; subst f5_))
          obtain ⟨Ao72, co72, eo72⟩ := Kd.R_slice HO320.out
          (first | subst eo72 | (injection eo72 with f1_ f2_ f3_; have f4_ := f1_.symm; have f5_ := f3_.symm; clear f1_ f2_ f3_; subst f4_; subst f5_))
          refine hK.out _ _ ⟨(blk_cell BK282.out 0).trans rfl, (blk_cell BK282.out 1).trans rfl, (blk_cell BK282.out 2).trans rfl, (blk_cell BK282.out 3).trans rfl, (blk_cell BK282.out 4).trans rfl, (blk_cell BK282.out 5).trans rfl, (blk_cell BK282.out 6).trans rfl, (blk_cell BK282.out 7).trans rfl⟩ (fun hHeld => ?_)
          clear hK K
          refine norm_ (a' := ?_) ?_ ?_
          rotate_left
          ·show Act.put _ (some 43) _ = _
           simp only [Act.put, List.setIfInBounds_toArray, List.set_cons_zero, List.set_cons_succ, i64_w, i32_w]
           rfl
          refine last_ (i := 6) (N := none) #[true, true, true, true, true, true, true] rfl rfl (by kernel_rfl) (by decide) (fun K hK => ?_)
          have hs64 : w63.cell? ⟨gb282, 0, none⟩ = some (.int .i64 x283000_1) := (blk_cell BK282.out 0).trans rfl
          have hfs64 := blk_frozen BK282.out 0
          have hns64_0 := NB281_282.out
          have hms64_0 := NB282_281.out
          have hs65 : w63.cell? ⟨gb282, 1, none⟩ = some (.int .i64 x283001_1) := (blk_cell BK282.out 1).trans rfl
          have hfs65 := blk_frozen BK282.out 1
          have hns65_0 := NB281_282.out
          have hms65_0 := NB282_281.out
          have hs66 : w63.cell? ⟨gb282, 2, none⟩ = some (.int .i64 x283002_1) := (blk_cell BK282.out 2).trans rfl
          have hfs66 := blk_frozen BK282.out 2
          have hns66_0 := NB281_282.out
          have hms66_0 := NB282_281.out
          have hs67 : w63.cell? ⟨gb282, 3, none⟩ = some (.int .i64 x283003_1) := (blk_cell BK282.out 3).trans rfl
          have hfs67 := blk_frozen BK282.out 3
          have hns67_0 := NB281_282.out
          have hms67_0 := NB282_281.out
          have hs68 : w63.cell? ⟨gb282, 4, none⟩ = some (.int .i64 x283004_1) := (blk_cell BK282.out 4).trans rfl
          have hfs68 := blk_frozen BK282.out 4
          have hns68_0 := NB281_282.out
          have hms68_0 := NB282_281.out
          have hs69 : w63.cell? ⟨gb282, 5, none⟩ = some (.int .i64 x283005_1) := (blk_cell BK282.out 5).trans rfl
          have hfs69 := blk_frozen BK282.out 5
          have hns69_0 := NB281_282.out
          have hms69_0 := NB282_281.out
          have hs71 : w63.cell? ⟨gb282, 6, none⟩ = some (.slice Ao61 x283006_1.length co61) := (blk_cell BK282.out 6).trans rfl
          have hfs71 := blk_frozen BK282.out 6
          have hns71_0 := NB281_282.out
          have hms71_0 := NB282_281.out
          have hs73 : w63.cell? ⟨gb282, 7, none⟩ = some (.slice Ao62 x283007_1.length co62) := (blk_cell BK282.out 7).trans rfl
          have hfs73 := blk_frozen BK282.out 7
          have hns73_0 := NB281_282.out
          have hms73_0 := NB282_281.out
          refine skip_ (w1 := ?_) (by rfl) rfl ?_ ?_
          rotate_left
          ·go_simp
           rfl
          refine hK.out _ _ ?_
          clear hK K
          refine done_ (by kernel_rfl) ?_
          try go_wp2
          go_roundg kj8
          case measure => have := HK1.out; have := HJ8.out; omega
          case rel => exact ⟨(t307), (t308), (wrap64 (x10_1 + 1)), (t309), (t310), (t311), (t312), (t313), (t314), (t315), (t318), (.slice Ao70 t315.length co70), (.slice Ao72 t318.length co72), (by first | rfl | (simp; done) | (simp [*]; done)), (by first | rfl | (simp; done) | (simp [*]; done)), (by first | rfl | (simp; done) | (simp [*]; done)), H', ⟨by have := HK1.out; have := HJ8.out; omega⟩, ⟨by (with_reducible repeat (first | apply Kd.R_alloc | apply Kd.R_drewN | apply Kd.R_drew)); exact Kd.R_mono (Kd.R_far (p := ⟨gb282, 7, none⟩) (Kd.R_far (p := ⟨gb282, 6, none⟩) (Kd.R_far (p := ⟨gb282, 5, none⟩) (Kd.R_far (p := ⟨gb282, 4, none⟩) (Kd.R_far (p := ⟨gb282, 3, none⟩) (Kd.R_far (p := ⟨gb282, 2, none⟩) (Kd.R_far (p := ⟨gb282, 1, none⟩) (Kd.R_far (p := ⟨gb282, 0, none⟩) (Kd.R_types HO317.out BK282.out (by decide)) (fun _ hk => hk.2) (.int .i64 t309)) (fun _ hk => hk.2) (.int .i64 t310)) (fun _ hk => hk.2) (.int .i64 t311)) (fun _ hk => hk.2) (.int .i64 t312)) (fun _ hk => hk.2) (.int .i64 t313)) (fun _ hk => hk.2) (.int .i64 t314)) (fun _ hk => hk.2) (.slice Ao70 t315.length co70)) (fun _ hk => hk.2) (.slice Ao72 t318.length co72)) (fun _ hk => trivial)⟩, ⟨by (with_reducible repeat (first | apply Kd.R_alloc | apply Kd.R_drewN | apply Kd.R_drew)); exact Kd.R_mono (Kd.R_far (p := ⟨gb282, 7, none⟩) (Kd.R_far (p := ⟨gb282, 6, none⟩) (Kd.R_far (p := ⟨gb282, 5, none⟩) (Kd.R_far (p := ⟨gb282, 4, none⟩) (Kd.R_far (p := ⟨gb282, 3, none⟩) (Kd.R_far (p := ⟨gb282, 2, none⟩) (Kd.R_far (p := ⟨gb282, 1, none⟩) (Kd.R_far (p := ⟨gb282, 0, none⟩) (Kd.R_types HO320.out BK282.out (by decide)) (fun _ hk => hk.2) (.int .i64 t309)) (fun _ hk => hk.2) (.int .i64 t310)) (fun _ hk => hk.2) (.int .i64 t311)) (fun _ hk => hk.2) (.int .i64 t312)) (fun _ hk => hk.2) (.int .i64 t313)) (fun _ hk => hk.2) (.int .i64 t314)) (fun _ hk => hk.2) (.slice Ao70 t315.length co70)) (fun _ hk => hk.2) (.slice Ao72 t318.length co72)) (fun _ hk => trivial)⟩, ⟨by (with_reducible repeat (first | refine blk_drewN ?_ _ | refine blk_drew ?_ | refine blk_alloc ?_ _)); refine blk_far ?_ NB281_282.out _; (with_reducible repeat (first | refine blk_drewN ?_ _ | refine blk_drew ?_ | refine blk_alloc ?_ _)); refine blk_far ?_ NB281_282.out _; (with_reducible repeat (first | refine blk_drewN ?_ _ | refine blk_drew ?_ | refine blk_alloc ?_ _)); refine blk_far ?_ NB281_282.out _; (with_reducible repeat (first | refine blk_drewN ?_ _ | refine blk_drew ?_ | refine blk_alloc ?_ _)); refine blk_far ?_ NB281_282.out _; (with_reducible repeat (first | refine blk_drewN ?_ _ | refine blk_drew ?_ | refine blk_alloc ?_ _)); refine blk_far ?_ NB281_282.out _; (with_reducible repeat (first | refine blk_drewN ?_ _ | refine blk_drew ?_ | refine blk_alloc ?_ _)); refine blk_far ?_ NB281_282.out _; (with_reducible repeat (first | refine blk_drewN ?_ _ | refine blk_drew ?_ | refine blk_alloc ?_ _)); refine blk_far ?_ NB281_282.out _; (with_reducible repeat (first | refine blk_drewN ?_ _ | refine blk_drew ?_ | refine blk_alloc ?_ _)); refine blk_far ?_ NB281_282.out _; (with_reducible repeat (first | refine blk_drewN ?_ _ | refine blk_drew ?_ | refine blk_alloc ?_ _)); exact BK281.out⟩, ⟨by (with_reducible repeat (first | refine blk_drewN ?_ _ | refine blk_drew ?_ | refine blk_alloc ?_ _)); refine blk_put (cs := #[.int .i64 t309, .int .i64 t310, .int .i64 t311, .int .i64 t312, .int .i64 t313, .int .i64 t314, .slice Ao70 t315.length co70, .slice Ao62 x283007_1.length co62]) ?_ 7 _ rfl; (with_reducible repeat (first | refine blk_drewN ?_ _ | refine blk_drew ?_ | refine blk_alloc ?_ _)); refine blk_put (cs := #[.int .i64 t309, .int .i64 t310, .int .i64 t311, .int .i64 t312, .int .i64 t313, .int .i64 t314, .slice Ao61 x283006_1.length co61, .slice Ao62 x283007_1.length co62]) ?_ 6 _ rfl; (with_reducible repeat (first | refine blk_drewN ?_ _ | refine blk_drew ?_ | refine blk_alloc ?_ _)); refine blk_put (cs := #[.int .i64 t309, .int .i64 t310, .int .i64 t311, .int .i64 t312, .int .i64 t313, .int .i64 x283005_1, .slice Ao61 x283006_1.length co61, .slice Ao62 x283007_1.length co62]) ?_ 5 _ rfl; (with_reducible repeat (first | refine blk_drewN ?_ _ | refine blk_drew ?_ | refine blk_alloc ?_ _)); refine blk_put (cs := #[.int .i64 t309, .int .i64 t310, .int .i64 t311, .int .i64 t312, .int .i64 x283004_1, .int .i64 x283005_1, .slice Ao61 x283006_1.length co61, .slice Ao62 x283007_1.length co62]) ?_ 4 _ rfl; (with_reducible repeat (first | refine blk_drewN ?_ _ | refine blk_drew ?_ | refine blk_alloc ?_ _)); refine blk_put (cs := #[.int .i64 t309, .int .i64 t310, .int .i64 t311, .int .i64 x283003_1, .int .i64 x283004_1, .int .i64 x283005_1, .slice Ao61 x283006_1.length co61, .slice Ao62 x283007_1.length co62]) ?_ 3 _ rfl; (with_reducible repeat (first | refine blk_drewN ?_ _ | refine blk_drew ?_ | refine blk_alloc ?_ _)); refine blk_put (cs := #[.int .i64 t309, .int .i64 t310, .int .i64 x283002_1, .int .i64 x283003_1, .int .i64 x283004_1, .int .i64 x283005_1, .slice Ao61 x283006_1.length co61, .slice Ao62 x283007_1.length co62]) ?_ 2 _ rfl; (with_reducible repeat (first | refine blk_drewN ?_ _ | refine blk_drew ?_ | refine blk_alloc ?_ _)); refine blk_put (cs := #[.int .i64 t309, .int .i64 x283001_1, .int .i64 x283002_1, .int .i64 x283003_1, .int .i64 x283004_1, .int .i64 x283005_1, .slice Ao61 x283006_1.length co61, .slice Ao62 x283007_1.length co62]) ?_ 1 _ rfl; (with_reducible repeat (first | refine blk_drewN ?_ _ | refine blk_drew ?_ | refine blk_alloc ?_ _)); refine blk_put (cs := #[.int .i64 x283000_1, .int .i64 x283001_1, .int .i64 x283002_1, .int .i64 x283003_1, .int .i64 x283004_1, .int .i64 x283005_1, .slice Ao61 x283006_1.length co61, .slice Ao62 x283007_1.length co62]) ?_ 0 _ rfl; (with_reducible repeat (first | refine blk_drewN ?_ _ | refine blk_drew ?_ | refine blk_alloc ?_ _)); exact BK282.out⟩, ⟨by repeat (first | (with_reducible first | exact HB.out | apply below_alloc | apply pw_below_drewN | apply below_drew1 | refine below_set ?_ GE281.out | refine below_set ?_ GE282.out) | exact HB.out)⟩⟩
       ·rw [if_neg c13] at H
        exact absurd H (by simp)
      ·rw [if_neg c12] at H
       exact absurd H (by simp)
     ·replace c11 := Bool.eq_false_iff.mpr c11
      subst c11
      have H1 : (if x9_1 = 4 then (some (0, 0, 0, 0, 0, 0, ([] : List Int), ([] : List (S62)), 4)) else (if x9_1 = 0 then (if x8_1 = (l1.length : Int) then (some (x283000_1, x283001_1, x283002_1, x283003_1, x283004_1, x283005_1, x283006_1, x283007_1, 0)) else (some (0, 0, 0, 0, 0, 0, ([] : List Int), ([] : List (S62)), 6))) else (some (0, 0, 0, 0, 0, 0, ([] : List Int), ([] : List (S62)), 6)))) = some (r1, r2, r3, r4, r5, r6, r7, r8, r9) := by rw [if_neg (show ¬ (false = true) by decide)] at H; exact H
      clear H
      have H := H1
      clear H1
      by_cases c74 : x9_1 = 4
      ·rw [if_pos c74] at H
       have c74b0 : (x9_1 == 4) = true := beq_iff_eq.mpr c74
       have c74b1 : (x9_1 != 4) = false := bne_eq_false_iff_eq.mpr c74
       clear c74
       simp only [Option.some.injEq, Prod.mk.injEq] at H
       obtain ⟨rfl, rfl, rfl, rfl, rfl, rfl, rfl, rfl, rfl⟩ := H
       have hnb75 := NB281_282.out
       have hnc75 := NB282_281.out
       have hcz76_0 : wc.cell? ⟨gb281, 0, none⟩ = some (.int .i64 0) := (blk_cell BK281.out 0).trans rfl
       have hcz76_1 : wc.cell? ⟨gb281, 1, none⟩ = some (.int .i64 0) := (blk_cell BK281.out 1).trans rfl
       have hcz76_2 : wc.cell? ⟨gb281, 2, none⟩ = some (.int .i64 0) := (blk_cell BK281.out 2).trans rfl
       have hcz76_3 : wc.cell? ⟨gb281, 3, none⟩ = some (.int .i64 0) := (blk_cell BK281.out 3).trans rfl
       have hcz76_4 : wc.cell? ⟨gb281, 4, none⟩ = some (.int .i64 0) := (blk_cell BK281.out 4).trans rfl
       have hcz76_5 : wc.cell? ⟨gb281, 5, none⟩ = some (.int .i64 0) := (blk_cell BK281.out 5).trans rfl
       have hcz76_6 : wc.cell? ⟨gb281, 6, none⟩ = some (.slice none 0 0) := (blk_cell BK281.out 6).trans rfl
       have hcz76_7 : wc.cell? ⟨gb281, 7, none⟩ = some (.slice none 0 0) := (blk_cell BK281.out 7).trans rfl
       have hfz76_0 := blk_frozen BK281.out 0
       have hfz76_1 := blk_frozen BK281.out 1
       have hfz76_2 := blk_frozen BK281.out 2
       have hfz76_3 := blk_frozen BK281.out 3
       have hfz76_4 := blk_frozen BK281.out 4
       have hfz76_5 := blk_frozen BK281.out 5
       have hfz76_6 := blk_frozen BK281.out 6
       have hfz76_7 := blk_frozen BK281.out 7
       go_wp2
       refine bodyPost_ret (results_ct rfl _ _ gb281 37 #[.int .i64 0, .int .i64 0, .int .i64 0, .int .i64 0, .int .i64 0, .int .i64 0, .slice none 0 0, .slice none 0 0] (0, 0) _ rfl (by (with_reducible repeat (first | refine blk_drewN ?_ _ | refine blk_drew ?_ | refine blk_alloc ?_ _)); refine blk_put (cs := #[.int .i64 0, .int .i64 0, .int .i64 0, .int .i64 0, .int .i64 0, .int .i64 0, .slice none 0 0, .slice none 0 0]) ?_ 7 _ rfl; (with_reducible repeat (first | refine blk_drewN ?_ _ | refine blk_drew ?_ | refine blk_alloc ?_ _)); refine blk_put (cs := #[.int .i64 0, .int .i64 0, .int .i64 0, .int .i64 0, .int .i64 0, .int .i64 0, .slice none 0 0, .slice none 0 0]) ?_ 6 _ rfl; (with_reducible repeat (first | refine blk_drewN ?_ _ | refine blk_drew ?_ | refine blk_alloc ?_ _)); refine blk_put (cs := #[.int .i64 0, .int .i64 0, .int .i64 0, .int .i64 0, .int .i64 0, .int .i64 0, .slice none 0 0, .slice none 0 0]) ?_ 5 _ rfl; (with_reducible repeat (first | refine blk_drewN ?_ _ | refine blk_drew ?_ | refine blk_alloc ?_ _)); refine blk_put (cs := #[.int .i64 0, .int .i64 0, .int .i64 0, .int .i64 0, .int .i64 0, .int .i64 0, .slice none 0 0, .slice none 0 0]) ?_ 4 _ rfl; (with_reducible repeat (first | refine blk_drewN ?_ _ | refine blk_drew ?_ | refine blk_alloc ?_ _)); refine blk_put (cs := #[.int .i64 0, .int .i64 0, .int .i64 0, .int .i64 0, .int .i64 0, .int .i64 0, .slice none 0 0, .slice none 0 0]) ?_ 3 _ rfl; (with_reducible repeat (first | refine blk_drewN ?_ _ | refine blk_drew ?_ | refine blk_alloc ?_ _)); refine blk_put (cs := #[.int .i64 0, .int .i64 0, .int .i64 0, .int .i64 0, .int .i64 0, .int .i64 0, .slice none 0 0, .slice none 0 0]) ?_ 2 _ rfl; (with_reducible repeat (first | refine blk_drewN ?_ _ | refine blk_drew ?_ | refine blk_alloc ?_ _)); refine blk_put (cs := #[.int .i64 0, .int .i64 0, .int .i64 0, .int .i64 0, .int .i64 0, .int .i64 0, .slice none 0 0, .slice none 0 0]) ?_ 1 _ rfl; (with_reducible repeat (first | refine blk_drewN ?_ _ | refine blk_drew ?_ | refine blk_alloc ?_ _)); refine blk_put (cs := #[.int .i64 0, .int .i64 0, .int .i64 0, .int .i64 0, .int .i64 0, .int .i64 0, .slice none 0 0, .slice none 0 0]) ?_ 0 _ rfl; (with_reducible repeat (first | refine blk_drewN ?_ _ | refine blk_drew ?_ | refine blk_alloc ?_ _)); exact BK281.out) Try.underlying37 rfl (by kernel_rfl)) rfl ?_
       exact ⟨_, _, by first | rfl | (simp [errW_none, errW_some] <;> rfl) | (simp [*, errW_none, errW_some] <;> rfl), by first | exact Kd.R_nil _ _ _ _ _ | exact Kd.N_nil _ _ _ _ _ | exact Kd.V_nil _ _ _ _ _ | exact Kd.Q_nil _ _ _ _ _ | exact Kd.S_nil _ _ _ _ _, by first | exact Kd.R_nil _ _ _ _ _ | exact Kd.N_nil _ _ _ _ _ | exact Kd.V_nil _ _ _ _ _ | exact Kd.Q_nil _ _ _ _ _ | exact Kd.S_nil _ _ _ _ _, by repeat (first | (with_reducible first | exact HB.out | apply below_alloc | apply pw_below_drewN | apply below_drew1 | refine below_set ?_ GE281.out | refine below_set ?_ GE282.out) | exact HB.out)⟩
      ·rw [if_neg c74] at H
       have c74b0 : (x9_1 == 4) = false := beq_eq_false_iff_ne.mpr c74
       have c74b1 : (x9_1 != 4) = true := bne_iff_ne.mpr c74
       by_cases c77 : x9_1 = 0
       ·rw [if_pos c77] at H
        have c77b0 : (x9_1 == 0) = true := beq_iff_eq.mpr c77
        have c77b1 : (x9_1 != 0) = false := bne_eq_false_iff_eq.mpr c77
        clear c77
        by_cases c78 : x8_1 = (l1.length : Int)
        ·rw [if_pos c78] at H
         have c78b0 : (x8_1 == (l1.length : Int)) = true := beq_iff_eq.mpr c78
         have c78b1 : (x8_1 != (l1.length : Int)) = false := bne_eq_false_iff_eq.mpr c78
         clear c78
         simp only [Option.some.injEq, Prod.mk.injEq] at H
         obtain ⟨rfl, rfl, rfl, rfl, rfl, rfl, rfl, rfl, rfl⟩ := H
         have hnb79 := NB282_281.out
         have hnc79 := NB281_282.out
         have hcz80_0 : wc.cell? ⟨gb282, 0, none⟩ = some (.int .i64 x283000_1) := (blk_cell BK282.out 0).trans rfl
         have hcz80_1 : wc.cell? ⟨gb282, 1, none⟩ = some (.int .i64 x283001_1) := (blk_cell BK282.out 1).trans rfl
         have hcz80_2 : wc.cell? ⟨gb282, 2, none⟩ = some (.int .i64 x283002_1) := (blk_cell BK282.out 2).trans rfl
         have hcz80_3 : wc.cell? ⟨gb282, 3, none⟩ = some (.int .i64 x283003_1) := (blk_cell BK282.out 3).trans rfl
         have hcz80_4 : wc.cell? ⟨gb282, 4, none⟩ = some (.int .i64 x283004_1) := (blk_cell BK282.out 4).trans rfl
         have hcz80_5 : wc.cell? ⟨gb282, 5, none⟩ = some (.int .i64 x283005_1) := (blk_cell BK282.out 5).trans rfl
         have hcz80_6 : wc.cell? ⟨gb282, 6, none⟩ = some (u283006) := (blk_cell BK282.out 6).trans rfl
         have hcz80_7 : wc.cell? ⟨gb282, 7, none⟩ = some (u283007) := (blk_cell BK282.out 7).trans rfl
         have hfz80_0 := blk_frozen BK282.out 0
         have hfz80_1 := blk_frozen BK282.out 1
         have hfz80_2 := blk_frozen BK282.out 2
         have hfz80_3 := blk_frozen BK282.out 3
         have hfz80_4 := blk_frozen BK282.out 4
         have hfz80_5 := blk_frozen BK282.out 5
         have hfz80_6 := blk_frozen BK282.out 6
         have hfz80_7 := blk_frozen BK282.out 7
         have hcz81_0 : wc.cell? ⟨gb281, 0, none⟩ = some (.int .i64 0) := (blk_cell BK281.out 0).trans rfl
         have hcz81_1 : wc.cell? ⟨gb281, 1, none⟩ = some (.int .i64 0) := (blk_cell BK281.out 1).trans rfl
         have hcz81_2 : wc.cell? ⟨gb281, 2, none⟩ = some (.int .i64 0) := (blk_cell BK281.out 2).trans rfl
         have hcz81_3 : wc.cell? ⟨gb281, 3, none⟩ = some (.int .i64 0) := (blk_cell BK281.out 3).trans rfl
         have hcz81_4 : wc.cell? ⟨gb281, 4, none⟩ = some (.int .i64 0) := (blk_cell BK281.out 4).trans rfl
         have hcz81_5 : wc.cell? ⟨gb281, 5, none⟩ = some (.int .i64 0) := (blk_cell BK281.out 5).trans rfl
         have hcz81_6 : wc.cell? ⟨gb281, 6, none⟩ = some (.slice none 0 0) := (blk_cell BK281.out 6).trans rfl
         have hcz81_7 : wc.cell? ⟨gb281, 7, none⟩ = some (.slice none 0 0) := (blk_cell BK281.out 7).trans rfl
         have hfz81_0 := blk_frozen BK281.out 0
         have hfz81_1 := blk_frozen BK281.out 1
         have hfz81_2 := blk_frozen BK281.out 2
         have hfz81_3 := blk_frozen BK281.out 3
         have hfz81_4 := blk_frozen BK281.out 4
         have hfz81_5 := blk_frozen BK281.out 5
         have hfz81_6 := blk_frozen BK281.out 6
         have hfz81_7 := blk_frozen BK281.out 7
         obtain ⟨Ao82, co82, eo82⟩ := Kd.R_slice HO_283006.out
         subst eo82
         obtain ⟨Ao83, co83, eo83⟩ := Kd.R_slice HO_283007.out
         subst eo83
         go_wp2
         refine bodyPost_ret (results_ct rfl _ _ gb281 37 #[.int .i64 x283000_1, .int .i64 x283001_1, .int .i64 x283002_1, .int .i64 x283003_1, .int .i64 x283004_1, .int .i64 x283005_1, .slice Ao82 x283006_1.length co82, .slice Ao83 x283007_1.length co83] (0, 0) _ rfl (by (with_reducible repeat (first | refine blk_drewN ?_ _ | refine blk_drew ?_ | refine blk_alloc ?_ _)); refine blk_put (cs := #[.int .i64 x283000_1, .int .i64 x283001_1, .int .i64 x283002_1, .int .i64 x283003_1, .int .i64 x283004_1, .int .i64 x283005_1, .slice Ao82 x283006_1.length co82, .slice none 0 0]) ?_ 7 _ rfl; (with_reducible repeat (first | refine blk_drewN ?_ _ | refine blk_drew ?_ | refine blk_alloc ?_ _)); refine blk_put (cs := #[.int .i64 x283000_1, .int .i64 x283001_1, .int .i64 x283002_1, .int .i64 x283003_1, .int .i64 x283004_1, .int .i64 x283005_1, .slice none 0 0, .slice none 0 0]) ?_ 6 _ rfl; (with_reducible repeat (first | refine blk_drewN ?_ _ | refine blk_drew ?_ | refine blk_alloc ?_ _)); refine blk_put (cs := #[.int .i64 x283000_1, .int .i64 x283001_1, .int .i64 x283002_1, .int .i64 x283003_1, .int .i64 x283004_1, .int .i64 0, .slice none 0 0, .slice none 0 0]) ?_ 5 _ rfl; (with_reducible repeat (first | refine blk_drewN ?_ _ | refine blk_drew ?_ | refine blk_alloc ?_ _)); refine blk_put (cs := #[.int .i64 x283000_1, .int .i64 x283001_1, .int .i64 x283002_1, .int .i64 x283003_1, .int .i64 0, .int .i64 0, .slice none 0 0, .slice none 0 0]) ?_ 4 _ rfl; (with_reducible repeat (first | refine blk_drewN ?_ _ | refine blk_drew ?_ | refine blk_alloc ?_ _)); refine blk_put (cs := #[.int .i64 x283000_1, .int .i64 x283001_1, .int .i64 x283002_1, .int .i64 0, .int .i64 0, .int .i64 0, .slice none 0 0, .slice none 0 0]) ?_ 3 _ rfl; (with_reducible repeat (first | refine blk_drewN ?_ _ | refine blk_drew ?_ | refine blk_alloc ?_ _)); refine blk_put (cs := #[.int .i64 x283000_1, .int .i64 x283001_1, .int .i64 0, .int .i64 0, .int .i64 0, .int .i64 0, .slice none 0 0, .slice none 0 0]) ?_ 2 _ rfl; (with_reducible repeat (first | refine blk_drewN ?_ _ | refine blk_drew ?_ | refine blk_alloc ?_ _)); refine blk_put (cs := #[.int .i64 x283000_1, .int .i64 0, .int .i64 0, .int .i64 0, .int .i64 0, .int .i64 0, .slice none 0 0, .slice none 0 0]) ?_ 1 _ rfl; (with_reducible repeat (first | refine blk_drewN ?_ _ | refine blk_drew ?_ | refine blk_alloc ?_ _)); refine blk_put (cs := #[.int .i64 0, .int .i64 0, .int .i64 0, .int .i64 0, .int .i64 0, .int .i64 0, .slice none 0 0, .slice none 0 0]) ?_ 0 _ rfl; (with_reducible repeat (first | refine blk_drewN ?_ _ | refine blk_drew ?_ | refine blk_alloc ?_ _)); exact BK281.out) Try.underlying37 rfl (by kernel_rfl)) rfl ?_
         exact ⟨_, _, by first | rfl | (simp [errW_none, errW_some] <;> rfl) | (simp [*, errW_none, errW_some] <;> rfl), by (with_reducible repeat (first | apply Kd.R_alloc | apply Kd.R_drewN | apply Kd.R_drew)); exact Kd.R_mono (Kd.R_far (p := ⟨gb281, 7, none⟩) (Kd.R_far (p := ⟨gb281, 6, none⟩) (Kd.R_far (p := ⟨gb281, 5, none⟩) (Kd.R_far (p := ⟨gb281, 4, none⟩) (Kd.R_far (p := ⟨gb281, 3, none⟩) (Kd.R_far (p := ⟨gb281, 2, none⟩) (Kd.R_far (p := ⟨gb281, 1, none⟩) (Kd.R_far (p := ⟨gb281, 0, none⟩) (Kd.R_types HO_283006.out BK281.out (by decide)) (fun _ hk => hk.2) (.int .i64 x283000_1)) (fun _ hk => hk.2) (.int .i64 x283001_1)) (fun _ hk => hk.2) (.int .i64 x283002_1)) (fun _ hk => hk.2) (.int .i64 x283003_1)) (fun _ hk => hk.2) (.int .i64 x283004_1)) (fun _ hk => hk.2) (.int .i64 x283005_1)) (fun _ hk => hk.2) (.slice Ao82 x283006_1.length co82)) (fun _ hk => hk.2) (.slice Ao83 x283007_1.length co83)) (fun _ hk => trivial), by (with_reducible repeat (first | apply Kd.R_alloc | apply Kd.R_drewN | apply Kd.R_drew)); exact Kd.R_mono (Kd.R_far (p := ⟨gb281, 7, none⟩) (Kd.R_far (p := ⟨gb281, 6, none⟩) (Kd.R_far (p := ⟨gb281, 5, none⟩) (Kd.R_far (p := ⟨gb281, 4, none⟩) (Kd.R_far (p := ⟨gb281, 3, none⟩) (Kd.R_far (p := ⟨gb281, 2, none⟩) (Kd.R_far (p := ⟨gb281, 1, none⟩) (Kd.R_far (p := ⟨gb281, 0, none⟩) (Kd.R_types HO_283007.out BK281.out (by decide)) (fun _ hk => hk.2) (.int .i64 x283000_1)) (fun _ hk => hk.2) (.int .i64 x283001_1)) (fun _ hk => hk.2) (.int .i64 x283002_1)) (fun _ hk => hk.2) (.int .i64 x283003_1)) (fun _ hk => hk.2) (.int .i64 x283004_1)) (fun _ hk => hk.2) (.int .i64 x283005_1)) (fun _ hk => hk.2) (.slice Ao82 x283006_1.length co82)) (fun _ hk => hk.2) (.slice Ao83 x283007_1.length co83)) (fun _ hk => trivial), by repeat (first | (with_reducible first | exact HB.out | apply below_alloc | apply pw_below_drewN | apply below_drew1 | refine below_set ?_ GE281.out | refine below_set ?_ GE282.out) | exact HB.out)⟩
        ·rw [if_neg c78] at H
         have c78b0 : (x8_1 == (l1.length : Int)) = false := beq_eq_false_iff_ne.mpr c78
         have c78b1 : (x8_1 != (l1.length : Int)) = true := bne_iff_ne.mpr c78
         simp only [Option.some.injEq, Prod.mk.injEq] at H
         obtain ⟨rfl, rfl, rfl, rfl, rfl, rfl, rfl, rfl, rfl⟩ := H
         have hnb84 := NB281_282.out
         have hnc84 := NB282_281.out
         have hcz85_0 : wc.cell? ⟨gb281, 0, none⟩ = some (.int .i64 0) := (blk_cell BK281.out 0).trans rfl
         have hcz85_1 : wc.cell? ⟨gb281, 1, none⟩ = some (.int .i64 0) := (blk_cell BK281.out 1).trans rfl
         have hcz85_2 : wc.cell? ⟨gb281, 2, none⟩ = some (.int .i64 0) := (blk_cell BK281.out 2).trans rfl
         have hcz85_3 : wc.cell? ⟨gb281, 3, none⟩ = some (.int .i64 0) := (blk_cell BK281.out 3).trans rfl
         have hcz85_4 : wc.cell? ⟨gb281, 4, none⟩ = some (.int .i64 0) := (blk_cell BK281.out 4).trans rfl
         have hcz85_5 : wc.cell? ⟨gb281, 5, none⟩ = some (.int .i64 0) := (blk_cell BK281.out 5).trans rfl
         have hcz85_6 : wc.cell? ⟨gb281, 6, none⟩ = some (.slice none 0 0) := (blk_cell BK281.out 6).trans rfl
         have hcz85_7 : wc.cell? ⟨gb281, 7, none⟩ = some (.slice none 0 0) := (blk_cell BK281.out 7).trans rfl
         have hfz85_0 := blk_frozen BK281.out 0
         have hfz85_1 := blk_frozen BK281.out 1
         have hfz85_2 := blk_frozen BK281.out 2
         have hfz85_3 := blk_frozen BK281.out 3
         have hfz85_4 := blk_frozen BK281.out 4
         have hfz85_5 := blk_frozen BK281.out 5
         have hfz85_6 := blk_frozen BK281.out 6
         have hfz85_7 := blk_frozen BK281.out 7
         go_wp2
         refine bodyPost_ret (results_ct rfl _ _ gb281 37 #[.int .i64 0, .int .i64 0, .int .i64 0, .int .i64 0, .int .i64 0, .int .i64 0, .slice none 0 0, .slice none 0 0] (0, 0) _ rfl (by (with_reducible repeat (first | refine blk_drewN ?_ _ | refine blk_drew ?_ | refine blk_alloc ?_ _)); refine blk_put (cs := #[.int .i64 0, .int .i64 0, .int .i64 0, .int .i64 0, .int .i64 0, .int .i64 0, .slice none 0 0, .slice none 0 0]) ?_ 7 _ rfl; (with_reducible repeat (first | refine blk_drewN ?_ _ | refine blk_drew ?_ | refine blk_alloc ?_ _)); refine blk_put (cs := #[.int .i64 0, .int .i64 0, .int .i64 0, .int .i64 0, .int .i64 0, .int .i64 0, .slice none 0 0, .slice none 0 0]) ?_ 6 _ rfl; (with_reducible repeat (first | refine blk_drewN ?_ _ | refine blk_drew ?_ | refine blk_alloc ?_ _)); refine blk_put (cs := #[.int .i64 0, .int .i64 0, .int .i64 0, .int .i64 0, .int .i64 0, .int .i64 0, .slice none 0 0, .slice none 0 0]) ?_ 5 _ rfl; (with_reducible repeat (first | refine blk_drewN ?_ _ | refine blk_drew ?_ | refine blk_alloc ?_ _)); refine blk_put (cs := #[.int .i64 0, .int .i64 0, .int .i64 0, .int .i64 0, .int .i64 0, .int .i64 0, .slice none 0 0, .slice none 0 0]) ?_ 4 _ rfl; (with_reducible repeat (first | refine blk_drewN ?_ _ | refine blk_drew ?_ | refine blk_alloc ?_ _)); refine blk_put (cs := #[.int .i64 0, .int .i64 0, .int .i64 0, .int .i64 0, .int .i64 0, .int .i64 0, .slice none 0 0, .slice none 0 0]) ?_ 3 _ rfl; (with_reducible repeat (first | refine blk_drewN ?_ _ | refine blk_drew ?_ | refine blk_alloc ?_ _)); refine blk_put (cs := #[.int .i64 0, .int .i64 0, .int .i64 0, .int .i64 0, .int .i64 0, .int .i64 0, .slice none 0 0, .slice none 0 0]) ?_ 2 _ rfl; (with_reducible repeat (first | refine blk_drewN ?_ _ | refine blk_drew ?_ | refine blk_alloc ?_ _)); refine blk_put (cs := #[.int .i64 0, .int .i64 0, .int .i64 0, .int .i64 0, .int .i64 0, .int .i64 0, .slice none 0 0, .slice none 0 0]) ?_ 1 _ rfl; (with_reducible repeat (first | refine blk_drewN ?_ _ | refine blk_drew ?_ | refine blk_alloc ?_ _)); refine blk_put (cs := #[.int .i64 0, .int .i64 0, .int .i64 0, .int .i64 0, .int .i64 0, .int .i64 0, .slice none 0 0, .slice none 0 0]) ?_ 0 _ rfl; (with_reducible repeat (first | refine blk_drewN ?_ _ | refine blk_drew ?_ | refine blk_alloc ?_ _)); exact BK281.out) Try.underlying37 rfl (by kernel_rfl)) rfl ?_
         exact ⟨_, _, by first | rfl | (simp [errW_none, errW_some] <;> rfl) | (simp [*, errW_none, errW_some] <;> rfl), by first | exact Kd.R_nil _ _ _ _ _ | exact Kd.N_nil _ _ _ _ _ | exact Kd.V_nil _ _ _ _ _ | exact Kd.Q_nil _ _ _ _ _ | exact Kd.S_nil _ _ _ _ _, by first | exact Kd.R_nil _ _ _ _ _ | exact Kd.N_nil _ _ _ _ _ | exact Kd.V_nil _ _ _ _ _ | exact Kd.Q_nil _ _ _ _ _ | exact Kd.S_nil _ _ _ _ _, by repeat (first | (with_reducible first | exact HB.out | apply below_alloc | apply pw_below_drewN | apply below_drew1 | refine below_set ?_ GE281.out | refine below_set ?_ GE282.out) | exact HB.out)⟩
       ·rw [if_neg c77] at H
        have c77b0 : (x9_1 == 0) = false := beq_eq_false_iff_ne.mpr c77
        have c77b1 : (x9_1 != 0) = true := bne_iff_ne.mpr c77
        simp only [Option.some.injEq, Prod.mk.injEq] at H
        obtain ⟨rfl, rfl, rfl, rfl, rfl, rfl, rfl, rfl, rfl⟩ := H
        have hnb86 := NB281_282.out
        have hnc86 := NB282_281.out
        have hcz87_0 : wc.cell? ⟨gb281, 0, none⟩ = some (.int .i64 0) := (blk_cell BK281.out 0).trans rfl
        have hcz87_1 : wc.cell? ⟨gb281, 1, none⟩ = some (.int .i64 0) := (blk_cell BK281.out 1).trans rfl
        have hcz87_2 : wc.cell? ⟨gb281, 2, none⟩ = some (.int .i64 0) := (blk_cell BK281.out 2).trans rfl
        have hcz87_3 : wc.cell? ⟨gb281, 3, none⟩ = some (.int .i64 0) := (blk_cell BK281.out 3).trans rfl
        have hcz87_4 : wc.cell? ⟨gb281, 4, none⟩ = some (.int .i64 0) := (blk_cell BK281.out 4).trans rfl
        have hcz87_5 : wc.cell? ⟨gb281, 5, none⟩ = some (.int .i64 0) := (blk_cell BK281.out 5).trans rfl
        have hcz87_6 : wc.cell? ⟨gb281, 6, none⟩ = some (.slice none 0 0) := (blk_cell BK281.out 6).trans rfl
        have hcz87_7 : wc.cell? ⟨gb281, 7, none⟩ = some (.slice none 0 0) := (blk_cell BK281.out 7).trans rfl
        have hfz87_0 := blk_frozen BK281.out 0
        have hfz87_1 := blk_frozen BK281.out 1
        have hfz87_2 := blk_frozen BK281.out 2
        have hfz87_3 := blk_frozen BK281.out 3
        have hfz87_4 := blk_frozen BK281.out 4
        have hfz87_5 := blk_frozen BK281.out 5
        have hfz87_6 := blk_frozen BK281.out 6
        have hfz87_7 := blk_frozen BK281.out 7
        go_wp2
        refine bodyPost_ret (results_ct rfl _ _ gb281 37 #[.int .i64 0, .int .i64 0, .int .i64 0, .int .i64 0, .int .i64 0, .int .i64 0, .slice none 0 0, .slice none 0 0] (0, 0) _ rfl (by (with_reducible repeat (first | refine blk_drewN ?_ _ | refine blk_drew ?_ | refine blk_alloc ?_ _)); refine blk_put (cs := #[.int .i64 0, .int .i64 0, .int .i64 0, .int .i64 0, .int .i64 0, .int .i64 0, .slice none 0 0, .slice none 0 0]) ?_ 7 _ rfl; (with_reducible repeat (first | refine blk_drewN ?_ _ | refine blk_drew ?_ | refine blk_alloc ?_ _)); refine blk_put (cs := #[.int .i64 0, .int .i64 0, .int .i64 0, .int .i64 0, .int .i64 0, .int .i64 0, .slice none 0 0, .slice none 0 0]) ?_ 6 _ rfl; (with_reducible repeat (first | refine blk_drewN ?_ _ | refine blk_drew ?_ | refine blk_alloc ?_ _)); refine blk_put (cs := #[.int .i64 0, .int .i64 0, .int .i64 0, .int .i64 0, .int .i64 0, .int .i64 0, .slice none 0 0, .slice none 0 0]) ?_ 5 _ rfl; (with_reducible repeat (first | refine blk_drewN ?_ _ | refine blk_drew ?_ | refine blk_alloc ?_ _)); refine blk_put (cs := #[.int .i64 0, .int .i64 0, .int .i64 0, .int .i64 0, .int .i64 0, .int .i64 0, .slice none 0 0, .slice none 0 0]) ?_ 4 _ rfl; (with_reducible repeat (first | refine blk_drewN ?_ _ | refine blk_drew ?_ | refine blk_alloc ?_ _)); refine blk_put (cs := #[.int .i64 0, .int .i64 0, .int .i64 0, .int .i64 0, .int .i64 0, .int .i64 0, .slice none 0 0, .slice none 0 0]) ?_ 3 _ rfl; (with_reducible repeat (first | refine blk_drewN ?_ _ | refine blk_drew ?_ | refine blk_alloc ?_ _)); refine blk_put (cs := #[.int .i64 0, .int .i64 0, .int .i64 0, .int .i64 0, .int .i64 0, .int .i64 0, .slice none 0 0, .slice none 0 0]) ?_ 2 _ rfl; (with_reducible repeat (first | refine blk_drewN ?_ _ | refine blk_drew ?_ | refine blk_alloc ?_ _)); refine blk_put (cs := #[.int .i64 0, .int .i64 0, .int .i64 0, .int .i64 0, .int .i64 0, .int .i64 0, .slice none 0 0, .slice none 0 0]) ?_ 1 _ rfl; (with_reducible repeat (first | refine blk_drewN ?_ _ | refine blk_drew ?_ | refine blk_alloc ?_ _)); refine blk_put (cs := #[.int .i64 0, .int .i64 0, .int .i64 0, .int .i64 0, .int .i64 0, .int .i64 0, .slice none 0 0, .slice none 0 0]) ?_ 0 _ rfl; (with_reducible repeat (first | refine blk_drewN ?_ _ | refine blk_drew ?_ | refine blk_alloc ?_ _)); exact BK281.out) Try.underlying37 rfl (by kernel_rfl)) rfl ?_
        exact ⟨_, _, by first | rfl | (simp [errW_none, errW_some] <;> rfl) | (simp [*, errW_none, errW_some] <;> rfl), by first | exact Kd.R_nil _ _ _ _ _ | exact Kd.N_nil _ _ _ _ _ | exact Kd.V_nil _ _ _ _ _ | exact Kd.Q_nil _ _ _ _ _ | exact Kd.S_nil _ _ _ _ _, by first | exact Kd.R_nil _ _ _ _ _ | exact Kd.N_nil _ _ _ _ _ | exact Kd.V_nil _ _ _ _ _ | exact Kd.Q_nil _ _ _ _ _ | exact Kd.S_nil _ _ _ _ _, by repeat (first | (with_reducible first | exact HB.out | apply below_alloc | apply pw_below_drewN | apply below_drew1 | refine below_set ?_ GE281.out | refine below_set ?_ GE282.out) | exact HB.out)⟩
end Go.Proofs.Ytpgjkndijdleeaa.PCode
end
section
namespace Go.Proofs.Ytpgjkndijdleeaa.PCode
open Go.RowKit Go.Proofs.YtpgjkndijdleeaaW.PrintWords Go.Proofs.YtpgjkndijdleeaaW.PrintLast Go.Proofs.YtpgjkndijdleeaaW.PrintMore
attribute [local go_sem] max2_int min2_int max_two min_two max_three min_three max_four min_four   -- for this text's walks alone
set_option linter.unusedVariables false
set_option linter.unusedSimpArgs false
def temperaref21_Decode.l0 : Nat → List Int → List (S46) → Int → Option ((List (S46)))
 | 0, _, _, _ => none
 | k + 1, x0, x3, x4 => if x4 < (x0.length : Int) then (if 0 ≤ x4 then ((temperaref21_ReadCount.f k x0 (wrap64 (x4 + 1))).bind fun bt322 => (if bt322.2.2 = 0 then (if bt322.1 > (IntKind.u64.wrap (wrap64 ((x0.length : Int) - bt322.2.1))) then (if x3.length < 1353245080339 then (some (x3 ++ [(⟨(⟨0, 0, 0, 0, 0, 0, ([] : List Int), ([] : List (S62))⟩ : S37), 5⟩ : S46)])) else (none)) else (if (wrap64 (rd x0 x4)) < 1 then (if x3.length < 1353245080339 then (temperaref21_Decode.l0 k x0 (x3 ++ [(⟨(⟨0, 0, 0, 0, 0, 0, ([] : List Int), ([] : List (S62))⟩ : S37), 9⟩ : S46)]) (wrap64 (bt322.2.1 + (wrap64 (bt322.1))))) else (none)) else (if (wrap64 (rd x0 x4)) > 19 then (if x3.length < 1353245080339 then (temperaref21_Decode.l0 k x0 (x3 ++ [(⟨(⟨0, 0, 0, 0, 0, 0, ([] : List Int), ([] : List (S62))⟩ : S37), 9⟩ : S46)]) (wrap64 (bt322.2.1 + (wrap64 (bt322.1))))) else (none)) else (if 0 ≤ bt322.2.1 then (if bt322.2.1 ≤ (wrap64 (bt322.2.1 + (wrap64 (bt322.1)))) then (if (wrap64 (bt322.2.1 + (wrap64 (bt322.1)))) ≤ (x0.length : Int) then ((temperaref21_Read.f k (wrap64 (rd x0 x4)) ((x0.take ((wrap64 (bt322.2.1 + (wrap64 (bt322.1)))) : Int).toNat).drop (bt322.2.1 : Int).toNat)).bind fun bt338 => (if x3.length < 1353245080339 then (temperaref21_Decode.l0 k x0 (x3 ++ [(⟨(⟨bt338.1, bt338.2.1, bt338.2.2.1, bt338.2.2.2.1, bt338.2.2.2.2.1, bt338.2.2.2.2.2.1, bt338.2.2.2.2.2.2.1, bt338.2.2.2.2.2.2.2.1⟩ : S37), bt338.2.2.2.2.2.2.2.2⟩ : S46)]) (wrap64 (bt322.2.1 + (wrap64 (bt322.1))))) else (none))) else (none)) else (none)) else (none))))) else (if x3.length < 1353245080339 then (some (x3 ++ [(⟨(⟨0, 0, 0, 0, 0, 0, ([] : List Int), ([] : List (S62))⟩ : S37), bt322.2.2⟩ : S46)])) else (none)))) else (none)) else (some x3)
def temperaref21_Decode.f (k : Nat) (l0 : List Int) : Option ((List (S46))) := temperaref21_Decode.l0 k l0 ([] : List (S46)) 0
set_option maxHeartbeats 8000000 in
set_option maxRecDepth 100000 in
theorem temperaref21_Decode.calls (k : Nat) (A0 : Option Addr) (c0 : Nat) (l0 : List Int) (r : List (S46)) (w : World) (hr0 : Kd.C (Kd.int .u8) w A0 l0.length l0) (hc0 : l0.length ≤ c0) (h : temperaref21_Decode.f k l0 = some r) :
  Calls Try.prog 15 #[.slice A0 l0.length c0] w fun e w' => ∃ v0_ : Value, e = .returned (v0_) ∧ Kd.S k46 46 w' w.heap.size (fun _ => True) v0_ r ∧ Below w.heap.size w w' := by
 have hu46 := Try.underlying46
 have hu37 := Try.underlying37
 have HR0 := Aside0.mk hr0
 have HC0 := Aside0.mk hc0
 clear hr0 hc0
 have HB := Aside0.mk (Below.refl w.heap.size w)
 have H : (temperaref21_Decode.l0 k l0 ([] : List (S46)) 0) = some r := h
 clear h
 have H' := Aside0.mk H
 clear H
 go_enter Try.func15, Try.ntmps15
 go_wp2
 go_loopg [3, 4] k (fun kq v3 v4 w' => ∃ (x3_1 : List (S46)) (x4_1 : Int), v4 = .int .i64 x4_1 ∧ Aside0 (temperaref21_Decode.l0 kq l0 x3_1 x4_1 = some r) ∧ Aside0 (kq ≤ k) ∧ Aside0 (Kd.S k46 46 w' w.heap.size (fun _ => True) v3 x3_1) ∧ Aside0 (Below w.heap.size w w'))
 case atStart => exact ⟨(([] : List (S46))), (0), (by first | rfl | (simp; done) | (simp [*]; done)), H', ⟨Nat.le_refl _⟩, ⟨by first | exact Kd.S_nil _ _ _ _ _ | exact Kd.N_nil _ _ _ _ _ | exact Kd.V_nil _ _ _ _ _ | exact Kd.Q_nil _ _ _ _ _ | exact Kd.R_nil _ _ _ _ _⟩, ⟨by repeat (first | (with_reducible first | exact HB.out | apply below_alloc | apply pw_below_drewN | apply below_drew1) | exact HB.out)⟩⟩
 case round =>
  clear H'
  try clear c1
  obtain ⟨x3_1, x4_1, rfl, HA, HK1, HO_3, HB⟩ := hrel
  cases gk with
  | zero => exact absurd HA.out (by simp [temperaref21_Decode.l0])
  | succ k1 =>
   have H := HA.out
   clear HA
   simp only [temperaref21_Decode.l0] at H
   by_cases c2 : x4_1 < (l0.length : Int)
   ·rw [if_pos c2] at H
    have c2b0 : decide (x4_1 < (l0.length : Int)) = true := decide_eq_true c2
    clear c2
    by_cases c3 : 0 ≤ x4_1
    ·rw [if_pos c3] at H
     have c3b0 : decide (0 ≤ x4_1) = true := decide_eq_true c3
     clear c3
     replace H := Option.bind_eq_some_iff.mp H
     obtain ⟨⟨t322, t323, t324⟩, A40, H⟩ := H
     replace H : (if t324 = 0 then (if t322 > (IntKind.u64.wrap (wrap64 ((l0.length : Int) - t323))) then (if x3_1.length < 1353245080339 then (some (x3_1 ++ [(⟨(⟨0, 0, 0, 0, 0, 0, ([] : List Int), ([] : List (S62))⟩ : S37), 5⟩ : S46)])) else (none)) else (if (wrap64 (rd l0 x4_1)) < 1 then (if x3_1.length < 1353245080339 then (temperaref21_Decode.l0 k1 l0 (x3_1 ++ [(⟨(⟨0, 0, 0, 0, 0, 0, ([] : List Int), ([] : List (S62))⟩ : S37), 9⟩ : S46)]) (wrap64 (t323 + (wrap64 (t322))))) else (none)) else (if (wrap64 (rd l0 x4_1)) > 19 then (if x3_1.length < 1353245080339 then (temperaref21_Decode.l0 k1 l0 (x3_1 ++ [(⟨(⟨0, 0, 0, 0, 0, 0, ([] : List Int), ([] : List (S62))⟩ : S37), 9⟩ : S46)]) (wrap64 (t323 + (wrap64 (t322))))) else (none)) else (if 0 ≤ t323 then (if t323 ≤ (wrap64 (t323 + (wrap64 (t322)))) then (if (wrap64 (t323 + (wrap64 (t322)))) ≤ (l0.length : Int) then ((temperaref21_Read.f k1 (wrap64 (rd l0 x4_1)) ((l0.take ((wrap64 (t323 + (wrap64 (t322)))) : Int).toNat).drop (t323 : Int).toNat)).bind fun bt338 => (if x3_1.length < 1353245080339 then (temperaref21_Decode.l0 k1 l0 (x3_1 ++ [(⟨(⟨bt338.1, bt338.2.1, bt338.2.2.1, bt338.2.2.2.1, bt338.2.2.2.2.1, bt338.2.2.2.2.2.1, bt338.2.2.2.2.2.2.1, bt338.2.2.2.2.2.2.2.1⟩ : S37), bt338.2.2.2.2.2.2.2.2⟩ : S46)]) (wrap64 (t323 + (wrap64 (t322))))) else (none))) else (none)) else (none)) else (none))))) else (if x3_1.length < 1353245080339 then (some (x3_1 ++ [(⟨(⟨0, 0, 0, 0, 0, 0, ([] : List Int), ([] : List (S62))⟩ : S37), t324⟩ : S46)])) else (none))) = some r := H
     have A4 := Aside0.mk A40
     clear A40
     by_cases c5 : t324 = 0
     ·rw [if_pos c5] at H
      have c5b0 : (t324 == 0) = true := beq_iff_eq.mpr c5
      have c5b1 : (t324 != 0) = false := bne_eq_false_iff_eq.mpr c5
      clear c5
      by_cases c6 : t322 > (IntKind.u64.wrap (wrap64 ((l0.length : Int) - t323)))
      ·rw [if_pos c6] at H
       have c6b0 : decide ((IntKind.u64.wrap (wrap64 ((l0.length : Int) - t323))) < t322) = true := decide_eq_true c6
       clear c6
       by_cases c7 : x3_1.length < 1353245080339
       ·rw [if_pos c7] at H
        have LMc7 := Aside0.mk c7
        clear c7
        obtain ⟨y328, hy328⟩ : ∃ y_ : List (S46), y_ = (x3_1 ++ [(⟨(⟨0, 0, 0, 0, 0, 0, ([] : List Int), ([] : List (S62))⟩ : S37), 5⟩ : S46)]) := ⟨_, rfl⟩
        replace H : (some y328) = some r := by first | (rw [hy328]; with_reducible exact H) | (have H2_ := (Option.bind_some _ _).symm.trans H; rw [hy328]; with_reducible exact H2_) | (have H2_ := (Option.bind_some _ _).symm.trans H; with_reducible exact H2_) | with_reducible exact H | (rw [hy328]; exact H) | exact H
        have Ny328 := Aside0.mk hy328
        clear hy328
        obtain rfl := Option.some.inj H
        have p321 : 0 ≤ (x4_1 : Int) := of_decide_eq_true (by first | (with_reducible assumption) | assumption)
        have q321 : x4_1 < (l0.length : Int) := of_decide_eq_true (by first | (with_reducible assumption) | assumption)
        obtain ⟨ad321, e321, hx321_0⟩ := Kd.at_int HR0.out x4_1 p321 q321
        cases e321
        replace hx321_0 := (HB.out.cell (World.block_lt_of_cell? w _ hx321_0)).trans hx321_0
        replace p321 := eq_true p321
        replace q321 := eq_true q321
        go_wp2_with (first | ((with_reducible refine gate_callee (f := 28) rfl ?_); refine goesL_ (some 25) rfl rfl Try.func28 (by kernel_rfl) rfl #[.slice (some ad321) l0.length c0, .int .i64 (wrap64 (x4_1 + 1))] rfl (by (try simp only [List.map_toArray, List.map_cons, List.map_nil]); first | done | rfl | (simp only [List.length_drop, List.length_take]; rfl)) ?_; (with_reducible refine (temperaref21_ReadCount.calls k1 _ _ l0 (wrap64 (x4_1 + 1)) t322 t323 t324 _ ?side1 ?side2 A4.out).mono ?_); (case side1 => repeat (first | exact (Kd.C_below HR0.out HB.out) | (with_reducible refine Kd.C_alloc ?_ _) | (with_reducible refine Kd.C_drewN ?_ _) | (with_reducible refine Kd.C_drew ?_))); (case side2 => exact HC0.out); rintro e w' ⟨rfl, ⟨nd, rfl⟩⟩; refine ⟨_, rfl, ?_⟩) | ((with_reducible refine gate_builtin (b := .append) (xs := #[.tmp 43, .tmp 45]) rfl ?_); at_builtin; refine Kd.S_append k46 (w0 := w) w.heap.size rfl (.tmp 43) (.tmp 45) 43 46 (.agg #[(.int .i64 0), (.int .i64 0), (.int .i64 0), (.int .i64 0), (.int .i64 0), (.int .i64 0), (.slice none 0 0), (.slice none 0 0), (.int .i64 0)]) 104 rfl Try.underlying43 info46 rfl (by decide) (by omega) u3 x3_1 (⟨(⟨0, 0, 0, 0, 0, 0, ([] : List Int), ([] : List (S62))⟩ : S37), 5⟩ : S46) [.int .i64 0, .int .i64 0, .int .i64 0, .int .i64 0, .int .i64 0, .int .i64 0, .slice none 0 0, .slice none 0 0, .int .i64 5] (fun _ => True) (fun _ => False) rfl rfl ?aP (fun k_ hk_ => hk_.elim) ?aF ?aO ?aB ?aS ?aL ?_; (case aP => exact k46_mkM _ _ _ (⟨(⟨0, 0, 0, 0, 0, 0, ([] : List Int), ([] : List (S62))⟩ : S37), 5⟩ : S46) (Kd.R_nil _ _ _ _ _) (Kd.R_nil _ _ _ _ _)); (case aB => exact (by repeat (first | (with_reducible first | exact HB.out | apply below_alloc | apply pw_below_drewN | apply below_drew1) | exact HB.out))); (case aF => exact (fun _ _ => trivial)); (case aO => exact (by (with_reducible repeat (first | apply Kd.S_alloc | apply Kd.S_drewN | apply Kd.S_drew)); exact Kd.S_mono HO_3.out (fun k_ hk => ⟨trivial, fun e_ => e_⟩))); (case aS => exact (below_size (by repeat (first | (with_reducible first | exact HB.out | apply below_alloc | apply pw_below_drewN | apply below_drew1) | exact HB.out)))); (case aL => have := LMc7.out; omega); intro v329 w8 ho hb hg hat; rw [← Ny328.out] at ho; have n0_ := Aside0.mk (hb); have n1_ := Aside0.mk (ho); clear HB; clear HO_3; have HB := n0_; have HO330 := n1_; clear n0_ n1_; clear ho hb hg hat))
        go_ret
        exact ⟨_, by first | rfl | (simp [errW_none, errW_some] <;> rfl) | (simp [*, errW_none, errW_some] <;> rfl), by (with_reducible repeat (first | apply Kd.S_alloc | apply Kd.S_drewN | apply Kd.S_drew)); exact HO330.out, by repeat (first | (with_reducible first | exact HB.out | apply below_alloc | apply pw_below_drewN | apply below_drew1) | exact HB.out)⟩
       ·rw [if_neg c7] at H
        exact absurd H (by simp)
      ·rw [if_neg c6] at H
       have c6b0 : decide ((IntKind.u64.wrap (wrap64 ((l0.length : Int) - t323))) < t322) = false := decide_eq_false c6
       clear c6
       by_cases c9 : (wrap64 (rd l0 x4_1)) < 1
       ·rw [if_pos c9] at H
        have c9b0 : decide ((wrap64 (rd l0 x4_1)) < 1) = true := decide_eq_true c9
        clear c9
        by_cases c10 : x3_1.length < 1353245080339
        ·rw [if_pos c10] at H
         have LMc10 := Aside0.mk c10
         clear c10
         obtain ⟨y331, hy331⟩ : ∃ y_ : List (S46), y_ = (x3_1 ++ [(⟨(⟨0, 0, 0, 0, 0, 0, ([] : List Int), ([] : List (S62))⟩ : S37), 9⟩ : S46)]) := ⟨_, rfl⟩
         replace H : (temperaref21_Decode.l0 k1 l0 y331 (wrap64 (t323 + (wrap64 (t322))))) = some r := by first | (rw [hy331]; with_reducible exact H) | (have H2_ := (Option.bind_some _ _).symm.trans H; rw [hy331]; with_reducible exact H2_) | (have H2_ := (Option.bind_some _ _).symm.trans H; with_reducible exact H2_) | with_reducible exact H | (rw [hy331]; exact H) | exact H
         have Ny331 := Aside0.mk hy331
         clear hy331
         have H' := Aside0.mk H
         clear H
         have p321 : 0 ≤ (x4_1 : Int) := of_decide_eq_true (by first | (with_reducible assumption) | assumption)
         have q321 : x4_1 < (l0.length : Int) := of_decide_eq_true (by first | (with_reducible assumption) | assumption)
         obtain ⟨ad321, e321, hx321_0⟩ := Kd.at_int HR0.out x4_1 p321 q321
         cases e321
         replace hx321_0 := (HB.out.cell (World.block_lt_of_cell? w _ hx321_0)).trans hx321_0
         replace p321 := eq_true p321
         replace q321 := eq_true q321
         go_wp2_with (first | ((with_reducible refine gate_callee (f := 28) rfl ?_); refine goesL_ (some 25) rfl rfl Try.func28 (by kernel_rfl) rfl #[.slice (some ad321) l0.length c0, .int .i64 (wrap64 (x4_1 + 1))] rfl (by (try simp only [List.map_toArray, List.map_cons, List.map_nil]); first | done | rfl | (simp only [List.length_drop, List.length_take]; rfl)) ?_; (with_reducible refine (temperaref21_ReadCount.calls k1 _ _ l0 (wrap64 (x4_1 + 1)) t322 t323 t324 _ ?side1 ?side2 A4.out).mono ?_); (case side1 => repeat (first | exact (Kd.C_below HR0.out HB.out) | (with_reducible refine Kd.C_alloc ?_ _) | (with_reducible refine Kd.C_drewN ?_ _) | (with_reducible refine Kd.C_drew ?_))); (case side2 => exact HC0.out); rintro e w' ⟨rfl, ⟨nd, rfl⟩⟩; refine ⟨_, rfl, ?_⟩) | ((with_reducible refine gate_builtin (b := .append) (xs := #[.tmp 57, .tmp 59]) rfl ?_); at_builtin; refine Kd.S_append k46 (w0 := w) w.heap.size rfl (.tmp 57) (.tmp 59) 43 46 (.agg #[(.int .i64 0), (.int .i64 0), (.int .i64 0), (.int .i64 0), (.int .i64 0), (.int .i64 0), (.slice none 0 0), (.slice none 0 0), (.int .i64 0)]) 104 rfl Try.underlying43 info46 rfl (by decide) (by omega) u3 x3_1 (⟨(⟨0, 0, 0, 0, 0, 0, ([] : List Int), ([] : List (S62))⟩ : S37), 9⟩ : S46) [.int .i64 0, .int .i64 0, .int .i64 0, .int .i64 0, .int .i64 0, .int .i64 0, .slice none 0 0, .slice none 0 0, .int .i64 9] (fun _ => True) (fun _ => False) rfl rfl ?aP (fun k_ hk_ => hk_.elim) ?aF ?aO ?aB ?aS ?aL ?_; (case aP => exact k46_mkM _ _ _ (⟨(⟨0, 0, 0, 0, 0, 0, ([] : List Int), ([] : List (S62))⟩ : S37), 9⟩ : S46) (Kd.R_nil _ _ _ _ _) (Kd.R_nil _ _ _ _ _)); (case aB => exact (by repeat (first | (with_reducible first | exact HB.out | apply below_alloc | apply pw_below_drewN | apply below_drew1) | exact HB.out))); (case aF => exact (fun _ _ => trivial)); (case aO => exact (by (with_reducible repeat (first | apply Kd.S_alloc | apply Kd.S_drewN | apply Kd.S_drew)); exact Kd.S_mono HO_3.out (fun k_ hk => ⟨trivial, fun e_ => e_⟩))); (case aS => exact (below_size (by repeat (first | (with_reducible first | exact HB.out | apply below_alloc | apply pw_below_drewN | apply below_drew1) | exact HB.out)))); (case aL => have := LMc10.out; omega); intro v332 w11 ho hb hg hat; rw [← Ny331.out] at ho; have n0_ := Aside0.mk (hb); have n1_ := Aside0.mk (ho); clear HB; clear HO_3; have HB := n0_; have HO333 := n1_; clear n0_ n1_; clear ho hb hg hat))
         go_roundg k1
         case measure => have := HK1.out; omega
         case rel => exact ⟨(y331), (wrap64 (t323 + (wrap64 (t322)))), (by first | rfl | (simp; done) | (simp [*]; done)), H', ⟨by have := HK1.out; omega⟩, ⟨by (with_reducible repeat (first | apply Kd.S_alloc | apply Kd.S_drewN | apply Kd.S_drew)); exact HO333.out⟩, ⟨by repeat (first | (with_reducible first | exact HB.out | apply below_alloc | apply pw_below_drewN | apply below_drew1) | exact HB.out)⟩⟩
        ·rw [if_neg c10] at H
         exact absurd H (by simp)
       ·rw [if_neg c9] at H
        have c9b0 : decide ((wrap64 (rd l0 x4_1)) < 1) = false := decide_eq_false c9
        clear c9
        by_cases c12 : (wrap64 (rd l0 x4_1)) > 19
        ·rw [if_pos c12] at H
         have c12b0 : decide (19 < (wrap64 (rd l0 x4_1))) = true := decide_eq_true c12
         clear c12
         by_cases c13 : x3_1.length < 1353245080339
         ·rw [if_pos c13] at H
          have LMc13 := Aside0.mk c13
          clear c13
          obtain ⟨y334, hy334⟩ : ∃ y_ : List (S46), y_ = (x3_1 ++ [(⟨(⟨0, 0, 0, 0, 0, 0, ([] : List Int), ([] : List (S62))⟩ : S37), 9⟩ : S46)]) := ⟨_, rfl⟩
          replace H : (temperaref21_Decode.l0 k1 l0 y334 (wrap64 (t323 + (wrap64 (t322))))) = some r := by first | (rw [hy334]; with_reducible exact H) | (have H2_ := (Option.bind_some _ _).symm.trans H; rw [hy334]; with_reducible exact H2_) | (have H2_ := (Option.bind_some _ _).symm.trans H; with_reducible exact H2_) | with_reducible exact H | (rw [hy334]; exact H) | exact H
          have Ny334 := Aside0.mk hy334
          clear hy334
          have H' := Aside0.mk H
          clear H
          have p321 : 0 ≤ (x4_1 : Int) := of_decide_eq_true (by first | (with_reducible assumption) | assumption)
          have q321 : x4_1 < (l0.length : Int) := of_decide_eq_true (by first | (with_reducible assumption) | assumption)
          obtain ⟨ad321, e321, hx321_0⟩ := Kd.at_int HR0.out x4_1 p321 q321
          cases e321
          replace hx321_0 := (HB.out.cell (World.block_lt_of_cell? w _ hx321_0)).trans hx321_0
          replace p321 := eq_true p321
          replace q321 := eq_true q321
          go_wp2_with (first | ((with_reducible refine gate_callee (f := 28) rfl ?_); refine goesL_ (some 25) rfl rfl Try.func28 (by kernel_rfl) rfl #[.slice (some ad321) l0.length c0, .int .i64 (wrap64 (x4_1 + 1))] rfl (by (try simp only [List.map_toArray, List.map_cons, List.map_nil]); first | done | rfl | (simp only [List.length_drop, List.length_take]; rfl)) ?_; (with_reducible refine (temperaref21_ReadCount.calls k1 _ _ l0 (wrap64 (x4_1 + 1)) t322 t323 t324 _ ?side1 ?side2 A4.out).mono ?_); (case side1 => repeat (first | exact (Kd.C_below HR0.out HB.out) | (with_reducible refine Kd.C_alloc ?_ _) | (with_reducible refine Kd.C_drewN ?_ _) | (with_reducible refine Kd.C_drew ?_))); (case side2 => exact HC0.out); rintro e w' ⟨rfl, ⟨nd, rfl⟩⟩; refine ⟨_, rfl, ?_⟩) | ((with_reducible refine gate_builtin (b := .append) (xs := #[.tmp 57, .tmp 59]) rfl ?_); at_builtin; refine Kd.S_append k46 (w0 := w) w.heap.size rfl (.tmp 57) (.tmp 59) 43 46 (.agg #[(.int .i64 0), (.int .i64 0), (.int .i64 0), (.int .i64 0), (.int .i64 0), (.int .i64 0), (.slice none 0 0), (.slice none 0 0), (.int .i64 0)]) 104 rfl Try.underlying43 info46 rfl (by decide) (by omega) u3 x3_1 (⟨(⟨0, 0, 0, 0, 0, 0, ([] : List Int), ([] : List (S62))⟩ : S37), 9⟩ : S46) [.int .i64 0, .int .i64 0, .int .i64 0, .int .i64 0, .int .i64 0, .int .i64 0, .slice none 0 0, .slice none 0 0, .int .i64 9] (fun _ => True) (fun _ => False) rfl rfl ?aP (fun k_ hk_ => hk_.elim) ?aF ?aO ?aB ?aS ?aL ?_; (case aP => exact k46_mkM _ _ _ (⟨(⟨0, 0, 0, 0, 0, 0, ([] : List Int), ([] : List (S62))⟩ : S37), 9⟩ : S46) (Kd.R_nil _ _ _ _ _) (Kd.R_nil _ _ _ _ _)); (case aB => exact (by repeat (first | (with_reducible first | exact HB.out | apply below_alloc | apply pw_below_drewN | apply below_drew1) | exact HB.out))); (case aF => exact (fun _ _ => trivial)); (case aO => exact (by (with_reducible repeat (first | apply Kd.S_alloc | apply Kd.S_drewN | apply Kd.S_drew)); exact Kd.S_mono HO_3.out (fun k_ hk => ⟨trivial, fun e_ => e_⟩))); (case aS => exact (below_size (by repeat (first | (with_reducible first | exact HB.out | apply below_alloc | apply pw_below_drewN | apply below_drew1) | exact HB.out)))); (case aL => have := LMc13.out; omega); intro v335 w14 ho hb hg hat; rw [← Ny334.out] at ho; have n0_ := Aside0.mk (hb); have n1_ := Aside0.mk (ho); clear HB; clear HO_3; have HB := n0_; have HO336 := n1_; clear n0_ n1_; clear ho hb hg hat))
          go_roundg k1
          case measure => have := HK1.out; omega
          case rel => exact ⟨(y334), (wrap64 (t323 + (wrap64 (t322)))), (by first | rfl | (simp; done) | (simp [*]; done)), H', ⟨by have := HK1.out; omega⟩, ⟨by (with_reducible repeat (first | apply Kd.S_alloc | apply Kd.S_drewN | apply Kd.S_drew)); exact HO336.out⟩, ⟨by repeat (first | (with_reducible first | exact HB.out | apply below_alloc | apply pw_below_drewN | apply below_drew1) | exact HB.out)⟩⟩
         ·rw [if_neg c13] at H
          exact absurd H (by simp)
        ·rw [if_neg c12] at H
         have c12b0 : decide (19 < (wrap64 (rd l0 x4_1))) = false := decide_eq_false c12
         clear c12
         by_cases c15 : 0 ≤ t323
         ·rw [if_pos c15] at H
          have c15b0 := eq_true c15
          have c15b1 : decide (0 ≤ t323) = true := decide_eq_true c15
          clear c15
          by_cases c16 : t323 ≤ (wrap64 (t323 + (wrap64 (t322))))
          ·rw [if_pos c16] at H
           have c16b0 := eq_true c16
           have c16b1 : decide (t323 ≤ (wrap64 (t323 + (wrap64 (t322))))) = true := decide_eq_true c16
           by_cases c17 : (wrap64 (t323 + (wrap64 (t322)))) ≤ (l0.length : Int)
           ·rw [if_pos c17] at H
            have c17b0 := eq_true c17
            have c17b1 : decide ((wrap64 (t323 + (wrap64 (t322)))) ≤ (l0.length : Int)) = true := decide_eq_true c17
            replace H := Option.bind_eq_some_iff.mp H
            obtain ⟨⟨t338, t339, t340, t341, t342, t343, t344, t347, t350⟩, A180, H⟩ := H
            replace H : (if x3_1.length < 1353245080339 then (temperaref21_Decode.l0 k1 l0 (x3_1 ++ [(⟨(⟨t338, t339, t340, t341, t342, t343, t344, t347⟩ : S37), t350⟩ : S46)]) (wrap64 (t323 + (wrap64 (t322))))) else (none)) = some r := H
            have A18 := Aside0.mk A180
            clear A180
            by_cases c19 : x3_1.length < 1353245080339
            ·rw [if_pos c19] at H
             have LMc19 := Aside0.mk c19
             clear c19
             obtain ⟨y352, hy352⟩ : ∃ y_ : List (S46), y_ = (x3_1 ++ [(⟨(⟨t338, t339, t340, t341, t342, t343, t344, t347⟩ : S37), t350⟩ : S46)]) := ⟨_, rfl⟩
             replace H : (temperaref21_Decode.l0 k1 l0 y352 (wrap64 (t323 + (wrap64 (t322))))) = some r := by first | (rw [hy352]; with_reducible exact H) | (have H2_ := (Option.bind_some _ _).symm.trans H; rw [hy352]; with_reducible exact H2_) | (have H2_ := (Option.bind_some _ _).symm.trans H; with_reducible exact H2_) | with_reducible exact H | (rw [hy352]; exact H) | exact H
             have Ny352 := Aside0.mk hy352
             clear hy352
             have H' := Aside0.mk H
             clear H
             have p321 : 0 ≤ (x4_1 : Int) := of_decide_eq_true (by first | (with_reducible assumption) | assumption)
             have q321 : x4_1 < (l0.length : Int) := of_decide_eq_true (by first | (with_reducible assumption) | assumption)
             obtain ⟨ad321, e321, hx321_0⟩ := Kd.at_int HR0.out x4_1 p321 q321
             cases e321
             replace hx321_0 := (HB.out.cell (World.block_lt_of_cell? w _ hx321_0)).trans hx321_0
             replace p321 := eq_true p321
             replace q321 := eq_true q321
             go_wp2_with (first | ((with_reducible refine gate_callee (f := 28) rfl ?_); refine goesL_ (some 25) rfl rfl Try.func28 (by kernel_rfl) rfl #[.slice (some ad321) l0.length c0, .int .i64 (wrap64 (x4_1 + 1))] rfl (by (try simp only [List.map_toArray, List.map_cons, List.map_nil]); first | done | rfl | (simp only [List.length_drop, List.length_take]; rfl)) ?_; (with_reducible refine (temperaref21_ReadCount.calls k1 _ _ l0 (wrap64 (x4_1 + 1)) t322 t323 t324 _ ?side1 ?side2 A4.out).mono ?_); (case side1 => repeat (first | exact (Kd.C_below HR0.out HB.out) | (with_reducible refine Kd.C_alloc ?_ _) | (with_reducible refine Kd.C_drewN ?_ _) | (with_reducible refine Kd.C_drew ?_))); (case side2 => exact HC0.out); rintro e w' ⟨rfl, ⟨nd, rfl⟩⟩; refine ⟨_, rfl, ?_⟩; (try (rw [drewN_self wr]; generalize hq_ : World.drewN wr _ = wr; have n0_ : Aside0 (Kd.S k46 46 wr w.heap.size (fun _ => True) u3 x3_1) := ⟨by rw [← hq_]; exact (by (with_reducible repeat (first | apply Kd.S_alloc | apply Kd.S_drewN | apply Kd.S_drew)); exact HO_3.out)⟩; have n1_ : Aside0 (Below w.heap.size w wr) := ⟨by rw [← hq_]; exact (by repeat (first | (with_reducible first | exact HB.out | apply below_alloc | apply pw_below_drewN | apply below_drew1) | exact HB.out))⟩; clear HO_3 HB hq_; have HO_3 := n0_; have HB := n1_; clear n0_ n1_)); obtain ⟨i020, hi020, _, hsz20, _⟩ := info_parts info5; obtain ⟨A20, hcut20, hA20, hC20⟩ := print_mid_of (P := Try.prog) (Value.int .u8) 0 25 5 .i64 .i64 Try.underlying25 hi020 hsz20 (some ad321) c0 l0 t323 (wrap64 (t323 + (wrap64 (t322)))) (of_decide_eq_true (by first | (with_reducible assumption) | assumption)) (by first | omega | exact of_decide_eq_true (by first | (with_reducible assumption) | assumption)) (of_decide_eq_true (by first | (with_reducible assumption) | assumption)) HC0.out; have HR337 := Aside0.mk (Kd.C_of_reads (h1 := fun _ => rfl) (hA20 _ (Kd.reads_of_C HR0.out))); have HC337 := Aside0.mk hC20; clear hA20 hC20 hi020 hsz20) | ((with_reducible refine gate_callee (f := 29) rfl ?_); refine goesL_ (some 67) rfl rfl Try.func29 (by kernel_rfl) rfl #[.int .i64 (wrap64 (rd l0 x4_1)), .slice A20 ((l0.take ((wrap64 (t323 + (wrap64 (t322)))) : Int).toNat).drop (t323 : Int).toNat).length (c0 - t323.toNat)] rfl (by (try simp only [List.map_toArray, List.map_cons, List.map_nil]); first | done | (rw [show ((l0.take ((wrap64 (t323 + (wrap64 (t322)))) : Int).toNat).drop (t323 : Int).toNat).length = ((wrap64 (t323 + (wrap64 (t322)))).toNat - t323.toNat) from (by rw [List.length_drop, List.length_take]; have h_ : ((wrap64 (t323 + (wrap64 (t322)))) : Int) ≤ (l0.length : Int) := of_decide_eq_true (by first | (with_reducible assumption) | assumption); omega)] <;> rfl) | rfl | (simp only [List.length_drop, List.length_take]; rfl)) ?_; (with_reducible refine (temperaref21_Read.calls k1 (wrap64 (rd l0 x4_1)) _ _ ((l0.take ((wrap64 (t323 + (wrap64 (t322)))) : Int).toNat).drop (t323 : Int).toNat) t338 t339 t340 t341 t342 t343 t344 t347 t350 _ ?side1 ?side2 A18.out).mono ?_); (case side1 => repeat (first | exact (Kd.C_below HR337.out HB.out) | (with_reducible refine Kd.C_alloc ?_ _) | (with_reducible refine Kd.C_drewN ?_ _) | (with_reducible refine Kd.C_drew ?_))); (case side2 => exact HC337.out); rintro e w21 ⟨v345, v348, rfl, ho0, ho1, hb⟩; refine ⟨_, rfl, ?_⟩; have n0_ := Aside0.mk (Kd.S_mono (Kd.S_told (Kd.S_told (Kd.S_old (by (with_reducible repeat (first | apply Kd.S_alloc | apply Kd.S_drewN | apply Kd.S_drew)); exact HO_3.out) hb) (Kd.R_base ho0)) (Kd.R_base ho1)) (fun _ h_ => h_.1)); have n1_ := Aside0.mk (Kd.R_lower ho0 (below_size (by repeat (first | (with_reducible first | exact HB.out | apply below_alloc | apply pw_below_drewN | apply below_drew1) | exact HB.out)))); have n2_ := Aside0.mk (Kd.R_lower ho1 (below_size (by repeat (first | (with_reducible first | exact HB.out | apply below_alloc | apply pw_below_drewN | apply below_drew1) | exact HB.out)))); have n3_ := Aside0.mk (below_step (by repeat (first | (with_reducible first | exact HB.out | apply below_alloc | apply pw_below_drewN | apply below_drew1) | exact HB.out)) hb); clear HO_3; clear HB; have HO_3 := n0_; have HO346 := n1_; have HO349 := n2_; have HB := n3_; clear n0_ n1_ n2_ n3_; (try clear hb); (try clear hb2); (try clear hk); (try clear hi); (try clear ho0); (try clear ho1)) | ((with_reducible refine gate_dst (N := 10) rfl ?_); refine box_event ?hg (N := 10) ?hd (cs := #[.int .i64 0, .int .i64 0, .int .i64 0, .int .i64 0, .int .i64 0, .int .i64 0, .slice none 0 0, .slice none 0 0]) (t := 37) ?hr ?_; (case hd => rfl); (case hg => rfl); (case hr => first | (go_simp; done) | (go_simp; rfl)); intro gb351 hg w22 hbox hb; have n0_ := Aside0.mk (Kd.S_below (by (with_reducible repeat (first | apply Kd.S_alloc | apply Kd.S_drewN | apply Kd.S_drew)); exact HO_3.out) hb); have n1_ := Aside0.mk (Kd.R_below (by (with_reducible repeat (first | apply Kd.R_alloc | apply Kd.R_drewN | apply Kd.R_drew)); exact HO346.out) hb); have n2_ := Aside0.mk (Kd.R_below (by (with_reducible repeat (first | apply Kd.R_alloc | apply Kd.R_drewN | apply Kd.R_drew)); exact HO349.out) hb); have n3_ := Aside0.mk (below_step (by repeat (first | (with_reducible first | exact HB.out | apply below_alloc | apply pw_below_drewN | apply below_drew1) | exact HB.out)) hb); have n4_ := Aside0.mk (hbox); have n5_ := Aside0.mk ((by rw [hg]; exact (below_size (by repeat (first | (with_reducible first | exact HB.out | apply below_alloc | apply pw_below_drewN | apply below_drew1) | exact HB.out))) : w.heap.size ≤ gb351)); have n6_ := Aside0.mk ((by rw [hg]; exact (below_size (by repeat (first | (with_reducible first | exact HB.out | apply below_alloc | apply pw_below_drewN | apply below_drew1) | exact HB.out))) : w.heap.size ≤ gb351)); clear HO_3; clear HO346; clear HO349; clear HB; have HO_3 := n0_; have HO346 := n1_; have HO349 := n2_; have HB := n3_; have BK351 := n4_; have GW351 := n5_; have GE351 := n6_; clear n0_ n1_ n2_ n3_ n4_ n5_ n6_; clear hb hbox hg; have hcz23_0 : w22.cell? ⟨gb351, 0, none⟩ = some (.int .i64 0) := (blk_cell BK351.out 0).trans rfl; have hcz23_1 : w22.cell? ⟨gb351, 1, none⟩ = some (.int .i64 0) := (blk_cell BK351.out 1).trans rfl; have hcz23_2 : w22.cell? ⟨gb351, 2, none⟩ = some (.int .i64 0) := (blk_cell BK351.out 2).trans rfl; have hcz23_3 : w22.cell? ⟨gb351, 3, none⟩ = some (.int .i64 0) := (blk_cell BK351.out 3).trans rfl; have hcz23_4 : w22.cell? ⟨gb351, 4, none⟩ = some (.int .i64 0) := (blk_cell BK351.out 4).trans rfl; have hcz23_5 : w22.cell? ⟨gb351, 5, none⟩ = some (.int .i64 0) := (blk_cell BK351.out 5).trans rfl; have hcz23_6 : w22.cell? ⟨gb351, 6, none⟩ = some (.slice none 0 0) := (blk_cell BK351.out 6).trans rfl; have hcz23_7 : w22.cell? ⟨gb351, 7, none⟩ = some (.slice none 0 0) := (blk_cell BK351.out 7).trans rfl; have hfz23_0 := blk_frozen BK351.out 0; have hfz23_1 := blk_frozen BK351.out 1; have hfz23_2 := blk_frozen BK351.out 2; have hfz23_3 := blk_frozen BK351.out 3; have hfz23_4 := blk_frozen BK351.out 4; have hfz23_5 := blk_frozen BK351.out 5; have hfz23_6 := blk_frozen BK351.out 6; have hfz23_7 := blk_frozen BK351.out 7; obtain ⟨Ao24, co24, eo24⟩ := Kd.R_slice HO346.out; subst eo24; obtain ⟨Ao25, co25, eo25⟩ := Kd.R_slice HO349.out; subst eo25) | ((with_reducible refine gate_store (t := 37) (p := 10) rfl ?_); refine store_event (t := 37) (p := 10) (v := ?vo_w26) (w1 := ((((((((w22.setCell ⟨gb351, 0, none⟩ (.int .i64 t338)).setCell ⟨gb351, 1, none⟩ (.int .i64 t339)).setCell ⟨gb351, 2, none⟩ (.int .i64 t340)).setCell ⟨gb351, 3, none⟩ (.int .i64 t341)).setCell ⟨gb351, 4, none⟩ (.int .i64 t342)).setCell ⟨gb351, 5, none⟩ (.int .i64 t343)).setCell ⟨gb351, 6, none⟩ (.slice Ao24 t344.length co24)).setCell ⟨gb351, 7, none⟩ (.slice Ao25 t347.length co25))) ?hg ?ho ?hn ?hr ?_; (case ho => rfl); (case hg => rfl); (case hn => rfl); (case hr => first | (go_simp; done) | (go_simp; rfl)); intro w26 hw; have n0_ : Aside0 (Kd.S k46 46 w26 w.heap.size (fun k_ => some k_ ≠ (.slice Ao24 t344.length co24 : Value).ownBlock ∧ some k_ ≠ (.slice Ao25 t347.length co25 : Value).ownBlock) u3 x3_1) := ⟨(by rw [hw]; exact (by (with_reducible repeat (first | apply Kd.S_alloc | apply Kd.S_drewN | apply Kd.S_drew)); exact Kd.S_mono (Kd.S_far (p := ⟨gb351, 7, none⟩) (Kd.S_far (p := ⟨gb351, 6, none⟩) (Kd.S_far (p := ⟨gb351, 5, none⟩) (Kd.S_far (p := ⟨gb351, 4, none⟩) (Kd.S_far (p := ⟨gb351, 3, none⟩) (Kd.S_far (p := ⟨gb351, 2, none⟩) (Kd.S_far (p := ⟨gb351, 1, none⟩) (Kd.S_far (p := ⟨gb351, 0, none⟩) (Kd.S_types HO_3.out BK351.out (by decide)) (fun _ hk => hk.2) (.int .i64 t338)) (fun _ hk => hk.2) (.int .i64 t339)) (fun _ hk => hk.2) (.int .i64 t340)) (fun _ hk => hk.2) (.int .i64 t341)) (fun _ hk => hk.2) (.int .i64 t342)) (fun _ hk => hk.2) (.int .i64 t343)) (fun _ hk => hk.2) (.slice Ao24 t344.length co24)) (fun _ hk => hk.2) (.slice Ao25 t347.length co25)) (fun _ hk => ⟨hk.1.1.2, hk.1.2⟩)))⟩; have n1_ : Aside0 (Kd.R (Kd.int .i64) 3 w26 w.heap.size (fun _ => True) (.slice Ao24 t344.length co24) t344) := ⟨(by rw [hw]; exact (by (with_reducible repeat (first | apply Kd.R_alloc | apply Kd.R_drewN | apply Kd.R_drew)); exact Kd.R_mono (Kd.R_far (p := ⟨gb351, 7, none⟩) (Kd.R_far (p := ⟨gb351, 6, none⟩) (Kd.R_far (p := ⟨gb351, 5, none⟩) (Kd.R_far (p := ⟨gb351, 4, none⟩) (Kd.R_far (p := ⟨gb351, 3, none⟩) (Kd.R_far (p := ⟨gb351, 2, none⟩) (Kd.R_far (p := ⟨gb351, 1, none⟩) (Kd.R_far (p := ⟨gb351, 0, none⟩) (Kd.R_types HO346.out BK351.out (by decide)) (fun _ hk => hk.2) (.int .i64 t338)) (fun _ hk => hk.2) (.int .i64 t339)) (fun _ hk => hk.2) (.int .i64 t340)) (fun _ hk => hk.2) (.int .i64 t341)) (fun _ hk => hk.2) (.int .i64 t342)) (fun _ hk => hk.2) (.int .i64 t343)) (fun _ hk => hk.2) (.slice Ao24 t344.length co24)) (fun _ hk => hk.2) (.slice Ao25 t347.length co25)) (fun _ hk => trivial)))⟩; have n2_ : Aside0 (Kd.R k62 62 w26 w.heap.size (fun _ => True) (.slice Ao25 t347.length co25) t347) := ⟨(by rw [hw]; exact (by (with_reducible repeat (first | apply Kd.R_alloc | apply Kd.R_drewN | apply Kd.R_drew)); exact Kd.R_mono (Kd.R_far (p := ⟨gb351, 7, none⟩) (Kd.R_far (p := ⟨gb351, 6, none⟩) (Kd.R_far (p := ⟨gb351, 5, none⟩) (Kd.R_far (p := ⟨gb351, 4, none⟩) (Kd.R_far (p := ⟨gb351, 3, none⟩) (Kd.R_far (p := ⟨gb351, 2, none⟩) (Kd.R_far (p := ⟨gb351, 1, none⟩) (Kd.R_far (p := ⟨gb351, 0, none⟩) (Kd.R_types HO349.out BK351.out (by decide)) (fun _ hk => hk.2) (.int .i64 t338)) (fun _ hk => hk.2) (.int .i64 t339)) (fun _ hk => hk.2) (.int .i64 t340)) (fun _ hk => hk.2) (.int .i64 t341)) (fun _ hk => hk.2) (.int .i64 t342)) (fun _ hk => hk.2) (.int .i64 t343)) (fun _ hk => hk.2) (.slice Ao24 t344.length co24)) (fun _ hk => hk.2) (.slice Ao25 t347.length co25)) (fun _ hk => trivial)))⟩; have n3_ : Aside0 (w26.heap[gb351]? = some (.cells #[.int .i64 t338, .int .i64 t339, .int .i64 t340, .int .i64 t341, .int .i64 t342, .int .i64 t343, .slice Ao24 t344.length co24, .slice Ao25 t347.length co25] 37 (0, 0))) := ⟨(by rw [hw]; exact (by (with_reducible repeat (first | refine blk_drewN ?_ _ | refine blk_drew ?_ | refine blk_alloc ?_ _)); refine blk_put (cs := #[.int .i64 t338, .int .i64 t339, .int .i64 t340, .int .i64 t341, .int .i64 t342, .int .i64 t343, .slice Ao24 t344.length co24, .slice none 0 0]) ?_ 7 _ rfl; (with_reducible repeat (first | refine blk_drewN ?_ _ | refine blk_drew ?_ | refine blk_alloc ?_ _)); refine blk_put (cs := #[.int .i64 t338, .int .i64 t339, .int .i64 t340, .int .i64 t341, .int .i64 t342, .int .i64 t343, .slice none 0 0, .slice none 0 0]) ?_ 6 _ rfl; (with_reducible repeat (first | refine blk_drewN ?_ _ | refine blk_drew ?_ | refine blk_alloc ?_ _)); refine blk_put (cs := #[.int .i64 t338, .int .i64 t339, .int .i64 t340, .int .i64 t341, .int .i64 t342, .int .i64 0, .slice none 0 0, .slice none 0 0]) ?_ 5 _ rfl; (with_reducible repeat (first | refine blk_drewN ?_ _ | refine blk_drew ?_ | refine blk_alloc ?_ _)); refine blk_put (cs := #[.int .i64 t338, .int .i64 t339, .int .i64 t340, .int .i64 t341, .int .i64 0, .int .i64 0, .slice none 0 0, .slice none 0 0]) ?_ 4 _ rfl; (with_reducible repeat (first | refine blk_drewN ?_ _ | refine blk_drew ?_ | refine blk_alloc ?_ _)); refine blk_put (cs := #[.int .i64 t338, .int .i64 t339, .int .i64 t340, .int .i64 0, .int .i64 0, .int .i64 0, .slice none 0 0, .slice none 0 0]) ?_ 3 _ rfl; (with_reducible repeat (first | refine blk_drewN ?_ _ | refine blk_drew ?_ | refine blk_alloc ?_ _)); refine blk_put (cs := #[.int .i64 t338, .int .i64 t339, .int .i64 0, .int .i64 0, .int .i64 0, .int .i64 0, .slice none 0 0, .slice none 0 0]) ?_ 2 _ rfl; (with_reducible repeat (first | refine blk_drewN ?_ _ | refine blk_drew ?_ | refine blk_alloc ?_ _)); refine blk_put (cs := #[.int .i64 t338, .int .i64 0, .int .i64 0, .int .i64 0, .int .i64 0, .int .i64 0, .slice none 0 0, .slice none 0 0]) ?_ 1 _ rfl; (with_reducible repeat (first | refine blk_drewN ?_ _ | refine blk_drew ?_ | refine blk_alloc ?_ _)); refine blk_put (cs := #[.int .i64 0, .int .i64 0, .int .i64 0, .int .i64 0, .int .i64 0, .int .i64 0, .slice none 0 0, .slice none 0 0]) ?_ 0 _ rfl; (with_reducible repeat (first | refine blk_drewN ?_ _ | refine blk_drew ?_ | refine blk_alloc ?_ _)); exact BK351.out))⟩; have n4_ : Aside0 (Below w.heap.size w w26) := ⟨(by rw [hw]; exact (by repeat (first | (with_reducible first | exact HB.out | apply below_alloc | apply pw_below_drewN | apply below_drew1 | refine below_set ?_ GE351.out) | exact HB.out)))⟩; clear hw; clear HO_3; clear HO346; clear HO349; clear BK351; clear HB; have HO_3 := n0_; have HO346 := n1_; have HO349 := n2_; have BK351 := n3_; have HB := n4_; clear n0_ n1_ n2_ n3_ n4_; have hcz27_0 : w26.cell? ⟨gb351, 0, none⟩ = some (.int .i64 t338) := (blk_cell BK351.out 0).trans rfl; have hcz27_1 : w26.cell? ⟨gb351, 1, none⟩ = some (.int .i64 t339) := (blk_cell BK351.out 1).trans rfl; have hcz27_2 : w26.cell? ⟨gb351, 2, none⟩ = some (.int .i64 t340) := (blk_cell BK351.out 2).trans rfl; have hcz27_3 : w26.cell? ⟨gb351, 3, none⟩ = some (.int .i64 t341) := (blk_cell BK351.out 3).trans rfl; have hcz27_4 : w26.cell? ⟨gb351, 4, none⟩ = some (.int .i64 t342) := (blk_cell BK351.out 4).trans rfl; have hcz27_5 : w26.cell? ⟨gb351, 5, none⟩ = some (.int .i64 t343) := (blk_cell BK351.out 5).trans rfl; have hcz27_6 : w26.cell? ⟨gb351, 6, none⟩ = some (.slice Ao24 t344.length co24) := (blk_cell BK351.out 6).trans rfl; have hcz27_7 : w26.cell? ⟨gb351, 7, none⟩ = some (.slice Ao25 t347.length co25) := (blk_cell BK351.out 7).trans rfl; have hfz27_0 := blk_frozen BK351.out 0; have hfz27_1 := blk_frozen BK351.out 1; have hfz27_2 := blk_frozen BK351.out 2; have hfz27_3 := blk_frozen BK351.out 3; have hfz27_4 := blk_frozen BK351.out 4; have hfz27_5 := blk_frozen BK351.out 5; have hfz27_6 := blk_frozen BK351.out 6; have hfz27_7 := blk_frozen BK351.out 7) | ((with_reducible refine gate_builtin (b := .append) (xs := #[.tmp 70, .tmp 74]) rfl ?_); at_builtin; refine Kd.S_append k46 (w0 := w) w.heap.size rfl (.tmp 70) (.tmp 74) 43 46 (.agg #[(.int .i64 0), (.int .i64 0), (.int .i64 0), (.int .i64 0), (.int .i64 0), (.int .i64 0), (.slice none 0 0), (.slice none 0 0), (.int .i64 0)]) 104 rfl Try.underlying43 info46 rfl (by decide) (by omega) u3 x3_1 (⟨(⟨t338, t339, t340, t341, t342, t343, t344, t347⟩ : S37), t350⟩ : S46) [.int .i64 t338, .int .i64 t339, .int .i64 t340, .int .i64 t341, .int .i64 t342, .int .i64 t343, .slice Ao24 t344.length co24, .slice Ao25 t347.length co25, .int .i64 t350] (fun _ => True) (fun k_ => some k_ = (.slice Ao24 t344.length co24 : Value).ownBlock ∨ some k_ = (.slice Ao25 t347.length co25 : Value).ownBlock) rfl rfl ?aP (fun k_ hk_ => hk_.elim (fun h_ => ((Kd.R_mono (ok' := fun k_ => ((fun _ => True)) k_ ∧ some k_ ≠ (u3 : Value).ownBlock) (Kd.R_apart' (HO346.out) (Kd.S_typed HO_3.out) (by decide)) (fun k_ hk => ⟨trivial, hk.2⟩))).1 k_ h_.symm) (fun h_ => ((Kd.R_mono (ok' := fun k_ => ((fun _ => True)) k_ ∧ some k_ ≠ (u3 : Value).ownBlock) (Kd.R_apart' (HO349.out) (Kd.S_typed HO_3.out) (by decide)) (fun k_ hk => ⟨trivial, hk.2⟩))).1 k_ h_.symm)) ?aF ?aO ?aB ?aS ?aL ?_; (case aP => exact k46_mkM _ _ _ (⟨(⟨t338, t339, t340, t341, t342, t343, t344, t347⟩ : S37), t350⟩ : S46) (Kd.R_mono (Kd.R_tight rfl (Kd.R_mono (ok' := fun k_ => ((fun _ => True)) k_ ∧ some k_ ≠ (u3 : Value).ownBlock) (Kd.R_apart' (HO346.out) (Kd.S_typed HO_3.out) (by decide)) (fun k_ hk => ⟨trivial, hk.2⟩))) (fun _ h_ => Or.inl h_)) (Kd.R_mono (Kd.R_tight rfl (Kd.R_mono (ok' := fun k_ => ((fun _ => True)) k_ ∧ some k_ ≠ (u3 : Value).ownBlock) (Kd.R_apart' (HO349.out) (Kd.S_typed HO_3.out) (by decide)) (fun k_ hk => ⟨trivial, hk.2⟩))) (fun _ h_ => Or.inr (h_)))); (case aB => exact (by repeat (first | (with_reducible first | exact HB.out | apply below_alloc | apply pw_below_drewN | apply below_drew1 | refine below_set ?_ GE351.out) | exact HB.out))); (case aF => exact (fun _ _ => trivial)); (case aO => exact (by (with_reducible repeat (first | apply Kd.S_alloc | apply Kd.S_drewN | apply Kd.S_drew)); exact Kd.S_mono HO_3.out (fun k_ hk => ⟨trivial, fun e_ => e_.elim (fun h_ => hk.1 h_) (fun h_ => hk.2 h_)⟩))); (case aS => exact (below_size (by repeat (first | (with_reducible first | exact HB.out | apply below_alloc | apply pw_below_drewN | apply below_drew1 | refine below_set ?_ GE351.out) | exact HB.out)))); (case aL => have := LMc19.out; omega); intro v353 w28 ho hb hg hat; rw [← Ny352.out] at ho; have n0_ := Aside0.mk (blk_grown (g := gb351) (o := .cells #[.int .i64 t338, .int .i64 t339, .int .i64 t340, .int .i64 t341, .int .i64 t342, .int .i64 t343, .slice Ao24 t344.length co24, .slice Ao25 t347.length co25] 37 (0, 0)) (by (with_reducible repeat (first | refine blk_drewN ?_ _ | refine blk_drew ?_ | refine blk_alloc ?_ _)); exact BK351.out) hg (Kd.S_ne HO_3.out BK351.out (by decide))); have n1_ := Aside0.mk (hb); have n2_ := Aside0.mk (ho); clear BK351; clear HB; clear HO_3; clear HO346; clear HO349; have BK351 := n0_; have HB := n1_; have HO354 := n2_; clear n0_ n1_ n2_; clear ho hb hg hat))
             go_roundg k1
             case measure => have := HK1.out; omega
             case rel => exact ⟨(y352), (wrap64 (t323 + (wrap64 (t322)))), (by first | rfl | (simp; done) | (simp [*]; done)), H', ⟨by have := HK1.out; omega⟩, ⟨by (with_reducible repeat (first | apply Kd.S_alloc | apply Kd.S_drewN | apply Kd.S_drew)); exact HO354.out⟩, ⟨by repeat (first | (with_reducible first | exact HB.out | apply below_alloc | apply pw_below_drewN | apply below_drew1 | refine below_set ?_ GE351.out) | exact HB.out)⟩⟩
            ·rw [if_neg c19] at H
             exact absurd H (by simp)
           ·rw [if_neg c17] at H
            exact absurd H (by simp)
          ·rw [if_neg c16] at H
           exact absurd H (by simp)
         ·rw [if_neg c15] at H
          exact absurd H (by simp)
     ·rw [if_neg c5] at H
      have c5b0 : (t324 == 0) = false := beq_eq_false_iff_ne.mpr c5
      have c5b1 : (t324 != 0) = true := bne_iff_ne.mpr c5
      by_cases c29 : x3_1.length < 1353245080339
      ·rw [if_pos c29] at H
       have LMc29 := Aside0.mk c29
       clear c29
       obtain ⟨y325, hy325⟩ : ∃ y_ : List (S46), y_ = (x3_1 ++ [(⟨(⟨0, 0, 0, 0, 0, 0, ([] : List Int), ([] : List (S62))⟩ : S37), t324⟩ : S46)]) := ⟨_, rfl⟩
       replace H : (some y325) = some r := by first | (rw [hy325]; with_reducible exact H) | (have H2_ := (Option.bind_some _ _).symm.trans H; rw [hy325]; with_reducible exact H2_) | (have H2_ := (Option.bind_some _ _).symm.trans H; with_reducible exact H2_) | with_reducible exact H | (rw [hy325]; exact H) | exact H
       have Ny325 := Aside0.mk hy325
       clear hy325
       obtain rfl := Option.some.inj H
       have p321 : 0 ≤ (x4_1 : Int) := of_decide_eq_true (by first | (with_reducible assumption) | assumption)
       have q321 : x4_1 < (l0.length : Int) := of_decide_eq_true (by first | (with_reducible assumption) | assumption)
       obtain ⟨ad321, e321, hx321_0⟩ := Kd.at_int HR0.out x4_1 p321 q321
       cases e321
       replace hx321_0 := (HB.out.cell (World.block_lt_of_cell? w _ hx321_0)).trans hx321_0
       replace p321 := eq_true p321
       replace q321 := eq_true q321
       go_wp2_with (first | ((with_reducible refine gate_callee (f := 28) rfl ?_); refine goesL_ (some 25) rfl rfl Try.func28 (by kernel_rfl) rfl #[.slice (some ad321) l0.length c0, .int .i64 (wrap64 (x4_1 + 1))] rfl (by (try simp only [List.map_toArray, List.map_cons, List.map_nil]); first | done | rfl | (simp only [List.length_drop, List.length_take]; rfl)) ?_; (with_reducible refine (temperaref21_ReadCount.calls k1 _ _ l0 (wrap64 (x4_1 + 1)) t322 t323 t324 _ ?side1 ?side2 A4.out).mono ?_); (case side1 => repeat (first | exact (Kd.C_below HR0.out HB.out) | (with_reducible refine Kd.C_alloc ?_ _) | (with_reducible refine Kd.C_drewN ?_ _) | (with_reducible refine Kd.C_drew ?_))); (case side2 => exact HC0.out); rintro e w' ⟨rfl, ⟨nd, rfl⟩⟩; refine ⟨_, rfl, ?_⟩) | ((with_reducible refine gate_builtin (b := .append) (xs := #[.tmp 31, .tmp 34]) rfl ?_); at_builtin; refine Kd.S_append k46 (w0 := w) w.heap.size rfl (.tmp 31) (.tmp 34) 43 46 (.agg #[(.int .i64 0), (.int .i64 0), (.int .i64 0), (.int .i64 0), (.int .i64 0), (.int .i64 0), (.slice none 0 0), (.slice none 0 0), (.int .i64 0)]) 104 rfl Try.underlying43 info46 rfl (by decide) (by omega) u3 x3_1 (⟨(⟨0, 0, 0, 0, 0, 0, ([] : List Int), ([] : List (S62))⟩ : S37), t324⟩ : S46) [.int .i64 0, .int .i64 0, .int .i64 0, .int .i64 0, .int .i64 0, .int .i64 0, .slice none 0 0, .slice none 0 0, .int .i64 t324] (fun _ => True) (fun _ => False) rfl rfl ?aP (fun k_ hk_ => hk_.elim) ?aF ?aO ?aB ?aS ?aL ?_; (case aP => exact k46_mkM _ _ _ (⟨(⟨0, 0, 0, 0, 0, 0, ([] : List Int), ([] : List (S62))⟩ : S37), t324⟩ : S46) (Kd.R_nil _ _ _ _ _) (Kd.R_nil _ _ _ _ _)); (case aB => exact (by repeat (first | (with_reducible first | exact HB.out | apply below_alloc | apply pw_below_drewN | apply below_drew1) | exact HB.out))); (case aF => exact (fun _ _ => trivial)); (case aO => exact (by (with_reducible repeat (first | apply Kd.S_alloc | apply Kd.S_drewN | apply Kd.S_drew)); exact Kd.S_mono HO_3.out (fun k_ hk => ⟨trivial, fun e_ => e_⟩))); (case aS => exact (below_size (by repeat (first | (with_reducible first | exact HB.out | apply below_alloc | apply pw_below_drewN | apply below_drew1) | exact HB.out)))); (case aL => have := LMc29.out; omega); intro v326 w30 ho hb hg hat; rw [← Ny325.out] at ho; have n0_ := Aside0.mk (hb); have n1_ := Aside0.mk (ho); clear HB; clear HO_3; have HB := n0_; have HO327 := n1_; clear n0_ n1_; clear ho hb hg hat))
       go_ret
       exact ⟨_, by first | rfl | (simp [errW_none, errW_some] <;> rfl) | (simp [*, errW_none, errW_some] <;> rfl), by (with_reducible repeat (first | apply Kd.S_alloc | apply Kd.S_drewN | apply Kd.S_drew)); exact HO327.out, by repeat (first | (with_reducible first | exact HB.out | apply below_alloc | apply pw_below_drewN | apply below_drew1) | exact HB.out)⟩
      ·rw [if_neg c29] at H
       exact absurd H (by simp)
    ·rw [if_neg c3] at H
     exact absurd H (by simp)
   ·rw [if_neg c2] at H
    have c2b0 : decide (x4_1 < (l0.length : Int)) = false := decide_eq_false c2
    clear c2
    obtain rfl := Option.some.inj H
    go_wp2
    go_ret
    exact ⟨_, by first | rfl | (simp [errW_none, errW_some] <;> rfl) | (simp [*, errW_none, errW_some] <;> rfl), by (with_reducible repeat (first | apply Kd.S_alloc | apply Kd.S_drewN | apply Kd.S_drew)); exact HO_3.out, by repeat (first | (with_reducible first | exact HB.out | apply below_alloc | apply pw_below_drewN | apply below_drew1) | exact HB.out)⟩
end Go.Proofs.Ytpgjkndijdleeaa.PCode
end
