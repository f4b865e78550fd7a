/- The walk of the law EdgeShared: at whatever points and pixel it returns true, and nothing that was in memory is turned. Conditions: none. The walk of the region that lays the four points, and of the region with several calls, was written by myprint.py (my own program over the kit's print). -/
import Derived.Test.YtbbadldapnanpaaEdgePlain
namespace Go.Proofs.Ytbbadldapnanpaa.PEdge
open Go.RowKit Go.Proofs.YtbbadldapnanpaaW.PrintWords Go.Proofs.YtbbadldapnanpaaW.PrintLast Go.Proofs.YtbbadldapnanpaaW.PrintMore
attribute [local go_sem] max2_int min2_int max_two min_two max_three min_three max_four min_four   -- for this text's walks alone
set_option linter.unusedVariables false
set_option linter.unusedSimpArgs false

theorem ak {p : Prop} (h : p) : Aside0 p := ⟨h⟩

/-- The triangle's box and the four points' boxes as they stand. -/
structure Five (w wc : World) (g0 g1 g2 g3 g4 : Nat) (a0_0 a0_1 a0_2 a0_3 a0_4 a0_5 a0_6 a0_7 : Int) : Prop where
  k0 : wc.heap[g0]? = some (.cells #[.int .i64 a0_0, .int .i64 a0_1, .int .i64 a0_2, .int .i64 a0_3, .int .i64 a0_4, .int .i64 a0_5, .int .i64 a0_6, .int .i64 a0_7] 36 (0, 0))
  k1 : wc.heap[g1]? = some (.cells #[.int .i64 a0_0, .int .i64 a0_1] 23 (0, 0))
  k2 : wc.heap[g2]? = some (.cells #[.int .i64 a0_2, .int .i64 a0_3] 23 (0, 0))
  k3 : wc.heap[g3]? = some (.cells #[.int .i64 a0_4, .int .i64 a0_5] 23 (0, 0))
  k4 : wc.heap[g4]? = some (.cells #[.int .i64 a0_6, .int .i64 a0_7] 23 (0, 0))
  b : Below w.heap.size w wc
section
variable {w wc w1 : World} {g0 g1 g2 g3 g4 : Nat} {a0_0 a0_1 a0_2 a0_3 a0_4 a0_5 a0_6 a0_7 : Int}
theorem Five.step (h : Five w wc g0 g1 g2 g3 g4 a0_0 a0_1 a0_2 a0_3 a0_4 a0_5 a0_6 a0_7) (hb : Below wc.heap.size wc w1) : Five w w1 g0 g1 g2 g3 g4 a0_0 a0_1 a0_2 a0_3 a0_4 a0_5 a0_6 a0_7 := ⟨blk_below h.k0 hb, blk_below h.k1 hb, blk_below h.k2 hb, blk_below h.k3 hb, blk_below h.k4 hb, below_step h.b hb⟩
theorem Five.drewN (h : Five w wc g0 g1 g2 g3 g4 a0_0 a0_1 a0_2 a0_3 a0_4 a0_5 a0_6 a0_7) (n : Nat) : Five w (wc.drewN n) g0 g1 g2 g3 g4 a0_0 a0_1 a0_2 a0_3 a0_4 a0_5 a0_6 a0_7 := ⟨blk_drewN h.k0 n, blk_drewN h.k1 n, blk_drewN h.k2 n, blk_drewN h.k3 n, blk_drewN h.k4 n, pw_below_drewN h.b n⟩
theorem Five.drew (h : Five w wc g0 g1 g2 g3 g4 a0_0 a0_1 a0_2 a0_3 a0_4 a0_5 a0_6 a0_7) : Five w wc.drew g0 g1 g2 g3 g4 a0_0 a0_1 a0_2 a0_3 a0_4 a0_5 a0_6 a0_7 := ⟨blk_drew h.k0, blk_drew h.k1, blk_drew h.k2, blk_drew h.k3, blk_drew h.k4, below_drew h.b⟩
theorem Five.alloc (h : Five w wc g0 g1 g2 g3 g4 a0_0 a0_1 a0_2 a0_3 a0_4 a0_5 a0_6 a0_7) (o : Obj) : Five w (wc.alloc o) g0 g1 g2 g3 g4 a0_0 a0_1 a0_2 a0_3 a0_4 a0_5 a0_6 a0_7 := ⟨blk_alloc h.k0 o, blk_alloc h.k1 o, blk_alloc h.k2 o, blk_alloc h.k3 o, blk_alloc h.k4 o, below_alloc h.b o⟩
theorem Five.c0 (h : Five w wc g0 g1 g2 g3 g4 a0_0 a0_1 a0_2 a0_3 a0_4 a0_5 a0_6 a0_7) : wc.cell? ⟨g1, 0, none⟩ = some (.int .i64 a0_0) := (blk_cell h.k1 0).trans rfl
theorem Five.c1 (h : Five w wc g0 g1 g2 g3 g4 a0_0 a0_1 a0_2 a0_3 a0_4 a0_5 a0_6 a0_7) : wc.cell? ⟨g1, 1, none⟩ = some (.int .i64 a0_1) := (blk_cell h.k1 1).trans rfl
theorem Five.c2 (h : Five w wc g0 g1 g2 g3 g4 a0_0 a0_1 a0_2 a0_3 a0_4 a0_5 a0_6 a0_7) : wc.cell? ⟨g2, 0, none⟩ = some (.int .i64 a0_2) := (blk_cell h.k2 0).trans rfl
theorem Five.c3 (h : Five w wc g0 g1 g2 g3 g4 a0_0 a0_1 a0_2 a0_3 a0_4 a0_5 a0_6 a0_7) : wc.cell? ⟨g2, 1, none⟩ = some (.int .i64 a0_3) := (blk_cell h.k2 1).trans rfl
theorem Five.c4 (h : Five w wc g0 g1 g2 g3 g4 a0_0 a0_1 a0_2 a0_3 a0_4 a0_5 a0_6 a0_7) : wc.cell? ⟨g3, 0, none⟩ = some (.int .i64 a0_4) := (blk_cell h.k3 0).trans rfl
theorem Five.c5 (h : Five w wc g0 g1 g2 g3 g4 a0_0 a0_1 a0_2 a0_3 a0_4 a0_5 a0_6 a0_7) : wc.cell? ⟨g3, 1, none⟩ = some (.int .i64 a0_5) := (blk_cell h.k3 1).trans rfl
theorem Five.c6 (h : Five w wc g0 g1 g2 g3 g4 a0_0 a0_1 a0_2 a0_3 a0_4 a0_5 a0_6 a0_7) : wc.cell? ⟨g4, 0, none⟩ = some (.int .i64 a0_6) := (blk_cell h.k4 0).trans rfl
theorem Five.c7 (h : Five w wc g0 g1 g2 g3 g4 a0_0 a0_1 a0_2 a0_3 a0_4 a0_5 a0_6 a0_7) : wc.cell? ⟨g4, 1, none⟩ = some (.int .i64 a0_7) := (blk_cell h.k4 1).trans rfl
end
def edgeShared.T1 : Bool × List (List Nat × List Nat) := (true, [([], []), ([0], [0]), ([], []), ([2], [2]), ([], []), ([4], [4]), ([], []), ([6], [6]), ([], []), ([], []), ([], []), ([], []), ([8, 1, 0, 1, 8, 9, 10, 11], [1, 8]), ([9, 3, 12, 0, 1, 2, 3, 8, 9, 10, 11, 12], [3, 9]), ([10, 5, 13, 0, 1, 2, 3, 4, 5, 8, 9, 10, 11, 12, 13], [5, 10]), ([11, 7, 14, 0, 1, 2, 3, 4, 5, 6, 7, 8, 9, 10, 11, 12, 13, 14], [7, 11])])
def edgeShared.B1 : List Nat := [0, 1, 0, 4, 0, 16, 0, 64, 0, 0, 0, 0, 3843, 7951, 16191, 32767]
theorem edgeShared.tab1 : rtab .any (opsOf Try.f4 1) = edgeShared.T1 := by kernel_rfl
theorem edgeShared.bits1 : waitsOk edgeShared.T1.2 edgeShared.B1 = true := by kernel_rfl
def edgeShared.T4 : Bool × List (List Nat × List Nat) := (true, [([], []), ([], []), ([], []), ([], []), ([], []), ([0, 1, 2, 3, 4], [0, 1, 2, 3, 4]), ([], []), ([], []), ([], []), ([], []), ([], []), ([6, 7, 8, 9, 10, 5], [6, 7, 8, 9, 10]), ([5, 11, 0, 1, 2, 3, 4, 5], [5]), ([11, 12, 0, 1, 2, 3, 4, 5, 6, 7, 8, 9, 10, 11, 12], [11])])
def edgeShared.B4 : List Nat := [0, 0, 0, 0, 0, 31, 0, 0, 0, 0, 0, 2047, 4095, 8191]
theorem edgeShared.tab4 : rtab .any (opsOf Try.f4 4) = edgeShared.T4 := by kernel_rfl
theorem edgeShared.bits4 : waitsOk edgeShared.T4.2 edgeShared.B4 = true := by kernel_rfl
set_option maxHeartbeats 8000000 in
set_option maxRecDepth 100000 in
theorem edgeShared_main (a0_0 a0_1 a0_2 a0_3 a0_4 a0_5 a0_6 a0_7 a1 a2 : Int) (m0 m1 m2 m3 mf G : Bool) (s1 s2 : Int) (w : World) (hm0 : temperaref12_May.f a0_0 a0_1 = some m0) (hm1 : temperaref12_May.f a0_2 a0_3 = some m1) (hm2 : temperaref12_May.f a0_4 a0_5 = some m2) (hm3 : temperaref12_May.f a0_6 a0_7 = some m3) (hf : temperaref12_Fits.f a1 a2 = some mf) (hS1 : temperaref12_Side.f a0_0 a0_1 a0_2 a0_3 a0_4 a0_5 = some s1) (hS2 : temperaref12_Side.f a0_2 a0_3 a0_0 a0_1 a0_6 a0_7 = some s2) (hG : G = !(m0 && (m1 && (m2 && (m3 && (mf && decide (0 < s1) && (decide (0 < s2))))))))  (hfin : G = false → ∃ t138 t139 q1 q2 s3 s4 s5 s6 s7 : Int, temperalaw12_has.f a0_0 a0_1 a0_2 a0_3 a0_4 a0_5 a1 a2 = some t138 ∧ temperalaw12_has.f a0_2 a0_3 a0_0 a0_1 a0_6 a0_7 a1 a2 = some t139 ∧ 0 ≤ t138 ∧ t138 ≤ 1 ∧ 0 ≤ t139 ∧ t139 ≤ 1 ∧ t138 + t139 ≤ 1 ∧ temperaref12_Middle.f a1 a2 = some (q1, q2) ∧ temperaref12_Side.f a0_0 a0_1 a0_2 a0_3 q1 q2 = some s3 ∧ temperaref12_Side.f a0_2 a0_3 a0_4 a0_5 q1 q2 = some s4 ∧ temperaref12_Side.f a0_4 a0_5 a0_0 a0_1 q1 q2 = some s5 ∧ temperaref12_Side.f a0_0 a0_1 a0_6 a0_7 q1 q2 = some s6 ∧ temperaref12_Side.f a0_6 a0_7 a0_2 a0_3 q1 q2 = some s7 ∧ (s3 = 0 → 0 < s4 → 0 < s5 → 0 < s6 → 0 < s7 → t138 + t139 = 1)) :
    Calls Try.prog 4 #[.agg #[.int .i64 a0_0, .int .i64 a0_1, .int .i64 a0_2, .int .i64 a0_3, .int .i64 a0_4, .int .i64 a0_5, .int .i64 a0_6, .int .i64 a0_7], .int .i64 a1, .int .i64 a2] w fun e w' => e = .returned (.bool true) ∧ Below w.heap.size w w' := by
 have hu36 := Try.underlying36
 have hu23 := Try.underlying23
 have HB := ak (Below.refl w.heap.size w)
 have M0 := ak hm0
 have M1 := ak hm1
 have M2 := ak hm2
 have M3 := ak hm3
 have MF := ak hf
 have S1 := ak hS1
 have S2 := ak hS2
 have HG := ak hG
 have HFIN := ak hfin
 clear hm0 hm1 hm2 hm3 hf hG hfin hS1 hS2
 go_enter Try.func4, Try.ntmps4
 try go_wp2_with (first | ((with_reducible refine gate_dst (N := 3) rfl ?_); refine box_event ?hg (N := 3) ?hd (cs := #[.int .i64 a0_0, .int .i64 a0_1, .int .i64 a0_2, .int .i64 a0_3, .int .i64 a0_4, .int .i64 a0_5, .int .i64 a0_6, .int .i64 a0_7]) (t := 36) ?hr ?_; (case hd => rfl); (case hg => rfl); (case hr => first | (go_simp; done) | (go_simp; rfl)); intro gb125 hg w5 hbox hb; have n0_ := ak (below_step (by first | exact HB.out | exact below_drew1 HB.out) hb); have n1_ := ak (hbox); have n2_ := ak ((by rw [hg]; exact (below_size (by first | exact HB.out | exact below_drew1 HB.out)) : w.heap.size ≤ gb125)); have n3_ := ak ((by rw [hg]; exact (below_size (by first | exact HB.out | exact below_drew1 HB.out)) : w.heap.size ≤ gb125)); clear HB; have HB := n0_; have BK125 := n1_; have GW125 := n2_; have GE125 := n3_; clear n0_ n1_ n2_ n3_; clear hb hbox hg))
 have n0_ := ak (blk_drew BK125.out)
 have n1_ := ak (below_drew1 HB.out)
 clear BK125
 clear HB
 have BK125 := n0_
 have HB := n1_
 clear n0_ n1_
 refine start_ (n := 16) (S := fun w' => w'.cell? ⟨gb125, 0, none⟩ = some (.int .i64 a0_0) ∧ w'.cell? ⟨gb125, 1, none⟩ = some (.int .i64 a0_1) ∧ w'.cell? ⟨gb125, 2, none⟩ = some (.int .i64 a0_2) ∧ w'.cell? ⟨gb125, 3, none⟩ = some (.int .i64 a0_3) ∧ w'.cell? ⟨gb125, 4, none⟩ = some (.int .i64 a0_4) ∧ w'.cell? ⟨gb125, 5, none⟩ = some (.int .i64 a0_5) ∧ w'.cell? ⟨gb125, 6, none⟩ = some (.int .i64 a0_6) ∧ w'.cell? ⟨gb125, 7, none⟩ = some (.int .i64 a0_7)) (ds := []) #[false, false, false, false, false, false, false, false, false, false, false, false, false, false, false, false] (by kernel_rfl) rfl rfl ⟨(blk_cell BK125.out 0).trans rfl, (blk_cell BK125.out 1).trans rfl, (blk_cell BK125.out 2).trans rfl, (blk_cell BK125.out 3).trans rfl, (blk_cell BK125.out 4).trans rfl, (blk_cell BK125.out 5).trans rfl, (blk_cell BK125.out 6).trans rfl, (blk_cell BK125.out 7).trans rfl⟩ (fun hHeld => ?_); refine with_tabW edgeShared.tab1 edgeShared.bits1 (fun HT_ HW_ => ?_)
 generalize w5.drew = w6 at BK125 HB hHeld ⊢
 refine pure_ (i := 0) (N := some 15) (v := ?_) (a' := ?_) #[true, false, false, false, false, false, false, false, false, false, false, false, false, false, false, false] rfl rfl (any_of HT_.out (by kernel_rfl)) (fun _ _ _ h => h) (Or.inl ⟨by rfl, ?_⟩) ?_ ?_
 rotate_left
 ·intro w'
  go_simp
  with_reducible rfl
 rotate_left
 ·simp only [Act.put, List.setIfInBounds_toArray, List.set_cons_zero, List.set_cons_succ, i64_w, i32_w]
  rfl
 refine pure_ (i := 2) (N := some 17) (v := ?_) (a' := ?_) #[true, false, true, false, false, false, false, false, false, false, false, false, false, false, false, false] rfl rfl (any_of HT_.out (by kernel_rfl)) (fun _ _ _ h => h) (Or.inl ⟨by rfl, ?_⟩) ?_ ?_
 rotate_left
 ·intro w'
  go_simp
  with_reducible rfl
 rotate_left
 ·simp only [Act.put, List.setIfInBounds_toArray, List.set_cons_zero, List.set_cons_succ, i64_w, i32_w]
  rfl
 refine pure_ (i := 4) (N := some 19) (v := ?_) (a' := ?_) #[true, false, true, false, true, false, false, false, false, false, false, false, false, false, false, false] rfl rfl (any_of HT_.out (by kernel_rfl)) (fun _ _ _ h => h) (Or.inl ⟨by rfl, ?_⟩) ?_ ?_
 rotate_left
 ·intro w'
  go_simp
  with_reducible rfl
 rotate_left
 ·simp only [Act.put, List.setIfInBounds_toArray, List.set_cons_zero, List.set_cons_succ, i64_w, i32_w]
  rfl
 refine pure_ (i := 6) (N := some 21) (v := ?_) (a' := ?_) #[true, false, true, false, true, false, true, false, false, false, false, false, false, false, false, false] rfl rfl (any_of HT_.out (by kernel_rfl)) (fun _ _ _ h => h) (Or.inl ⟨by rfl, ?_⟩) ?_ ?_
 rotate_left
 ·intro w'
  go_simp
  with_reducible rfl
 rotate_left
 ·simp only [Act.put, List.setIfInBounds_toArray, List.set_cons_zero, List.set_cons_succ, i64_w, i32_w]
  rfl
 refine take_ (i := 1) (N := some 16) (v := ?_) (a' := ?_) #[true, true, true, false, true, false, true, false, false, false, false, false, false, false, false, false] rfl rfl (take_ofW HT_.out HW_.out (by kernel_rfl)) (fun _ _ _ h => h) (Or.inl ⟨by rfl, ?_⟩) hHeld ?_ ?_
 rotate_left
 ·rintro w' ⟨s0, s1, s2, s3, s4, s5, s6, s7⟩
  go_simp
  with_reducible rfl
 rotate_left
 ·simp only [Act.put, List.setIfInBounds_toArray, List.set_cons_zero, List.set_cons_succ, i64_w, i32_w]
  rfl
 refine take_ (i := 3) (N := some 18) (v := ?_) (a' := ?_) #[true, true, true, true, true, false, true, false, false, false, false, false, false, false, false, false] rfl rfl (take_ofW HT_.out HW_.out (by kernel_rfl)) (fun _ _ _ h => h) (Or.inl ⟨by rfl, ?_⟩) hHeld ?_ ?_
 rotate_left
 ·rintro w' ⟨s0, s1, s2, s3, s4, s5, s6, s7⟩
  go_simp
  with_reducible rfl
 rotate_left
 ·simp only [Act.put, List.setIfInBounds_toArray, List.set_cons_zero, List.set_cons_succ, i64_w, i32_w]
  rfl
 refine take_ (i := 5) (N := some 20) (v := ?_) (a' := ?_) #[true, true, true, true, true, true, true, false, false, false, false, false, false, false, false, false] rfl rfl (take_ofW HT_.out HW_.out (by kernel_rfl)) (fun _ _ _ h => h) (Or.inl ⟨by rfl, ?_⟩) hHeld ?_ ?_
 rotate_left
 ·rintro w' ⟨s0, s1, s2, s3, s4, s5, s6, s7⟩
  go_simp
  with_reducible rfl
 rotate_left
 ·simp only [Act.put, List.setIfInBounds_toArray, List.set_cons_zero, List.set_cons_succ, i64_w, i32_w]
  rfl
 refine take_ (i := 7) (N := some 22) (v := ?_) (a' := ?_) #[true, true, true, true, true, true, true, true, false, false, false, false, false, false, false, false] rfl rfl (take_ofW HT_.out HW_.out (by kernel_rfl)) (fun _ _ _ h => h) (Or.inl ⟨by rfl, ?_⟩) hHeld ?_ ?_
 rotate_left
 ·rintro w' ⟨s0, s1, s2, s3, s4, s5, s6, s7⟩
  go_simp
  with_reducible rfl
 rotate_left
 ·simp only [Act.put, List.setIfInBounds_toArray, List.set_cons_zero, List.set_cons_succ, i64_w, i32_w]
  rfl
 refine join_ (σ := Nat × Nat × Nat × Nat) 4 #[true, true, true, true, true, true, true, true, true, true, true, true, false, false, false, false] (fun s_ => [(7, .pointer (some ⟨s_.1, 0, none⟩)), (8, .pointer (some ⟨s_.2.1, 0, none⟩)), (9, .pointer (some ⟨s_.2.2.1, 0, none⟩)), (10, .pointer (some ⟨s_.2.2.2, 0, none⟩))]) (fun s_ w' => (w'.cell? ⟨gb125, 0, none⟩ = some (.int .i64 a0_0) ∧ w'.cell? ⟨gb125, 1, none⟩ = some (.int .i64 a0_1) ∧ w'.cell? ⟨gb125, 2, none⟩ = some (.int .i64 a0_2) ∧ w'.cell? ⟨gb125, 3, none⟩ = some (.int .i64 a0_3) ∧ w'.cell? ⟨gb125, 4, none⟩ = some (.int .i64 a0_4) ∧ w'.cell? ⟨gb125, 5, none⟩ = some (.int .i64 a0_5) ∧ w'.cell? ⟨gb125, 6, none⟩ = some (.int .i64 a0_6) ∧ w'.cell? ⟨gb125, 7, none⟩ = some (.int .i64 a0_7)) ∧ (w'.heap[gb125]? = some (.cells #[.int .i64 a0_0, .int .i64 a0_1, .int .i64 a0_2, .int .i64 a0_3, .int .i64 a0_4, .int .i64 a0_5, .int .i64 a0_6, .int .i64 a0_7] 36 (0, 0))) ∧ (w'.heap[s_.1]? = some (.cells #[.int .i64 0, .int .i64 0] 23 (0, 0))) ∧ (w'.heap[s_.2.1]? = some (.cells #[.int .i64 0, .int .i64 0] 23 (0, 0))) ∧ (w'.heap[s_.2.2.1]? = some (.cells #[.int .i64 0, .int .i64 0] 23 (0, 0))) ∧ (w'.heap[s_.2.2.2]? = some (.cells #[.int .i64 0, .int .i64 0] 23 (0, 0))) ∧ (w.heap.size ≤ s_.1) ∧ (w.heap.size ≤ s_.1) ∧ (gb125 ≠ s_.1) ∧ (s_.1 ≠ gb125) ∧ (s_.2.1 ≠ s_.1) ∧ (s_.1 ≠ s_.2.1) ∧ (s_.2.2.1 ≠ s_.1) ∧ (s_.1 ≠ s_.2.2.1) ∧ (s_.2.2.2 ≠ s_.1) ∧ (s_.1 ≠ s_.2.2.2) ∧ (w.heap.size ≤ s_.2.1) ∧ (w.heap.size ≤ s_.2.1) ∧ (gb125 ≠ s_.2.1) ∧ (s_.2.1 ≠ gb125) ∧ (s_.2.2.1 ≠ s_.2.1) ∧ (s_.2.1 ≠ s_.2.2.1) ∧ (s_.2.2.2 ≠ s_.2.1) ∧ (s_.2.1 ≠ s_.2.2.2) ∧ (w.heap.size ≤ s_.2.2.1) ∧ (w.heap.size ≤ s_.2.2.1) ∧ (gb125 ≠ s_.2.2.1) ∧ (s_.2.2.1 ≠ gb125) ∧ (s_.2.2.2 ≠ s_.2.2.1) ∧ (s_.2.2.1 ≠ s_.2.2.2) ∧ (w.heap.size ≤ s_.2.2.2) ∧ (w.heap.size ≤ s_.2.2.2) ∧ (gb125 ≠ s_.2.2.2) ∧ (s_.2.2.2 ≠ gb125) ∧ (Below w.heap.size w w')) ?_ ?_
 rotate_left
 ·intro hJ8_9_10_11
  refine join_ (σ := Nat × Nat × Nat) 5 #[true, true, true, true, true, true, true, true, true, true, true, false, false, false, false, false] (fun s_ => [(7, .pointer (some ⟨s_.1, 0, none⟩)), (8, .pointer (some ⟨s_.2.1, 0, none⟩)), (9, .pointer (some ⟨s_.2.2, 0, none⟩))]) (fun s_ w' => (w'.cell? ⟨gb125, 0, none⟩ = some (.int .i64 a0_0) ∧ w'.cell? ⟨gb125, 1, none⟩ = some (.int .i64 a0_1) ∧ w'.cell? ⟨gb125, 2, none⟩ = some (.int .i64 a0_2) ∧ w'.cell? ⟨gb125, 3, none⟩ = some (.int .i64 a0_3) ∧ w'.cell? ⟨gb125, 4, none⟩ = some (.int .i64 a0_4) ∧ w'.cell? ⟨gb125, 5, none⟩ = some (.int .i64 a0_5) ∧ w'.cell? ⟨gb125, 6, none⟩ = some (.int .i64 a0_6) ∧ w'.cell? ⟨gb125, 7, none⟩ = some (.int .i64 a0_7)) ∧ (w'.heap[gb125]? = some (.cells #[.int .i64 a0_0, .int .i64 a0_1, .int .i64 a0_2, .int .i64 a0_3, .int .i64 a0_4, .int .i64 a0_5, .int .i64 a0_6, .int .i64 a0_7] 36 (0, 0))) ∧ (w'.heap[s_.1]? = some (.cells #[.int .i64 0, .int .i64 0] 23 (0, 0))) ∧ (w'.heap[s_.2.1]? = some (.cells #[.int .i64 0, .int .i64 0] 23 (0, 0))) ∧ (w'.heap[s_.2.2]? = some (.cells #[.int .i64 0, .int .i64 0] 23 (0, 0))) ∧ (w.heap.size ≤ s_.1) ∧ (w.heap.size ≤ s_.1) ∧ (gb125 ≠ s_.1) ∧ (s_.1 ≠ gb125) ∧ (s_.2.1 ≠ s_.1) ∧ (s_.1 ≠ s_.2.1) ∧ (s_.2.2 ≠ s_.1) ∧ (s_.1 ≠ s_.2.2) ∧ (w.heap.size ≤ s_.2.1) ∧ (w.heap.size ≤ s_.2.1) ∧ (gb125 ≠ s_.2.1) ∧ (s_.2.1 ≠ gb125) ∧ (s_.2.2 ≠ s_.2.1) ∧ (s_.2.1 ≠ s_.2.2) ∧ (w.heap.size ≤ s_.2.2) ∧ (w.heap.size ≤ s_.2.2) ∧ (gb125 ≠ s_.2.2) ∧ (s_.2.2 ≠ gb125) ∧ (Below w.heap.size w w')) ?_ ?_
  rotate_left
  ·intro hJ8_9_10
   refine join_ (σ := Nat × Nat × Nat) 5 #[true, true, true, true, true, true, true, true, true, true, false, true, false, false, false, false] (fun s_ => [(7, .pointer (some ⟨s_.1, 0, none⟩)), (8, .pointer (some ⟨s_.2.1, 0, none⟩)), (10, .pointer (some ⟨s_.2.2, 0, none⟩))]) (fun s_ w' => (w'.cell? ⟨gb125, 0, none⟩ = some (.int .i64 a0_0) ∧ w'.cell? ⟨gb125, 1, none⟩ = some (.int .i64 a0_1) ∧ w'.cell? ⟨gb125, 2, none⟩ = some (.int .i64 a0_2) ∧ w'.cell? ⟨gb125, 3, none⟩ = some (.int .i64 a0_3) ∧ w'.cell? ⟨gb125, 4, none⟩ = some (.int .i64 a0_4) ∧ w'.cell? ⟨gb125, 5, none⟩ = some (.int .i64 a0_5) ∧ w'.cell? ⟨gb125, 6, none⟩ = some (.int .i64 a0_6) ∧ w'.cell? ⟨gb125, 7, none⟩ = some (.int .i64 a0_7)) ∧ (w'.heap[gb125]? = some (.cells #[.int .i64 a0_0, .int .i64 a0_1, .int .i64 a0_2, .int .i64 a0_3, .int .i64 a0_4, .int .i64 a0_5, .int .i64 a0_6, .int .i64 a0_7] 36 (0, 0))) ∧ (w'.heap[s_.1]? = some (.cells #[.int .i64 0, .int .i64 0] 23 (0, 0))) ∧ (w'.heap[s_.2.1]? = some (.cells #[.int .i64 0, .int .i64 0] 23 (0, 0))) ∧ (w'.heap[s_.2.2]? = some (.cells #[.int .i64 0, .int .i64 0] 23 (0, 0))) ∧ (w.heap.size ≤ s_.1) ∧ (w.heap.size ≤ s_.1) ∧ (gb125 ≠ s_.1) ∧ (s_.1 ≠ gb125) ∧ (s_.2.1 ≠ s_.1) ∧ (s_.1 ≠ s_.2.1) ∧ (s_.2.2 ≠ s_.1) ∧ (s_.1 ≠ s_.2.2) ∧ (w.heap.size ≤ s_.2.1) ∧ (w.heap.size ≤ s_.2.1) ∧ (gb125 ≠ s_.2.1) ∧ (s_.2.1 ≠ gb125) ∧ (s_.2.2 ≠ s_.2.1) ∧ (s_.2.1 ≠ s_.2.2) ∧ (w.heap.size ≤ s_.2.2) ∧ (w.heap.size ≤ s_.2.2) ∧ (gb125 ≠ s_.2.2) ∧ (s_.2.2 ≠ gb125) ∧ (Below w.heap.size w w')) ?_ ?_
   rotate_left
   ·intro hJ8_9_11
    refine join_ (σ := Nat × Nat × Nat) 5 #[true, true, true, true, true, true, true, true, true, false, true, true, false, false, false, false] (fun s_ => [(7, .pointer (some ⟨s_.1, 0, none⟩)), (9, .pointer (some ⟨s_.2.1, 0, none⟩)), (10, .pointer (some ⟨s_.2.2, 0, none⟩))]) (fun s_ w' => (w'.cell? ⟨gb125, 0, none⟩ = some (.int .i64 a0_0) ∧ w'.cell? ⟨gb125, 1, none⟩ = some (.int .i64 a0_1) ∧ w'.cell? ⟨gb125, 2, none⟩ = some (.int .i64 a0_2) ∧ w'.cell? ⟨gb125, 3, none⟩ = some (.int .i64 a0_3) ∧ w'.cell? ⟨gb125, 4, none⟩ = some (.int .i64 a0_4) ∧ w'.cell? ⟨gb125, 5, none⟩ = some (.int .i64 a0_5) ∧ w'.cell? ⟨gb125, 6, none⟩ = some (.int .i64 a0_6) ∧ w'.cell? ⟨gb125, 7, none⟩ = some (.int .i64 a0_7)) ∧ (w'.heap[gb125]? = some (.cells #[.int .i64 a0_0, .int .i64 a0_1, .int .i64 a0_2, .int .i64 a0_3, .int .i64 a0_4, .int .i64 a0_5, .int .i64 a0_6, .int .i64 a0_7] 36 (0, 0))) ∧ (w'.heap[s_.1]? = some (.cells #[.int .i64 0, .int .i64 0] 23 (0, 0))) ∧ (w'.heap[s_.2.1]? = some (.cells #[.int .i64 0, .int .i64 0] 23 (0, 0))) ∧ (w'.heap[s_.2.2]? = some (.cells #[.int .i64 0, .int .i64 0] 23 (0, 0))) ∧ (w.heap.size ≤ s_.1) ∧ (w.heap.size ≤ s_.1) ∧ (gb125 ≠ s_.1) ∧ (s_.1 ≠ gb125) ∧ (s_.2.1 ≠ s_.1) ∧ (s_.1 ≠ s_.2.1) ∧ (s_.2.2 ≠ s_.1) ∧ (s_.1 ≠ s_.2.2) ∧ (w.heap.size ≤ s_.2.1) ∧ (w.heap.size ≤ s_.2.1) ∧ (gb125 ≠ s_.2.1) ∧ (s_.2.1 ≠ gb125) ∧ (s_.2.2 ≠ s_.2.1) ∧ (s_.2.1 ≠ s_.2.2) ∧ (w.heap.size ≤ s_.2.2) ∧ (w.heap.size ≤ s_.2.2) ∧ (gb125 ≠ s_.2.2) ∧ (s_.2.2 ≠ gb125) ∧ (Below w.heap.size w w')) ?_ ?_
    rotate_left
    ·intro hJ8_10_11
     refine join_ (σ := Nat × Nat × Nat) 5 #[true, true, true, true, true, true, true, true, false, true, true, true, false, false, false, false] (fun s_ => [(8, .pointer (some ⟨s_.1, 0, none⟩)), (9, .pointer (some ⟨s_.2.1, 0, none⟩)), (10, .pointer (some ⟨s_.2.2, 0, none⟩))]) (fun s_ w' => (w'.cell? ⟨gb125, 0, none⟩ = some (.int .i64 a0_0) ∧ w'.cell? ⟨gb125, 1, none⟩ = some (.int .i64 a0_1) ∧ w'.cell? ⟨gb125, 2, none⟩ = some (.int .i64 a0_2) ∧ w'.cell? ⟨gb125, 3, none⟩ = some (.int .i64 a0_3) ∧ w'.cell? ⟨gb125, 4, none⟩ = some (.int .i64 a0_4) ∧ w'.cell? ⟨gb125, 5, none⟩ = some (.int .i64 a0_5) ∧ w'.cell? ⟨gb125, 6, none⟩ = some (.int .i64 a0_6) ∧ w'.cell? ⟨gb125, 7, none⟩ = some (.int .i64 a0_7)) ∧ (w'.heap[gb125]? = some (.cells #[.int .i64 a0_0, .int .i64 a0_1, .int .i64 a0_2, .int .i64 a0_3, .int .i64 a0_4, .int .i64 a0_5, .int .i64 a0_6, .int .i64 a0_7] 36 (0, 0))) ∧ (w'.heap[s_.1]? = some (.cells #[.int .i64 0, .int .i64 0] 23 (0, 0))) ∧ (w'.heap[s_.2.1]? = some (.cells #[.int .i64 0, .int .i64 0] 23 (0, 0))) ∧ (w'.heap[s_.2.2]? = some (.cells #[.int .i64 0, .int .i64 0] 23 (0, 0))) ∧ (w.heap.size ≤ s_.1) ∧ (w.heap.size ≤ s_.1) ∧ (gb125 ≠ s_.1) ∧ (s_.1 ≠ gb125) ∧ (s_.2.1 ≠ s_.1) ∧ (s_.1 ≠ s_.2.1) ∧ (s_.2.2 ≠ s_.1) ∧ (s_.1 ≠ s_.2.2) ∧ (w.heap.size ≤ s_.2.1) ∧ (w.heap.size ≤ s_.2.1) ∧ (gb125 ≠ s_.2.1) ∧ (s_.2.1 ≠ gb125) ∧ (s_.2.2 ≠ s_.2.1) ∧ (s_.2.1 ≠ s_.2.2) ∧ (w.heap.size ≤ s_.2.2) ∧ (w.heap.size ≤ s_.2.2) ∧ (gb125 ≠ s_.2.2) ∧ (s_.2.2 ≠ gb125) ∧ (Below w.heap.size w w')) ?_ ?_
     rotate_left
     ·intro hJ9_10_11
      refine join_ (σ := Nat × Nat) 6 #[true, true, true, true, true, true, true, true, true, true, false, false, false, false, false, false] (fun s_ => [(7, .pointer (some ⟨s_.1, 0, none⟩)), (8, .pointer (some ⟨s_.2, 0, none⟩))]) (fun s_ w' => (w'.cell? ⟨gb125, 0, none⟩ = some (.int .i64 a0_0) ∧ w'.cell? ⟨gb125, 1, none⟩ = some (.int .i64 a0_1) ∧ w'.cell? ⟨gb125, 2, none⟩ = some (.int .i64 a0_2) ∧ w'.cell? ⟨gb125, 3, none⟩ = some (.int .i64 a0_3) ∧ w'.cell? ⟨gb125, 4, none⟩ = some (.int .i64 a0_4) ∧ w'.cell? ⟨gb125, 5, none⟩ = some (.int .i64 a0_5) ∧ w'.cell? ⟨gb125, 6, none⟩ = some (.int .i64 a0_6) ∧ w'.cell? ⟨gb125, 7, none⟩ = some (.int .i64 a0_7)) ∧ (w'.heap[gb125]? = some (.cells #[.int .i64 a0_0, .int .i64 a0_1, .int .i64 a0_2, .int .i64 a0_3, .int .i64 a0_4, .int .i64 a0_5, .int .i64 a0_6, .int .i64 a0_7] 36 (0, 0))) ∧ (w'.heap[s_.1]? = some (.cells #[.int .i64 0, .int .i64 0] 23 (0, 0))) ∧ (w'.heap[s_.2]? = some (.cells #[.int .i64 0, .int .i64 0] 23 (0, 0))) ∧ (w.heap.size ≤ s_.1) ∧ (w.heap.size ≤ s_.1) ∧ (gb125 ≠ s_.1) ∧ (s_.1 ≠ gb125) ∧ (s_.2 ≠ s_.1) ∧ (s_.1 ≠ s_.2) ∧ (w.heap.size ≤ s_.2) ∧ (w.heap.size ≤ s_.2) ∧ (gb125 ≠ s_.2) ∧ (s_.2 ≠ gb125) ∧ (Below w.heap.size w w')) ?_ ?_
      rotate_left
      ·intro hJ8_9
       refine join_ (σ := Nat × Nat) 6 #[true, true, true, true, true, true, true, true, true, false, true, false, false, false, false, false] (fun s_ => [(7, .pointer (some ⟨s_.1, 0, none⟩)), (9, .pointer (some ⟨s_.2, 0, none⟩))]) (fun s_ w' => (w'.cell? ⟨gb125, 0, none⟩ = some (.int .i64 a0_0) ∧ w'.cell? ⟨gb125, 1, none⟩ = some (.int .i64 a0_1) ∧ w'.cell? ⟨gb125, 2, none⟩ = some (.int .i64 a0_2) ∧ w'.cell? ⟨gb125, 3, none⟩ = some (.int .i64 a0_3) ∧ w'.cell? ⟨gb125, 4, none⟩ = some (.int .i64 a0_4) ∧ w'.cell? ⟨gb125, 5, none⟩ = some (.int .i64 a0_5) ∧ w'.cell? ⟨gb125, 6, none⟩ = some (.int .i64 a0_6) ∧ w'.cell? ⟨gb125, 7, none⟩ = some (.int .i64 a0_7)) ∧ (w'.heap[gb125]? = some (.cells #[.int .i64 a0_0, .int .i64 a0_1, .int .i64 a0_2, .int .i64 a0_3, .int .i64 a0_4, .int .i64 a0_5, .int .i64 a0_6, .int .i64 a0_7] 36 (0, 0))) ∧ (w'.heap[s_.1]? = some (.cells #[.int .i64 0, .int .i64 0] 23 (0, 0))) ∧ (w'.heap[s_.2]? = some (.cells #[.int .i64 0, .int .i64 0] 23 (0, 0))) ∧ (w.heap.size ≤ s_.1) ∧ (w.heap.size ≤ s_.1) ∧ (gb125 ≠ s_.1) ∧ (s_.1 ≠ gb125) ∧ (s_.2 ≠ s_.1) ∧ (s_.1 ≠ s_.2) ∧ (w.heap.size ≤ s_.2) ∧ (w.heap.size ≤ s_.2) ∧ (gb125 ≠ s_.2) ∧ (s_.2 ≠ gb125) ∧ (Below w.heap.size w w')) ?_ ?_
       rotate_left
       ·intro hJ8_10
        refine join_ (σ := Nat × Nat) 6 #[true, true, true, true, true, true, true, true, true, false, false, true, false, false, false, false] (fun s_ => [(7, .pointer (some ⟨s_.1, 0, none⟩)), (10, .pointer (some ⟨s_.2, 0, none⟩))]) (fun s_ w' => (w'.cell? ⟨gb125, 0, none⟩ = some (.int .i64 a0_0) ∧ w'.cell? ⟨gb125, 1, none⟩ = some (.int .i64 a0_1) ∧ w'.cell? ⟨gb125, 2, none⟩ = some (.int .i64 a0_2) ∧ w'.cell? ⟨gb125, 3, none⟩ = some (.int .i64 a0_3) ∧ w'.cell? ⟨gb125, 4, none⟩ = some (.int .i64 a0_4) ∧ w'.cell? ⟨gb125, 5, none⟩ = some (.int .i64 a0_5) ∧ w'.cell? ⟨gb125, 6, none⟩ = some (.int .i64 a0_6) ∧ w'.cell? ⟨gb125, 7, none⟩ = some (.int .i64 a0_7)) ∧ (w'.heap[gb125]? = some (.cells #[.int .i64 a0_0, .int .i64 a0_1, .int .i64 a0_2, .int .i64 a0_3, .int .i64 a0_4, .int .i64 a0_5, .int .i64 a0_6, .int .i64 a0_7] 36 (0, 0))) ∧ (w'.heap[s_.1]? = some (.cells #[.int .i64 0, .int .i64 0] 23 (0, 0))) ∧ (w'.heap[s_.2]? = some (.cells #[.int .i64 0, .int .i64 0] 23 (0, 0))) ∧ (w.heap.size ≤ s_.1) ∧ (w.heap.size ≤ s_.1) ∧ (gb125 ≠ s_.1) ∧ (s_.1 ≠ gb125) ∧ (s_.2 ≠ s_.1) ∧ (s_.1 ≠ s_.2) ∧ (w.heap.size ≤ s_.2) ∧ (w.heap.size ≤ s_.2) ∧ (gb125 ≠ s_.2) ∧ (s_.2 ≠ gb125) ∧ (Below w.heap.size w w')) ?_ ?_
        rotate_left
        ·intro hJ8_11
         refine join_ (σ := Nat × Nat) 6 #[true, true, true, true, true, true, true, true, false, true, true, false, false, false, false, false] (fun s_ => [(8, .pointer (some ⟨s_.1, 0, none⟩)), (9, .pointer (some ⟨s_.2, 0, none⟩))]) (fun s_ w' => (w'.cell? ⟨gb125, 0, none⟩ = some (.int .i64 a0_0) ∧ w'.cell? ⟨gb125, 1, none⟩ = some (.int .i64 a0_1) ∧ w'.cell? ⟨gb125, 2, none⟩ = some (.int .i64 a0_2) ∧ w'.cell? ⟨gb125, 3, none⟩ = some (.int .i64 a0_3) ∧ w'.cell? ⟨gb125, 4, none⟩ = some (.int .i64 a0_4) ∧ w'.cell? ⟨gb125, 5, none⟩ = some (.int .i64 a0_5) ∧ w'.cell? ⟨gb125, 6, none⟩ = some (.int .i64 a0_6) ∧ w'.cell? ⟨gb125, 7, none⟩ = some (.int .i64 a0_7)) ∧ (w'.heap[gb125]? = some (.cells #[.int .i64 a0_0, .int .i64 a0_1, .int .i64 a0_2, .int .i64 a0_3, .int .i64 a0_4, .int .i64 a0_5, .int .i64 a0_6, .int .i64 a0_7] 36 (0, 0))) ∧ (w'.heap[s_.1]? = some (.cells #[.int .i64 0, .int .i64 0] 23 (0, 0))) ∧ (w'.heap[s_.2]? = some (.cells #[.int .i64 0, .int .i64 0] 23 (0, 0))) ∧ (w.heap.size ≤ s_.1) ∧ (w.heap.size ≤ s_.1) ∧ (gb125 ≠ s_.1) ∧ (s_.1 ≠ gb125) ∧ (s_.2 ≠ s_.1) ∧ (s_.1 ≠ s_.2) ∧ (w.heap.size ≤ s_.2) ∧ (w.heap.size ≤ s_.2) ∧ (gb125 ≠ s_.2) ∧ (s_.2 ≠ gb125) ∧ (Below w.heap.size w w')) ?_ ?_
         rotate_left
         ·intro hJ9_10
          refine join_ (σ := Nat × Nat) 6 #[true, true, true, true, true, true, true, true, false, true, false, true, false, false, false, false] (fun s_ => [(8, .pointer (some ⟨s_.1, 0, none⟩)), (10, .pointer (some ⟨s_.2, 0, none⟩))]) (fun s_ w' => (w'.cell? ⟨gb125, 0, none⟩ = some (.int .i64 a0_0) ∧ w'.cell? ⟨gb125, 1, none⟩ = some (.int .i64 a0_1) ∧ w'.cell? ⟨gb125, 2, none⟩ = some (.int .i64 a0_2) ∧ w'.cell? ⟨gb125, 3, none⟩ = some (.int .i64 a0_3) ∧ w'.cell? ⟨gb125, 4, none⟩ = some (.int .i64 a0_4) ∧ w'.cell? ⟨gb125, 5, none⟩ = some (.int .i64 a0_5) ∧ w'.cell? ⟨gb125, 6, none⟩ = some (.int .i64 a0_6) ∧ w'.cell? ⟨gb125, 7, none⟩ = some (.int .i64 a0_7)) ∧ (w'.heap[gb125]? = some (.cells #[.int .i64 a0_0, .int .i64 a0_1, .int .i64 a0_2, .int .i64 a0_3, .int .i64 a0_4, .int .i64 a0_5, .int .i64 a0_6, .int .i64 a0_7] 36 (0, 0))) ∧ (w'.heap[s_.1]? = some (.cells #[.int .i64 0, .int .i64 0] 23 (0, 0))) ∧ (w'.heap[s_.2]? = some (.cells #[.int .i64 0, .int .i64 0] 23 (0, 0))) ∧ (w.heap.size ≤ s_.1) ∧ (w.heap.size ≤ s_.1) ∧ (gb125 ≠ s_.1) ∧ (s_.1 ≠ gb125) ∧ (s_.2 ≠ s_.1) ∧ (s_.1 ≠ s_.2) ∧ (w.heap.size ≤ s_.2) ∧ (w.heap.size ≤ s_.2) ∧ (gb125 ≠ s_.2) ∧ (s_.2 ≠ gb125) ∧ (Below w.heap.size w w')) ?_ ?_
          rotate_left
          ·intro hJ9_11
           refine join_ (σ := Nat × Nat) 6 #[true, true, true, true, true, true, true, true, false, false, true, true, false, false, false, false] (fun s_ => [(9, .pointer (some ⟨s_.1, 0, none⟩)), (10, .pointer (some ⟨s_.2, 0, none⟩))]) (fun s_ w' => (w'.cell? ⟨gb125, 0, none⟩ = some (.int .i64 a0_0) ∧ w'.cell? ⟨gb125, 1, none⟩ = some (.int .i64 a0_1) ∧ w'.cell? ⟨gb125, 2, none⟩ = some (.int .i64 a0_2) ∧ w'.cell? ⟨gb125, 3, none⟩ = some (.int .i64 a0_3) ∧ w'.cell? ⟨gb125, 4, none⟩ = some (.int .i64 a0_4) ∧ w'.cell? ⟨gb125, 5, none⟩ = some (.int .i64 a0_5) ∧ w'.cell? ⟨gb125, 6, none⟩ = some (.int .i64 a0_6) ∧ w'.cell? ⟨gb125, 7, none⟩ = some (.int .i64 a0_7)) ∧ (w'.heap[gb125]? = some (.cells #[.int .i64 a0_0, .int .i64 a0_1, .int .i64 a0_2, .int .i64 a0_3, .int .i64 a0_4, .int .i64 a0_5, .int .i64 a0_6, .int .i64 a0_7] 36 (0, 0))) ∧ (w'.heap[s_.1]? = some (.cells #[.int .i64 0, .int .i64 0] 23 (0, 0))) ∧ (w'.heap[s_.2]? = some (.cells #[.int .i64 0, .int .i64 0] 23 (0, 0))) ∧ (w.heap.size ≤ s_.1) ∧ (w.heap.size ≤ s_.1) ∧ (gb125 ≠ s_.1) ∧ (s_.1 ≠ gb125) ∧ (s_.2 ≠ s_.1) ∧ (s_.1 ≠ s_.2) ∧ (w.heap.size ≤ s_.2) ∧ (w.heap.size ≤ s_.2) ∧ (gb125 ≠ s_.2) ∧ (s_.2 ≠ gb125) ∧ (Below w.heap.size w w')) ?_ ?_
           rotate_left
           ·intro hJ10_11
            refine join_ (σ := Nat) 7 #[true, true, true, true, true, true, true, true, true, false, false, false, false, false, false, false] (fun s_ => [(7, .pointer (some ⟨s_, 0, none⟩))]) (fun s_ w' => (w'.cell? ⟨gb125, 0, none⟩ = some (.int .i64 a0_0) ∧ w'.cell? ⟨gb125, 1, none⟩ = some (.int .i64 a0_1) ∧ w'.cell? ⟨gb125, 2, none⟩ = some (.int .i64 a0_2) ∧ w'.cell? ⟨gb125, 3, none⟩ = some (.int .i64 a0_3) ∧ w'.cell? ⟨gb125, 4, none⟩ = some (.int .i64 a0_4) ∧ w'.cell? ⟨gb125, 5, none⟩ = some (.int .i64 a0_5) ∧ w'.cell? ⟨gb125, 6, none⟩ = some (.int .i64 a0_6) ∧ w'.cell? ⟨gb125, 7, none⟩ = some (.int .i64 a0_7)) ∧ (w'.heap[gb125]? = some (.cells #[.int .i64 a0_0, .int .i64 a0_1, .int .i64 a0_2, .int .i64 a0_3, .int .i64 a0_4, .int .i64 a0_5, .int .i64 a0_6, .int .i64 a0_7] 36 (0, 0))) ∧ (w'.heap[s_]? = some (.cells #[.int .i64 0, .int .i64 0] 23 (0, 0))) ∧ (w.heap.size ≤ s_) ∧ (w.heap.size ≤ s_) ∧ (gb125 ≠ s_) ∧ (s_ ≠ gb125) ∧ (Below w.heap.size w w')) ?_ ?_
            rotate_left
            ·intro hJ8
             refine join_ (σ := Nat) 7 #[true, true, true, true, true, true, true, true, false, true, false, false, false, false, false, false] (fun s_ => [(8, .pointer (some ⟨s_, 0, none⟩))]) (fun s_ w' => (w'.cell? ⟨gb125, 0, none⟩ = some (.int .i64 a0_0) ∧ w'.cell? ⟨gb125, 1, none⟩ = some (.int .i64 a0_1) ∧ w'.cell? ⟨gb125, 2, none⟩ = some (.int .i64 a0_2) ∧ w'.cell? ⟨gb125, 3, none⟩ = some (.int .i64 a0_3) ∧ w'.cell? ⟨gb125, 4, none⟩ = some (.int .i64 a0_4) ∧ w'.cell? ⟨gb125, 5, none⟩ = some (.int .i64 a0_5) ∧ w'.cell? ⟨gb125, 6, none⟩ = some (.int .i64 a0_6) ∧ w'.cell? ⟨gb125, 7, none⟩ = some (.int .i64 a0_7)) ∧ (w'.heap[gb125]? = some (.cells #[.int .i64 a0_0, .int .i64 a0_1, .int .i64 a0_2, .int .i64 a0_3, .int .i64 a0_4, .int .i64 a0_5, .int .i64 a0_6, .int .i64 a0_7] 36 (0, 0))) ∧ (w'.heap[s_]? = some (.cells #[.int .i64 0, .int .i64 0] 23 (0, 0))) ∧ (w.heap.size ≤ s_) ∧ (w.heap.size ≤ s_) ∧ (gb125 ≠ s_) ∧ (s_ ≠ gb125) ∧ (Below w.heap.size w w')) ?_ ?_
             rotate_left
             ·intro hJ9
              refine join_ (σ := Nat) 7 #[true, true, true, true, true, true, true, true, false, false, true, false, false, false, false, false] (fun s_ => [(9, .pointer (some ⟨s_, 0, none⟩))]) (fun s_ w' => (w'.cell? ⟨gb125, 0, none⟩ = some (.int .i64 a0_0) ∧ w'.cell? ⟨gb125, 1, none⟩ = some (.int .i64 a0_1) ∧ w'.cell? ⟨gb125, 2, none⟩ = some (.int .i64 a0_2) ∧ w'.cell? ⟨gb125, 3, none⟩ = some (.int .i64 a0_3) ∧ w'.cell? ⟨gb125, 4, none⟩ = some (.int .i64 a0_4) ∧ w'.cell? ⟨gb125, 5, none⟩ = some (.int .i64 a0_5) ∧ w'.cell? ⟨gb125, 6, none⟩ = some (.int .i64 a0_6) ∧ w'.cell? ⟨gb125, 7, none⟩ = some (.int .i64 a0_7)) ∧ (w'.heap[gb125]? = some (.cells #[.int .i64 a0_0, .int .i64 a0_1, .int .i64 a0_2, .int .i64 a0_3, .int .i64 a0_4, .int .i64 a0_5, .int .i64 a0_6, .int .i64 a0_7] 36 (0, 0))) ∧ (w'.heap[s_]? = some (.cells #[.int .i64 0, .int .i64 0] 23 (0, 0))) ∧ (w.heap.size ≤ s_) ∧ (w.heap.size ≤ s_) ∧ (gb125 ≠ s_) ∧ (s_ ≠ gb125) ∧ (Below w.heap.size w w')) ?_ ?_
              rotate_left
              ·intro hJ10
               refine join_ (σ := Nat) 7 #[true, true, true, true, true, true, true, true, false, false, false, true, false, false, false, false] (fun s_ => [(10, .pointer (some ⟨s_, 0, none⟩))]) (fun s_ w' => (w'.cell? ⟨gb125, 0, none⟩ = some (.int .i64 a0_0) ∧ w'.cell? ⟨gb125, 1, none⟩ = some (.int .i64 a0_1) ∧ w'.cell? ⟨gb125, 2, none⟩ = some (.int .i64 a0_2) ∧ w'.cell? ⟨gb125, 3, none⟩ = some (.int .i64 a0_3) ∧ w'.cell? ⟨gb125, 4, none⟩ = some (.int .i64 a0_4) ∧ w'.cell? ⟨gb125, 5, none⟩ = some (.int .i64 a0_5) ∧ w'.cell? ⟨gb125, 6, none⟩ = some (.int .i64 a0_6) ∧ w'.cell? ⟨gb125, 7, none⟩ = some (.int .i64 a0_7)) ∧ (w'.heap[gb125]? = some (.cells #[.int .i64 a0_0, .int .i64 a0_1, .int .i64 a0_2, .int .i64 a0_3, .int .i64 a0_4, .int .i64 a0_5, .int .i64 a0_6, .int .i64 a0_7] 36 (0, 0))) ∧ (w'.heap[s_]? = some (.cells #[.int .i64 0, .int .i64 0] 23 (0, 0))) ∧ (w.heap.size ≤ s_) ∧ (w.heap.size ≤ s_) ∧ (gb125 ≠ s_) ∧ (s_ ≠ gb125) ∧ (Below w.heap.size w w')) ?_ ?_
               rotate_left
               ·intro hJ11
                refine four_ (i := 8) (j := 9) (k := 10) (m := 11) (Ni := some 7) (Nj := some 8) (Nk := some 9) (Nm := some 10) #[true, true, true, true, true, true, true, true, true, false, false, false, false, false, false, false] #[true, true, true, true, true, true, true, true, false, true, false, false, false, false, false, false] #[true, true, true, true, true, true, true, true, false, false, true, false, false, false, false, false] #[true, true, true, true, true, true, true, true, false, false, false, true, false, false, false, false] rfl rfl rfl rfl rfl rfl rfl rfl (four_of HT_.out (by kernel_rfl)) (by decide) (by decide) (by decide) (by decide) (fun K hK => ?_) (fun K hK => ?_) (fun K hK => ?_) (fun K hK => ?_)
                ·skip
                 refine box_step ?hg (N := 7) ?hd (cs := #[.int .i64 0, .int .i64 0]) (t := 23) ?hr ?_; (case hd => rfl); (case hg => rfl); (case hr => first | (go_simp; done) | (go_simp; rfl))
                 intro gb126 hg w7 hbox hb
                 have n0_ := ak (blk_below (g := gb125) (o := .cells #[.int .i64 a0_0, .int .i64 a0_1, .int .i64 a0_2, .int .i64 a0_3, .int .i64 a0_4, .int .i64 a0_5, .int .i64 a0_6, .int .i64 a0_7] 36 (0, 0)) (by first | exact BK125.out | exact blk_drew BK125.out) hb)
                 have n1_ := ak (below_step (by first | exact HB.out | exact below_drew1 HB.out) hb)
                 have n2_ := ak (hbox)
                 have n3_ := ak ((by rw [hg]; exact (below_size (by first | exact HB.out | exact below_drew1 HB.out)) : w.heap.size ≤ gb126))
                 have n4_ := ak ((by rw [hg]; exact (below_size (by first | exact HB.out | exact below_drew1 HB.out)) : w.heap.size ≤ gb126))
                 have n5_ := ak ((by rw [hg]; exact Nat.ne_of_lt (blk_lt (g := gb125) (o := .cells #[.int .i64 a0_0, .int .i64 a0_1, .int .i64 a0_2, .int .i64 a0_3, .int .i64 a0_4, .int .i64 a0_5, .int .i64 a0_6, .int .i64 a0_7] 36 (0, 0)) (by first | exact BK125.out | exact blk_drew BK125.out)) : gb125 ≠ gb126))
                 have n6_ := ak ((by rw [hg]; exact Nat.ne_of_gt (blk_lt (g := gb125) (o := .cells #[.int .i64 a0_0, .int .i64 a0_1, .int .i64 a0_2, .int .i64 a0_3, .int .i64 a0_4, .int .i64 a0_5, .int .i64 a0_6, .int .i64 a0_7] 36 (0, 0)) (by first | exact BK125.out | exact blk_drew BK125.out)) : gb126 ≠ gb125))
                 clear BK125
                 clear HB
                 have BK125 := n0_
                 have HB := n1_
                 have BK126 := n2_
                 have GW126 := n3_
                 have GE126 := n4_
                 have NB125_126 := n5_
                 have NB126_125 := n6_
                 clear n0_ n1_ n2_ n3_ n4_ n5_ n6_
                 clear hb hbox hg
                 refine hK.out _ _ ⟨(blk_cell BK125.out 0).trans rfl, (blk_cell BK125.out 1).trans rfl, (blk_cell BK125.out 2).trans rfl, (blk_cell BK125.out 3).trans rfl, (blk_cell BK125.out 4).trans rfl, (blk_cell BK125.out 5).trans rfl, (blk_cell BK125.out 6).trans rfl, (blk_cell BK125.out 7).trans rfl⟩ (fun hHeld => ?_)
                 clear hK K
                 refine norm_ (a' := ?_) ?_ ?_
                 rotate_left
                 ·show Act.put _ (some 7) _ = _
                  simp only [Act.put, List.setIfInBounds_toArray, List.set_cons_zero, List.set_cons_succ, i64_w, i32_w]
                  rfl
                 exact norm_ (by first | (simp only [putAll, Act.put, List.setIfInBounds_toArray, List.set_cons_zero, List.set_cons_succ]; done) | (simp only [putAll, Act.put, List.setIfInBounds_toArray, List.set_cons_zero, List.set_cons_succ]; rfl)) (hJ8 (gb126) _ ⟨hHeld, (by first | exact BK125.out | exact blk_drew BK125.out), (by first | exact BK126.out | exact blk_drew BK126.out), GW126.out, GE126.out, NB125_126.out, NB126_125.out, (by first | exact HB.out | exact below_drew1 HB.out)⟩)
                ·skip
                 refine box_step ?hg (N := 8) ?hd (cs := #[.int .i64 0, .int .i64 0]) (t := 23) ?hr ?_; (case hd => rfl); (case hg => rfl); (case hr => first | (go_simp; done) | (go_simp; rfl))
                 intro gb127 hg w7 hbox hb
                 have n0_ := ak (blk_below (g := gb125) (o := .cells #[.int .i64 a0_0, .int .i64 a0_1, .int .i64 a0_2, .int .i64 a0_3, .int .i64 a0_4, .int .i64 a0_5, .int .i64 a0_6, .int .i64 a0_7] 36 (0, 0)) (by first | exact BK125.out | exact blk_drew BK125.out) hb)
                 have n1_ := ak (below_step (by first | exact HB.out | exact below_drew1 HB.out) hb)
                 have n2_ := ak (hbox)
                 have n3_ := ak ((by rw [hg]; exact (below_size (by first | exact HB.out | exact below_drew1 HB.out)) : w.heap.size ≤ gb127))
                 have n4_ := ak ((by rw [hg]; exact (below_size (by first | exact HB.out | exact below_drew1 HB.out)) : w.heap.size ≤ gb127))
                 have n5_ := ak ((by rw [hg]; exact Nat.ne_of_lt (blk_lt (g := gb125) (o := .cells #[.int .i64 a0_0, .int .i64 a0_1, .int .i64 a0_2, .int .i64 a0_3, .int .i64 a0_4, .int .i64 a0_5, .int .i64 a0_6, .int .i64 a0_7] 36 (0, 0)) (by first | exact BK125.out | exact blk_drew BK125.out)) : gb125 ≠ gb127))
                 have n6_ := ak ((by rw [hg]; exact Nat.ne_of_gt (blk_lt (g := gb125) (o := .cells #[.int .i64 a0_0, .int .i64 a0_1, .int .i64 a0_2, .int .i64 a0_3, .int .i64 a0_4, .int .i64 a0_5, .int .i64 a0_6, .int .i64 a0_7] 36 (0, 0)) (by first | exact BK125.out | exact blk_drew BK125.out)) : gb127 ≠ gb125))
                 clear BK125
                 clear HB
                 have BK125 := n0_
                 have HB := n1_
                 have BK127 := n2_
                 have GW127 := n3_
                 have GE127 := n4_
                 have NB125_127 := n5_
                 have NB127_125 := n6_
                 clear n0_ n1_ n2_ n3_ n4_ n5_ n6_
                 clear hb hbox hg
                 refine hK.out _ _ ⟨(blk_cell BK125.out 0).trans rfl, (blk_cell BK125.out 1).trans rfl, (blk_cell BK125.out 2).trans rfl, (blk_cell BK125.out 3).trans rfl, (blk_cell BK125.out 4).trans rfl, (blk_cell BK125.out 5).trans rfl, (blk_cell BK125.out 6).trans rfl, (blk_cell BK125.out 7).trans rfl⟩ (fun hHeld => ?_)
                 clear hK K
                 refine norm_ (a' := ?_) ?_ ?_
                 rotate_left
                 ·show Act.put _ (some 8) _ = _
                  simp only [Act.put, List.setIfInBounds_toArray, List.set_cons_zero, List.set_cons_succ, i64_w, i32_w]
                  rfl
                 exact norm_ (by first | (simp only [putAll, Act.put, List.setIfInBounds_toArray, List.set_cons_zero, List.set_cons_succ]; done) | (simp only [putAll, Act.put, List.setIfInBounds_toArray, List.set_cons_zero, List.set_cons_succ]; rfl)) (hJ9 (gb127) _ ⟨hHeld, (by first | exact BK125.out | exact blk_drew BK125.out), (by first | exact BK127.out | exact blk_drew BK127.out), GW127.out, GE127.out, NB125_127.out, NB127_125.out, (by first | exact HB.out | exact below_drew1 HB.out)⟩)
                ·skip
                 refine box_step ?hg (N := 9) ?hd (cs := #[.int .i64 0, .int .i64 0]) (t := 23) ?hr ?_; (case hd => rfl); (case hg => rfl); (case hr => first | (go_simp; done) | (go_simp; rfl))
                 intro gb128 hg w7 hbox hb
                 have n0_ := ak (blk_below (g := gb125) (o := .cells #[.int .i64 a0_0, .int .i64 a0_1, .int .i64 a0_2, .int .i64 a0_3, .int .i64 a0_4, .int .i64 a0_5, .int .i64 a0_6, .int .i64 a0_7] 36 (0, 0)) (by first | exact BK125.out | exact blk_drew BK125.out) hb)
                 have n1_ := ak (below_step (by first | exact HB.out | exact below_drew1 HB.out) hb)
                 have n2_ := ak (hbox)
                 have n3_ := ak ((by rw [hg]; exact (below_size (by first | exact HB.out | exact below_drew1 HB.out)) : w.heap.size ≤ gb128))
                 have n4_ := ak ((by rw [hg]; exact (below_size (by first | exact HB.out | exact below_drew1 HB.out)) : w.heap.size ≤ gb128))
                 have n5_ := ak ((by rw [hg]; exact Nat.ne_of_lt (blk_lt (g := gb125) (o := .cells #[.int .i64 a0_0, .int .i64 a0_1, .int .i64 a0_2, .int .i64 a0_3, .int .i64 a0_4, .int .i64 a0_5, .int .i64 a0_6, .int .i64 a0_7] 36 (0, 0)) (by first | exact BK125.out | exact blk_drew BK125.out)) : gb125 ≠ gb128))
                 have n6_ := ak ((by rw [hg]; exact Nat.ne_of_gt (blk_lt (g := gb125) (o := .cells #[.int .i64 a0_0, .int .i64 a0_1, .int .i64 a0_2, .int .i64 a0_3, .int .i64 a0_4, .int .i64 a0_5, .int .i64 a0_6, .int .i64 a0_7] 36 (0, 0)) (by first | exact BK125.out | exact blk_drew BK125.out)) : gb128 ≠ gb125))
                 clear BK125
                 clear HB
                 have BK125 := n0_
                 have HB := n1_
                 have BK128 := n2_
                 have GW128 := n3_
                 have GE128 := n4_
                 have NB125_128 := n5_
                 have NB128_125 := n6_
                 clear n0_ n1_ n2_ n3_ n4_ n5_ n6_
                 clear hb hbox hg
                 refine hK.out _ _ ⟨(blk_cell BK125.out 0).trans rfl, (blk_cell BK125.out 1).trans rfl, (blk_cell BK125.out 2).trans rfl, (blk_cell BK125.out 3).trans rfl, (blk_cell BK125.out 4).trans rfl, (blk_cell BK125.out 5).trans rfl, (blk_cell BK125.out 6).trans rfl, (blk_cell BK125.out 7).trans rfl⟩ (fun hHeld => ?_)
                 clear hK K
                 refine norm_ (a' := ?_) ?_ ?_
                 rotate_left
                 ·show Act.put _ (some 9) _ = _
                  simp only [Act.put, List.setIfInBounds_toArray, List.set_cons_zero, List.set_cons_succ, i64_w, i32_w]
                  rfl
                 exact norm_ (by first | (simp only [putAll, Act.put, List.setIfInBounds_toArray, List.set_cons_zero, List.set_cons_succ]; done) | (simp only [putAll, Act.put, List.setIfInBounds_toArray, List.set_cons_zero, List.set_cons_succ]; rfl)) (hJ10 (gb128) _ ⟨hHeld, (by first | exact BK125.out | exact blk_drew BK125.out), (by first | exact BK128.out | exact blk_drew BK128.out), GW128.out, GE128.out, NB125_128.out, NB128_125.out, (by first | exact HB.out | exact below_drew1 HB.out)⟩)
                ·skip
                 refine box_step ?hg (N := 10) ?hd (cs := #[.int .i64 0, .int .i64 0]) (t := 23) ?hr ?_; (case hd => rfl); (case hg => rfl); (case hr => first | (go_simp; done) | (go_simp; rfl))
                 intro gb129 hg w7 hbox hb
                 have n0_ := ak (blk_below (g := gb125) (o := .cells #[.int .i64 a0_0, .int .i64 a0_1, .int .i64 a0_2, .int .i64 a0_3, .int .i64 a0_4, .int .i64 a0_5, .int .i64 a0_6, .int .i64 a0_7] 36 (0, 0)) (by first | exact BK125.out | exact blk_drew BK125.out) hb)
                 have n1_ := ak (below_step (by first | exact HB.out | exact below_drew1 HB.out) hb)
                 have n2_ := ak (hbox)
                 have n3_ := ak ((by rw [hg]; exact (below_size (by first | exact HB.out | exact below_drew1 HB.out)) : w.heap.size ≤ gb129))
                 have n4_ := ak ((by rw [hg]; exact (below_size (by first | exact HB.out | exact below_drew1 HB.out)) : w.heap.size ≤ gb129))
                 have n5_ := ak ((by rw [hg]; exact Nat.ne_of_lt (blk_lt (g := gb125) (o := .cells #[.int .i64 a0_0, .int .i64 a0_1, .int .i64 a0_2, .int .i64 a0_3, .int .i64 a0_4, .int .i64 a0_5, .int .i64 a0_6, .int .i64 a0_7] 36 (0, 0)) (by first | exact BK125.out | exact blk_drew BK125.out)) : gb125 ≠ gb129))
                 have n6_ := ak ((by rw [hg]; exact Nat.ne_of_gt (blk_lt (g := gb125) (o := .cells #[.int .i64 a0_0, .int .i64 a0_1, .int .i64 a0_2, .int .i64 a0_3, .int .i64 a0_4, .int .i64 a0_5, .int .i64 a0_6, .int .i64 a0_7] 36 (0, 0)) (by first | exact BK125.out | exact blk_drew BK125.out)) : gb129 ≠ gb125))
                 clear BK125
                 clear HB
                 have BK125 := n0_
                 have HB := n1_
                 have BK129 := n2_
                 have GW129 := n3_
                 have GE129 := n4_
                 have NB125_129 := n5_
                 have NB129_125 := n6_
                 clear n0_ n1_ n2_ n3_ n4_ n5_ n6_
                 clear hb hbox hg
                 refine hK.out _ _ ⟨(blk_cell BK125.out 0).trans rfl, (blk_cell BK125.out 1).trans rfl, (blk_cell BK125.out 2).trans rfl, (blk_cell BK125.out 3).trans rfl, (blk_cell BK125.out 4).trans rfl, (blk_cell BK125.out 5).trans rfl, (blk_cell BK125.out 6).trans rfl, (blk_cell BK125.out 7).trans rfl⟩ (fun hHeld => ?_)
                 clear hK K
                 refine norm_ (a' := ?_) ?_ ?_
                 rotate_left
                 ·show Act.put _ (some 10) _ = _
                  simp only [Act.put, List.setIfInBounds_toArray, List.set_cons_zero, List.set_cons_succ, i64_w, i32_w]
                  rfl
                 exact norm_ (by first | (simp only [putAll, Act.put, List.setIfInBounds_toArray, List.set_cons_zero, List.set_cons_succ]; done) | (simp only [putAll, Act.put, List.setIfInBounds_toArray, List.set_cons_zero, List.set_cons_succ]; rfl)) (hJ11 (gb129) _ ⟨hHeld, (by first | exact BK125.out | exact blk_drew BK125.out), (by first | exact BK129.out | exact blk_drew BK129.out), GW129.out, GE129.out, NB125_129.out, NB129_125.out, (by first | exact HB.out | exact below_drew1 HB.out)⟩)
               ·skip
                rintro gb129 w8 ⟨hS_, h0_, h1_, h2_, h3_, h4_, h5_, h6_⟩
                have n0_ : Aside0 (w8.heap[gb125]? = some (.cells #[.int .i64 a0_0, .int .i64 a0_1, .int .i64 a0_2, .int .i64 a0_3, .int .i64 a0_4, .int .i64 a0_5, .int .i64 a0_6, .int .i64 a0_7] 36 (0, 0))) := ⟨h0_⟩
                have n1_ : Aside0 (w8.heap[gb129]? = some (.cells #[.int .i64 0, .int .i64 0] 23 (0, 0))) := ⟨h1_⟩
                have n2_ : Aside0 (w.heap.size ≤ gb129) := ⟨h2_⟩
                have n3_ : Aside0 (w.heap.size ≤ gb129) := ⟨h3_⟩
                have n4_ : Aside0 (gb125 ≠ gb129) := ⟨h4_⟩
                have n5_ : Aside0 (gb129 ≠ gb125) := ⟨h5_⟩
                have n6_ : Aside0 (Below w.heap.size w w8) := ⟨h6_⟩
                clear BK125
                clear HB
                clear h0_ h1_ h2_ h3_ h4_ h5_ h6_
                have BK125 := n0_
                have BK129 := n1_
                have GW129 := n2_
                have GE129 := n3_
                have NB125_129 := n4_
                have NB129_125 := n5_
                have HB := n6_
                clear n0_ n1_ n2_ n3_ n4_ n5_ n6_
                have hHeld : w8.cell? ⟨gb125, 0, none⟩ = some (.int .i64 a0_0) ∧ w8.cell? ⟨gb125, 1, none⟩ = some (.int .i64 a0_1) ∧ w8.cell? ⟨gb125, 2, none⟩ = some (.int .i64 a0_2) ∧ w8.cell? ⟨gb125, 3, none⟩ = some (.int .i64 a0_3) ∧ w8.cell? ⟨gb125, 4, none⟩ = some (.int .i64 a0_4) ∧ w8.cell? ⟨gb125, 5, none⟩ = some (.int .i64 a0_5) ∧ w8.cell? ⟨gb125, 6, none⟩ = some (.int .i64 a0_6) ∧ w8.cell? ⟨gb125, 7, none⟩ = some (.int .i64 a0_7) := hS_
                refine norm_ (a' := ?_) ?_ ?_
                rotate_left
                ·simp only [putAll, Act.put, List.setIfInBounds_toArray, List.set_cons_zero, List.set_cons_succ]
                 rfl
                refine three_ (i := 8) (j := 9) (k := 10) (Ni := some 7) (Nj := some 8) (Nk := some 9) #[true, true, true, true, true, true, true, true, true, false, false, true, false, false, false, false] #[true, true, true, true, true, true, true, true, false, true, false, true, false, false, false, false] #[true, true, true, true, true, true, true, true, false, false, true, true, false, false, false, false] rfl rfl rfl rfl rfl rfl (three_of HT_.out (by kernel_rfl)) (by decide) (by decide) (by decide) (fun K hK => ?_) (fun K hK => ?_) (fun K hK => ?_)
                ·skip
                 refine box_step ?hg (N := 7) ?hd (cs := #[.int .i64 0, .int .i64 0]) (t := 23) ?hr ?_; (case hd => rfl); (case hg => rfl); (case hr => first | (go_simp; done) | (go_simp; rfl))
                 intro gb126 hg w9 hbox hb
                 have n0_ := ak (blk_below (g := gb125) (o := .cells #[.int .i64 a0_0, .int .i64 a0_1, .int .i64 a0_2, .int .i64 a0_3, .int .i64 a0_4, .int .i64 a0_5, .int .i64 a0_6, .int .i64 a0_7] 36 (0, 0)) (by first | exact BK125.out | exact blk_drew BK125.out) hb)
                 have n1_ := ak (blk_below (g := gb129) (o := .cells #[.int .i64 0, .int .i64 0] 23 (0, 0)) (by first | exact BK129.out | exact blk_drew BK129.out) hb)
                 have n2_ := ak (below_step (by first | exact HB.out | exact below_drew1 HB.out) hb)
                 have n3_ := ak (hbox)
                 have n4_ := ak ((by rw [hg]; exact (below_size (by first | exact HB.out | exact below_drew1 HB.out)) : w.heap.size ≤ gb126))
                 have n5_ := ak ((by rw [hg]; exact (below_size (by first | exact HB.out | exact below_drew1 HB.out)) : w.heap.size ≤ gb126))
                 have n6_ := ak ((by rw [hg]; exact Nat.ne_of_lt (blk_lt (g := gb125) (o := .cells #[.int .i64 a0_0, .int .i64 a0_1, .int .i64 a0_2, .int .i64 a0_3, .int .i64 a0_4, .int .i64 a0_5, .int .i64 a0_6, .int .i64 a0_7] 36 (0, 0)) (by first | exact BK125.out | exact blk_drew BK125.out)) : gb125 ≠ gb126))
                 have n7_ := ak ((by rw [hg]; exact Nat.ne_of_gt (blk_lt (g := gb125) (o := .cells #[.int .i64 a0_0, .int .i64 a0_1, .int .i64 a0_2, .int .i64 a0_3, .int .i64 a0_4, .int .i64 a0_5, .int .i64 a0_6, .int .i64 a0_7] 36 (0, 0)) (by first | exact BK125.out | exact blk_drew BK125.out)) : gb126 ≠ gb125))
                 have n8_ := ak ((by rw [hg]; exact Nat.ne_of_lt (blk_lt (g := gb129) (o := .cells #[.int .i64 0, .int .i64 0] 23 (0, 0)) (by first | exact BK129.out | exact blk_drew BK129.out)) : gb129 ≠ gb126))
                 have n9_ := ak ((by rw [hg]; exact Nat.ne_of_gt (blk_lt (g := gb129) (o := .cells #[.int .i64 0, .int .i64 0] 23 (0, 0)) (by first | exact BK129.out | exact blk_drew BK129.out)) : gb126 ≠ gb129))
                 clear BK125
                 clear BK129
                 clear HB
                 have BK125 := n0_
                 have BK129 := n1_
                 have HB := n2_
                 have BK126 := n3_
                 have GW126 := n4_
                 have GE126 := n5_
                 have NB125_126 := n6_
                 have NB126_125 := n7_
                 have NB129_126 := n8_
                 have NB126_129 := n9_
                 clear n0_ n1_ n2_ n3_ n4_ n5_ n6_ n7_ n8_ n9_
                 clear hb hbox hg
                 refine hK.out _ _ ⟨(blk_cell BK125.out 0).trans rfl, (blk_cell BK125.out 1).trans rfl, (blk_cell BK125.out 2).trans rfl, (blk_cell BK125.out 3).trans rfl, (blk_cell BK125.out 4).trans rfl, (blk_cell BK125.out 5).trans rfl, (blk_cell BK125.out 6).trans rfl, (blk_cell BK125.out 7).trans rfl⟩ (fun hHeld => ?_)
                 clear hK K
                 refine norm_ (a' := ?_) ?_ ?_
                 rotate_left
                 ·show Act.put _ (some 7) _ = _
                  simp only [Act.put, List.setIfInBounds_toArray, List.set_cons_zero, List.set_cons_succ, i64_w, i32_w]
                  rfl
                 exact norm_ (by first | (simp only [putAll, Act.put, List.setIfInBounds_toArray, List.set_cons_zero, List.set_cons_succ]; done) | (simp only [putAll, Act.put, List.setIfInBounds_toArray, List.set_cons_zero, List.set_cons_succ]; rfl)) (hJ8_11 (gb126, gb129) _ ⟨hHeld, (by first | exact BK125.out | exact blk_drew BK125.out), (by first | exact BK126.out | exact blk_drew BK126.out), (by first | exact BK129.out | exact blk_drew BK129.out), GW126.out, GE126.out, NB125_126.out, NB126_125.out, NB129_126.out, NB126_129.out, GW129.out, GE129.out, NB125_129.out, NB129_125.out, (by first | exact HB.out | exact below_drew1 HB.out)⟩)
                ·skip
                 refine box_step ?hg (N := 8) ?hd (cs := #[.int .i64 0, .int .i64 0]) (t := 23) ?hr ?_; (case hd => rfl); (case hg => rfl); (case hr => first | (go_simp; done) | (go_simp; rfl))
                 intro gb127 hg w9 hbox hb
                 have n0_ := ak (blk_below (g := gb125) (o := .cells #[.int .i64 a0_0, .int .i64 a0_1, .int .i64 a0_2, .int .i64 a0_3, .int .i64 a0_4, .int .i64 a0_5, .int .i64 a0_6, .int .i64 a0_7] 36 (0, 0)) (by first | exact BK125.out | exact blk_drew BK125.out) hb)
                 have n1_ := ak (blk_below (g := gb129) (o := .cells #[.int .i64 0, .int .i64 0] 23 (0, 0)) (by first | exact BK129.out | exact blk_drew BK129.out) hb)
                 have n2_ := ak (below_step (by first | exact HB.out | exact below_drew1 HB.out) hb)
                 have n3_ := ak (hbox)
                 have n4_ := ak ((by rw [hg]; exact (below_size (by first | exact HB.out | exact below_drew1 HB.out)) : w.heap.size ≤ gb127))
                 have n5_ := ak ((by rw [hg]; exact (below_size (by first | exact HB.out | exact below_drew1 HB.out)) : w.heap.size ≤ gb127))
                 have n6_ := ak ((by rw [hg]; exact Nat.ne_of_lt (blk_lt (g := gb125) (o := .cells #[.int .i64 a0_0, .int .i64 a0_1, .int .i64 a0_2, .int .i64 a0_3, .int .i64 a0_4, .int .i64 a0_5, .int .i64 a0_6, .int .i64 a0_7] 36 (0, 0)) (by first | exact BK125.out | exact blk_drew BK125.out)) : gb125 ≠ gb127))
                 have n7_ := ak ((by rw [hg]; exact Nat.ne_of_gt (blk_lt (g := gb125) (o := .cells #[.int .i64 a0_0, .int .i64 a0_1, .int .i64 a0_2, .int .i64 a0_3, .int .i64 a0_4, .int .i64 a0_5, .int .i64 a0_6, .int .i64 a0_7] 36 (0, 0)) (by first | exact BK125.out | exact blk_drew BK125.out)) : gb127 ≠ gb125))
                 have n8_ := ak ((by rw [hg]; exact Nat.ne_of_lt (blk_lt (g := gb129) (o := .cells #[.int .i64 0, .int .i64 0] 23 (0, 0)) (by first | exact BK129.out | exact blk_drew BK129.out)) : gb129 ≠ gb127))
                 have n9_ := ak ((by rw [hg]; exact Nat.ne_of_gt (blk_lt (g := gb129) (o := .cells #[.int .i64 0, .int .i64 0] 23 (0, 0)) (by first | exact BK129.out | exact blk_drew BK129.out)) : gb127 ≠ gb129))
                 clear BK125
                 clear BK129
                 clear HB
                 have BK125 := n0_
                 have BK129 := n1_
                 have HB := n2_
                 have BK127 := n3_
                 have GW127 := n4_
                 have GE127 := n5_
                 have NB125_127 := n6_
                 have NB127_125 := n7_
                 have NB129_127 := n8_
                 have NB127_129 := n9_
                 clear n0_ n1_ n2_ n3_ n4_ n5_ n6_ n7_ n8_ n9_
                 clear hb hbox hg
                 refine hK.out _ _ ⟨(blk_cell BK125.out 0).trans rfl, (blk_cell BK125.out 1).trans rfl, (blk_cell BK125.out 2).trans rfl, (blk_cell BK125.out 3).trans rfl, (blk_cell BK125.out 4).trans rfl, (blk_cell BK125.out 5).trans rfl, (blk_cell BK125.out 6).trans rfl, (blk_cell BK125.out 7).trans rfl⟩ (fun hHeld => ?_)
                 clear hK K
                 refine norm_ (a' := ?_) ?_ ?_
                 rotate_left
                 ·show Act.put _ (some 8) _ = _
                  simp only [Act.put, List.setIfInBounds_toArray, List.set_cons_zero, List.set_cons_succ, i64_w, i32_w]
                  rfl
                 exact norm_ (by first | (simp only [putAll, Act.put, List.setIfInBounds_toArray, List.set_cons_zero, List.set_cons_succ]; done) | (simp only [putAll, Act.put, List.setIfInBounds_toArray, List.set_cons_zero, List.set_cons_succ]; rfl)) (hJ9_11 (gb127, gb129) _ ⟨hHeld, (by first | exact BK125.out | exact blk_drew BK125.out), (by first | exact BK127.out | exact blk_drew BK127.out), (by first | exact BK129.out | exact blk_drew BK129.out), GW127.out, GE127.out, NB125_127.out, NB127_125.out, NB129_127.out, NB127_129.out, GW129.out, GE129.out, NB125_129.out, NB129_125.out, (by first | exact HB.out | exact below_drew1 HB.out)⟩)
                ·skip
                 refine box_step ?hg (N := 9) ?hd (cs := #[.int .i64 0, .int .i64 0]) (t := 23) ?hr ?_; (case hd => rfl); (case hg => rfl); (case hr => first | (go_simp; done) | (go_simp; rfl))
                 intro gb128 hg w9 hbox hb
                 have n0_ := ak (blk_below (g := gb125) (o := .cells #[.int .i64 a0_0, .int .i64 a0_1, .int .i64 a0_2, .int .i64 a0_3, .int .i64 a0_4, .int .i64 a0_5, .int .i64 a0_6, .int .i64 a0_7] 36 (0, 0)) (by first | exact BK125.out | exact blk_drew BK125.out) hb)
                 have n1_ := ak (blk_below (g := gb129) (o := .cells #[.int .i64 0, .int .i64 0] 23 (0, 0)) (by first | exact BK129.out | exact blk_drew BK129.out) hb)
                 have n2_ := ak (below_step (by first | exact HB.out | exact below_drew1 HB.out) hb)
                 have n3_ := ak (hbox)
                 have n4_ := ak ((by rw [hg]; exact (below_size (by first | exact HB.out | exact below_drew1 HB.out)) : w.heap.size ≤ gb128))
                 have n5_ := ak ((by rw [hg]; exact (below_size (by first | exact HB.out | exact below_drew1 HB.out)) : w.heap.size ≤ gb128))
                 have n6_ := ak ((by rw [hg]; exact Nat.ne_of_lt (blk_lt (g := gb125) (o := .cells #[.int .i64 a0_0, .int .i64 a0_1, .int .i64 a0_2, .int .i64 a0_3, .int .i64 a0_4, .int .i64 a0_5, .int .i64 a0_6, .int .i64 a0_7] 36 (0, 0)) (by first | exact BK125.out | exact blk_drew BK125.out)) : gb125 ≠ gb128))
                 have n7_ := ak ((by rw [hg]; exact Nat.ne_of_gt (blk_lt (g := gb125) (o := .cells #[.int .i64 a0_0, .int .i64 a0_1, .int .i64 a0_2, .int .i64 a0_3, .int .i64 a0_4, .int .i64 a0_5, .int .i64 a0_6, .int .i64 a0_7] 36 (0, 0)) (by first | exact BK125.out | exact blk_drew BK125.out)) : gb128 ≠ gb125))
                 have n8_ := ak ((by rw [hg]; exact Nat.ne_of_lt (blk_lt (g := gb129) (o := .cells #[.int .i64 0, .int .i64 0] 23 (0, 0)) (by first | exact BK129.out | exact blk_drew BK129.out)) : gb129 ≠ gb128))
                 have n9_ := ak ((by rw [hg]; exact Nat.ne_of_gt (blk_lt (g := gb129) (o := .cells #[.int .i64 0, .int .i64 0] 23 (0, 0)) (by first | exact BK129.out | exact blk_drew BK129.out)) : gb128 ≠ gb129))
                 clear BK125
                 clear BK129
                 clear HB
                 have BK125 := n0_
                 have BK129 := n1_
                 have HB := n2_
                 have BK128 := n3_
                 have GW128 := n4_
                 have GE128 := n5_
                 have NB125_128 := n6_
                 have NB128_125 := n7_
                 have NB129_128 := n8_
                 have NB128_129 := n9_
                 clear n0_ n1_ n2_ n3_ n4_ n5_ n6_ n7_ n8_ n9_
                 clear hb hbox hg
                 refine hK.out _ _ ⟨(blk_cell BK125.out 0).trans rfl, (blk_cell BK125.out 1).trans rfl, (blk_cell BK125.out 2).trans rfl, (blk_cell BK125.out 3).trans rfl, (blk_cell BK125.out 4).trans rfl, (blk_cell BK125.out 5).trans rfl, (blk_cell BK125.out 6).trans rfl, (blk_cell BK125.out 7).trans rfl⟩ (fun hHeld => ?_)
                 clear hK K
                 refine norm_ (a' := ?_) ?_ ?_
                 rotate_left
                 ·show Act.put _ (some 9) _ = _
                  simp only [Act.put, List.setIfInBounds_toArray, List.set_cons_zero, List.set_cons_succ, i64_w, i32_w]
                  rfl
                 exact norm_ (by first | (simp only [putAll, Act.put, List.setIfInBounds_toArray, List.set_cons_zero, List.set_cons_succ]; done) | (simp only [putAll, Act.put, List.setIfInBounds_toArray, List.set_cons_zero, List.set_cons_succ]; rfl)) (hJ10_11 (gb128, gb129) _ ⟨hHeld, (by first | exact BK125.out | exact blk_drew BK125.out), (by first | exact BK128.out | exact blk_drew BK128.out), (by first | exact BK129.out | exact blk_drew BK129.out), GW128.out, GE128.out, NB125_128.out, NB128_125.out, NB129_128.out, NB128_129.out, GW129.out, GE129.out, NB125_129.out, NB129_125.out, (by first | exact HB.out | exact below_drew1 HB.out)⟩)
              ·skip
               rintro gb128 w8 ⟨hS_, h0_, h1_, h2_, h3_, h4_, h5_, h6_⟩
               have n0_ : Aside0 (w8.heap[gb125]? = some (.cells #[.int .i64 a0_0, .int .i64 a0_1, .int .i64 a0_2, .int .i64 a0_3, .int .i64 a0_4, .int .i64 a0_5, .int .i64 a0_6, .int .i64 a0_7] 36 (0, 0))) := ⟨h0_⟩
               have n1_ : Aside0 (w8.heap[gb128]? = some (.cells #[.int .i64 0, .int .i64 0] 23 (0, 0))) := ⟨h1_⟩
               have n2_ : Aside0 (w.heap.size ≤ gb128) := ⟨h2_⟩
               have n3_ : Aside0 (w.heap.size ≤ gb128) := ⟨h3_⟩
               have n4_ : Aside0 (gb125 ≠ gb128) := ⟨h4_⟩
               have n5_ : Aside0 (gb128 ≠ gb125) := ⟨h5_⟩
               have n6_ : Aside0 (Below w.heap.size w w8) := ⟨h6_⟩
               clear BK125
               clear HB
               clear h0_ h1_ h2_ h3_ h4_ h5_ h6_
               have BK125 := n0_
               have BK128 := n1_
               have GW128 := n2_
               have GE128 := n3_
               have NB125_128 := n4_
               have NB128_125 := n5_
               have HB := n6_
               clear n0_ n1_ n2_ n3_ n4_ n5_ n6_
               have hHeld : w8.cell? ⟨gb125, 0, none⟩ = some (.int .i64 a0_0) ∧ w8.cell? ⟨gb125, 1, none⟩ = some (.int .i64 a0_1) ∧ w8.cell? ⟨gb125, 2, none⟩ = some (.int .i64 a0_2) ∧ w8.cell? ⟨gb125, 3, none⟩ = some (.int .i64 a0_3) ∧ w8.cell? ⟨gb125, 4, none⟩ = some (.int .i64 a0_4) ∧ w8.cell? ⟨gb125, 5, none⟩ = some (.int .i64 a0_5) ∧ w8.cell? ⟨gb125, 6, none⟩ = some (.int .i64 a0_6) ∧ w8.cell? ⟨gb125, 7, none⟩ = some (.int .i64 a0_7) := hS_
               refine norm_ (a' := ?_) ?_ ?_
               rotate_left
               ·simp only [putAll, Act.put, List.setIfInBounds_toArray, List.set_cons_zero, List.set_cons_succ]
                rfl
               refine three_ (i := 8) (j := 9) (k := 11) (Ni := some 7) (Nj := some 8) (Nk := some 10) #[true, true, true, true, true, true, true, true, true, false, true, false, false, false, false, false] #[true, true, true, true, true, true, true, true, false, true, true, false, false, false, false, false] #[true, true, true, true, true, true, true, true, false, false, true, true, false, false, false, false] rfl rfl rfl rfl rfl rfl (three_of HT_.out (by kernel_rfl)) (by decide) (by decide) (by decide) (fun K hK => ?_) (fun K hK => ?_) (fun K hK => ?_)
               ·skip
                refine box_step ?hg (N := 7) ?hd (cs := #[.int .i64 0, .int .i64 0]) (t := 23) ?hr ?_; (case hd => rfl); (case hg => rfl); (case hr => first | (go_simp; done) | (go_simp; rfl))
                intro gb126 hg w9 hbox hb
                have n0_ := ak (blk_below (g := gb125) (o := .cells #[.int .i64 a0_0, .int .i64 a0_1, .int .i64 a0_2, .int .i64 a0_3, .int .i64 a0_4, .int .i64 a0_5, .int .i64 a0_6, .int .i64 a0_7] 36 (0, 0)) (by first | exact BK125.out | exact blk_drew BK125.out) hb)
                have n1_ := ak (blk_below (g := gb128) (o := .cells #[.int .i64 0, .int .i64 0] 23 (0, 0)) (by first | exact BK128.out | exact blk_drew BK128.out) hb)
                have n2_ := ak (below_step (by first | exact HB.out | exact below_drew1 HB.out) hb)
                have n3_ := ak (hbox)
                have n4_ := ak ((by rw [hg]; exact (below_size (by first | exact HB.out | exact below_drew1 HB.out)) : w.heap.size ≤ gb126))
                have n5_ := ak ((by rw [hg]; exact (below_size (by first | exact HB.out | exact below_drew1 HB.out)) : w.heap.size ≤ gb126))
                have n6_ := ak ((by rw [hg]; exact Nat.ne_of_lt (blk_lt (g := gb125) (o := .cells #[.int .i64 a0_0, .int .i64 a0_1, .int .i64 a0_2, .int .i64 a0_3, .int .i64 a0_4, .int .i64 a0_5, .int .i64 a0_6, .int .i64 a0_7] 36 (0, 0)) (by first | exact BK125.out | exact blk_drew BK125.out)) : gb125 ≠ gb126))
                have n7_ := ak ((by rw [hg]; exact Nat.ne_of_gt (blk_lt (g := gb125) (o := .cells #[.int .i64 a0_0, .int .i64 a0_1, .int .i64 a0_2, .int .i64 a0_3, .int .i64 a0_4, .int .i64 a0_5, .int .i64 a0_6, .int .i64 a0_7] 36 (0, 0)) (by first | exact BK125.out | exact blk_drew BK125.out)) : gb126 ≠ gb125))
                have n8_ := ak ((by rw [hg]; exact Nat.ne_of_lt (blk_lt (g := gb128) (o := .cells #[.int .i64 0, .int .i64 0] 23 (0, 0)) (by first | exact BK128.out | exact blk_drew BK128.out)) : gb128 ≠ gb126))
                have n9_ := ak ((by rw [hg]; exact Nat.ne_of_gt (blk_lt (g := gb128) (o := .cells #[.int .i64 0, .int .i64 0] 23 (0, 0)) (by first | exact BK128.out | exact blk_drew BK128.out)) : gb126 ≠ gb128))
                clear BK125
                clear BK128
                clear HB
                have BK125 := n0_
                have BK128 := n1_
                have HB := n2_
                have BK126 := n3_
                have GW126 := n4_
                have GE126 := n5_
                have NB125_126 := n6_
                have NB126_125 := n7_
                have NB128_126 := n8_
                have NB126_128 := n9_
                clear n0_ n1_ n2_ n3_ n4_ n5_ n6_ n7_ n8_ n9_
                clear hb hbox hg
                refine hK.out _ _ ⟨(blk_cell BK125.out 0).trans rfl, (blk_cell BK125.out 1).trans rfl, (blk_cell BK125.out 2).trans rfl, (blk_cell BK125.out 3).trans rfl, (blk_cell BK125.out 4).trans rfl, (blk_cell BK125.out 5).trans rfl, (blk_cell BK125.out 6).trans rfl, (blk_cell BK125.out 7).trans rfl⟩ (fun hHeld => ?_)
                clear hK K
                refine norm_ (a' := ?_) ?_ ?_
                rotate_left
                ·show Act.put _ (some 7) _ = _
                 simp only [Act.put, List.setIfInBounds_toArray, List.set_cons_zero, List.set_cons_succ, i64_w, i32_w]
                 rfl
                exact norm_ (by first | (simp only [putAll, Act.put, List.setIfInBounds_toArray, List.set_cons_zero, List.set_cons_succ]; done) | (simp only [putAll, Act.put, List.setIfInBounds_toArray, List.set_cons_zero, List.set_cons_succ]; rfl)) (hJ8_10 (gb126, gb128) _ ⟨hHeld, (by first | exact BK125.out | exact blk_drew BK125.out), (by first | exact BK126.out | exact blk_drew BK126.out), (by first | exact BK128.out | exact blk_drew BK128.out), GW126.out, GE126.out, NB125_126.out, NB126_125.out, NB128_126.out, NB126_128.out, GW128.out, GE128.out, NB125_128.out, NB128_125.out, (by first | exact HB.out | exact below_drew1 HB.out)⟩)
               ·skip
                refine box_step ?hg (N := 8) ?hd (cs := #[.int .i64 0, .int .i64 0]) (t := 23) ?hr ?_; (case hd => rfl); (case hg => rfl); (case hr => first | (go_simp; done) | (go_simp; rfl))
                intro gb127 hg w9 hbox hb
                have n0_ := ak (blk_below (g := gb125) (o := .cells #[.int .i64 a0_0, .int .i64 a0_1, .int .i64 a0_2, .int .i64 a0_3, .int .i64 a0_4, .int .i64 a0_5, .int .i64 a0_6, .int .i64 a0_7] 36 (0, 0)) (by first | exact BK125.out | exact blk_drew BK125.out) hb)
                have n1_ := ak (blk_below (g := gb128) (o := .cells #[.int .i64 0, .int .i64 0] 23 (0, 0)) (by first | exact BK128.out | exact blk_drew BK128.out) hb)
                have n2_ := ak (below_step (by first | exact HB.out | exact below_drew1 HB.out) hb)
                have n3_ := ak (hbox)
                have n4_ := ak ((by rw [hg]; exact (below_size (by first | exact HB.out | exact below_drew1 HB.out)) : w.heap.size ≤ gb127))
                have n5_ := ak ((by rw [hg]; exact (below_size (by first | exact HB.out | exact below_drew1 HB.out)) : w.heap.size ≤ gb127))
                have n6_ := ak ((by rw [hg]; exact Nat.ne_of_lt (blk_lt (g := gb125) (o := .cells #[.int .i64 a0_0, .int .i64 a0_1, .int .i64 a0_2, .int .i64 a0_3, .int .i64 a0_4, .int .i64 a0_5, .int .i64 a0_6, .int .i64 a0_7] 36 (0, 0)) (by first | exact BK125.out | exact blk_drew BK125.out)) : gb125 ≠ gb127))
                have n7_ := ak ((by rw [hg]; exact Nat.ne_of_gt (blk_lt (g := gb125) (o := .cells #[.int .i64 a0_0, .int .i64 a0_1, .int .i64 a0_2, .int .i64 a0_3, .int .i64 a0_4, .int .i64 a0_5, .int .i64 a0_6, .int .i64 a0_7] 36 (0, 0)) (by first | exact BK125.out | exact blk_drew BK125.out)) : gb127 ≠ gb125))
                have n8_ := ak ((by rw [hg]; exact Nat.ne_of_lt (blk_lt (g := gb128) (o := .cells #[.int .i64 0, .int .i64 0] 23 (0, 0)) (by first | exact BK128.out | exact blk_drew BK128.out)) : gb128 ≠ gb127))
                have n9_ := ak ((by rw [hg]; exact Nat.ne_of_gt (blk_lt (g := gb128) (o := .cells #[.int .i64 0, .int .i64 0] 23 (0, 0)) (by first | exact BK128.out | exact blk_drew BK128.out)) : gb127 ≠ gb128))
                clear BK125
                clear BK128
                clear HB
                have BK125 := n0_
                have BK128 := n1_
                have HB := n2_
                have BK127 := n3_
                have GW127 := n4_
                have GE127 := n5_
                have NB125_127 := n6_
                have NB127_125 := n7_
                have NB128_127 := n8_
                have NB127_128 := n9_
                clear n0_ n1_ n2_ n3_ n4_ n5_ n6_ n7_ n8_ n9_
                clear hb hbox hg
                refine hK.out _ _ ⟨(blk_cell BK125.out 0).trans rfl, (blk_cell BK125.out 1).trans rfl, (blk_cell BK125.out 2).trans rfl, (blk_cell BK125.out 3).trans rfl, (blk_cell BK125.out 4).trans rfl, (blk_cell BK125.out 5).trans rfl, (blk_cell BK125.out 6).trans rfl, (blk_cell BK125.out 7).trans rfl⟩ (fun hHeld => ?_)
                clear hK K
                refine norm_ (a' := ?_) ?_ ?_
                rotate_left
                ·show Act.put _ (some 8) _ = _
                 simp only [Act.put, List.setIfInBounds_toArray, List.set_cons_zero, List.set_cons_succ, i64_w, i32_w]
                 rfl
                exact norm_ (by first | (simp only [putAll, Act.put, List.setIfInBounds_toArray, List.set_cons_zero, List.set_cons_succ]; done) | (simp only [putAll, Act.put, List.setIfInBounds_toArray, List.set_cons_zero, List.set_cons_succ]; rfl)) (hJ9_10 (gb127, gb128) _ ⟨hHeld, (by first | exact BK125.out | exact blk_drew BK125.out), (by first | exact BK127.out | exact blk_drew BK127.out), (by first | exact BK128.out | exact blk_drew BK128.out), GW127.out, GE127.out, NB125_127.out, NB127_125.out, NB128_127.out, NB127_128.out, GW128.out, GE128.out, NB125_128.out, NB128_125.out, (by first | exact HB.out | exact below_drew1 HB.out)⟩)
               ·skip
                refine box_step ?hg (N := 10) ?hd (cs := #[.int .i64 0, .int .i64 0]) (t := 23) ?hr ?_; (case hd => rfl); (case hg => rfl); (case hr => first | (go_simp; done) | (go_simp; rfl))
                intro gb129 hg w9 hbox hb
                have n0_ := ak (blk_below (g := gb125) (o := .cells #[.int .i64 a0_0, .int .i64 a0_1, .int .i64 a0_2, .int .i64 a0_3, .int .i64 a0_4, .int .i64 a0_5, .int .i64 a0_6, .int .i64 a0_7] 36 (0, 0)) (by first | exact BK125.out | exact blk_drew BK125.out) hb)
                have n1_ := ak (blk_below (g := gb128) (o := .cells #[.int .i64 0, .int .i64 0] 23 (0, 0)) (by first | exact BK128.out | exact blk_drew BK128.out) hb)
                have n2_ := ak (below_step (by first | exact HB.out | exact below_drew1 HB.out) hb)
                have n3_ := ak (hbox)
                have n4_ := ak ((by rw [hg]; exact (below_size (by first | exact HB.out | exact below_drew1 HB.out)) : w.heap.size ≤ gb129))
                have n5_ := ak ((by rw [hg]; exact (below_size (by first | exact HB.out | exact below_drew1 HB.out)) : w.heap.size ≤ gb129))
                have n6_ := ak ((by rw [hg]; exact Nat.ne_of_lt (blk_lt (g := gb125) (o := .cells #[.int .i64 a0_0, .int .i64 a0_1, .int .i64 a0_2, .int .i64 a0_3, .int .i64 a0_4, .int .i64 a0_5, .int .i64 a0_6, .int .i64 a0_7] 36 (0, 0)) (by first | exact BK125.out | exact blk_drew BK125.out)) : gb125 ≠ gb129))
                have n7_ := ak ((by rw [hg]; exact Nat.ne_of_gt (blk_lt (g := gb125) (o := .cells #[.int .i64 a0_0, .int .i64 a0_1, .int .i64 a0_2, .int .i64 a0_3, .int .i64 a0_4, .int .i64 a0_5, .int .i64 a0_6, .int .i64 a0_7] 36 (0, 0)) (by first | exact BK125.out | exact blk_drew BK125.out)) : gb129 ≠ gb125))
                have n8_ := ak ((by rw [hg]; exact Nat.ne_of_lt (blk_lt (g := gb128) (o := .cells #[.int .i64 0, .int .i64 0] 23 (0, 0)) (by first | exact BK128.out | exact blk_drew BK128.out)) : gb128 ≠ gb129))
                have n9_ := ak ((by rw [hg]; exact Nat.ne_of_gt (blk_lt (g := gb128) (o := .cells #[.int .i64 0, .int .i64 0] 23 (0, 0)) (by first | exact BK128.out | exact blk_drew BK128.out)) : gb129 ≠ gb128))
                clear BK125
                clear BK128
                clear HB
                have BK125 := n0_
                have BK128 := n1_
                have HB := n2_
                have BK129 := n3_
                have GW129 := n4_
                have GE129 := n5_
                have NB125_129 := n6_
                have NB129_125 := n7_
                have NB128_129 := n8_
                have NB129_128 := n9_
                clear n0_ n1_ n2_ n3_ n4_ n5_ n6_ n7_ n8_ n9_
                clear hb hbox hg
                refine hK.out _ _ ⟨(blk_cell BK125.out 0).trans rfl, (blk_cell BK125.out 1).trans rfl, (blk_cell BK125.out 2).trans rfl, (blk_cell BK125.out 3).trans rfl, (blk_cell BK125.out 4).trans rfl, (blk_cell BK125.out 5).trans rfl, (blk_cell BK125.out 6).trans rfl, (blk_cell BK125.out 7).trans rfl⟩ (fun hHeld => ?_)
                clear hK K
                refine norm_ (a' := ?_) ?_ ?_
                rotate_left
                ·show Act.put _ (some 10) _ = _
                 simp only [Act.put, List.setIfInBounds_toArray, List.set_cons_zero, List.set_cons_succ, i64_w, i32_w]
                 rfl
                exact norm_ (by first | (simp only [putAll, Act.put, List.setIfInBounds_toArray, List.set_cons_zero, List.set_cons_succ]; done) | (simp only [putAll, Act.put, List.setIfInBounds_toArray, List.set_cons_zero, List.set_cons_succ]; rfl)) (hJ10_11 (gb128, gb129) _ ⟨hHeld, (by first | exact BK125.out | exact blk_drew BK125.out), (by first | exact BK128.out | exact blk_drew BK128.out), (by first | exact BK129.out | exact blk_drew BK129.out), GW128.out, GE128.out, NB125_128.out, NB128_125.out, NB129_128.out, NB128_129.out, GW129.out, GE129.out, NB125_129.out, NB129_125.out, (by first | exact HB.out | exact below_drew1 HB.out)⟩)
             ·skip
              rintro gb127 w8 ⟨hS_, h0_, h1_, h2_, h3_, h4_, h5_, h6_⟩
              have n0_ : Aside0 (w8.heap[gb125]? = some (.cells #[.int .i64 a0_0, .int .i64 a0_1, .int .i64 a0_2, .int .i64 a0_3, .int .i64 a0_4, .int .i64 a0_5, .int .i64 a0_6, .int .i64 a0_7] 36 (0, 0))) := ⟨h0_⟩
              have n1_ : Aside0 (w8.heap[gb127]? = some (.cells #[.int .i64 0, .int .i64 0] 23 (0, 0))) := ⟨h1_⟩
              have n2_ : Aside0 (w.heap.size ≤ gb127) := ⟨h2_⟩
              have n3_ : Aside0 (w.heap.size ≤ gb127) := ⟨h3_⟩
              have n4_ : Aside0 (gb125 ≠ gb127) := ⟨h4_⟩
              have n5_ : Aside0 (gb127 ≠ gb125) := ⟨h5_⟩
              have n6_ : Aside0 (Below w.heap.size w w8) := ⟨h6_⟩
              clear BK125
              clear HB
              clear h0_ h1_ h2_ h3_ h4_ h5_ h6_
              have BK125 := n0_
              have BK127 := n1_
              have GW127 := n2_
              have GE127 := n3_
              have NB125_127 := n4_
              have NB127_125 := n5_
              have HB := n6_
              clear n0_ n1_ n2_ n3_ n4_ n5_ n6_
              have hHeld : w8.cell? ⟨gb125, 0, none⟩ = some (.int .i64 a0_0) ∧ w8.cell? ⟨gb125, 1, none⟩ = some (.int .i64 a0_1) ∧ w8.cell? ⟨gb125, 2, none⟩ = some (.int .i64 a0_2) ∧ w8.cell? ⟨gb125, 3, none⟩ = some (.int .i64 a0_3) ∧ w8.cell? ⟨gb125, 4, none⟩ = some (.int .i64 a0_4) ∧ w8.cell? ⟨gb125, 5, none⟩ = some (.int .i64 a0_5) ∧ w8.cell? ⟨gb125, 6, none⟩ = some (.int .i64 a0_6) ∧ w8.cell? ⟨gb125, 7, none⟩ = some (.int .i64 a0_7) := hS_
              refine norm_ (a' := ?_) ?_ ?_
              rotate_left
              ·simp only [putAll, Act.put, List.setIfInBounds_toArray, List.set_cons_zero, List.set_cons_succ]
               rfl
              refine three_ (i := 8) (j := 10) (k := 11) (Ni := some 7) (Nj := some 9) (Nk := some 10) #[true, true, true, true, true, true, true, true, true, true, false, false, false, false, false, false] #[true, true, true, true, true, true, true, true, false, true, true, false, false, false, false, false] #[true, true, true, true, true, true, true, true, false, true, false, true, false, false, false, false] rfl rfl rfl rfl rfl rfl (three_of HT_.out (by kernel_rfl)) (by decide) (by decide) (by decide) (fun K hK => ?_) (fun K hK => ?_) (fun K hK => ?_)
              ·skip
               refine box_step ?hg (N := 7) ?hd (cs := #[.int .i64 0, .int .i64 0]) (t := 23) ?hr ?_; (case hd => rfl); (case hg => rfl); (case hr => first | (go_simp; done) | (go_simp; rfl))
               intro gb126 hg w9 hbox hb
               have n0_ := ak (blk_below (g := gb125) (o := .cells #[.int .i64 a0_0, .int .i64 a0_1, .int .i64 a0_2, .int .i64 a0_3, .int .i64 a0_4, .int .i64 a0_5, .int .i64 a0_6, .int .i64 a0_7] 36 (0, 0)) (by first | exact BK125.out | exact blk_drew BK125.out) hb)
               have n1_ := ak (blk_below (g := gb127) (o := .cells #[.int .i64 0, .int .i64 0] 23 (0, 0)) (by first | exact BK127.out | exact blk_drew BK127.out) hb)
               have n2_ := ak (below_step (by first | exact HB.out | exact below_drew1 HB.out) hb)
               have n3_ := ak (hbox)
               have n4_ := ak ((by rw [hg]; exact (below_size (by first | exact HB.out | exact below_drew1 HB.out)) : w.heap.size ≤ gb126))
               have n5_ := ak ((by rw [hg]; exact (below_size (by first | exact HB.out | exact below_drew1 HB.out)) : w.heap.size ≤ gb126))
               have n6_ := ak ((by rw [hg]; exact Nat.ne_of_lt (blk_lt (g := gb125) (o := .cells #[.int .i64 a0_0, .int .i64 a0_1, .int .i64 a0_2, .int .i64 a0_3, .int .i64 a0_4, .int .i64 a0_5, .int .i64 a0_6, .int .i64 a0_7] 36 (0, 0)) (by first | exact BK125.out | exact blk_drew BK125.out)) : gb125 ≠ gb126))
               have n7_ := ak ((by rw [hg]; exact Nat.ne_of_gt (blk_lt (g := gb125) (o := .cells #[.int .i64 a0_0, .int .i64 a0_1, .int .i64 a0_2, .int .i64 a0_3, .int .i64 a0_4, .int .i64 a0_5, .int .i64 a0_6, .int .i64 a0_7] 36 (0, 0)) (by first | exact BK125.out | exact blk_drew BK125.out)) : gb126 ≠ gb125))
               have n8_ := ak ((by rw [hg]; exact Nat.ne_of_lt (blk_lt (g := gb127) (o := .cells #[.int .i64 0, .int .i64 0] 23 (0, 0)) (by first | exact BK127.out | exact blk_drew BK127.out)) : gb127 ≠ gb126))
               have n9_ := ak ((by rw [hg]; exact Nat.ne_of_gt (blk_lt (g := gb127) (o := .cells #[.int .i64 0, .int .i64 0] 23 (0, 0)) (by first | exact BK127.out | exact blk_drew BK127.out)) : gb126 ≠ gb127))
               clear BK125
               clear BK127
               clear HB
               have BK125 := n0_
               have BK127 := n1_
               have HB := n2_
               have BK126 := n3_
               have GW126 := n4_
               have GE126 := n5_
               have NB125_126 := n6_
               have NB126_125 := n7_
               have NB127_126 := n8_
               have NB126_127 := n9_
               clear n0_ n1_ n2_ n3_ n4_ n5_ n6_ n7_ n8_ n9_
               clear hb hbox hg
               refine hK.out _ _ ⟨(blk_cell BK125.out 0).trans rfl, (blk_cell BK125.out 1).trans rfl, (blk_cell BK125.out 2).trans rfl, (blk_cell BK125.out 3).trans rfl, (blk_cell BK125.out 4).trans rfl, (blk_cell BK125.out 5).trans rfl, (blk_cell BK125.out 6).trans rfl, (blk_cell BK125.out 7).trans rfl⟩ (fun hHeld => ?_)
               clear hK K
               refine norm_ (a' := ?_) ?_ ?_
               rotate_left
               ·show Act.put _ (some 7) _ = _
                simp only [Act.put, List.setIfInBounds_toArray, List.set_cons_zero, List.set_cons_succ, i64_w, i32_w]
                rfl
               exact norm_ (by first | (simp only [putAll, Act.put, List.setIfInBounds_toArray, List.set_cons_zero, List.set_cons_succ]; done) | (simp only [putAll, Act.put, List.setIfInBounds_toArray, List.set_cons_zero, List.set_cons_succ]; rfl)) (hJ8_9 (gb126, gb127) _ ⟨hHeld, (by first | exact BK125.out | exact blk_drew BK125.out), (by first | exact BK126.out | exact blk_drew BK126.out), (by first | exact BK127.out | exact blk_drew BK127.out), GW126.out, GE126.out, NB125_126.out, NB126_125.out, NB127_126.out, NB126_127.out, GW127.out, GE127.out, NB125_127.out, NB127_125.out, (by first | exact HB.out | exact below_drew1 HB.out)⟩)
              ·skip
               refine box_step ?hg (N := 9) ?hd (cs := #[.int .i64 0, .int .i64 0]) (t := 23) ?hr ?_; (case hd => rfl); (case hg => rfl); (case hr => first | (go_simp; done) | (go_simp; rfl))
               intro gb128 hg w9 hbox hb
               have n0_ := ak (blk_below (g := gb125) (o := .cells #[.int .i64 a0_0, .int .i64 a0_1, .int .i64 a0_2, .int .i64 a0_3, .int .i64 a0_4, .int .i64 a0_5, .int .i64 a0_6, .int .i64 a0_7] 36 (0, 0)) (by first | exact BK125.out | exact blk_drew BK125.out) hb)
               have n1_ := ak (blk_below (g := gb127) (o := .cells #[.int .i64 0, .int .i64 0] 23 (0, 0)) (by first | exact BK127.out | exact blk_drew BK127.out) hb)
               have n2_ := ak (below_step (by first | exact HB.out | exact below_drew1 HB.out) hb)
               have n3_ := ak (hbox)
               have n4_ := ak ((by rw [hg]; exact (below_size (by first | exact HB.out | exact below_drew1 HB.out)) : w.heap.size ≤ gb128))
               have n5_ := ak ((by rw [hg]; exact (below_size (by first | exact HB.out | exact below_drew1 HB.out)) : w.heap.size ≤ gb128))
               have n6_ := ak ((by rw [hg]; exact Nat.ne_of_lt (blk_lt (g := gb125) (o := .cells #[.int .i64 a0_0, .int .i64 a0_1, .int .i64 a0_2, .int .i64 a0_3, .int .i64 a0_4, .int .i64 a0_5, .int .i64 a0_6, .int .i64 a0_7] 36 (0, 0)) (by first | exact BK125.out | exact blk_drew BK125.out)) : gb125 ≠ gb128))
               have n7_ := ak ((by rw [hg]; exact Nat.ne_of_gt (blk_lt (g := gb125) (o := .cells #[.int .i64 a0_0, .int .i64 a0_1, .int .i64 a0_2, .int .i64 a0_3, .int .i64 a0_4, .int .i64 a0_5, .int .i64 a0_6, .int .i64 a0_7] 36 (0, 0)) (by first | exact BK125.out | exact blk_drew BK125.out)) : gb128 ≠ gb125))
               have n8_ := ak ((by rw [hg]; exact Nat.ne_of_lt (blk_lt (g := gb127) (o := .cells #[.int .i64 0, .int .i64 0] 23 (0, 0)) (by first | exact BK127.out | exact blk_drew BK127.out)) : gb127 ≠ gb128))
               have n9_ := ak ((by rw [hg]; exact Nat.ne_of_gt (blk_lt (g := gb127) (o := .cells #[.int .i64 0, .int .i64 0] 23 (0, 0)) (by first | exact BK127.out | exact blk_drew BK127.out)) : gb128 ≠ gb127))
               clear BK125
               clear BK127
               clear HB
               have BK125 := n0_
               have BK127 := n1_
               have HB := n2_
               have BK128 := n3_
               have GW128 := n4_
               have GE128 := n5_
               have NB125_128 := n6_
               have NB128_125 := n7_
               have NB127_128 := n8_
               have NB128_127 := n9_
               clear n0_ n1_ n2_ n3_ n4_ n5_ n6_ n7_ n8_ n9_
               clear hb hbox hg
               refine hK.out _ _ ⟨(blk_cell BK125.out 0).trans rfl, (blk_cell BK125.out 1).trans rfl, (blk_cell BK125.out 2).trans rfl, (blk_cell BK125.out 3).trans rfl, (blk_cell BK125.out 4).trans rfl, (blk_cell BK125.out 5).trans rfl, (blk_cell BK125.out 6).trans rfl, (blk_cell BK125.out 7).trans rfl⟩ (fun hHeld => ?_)
               clear hK K
               refine norm_ (a' := ?_) ?_ ?_
               rotate_left
               ·show Act.put _ (some 9) _ = _
                simp only [Act.put, List.setIfInBounds_toArray, List.set_cons_zero, List.set_cons_succ, i64_w, i32_w]
                rfl
               exact norm_ (by first | (simp only [putAll, Act.put, List.setIfInBounds_toArray, List.set_cons_zero, List.set_cons_succ]; done) | (simp only [putAll, Act.put, List.setIfInBounds_toArray, List.set_cons_zero, List.set_cons_succ]; rfl)) (hJ9_10 (gb127, gb128) _ ⟨hHeld, (by first | exact BK125.out | exact blk_drew BK125.out), (by first | exact BK127.out | exact blk_drew BK127.out), (by first | exact BK128.out | exact blk_drew BK128.out), GW127.out, GE127.out, NB125_127.out, NB127_125.out, NB128_127.out, NB127_128.out, GW128.out, GE128.out, NB125_128.out, NB128_125.out, (by first | exact HB.out | exact below_drew1 HB.out)⟩)
              ·skip
               refine box_step ?hg (N := 10) ?hd (cs := #[.int .i64 0, .int .i64 0]) (t := 23) ?hr ?_; (case hd => rfl); (case hg => rfl); (case hr => first | (go_simp; done) | (go_simp; rfl))
               intro gb129 hg w9 hbox hb
               have n0_ := ak (blk_below (g := gb125) (o := .cells #[.int .i64 a0_0, .int .i64 a0_1, .int .i64 a0_2, .int .i64 a0_3, .int .i64 a0_4, .int .i64 a0_5, .int .i64 a0_6, .int .i64 a0_7] 36 (0, 0)) (by first | exact BK125.out | exact blk_drew BK125.out) hb)
               have n1_ := ak (blk_below (g := gb127) (o := .cells #[.int .i64 0, .int .i64 0] 23 (0, 0)) (by first | exact BK127.out | exact blk_drew BK127.out) hb)
               have n2_ := ak (below_step (by first | exact HB.out | exact below_drew1 HB.out) hb)
               have n3_ := ak (hbox)
               have n4_ := ak ((by rw [hg]; exact (below_size (by first | exact HB.out | exact below_drew1 HB.out)) : w.heap.size ≤ gb129))
               have n5_ := ak ((by rw [hg]; exact (below_size (by first | exact HB.out | exact below_drew1 HB.out)) : w.heap.size ≤ gb129))
               have n6_ := ak ((by rw [hg]; exact Nat.ne_of_lt (blk_lt (g := gb125) (o := .cells #[.int .i64 a0_0, .int .i64 a0_1, .int .i64 a0_2, .int .i64 a0_3, .int .i64 a0_4, .int .i64 a0_5, .int .i64 a0_6, .int .i64 a0_7] 36 (0, 0)) (by first | exact BK125.out | exact blk_drew BK125.out)) : gb125 ≠ gb129))
               have n7_ := ak ((by rw [hg]; exact Nat.ne_of_gt (blk_lt (g := gb125) (o := .cells #[.int .i64 a0_0, .int .i64 a0_1, .int .i64 a0_2, .int .i64 a0_3, .int .i64 a0_4, .int .i64 a0_5, .int .i64 a0_6, .int .i64 a0_7] 36 (0, 0)) (by first | exact BK125.out | exact blk_drew BK125.out)) : gb129 ≠ gb125))
               have n8_ := ak ((by rw [hg]; exact Nat.ne_of_lt (blk_lt (g := gb127) (o := .cells #[.int .i64 0, .int .i64 0] 23 (0, 0)) (by first | exact BK127.out | exact blk_drew BK127.out)) : gb127 ≠ gb129))
               have n9_ := ak ((by rw [hg]; exact Nat.ne_of_gt (blk_lt (g := gb127) (o := .cells #[.int .i64 0, .int .i64 0] 23 (0, 0)) (by first | exact BK127.out | exact blk_drew BK127.out)) : gb129 ≠ gb127))
               clear BK125
               clear BK127
               clear HB
               have BK125 := n0_
               have BK127 := n1_
               have HB := n2_
               have BK129 := n3_
               have GW129 := n4_
               have GE129 := n5_
               have NB125_129 := n6_
               have NB129_125 := n7_
               have NB127_129 := n8_
               have NB129_127 := n9_
               clear n0_ n1_ n2_ n3_ n4_ n5_ n6_ n7_ n8_ n9_
               clear hb hbox hg
               refine hK.out _ _ ⟨(blk_cell BK125.out 0).trans rfl, (blk_cell BK125.out 1).trans rfl, (blk_cell BK125.out 2).trans rfl, (blk_cell BK125.out 3).trans rfl, (blk_cell BK125.out 4).trans rfl, (blk_cell BK125.out 5).trans rfl, (blk_cell BK125.out 6).trans rfl, (blk_cell BK125.out 7).trans rfl⟩ (fun hHeld => ?_)
               clear hK K
               refine norm_ (a' := ?_) ?_ ?_
               rotate_left
               ·show Act.put _ (some 10) _ = _
                simp only [Act.put, List.setIfInBounds_toArray, List.set_cons_zero, List.set_cons_succ, i64_w, i32_w]
                rfl
               exact norm_ (by first | (simp only [putAll, Act.put, List.setIfInBounds_toArray, List.set_cons_zero, List.set_cons_succ]; done) | (simp only [putAll, Act.put, List.setIfInBounds_toArray, List.set_cons_zero, List.set_cons_succ]; rfl)) (hJ9_11 (gb127, gb129) _ ⟨hHeld, (by first | exact BK125.out | exact blk_drew BK125.out), (by first | exact BK127.out | exact blk_drew BK127.out), (by first | exact BK129.out | exact blk_drew BK129.out), GW127.out, GE127.out, NB125_127.out, NB127_125.out, NB129_127.out, NB127_129.out, GW129.out, GE129.out, NB125_129.out, NB129_125.out, (by first | exact HB.out | exact below_drew1 HB.out)⟩)
            ·skip
             rintro gb126 w8 ⟨hS_, h0_, h1_, h2_, h3_, h4_, h5_, h6_⟩
             have n0_ : Aside0 (w8.heap[gb125]? = some (.cells #[.int .i64 a0_0, .int .i64 a0_1, .int .i64 a0_2, .int .i64 a0_3, .int .i64 a0_4, .int .i64 a0_5, .int .i64 a0_6, .int .i64 a0_7] 36 (0, 0))) := ⟨h0_⟩
             have n1_ : Aside0 (w8.heap[gb126]? = some (.cells #[.int .i64 0, .int .i64 0] 23 (0, 0))) := ⟨h1_⟩
             have n2_ : Aside0 (w.heap.size ≤ gb126) := ⟨h2_⟩
             have n3_ : Aside0 (w.heap.size ≤ gb126) := ⟨h3_⟩
             have n4_ : Aside0 (gb125 ≠ gb126) := ⟨h4_⟩
             have n5_ : Aside0 (gb126 ≠ gb125) := ⟨h5_⟩
             have n6_ : Aside0 (Below w.heap.size w w8) := ⟨h6_⟩
             clear BK125
             clear HB
             clear h0_ h1_ h2_ h3_ h4_ h5_ h6_
             have BK125 := n0_
             have BK126 := n1_
             have GW126 := n2_
             have GE126 := n3_
             have NB125_126 := n4_
             have NB126_125 := n5_
             have HB := n6_
             clear n0_ n1_ n2_ n3_ n4_ n5_ n6_
             have hHeld : w8.cell? ⟨gb125, 0, none⟩ = some (.int .i64 a0_0) ∧ w8.cell? ⟨gb125, 1, none⟩ = some (.int .i64 a0_1) ∧ w8.cell? ⟨gb125, 2, none⟩ = some (.int .i64 a0_2) ∧ w8.cell? ⟨gb125, 3, none⟩ = some (.int .i64 a0_3) ∧ w8.cell? ⟨gb125, 4, none⟩ = some (.int .i64 a0_4) ∧ w8.cell? ⟨gb125, 5, none⟩ = some (.int .i64 a0_5) ∧ w8.cell? ⟨gb125, 6, none⟩ = some (.int .i64 a0_6) ∧ w8.cell? ⟨gb125, 7, none⟩ = some (.int .i64 a0_7) := hS_
             refine norm_ (a' := ?_) ?_ ?_
             rotate_left
             ·simp only [putAll, Act.put, List.setIfInBounds_toArray, List.set_cons_zero, List.set_cons_succ]
              rfl
             refine three_ (i := 9) (j := 10) (k := 11) (Ni := some 8) (Nj := some 9) (Nk := some 10) #[true, true, true, true, true, true, true, true, true, true, false, false, false, false, false, false] #[true, true, true, true, true, true, true, true, true, false, true, false, false, false, false, false] #[true, true, true, true, true, true, true, true, true, false, false, true, false, false, false, false] rfl rfl rfl rfl rfl rfl (three_of HT_.out (by kernel_rfl)) (by decide) (by decide) (by decide) (fun K hK => ?_) (fun K hK => ?_) (fun K hK => ?_)
             ·skip
              refine box_step ?hg (N := 8) ?hd (cs := #[.int .i64 0, .int .i64 0]) (t := 23) ?hr ?_; (case hd => rfl); (case hg => rfl); (case hr => first | (go_simp; done) | (go_simp; rfl))
              intro gb127 hg w9 hbox hb
              have n0_ := ak (blk_below (g := gb125) (o := .cells #[.int .i64 a0_0, .int .i64 a0_1, .int .i64 a0_2, .int .i64 a0_3, .int .i64 a0_4, .int .i64 a0_5, .int .i64 a0_6, .int .i64 a0_7] 36 (0, 0)) (by first | exact BK125.out | exact blk_drew BK125.out) hb)
              have n1_ := ak (blk_below (g := gb126) (o := .cells #[.int .i64 0, .int .i64 0] 23 (0, 0)) (by first | exact BK126.out | exact blk_drew BK126.out) hb)
              have n2_ := ak (below_step (by first | exact HB.out | exact below_drew1 HB.out) hb)
              have n3_ := ak (hbox)
              have n4_ := ak ((by rw [hg]; exact (below_size (by first | exact HB.out | exact below_drew1 HB.out)) : w.heap.size ≤ gb127))
              have n5_ := ak ((by rw [hg]; exact (below_size (by first | exact HB.out | exact below_drew1 HB.out)) : w.heap.size ≤ gb127))
              have n6_ := ak ((by rw [hg]; exact Nat.ne_of_lt (blk_lt (g := gb125) (o := .cells #[.int .i64 a0_0, .int .i64 a0_1, .int .i64 a0_2, .int .i64 a0_3, .int .i64 a0_4, .int .i64 a0_5, .int .i64 a0_6, .int .i64 a0_7] 36 (0, 0)) (by first | exact BK125.out | exact blk_drew BK125.out)) : gb125 ≠ gb127))
              have n7_ := ak ((by rw [hg]; exact Nat.ne_of_gt (blk_lt (g := gb125) (o := .cells #[.int .i64 a0_0, .int .i64 a0_1, .int .i64 a0_2, .int .i64 a0_3, .int .i64 a0_4, .int .i64 a0_5, .int .i64 a0_6, .int .i64 a0_7] 36 (0, 0)) (by first | exact BK125.out | exact blk_drew BK125.out)) : gb127 ≠ gb125))
              have n8_ := ak ((by rw [hg]; exact Nat.ne_of_lt (blk_lt (g := gb126) (o := .cells #[.int .i64 0, .int .i64 0] 23 (0, 0)) (by first | exact BK126.out | exact blk_drew BK126.out)) : gb126 ≠ gb127))
              have n9_ := ak ((by rw [hg]; exact Nat.ne_of_gt (blk_lt (g := gb126) (o := .cells #[.int .i64 0, .int .i64 0] 23 (0, 0)) (by first | exact BK126.out | exact blk_drew BK126.out)) : gb127 ≠ gb126))
              clear BK125
              clear BK126
              clear HB
              have BK125 := n0_
              have BK126 := n1_
              have HB := n2_
              have BK127 := n3_
              have GW127 := n4_
              have GE127 := n5_
              have NB125_127 := n6_
              have NB127_125 := n7_
              have NB126_127 := n8_
              have NB127_126 := n9_
              clear n0_ n1_ n2_ n3_ n4_ n5_ n6_ n7_ n8_ n9_
              clear hb hbox hg
              refine hK.out _ _ ⟨(blk_cell BK125.out 0).trans rfl, (blk_cell BK125.out 1).trans rfl, (blk_cell BK125.out 2).trans rfl, (blk_cell BK125.out 3).trans rfl, (blk_cell BK125.out 4).trans rfl, (blk_cell BK125.out 5).trans rfl, (blk_cell BK125.out 6).trans rfl, (blk_cell BK125.out 7).trans rfl⟩ (fun hHeld => ?_)
              clear hK K
              refine norm_ (a' := ?_) ?_ ?_
              rotate_left
              ·show Act.put _ (some 8) _ = _
               simp only [Act.put, List.setIfInBounds_toArray, List.set_cons_zero, List.set_cons_succ, i64_w, i32_w]
               rfl
              exact norm_ (by first | (simp only [putAll, Act.put, List.setIfInBounds_toArray, List.set_cons_zero, List.set_cons_succ]; done) | (simp only [putAll, Act.put, List.setIfInBounds_toArray, List.set_cons_zero, List.set_cons_succ]; rfl)) (hJ8_9 (gb126, gb127) _ ⟨hHeld, (by first | exact BK125.out | exact blk_drew BK125.out), (by first | exact BK126.out | exact blk_drew BK126.out), (by first | exact BK127.out | exact blk_drew BK127.out), GW126.out, GE126.out, NB125_126.out, NB126_125.out, NB127_126.out, NB126_127.out, GW127.out, GE127.out, NB125_127.out, NB127_125.out, (by first | exact HB.out | exact below_drew1 HB.out)⟩)
             ·skip
              refine box_step ?hg (N := 9) ?hd (cs := #[.int .i64 0, .int .i64 0]) (t := 23) ?hr ?_; (case hd => rfl); (case hg => rfl); (case hr => first | (go_simp; done) | (go_simp; rfl))
              intro gb128 hg w9 hbox hb
              have n0_ := ak (blk_below (g := gb125) (o := .cells #[.int .i64 a0_0, .int .i64 a0_1, .int .i64 a0_2, .int .i64 a0_3, .int .i64 a0_4, .int .i64 a0_5, .int .i64 a0_6, .int .i64 a0_7] 36 (0, 0)) (by first | exact BK125.out | exact blk_drew BK125.out) hb)
              have n1_ := ak (blk_below (g := gb126) (o := .cells #[.int .i64 0, .int .i64 0] 23 (0, 0)) (by first | exact BK126.out | exact blk_drew BK126.out) hb)
              have n2_ := ak (below_step (by first | exact HB.out | exact below_drew1 HB.out) hb)
              have n3_ := ak (hbox)
              have n4_ := ak ((by rw [hg]; exact (below_size (by first | exact HB.out | exact below_drew1 HB.out)) : w.heap.size ≤ gb128))
              have n5_ := ak ((by rw [hg]; exact (below_size (by first | exact HB.out | exact below_drew1 HB.out)) : w.heap.size ≤ gb128))
              have n6_ := ak ((by rw [hg]; exact Nat.ne_of_lt (blk_lt (g := gb125) (o := .cells #[.int .i64 a0_0, .int .i64 a0_1, .int .i64 a0_2, .int .i64 a0_3, .int .i64 a0_4, .int .i64 a0_5, .int .i64 a0_6, .int .i64 a0_7] 36 (0, 0)) (by first | exact BK125.out | exact blk_drew BK125.out)) : gb125 ≠ gb128))
              have n7_ := ak ((by rw [hg]; exact Nat.ne_of_gt (blk_lt (g := gb125) (o := .cells #[.int .i64 a0_0, .int .i64 a0_1, .int .i64 a0_2, .int .i64 a0_3, .int .i64 a0_4, .int .i64 a0_5, .int .i64 a0_6, .int .i64 a0_7] 36 (0, 0)) (by first | exact BK125.out | exact blk_drew BK125.out)) : gb128 ≠ gb125))
              have n8_ := ak ((by rw [hg]; exact Nat.ne_of_lt (blk_lt (g := gb126) (o := .cells #[.int .i64 0, .int .i64 0] 23 (0, 0)) (by first | exact BK126.out | exact blk_drew BK126.out)) : gb126 ≠ gb128))
              have n9_ := ak ((by rw [hg]; exact Nat.ne_of_gt (blk_lt (g := gb126) (o := .cells #[.int .i64 0, .int .i64 0] 23 (0, 0)) (by first | exact BK126.out | exact blk_drew BK126.out)) : gb128 ≠ gb126))
              clear BK125
              clear BK126
              clear HB
              have BK125 := n0_
              have BK126 := n1_
              have HB := n2_
              have BK128 := n3_
              have GW128 := n4_
              have GE128 := n5_
              have NB125_128 := n6_
              have NB128_125 := n7_
              have NB126_128 := n8_
              have NB128_126 := n9_
              clear n0_ n1_ n2_ n3_ n4_ n5_ n6_ n7_ n8_ n9_
              clear hb hbox hg
              refine hK.out _ _ ⟨(blk_cell BK125.out 0).trans rfl, (blk_cell BK125.out 1).trans rfl, (blk_cell BK125.out 2).trans rfl, (blk_cell BK125.out 3).trans rfl, (blk_cell BK125.out 4).trans rfl, (blk_cell BK125.out 5).trans rfl, (blk_cell BK125.out 6).trans rfl, (blk_cell BK125.out 7).trans rfl⟩ (fun hHeld => ?_)
              clear hK K
              refine norm_ (a' := ?_) ?_ ?_
              rotate_left
              ·show Act.put _ (some 9) _ = _
               simp only [Act.put, List.setIfInBounds_toArray, List.set_cons_zero, List.set_cons_succ, i64_w, i32_w]
               rfl
              exact norm_ (by first | (simp only [putAll, Act.put, List.setIfInBounds_toArray, List.set_cons_zero, List.set_cons_succ]; done) | (simp only [putAll, Act.put, List.setIfInBounds_toArray, List.set_cons_zero, List.set_cons_succ]; rfl)) (hJ8_10 (gb126, gb128) _ ⟨hHeld, (by first | exact BK125.out | exact blk_drew BK125.out), (by first | exact BK126.out | exact blk_drew BK126.out), (by first | exact BK128.out | exact blk_drew BK128.out), GW126.out, GE126.out, NB125_126.out, NB126_125.out, NB128_126.out, NB126_128.out, GW128.out, GE128.out, NB125_128.out, NB128_125.out, (by first | exact HB.out | exact below_drew1 HB.out)⟩)
             ·skip
              refine box_step ?hg (N := 10) ?hd (cs := #[.int .i64 0, .int .i64 0]) (t := 23) ?hr ?_; (case hd => rfl); (case hg => rfl); (case hr => first | (go_simp; done) | (go_simp; rfl))
              intro gb129 hg w9 hbox hb
              have n0_ := ak (blk_below (g := gb125) (o := .cells #[.int .i64 a0_0, .int .i64 a0_1, .int .i64 a0_2, .int .i64 a0_3, .int .i64 a0_4, .int .i64 a0_5, .int .i64 a0_6, .int .i64 a0_7] 36 (0, 0)) (by first | exact BK125.out | exact blk_drew BK125.out) hb)
              have n1_ := ak (blk_below (g := gb126) (o := .cells #[.int .i64 0, .int .i64 0] 23 (0, 0)) (by first | exact BK126.out | exact blk_drew BK126.out) hb)
              have n2_ := ak (below_step (by first | exact HB.out | exact below_drew1 HB.out) hb)
              have n3_ := ak (hbox)
              have n4_ := ak ((by rw [hg]; exact (below_size (by first | exact HB.out | exact below_drew1 HB.out)) : w.heap.size ≤ gb129))
              have n5_ := ak ((by rw [hg]; exact (below_size (by first | exact HB.out | exact below_drew1 HB.out)) : w.heap.size ≤ gb129))
              have n6_ := ak ((by rw [hg]; exact Nat.ne_of_lt (blk_lt (g := gb125) (o := .cells #[.int .i64 a0_0, .int .i64 a0_1, .int .i64 a0_2, .int .i64 a0_3, .int .i64 a0_4, .int .i64 a0_5, .int .i64 a0_6, .int .i64 a0_7] 36 (0, 0)) (by first | exact BK125.out | exact blk_drew BK125.out)) : gb125 ≠ gb129))
              have n7_ := ak ((by rw [hg]; exact Nat.ne_of_gt (blk_lt (g := gb125) (o := .cells #[.int .i64 a0_0, .int .i64 a0_1, .int .i64 a0_2, .int .i64 a0_3, .int .i64 a0_4, .int .i64 a0_5, .int .i64 a0_6, .int .i64 a0_7] 36 (0, 0)) (by first | exact BK125.out | exact blk_drew BK125.out)) : gb129 ≠ gb125))
              have n8_ := ak ((by rw [hg]; exact Nat.ne_of_lt (blk_lt (g := gb126) (o := .cells #[.int .i64 0, .int .i64 0] 23 (0, 0)) (by first | exact BK126.out | exact blk_drew BK126.out)) : gb126 ≠ gb129))
              have n9_ := ak ((by rw [hg]; exact Nat.ne_of_gt (blk_lt (g := gb126) (o := .cells #[.int .i64 0, .int .i64 0] 23 (0, 0)) (by first | exact BK126.out | exact blk_drew BK126.out)) : gb129 ≠ gb126))
              clear BK125
              clear BK126
              clear HB
              have BK125 := n0_
              have BK126 := n1_
              have HB := n2_
              have BK129 := n3_
              have GW129 := n4_
              have GE129 := n5_
              have NB125_129 := n6_
              have NB129_125 := n7_
              have NB126_129 := n8_
              have NB129_126 := n9_
              clear n0_ n1_ n2_ n3_ n4_ n5_ n6_ n7_ n8_ n9_
              clear hb hbox hg
              refine hK.out _ _ ⟨(blk_cell BK125.out 0).trans rfl, (blk_cell BK125.out 1).trans rfl, (blk_cell BK125.out 2).trans rfl, (blk_cell BK125.out 3).trans rfl, (blk_cell BK125.out 4).trans rfl, (blk_cell BK125.out 5).trans rfl, (blk_cell BK125.out 6).trans rfl, (blk_cell BK125.out 7).trans rfl⟩ (fun hHeld => ?_)
              clear hK K
              refine norm_ (a' := ?_) ?_ ?_
              rotate_left
              ·show Act.put _ (some 10) _ = _
               simp only [Act.put, List.setIfInBounds_toArray, List.set_cons_zero, List.set_cons_succ, i64_w, i32_w]
               rfl
              exact norm_ (by first | (simp only [putAll, Act.put, List.setIfInBounds_toArray, List.set_cons_zero, List.set_cons_succ]; done) | (simp only [putAll, Act.put, List.setIfInBounds_toArray, List.set_cons_zero, List.set_cons_succ]; rfl)) (hJ8_11 (gb126, gb129) _ ⟨hHeld, (by first | exact BK125.out | exact blk_drew BK125.out), (by first | exact BK126.out | exact blk_drew BK126.out), (by first | exact BK129.out | exact blk_drew BK129.out), GW126.out, GE126.out, NB125_126.out, NB126_125.out, NB129_126.out, NB126_129.out, GW129.out, GE129.out, NB125_129.out, NB129_125.out, (by first | exact HB.out | exact below_drew1 HB.out)⟩)
           ·skip
            rintro ⟨gb128, gb129⟩ w9 ⟨hS_, h0_, h1_, h2_, h3_, h4_, h5_, h6_, h7_, h8_, h9_, h10_, h11_, h12_, h13_⟩
            have n0_ : Aside0 (w9.heap[gb125]? = some (.cells #[.int .i64 a0_0, .int .i64 a0_1, .int .i64 a0_2, .int .i64 a0_3, .int .i64 a0_4, .int .i64 a0_5, .int .i64 a0_6, .int .i64 a0_7] 36 (0, 0))) := ⟨h0_⟩
            have n1_ : Aside0 (w9.heap[gb128]? = some (.cells #[.int .i64 0, .int .i64 0] 23 (0, 0))) := ⟨h1_⟩
            have n2_ : Aside0 (w9.heap[gb129]? = some (.cells #[.int .i64 0, .int .i64 0] 23 (0, 0))) := ⟨h2_⟩
            have n3_ : Aside0 (w.heap.size ≤ gb128) := ⟨h3_⟩
            have n4_ : Aside0 (w.heap.size ≤ gb128) := ⟨h4_⟩
            have n5_ : Aside0 (gb125 ≠ gb128) := ⟨h5_⟩
            have n6_ : Aside0 (gb128 ≠ gb125) := ⟨h6_⟩
            have n7_ : Aside0 (gb129 ≠ gb128) := ⟨h7_⟩
            have n8_ : Aside0 (gb128 ≠ gb129) := ⟨h8_⟩
            have n9_ : Aside0 (w.heap.size ≤ gb129) := ⟨h9_⟩
            have n10_ : Aside0 (w.heap.size ≤ gb129) := ⟨h10_⟩
            have n11_ : Aside0 (gb125 ≠ gb129) := ⟨h11_⟩
            have n12_ : Aside0 (gb129 ≠ gb125) := ⟨h12_⟩
            have n13_ : Aside0 (Below w.heap.size w w9) := ⟨h13_⟩
            clear BK125
            clear HB
            clear h0_ h1_ h2_ h3_ h4_ h5_ h6_ h7_ h8_ h9_ h10_ h11_ h12_ h13_
            have BK125 := n0_
            have BK128 := n1_
            have BK129 := n2_
            have GW128 := n3_
            have GE128 := n4_
            have NB125_128 := n5_
            have NB128_125 := n6_
            have NB129_128 := n7_
            have NB128_129 := n8_
            have GW129 := n9_
            have GE129 := n10_
            have NB125_129 := n11_
            have NB129_125 := n12_
            have HB := n13_
            clear n0_ n1_ n2_ n3_ n4_ n5_ n6_ n7_ n8_ n9_ n10_ n11_ n12_ n13_
            have hHeld : w9.cell? ⟨gb125, 0, none⟩ = some (.int .i64 a0_0) ∧ w9.cell? ⟨gb125, 1, none⟩ = some (.int .i64 a0_1) ∧ w9.cell? ⟨gb125, 2, none⟩ = some (.int .i64 a0_2) ∧ w9.cell? ⟨gb125, 3, none⟩ = some (.int .i64 a0_3) ∧ w9.cell? ⟨gb125, 4, none⟩ = some (.int .i64 a0_4) ∧ w9.cell? ⟨gb125, 5, none⟩ = some (.int .i64 a0_5) ∧ w9.cell? ⟨gb125, 6, none⟩ = some (.int .i64 a0_6) ∧ w9.cell? ⟨gb125, 7, none⟩ = some (.int .i64 a0_7) := hS_
            refine norm_ (a' := ?_) ?_ ?_
            rotate_left
            ·simp only [putAll, Act.put, List.setIfInBounds_toArray, List.set_cons_zero, List.set_cons_succ]
             rfl
            refine two_ (i := 8) (j := 9) (Ni := some 7) (Nj := some 8) #[true, true, true, true, true, true, true, true, true, false, true, true, false, false, false, false] #[true, true, true, true, true, true, true, true, false, true, true, true, false, false, false, false] rfl rfl rfl rfl (two_of HT_.out (by kernel_rfl)) (by decide) (by decide) (fun K hK => ?_) (fun K hK => ?_)
            ·skip
             refine box_step ?hg (N := 7) ?hd (cs := #[.int .i64 0, .int .i64 0]) (t := 23) ?hr ?_; (case hd => rfl); (case hg => rfl); (case hr => first | (go_simp; done) | (go_simp; rfl))
             intro gb126 hg w10 hbox hb
             have n0_ := ak (blk_below (g := gb125) (o := .cells #[.int .i64 a0_0, .int .i64 a0_1, .int .i64 a0_2, .int .i64 a0_3, .int .i64 a0_4, .int .i64 a0_5, .int .i64 a0_6, .int .i64 a0_7] 36 (0, 0)) (by first | exact BK125.out | exact blk_drew BK125.out) hb)
             have n1_ := ak (blk_below (g := gb128) (o := .cells #[.int .i64 0, .int .i64 0] 23 (0, 0)) (by first | exact BK128.out | exact blk_drew BK128.out) hb)
             have n2_ := ak (blk_below (g := gb129) (o := .cells #[.int .i64 0, .int .i64 0] 23 (0, 0)) (by first | exact BK129.out | exact blk_drew BK129.out) hb)
             have n3_ := ak (below_step (by first | exact HB.out | exact below_drew1 HB.out) hb)
             have n4_ := ak (hbox)
             have n5_ := ak ((by rw [hg]; exact (below_size (by first | exact HB.out | exact below_drew1 HB.out)) : w.heap.size ≤ gb126))
             have n6_ := ak ((by rw [hg]; exact (below_size (by first | exact HB.out | exact below_drew1 HB.out)) : w.heap.size ≤ gb126))
             have n7_ := ak ((by rw [hg]; exact Nat.ne_of_lt (blk_lt (g := gb125) (o := .cells #[.int .i64 a0_0, .int .i64 a0_1, .int .i64 a0_2, .int .i64 a0_3, .int .i64 a0_4, .int .i64 a0_5, .int .i64 a0_6, .int .i64 a0_7] 36 (0, 0)) (by first | exact BK125.out | exact blk_drew BK125.out)) : gb125 ≠ gb126))
             have n8_ := ak ((by rw [hg]; exact Nat.ne_of_gt (blk_lt (g := gb125) (o := .cells #[.int .i64 a0_0, .int .i64 a0_1, .int .i64 a0_2, .int .i64 a0_3, .int .i64 a0_4, .int .i64 a0_5, .int .i64 a0_6, .int .i64 a0_7] 36 (0, 0)) (by first | exact BK125.out | exact blk_drew BK125.out)) : gb126 ≠ gb125))
             have n9_ := ak ((by rw [hg]; exact Nat.ne_of_lt (blk_lt (g := gb128) (o := .cells #[.int .i64 0, .int .i64 0] 23 (0, 0)) (by first | exact BK128.out | exact blk_drew BK128.out)) : gb128 ≠ gb126))
             have n10_ := ak ((by rw [hg]; exact Nat.ne_of_gt (blk_lt (g := gb128) (o := .cells #[.int .i64 0, .int .i64 0] 23 (0, 0)) (by first | exact BK128.out | exact blk_drew BK128.out)) : gb126 ≠ gb128))
             have n11_ := ak ((by rw [hg]; exact Nat.ne_of_lt (blk_lt (g := gb129) (o := .cells #[.int .i64 0, .int .i64 0] 23 (0, 0)) (by first | exact BK129.out | exact blk_drew BK129.out)) : gb129 ≠ gb126))
             have n12_ := ak ((by rw [hg]; exact Nat.ne_of_gt (blk_lt (g := gb129) (o := .cells #[.int .i64 0, .int .i64 0] 23 (0, 0)) (by first | exact BK129.out | exact blk_drew BK129.out)) : gb126 ≠ gb129))
             clear BK125
             clear BK128
             clear BK129
             clear HB
             have BK125 := n0_
             have BK128 := n1_
             have BK129 := n2_
             have HB := n3_
             have BK126 := n4_
             have GW126 := n5_
             have GE126 := n6_
             have NB125_126 := n7_
             have NB126_125 := n8_
             have NB128_126 := n9_
             have NB126_128 := n10_
             have NB129_126 := n11_
             have NB126_129 := n12_
             clear n0_ n1_ n2_ n3_ n4_ n5_ n6_ n7_ n8_ n9_ n10_ n11_ n12_
             clear hb hbox hg
             refine hK.out _ _ ⟨(blk_cell BK125.out 0).trans rfl, (blk_cell BK125.out 1).trans rfl, (blk_cell BK125.out 2).trans rfl, (blk_cell BK125.out 3).trans rfl, (blk_cell BK125.out 4).trans rfl, (blk_cell BK125.out 5).trans rfl, (blk_cell BK125.out 6).trans rfl, (blk_cell BK125.out 7).trans rfl⟩ (fun hHeld => ?_)
             clear hK K
             refine norm_ (a' := ?_) ?_ ?_
             rotate_left
             ·show Act.put _ (some 7) _ = _
              simp only [Act.put, List.setIfInBounds_toArray, List.set_cons_zero, List.set_cons_succ, i64_w, i32_w]
              rfl
             exact norm_ (by first | (simp only [putAll, Act.put, List.setIfInBounds_toArray, List.set_cons_zero, List.set_cons_succ]; done) | (simp only [putAll, Act.put, List.setIfInBounds_toArray, List.set_cons_zero, List.set_cons_succ]; rfl)) (hJ8_10_11 (gb126, gb128, gb129) _ ⟨hHeld, (by first | exact BK125.out | exact blk_drew BK125.out), (by first | exact BK126.out | exact blk_drew BK126.out), (by first | exact BK128.out | exact blk_drew BK128.out), (by first | exact BK129.out | exact blk_drew BK129.out), GW126.out, GE126.out, NB125_126.out, NB126_125.out, NB128_126.out, NB126_128.out, NB129_126.out, NB126_129.out, GW128.out, GE128.out, NB125_128.out, NB128_125.out, NB129_128.out, NB128_129.out, GW129.out, GE129.out, NB125_129.out, NB129_125.out, (by first | exact HB.out | exact below_drew1 HB.out)⟩)
            ·skip
             refine box_step ?hg (N := 8) ?hd (cs := #[.int .i64 0, .int .i64 0]) (t := 23) ?hr ?_; (case hd => rfl); (case hg => rfl); (case hr => first | (go_simp; done) | (go_simp; rfl))
             intro gb127 hg w10 hbox hb
             have n0_ := ak (blk_below (g := gb125) (o := .cells #[.int .i64 a0_0, .int .i64 a0_1, .int .i64 a0_2, .int .i64 a0_3, .int .i64 a0_4, .int .i64 a0_5, .int .i64 a0_6, .int .i64 a0_7] 36 (0, 0)) (by first | exact BK125.out | exact blk_drew BK125.out) hb)
             have n1_ := ak (blk_below (g := gb128) (o := .cells #[.int .i64 0, .int .i64 0] 23 (0, 0)) (by first | exact BK128.out | exact blk_drew BK128.out) hb)
             have n2_ := ak (blk_below (g := gb129) (o := .cells #[.int .i64 0, .int .i64 0] 23 (0, 0)) (by first | exact BK129.out | exact blk_drew BK129.out) hb)
             have n3_ := ak (below_step (by first | exact HB.out | exact below_drew1 HB.out) hb)
             have n4_ := ak (hbox)
             have n5_ := ak ((by rw [hg]; exact (below_size (by first | exact HB.out | exact below_drew1 HB.out)) : w.heap.size ≤ gb127))
             have n6_ := ak ((by rw [hg]; exact (below_size (by first | exact HB.out | exact below_drew1 HB.out)) : w.heap.size ≤ gb127))
             have n7_ := ak ((by rw [hg]; exact Nat.ne_of_lt (blk_lt (g := gb125) (o := .cells #[.int .i64 a0_0, .int .i64 a0_1, .int .i64 a0_2, .int .i64 a0_3, .int .i64 a0_4, .int .i64 a0_5, .int .i64 a0_6, .int .i64 a0_7] 36 (0, 0)) (by first | exact BK125.out | exact blk_drew BK125.out)) : gb125 ≠ gb127))
             have n8_ := ak ((by rw [hg]; exact Nat.ne_of_gt (blk_lt (g := gb125) (o := .cells #[.int .i64 a0_0, .int .i64 a0_1, .int .i64 a0_2, .int .i64 a0_3, .int .i64 a0_4, .int .i64 a0_5, .int .i64 a0_6, .int .i64 a0_7] 36 (0, 0)) (by first | exact BK125.out | exact blk_drew BK125.out)) : gb127 ≠ gb125))
             have n9_ := ak ((by rw [hg]; exact Nat.ne_of_lt (blk_lt (g := gb128) (o := .cells #[.int .i64 0, .int .i64 0] 23 (0, 0)) (by first | exact BK128.out | exact blk_drew BK128.out)) : gb128 ≠ gb127))
             have n10_ := ak ((by rw [hg]; exact Nat.ne_of_gt (blk_lt (g := gb128) (o := .cells #[.int .i64 0, .int .i64 0] 23 (0, 0)) (by first | exact BK128.out | exact blk_drew BK128.out)) : gb127 ≠ gb128))
             have n11_ := ak ((by rw [hg]; exact Nat.ne_of_lt (blk_lt (g := gb129) (o := .cells #[.int .i64 0, .int .i64 0] 23 (0, 0)) (by first | exact BK129.out | exact blk_drew BK129.out)) : gb129 ≠ gb127))
             have n12_ := ak ((by rw [hg]; exact Nat.ne_of_gt (blk_lt (g := gb129) (o := .cells #[.int .i64 0, .int .i64 0] 23 (0, 0)) (by first | exact BK129.out | exact blk_drew BK129.out)) : gb127 ≠ gb129))
             clear BK125
             clear BK128
             clear BK129
             clear HB
             have BK125 := n0_
             have BK128 := n1_
             have BK129 := n2_
             have HB := n3_
             have BK127 := n4_
             have GW127 := n5_
             have GE127 := n6_
             have NB125_127 := n7_
             have NB127_125 := n8_
             have NB128_127 := n9_
             have NB127_128 := n10_
             have NB129_127 := n11_
             have NB127_129 := n12_
             clear n0_ n1_ n2_ n3_ n4_ n5_ n6_ n7_ n8_ n9_ n10_ n11_ n12_
             clear hb hbox hg
             refine hK.out _ _ ⟨(blk_cell BK125.out 0).trans rfl, (blk_cell BK125.out 1).trans rfl, (blk_cell BK125.out 2).trans rfl, (blk_cell BK125.out 3).trans rfl, (blk_cell BK125.out 4).trans rfl, (blk_cell BK125.out 5).trans rfl, (blk_cell BK125.out 6).trans rfl, (blk_cell BK125.out 7).trans rfl⟩ (fun hHeld => ?_)
             clear hK K
             refine norm_ (a' := ?_) ?_ ?_
             rotate_left
             ·show Act.put _ (some 8) _ = _
              simp only [Act.put, List.setIfInBounds_toArray, List.set_cons_zero, List.set_cons_succ, i64_w, i32_w]
              rfl
             exact norm_ (by first | (simp only [putAll, Act.put, List.setIfInBounds_toArray, List.set_cons_zero, List.set_cons_succ]; done) | (simp only [putAll, Act.put, List.setIfInBounds_toArray, List.set_cons_zero, List.set_cons_succ]; rfl)) (hJ9_10_11 (gb127, gb128, gb129) _ ⟨hHeld, (by first | exact BK125.out | exact blk_drew BK125.out), (by first | exact BK127.out | exact blk_drew BK127.out), (by first | exact BK128.out | exact blk_drew BK128.out), (by first | exact BK129.out | exact blk_drew BK129.out), GW127.out, GE127.out, NB125_127.out, NB127_125.out, NB128_127.out, NB127_128.out, NB129_127.out, NB127_129.out, GW128.out, GE128.out, NB125_128.out, NB128_125.out, NB129_128.out, NB128_129.out, GW129.out, GE129.out, NB125_129.out, NB129_125.out, (by first | exact HB.out | exact below_drew1 HB.out)⟩)
          ·skip
           rintro ⟨gb127, gb129⟩ w9 ⟨hS_, h0_, h1_, h2_, h3_, h4_, h5_, h6_, h7_, h8_, h9_, h10_, h11_, h12_, h13_⟩
           have n0_ : Aside0 (w9.heap[gb125]? = some (.cells #[.int .i64 a0_0, .int .i64 a0_1, .int .i64 a0_2, .int .i64 a0_3, .int .i64 a0_4, .int .i64 a0_5, .int .i64 a0_6, .int .i64 a0_7] 36 (0, 0))) := ⟨h0_⟩
           have n1_ : Aside0 (w9.heap[gb127]? = some (.cells #[.int .i64 0, .int .i64 0] 23 (0, 0))) := ⟨h1_⟩
           have n2_ : Aside0 (w9.heap[gb129]? = some (.cells #[.int .i64 0, .int .i64 0] 23 (0, 0))) := ⟨h2_⟩
           have n3_ : Aside0 (w.heap.size ≤ gb127) := ⟨h3_⟩
           have n4_ : Aside0 (w.heap.size ≤ gb127) := ⟨h4_⟩
           have n5_ : Aside0 (gb125 ≠ gb127) := ⟨h5_⟩
           have n6_ : Aside0 (gb127 ≠ gb125) := ⟨h6_⟩
           have n7_ : Aside0 (gb129 ≠ gb127) := ⟨h7_⟩
           have n8_ : Aside0 (gb127 ≠ gb129) := ⟨h8_⟩
           have n9_ : Aside0 (w.heap.size ≤ gb129) := ⟨h9_⟩
           have n10_ : Aside0 (w.heap.size ≤ gb129) := ⟨h10_⟩
           have n11_ : Aside0 (gb125 ≠ gb129) := ⟨h11_⟩
           have n12_ : Aside0 (gb129 ≠ gb125) := ⟨h12_⟩
           have n13_ : Aside0 (Below w.heap.size w w9) := ⟨h13_⟩
           clear BK125
           clear HB
           clear h0_ h1_ h2_ h3_ h4_ h5_ h6_ h7_ h8_ h9_ h10_ h11_ h12_ h13_
           have BK125 := n0_
           have BK127 := n1_
           have BK129 := n2_
           have GW127 := n3_
           have GE127 := n4_
           have NB125_127 := n5_
           have NB127_125 := n6_
           have NB129_127 := n7_
           have NB127_129 := n8_
           have GW129 := n9_
           have GE129 := n10_
           have NB125_129 := n11_
           have NB129_125 := n12_
           have HB := n13_
           clear n0_ n1_ n2_ n3_ n4_ n5_ n6_ n7_ n8_ n9_ n10_ n11_ n12_ n13_
           have hHeld : w9.cell? ⟨gb125, 0, none⟩ = some (.int .i64 a0_0) ∧ w9.cell? ⟨gb125, 1, none⟩ = some (.int .i64 a0_1) ∧ w9.cell? ⟨gb125, 2, none⟩ = some (.int .i64 a0_2) ∧ w9.cell? ⟨gb125, 3, none⟩ = some (.int .i64 a0_3) ∧ w9.cell? ⟨gb125, 4, none⟩ = some (.int .i64 a0_4) ∧ w9.cell? ⟨gb125, 5, none⟩ = some (.int .i64 a0_5) ∧ w9.cell? ⟨gb125, 6, none⟩ = some (.int .i64 a0_6) ∧ w9.cell? ⟨gb125, 7, none⟩ = some (.int .i64 a0_7) := hS_
           refine norm_ (a' := ?_) ?_ ?_
           rotate_left
           ·simp only [putAll, Act.put, List.setIfInBounds_toArray, List.set_cons_zero, List.set_cons_succ]
            rfl
           refine two_ (i := 8) (j := 10) (Ni := some 7) (Nj := some 9) #[true, true, true, true, true, true, true, true, true, true, false, true, false, false, false, false] #[true, true, true, true, true, true, true, true, false, true, true, true, false, false, false, false] rfl rfl rfl rfl (two_of HT_.out (by kernel_rfl)) (by decide) (by decide) (fun K hK => ?_) (fun K hK => ?_)
           ·skip
            refine box_step ?hg (N := 7) ?hd (cs := #[.int .i64 0, .int .i64 0]) (t := 23) ?hr ?_; (case hd => rfl); (case hg => rfl); (case hr => first | (go_simp; done) | (go_simp; rfl))
            intro gb126 hg w10 hbox hb
            have n0_ := ak (blk_below (g := gb125) (o := .cells #[.int .i64 a0_0, .int .i64 a0_1, .int .i64 a0_2, .int .i64 a0_3, .int .i64 a0_4, .int .i64 a0_5, .int .i64 a0_6, .int .i64 a0_7] 36 (0, 0)) (by first | exact BK125.out | exact blk_drew BK125.out) hb)
            have n1_ := ak (blk_below (g := gb127) (o := .cells #[.int .i64 0, .int .i64 0] 23 (0, 0)) (by first | exact BK127.out | exact blk_drew BK127.out) hb)
            have n2_ := ak (blk_below (g := gb129) (o := .cells #[.int .i64 0, .int .i64 0] 23 (0, 0)) (by first | exact BK129.out | exact blk_drew BK129.out) hb)
            have n3_ := ak (below_step (by first | exact HB.out | exact below_drew1 HB.out) hb)
            have n4_ := ak (hbox)
            have n5_ := ak ((by rw [hg]; exact (below_size (by first | exact HB.out | exact below_drew1 HB.out)) : w.heap.size ≤ gb126))
            have n6_ := ak ((by rw [hg]; exact (below_size (by first | exact HB.out | exact below_drew1 HB.out)) : w.heap.size ≤ gb126))
            have n7_ := ak ((by rw [hg]; exact Nat.ne_of_lt (blk_lt (g := gb125) (o := .cells #[.int .i64 a0_0, .int .i64 a0_1, .int .i64 a0_2, .int .i64 a0_3, .int .i64 a0_4, .int .i64 a0_5, .int .i64 a0_6, .int .i64 a0_7] 36 (0, 0)) (by first | exact BK125.out | exact blk_drew BK125.out)) : gb125 ≠ gb126))
            have n8_ := ak ((by rw [hg]; exact Nat.ne_of_gt (blk_lt (g := gb125) (o := .cells #[.int .i64 a0_0, .int .i64 a0_1, .int .i64 a0_2, .int .i64 a0_3, .int .i64 a0_4, .int .i64 a0_5, .int .i64 a0_6, .int .i64 a0_7] 36 (0, 0)) (by first | exact BK125.out | exact blk_drew BK125.out)) : gb126 ≠ gb125))
            have n9_ := ak ((by rw [hg]; exact Nat.ne_of_lt (blk_lt (g := gb127) (o := .cells #[.int .i64 0, .int .i64 0] 23 (0, 0)) (by first | exact BK127.out | exact blk_drew BK127.out)) : gb127 ≠ gb126))
            have n10_ := ak ((by rw [hg]; exact Nat.ne_of_gt (blk_lt (g := gb127) (o := .cells #[.int .i64 0, .int .i64 0] 23 (0, 0)) (by first | exact BK127.out | exact blk_drew BK127.out)) : gb126 ≠ gb127))
            have n11_ := ak ((by rw [hg]; exact Nat.ne_of_lt (blk_lt (g := gb129) (o := .cells #[.int .i64 0, .int .i64 0] 23 (0, 0)) (by first | exact BK129.out | exact blk_drew BK129.out)) : gb129 ≠ gb126))
            have n12_ := ak ((by rw [hg]; exact Nat.ne_of_gt (blk_lt (g := gb129) (o := .cells #[.int .i64 0, .int .i64 0] 23 (0, 0)) (by first | exact BK129.out | exact blk_drew BK129.out)) : gb126 ≠ gb129))
            clear BK125
            clear BK127
            clear BK129
            clear HB
            have BK125 := n0_
            have BK127 := n1_
            have BK129 := n2_
            have HB := n3_
            have BK126 := n4_
            have GW126 := n5_
            have GE126 := n6_
            have NB125_126 := n7_
            have NB126_125 := n8_
            have NB127_126 := n9_
            have NB126_127 := n10_
            have NB129_126 := n11_
            have NB126_129 := n12_
            clear n0_ n1_ n2_ n3_ n4_ n5_ n6_ n7_ n8_ n9_ n10_ n11_ n12_
            clear hb hbox hg
            refine hK.out _ _ ⟨(blk_cell BK125.out 0).trans rfl, (blk_cell BK125.out 1).trans rfl, (blk_cell BK125.out 2).trans rfl, (blk_cell BK125.out 3).trans rfl, (blk_cell BK125.out 4).trans rfl, (blk_cell BK125.out 5).trans rfl, (blk_cell BK125.out 6).trans rfl, (blk_cell BK125.out 7).trans rfl⟩ (fun hHeld => ?_)
            clear hK K
            refine norm_ (a' := ?_) ?_ ?_
            rotate_left
            ·show Act.put _ (some 7) _ = _
             simp only [Act.put, List.setIfInBounds_toArray, List.set_cons_zero, List.set_cons_succ, i64_w, i32_w]
             rfl
            exact norm_ (by first | (simp only [putAll, Act.put, List.setIfInBounds_toArray, List.set_cons_zero, List.set_cons_succ]; done) | (simp only [putAll, Act.put, List.setIfInBounds_toArray, List.set_cons_zero, List.set_cons_succ]; rfl)) (hJ8_9_11 (gb126, gb127, gb129) _ ⟨hHeld, (by first | exact BK125.out | exact blk_drew BK125.out), (by first | exact BK126.out | exact blk_drew BK126.out), (by first | exact BK127.out | exact blk_drew BK127.out), (by first | exact BK129.out | exact blk_drew BK129.out), GW126.out, GE126.out, NB125_126.out, NB126_125.out, NB127_126.out, NB126_127.out, NB129_126.out, NB126_129.out, GW127.out, GE127.out, NB125_127.out, NB127_125.out, NB129_127.out, NB127_129.out, GW129.out, GE129.out, NB125_129.out, NB129_125.out, (by first | exact HB.out | exact below_drew1 HB.out)⟩)
           ·skip
            refine box_step ?hg (N := 9) ?hd (cs := #[.int .i64 0, .int .i64 0]) (t := 23) ?hr ?_; (case hd => rfl); (case hg => rfl); (case hr => first | (go_simp; done) | (go_simp; rfl))
            intro gb128 hg w10 hbox hb
            have n0_ := ak (blk_below (g := gb125) (o := .cells #[.int .i64 a0_0, .int .i64 a0_1, .int .i64 a0_2, .int .i64 a0_3, .int .i64 a0_4, .int .i64 a0_5, .int .i64 a0_6, .int .i64 a0_7] 36 (0, 0)) (by first | exact BK125.out | exact blk_drew BK125.out) hb)
            have n1_ := ak (blk_below (g := gb127) (o := .cells #[.int .i64 0, .int .i64 0] 23 (0, 0)) (by first | exact BK127.out | exact blk_drew BK127.out) hb)
            have n2_ := ak (blk_below (g := gb129) (o := .cells #[.int .i64 0, .int .i64 0] 23 (0, 0)) (by first | exact BK129.out | exact blk_drew BK129.out) hb)
            have n3_ := ak (below_step (by first | exact HB.out | exact below_drew1 HB.out) hb)
            have n4_ := ak (hbox)
            have n5_ := ak ((by rw [hg]; exact (below_size (by first | exact HB.out | exact below_drew1 HB.out)) : w.heap.size ≤ gb128))
            have n6_ := ak ((by rw [hg]; exact (below_size (by first | exact HB.out | exact below_drew1 HB.out)) : w.heap.size ≤ gb128))
            have n7_ := ak ((by rw [hg]; exact Nat.ne_of_lt (blk_lt (g := gb125) (o := .cells #[.int .i64 a0_0, .int .i64 a0_1, .int .i64 a0_2, .int .i64 a0_3, .int .i64 a0_4, .int .i64 a0_5, .int .i64 a0_6, .int .i64 a0_7] 36 (0, 0)) (by first | exact BK125.out | exact blk_drew BK125.out)) : gb125 ≠ gb128))
            have n8_ := ak ((by rw [hg]; exact Nat.ne_of_gt (blk_lt (g := gb125) (o := .cells #[.int .i64 a0_0, .int .i64 a0_1, .int .i64 a0_2, .int .i64 a0_3, .int .i64 a0_4, .int .i64 a0_5, .int .i64 a0_6, .int .i64 a0_7] 36 (0, 0)) (by first | exact BK125.out | exact blk_drew BK125.out)) : gb128 ≠ gb125))
            have n9_ := ak ((by rw [hg]; exact Nat.ne_of_lt (blk_lt (g := gb127) (o := .cells #[.int .i64 0, .int .i64 0] 23 (0, 0)) (by first | exact BK127.out | exact blk_drew BK127.out)) : gb127 ≠ gb128))
            have n10_ := ak ((by rw [hg]; exact Nat.ne_of_gt (blk_lt (g := gb127) (o := .cells #[.int .i64 0, .int .i64 0] 23 (0, 0)) (by first | exact BK127.out | exact blk_drew BK127.out)) : gb128 ≠ gb127))
            have n11_ := ak ((by rw [hg]; exact Nat.ne_of_lt (blk_lt (g := gb129) (o := .cells #[.int .i64 0, .int .i64 0] 23 (0, 0)) (by first | exact BK129.out | exact blk_drew BK129.out)) : gb129 ≠ gb128))
            have n12_ := ak ((by rw [hg]; exact Nat.ne_of_gt (blk_lt (g := gb129) (o := .cells #[.int .i64 0, .int .i64 0] 23 (0, 0)) (by first | exact BK129.out | exact blk_drew BK129.out)) : gb128 ≠ gb129))
            clear BK125
            clear BK127
            clear BK129
            clear HB
            have BK125 := n0_
            have BK127 := n1_
            have BK129 := n2_
            have HB := n3_
            have BK128 := n4_
            have GW128 := n5_
            have GE128 := n6_
            have NB125_128 := n7_
            have NB128_125 := n8_
            have NB127_128 := n9_
            have NB128_127 := n10_
            have NB129_128 := n11_
            have NB128_129 := n12_
            clear n0_ n1_ n2_ n3_ n4_ n5_ n6_ n7_ n8_ n9_ n10_ n11_ n12_
            clear hb hbox hg
            refine hK.out _ _ ⟨(blk_cell BK125.out 0).trans rfl, (blk_cell BK125.out 1).trans rfl, (blk_cell BK125.out 2).trans rfl, (blk_cell BK125.out 3).trans rfl, (blk_cell BK125.out 4).trans rfl, (blk_cell BK125.out 5).trans rfl, (blk_cell BK125.out 6).trans rfl, (blk_cell BK125.out 7).trans rfl⟩ (fun hHeld => ?_)
            clear hK K
            refine norm_ (a' := ?_) ?_ ?_
            rotate_left
            ·show Act.put _ (some 9) _ = _
             simp only [Act.put, List.setIfInBounds_toArray, List.set_cons_zero, List.set_cons_succ, i64_w, i32_w]
             rfl
            exact norm_ (by first | (simp only [putAll, Act.put, List.setIfInBounds_toArray, List.set_cons_zero, List.set_cons_succ]; done) | (simp only [putAll, Act.put, List.setIfInBounds_toArray, List.set_cons_zero, List.set_cons_succ]; rfl)) (hJ9_10_11 (gb127, gb128, gb129) _ ⟨hHeld, (by first | exact BK125.out | exact blk_drew BK125.out), (by first | exact BK127.out | exact blk_drew BK127.out), (by first | exact BK128.out | exact blk_drew BK128.out), (by first | exact BK129.out | exact blk_drew BK129.out), GW127.out, GE127.out, NB125_127.out, NB127_125.out, NB128_127.out, NB127_128.out, NB129_127.out, NB127_129.out, GW128.out, GE128.out, NB125_128.out, NB128_125.out, NB129_128.out, NB128_129.out, GW129.out, GE129.out, NB125_129.out, NB129_125.out, (by first | exact HB.out | exact below_drew1 HB.out)⟩)
         ·skip
          rintro ⟨gb127, gb128⟩ w9 ⟨hS_, h0_, h1_, h2_, h3_, h4_, h5_, h6_, h7_, h8_, h9_, h10_, h11_, h12_, h13_⟩
          have n0_ : Aside0 (w9.heap[gb125]? = some (.cells #[.int .i64 a0_0, .int .i64 a0_1, .int .i64 a0_2, .int .i64 a0_3, .int .i64 a0_4, .int .i64 a0_5, .int .i64 a0_6, .int .i64 a0_7] 36 (0, 0))) := ⟨h0_⟩
          have n1_ : Aside0 (w9.heap[gb127]? = some (.cells #[.int .i64 0, .int .i64 0] 23 (0, 0))) := ⟨h1_⟩
          have n2_ : Aside0 (w9.heap[gb128]? = some (.cells #[.int .i64 0, .int .i64 0] 23 (0, 0))) := ⟨h2_⟩
          have n3_ : Aside0 (w.heap.size ≤ gb127) := ⟨h3_⟩
          have n4_ : Aside0 (w.heap.size ≤ gb127) := ⟨h4_⟩
          have n5_ : Aside0 (gb125 ≠ gb127) := ⟨h5_⟩
          have n6_ : Aside0 (gb127 ≠ gb125) := ⟨h6_⟩
          have n7_ : Aside0 (gb128 ≠ gb127) := ⟨h7_⟩
          have n8_ : Aside0 (gb127 ≠ gb128) := ⟨h8_⟩
          have n9_ : Aside0 (w.heap.size ≤ gb128) := ⟨h9_⟩
          have n10_ : Aside0 (w.heap.size ≤ gb128) := ⟨h10_⟩
          have n11_ : Aside0 (gb125 ≠ gb128) := ⟨h11_⟩
          have n12_ : Aside0 (gb128 ≠ gb125) := ⟨h12_⟩
          have n13_ : Aside0 (Below w.heap.size w w9) := ⟨h13_⟩
          clear BK125
          clear HB
          clear h0_ h1_ h2_ h3_ h4_ h5_ h6_ h7_ h8_ h9_ h10_ h11_ h12_ h13_
          have BK125 := n0_
          have BK127 := n1_
          have BK128 := n2_
          have GW127 := n3_
          have GE127 := n4_
          have NB125_127 := n5_
          have NB127_125 := n6_
          have NB128_127 := n7_
          have NB127_128 := n8_
          have GW128 := n9_
          have GE128 := n10_
          have NB125_128 := n11_
          have NB128_125 := n12_
          have HB := n13_
          clear n0_ n1_ n2_ n3_ n4_ n5_ n6_ n7_ n8_ n9_ n10_ n11_ n12_ n13_
          have hHeld : w9.cell? ⟨gb125, 0, none⟩ = some (.int .i64 a0_0) ∧ w9.cell? ⟨gb125, 1, none⟩ = some (.int .i64 a0_1) ∧ w9.cell? ⟨gb125, 2, none⟩ = some (.int .i64 a0_2) ∧ w9.cell? ⟨gb125, 3, none⟩ = some (.int .i64 a0_3) ∧ w9.cell? ⟨gb125, 4, none⟩ = some (.int .i64 a0_4) ∧ w9.cell? ⟨gb125, 5, none⟩ = some (.int .i64 a0_5) ∧ w9.cell? ⟨gb125, 6, none⟩ = some (.int .i64 a0_6) ∧ w9.cell? ⟨gb125, 7, none⟩ = some (.int .i64 a0_7) := hS_
          refine norm_ (a' := ?_) ?_ ?_
          rotate_left
          ·simp only [putAll, Act.put, List.setIfInBounds_toArray, List.set_cons_zero, List.set_cons_succ]
           rfl
          refine two_ (i := 8) (j := 11) (Ni := some 7) (Nj := some 10) #[true, true, true, true, true, true, true, true, true, true, true, false, false, false, false, false] #[true, true, true, true, true, true, true, true, false, true, true, true, false, false, false, false] rfl rfl rfl rfl (two_of HT_.out (by kernel_rfl)) (by decide) (by decide) (fun K hK => ?_) (fun K hK => ?_)
          ·skip
           refine box_step ?hg (N := 7) ?hd (cs := #[.int .i64 0, .int .i64 0]) (t := 23) ?hr ?_; (case hd => rfl); (case hg => rfl); (case hr => first | (go_simp; done) | (go_simp; rfl))
           intro gb126 hg w10 hbox hb
           have n0_ := ak (blk_below (g := gb125) (o := .cells #[.int .i64 a0_0, .int .i64 a0_1, .int .i64 a0_2, .int .i64 a0_3, .int .i64 a0_4, .int .i64 a0_5, .int .i64 a0_6, .int .i64 a0_7] 36 (0, 0)) (by first | exact BK125.out | exact blk_drew BK125.out) hb)
           have n1_ := ak (blk_below (g := gb127) (o := .cells #[.int .i64 0, .int .i64 0] 23 (0, 0)) (by first | exact BK127.out | exact blk_drew BK127.out) hb)
           have n2_ := ak (blk_below (g := gb128) (o := .cells #[.int .i64 0, .int .i64 0] 23 (0, 0)) (by first | exact BK128.out | exact blk_drew BK128.out) hb)
           have n3_ := ak (below_step (by first | exact HB.out | exact below_drew1 HB.out) hb)
           have n4_ := ak (hbox)
           have n5_ := ak ((by rw [hg]; exact (below_size (by first | exact HB.out | exact below_drew1 HB.out)) : w.heap.size ≤ gb126))
           have n6_ := ak ((by rw [hg]; exact (below_size (by first | exact HB.out | exact below_drew1 HB.out)) : w.heap.size ≤ gb126))
           have n7_ := ak ((by rw [hg]; exact Nat.ne_of_lt (blk_lt (g := gb125) (o := .cells #[.int .i64 a0_0, .int .i64 a0_1, .int .i64 a0_2, .int .i64 a0_3, .int .i64 a0_4, .int .i64 a0_5, .int .i64 a0_6, .int .i64 a0_7] 36 (0, 0)) (by first | exact BK125.out | exact blk_drew BK125.out)) : gb125 ≠ gb126))
           have n8_ := ak ((by rw [hg]; exact Nat.ne_of_gt (blk_lt (g := gb125) (o := .cells #[.int .i64 a0_0, .int .i64 a0_1, .int .i64 a0_2, .int .i64 a0_3, .int .i64 a0_4, .int .i64 a0_5, .int .i64 a0_6, .int .i64 a0_7] 36 (0, 0)) (by first | exact BK125.out | exact blk_drew BK125.out)) : gb126 ≠ gb125))
           have n9_ := ak ((by rw [hg]; exact Nat.ne_of_lt (blk_lt (g := gb127) (o := .cells #[.int .i64 0, .int .i64 0] 23 (0, 0)) (by first | exact BK127.out | exact blk_drew BK127.out)) : gb127 ≠ gb126))
           have n10_ := ak ((by rw [hg]; exact Nat.ne_of_gt (blk_lt (g := gb127) (o := .cells #[.int .i64 0, .int .i64 0] 23 (0, 0)) (by first | exact BK127.out | exact blk_drew BK127.out)) : gb126 ≠ gb127))
           have n11_ := ak ((by rw [hg]; exact Nat.ne_of_lt (blk_lt (g := gb128) (o := .cells #[.int .i64 0, .int .i64 0] 23 (0, 0)) (by first | exact BK128.out | exact blk_drew BK128.out)) : gb128 ≠ gb126))
           have n12_ := ak ((by rw [hg]; exact Nat.ne_of_gt (blk_lt (g := gb128) (o := .cells #[.int .i64 0, .int .i64 0] 23 (0, 0)) (by first | exact BK128.out | exact blk_drew BK128.out)) : gb126 ≠ gb128))
           clear BK125
           clear BK127
           clear BK128
           clear HB
           have BK125 := n0_
           have BK127 := n1_
           have BK128 := n2_
           have HB := n3_
           have BK126 := n4_
           have GW126 := n5_
           have GE126 := n6_
           have NB125_126 := n7_
           have NB126_125 := n8_
           have NB127_126 := n9_
           have NB126_127 := n10_
           have NB128_126 := n11_
           have NB126_128 := n12_
           clear n0_ n1_ n2_ n3_ n4_ n5_ n6_ n7_ n8_ n9_ n10_ n11_ n12_
           clear hb hbox hg
           refine hK.out _ _ ⟨(blk_cell BK125.out 0).trans rfl, (blk_cell BK125.out 1).trans rfl, (blk_cell BK125.out 2).trans rfl, (blk_cell BK125.out 3).trans rfl, (blk_cell BK125.out 4).trans rfl, (blk_cell BK125.out 5).trans rfl, (blk_cell BK125.out 6).trans rfl, (blk_cell BK125.out 7).trans rfl⟩ (fun hHeld => ?_)
           clear hK K
           refine norm_ (a' := ?_) ?_ ?_
           rotate_left
           ·show Act.put _ (some 7) _ = _
            simp only [Act.put, List.setIfInBounds_toArray, List.set_cons_zero, List.set_cons_succ, i64_w, i32_w]
            rfl
           exact norm_ (by first | (simp only [putAll, Act.put, List.setIfInBounds_toArray, List.set_cons_zero, List.set_cons_succ]; done) | (simp only [putAll, Act.put, List.setIfInBounds_toArray, List.set_cons_zero, List.set_cons_succ]; rfl)) (hJ8_9_10 (gb126, gb127, gb128) _ ⟨hHeld, (by first | exact BK125.out | exact blk_drew BK125.out), (by first | exact BK126.out | exact blk_drew BK126.out), (by first | exact BK127.out | exact blk_drew BK127.out), (by first | exact BK128.out | exact blk_drew BK128.out), GW126.out, GE126.out, NB125_126.out, NB126_125.out, NB127_126.out, NB126_127.out, NB128_126.out, NB126_128.out, GW127.out, GE127.out, NB125_127.out, NB127_125.out, NB128_127.out, NB127_128.out, GW128.out, GE128.out, NB125_128.out, NB128_125.out, (by first | exact HB.out | exact below_drew1 HB.out)⟩)
          ·skip
           refine box_step ?hg (N := 10) ?hd (cs := #[.int .i64 0, .int .i64 0]) (t := 23) ?hr ?_; (case hd => rfl); (case hg => rfl); (case hr => first | (go_simp; done) | (go_simp; rfl))
           intro gb129 hg w10 hbox hb
           have n0_ := ak (blk_below (g := gb125) (o := .cells #[.int .i64 a0_0, .int .i64 a0_1, .int .i64 a0_2, .int .i64 a0_3, .int .i64 a0_4, .int .i64 a0_5, .int .i64 a0_6, .int .i64 a0_7] 36 (0, 0)) (by first | exact BK125.out | exact blk_drew BK125.out) hb)
           have n1_ := ak (blk_below (g := gb127) (o := .cells #[.int .i64 0, .int .i64 0] 23 (0, 0)) (by first | exact BK127.out | exact blk_drew BK127.out) hb)
           have n2_ := ak (blk_below (g := gb128) (o := .cells #[.int .i64 0, .int .i64 0] 23 (0, 0)) (by first | exact BK128.out | exact blk_drew BK128.out) hb)
           have n3_ := ak (below_step (by first | exact HB.out | exact below_drew1 HB.out) hb)
           have n4_ := ak (hbox)
           have n5_ := ak ((by rw [hg]; exact (below_size (by first | exact HB.out | exact below_drew1 HB.out)) : w.heap.size ≤ gb129))
           have n6_ := ak ((by rw [hg]; exact (below_size (by first | exact HB.out | exact below_drew1 HB.out)) : w.heap.size ≤ gb129))
           have n7_ := ak ((by rw [hg]; exact Nat.ne_of_lt (blk_lt (g := gb125) (o := .cells #[.int .i64 a0_0, .int .i64 a0_1, .int .i64 a0_2, .int .i64 a0_3, .int .i64 a0_4, .int .i64 a0_5, .int .i64 a0_6, .int .i64 a0_7] 36 (0, 0)) (by first | exact BK125.out | exact blk_drew BK125.out)) : gb125 ≠ gb129))
           have n8_ := ak ((by rw [hg]; exact Nat.ne_of_gt (blk_lt (g := gb125) (o := .cells #[.int .i64 a0_0, .int .i64 a0_1, .int .i64 a0_2, .int .i64 a0_3, .int .i64 a0_4, .int .i64 a0_5, .int .i64 a0_6, .int .i64 a0_7] 36 (0, 0)) (by first | exact BK125.out | exact blk_drew BK125.out)) : gb129 ≠ gb125))
           have n9_ := ak ((by rw [hg]; exact Nat.ne_of_lt (blk_lt (g := gb127) (o := .cells #[.int .i64 0, .int .i64 0] 23 (0, 0)) (by first | exact BK127.out | exact blk_drew BK127.out)) : gb127 ≠ gb129))
           have n10_ := ak ((by rw [hg]; exact Nat.ne_of_gt (blk_lt (g := gb127) (o := .cells #[.int .i64 0, .int .i64 0] 23 (0, 0)) (by first | exact BK127.out | exact blk_drew BK127.out)) : gb129 ≠ gb127))
           have n11_ := ak ((by rw [hg]; exact Nat.ne_of_lt (blk_lt (g := gb128) (o := .cells #[.int .i64 0, .int .i64 0] 23 (0, 0)) (by first | exact BK128.out | exact blk_drew BK128.out)) : gb128 ≠ gb129))
           have n12_ := ak ((by rw [hg]; exact Nat.ne_of_gt (blk_lt (g := gb128) (o := .cells #[.int .i64 0, .int .i64 0] 23 (0, 0)) (by first | exact BK128.out | exact blk_drew BK128.out)) : gb129 ≠ gb128))
           clear BK125
           clear BK127
           clear BK128
           clear HB
           have BK125 := n0_
           have BK127 := n1_
           have BK128 := n2_
           have HB := n3_
           have BK129 := n4_
           have GW129 := n5_
           have GE129 := n6_
           have NB125_129 := n7_
           have NB129_125 := n8_
           have NB127_129 := n9_
           have NB129_127 := n10_
           have NB128_129 := n11_
           have NB129_128 := n12_
           clear n0_ n1_ n2_ n3_ n4_ n5_ n6_ n7_ n8_ n9_ n10_ n11_ n12_
           clear hb hbox hg
           refine hK.out _ _ ⟨(blk_cell BK125.out 0).trans rfl, (blk_cell BK125.out 1).trans rfl, (blk_cell BK125.out 2).trans rfl, (blk_cell BK125.out 3).trans rfl, (blk_cell BK125.out 4).trans rfl, (blk_cell BK125.out 5).trans rfl, (blk_cell BK125.out 6).trans rfl, (blk_cell BK125.out 7).trans rfl⟩ (fun hHeld => ?_)
           clear hK K
           refine norm_ (a' := ?_) ?_ ?_
           rotate_left
           ·show Act.put _ (some 10) _ = _
            simp only [Act.put, List.setIfInBounds_toArray, List.set_cons_zero, List.set_cons_succ, i64_w, i32_w]
            rfl
           exact norm_ (by first | (simp only [putAll, Act.put, List.setIfInBounds_toArray, List.set_cons_zero, List.set_cons_succ]; done) | (simp only [putAll, Act.put, List.setIfInBounds_toArray, List.set_cons_zero, List.set_cons_succ]; rfl)) (hJ9_10_11 (gb127, gb128, gb129) _ ⟨hHeld, (by first | exact BK125.out | exact blk_drew BK125.out), (by first | exact BK127.out | exact blk_drew BK127.out), (by first | exact BK128.out | exact blk_drew BK128.out), (by first | exact BK129.out | exact blk_drew BK129.out), GW127.out, GE127.out, NB125_127.out, NB127_125.out, NB128_127.out, NB127_128.out, NB129_127.out, NB127_129.out, GW128.out, GE128.out, NB125_128.out, NB128_125.out, NB129_128.out, NB128_129.out, GW129.out, GE129.out, NB125_129.out, NB129_125.out, (by first | exact HB.out | exact below_drew1 HB.out)⟩)
        ·skip
         rintro ⟨gb126, gb129⟩ w9 ⟨hS_, h0_, h1_, h2_, h3_, h4_, h5_, h6_, h7_, h8_, h9_, h10_, h11_, h12_, h13_⟩
         have n0_ : Aside0 (w9.heap[gb125]? = some (.cells #[.int .i64 a0_0, .int .i64 a0_1, .int .i64 a0_2, .int .i64 a0_3, .int .i64 a0_4, .int .i64 a0_5, .int .i64 a0_6, .int .i64 a0_7] 36 (0, 0))) := ⟨h0_⟩
         have n1_ : Aside0 (w9.heap[gb126]? = some (.cells #[.int .i64 0, .int .i64 0] 23 (0, 0))) := ⟨h1_⟩
         have n2_ : Aside0 (w9.heap[gb129]? = some (.cells #[.int .i64 0, .int .i64 0] 23 (0, 0))) := ⟨h2_⟩
         have n3_ : Aside0 (w.heap.size ≤ gb126) := ⟨h3_⟩
         have n4_ : Aside0 (w.heap.size ≤ gb126) := ⟨h4_⟩
         have n5_ : Aside0 (gb125 ≠ gb126) := ⟨h5_⟩
         have n6_ : Aside0 (gb126 ≠ gb125) := ⟨h6_⟩
         have n7_ : Aside0 (gb129 ≠ gb126) := ⟨h7_⟩
         have n8_ : Aside0 (gb126 ≠ gb129) := ⟨h8_⟩
         have n9_ : Aside0 (w.heap.size ≤ gb129) := ⟨h9_⟩
         have n10_ : Aside0 (w.heap.size ≤ gb129) := ⟨h10_⟩
         have n11_ : Aside0 (gb125 ≠ gb129) := ⟨h11_⟩
         have n12_ : Aside0 (gb129 ≠ gb125) := ⟨h12_⟩
         have n13_ : Aside0 (Below w.heap.size w w9) := ⟨h13_⟩
         clear BK125
         clear HB
         clear h0_ h1_ h2_ h3_ h4_ h5_ h6_ h7_ h8_ h9_ h10_ h11_ h12_ h13_
         have BK125 := n0_
         have BK126 := n1_
         have BK129 := n2_
         have GW126 := n3_
         have GE126 := n4_
         have NB125_126 := n5_
         have NB126_125 := n6_
         have NB129_126 := n7_
         have NB126_129 := n8_
         have GW129 := n9_
         have GE129 := n10_
         have NB125_129 := n11_
         have NB129_125 := n12_
         have HB := n13_
         clear n0_ n1_ n2_ n3_ n4_ n5_ n6_ n7_ n8_ n9_ n10_ n11_ n12_ n13_
         have hHeld : w9.cell? ⟨gb125, 0, none⟩ = some (.int .i64 a0_0) ∧ w9.cell? ⟨gb125, 1, none⟩ = some (.int .i64 a0_1) ∧ w9.cell? ⟨gb125, 2, none⟩ = some (.int .i64 a0_2) ∧ w9.cell? ⟨gb125, 3, none⟩ = some (.int .i64 a0_3) ∧ w9.cell? ⟨gb125, 4, none⟩ = some (.int .i64 a0_4) ∧ w9.cell? ⟨gb125, 5, none⟩ = some (.int .i64 a0_5) ∧ w9.cell? ⟨gb125, 6, none⟩ = some (.int .i64 a0_6) ∧ w9.cell? ⟨gb125, 7, none⟩ = some (.int .i64 a0_7) := hS_
         refine norm_ (a' := ?_) ?_ ?_
         rotate_left
         ·simp only [putAll, Act.put, List.setIfInBounds_toArray, List.set_cons_zero, List.set_cons_succ]
          rfl
         refine two_ (i := 9) (j := 10) (Ni := some 8) (Nj := some 9) #[true, true, true, true, true, true, true, true, true, true, false, true, false, false, false, false] #[true, true, true, true, true, true, true, true, true, false, true, true, false, false, false, false] rfl rfl rfl rfl (two_of HT_.out (by kernel_rfl)) (by decide) (by decide) (fun K hK => ?_) (fun K hK => ?_)
         ·skip
          refine box_step ?hg (N := 8) ?hd (cs := #[.int .i64 0, .int .i64 0]) (t := 23) ?hr ?_; (case hd => rfl); (case hg => rfl); (case hr => first | (go_simp; done) | (go_simp; rfl))
          intro gb127 hg w10 hbox hb
          have n0_ := ak (blk_below (g := gb125) (o := .cells #[.int .i64 a0_0, .int .i64 a0_1, .int .i64 a0_2, .int .i64 a0_3, .int .i64 a0_4, .int .i64 a0_5, .int .i64 a0_6, .int .i64 a0_7] 36 (0, 0)) (by first | exact BK125.out | exact blk_drew BK125.out) hb)
          have n1_ := ak (blk_below (g := gb126) (o := .cells #[.int .i64 0, .int .i64 0] 23 (0, 0)) (by first | exact BK126.out | exact blk_drew BK126.out) hb)
          have n2_ := ak (blk_below (g := gb129) (o := .cells #[.int .i64 0, .int .i64 0] 23 (0, 0)) (by first | exact BK129.out | exact blk_drew BK129.out) hb)
          have n3_ := ak (below_step (by first | exact HB.out | exact below_drew1 HB.out) hb)
          have n4_ := ak (hbox)
          have n5_ := ak ((by rw [hg]; exact (below_size (by first | exact HB.out | exact below_drew1 HB.out)) : w.heap.size ≤ gb127))
          have n6_ := ak ((by rw [hg]; exact (below_size (by first | exact HB.out | exact below_drew1 HB.out)) : w.heap.size ≤ gb127))
          have n7_ := ak ((by rw [hg]; exact Nat.ne_of_lt (blk_lt (g := gb125) (o := .cells #[.int .i64 a0_0, .int .i64 a0_1, .int .i64 a0_2, .int .i64 a0_3, .int .i64 a0_4, .int .i64 a0_5, .int .i64 a0_6, .int .i64 a0_7] 36 (0, 0)) (by first | exact BK125.out | exact blk_drew BK125.out)) : gb125 ≠ gb127))
          have n8_ := ak ((by rw [hg]; exact Nat.ne_of_gt (blk_lt (g := gb125) (o := .cells #[.int .i64 a0_0, .int .i64 a0_1, .int .i64 a0_2, .int .i64 a0_3, .int .i64 a0_4, .int .i64 a0_5, .int .i64 a0_6, .int .i64 a0_7] 36 (0, 0)) (by first | exact BK125.out | exact blk_drew BK125.out)) : gb127 ≠ gb125))
          have n9_ := ak ((by rw [hg]; exact Nat.ne_of_lt (blk_lt (g := gb126) (o := .cells #[.int .i64 0, .int .i64 0] 23 (0, 0)) (by first | exact BK126.out | exact blk_drew BK126.out)) : gb126 ≠ gb127))
          have n10_ := ak ((by rw [hg]; exact Nat.ne_of_gt (blk_lt (g := gb126) (o := .cells #[.int .i64 0, .int .i64 0] 23 (0, 0)) (by first | exact BK126.out | exact blk_drew BK126.out)) : gb127 ≠ gb126))
          have n11_ := ak ((by rw [hg]; exact Nat.ne_of_lt (blk_lt (g := gb129) (o := .cells #[.int .i64 0, .int .i64 0] 23 (0, 0)) (by first | exact BK129.out | exact blk_drew BK129.out)) : gb129 ≠ gb127))
          have n12_ := ak ((by rw [hg]; exact Nat.ne_of_gt (blk_lt (g := gb129) (o := .cells #[.int .i64 0, .int .i64 0] 23 (0, 0)) (by first | exact BK129.out | exact blk_drew BK129.out)) : gb127 ≠ gb129))
          clear BK125
          clear BK126
          clear BK129
          clear HB
          have BK125 := n0_
          have BK126 := n1_
          have BK129 := n2_
          have HB := n3_
          have BK127 := n4_
          have GW127 := n5_
          have GE127 := n6_
          have NB125_127 := n7_
          have NB127_125 := n8_
          have NB126_127 := n9_
          have NB127_126 := n10_
          have NB129_127 := n11_
          have NB127_129 := n12_
          clear n0_ n1_ n2_ n3_ n4_ n5_ n6_ n7_ n8_ n9_ n10_ n11_ n12_
          clear hb hbox hg
          refine hK.out _ _ ⟨(blk_cell BK125.out 0).trans rfl, (blk_cell BK125.out 1).trans rfl, (blk_cell BK125.out 2).trans rfl, (blk_cell BK125.out 3).trans rfl, (blk_cell BK125.out 4).trans rfl, (blk_cell BK125.out 5).trans rfl, (blk_cell BK125.out 6).trans rfl, (blk_cell BK125.out 7).trans rfl⟩ (fun hHeld => ?_)
          clear hK K
          refine norm_ (a' := ?_) ?_ ?_
          rotate_left
          ·show Act.put _ (some 8) _ = _
           simp only [Act.put, List.setIfInBounds_toArray, List.set_cons_zero, List.set_cons_succ, i64_w, i32_w]
           rfl
          exact norm_ (by first | (simp only [putAll, Act.put, List.setIfInBounds_toArray, List.set_cons_zero, List.set_cons_succ]; done) | (simp only [putAll, Act.put, List.setIfInBounds_toArray, List.set_cons_zero, List.set_cons_succ]; rfl)) (hJ8_9_11 (gb126, gb127, gb129) _ ⟨hHeld, (by first | exact BK125.out | exact blk_drew BK125.out), (by first | exact BK126.out | exact blk_drew BK126.out), (by first | exact BK127.out | exact blk_drew BK127.out), (by first | exact BK129.out | exact blk_drew BK129.out), GW126.out, GE126.out, NB125_126.out, NB126_125.out, NB127_126.out, NB126_127.out, NB129_126.out, NB126_129.out, GW127.out, GE127.out, NB125_127.out, NB127_125.out, NB129_127.out, NB127_129.out, GW129.out, GE129.out, NB125_129.out, NB129_125.out, (by first | exact HB.out | exact below_drew1 HB.out)⟩)
         ·skip
          refine box_step ?hg (N := 9) ?hd (cs := #[.int .i64 0, .int .i64 0]) (t := 23) ?hr ?_; (case hd => rfl); (case hg => rfl); (case hr => first | (go_simp; done) | (go_simp; rfl))
          intro gb128 hg w10 hbox hb
          have n0_ := ak (blk_below (g := gb125) (o := .cells #[.int .i64 a0_0, .int .i64 a0_1, .int .i64 a0_2, .int .i64 a0_3, .int .i64 a0_4, .int .i64 a0_5, .int .i64 a0_6, .int .i64 a0_7] 36 (0, 0)) (by first | exact BK125.out | exact blk_drew BK125.out) hb)
          have n1_ := ak (blk_below (g := gb126) (o := .cells #[.int .i64 0, .int .i64 0] 23 (0, 0)) (by first | exact BK126.out | exact blk_drew BK126.out) hb)
          have n2_ := ak (blk_below (g := gb129) (o := .cells #[.int .i64 0, .int .i64 0] 23 (0, 0)) (by first | exact BK129.out | exact blk_drew BK129.out) hb)
          have n3_ := ak (below_step (by first | exact HB.out | exact below_drew1 HB.out) hb)
          have n4_ := ak (hbox)
          have n5_ := ak ((by rw [hg]; exact (below_size (by first | exact HB.out | exact below_drew1 HB.out)) : w.heap.size ≤ gb128))
          have n6_ := ak ((by rw [hg]; exact (below_size (by first | exact HB.out | exact below_drew1 HB.out)) : w.heap.size ≤ gb128))
          have n7_ := ak ((by rw [hg]; exact Nat.ne_of_lt (blk_lt (g := gb125) (o := .cells #[.int .i64 a0_0, .int .i64 a0_1, .int .i64 a0_2, .int .i64 a0_3, .int .i64 a0_4, .int .i64 a0_5, .int .i64 a0_6, .int .i64 a0_7] 36 (0, 0)) (by first | exact BK125.out | exact blk_drew BK125.out)) : gb125 ≠ gb128))
          have n8_ := ak ((by rw [hg]; exact Nat.ne_of_gt (blk_lt (g := gb125) (o := .cells #[.int .i64 a0_0, .int .i64 a0_1, .int .i64 a0_2, .int .i64 a0_3, .int .i64 a0_4, .int .i64 a0_5, .int .i64 a0_6, .int .i64 a0_7] 36 (0, 0)) (by first | exact BK125.out | exact blk_drew BK125.out)) : gb128 ≠ gb125))
          have n9_ := ak ((by rw [hg]; exact Nat.ne_of_lt (blk_lt (g := gb126) (o := .cells #[.int .i64 0, .int .i64 0] 23 (0, 0)) (by first | exact BK126.out | exact blk_drew BK126.out)) : gb126 ≠ gb128))
          have n10_ := ak ((by rw [hg]; exact Nat.ne_of_gt (blk_lt (g := gb126) (o := .cells #[.int .i64 0, .int .i64 0] 23 (0, 0)) (by first | exact BK126.out | exact blk_drew BK126.out)) : gb128 ≠ gb126))
          have n11_ := ak ((by rw [hg]; exact Nat.ne_of_lt (blk_lt (g := gb129) (o := .cells #[.int .i64 0, .int .i64 0] 23 (0, 0)) (by first | exact BK129.out | exact blk_drew BK129.out)) : gb129 ≠ gb128))
          have n12_ := ak ((by rw [hg]; exact Nat.ne_of_gt (blk_lt (g := gb129) (o := .cells #[.int .i64 0, .int .i64 0] 23 (0, 0)) (by first | exact BK129.out | exact blk_drew BK129.out)) : gb128 ≠ gb129))
          clear BK125
          clear BK126
          clear BK129
          clear HB
          have BK125 := n0_
          have BK126 := n1_
          have BK129 := n2_
          have HB := n3_
          have BK128 := n4_
          have GW128 := n5_
          have GE128 := n6_
          have NB125_128 := n7_
          have NB128_125 := n8_
          have NB126_128 := n9_
          have NB128_126 := n10_
          have NB129_128 := n11_
          have NB128_129 := n12_
          clear n0_ n1_ n2_ n3_ n4_ n5_ n6_ n7_ n8_ n9_ n10_ n11_ n12_
          clear hb hbox hg
          refine hK.out _ _ ⟨(blk_cell BK125.out 0).trans rfl, (blk_cell BK125.out 1).trans rfl, (blk_cell BK125.out 2).trans rfl, (blk_cell BK125.out 3).trans rfl, (blk_cell BK125.out 4).trans rfl, (blk_cell BK125.out 5).trans rfl, (blk_cell BK125.out 6).trans rfl, (blk_cell BK125.out 7).trans rfl⟩ (fun hHeld => ?_)
          clear hK K
          refine norm_ (a' := ?_) ?_ ?_
          rotate_left
          ·show Act.put _ (some 9) _ = _
           simp only [Act.put, List.setIfInBounds_toArray, List.set_cons_zero, List.set_cons_succ, i64_w, i32_w]
           rfl
          exact norm_ (by first | (simp only [putAll, Act.put, List.setIfInBounds_toArray, List.set_cons_zero, List.set_cons_succ]; done) | (simp only [putAll, Act.put, List.setIfInBounds_toArray, List.set_cons_zero, List.set_cons_succ]; rfl)) (hJ8_10_11 (gb126, gb128, gb129) _ ⟨hHeld, (by first | exact BK125.out | exact blk_drew BK125.out), (by first | exact BK126.out | exact blk_drew BK126.out), (by first | exact BK128.out | exact blk_drew BK128.out), (by first | exact BK129.out | exact blk_drew BK129.out), GW126.out, GE126.out, NB125_126.out, NB126_125.out, NB128_126.out, NB126_128.out, NB129_126.out, NB126_129.out, GW128.out, GE128.out, NB125_128.out, NB128_125.out, NB129_128.out, NB128_129.out, GW129.out, GE129.out, NB125_129.out, NB129_125.out, (by first | exact HB.out | exact below_drew1 HB.out)⟩)
       ·skip
        rintro ⟨gb126, gb128⟩ w9 ⟨hS_, h0_, h1_, h2_, h3_, h4_, h5_, h6_, h7_, h8_, h9_, h10_, h11_, h12_, h13_⟩
        have n0_ : Aside0 (w9.heap[gb125]? = some (.cells #[.int .i64 a0_0, .int .i64 a0_1, .int .i64 a0_2, .int .i64 a0_3, .int .i64 a0_4, .int .i64 a0_5, .int .i64 a0_6, .int .i64 a0_7] 36 (0, 0))) := ⟨h0_⟩
        have n1_ : Aside0 (w9.heap[gb126]? = some (.cells #[.int .i64 0, .int .i64 0] 23 (0, 0))) := ⟨h1_⟩
        have n2_ : Aside0 (w9.heap[gb128]? = some (.cells #[.int .i64 0, .int .i64 0] 23 (0, 0))) := ⟨h2_⟩
        have n3_ : Aside0 (w.heap.size ≤ gb126) := ⟨h3_⟩
        have n4_ : Aside0 (w.heap.size ≤ gb126) := ⟨h4_⟩
        have n5_ : Aside0 (gb125 ≠ gb126) := ⟨h5_⟩
        have n6_ : Aside0 (gb126 ≠ gb125) := ⟨h6_⟩
        have n7_ : Aside0 (gb128 ≠ gb126) := ⟨h7_⟩
        have n8_ : Aside0 (gb126 ≠ gb128) := ⟨h8_⟩
        have n9_ : Aside0 (w.heap.size ≤ gb128) := ⟨h9_⟩
        have n10_ : Aside0 (w.heap.size ≤ gb128) := ⟨h10_⟩
        have n11_ : Aside0 (gb125 ≠ gb128) := ⟨h11_⟩
        have n12_ : Aside0 (gb128 ≠ gb125) := ⟨h12_⟩
        have n13_ : Aside0 (Below w.heap.size w w9) := ⟨h13_⟩
        clear BK125
        clear HB
        clear h0_ h1_ h2_ h3_ h4_ h5_ h6_ h7_ h8_ h9_ h10_ h11_ h12_ h13_
        have BK125 := n0_
        have BK126 := n1_
        have BK128 := n2_
        have GW126 := n3_
        have GE126 := n4_
        have NB125_126 := n5_
        have NB126_125 := n6_
        have NB128_126 := n7_
        have NB126_128 := n8_
        have GW128 := n9_
        have GE128 := n10_
        have NB125_128 := n11_
        have NB128_125 := n12_
        have HB := n13_
        clear n0_ n1_ n2_ n3_ n4_ n5_ n6_ n7_ n8_ n9_ n10_ n11_ n12_ n13_
        have hHeld : w9.cell? ⟨gb125, 0, none⟩ = some (.int .i64 a0_0) ∧ w9.cell? ⟨gb125, 1, none⟩ = some (.int .i64 a0_1) ∧ w9.cell? ⟨gb125, 2, none⟩ = some (.int .i64 a0_2) ∧ w9.cell? ⟨gb125, 3, none⟩ = some (.int .i64 a0_3) ∧ w9.cell? ⟨gb125, 4, none⟩ = some (.int .i64 a0_4) ∧ w9.cell? ⟨gb125, 5, none⟩ = some (.int .i64 a0_5) ∧ w9.cell? ⟨gb125, 6, none⟩ = some (.int .i64 a0_6) ∧ w9.cell? ⟨gb125, 7, none⟩ = some (.int .i64 a0_7) := hS_
        refine norm_ (a' := ?_) ?_ ?_
        rotate_left
        ·simp only [putAll, Act.put, List.setIfInBounds_toArray, List.set_cons_zero, List.set_cons_succ]
         rfl
        refine two_ (i := 9) (j := 11) (Ni := some 8) (Nj := some 10) #[true, true, true, true, true, true, true, true, true, true, true, false, false, false, false, false] #[true, true, true, true, true, true, true, true, true, false, true, true, false, false, false, false] rfl rfl rfl rfl (two_of HT_.out (by kernel_rfl)) (by decide) (by decide) (fun K hK => ?_) (fun K hK => ?_)
        ·skip
         refine box_step ?hg (N := 8) ?hd (cs := #[.int .i64 0, .int .i64 0]) (t := 23) ?hr ?_; (case hd => rfl); (case hg => rfl); (case hr => first | (go_simp; done) | (go_simp; rfl))
         intro gb127 hg w10 hbox hb
         have n0_ := ak (blk_below (g := gb125) (o := .cells #[.int .i64 a0_0, .int .i64 a0_1, .int .i64 a0_2, .int .i64 a0_3, .int .i64 a0_4, .int .i64 a0_5, .int .i64 a0_6, .int .i64 a0_7] 36 (0, 0)) (by first | exact BK125.out | exact blk_drew BK125.out) hb)
         have n1_ := ak (blk_below (g := gb126) (o := .cells #[.int .i64 0, .int .i64 0] 23 (0, 0)) (by first | exact BK126.out | exact blk_drew BK126.out) hb)
         have n2_ := ak (blk_below (g := gb128) (o := .cells #[.int .i64 0, .int .i64 0] 23 (0, 0)) (by first | exact BK128.out | exact blk_drew BK128.out) hb)
         have n3_ := ak (below_step (by first | exact HB.out | exact below_drew1 HB.out) hb)
         have n4_ := ak (hbox)
         have n5_ := ak ((by rw [hg]; exact (below_size (by first | exact HB.out | exact below_drew1 HB.out)) : w.heap.size ≤ gb127))
         have n6_ := ak ((by rw [hg]; exact (below_size (by first | exact HB.out | exact below_drew1 HB.out)) : w.heap.size ≤ gb127))
         have n7_ := ak ((by rw [hg]; exact Nat.ne_of_lt (blk_lt (g := gb125) (o := .cells #[.int .i64 a0_0, .int .i64 a0_1, .int .i64 a0_2, .int .i64 a0_3, .int .i64 a0_4, .int .i64 a0_5, .int .i64 a0_6, .int .i64 a0_7] 36 (0, 0)) (by first | exact BK125.out | exact blk_drew BK125.out)) : gb125 ≠ gb127))
         have n8_ := ak ((by rw [hg]; exact Nat.ne_of_gt (blk_lt (g := gb125) (o := .cells #[.int .i64 a0_0, .int .i64 a0_1, .int .i64 a0_2, .int .i64 a0_3, .int .i64 a0_4, .int .i64 a0_5, .int .i64 a0_6, .int .i64 a0_7] 36 (0, 0)) (by first | exact BK125.out | exact blk_drew BK125.out)) : gb127 ≠ gb125))
         have n9_ := ak ((by rw [hg]; exact Nat.ne_of_lt (blk_lt (g := gb126) (o := .cells #[.int .i64 0, .int .i64 0] 23 (0, 0)) (by first | exact BK126.out | exact blk_drew BK126.out)) : gb126 ≠ gb127))
         have n10_ := ak ((by rw [hg]; exact Nat.ne_of_gt (blk_lt (g := gb126) (o := .cells #[.int .i64 0, .int .i64 0] 23 (0, 0)) (by first | exact BK126.out | exact blk_drew BK126.out)) : gb127 ≠ gb126))
         have n11_ := ak ((by rw [hg]; exact Nat.ne_of_lt (blk_lt (g := gb128) (o := .cells #[.int .i64 0, .int .i64 0] 23 (0, 0)) (by first | exact BK128.out | exact blk_drew BK128.out)) : gb128 ≠ gb127))
         have n12_ := ak ((by rw [hg]; exact Nat.ne_of_gt (blk_lt (g := gb128) (o := .cells #[.int .i64 0, .int .i64 0] 23 (0, 0)) (by first | exact BK128.out | exact blk_drew BK128.out)) : gb127 ≠ gb128))
         clear BK125
         clear BK126
         clear BK128
         clear HB
         have BK125 := n0_
         have BK126 := n1_
         have BK128 := n2_
         have HB := n3_
         have BK127 := n4_
         have GW127 := n5_
         have GE127 := n6_
         have NB125_127 := n7_
         have NB127_125 := n8_
         have NB126_127 := n9_
         have NB127_126 := n10_
         have NB128_127 := n11_
         have NB127_128 := n12_
         clear n0_ n1_ n2_ n3_ n4_ n5_ n6_ n7_ n8_ n9_ n10_ n11_ n12_
         clear hb hbox hg
         refine hK.out _ _ ⟨(blk_cell BK125.out 0).trans rfl, (blk_cell BK125.out 1).trans rfl, (blk_cell BK125.out 2).trans rfl, (blk_cell BK125.out 3).trans rfl, (blk_cell BK125.out 4).trans rfl, (blk_cell BK125.out 5).trans rfl, (blk_cell BK125.out 6).trans rfl, (blk_cell BK125.out 7).trans rfl⟩ (fun hHeld => ?_)
         clear hK K
         refine norm_ (a' := ?_) ?_ ?_
         rotate_left
         ·show Act.put _ (some 8) _ = _
          simp only [Act.put, List.setIfInBounds_toArray, List.set_cons_zero, List.set_cons_succ, i64_w, i32_w]
          rfl
         exact norm_ (by first | (simp only [putAll, Act.put, List.setIfInBounds_toArray, List.set_cons_zero, List.set_cons_succ]; done) | (simp only [putAll, Act.put, List.setIfInBounds_toArray, List.set_cons_zero, List.set_cons_succ]; rfl)) (hJ8_9_10 (gb126, gb127, gb128) _ ⟨hHeld, (by first | exact BK125.out | exact blk_drew BK125.out), (by first | exact BK126.out | exact blk_drew BK126.out), (by first | exact BK127.out | exact blk_drew BK127.out), (by first | exact BK128.out | exact blk_drew BK128.out), GW126.out, GE126.out, NB125_126.out, NB126_125.out, NB127_126.out, NB126_127.out, NB128_126.out, NB126_128.out, GW127.out, GE127.out, NB125_127.out, NB127_125.out, NB128_127.out, NB127_128.out, GW128.out, GE128.out, NB125_128.out, NB128_125.out, (by first | exact HB.out | exact below_drew1 HB.out)⟩)
        ·skip
         refine box_step ?hg (N := 10) ?hd (cs := #[.int .i64 0, .int .i64 0]) (t := 23) ?hr ?_; (case hd => rfl); (case hg => rfl); (case hr => first | (go_simp; done) | (go_simp; rfl))
         intro gb129 hg w10 hbox hb
         have n0_ := ak (blk_below (g := gb125) (o := .cells #[.int .i64 a0_0, .int .i64 a0_1, .int .i64 a0_2, .int .i64 a0_3, .int .i64 a0_4, .int .i64 a0_5, .int .i64 a0_6, .int .i64 a0_7] 36 (0, 0)) (by first | exact BK125.out | exact blk_drew BK125.out) hb)
         have n1_ := ak (blk_below (g := gb126) (o := .cells #[.int .i64 0, .int .i64 0] 23 (0, 0)) (by first | exact BK126.out | exact blk_drew BK126.out) hb)
         have n2_ := ak (blk_below (g := gb128) (o := .cells #[.int .i64 0, .int .i64 0] 23 (0, 0)) (by first | exact BK128.out | exact blk_drew BK128.out) hb)
         have n3_ := ak (below_step (by first | exact HB.out | exact below_drew1 HB.out) hb)
         have n4_ := ak (hbox)
         have n5_ := ak ((by rw [hg]; exact (below_size (by first | exact HB.out | exact below_drew1 HB.out)) : w.heap.size ≤ gb129))
         have n6_ := ak ((by rw [hg]; exact (below_size (by first | exact HB.out | exact below_drew1 HB.out)) : w.heap.size ≤ gb129))
         have n7_ := ak ((by rw [hg]; exact Nat.ne_of_lt (blk_lt (g := gb125) (o := .cells #[.int .i64 a0_0, .int .i64 a0_1, .int .i64 a0_2, .int .i64 a0_3, .int .i64 a0_4, .int .i64 a0_5, .int .i64 a0_6, .int .i64 a0_7] 36 (0, 0)) (by first | exact BK125.out | exact blk_drew BK125.out)) : gb125 ≠ gb129))
         have n8_ := ak ((by rw [hg]; exact Nat.ne_of_gt (blk_lt (g := gb125) (o := .cells #[.int .i64 a0_0, .int .i64 a0_1, .int .i64 a0_2, .int .i64 a0_3, .int .i64 a0_4, .int .i64 a0_5, .int .i64 a0_6, .int .i64 a0_7] 36 (0, 0)) (by first | exact BK125.out | exact blk_drew BK125.out)) : gb129 ≠ gb125))
         have n9_ := ak ((by rw [hg]; exact Nat.ne_of_lt (blk_lt (g := gb126) (o := .cells #[.int .i64 0, .int .i64 0] 23 (0, 0)) (by first | exact BK126.out | exact blk_drew BK126.out)) : gb126 ≠ gb129))
         have n10_ := ak ((by rw [hg]; exact Nat.ne_of_gt (blk_lt (g := gb126) (o := .cells #[.int .i64 0, .int .i64 0] 23 (0, 0)) (by first | exact BK126.out | exact blk_drew BK126.out)) : gb129 ≠ gb126))
         have n11_ := ak ((by rw [hg]; exact Nat.ne_of_lt (blk_lt (g := gb128) (o := .cells #[.int .i64 0, .int .i64 0] 23 (0, 0)) (by first | exact BK128.out | exact blk_drew BK128.out)) : gb128 ≠ gb129))
         have n12_ := ak ((by rw [hg]; exact Nat.ne_of_gt (blk_lt (g := gb128) (o := .cells #[.int .i64 0, .int .i64 0] 23 (0, 0)) (by first | exact BK128.out | exact blk_drew BK128.out)) : gb129 ≠ gb128))
         clear BK125
         clear BK126
         clear BK128
         clear HB
         have BK125 := n0_
         have BK126 := n1_
         have BK128 := n2_
         have HB := n3_
         have BK129 := n4_
         have GW129 := n5_
         have GE129 := n6_
         have NB125_129 := n7_
         have NB129_125 := n8_
         have NB126_129 := n9_
         have NB129_126 := n10_
         have NB128_129 := n11_
         have NB129_128 := n12_
         clear n0_ n1_ n2_ n3_ n4_ n5_ n6_ n7_ n8_ n9_ n10_ n11_ n12_
         clear hb hbox hg
         refine hK.out _ _ ⟨(blk_cell BK125.out 0).trans rfl, (blk_cell BK125.out 1).trans rfl, (blk_cell BK125.out 2).trans rfl, (blk_cell BK125.out 3).trans rfl, (blk_cell BK125.out 4).trans rfl, (blk_cell BK125.out 5).trans rfl, (blk_cell BK125.out 6).trans rfl, (blk_cell BK125.out 7).trans rfl⟩ (fun hHeld => ?_)
         clear hK K
         refine norm_ (a' := ?_) ?_ ?_
         rotate_left
         ·show Act.put _ (some 10) _ = _
          simp only [Act.put, List.setIfInBounds_toArray, List.set_cons_zero, List.set_cons_succ, i64_w, i32_w]
          rfl
         exact norm_ (by first | (simp only [putAll, Act.put, List.setIfInBounds_toArray, List.set_cons_zero, List.set_cons_succ]; done) | (simp only [putAll, Act.put, List.setIfInBounds_toArray, List.set_cons_zero, List.set_cons_succ]; rfl)) (hJ8_10_11 (gb126, gb128, gb129) _ ⟨hHeld, (by first | exact BK125.out | exact blk_drew BK125.out), (by first | exact BK126.out | exact blk_drew BK126.out), (by first | exact BK128.out | exact blk_drew BK128.out), (by first | exact BK129.out | exact blk_drew BK129.out), GW126.out, GE126.out, NB125_126.out, NB126_125.out, NB128_126.out, NB126_128.out, NB129_126.out, NB126_129.out, GW128.out, GE128.out, NB125_128.out, NB128_125.out, NB129_128.out, NB128_129.out, GW129.out, GE129.out, NB125_129.out, NB129_125.out, (by first | exact HB.out | exact below_drew1 HB.out)⟩)
      ·skip
       rintro ⟨gb126, gb127⟩ w9 ⟨hS_, h0_, h1_, h2_, h3_, h4_, h5_, h6_, h7_, h8_, h9_, h10_, h11_, h12_, h13_⟩
       have n0_ : Aside0 (w9.heap[gb125]? = some (.cells #[.int .i64 a0_0, .int .i64 a0_1, .int .i64 a0_2, .int .i64 a0_3, .int .i64 a0_4, .int .i64 a0_5, .int .i64 a0_6, .int .i64 a0_7] 36 (0, 0))) := ⟨h0_⟩
       have n1_ : Aside0 (w9.heap[gb126]? = some (.cells #[.int .i64 0, .int .i64 0] 23 (0, 0))) := ⟨h1_⟩
       have n2_ : Aside0 (w9.heap[gb127]? = some (.cells #[.int .i64 0, .int .i64 0] 23 (0, 0))) := ⟨h2_⟩
       have n3_ : Aside0 (w.heap.size ≤ gb126) := ⟨h3_⟩
       have n4_ : Aside0 (w.heap.size ≤ gb126) := ⟨h4_⟩
       have n5_ : Aside0 (gb125 ≠ gb126) := ⟨h5_⟩
       have n6_ : Aside0 (gb126 ≠ gb125) := ⟨h6_⟩
       have n7_ : Aside0 (gb127 ≠ gb126) := ⟨h7_⟩
       have n8_ : Aside0 (gb126 ≠ gb127) := ⟨h8_⟩
       have n9_ : Aside0 (w.heap.size ≤ gb127) := ⟨h9_⟩
       have n10_ : Aside0 (w.heap.size ≤ gb127) := ⟨h10_⟩
       have n11_ : Aside0 (gb125 ≠ gb127) := ⟨h11_⟩
       have n12_ : Aside0 (gb127 ≠ gb125) := ⟨h12_⟩
       have n13_ : Aside0 (Below w.heap.size w w9) := ⟨h13_⟩
       clear BK125
       clear HB
       clear h0_ h1_ h2_ h3_ h4_ h5_ h6_ h7_ h8_ h9_ h10_ h11_ h12_ h13_
       have BK125 := n0_
       have BK126 := n1_
       have BK127 := n2_
       have GW126 := n3_
       have GE126 := n4_
       have NB125_126 := n5_
       have NB126_125 := n6_
       have NB127_126 := n7_
       have NB126_127 := n8_
       have GW127 := n9_
       have GE127 := n10_
       have NB125_127 := n11_
       have NB127_125 := n12_
       have HB := n13_
       clear n0_ n1_ n2_ n3_ n4_ n5_ n6_ n7_ n8_ n9_ n10_ n11_ n12_ n13_
       have hHeld : w9.cell? ⟨gb125, 0, none⟩ = some (.int .i64 a0_0) ∧ w9.cell? ⟨gb125, 1, none⟩ = some (.int .i64 a0_1) ∧ w9.cell? ⟨gb125, 2, none⟩ = some (.int .i64 a0_2) ∧ w9.cell? ⟨gb125, 3, none⟩ = some (.int .i64 a0_3) ∧ w9.cell? ⟨gb125, 4, none⟩ = some (.int .i64 a0_4) ∧ w9.cell? ⟨gb125, 5, none⟩ = some (.int .i64 a0_5) ∧ w9.cell? ⟨gb125, 6, none⟩ = some (.int .i64 a0_6) ∧ w9.cell? ⟨gb125, 7, none⟩ = some (.int .i64 a0_7) := hS_
       refine norm_ (a' := ?_) ?_ ?_
       rotate_left
       ·simp only [putAll, Act.put, List.setIfInBounds_toArray, List.set_cons_zero, List.set_cons_succ]
        rfl
       refine two_ (i := 10) (j := 11) (Ni := some 9) (Nj := some 10) #[true, true, true, true, true, true, true, true, true, true, true, false, false, false, false, false] #[true, true, true, true, true, true, true, true, true, true, false, true, false, false, false, false] rfl rfl rfl rfl (two_of HT_.out (by kernel_rfl)) (by decide) (by decide) (fun K hK => ?_) (fun K hK => ?_)
       ·skip
        refine box_step ?hg (N := 9) ?hd (cs := #[.int .i64 0, .int .i64 0]) (t := 23) ?hr ?_; (case hd => rfl); (case hg => rfl); (case hr => first | (go_simp; done) | (go_simp; rfl))
        intro gb128 hg w10 hbox hb
        have n0_ := ak (blk_below (g := gb125) (o := .cells #[.int .i64 a0_0, .int .i64 a0_1, .int .i64 a0_2, .int .i64 a0_3, .int .i64 a0_4, .int .i64 a0_5, .int .i64 a0_6, .int .i64 a0_7] 36 (0, 0)) (by first | exact BK125.out | exact blk_drew BK125.out) hb)
        have n1_ := ak (blk_below (g := gb126) (o := .cells #[.int .i64 0, .int .i64 0] 23 (0, 0)) (by first | exact BK126.out | exact blk_drew BK126.out) hb)
        have n2_ := ak (blk_below (g := gb127) (o := .cells #[.int .i64 0, .int .i64 0] 23 (0, 0)) (by first | exact BK127.out | exact blk_drew BK127.out) hb)
        have n3_ := ak (below_step (by first | exact HB.out | exact below_drew1 HB.out) hb)
        have n4_ := ak (hbox)
        have n5_ := ak ((by rw [hg]; exact (below_size (by first | exact HB.out | exact below_drew1 HB.out)) : w.heap.size ≤ gb128))
        have n6_ := ak ((by rw [hg]; exact (below_size (by first | exact HB.out | exact below_drew1 HB.out)) : w.heap.size ≤ gb128))
        have n7_ := ak ((by rw [hg]; exact Nat.ne_of_lt (blk_lt (g := gb125) (o := .cells #[.int .i64 a0_0, .int .i64 a0_1, .int .i64 a0_2, .int .i64 a0_3, .int .i64 a0_4, .int .i64 a0_5, .int .i64 a0_6, .int .i64 a0_7] 36 (0, 0)) (by first | exact BK125.out | exact blk_drew BK125.out)) : gb125 ≠ gb128))
        have n8_ := ak ((by rw [hg]; exact Nat.ne_of_gt (blk_lt (g := gb125) (o := .cells #[.int .i64 a0_0, .int .i64 a0_1, .int .i64 a0_2, .int .i64 a0_3, .int .i64 a0_4, .int .i64 a0_5, .int .i64 a0_6, .int .i64 a0_7] 36 (0, 0)) (by first | exact BK125.out | exact blk_drew BK125.out)) : gb128 ≠ gb125))
        have n9_ := ak ((by rw [hg]; exact Nat.ne_of_lt (blk_lt (g := gb126) (o := .cells #[.int .i64 0, .int .i64 0] 23 (0, 0)) (by first | exact BK126.out | exact blk_drew BK126.out)) : gb126 ≠ gb128))
        have n10_ := ak ((by rw [hg]; exact Nat.ne_of_gt (blk_lt (g := gb126) (o := .cells #[.int .i64 0, .int .i64 0] 23 (0, 0)) (by first | exact BK126.out | exact blk_drew BK126.out)) : gb128 ≠ gb126))
        have n11_ := ak ((by rw [hg]; exact Nat.ne_of_lt (blk_lt (g := gb127) (o := .cells #[.int .i64 0, .int .i64 0] 23 (0, 0)) (by first | exact BK127.out | exact blk_drew BK127.out)) : gb127 ≠ gb128))
        have n12_ := ak ((by rw [hg]; exact Nat.ne_of_gt (blk_lt (g := gb127) (o := .cells #[.int .i64 0, .int .i64 0] 23 (0, 0)) (by first | exact BK127.out | exact blk_drew BK127.out)) : gb128 ≠ gb127))
        clear BK125
        clear BK126
        clear BK127
        clear HB
        have BK125 := n0_
        have BK126 := n1_
        have BK127 := n2_
        have HB := n3_
        have BK128 := n4_
        have GW128 := n5_
        have GE128 := n6_
        have NB125_128 := n7_
        have NB128_125 := n8_
        have NB126_128 := n9_
        have NB128_126 := n10_
        have NB127_128 := n11_
        have NB128_127 := n12_
        clear n0_ n1_ n2_ n3_ n4_ n5_ n6_ n7_ n8_ n9_ n10_ n11_ n12_
        clear hb hbox hg
        refine hK.out _ _ ⟨(blk_cell BK125.out 0).trans rfl, (blk_cell BK125.out 1).trans rfl, (blk_cell BK125.out 2).trans rfl, (blk_cell BK125.out 3).trans rfl, (blk_cell BK125.out 4).trans rfl, (blk_cell BK125.out 5).trans rfl, (blk_cell BK125.out 6).trans rfl, (blk_cell BK125.out 7).trans rfl⟩ (fun hHeld => ?_)
        clear hK K
        refine norm_ (a' := ?_) ?_ ?_
        rotate_left
        ·show Act.put _ (some 9) _ = _
         simp only [Act.put, List.setIfInBounds_toArray, List.set_cons_zero, List.set_cons_succ, i64_w, i32_w]
         rfl
        exact norm_ (by first | (simp only [putAll, Act.put, List.setIfInBounds_toArray, List.set_cons_zero, List.set_cons_succ]; done) | (simp only [putAll, Act.put, List.setIfInBounds_toArray, List.set_cons_zero, List.set_cons_succ]; rfl)) (hJ8_9_10 (gb126, gb127, gb128) _ ⟨hHeld, (by first | exact BK125.out | exact blk_drew BK125.out), (by first | exact BK126.out | exact blk_drew BK126.out), (by first | exact BK127.out | exact blk_drew BK127.out), (by first | exact BK128.out | exact blk_drew BK128.out), GW126.out, GE126.out, NB125_126.out, NB126_125.out, NB127_126.out, NB126_127.out, NB128_126.out, NB126_128.out, GW127.out, GE127.out, NB125_127.out, NB127_125.out, NB128_127.out, NB127_128.out, GW128.out, GE128.out, NB125_128.out, NB128_125.out, (by first | exact HB.out | exact below_drew1 HB.out)⟩)
       ·skip
        refine box_step ?hg (N := 10) ?hd (cs := #[.int .i64 0, .int .i64 0]) (t := 23) ?hr ?_; (case hd => rfl); (case hg => rfl); (case hr => first | (go_simp; done) | (go_simp; rfl))
        intro gb129 hg w10 hbox hb
        have n0_ := ak (blk_below (g := gb125) (o := .cells #[.int .i64 a0_0, .int .i64 a0_1, .int .i64 a0_2, .int .i64 a0_3, .int .i64 a0_4, .int .i64 a0_5, .int .i64 a0_6, .int .i64 a0_7] 36 (0, 0)) (by first | exact BK125.out | exact blk_drew BK125.out) hb)
        have n1_ := ak (blk_below (g := gb126) (o := .cells #[.int .i64 0, .int .i64 0] 23 (0, 0)) (by first | exact BK126.out | exact blk_drew BK126.out) hb)
        have n2_ := ak (blk_below (g := gb127) (o := .cells #[.int .i64 0, .int .i64 0] 23 (0, 0)) (by first | exact BK127.out | exact blk_drew BK127.out) hb)
        have n3_ := ak (below_step (by first | exact HB.out | exact below_drew1 HB.out) hb)
        have n4_ := ak (hbox)
        have n5_ := ak ((by rw [hg]; exact (below_size (by first | exact HB.out | exact below_drew1 HB.out)) : w.heap.size ≤ gb129))
        have n6_ := ak ((by rw [hg]; exact (below_size (by first | exact HB.out | exact below_drew1 HB.out)) : w.heap.size ≤ gb129))
        have n7_ := ak ((by rw [hg]; exact Nat.ne_of_lt (blk_lt (g := gb125) (o := .cells #[.int .i64 a0_0, .int .i64 a0_1, .int .i64 a0_2, .int .i64 a0_3, .int .i64 a0_4, .int .i64 a0_5, .int .i64 a0_6, .int .i64 a0_7] 36 (0, 0)) (by first | exact BK125.out | exact blk_drew BK125.out)) : gb125 ≠ gb129))
        have n8_ := ak ((by rw [hg]; exact Nat.ne_of_gt (blk_lt (g := gb125) (o := .cells #[.int .i64 a0_0, .int .i64 a0_1, .int .i64 a0_2, .int .i64 a0_3, .int .i64 a0_4, .int .i64 a0_5, .int .i64 a0_6, .int .i64 a0_7] 36 (0, 0)) (by first | exact BK125.out | exact blk_drew BK125.out)) : gb129 ≠ gb125))
        have n9_ := ak ((by rw [hg]; exact Nat.ne_of_lt (blk_lt (g := gb126) (o := .cells #[.int .i64 0, .int .i64 0] 23 (0, 0)) (by first | exact BK126.out | exact blk_drew BK126.out)) : gb126 ≠ gb129))
        have n10_ := ak ((by rw [hg]; exact Nat.ne_of_gt (blk_lt (g := gb126) (o := .cells #[.int .i64 0, .int .i64 0] 23 (0, 0)) (by first | exact BK126.out | exact blk_drew BK126.out)) : gb129 ≠ gb126))
        have n11_ := ak ((by rw [hg]; exact Nat.ne_of_lt (blk_lt (g := gb127) (o := .cells #[.int .i64 0, .int .i64 0] 23 (0, 0)) (by first | exact BK127.out | exact blk_drew BK127.out)) : gb127 ≠ gb129))
        have n12_ := ak ((by rw [hg]; exact Nat.ne_of_gt (blk_lt (g := gb127) (o := .cells #[.int .i64 0, .int .i64 0] 23 (0, 0)) (by first | exact BK127.out | exact blk_drew BK127.out)) : gb129 ≠ gb127))
        clear BK125
        clear BK126
        clear BK127
        clear HB
        have BK125 := n0_
        have BK126 := n1_
        have BK127 := n2_
        have HB := n3_
        have BK129 := n4_
        have GW129 := n5_
        have GE129 := n6_
        have NB125_129 := n7_
        have NB129_125 := n8_
        have NB126_129 := n9_
        have NB129_126 := n10_
        have NB127_129 := n11_
        have NB129_127 := n12_
        clear n0_ n1_ n2_ n3_ n4_ n5_ n6_ n7_ n8_ n9_ n10_ n11_ n12_
        clear hb hbox hg
        refine hK.out _ _ ⟨(blk_cell BK125.out 0).trans rfl, (blk_cell BK125.out 1).trans rfl, (blk_cell BK125.out 2).trans rfl, (blk_cell BK125.out 3).trans rfl, (blk_cell BK125.out 4).trans rfl, (blk_cell BK125.out 5).trans rfl, (blk_cell BK125.out 6).trans rfl, (blk_cell BK125.out 7).trans rfl⟩ (fun hHeld => ?_)
        clear hK K
        refine norm_ (a' := ?_) ?_ ?_
        rotate_left
        ·show Act.put _ (some 10) _ = _
         simp only [Act.put, List.setIfInBounds_toArray, List.set_cons_zero, List.set_cons_succ, i64_w, i32_w]
         rfl
        exact norm_ (by first | (simp only [putAll, Act.put, List.setIfInBounds_toArray, List.set_cons_zero, List.set_cons_succ]; done) | (simp only [putAll, Act.put, List.setIfInBounds_toArray, List.set_cons_zero, List.set_cons_succ]; rfl)) (hJ8_9_11 (gb126, gb127, gb129) _ ⟨hHeld, (by first | exact BK125.out | exact blk_drew BK125.out), (by first | exact BK126.out | exact blk_drew BK126.out), (by first | exact BK127.out | exact blk_drew BK127.out), (by first | exact BK129.out | exact blk_drew BK129.out), GW126.out, GE126.out, NB125_126.out, NB126_125.out, NB127_126.out, NB126_127.out, NB129_126.out, NB126_129.out, GW127.out, GE127.out, NB125_127.out, NB127_125.out, NB129_127.out, NB127_129.out, GW129.out, GE129.out, NB125_129.out, NB129_125.out, (by first | exact HB.out | exact below_drew1 HB.out)⟩)
     ·skip
      rintro ⟨gb127, gb128, gb129⟩ w10 ⟨hS_, h0_, h1_, h2_, h3_, h4_, h5_, h6_, h7_, h8_, h9_, h10_, h11_, h12_, h13_, h14_, h15_, h16_, h17_, h18_, h19_, h20_, h21_, h22_⟩
      have n0_ : Aside0 (w10.heap[gb125]? = some (.cells #[.int .i64 a0_0, .int .i64 a0_1, .int .i64 a0_2, .int .i64 a0_3, .int .i64 a0_4, .int .i64 a0_5, .int .i64 a0_6, .int .i64 a0_7] 36 (0, 0))) := ⟨h0_⟩
      have n1_ : Aside0 (w10.heap[gb127]? = some (.cells #[.int .i64 0, .int .i64 0] 23 (0, 0))) := ⟨h1_⟩
      have n2_ : Aside0 (w10.heap[gb128]? = some (.cells #[.int .i64 0, .int .i64 0] 23 (0, 0))) := ⟨h2_⟩
      have n3_ : Aside0 (w10.heap[gb129]? = some (.cells #[.int .i64 0, .int .i64 0] 23 (0, 0))) := ⟨h3_⟩
      have n4_ : Aside0 (w.heap.size ≤ gb127) := ⟨h4_⟩
      have n5_ : Aside0 (w.heap.size ≤ gb127) := ⟨h5_⟩
      have n6_ : Aside0 (gb125 ≠ gb127) := ⟨h6_⟩
      have n7_ : Aside0 (gb127 ≠ gb125) := ⟨h7_⟩
      have n8_ : Aside0 (gb128 ≠ gb127) := ⟨h8_⟩
      have n9_ : Aside0 (gb127 ≠ gb128) := ⟨h9_⟩
      have n10_ : Aside0 (gb129 ≠ gb127) := ⟨h10_⟩
      have n11_ : Aside0 (gb127 ≠ gb129) := ⟨h11_⟩
      have n12_ : Aside0 (w.heap.size ≤ gb128) := ⟨h12_⟩
      have n13_ : Aside0 (w.heap.size ≤ gb128) := ⟨h13_⟩
      have n14_ : Aside0 (gb125 ≠ gb128) := ⟨h14_⟩
      have n15_ : Aside0 (gb128 ≠ gb125) := ⟨h15_⟩
      have n16_ : Aside0 (gb129 ≠ gb128) := ⟨h16_⟩
      have n17_ : Aside0 (gb128 ≠ gb129) := ⟨h17_⟩
      have n18_ : Aside0 (w.heap.size ≤ gb129) := ⟨h18_⟩
      have n19_ : Aside0 (w.heap.size ≤ gb129) := ⟨h19_⟩
      have n20_ : Aside0 (gb125 ≠ gb129) := ⟨h20_⟩
      have n21_ : Aside0 (gb129 ≠ gb125) := ⟨h21_⟩
      have n22_ : Aside0 (Below w.heap.size w w10) := ⟨h22_⟩
      clear BK125
      clear HB
      clear h0_ h1_ h2_ h3_ h4_ h5_ h6_ h7_ h8_ h9_ h10_ h11_ h12_ h13_ h14_ h15_ h16_ h17_ h18_ h19_ h20_ h21_ h22_
      have BK125 := n0_
      have BK127 := n1_
      have BK128 := n2_
      have BK129 := n3_
      have GW127 := n4_
      have GE127 := n5_
      have NB125_127 := n6_
      have NB127_125 := n7_
      have NB128_127 := n8_
      have NB127_128 := n9_
      have NB129_127 := n10_
      have NB127_129 := n11_
      have GW128 := n12_
      have GE128 := n13_
      have NB125_128 := n14_
      have NB128_125 := n15_
      have NB129_128 := n16_
      have NB128_129 := n17_
      have GW129 := n18_
      have GE129 := n19_
      have NB125_129 := n20_
      have NB129_125 := n21_
      have HB := n22_
      clear n0_ n1_ n2_ n3_ n4_ n5_ n6_ n7_ n8_ n9_ n10_ n11_ n12_ n13_ n14_ n15_ n16_ n17_ n18_ n19_ n20_ n21_ n22_
      have hHeld : w10.cell? ⟨gb125, 0, none⟩ = some (.int .i64 a0_0) ∧ w10.cell? ⟨gb125, 1, none⟩ = some (.int .i64 a0_1) ∧ w10.cell? ⟨gb125, 2, none⟩ = some (.int .i64 a0_2) ∧ w10.cell? ⟨gb125, 3, none⟩ = some (.int .i64 a0_3) ∧ w10.cell? ⟨gb125, 4, none⟩ = some (.int .i64 a0_4) ∧ w10.cell? ⟨gb125, 5, none⟩ = some (.int .i64 a0_5) ∧ w10.cell? ⟨gb125, 6, none⟩ = some (.int .i64 a0_6) ∧ w10.cell? ⟨gb125, 7, none⟩ = some (.int .i64 a0_7) := hS_
      refine norm_ (a' := ?_) ?_ ?_
      rotate_left
      ·simp only [putAll, Act.put, List.setIfInBounds_toArray, List.set_cons_zero, List.set_cons_succ]
       rfl
      refine one_ (i := 8) (N := some 7) #[true, true, true, true, true, true, true, true, true, true, true, true, false, false, false, false] rfl rfl (one_of HT_.out (by kernel_rfl)) (by decide) (fun K hK => ?_)
      refine box_step ?hg (N := 7) ?hd (cs := #[.int .i64 0, .int .i64 0]) (t := 23) ?hr ?_; (case hd => rfl); (case hg => rfl); (case hr => first | (go_simp; done) | (go_simp; rfl))
      intro gb126 hg w11 hbox hb
      have n0_ := ak (blk_below (g := gb125) (o := .cells #[.int .i64 a0_0, .int .i64 a0_1, .int .i64 a0_2, .int .i64 a0_3, .int .i64 a0_4, .int .i64 a0_5, .int .i64 a0_6, .int .i64 a0_7] 36 (0, 0)) (by first | exact BK125.out | exact blk_drew BK125.out) hb)
      have n1_ := ak (blk_below (g := gb127) (o := .cells #[.int .i64 0, .int .i64 0] 23 (0, 0)) (by first | exact BK127.out | exact blk_drew BK127.out) hb)
      have n2_ := ak (blk_below (g := gb128) (o := .cells #[.int .i64 0, .int .i64 0] 23 (0, 0)) (by first | exact BK128.out | exact blk_drew BK128.out) hb)
      have n3_ := ak (blk_below (g := gb129) (o := .cells #[.int .i64 0, .int .i64 0] 23 (0, 0)) (by first | exact BK129.out | exact blk_drew BK129.out) hb)
      have n4_ := ak (below_step (by first | exact HB.out | exact below_drew1 HB.out) hb)
      have n5_ := ak (hbox)
      have n6_ := ak ((by rw [hg]; exact (below_size (by first | exact HB.out | exact below_drew1 HB.out)) : w.heap.size ≤ gb126))
      have n7_ := ak ((by rw [hg]; exact (below_size (by first | exact HB.out | exact below_drew1 HB.out)) : w.heap.size ≤ gb126))
      have n8_ := ak ((by rw [hg]; exact Nat.ne_of_lt (blk_lt (g := gb125) (o := .cells #[.int .i64 a0_0, .int .i64 a0_1, .int .i64 a0_2, .int .i64 a0_3, .int .i64 a0_4, .int .i64 a0_5, .int .i64 a0_6, .int .i64 a0_7] 36 (0, 0)) (by first | exact BK125.out | exact blk_drew BK125.out)) : gb125 ≠ gb126))
      have n9_ := ak ((by rw [hg]; exact Nat.ne_of_gt (blk_lt (g := gb125) (o := .cells #[.int .i64 a0_0, .int .i64 a0_1, .int .i64 a0_2, .int .i64 a0_3, .int .i64 a0_4, .int .i64 a0_5, .int .i64 a0_6, .int .i64 a0_7] 36 (0, 0)) (by first | exact BK125.out | exact blk_drew BK125.out)) : gb126 ≠ gb125))
      have n10_ := ak ((by rw [hg]; exact Nat.ne_of_lt (blk_lt (g := gb127) (o := .cells #[.int .i64 0, .int .i64 0] 23 (0, 0)) (by first | exact BK127.out | exact blk_drew BK127.out)) : gb127 ≠ gb126))
      have n11_ := ak ((by rw [hg]; exact Nat.ne_of_gt (blk_lt (g := gb127) (o := .cells #[.int .i64 0, .int .i64 0] 23 (0, 0)) (by first | exact BK127.out | exact blk_drew BK127.out)) : gb126 ≠ gb127))
      have n12_ := ak ((by rw [hg]; exact Nat.ne_of_lt (blk_lt (g := gb128) (o := .cells #[.int .i64 0, .int .i64 0] 23 (0, 0)) (by first | exact BK128.out | exact blk_drew BK128.out)) : gb128 ≠ gb126))
      have n13_ := ak ((by rw [hg]; exact Nat.ne_of_gt (blk_lt (g := gb128) (o := .cells #[.int .i64 0, .int .i64 0] 23 (0, 0)) (by first | exact BK128.out | exact blk_drew BK128.out)) : gb126 ≠ gb128))
      have n14_ := ak ((by rw [hg]; exact Nat.ne_of_lt (blk_lt (g := gb129) (o := .cells #[.int .i64 0, .int .i64 0] 23 (0, 0)) (by first | exact BK129.out | exact blk_drew BK129.out)) : gb129 ≠ gb126))
      have n15_ := ak ((by rw [hg]; exact Nat.ne_of_gt (blk_lt (g := gb129) (o := .cells #[.int .i64 0, .int .i64 0] 23 (0, 0)) (by first | exact BK129.out | exact blk_drew BK129.out)) : gb126 ≠ gb129))
      clear BK125
      clear BK127
      clear BK128
      clear BK129
      clear HB
      have BK125 := n0_
      have BK127 := n1_
      have BK128 := n2_
      have BK129 := n3_
      have HB := n4_
      have BK126 := n5_
      have GW126 := n6_
      have GE126 := n7_
      have NB125_126 := n8_
      have NB126_125 := n9_
      have NB127_126 := n10_
      have NB126_127 := n11_
      have NB128_126 := n12_
      have NB126_128 := n13_
      have NB129_126 := n14_
      have NB126_129 := n15_
      clear n0_ n1_ n2_ n3_ n4_ n5_ n6_ n7_ n8_ n9_ n10_ n11_ n12_ n13_ n14_ n15_
      clear hb hbox hg
      refine hK.out _ _ ⟨(blk_cell BK125.out 0).trans rfl, (blk_cell BK125.out 1).trans rfl, (blk_cell BK125.out 2).trans rfl, (blk_cell BK125.out 3).trans rfl, (blk_cell BK125.out 4).trans rfl, (blk_cell BK125.out 5).trans rfl, (blk_cell BK125.out 6).trans rfl, (blk_cell BK125.out 7).trans rfl⟩ (fun hHeld => ?_)
      clear hK K
      refine norm_ (a' := ?_) ?_ ?_
      rotate_left
      ·show Act.put _ (some 7) _ = _
       simp only [Act.put, List.setIfInBounds_toArray, List.set_cons_zero, List.set_cons_succ, i64_w, i32_w]
       rfl
      exact norm_ (by first | (simp only [putAll, Act.put, List.setIfInBounds_toArray, List.set_cons_zero, List.set_cons_succ]; done) | (simp only [putAll, Act.put, List.setIfInBounds_toArray, List.set_cons_zero, List.set_cons_succ]; rfl)) (hJ8_9_10_11 (gb126, gb127, gb128, gb129) _ ⟨hHeld, (by first | exact BK125.out | exact blk_drew BK125.out), (by first | exact BK126.out | exact blk_drew BK126.out), (by first | exact BK127.out | exact blk_drew BK127.out), (by first | exact BK128.out | exact blk_drew BK128.out), (by first | exact BK129.out | exact blk_drew BK129.out), GW126.out, GE126.out, NB125_126.out, NB126_125.out, NB127_126.out, NB126_127.out, NB128_126.out, NB126_128.out, NB129_126.out, NB126_129.out, GW127.out, GE127.out, NB125_127.out, NB127_125.out, NB128_127.out, NB127_128.out, NB129_127.out, NB127_129.out, GW128.out, GE128.out, NB125_128.out, NB128_125.out, NB129_128.out, NB128_129.out, GW129.out, GE129.out, NB125_129.out, NB129_125.out, (by first | exact HB.out | exact below_drew1 HB.out)⟩)
    ·skip
     rintro ⟨gb126, gb128, gb129⟩ w10 ⟨hS_, h0_, h1_, h2_, h3_, h4_, h5_, h6_, h7_, h8_, h9_, h10_, h11_, h12_, h13_, h14_, h15_, h16_, h17_, h18_, h19_, h20_, h21_, h22_⟩
     have n0_ : Aside0 (w10.heap[gb125]? = some (.cells #[.int .i64 a0_0, .int .i64 a0_1, .int .i64 a0_2, .int .i64 a0_3, .int .i64 a0_4, .int .i64 a0_5, .int .i64 a0_6, .int .i64 a0_7] 36 (0, 0))) := ⟨h0_⟩
     have n1_ : Aside0 (w10.heap[gb126]? = some (.cells #[.int .i64 0, .int .i64 0] 23 (0, 0))) := ⟨h1_⟩
     have n2_ : Aside0 (w10.heap[gb128]? = some (.cells #[.int .i64 0, .int .i64 0] 23 (0, 0))) := ⟨h2_⟩
     have n3_ : Aside0 (w10.heap[gb129]? = some (.cells #[.int .i64 0, .int .i64 0] 23 (0, 0))) := ⟨h3_⟩
     have n4_ : Aside0 (w.heap.size ≤ gb126) := ⟨h4_⟩
     have n5_ : Aside0 (w.heap.size ≤ gb126) := ⟨h5_⟩
     have n6_ : Aside0 (gb125 ≠ gb126) := ⟨h6_⟩
     have n7_ : Aside0 (gb126 ≠ gb125) := ⟨h7_⟩
     have n8_ : Aside0 (gb128 ≠ gb126) := ⟨h8_⟩
     have n9_ : Aside0 (gb126 ≠ gb128) := ⟨h9_⟩
     have n10_ : Aside0 (gb129 ≠ gb126) := ⟨h10_⟩
     have n11_ : Aside0 (gb126 ≠ gb129) := ⟨h11_⟩
     have n12_ : Aside0 (w.heap.size ≤ gb128) := ⟨h12_⟩
     have n13_ : Aside0 (w.heap.size ≤ gb128) := ⟨h13_⟩
     have n14_ : Aside0 (gb125 ≠ gb128) := ⟨h14_⟩
     have n15_ : Aside0 (gb128 ≠ gb125) := ⟨h15_⟩
     have n16_ : Aside0 (gb129 ≠ gb128) := ⟨h16_⟩
     have n17_ : Aside0 (gb128 ≠ gb129) := ⟨h17_⟩
     have n18_ : Aside0 (w.heap.size ≤ gb129) := ⟨h18_⟩
     have n19_ : Aside0 (w.heap.size ≤ gb129) := ⟨h19_⟩
     have n20_ : Aside0 (gb125 ≠ gb129) := ⟨h20_⟩
     have n21_ : Aside0 (gb129 ≠ gb125) := ⟨h21_⟩
     have n22_ : Aside0 (Below w.heap.size w w10) := ⟨h22_⟩
     clear BK125
     clear HB
     clear h0_ h1_ h2_ h3_ h4_ h5_ h6_ h7_ h8_ h9_ h10_ h11_ h12_ h13_ h14_ h15_ h16_ h17_ h18_ h19_ h20_ h21_ h22_
     have BK125 := n0_
     have BK126 := n1_
     have BK128 := n2_
     have BK129 := n3_
     have GW126 := n4_
     have GE126 := n5_
     have NB125_126 := n6_
     have NB126_125 := n7_
     have NB128_126 := n8_
     have NB126_128 := n9_
     have NB129_126 := n10_
     have NB126_129 := n11_
     have GW128 := n12_
     have GE128 := n13_
     have NB125_128 := n14_
     have NB128_125 := n15_
     have NB129_128 := n16_
     have NB128_129 := n17_
     have GW129 := n18_
     have GE129 := n19_
     have NB125_129 := n20_
     have NB129_125 := n21_
     have HB := n22_
     clear n0_ n1_ n2_ n3_ n4_ n5_ n6_ n7_ n8_ n9_ n10_ n11_ n12_ n13_ n14_ n15_ n16_ n17_ n18_ n19_ n20_ n21_ n22_
     have hHeld : w10.cell? ⟨gb125, 0, none⟩ = some (.int .i64 a0_0) ∧ w10.cell? ⟨gb125, 1, none⟩ = some (.int .i64 a0_1) ∧ w10.cell? ⟨gb125, 2, none⟩ = some (.int .i64 a0_2) ∧ w10.cell? ⟨gb125, 3, none⟩ = some (.int .i64 a0_3) ∧ w10.cell? ⟨gb125, 4, none⟩ = some (.int .i64 a0_4) ∧ w10.cell? ⟨gb125, 5, none⟩ = some (.int .i64 a0_5) ∧ w10.cell? ⟨gb125, 6, none⟩ = some (.int .i64 a0_6) ∧ w10.cell? ⟨gb125, 7, none⟩ = some (.int .i64 a0_7) := hS_
     refine norm_ (a' := ?_) ?_ ?_
     rotate_left
     ·simp only [putAll, Act.put, List.setIfInBounds_toArray, List.set_cons_zero, List.set_cons_succ]
      rfl
     refine one_ (i := 9) (N := some 8) #[true, true, true, true, true, true, true, true, true, true, true, true, false, false, false, false] rfl rfl (one_of HT_.out (by kernel_rfl)) (by decide) (fun K hK => ?_)
     refine box_step ?hg (N := 8) ?hd (cs := #[.int .i64 0, .int .i64 0]) (t := 23) ?hr ?_; (case hd => rfl); (case hg => rfl); (case hr => first | (go_simp; done) | (go_simp; rfl))
     intro gb127 hg w11 hbox hb
     have n0_ := ak (blk_below (g := gb125) (o := .cells #[.int .i64 a0_0, .int .i64 a0_1, .int .i64 a0_2, .int .i64 a0_3, .int .i64 a0_4, .int .i64 a0_5, .int .i64 a0_6, .int .i64 a0_7] 36 (0, 0)) (by first | exact BK125.out | exact blk_drew BK125.out) hb)
     have n1_ := ak (blk_below (g := gb126) (o := .cells #[.int .i64 0, .int .i64 0] 23 (0, 0)) (by first | exact BK126.out | exact blk_drew BK126.out) hb)
     have n2_ := ak (blk_below (g := gb128) (o := .cells #[.int .i64 0, .int .i64 0] 23 (0, 0)) (by first | exact BK128.out | exact blk_drew BK128.out) hb)
     have n3_ := ak (blk_below (g := gb129) (o := .cells #[.int .i64 0, .int .i64 0] 23 (0, 0)) (by first | exact BK129.out | exact blk_drew BK129.out) hb)
     have n4_ := ak (below_step (by first | exact HB.out | exact below_drew1 HB.out) hb)
     have n5_ := ak (hbox)
     have n6_ := ak ((by rw [hg]; exact (below_size (by first | exact HB.out | exact below_drew1 HB.out)) : w.heap.size ≤ gb127))
     have n7_ := ak ((by rw [hg]; exact (below_size (by first | exact HB.out | exact below_drew1 HB.out)) : w.heap.size ≤ gb127))
     have n8_ := ak ((by rw [hg]; exact Nat.ne_of_lt (blk_lt (g := gb125) (o := .cells #[.int .i64 a0_0, .int .i64 a0_1, .int .i64 a0_2, .int .i64 a0_3, .int .i64 a0_4, .int .i64 a0_5, .int .i64 a0_6, .int .i64 a0_7] 36 (0, 0)) (by first | exact BK125.out | exact blk_drew BK125.out)) : gb125 ≠ gb127))
     have n9_ := ak ((by rw [hg]; exact Nat.ne_of_gt (blk_lt (g := gb125) (o := .cells #[.int .i64 a0_0, .int .i64 a0_1, .int .i64 a0_2, .int .i64 a0_3, .int .i64 a0_4, .int .i64 a0_5, .int .i64 a0_6, .int .i64 a0_7] 36 (0, 0)) (by first | exact BK125.out | exact blk_drew BK125.out)) : gb127 ≠ gb125))
     have n10_ := ak ((by rw [hg]; exact Nat.ne_of_lt (blk_lt (g := gb126) (o := .cells #[.int .i64 0, .int .i64 0] 23 (0, 0)) (by first | exact BK126.out | exact blk_drew BK126.out)) : gb126 ≠ gb127))
     have n11_ := ak ((by rw [hg]; exact Nat.ne_of_gt (blk_lt (g := gb126) (o := .cells #[.int .i64 0, .int .i64 0] 23 (0, 0)) (by first | exact BK126.out | exact blk_drew BK126.out)) : gb127 ≠ gb126))
     have n12_ := ak ((by rw [hg]; exact Nat.ne_of_lt (blk_lt (g := gb128) (o := .cells #[.int .i64 0, .int .i64 0] 23 (0, 0)) (by first | exact BK128.out | exact blk_drew BK128.out)) : gb128 ≠ gb127))
     have n13_ := ak ((by rw [hg]; exact Nat.ne_of_gt (blk_lt (g := gb128) (o := .cells #[.int .i64 0, .int .i64 0] 23 (0, 0)) (by first | exact BK128.out | exact blk_drew BK128.out)) : gb127 ≠ gb128))
     have n14_ := ak ((by rw [hg]; exact Nat.ne_of_lt (blk_lt (g := gb129) (o := .cells #[.int .i64 0, .int .i64 0] 23 (0, 0)) (by first | exact BK129.out | exact blk_drew BK129.out)) : gb129 ≠ gb127))
     have n15_ := ak ((by rw [hg]; exact Nat.ne_of_gt (blk_lt (g := gb129) (o := .cells #[.int .i64 0, .int .i64 0] 23 (0, 0)) (by first | exact BK129.out | exact blk_drew BK129.out)) : gb127 ≠ gb129))
     clear BK125
     clear BK126
     clear BK128
     clear BK129
     clear HB
     have BK125 := n0_
     have BK126 := n1_
     have BK128 := n2_
     have BK129 := n3_
     have HB := n4_
     have BK127 := n5_
     have GW127 := n6_
     have GE127 := n7_
     have NB125_127 := n8_
     have NB127_125 := n9_
     have NB126_127 := n10_
     have NB127_126 := n11_
     have NB128_127 := n12_
     have NB127_128 := n13_
     have NB129_127 := n14_
     have NB127_129 := n15_
     clear n0_ n1_ n2_ n3_ n4_ n5_ n6_ n7_ n8_ n9_ n10_ n11_ n12_ n13_ n14_ n15_
     clear hb hbox hg
     refine hK.out _ _ ⟨(blk_cell BK125.out 0).trans rfl, (blk_cell BK125.out 1).trans rfl, (blk_cell BK125.out 2).trans rfl, (blk_cell BK125.out 3).trans rfl, (blk_cell BK125.out 4).trans rfl, (blk_cell BK125.out 5).trans rfl, (blk_cell BK125.out 6).trans rfl, (blk_cell BK125.out 7).trans rfl⟩ (fun hHeld => ?_)
     clear hK K
     refine norm_ (a' := ?_) ?_ ?_
     rotate_left
     ·show Act.put _ (some 8) _ = _
      simp only [Act.put, List.setIfInBounds_toArray, List.set_cons_zero, List.set_cons_succ, i64_w, i32_w]
      rfl
     exact norm_ (by first | (simp only [putAll, Act.put, List.setIfInBounds_toArray, List.set_cons_zero, List.set_cons_succ]; done) | (simp only [putAll, Act.put, List.setIfInBounds_toArray, List.set_cons_zero, List.set_cons_succ]; rfl)) (hJ8_9_10_11 (gb126, gb127, gb128, gb129) _ ⟨hHeld, (by first | exact BK125.out | exact blk_drew BK125.out), (by first | exact BK126.out | exact blk_drew BK126.out), (by first | exact BK127.out | exact blk_drew BK127.out), (by first | exact BK128.out | exact blk_drew BK128.out), (by first | exact BK129.out | exact blk_drew BK129.out), GW126.out, GE126.out, NB125_126.out, NB126_125.out, NB127_126.out, NB126_127.out, NB128_126.out, NB126_128.out, NB129_126.out, NB126_129.out, GW127.out, GE127.out, NB125_127.out, NB127_125.out, NB128_127.out, NB127_128.out, NB129_127.out, NB127_129.out, GW128.out, GE128.out, NB125_128.out, NB128_125.out, NB129_128.out, NB128_129.out, GW129.out, GE129.out, NB125_129.out, NB129_125.out, (by first | exact HB.out | exact below_drew1 HB.out)⟩)
   ·skip
    rintro ⟨gb126, gb127, gb129⟩ w10 ⟨hS_, h0_, h1_, h2_, h3_, h4_, h5_, h6_, h7_, h8_, h9_, h10_, h11_, h12_, h13_, h14_, h15_, h16_, h17_, h18_, h19_, h20_, h21_, h22_⟩
    have n0_ : Aside0 (w10.heap[gb125]? = some (.cells #[.int .i64 a0_0, .int .i64 a0_1, .int .i64 a0_2, .int .i64 a0_3, .int .i64 a0_4, .int .i64 a0_5, .int .i64 a0_6, .int .i64 a0_7] 36 (0, 0))) := ⟨h0_⟩
    have n1_ : Aside0 (w10.heap[gb126]? = some (.cells #[.int .i64 0, .int .i64 0] 23 (0, 0))) := ⟨h1_⟩
    have n2_ : Aside0 (w10.heap[gb127]? = some (.cells #[.int .i64 0, .int .i64 0] 23 (0, 0))) := ⟨h2_⟩
    have n3_ : Aside0 (w10.heap[gb129]? = some (.cells #[.int .i64 0, .int .i64 0] 23 (0, 0))) := ⟨h3_⟩
    have n4_ : Aside0 (w.heap.size ≤ gb126) := ⟨h4_⟩
    have n5_ : Aside0 (w.heap.size ≤ gb126) := ⟨h5_⟩
    have n6_ : Aside0 (gb125 ≠ gb126) := ⟨h6_⟩
    have n7_ : Aside0 (gb126 ≠ gb125) := ⟨h7_⟩
    have n8_ : Aside0 (gb127 ≠ gb126) := ⟨h8_⟩
    have n9_ : Aside0 (gb126 ≠ gb127) := ⟨h9_⟩
    have n10_ : Aside0 (gb129 ≠ gb126) := ⟨h10_⟩
    have n11_ : Aside0 (gb126 ≠ gb129) := ⟨h11_⟩
    have n12_ : Aside0 (w.heap.size ≤ gb127) := ⟨h12_⟩
    have n13_ : Aside0 (w.heap.size ≤ gb127) := ⟨h13_⟩
    have n14_ : Aside0 (gb125 ≠ gb127) := ⟨h14_⟩
    have n15_ : Aside0 (gb127 ≠ gb125) := ⟨h15_⟩
    have n16_ : Aside0 (gb129 ≠ gb127) := ⟨h16_⟩
    have n17_ : Aside0 (gb127 ≠ gb129) := ⟨h17_⟩
    have n18_ : Aside0 (w.heap.size ≤ gb129) := ⟨h18_⟩
    have n19_ : Aside0 (w.heap.size ≤ gb129) := ⟨h19_⟩
    have n20_ : Aside0 (gb125 ≠ gb129) := ⟨h20_⟩
    have n21_ : Aside0 (gb129 ≠ gb125) := ⟨h21_⟩
    have n22_ : Aside0 (Below w.heap.size w w10) := ⟨h22_⟩
    clear BK125
    clear HB
    clear h0_ h1_ h2_ h3_ h4_ h5_ h6_ h7_ h8_ h9_ h10_ h11_ h12_ h13_ h14_ h15_ h16_ h17_ h18_ h19_ h20_ h21_ h22_
    have BK125 := n0_
    have BK126 := n1_
    have BK127 := n2_
    have BK129 := n3_
    have GW126 := n4_
    have GE126 := n5_
    have NB125_126 := n6_
    have NB126_125 := n7_
    have NB127_126 := n8_
    have NB126_127 := n9_
    have NB129_126 := n10_
    have NB126_129 := n11_
    have GW127 := n12_
    have GE127 := n13_
    have NB125_127 := n14_
    have NB127_125 := n15_
    have NB129_127 := n16_
    have NB127_129 := n17_
    have GW129 := n18_
    have GE129 := n19_
    have NB125_129 := n20_
    have NB129_125 := n21_
    have HB := n22_
    clear n0_ n1_ n2_ n3_ n4_ n5_ n6_ n7_ n8_ n9_ n10_ n11_ n12_ n13_ n14_ n15_ n16_ n17_ n18_ n19_ n20_ n21_ n22_
    have hHeld : w10.cell? ⟨gb125, 0, none⟩ = some (.int .i64 a0_0) ∧ w10.cell? ⟨gb125, 1, none⟩ = some (.int .i64 a0_1) ∧ w10.cell? ⟨gb125, 2, none⟩ = some (.int .i64 a0_2) ∧ w10.cell? ⟨gb125, 3, none⟩ = some (.int .i64 a0_3) ∧ w10.cell? ⟨gb125, 4, none⟩ = some (.int .i64 a0_4) ∧ w10.cell? ⟨gb125, 5, none⟩ = some (.int .i64 a0_5) ∧ w10.cell? ⟨gb125, 6, none⟩ = some (.int .i64 a0_6) ∧ w10.cell? ⟨gb125, 7, none⟩ = some (.int .i64 a0_7) := hS_
    refine norm_ (a' := ?_) ?_ ?_
    rotate_left
    ·simp only [putAll, Act.put, List.setIfInBounds_toArray, List.set_cons_zero, List.set_cons_succ]
     rfl
    refine one_ (i := 10) (N := some 9) #[true, true, true, true, true, true, true, true, true, true, true, true, false, false, false, false] rfl rfl (one_of HT_.out (by kernel_rfl)) (by decide) (fun K hK => ?_)
    refine box_step ?hg (N := 9) ?hd (cs := #[.int .i64 0, .int .i64 0]) (t := 23) ?hr ?_; (case hd => rfl); (case hg => rfl); (case hr => first | (go_simp; done) | (go_simp; rfl))
    intro gb128 hg w11 hbox hb
    have n0_ := ak (blk_below (g := gb125) (o := .cells #[.int .i64 a0_0, .int .i64 a0_1, .int .i64 a0_2, .int .i64 a0_3, .int .i64 a0_4, .int .i64 a0_5, .int .i64 a0_6, .int .i64 a0_7] 36 (0, 0)) (by first | exact BK125.out | exact blk_drew BK125.out) hb)
    have n1_ := ak (blk_below (g := gb126) (o := .cells #[.int .i64 0, .int .i64 0] 23 (0, 0)) (by first | exact BK126.out | exact blk_drew BK126.out) hb)
    have n2_ := ak (blk_below (g := gb127) (o := .cells #[.int .i64 0, .int .i64 0] 23 (0, 0)) (by first | exact BK127.out | exact blk_drew BK127.out) hb)
    have n3_ := ak (blk_below (g := gb129) (o := .cells #[.int .i64 0, .int .i64 0] 23 (0, 0)) (by first | exact BK129.out | exact blk_drew BK129.out) hb)
    have n4_ := ak (below_step (by first | exact HB.out | exact below_drew1 HB.out) hb)
    have n5_ := ak (hbox)
    have n6_ := ak ((by rw [hg]; exact (below_size (by first | exact HB.out | exact below_drew1 HB.out)) : w.heap.size ≤ gb128))
    have n7_ := ak ((by rw [hg]; exact (below_size (by first | exact HB.out | exact below_drew1 HB.out)) : w.heap.size ≤ gb128))
    have n8_ := ak ((by rw [hg]; exact Nat.ne_of_lt (blk_lt (g := gb125) (o := .cells #[.int .i64 a0_0, .int .i64 a0_1, .int .i64 a0_2, .int .i64 a0_3, .int .i64 a0_4, .int .i64 a0_5, .int .i64 a0_6, .int .i64 a0_7] 36 (0, 0)) (by first | exact BK125.out | exact blk_drew BK125.out)) : gb125 ≠ gb128))
    have n9_ := ak ((by rw [hg]; exact Nat.ne_of_gt (blk_lt (g := gb125) (o := .cells #[.int .i64 a0_0, .int .i64 a0_1, .int .i64 a0_2, .int .i64 a0_3, .int .i64 a0_4, .int .i64 a0_5, .int .i64 a0_6, .int .i64 a0_7] 36 (0, 0)) (by first | exact BK125.out | exact blk_drew BK125.out)) : gb128 ≠ gb125))
    have n10_ := ak ((by rw [hg]; exact Nat.ne_of_lt (blk_lt (g := gb126) (o := .cells #[.int .i64 0, .int .i64 0] 23 (0, 0)) (by first | exact BK126.out | exact blk_drew BK126.out)) : gb126 ≠ gb128))
    have n11_ := ak ((by rw [hg]; exact Nat.ne_of_gt (blk_lt (g := gb126) (o := .cells #[.int .i64 0, .int .i64 0] 23 (0, 0)) (by first | exact BK126.out | exact blk_drew BK126.out)) : gb128 ≠ gb126))
    have n12_ := ak ((by rw [hg]; exact Nat.ne_of_lt (blk_lt (g := gb127) (o := .cells #[.int .i64 0, .int .i64 0] 23 (0, 0)) (by first | exact BK127.out | exact blk_drew BK127.out)) : gb127 ≠ gb128))
    have n13_ := ak ((by rw [hg]; exact Nat.ne_of_gt (blk_lt (g := gb127) (o := .cells #[.int .i64 0, .int .i64 0] 23 (0, 0)) (by first | exact BK127.out | exact blk_drew BK127.out)) : gb128 ≠ gb127))
    have n14_ := ak ((by rw [hg]; exact Nat.ne_of_lt (blk_lt (g := gb129) (o := .cells #[.int .i64 0, .int .i64 0] 23 (0, 0)) (by first | exact BK129.out | exact blk_drew BK129.out)) : gb129 ≠ gb128))
    have n15_ := ak ((by rw [hg]; exact Nat.ne_of_gt (blk_lt (g := gb129) (o := .cells #[.int .i64 0, .int .i64 0] 23 (0, 0)) (by first | exact BK129.out | exact blk_drew BK129.out)) : gb128 ≠ gb129))
    clear BK125
    clear BK126
    clear BK127
    clear BK129
    clear HB
    have BK125 := n0_
    have BK126 := n1_
    have BK127 := n2_
    have BK129 := n3_
    have HB := n4_
    have BK128 := n5_
    have GW128 := n6_
    have GE128 := n7_
    have NB125_128 := n8_
    have NB128_125 := n9_
    have NB126_128 := n10_
    have NB128_126 := n11_
    have NB127_128 := n12_
    have NB128_127 := n13_
    have NB129_128 := n14_
    have NB128_129 := n15_
    clear n0_ n1_ n2_ n3_ n4_ n5_ n6_ n7_ n8_ n9_ n10_ n11_ n12_ n13_ n14_ n15_
    clear hb hbox hg
    refine hK.out _ _ ⟨(blk_cell BK125.out 0).trans rfl, (blk_cell BK125.out 1).trans rfl, (blk_cell BK125.out 2).trans rfl, (blk_cell BK125.out 3).trans rfl, (blk_cell BK125.out 4).trans rfl, (blk_cell BK125.out 5).trans rfl, (blk_cell BK125.out 6).trans rfl, (blk_cell BK125.out 7).trans rfl⟩ (fun hHeld => ?_)
    clear hK K
    refine norm_ (a' := ?_) ?_ ?_
    rotate_left
    ·show Act.put _ (some 9) _ = _
     simp only [Act.put, List.setIfInBounds_toArray, List.set_cons_zero, List.set_cons_succ, i64_w, i32_w]
     rfl
    exact norm_ (by first | (simp only [putAll, Act.put, List.setIfInBounds_toArray, List.set_cons_zero, List.set_cons_succ]; done) | (simp only [putAll, Act.put, List.setIfInBounds_toArray, List.set_cons_zero, List.set_cons_succ]; rfl)) (hJ8_9_10_11 (gb126, gb127, gb128, gb129) _ ⟨hHeld, (by first | exact BK125.out | exact blk_drew BK125.out), (by first | exact BK126.out | exact blk_drew BK126.out), (by first | exact BK127.out | exact blk_drew BK127.out), (by first | exact BK128.out | exact blk_drew BK128.out), (by first | exact BK129.out | exact blk_drew BK129.out), GW126.out, GE126.out, NB125_126.out, NB126_125.out, NB127_126.out, NB126_127.out, NB128_126.out, NB126_128.out, NB129_126.out, NB126_129.out, GW127.out, GE127.out, NB125_127.out, NB127_125.out, NB128_127.out, NB127_128.out, NB129_127.out, NB127_129.out, GW128.out, GE128.out, NB125_128.out, NB128_125.out, NB129_128.out, NB128_129.out, GW129.out, GE129.out, NB125_129.out, NB129_125.out, (by first | exact HB.out | exact below_drew1 HB.out)⟩)
  ·skip
   rintro ⟨gb126, gb127, gb128⟩ w10 ⟨hS_, h0_, h1_, h2_, h3_, h4_, h5_, h6_, h7_, h8_, h9_, h10_, h11_, h12_, h13_, h14_, h15_, h16_, h17_, h18_, h19_, h20_, h21_, h22_⟩
   have n0_ : Aside0 (w10.heap[gb125]? = some (.cells #[.int .i64 a0_0, .int .i64 a0_1, .int .i64 a0_2, .int .i64 a0_3, .int .i64 a0_4, .int .i64 a0_5, .int .i64 a0_6, .int .i64 a0_7] 36 (0, 0))) := ⟨h0_⟩
   have n1_ : Aside0 (w10.heap[gb126]? = some (.cells #[.int .i64 0, .int .i64 0] 23 (0, 0))) := ⟨h1_⟩
   have n2_ : Aside0 (w10.heap[gb127]? = some (.cells #[.int .i64 0, .int .i64 0] 23 (0, 0))) := ⟨h2_⟩
   have n3_ : Aside0 (w10.heap[gb128]? = some (.cells #[.int .i64 0, .int .i64 0] 23 (0, 0))) := ⟨h3_⟩
   have n4_ : Aside0 (w.heap.size ≤ gb126) := ⟨h4_⟩
   have n5_ : Aside0 (w.heap.size ≤ gb126) := ⟨h5_⟩
   have n6_ : Aside0 (gb125 ≠ gb126) := ⟨h6_⟩
   have n7_ : Aside0 (gb126 ≠ gb125) := ⟨h7_⟩
   have n8_ : Aside0 (gb127 ≠ gb126) := ⟨h8_⟩
   have n9_ : Aside0 (gb126 ≠ gb127) := ⟨h9_⟩
   have n10_ : Aside0 (gb128 ≠ gb126) := ⟨h10_⟩
   have n11_ : Aside0 (gb126 ≠ gb128) := ⟨h11_⟩
   have n12_ : Aside0 (w.heap.size ≤ gb127) := ⟨h12_⟩
   have n13_ : Aside0 (w.heap.size ≤ gb127) := ⟨h13_⟩
   have n14_ : Aside0 (gb125 ≠ gb127) := ⟨h14_⟩
   have n15_ : Aside0 (gb127 ≠ gb125) := ⟨h15_⟩
   have n16_ : Aside0 (gb128 ≠ gb127) := ⟨h16_⟩
   have n17_ : Aside0 (gb127 ≠ gb128) := ⟨h17_⟩
   have n18_ : Aside0 (w.heap.size ≤ gb128) := ⟨h18_⟩
   have n19_ : Aside0 (w.heap.size ≤ gb128) := ⟨h19_⟩
   have n20_ : Aside0 (gb125 ≠ gb128) := ⟨h20_⟩
   have n21_ : Aside0 (gb128 ≠ gb125) := ⟨h21_⟩
   have n22_ : Aside0 (Below w.heap.size w w10) := ⟨h22_⟩
   clear BK125
   clear HB
   clear h0_ h1_ h2_ h3_ h4_ h5_ h6_ h7_ h8_ h9_ h10_ h11_ h12_ h13_ h14_ h15_ h16_ h17_ h18_ h19_ h20_ h21_ h22_
   have BK125 := n0_
   have BK126 := n1_
   have BK127 := n2_
   have BK128 := n3_
   have GW126 := n4_
   have GE126 := n5_
   have NB125_126 := n6_
   have NB126_125 := n7_
   have NB127_126 := n8_
   have NB126_127 := n9_
   have NB128_126 := n10_
   have NB126_128 := n11_
   have GW127 := n12_
   have GE127 := n13_
   have NB125_127 := n14_
   have NB127_125 := n15_
   have NB128_127 := n16_
   have NB127_128 := n17_
   have GW128 := n18_
   have GE128 := n19_
   have NB125_128 := n20_
   have NB128_125 := n21_
   have HB := n22_
   clear n0_ n1_ n2_ n3_ n4_ n5_ n6_ n7_ n8_ n9_ n10_ n11_ n12_ n13_ n14_ n15_ n16_ n17_ n18_ n19_ n20_ n21_ n22_
   have hHeld : w10.cell? ⟨gb125, 0, none⟩ = some (.int .i64 a0_0) ∧ w10.cell? ⟨gb125, 1, none⟩ = some (.int .i64 a0_1) ∧ w10.cell? ⟨gb125, 2, none⟩ = some (.int .i64 a0_2) ∧ w10.cell? ⟨gb125, 3, none⟩ = some (.int .i64 a0_3) ∧ w10.cell? ⟨gb125, 4, none⟩ = some (.int .i64 a0_4) ∧ w10.cell? ⟨gb125, 5, none⟩ = some (.int .i64 a0_5) ∧ w10.cell? ⟨gb125, 6, none⟩ = some (.int .i64 a0_6) ∧ w10.cell? ⟨gb125, 7, none⟩ = some (.int .i64 a0_7) := hS_
   refine norm_ (a' := ?_) ?_ ?_
   rotate_left
   ·simp only [putAll, Act.put, List.setIfInBounds_toArray, List.set_cons_zero, List.set_cons_succ]
    rfl
   refine one_ (i := 11) (N := some 10) #[true, true, true, true, true, true, true, true, true, true, true, true, false, false, false, false] rfl rfl (one_of HT_.out (by kernel_rfl)) (by decide) (fun K hK => ?_)
   refine box_step ?hg (N := 10) ?hd (cs := #[.int .i64 0, .int .i64 0]) (t := 23) ?hr ?_; (case hd => rfl); (case hg => rfl); (case hr => first | (go_simp; done) | (go_simp; rfl))
   intro gb129 hg w11 hbox hb
   have n0_ := ak (blk_below (g := gb125) (o := .cells #[.int .i64 a0_0, .int .i64 a0_1, .int .i64 a0_2, .int .i64 a0_3, .int .i64 a0_4, .int .i64 a0_5, .int .i64 a0_6, .int .i64 a0_7] 36 (0, 0)) (by first | exact BK125.out | exact blk_drew BK125.out) hb)
   have n1_ := ak (blk_below (g := gb126) (o := .cells #[.int .i64 0, .int .i64 0] 23 (0, 0)) (by first | exact BK126.out | exact blk_drew BK126.out) hb)
   have n2_ := ak (blk_below (g := gb127) (o := .cells #[.int .i64 0, .int .i64 0] 23 (0, 0)) (by first | exact BK127.out | exact blk_drew BK127.out) hb)
   have n3_ := ak (blk_below (g := gb128) (o := .cells #[.int .i64 0, .int .i64 0] 23 (0, 0)) (by first | exact BK128.out | exact blk_drew BK128.out) hb)
   have n4_ := ak (below_step (by first | exact HB.out | exact below_drew1 HB.out) hb)
   have n5_ := ak (hbox)
   have n6_ := ak ((by rw [hg]; exact (below_size (by first | exact HB.out | exact below_drew1 HB.out)) : w.heap.size ≤ gb129))
   have n7_ := ak ((by rw [hg]; exact (below_size (by first | exact HB.out | exact below_drew1 HB.out)) : w.heap.size ≤ gb129))
   have n8_ := ak ((by rw [hg]; exact Nat.ne_of_lt (blk_lt (g := gb125) (o := .cells #[.int .i64 a0_0, .int .i64 a0_1, .int .i64 a0_2, .int .i64 a0_3, .int .i64 a0_4, .int .i64 a0_5, .int .i64 a0_6, .int .i64 a0_7] 36 (0, 0)) (by first | exact BK125.out | exact blk_drew BK125.out)) : gb125 ≠ gb129))
   have n9_ := ak ((by rw [hg]; exact Nat.ne_of_gt (blk_lt (g := gb125) (o := .cells #[.int .i64 a0_0, .int .i64 a0_1, .int .i64 a0_2, .int .i64 a0_3, .int .i64 a0_4, .int .i64 a0_5, .int .i64 a0_6, .int .i64 a0_7] 36 (0, 0)) (by first | exact BK125.out | exact blk_drew BK125.out)) : gb129 ≠ gb125))
   have n10_ := ak ((by rw [hg]; exact Nat.ne_of_lt (blk_lt (g := gb126) (o := .cells #[.int .i64 0, .int .i64 0] 23 (0, 0)) (by first | exact BK126.out | exact blk_drew BK126.out)) : gb126 ≠ gb129))
   have n11_ := ak ((by rw [hg]; exact Nat.ne_of_gt (blk_lt (g := gb126) (o := .cells #[.int .i64 0, .int .i64 0] 23 (0, 0)) (by first | exact BK126.out | exact blk_drew BK126.out)) : gb129 ≠ gb126))
   have n12_ := ak ((by rw [hg]; exact Nat.ne_of_lt (blk_lt (g := gb127) (o := .cells #[.int .i64 0, .int .i64 0] 23 (0, 0)) (by first | exact BK127.out | exact blk_drew BK127.out)) : gb127 ≠ gb129))
   have n13_ := ak ((by rw [hg]; exact Nat.ne_of_gt (blk_lt (g := gb127) (o := .cells #[.int .i64 0, .int .i64 0] 23 (0, 0)) (by first | exact BK127.out | exact blk_drew BK127.out)) : gb129 ≠ gb127))
   have n14_ := ak ((by rw [hg]; exact Nat.ne_of_lt (blk_lt (g := gb128) (o := .cells #[.int .i64 0, .int .i64 0] 23 (0, 0)) (by first | exact BK128.out | exact blk_drew BK128.out)) : gb128 ≠ gb129))
   have n15_ := ak ((by rw [hg]; exact Nat.ne_of_gt (blk_lt (g := gb128) (o := .cells #[.int .i64 0, .int .i64 0] 23 (0, 0)) (by first | exact BK128.out | exact blk_drew BK128.out)) : gb129 ≠ gb128))
   clear BK125
   clear BK126
   clear BK127
   clear BK128
   clear HB
   have BK125 := n0_
   have BK126 := n1_
   have BK127 := n2_
   have BK128 := n3_
   have HB := n4_
   have BK129 := n5_
   have GW129 := n6_
   have GE129 := n7_
   have NB125_129 := n8_
   have NB129_125 := n9_
   have NB126_129 := n10_
   have NB129_126 := n11_
   have NB127_129 := n12_
   have NB129_127 := n13_
   have NB128_129 := n14_
   have NB129_128 := n15_
   clear n0_ n1_ n2_ n3_ n4_ n5_ n6_ n7_ n8_ n9_ n10_ n11_ n12_ n13_ n14_ n15_
   clear hb hbox hg
   refine hK.out _ _ ⟨(blk_cell BK125.out 0).trans rfl, (blk_cell BK125.out 1).trans rfl, (blk_cell BK125.out 2).trans rfl, (blk_cell BK125.out 3).trans rfl, (blk_cell BK125.out 4).trans rfl, (blk_cell BK125.out 5).trans rfl, (blk_cell BK125.out 6).trans rfl, (blk_cell BK125.out 7).trans rfl⟩ (fun hHeld => ?_)
   clear hK K
   refine norm_ (a' := ?_) ?_ ?_
   rotate_left
   ·show Act.put _ (some 10) _ = _
    simp only [Act.put, List.setIfInBounds_toArray, List.set_cons_zero, List.set_cons_succ, i64_w, i32_w]
    rfl
   exact norm_ (by first | (simp only [putAll, Act.put, List.setIfInBounds_toArray, List.set_cons_zero, List.set_cons_succ]; done) | (simp only [putAll, Act.put, List.setIfInBounds_toArray, List.set_cons_zero, List.set_cons_succ]; rfl)) (hJ8_9_10_11 (gb126, gb127, gb128, gb129) _ ⟨hHeld, (by first | exact BK125.out | exact blk_drew BK125.out), (by first | exact BK126.out | exact blk_drew BK126.out), (by first | exact BK127.out | exact blk_drew BK127.out), (by first | exact BK128.out | exact blk_drew BK128.out), (by first | exact BK129.out | exact blk_drew BK129.out), GW126.out, GE126.out, NB125_126.out, NB126_125.out, NB127_126.out, NB126_127.out, NB128_126.out, NB126_128.out, NB129_126.out, NB126_129.out, GW127.out, GE127.out, NB125_127.out, NB127_125.out, NB128_127.out, NB127_128.out, NB129_127.out, NB127_129.out, GW128.out, GE128.out, NB125_128.out, NB128_125.out, NB129_128.out, NB128_129.out, GW129.out, GE129.out, NB125_129.out, NB129_125.out, (by first | exact HB.out | exact below_drew1 HB.out)⟩)
 rintro ⟨gb126, gb127, gb128, gb129⟩ w11 ⟨hS_, h0_, h1_, h2_, h3_, h4_, h5_, h6_, h7_, h8_, h9_, h10_, h11_, h12_, h13_, h14_, h15_, h16_, h17_, h18_, h19_, h20_, h21_, h22_, h23_, h24_, h25_, h26_, h27_, h28_, h29_, h30_, h31_, h32_, h33_⟩
 have n0_ : Aside0 (w11.heap[gb125]? = some (.cells #[.int .i64 a0_0, .int .i64 a0_1, .int .i64 a0_2, .int .i64 a0_3, .int .i64 a0_4, .int .i64 a0_5, .int .i64 a0_6, .int .i64 a0_7] 36 (0, 0))) := ⟨h0_⟩
 have n1_ : Aside0 (w11.heap[gb126]? = some (.cells #[.int .i64 0, .int .i64 0] 23 (0, 0))) := ⟨h1_⟩
 have n2_ : Aside0 (w11.heap[gb127]? = some (.cells #[.int .i64 0, .int .i64 0] 23 (0, 0))) := ⟨h2_⟩
 have n3_ : Aside0 (w11.heap[gb128]? = some (.cells #[.int .i64 0, .int .i64 0] 23 (0, 0))) := ⟨h3_⟩
 have n4_ : Aside0 (w11.heap[gb129]? = some (.cells #[.int .i64 0, .int .i64 0] 23 (0, 0))) := ⟨h4_⟩
 have n5_ : Aside0 (w.heap.size ≤ gb126) := ⟨h5_⟩
 have n6_ : Aside0 (w.heap.size ≤ gb126) := ⟨h6_⟩
 have n7_ : Aside0 (gb125 ≠ gb126) := ⟨h7_⟩
 have n8_ : Aside0 (gb126 ≠ gb125) := ⟨h8_⟩
 have n9_ : Aside0 (gb127 ≠ gb126) := ⟨h9_⟩
 have n10_ : Aside0 (gb126 ≠ gb127) := ⟨h10_⟩
 have n11_ : Aside0 (gb128 ≠ gb126) := ⟨h11_⟩
 have n12_ : Aside0 (gb126 ≠ gb128) := ⟨h12_⟩
 have n13_ : Aside0 (gb129 ≠ gb126) := ⟨h13_⟩
 have n14_ : Aside0 (gb126 ≠ gb129) := ⟨h14_⟩
 have n15_ : Aside0 (w.heap.size ≤ gb127) := ⟨h15_⟩
 have n16_ : Aside0 (w.heap.size ≤ gb127) := ⟨h16_⟩
 have n17_ : Aside0 (gb125 ≠ gb127) := ⟨h17_⟩
 have n18_ : Aside0 (gb127 ≠ gb125) := ⟨h18_⟩
 have n19_ : Aside0 (gb128 ≠ gb127) := ⟨h19_⟩
 have n20_ : Aside0 (gb127 ≠ gb128) := ⟨h20_⟩
 have n21_ : Aside0 (gb129 ≠ gb127) := ⟨h21_⟩
 have n22_ : Aside0 (gb127 ≠ gb129) := ⟨h22_⟩
 have n23_ : Aside0 (w.heap.size ≤ gb128) := ⟨h23_⟩
 have n24_ : Aside0 (w.heap.size ≤ gb128) := ⟨h24_⟩
 have n25_ : Aside0 (gb125 ≠ gb128) := ⟨h25_⟩
 have n26_ : Aside0 (gb128 ≠ gb125) := ⟨h26_⟩
 have n27_ : Aside0 (gb129 ≠ gb128) := ⟨h27_⟩
 have n28_ : Aside0 (gb128 ≠ gb129) := ⟨h28_⟩
 have n29_ : Aside0 (w.heap.size ≤ gb129) := ⟨h29_⟩
 have n30_ : Aside0 (w.heap.size ≤ gb129) := ⟨h30_⟩
 have n31_ : Aside0 (gb125 ≠ gb129) := ⟨h31_⟩
 have n32_ : Aside0 (gb129 ≠ gb125) := ⟨h32_⟩
 have n33_ : Aside0 (Below w.heap.size w w11) := ⟨h33_⟩
 clear BK125
 clear HB
 clear h0_ h1_ h2_ h3_ h4_ h5_ h6_ h7_ h8_ h9_ h10_ h11_ h12_ h13_ h14_ h15_ h16_ h17_ h18_ h19_ h20_ h21_ h22_ h23_ h24_ h25_ h26_ h27_ h28_ h29_ h30_ h31_ h32_ h33_
 have BK125 := n0_
 have BK126 := n1_
 have BK127 := n2_
 have BK128 := n3_
 have BK129 := n4_
 have GW126 := n5_
 have GE126 := n6_
 have NB125_126 := n7_
 have NB126_125 := n8_
 have NB127_126 := n9_
 have NB126_127 := n10_
 have NB128_126 := n11_
 have NB126_128 := n12_
 have NB129_126 := n13_
 have NB126_129 := n14_
 have GW127 := n15_
 have GE127 := n16_
 have NB125_127 := n17_
 have NB127_125 := n18_
 have NB128_127 := n19_
 have NB127_128 := n20_
 have NB129_127 := n21_
 have NB127_129 := n22_
 have GW128 := n23_
 have GE128 := n24_
 have NB125_128 := n25_
 have NB128_125 := n26_
 have NB129_128 := n27_
 have NB128_129 := n28_
 have GW129 := n29_
 have GE129 := n30_
 have NB125_129 := n31_
 have NB129_125 := n32_
 have HB := n33_
 clear n0_ n1_ n2_ n3_ n4_ n5_ n6_ n7_ n8_ n9_ n10_ n11_ n12_ n13_ n14_ n15_ n16_ n17_ n18_ n19_ n20_ n21_ n22_ n23_ n24_ n25_ n26_ n27_ n28_ n29_ n30_ n31_ n32_ n33_
 have hHeld : w11.cell? ⟨gb125, 0, none⟩ = some (.int .i64 a0_0) ∧ w11.cell? ⟨gb125, 1, none⟩ = some (.int .i64 a0_1) ∧ w11.cell? ⟨gb125, 2, none⟩ = some (.int .i64 a0_2) ∧ w11.cell? ⟨gb125, 3, none⟩ = some (.int .i64 a0_3) ∧ w11.cell? ⟨gb125, 4, none⟩ = some (.int .i64 a0_4) ∧ w11.cell? ⟨gb125, 5, none⟩ = some (.int .i64 a0_5) ∧ w11.cell? ⟨gb125, 6, none⟩ = some (.int .i64 a0_6) ∧ w11.cell? ⟨gb125, 7, none⟩ = some (.int .i64 a0_7) := hS_
 refine norm_ (a' := ?_) ?_ ?_
 rotate_left
 ·simp only [putAll, Act.put, List.setIfInBounds_toArray, List.set_cons_zero, List.set_cons_succ]
  rfl
 refine one_ (i := 12) (N := none) #[true, true, true, true, true, true, true, true, true, true, true, true, true, false, false, false] rfl rfl (one_of HT_.out (by kernel_rfl)) (by decide) (fun K hK => ?_)
 have hs12 : w11.cell? ⟨gb126, 0, none⟩ = some (.int .i64 0) := (blk_cell BK126.out 0).trans rfl
 have hfs12 := blk_frozen BK126.out 0
 have hns12_0 := NB125_126.out
 have hns12_2 := NB127_126.out
 have hns12_3 := NB128_126.out
 have hns12_4 := NB129_126.out
 have hms12_0 := NB126_125.out
 have hms12_2 := NB126_127.out
 have hms12_3 := NB126_128.out
 have hms12_4 := NB126_129.out
 have hs13 : w11.cell? ⟨gb126, 1, none⟩ = some (.int .i64 0) := (blk_cell BK126.out 1).trans rfl
 have hfs13 := blk_frozen BK126.out 1
 have hns13_0 := NB125_126.out
 have hns13_2 := NB127_126.out
 have hns13_3 := NB128_126.out
 have hns13_4 := NB129_126.out
 have hms13_0 := NB126_125.out
 have hms13_2 := NB126_127.out
 have hms13_3 := NB126_128.out
 have hms13_4 := NB126_129.out
 refine skip_ (w1 := ?_) (by rfl) rfl ?_ ?_
 rotate_left
 ·go_simp
  rfl
 refine hK.out _ _ ⟨((cell_far (p := ⟨gb126, _, none⟩) NB125_126.out _).trans (((cell_far (p := ⟨gb126, _, none⟩) NB125_126.out _).trans (hHeld.1)))), ((cell_far (p := ⟨gb126, _, none⟩) NB125_126.out _).trans (((cell_far (p := ⟨gb126, _, none⟩) NB125_126.out _).trans (hHeld.2.1)))), ((cell_far (p := ⟨gb126, _, none⟩) NB125_126.out _).trans (((cell_far (p := ⟨gb126, _, none⟩) NB125_126.out _).trans (hHeld.2.2.1)))), ((cell_far (p := ⟨gb126, _, none⟩) NB125_126.out _).trans (((cell_far (p := ⟨gb126, _, none⟩) NB125_126.out _).trans (hHeld.2.2.2.1)))), ((cell_far (p := ⟨gb126, _, none⟩) NB125_126.out _).trans (((cell_far (p := ⟨gb126, _, none⟩) NB125_126.out _).trans (hHeld.2.2.2.2.1)))), ((cell_far (p := ⟨gb126, _, none⟩) NB125_126.out _).trans (((cell_far (p := ⟨gb126, _, none⟩) NB125_126.out _).trans (hHeld.2.2.2.2.2.1)))), ((cell_far (p := ⟨gb126, _, none⟩) NB125_126.out _).trans (((cell_far (p := ⟨gb126, _, none⟩) NB125_126.out _).trans (hHeld.2.2.2.2.2.2.1)))), ((cell_far (p := ⟨gb126, _, none⟩) NB125_126.out _).trans (((cell_far (p := ⟨gb126, _, none⟩) NB125_126.out _).trans (hHeld.2.2.2.2.2.2.2))))⟩ (fun hHeld => ?_)
 clear hK K
 refine one_ (i := 13) (N := none) #[true, true, true, true, true, true, true, true, true, true, true, true, true, true, false, false] rfl rfl (one_of HT_.out (by kernel_rfl)) (by decide) (fun K hK => ?_)
 have hs14 : w11.cell? ⟨gb127, 0, none⟩ = some (.int .i64 0) := (blk_cell BK127.out 0).trans rfl
 have hfs14 := blk_frozen BK127.out 0
 have hns14_0 := NB125_127.out
 have hns14_1 := NB126_127.out
 have hns14_3 := NB128_127.out
 have hns14_4 := NB129_127.out
 have hms14_0 := NB127_125.out
 have hms14_1 := NB127_126.out
 have hms14_3 := NB127_128.out
 have hms14_4 := NB127_129.out
 have hs15 : w11.cell? ⟨gb127, 1, none⟩ = some (.int .i64 0) := (blk_cell BK127.out 1).trans rfl
 have hfs15 := blk_frozen BK127.out 1
 have hns15_0 := NB125_127.out
 have hns15_1 := NB126_127.out
 have hns15_3 := NB128_127.out
 have hns15_4 := NB129_127.out
 have hms15_0 := NB127_125.out
 have hms15_1 := NB127_126.out
 have hms15_3 := NB127_128.out
 have hms15_4 := NB127_129.out
 refine skip_ (w1 := ?_) (by rfl) rfl ?_ ?_
 rotate_left
 ·go_simp
  rfl
 refine hK.out _ _ ⟨((cell_far (p := ⟨gb127, _, none⟩) NB125_127.out _).trans (((cell_far (p := ⟨gb127, _, none⟩) NB125_127.out _).trans (hHeld.1)))), ((cell_far (p := ⟨gb127, _, none⟩) NB125_127.out _).trans (((cell_far (p := ⟨gb127, _, none⟩) NB125_127.out _).trans (hHeld.2.1)))), ((cell_far (p := ⟨gb127, _, none⟩) NB125_127.out _).trans (((cell_far (p := ⟨gb127, _, none⟩) NB125_127.out _).trans (hHeld.2.2.1)))), ((cell_far (p := ⟨gb127, _, none⟩) NB125_127.out _).trans (((cell_far (p := ⟨gb127, _, none⟩) NB125_127.out _).trans (hHeld.2.2.2.1)))), ((cell_far (p := ⟨gb127, _, none⟩) NB125_127.out _).trans (((cell_far (p := ⟨gb127, _, none⟩) NB125_127.out _).trans (hHeld.2.2.2.2.1)))), ((cell_far (p := ⟨gb127, _, none⟩) NB125_127.out _).trans (((cell_far (p := ⟨gb127, _, none⟩) NB125_127.out _).trans (hHeld.2.2.2.2.2.1)))), ((cell_far (p := ⟨gb127, _, none⟩) NB125_127.out _).trans (((cell_far (p := ⟨gb127, _, none⟩) NB125_127.out _).trans (hHeld.2.2.2.2.2.2.1)))), ((cell_far (p := ⟨gb127, _, none⟩) NB125_127.out _).trans (((cell_far (p := ⟨gb127, _, none⟩) NB125_127.out _).trans (hHeld.2.2.2.2.2.2.2))))⟩ (fun hHeld => ?_)
 clear hK K
 refine one_ (i := 14) (N := none) #[true, true, true, true, true, true, true, true, true, true, true, true, true, true, true, false] rfl rfl (one_of HT_.out (by kernel_rfl)) (by decide) (fun K hK => ?_)
 have hs16 : w11.cell? ⟨gb128, 0, none⟩ = some (.int .i64 0) := (blk_cell BK128.out 0).trans rfl
 have hfs16 := blk_frozen BK128.out 0
 have hns16_0 := NB125_128.out
 have hns16_1 := NB126_128.out
 have hns16_2 := NB127_128.out
 have hns16_4 := NB129_128.out
 have hms16_0 := NB128_125.out
 have hms16_1 := NB128_126.out
 have hms16_2 := NB128_127.out
 have hms16_4 := NB128_129.out
 have hs17 : w11.cell? ⟨gb128, 1, none⟩ = some (.int .i64 0) := (blk_cell BK128.out 1).trans rfl
 have hfs17 := blk_frozen BK128.out 1
 have hns17_0 := NB125_128.out
 have hns17_1 := NB126_128.out
 have hns17_2 := NB127_128.out
 have hns17_4 := NB129_128.out
 have hms17_0 := NB128_125.out
 have hms17_1 := NB128_126.out
 have hms17_2 := NB128_127.out
 have hms17_4 := NB128_129.out
 refine skip_ (w1 := ?_) (by rfl) rfl ?_ ?_
 rotate_left
 ·go_simp
  rfl
 refine hK.out _ _ ⟨((cell_far (p := ⟨gb128, _, none⟩) NB125_128.out _).trans (((cell_far (p := ⟨gb128, _, none⟩) NB125_128.out _).trans (hHeld.1)))), ((cell_far (p := ⟨gb128, _, none⟩) NB125_128.out _).trans (((cell_far (p := ⟨gb128, _, none⟩) NB125_128.out _).trans (hHeld.2.1)))), ((cell_far (p := ⟨gb128, _, none⟩) NB125_128.out _).trans (((cell_far (p := ⟨gb128, _, none⟩) NB125_128.out _).trans (hHeld.2.2.1)))), ((cell_far (p := ⟨gb128, _, none⟩) NB125_128.out _).trans (((cell_far (p := ⟨gb128, _, none⟩) NB125_128.out _).trans (hHeld.2.2.2.1)))), ((cell_far (p := ⟨gb128, _, none⟩) NB125_128.out _).trans (((cell_far (p := ⟨gb128, _, none⟩) NB125_128.out _).trans (hHeld.2.2.2.2.1)))), ((cell_far (p := ⟨gb128, _, none⟩) NB125_128.out _).trans (((cell_far (p := ⟨gb128, _, none⟩) NB125_128.out _).trans (hHeld.2.2.2.2.2.1)))), ((cell_far (p := ⟨gb128, _, none⟩) NB125_128.out _).trans (((cell_far (p := ⟨gb128, _, none⟩) NB125_128.out _).trans (hHeld.2.2.2.2.2.2.1)))), ((cell_far (p := ⟨gb128, _, none⟩) NB125_128.out _).trans (((cell_far (p := ⟨gb128, _, none⟩) NB125_128.out _).trans (hHeld.2.2.2.2.2.2.2))))⟩ (fun hHeld => ?_)
 clear hK K
 refine one_ (i := 15) (N := none) #[true, true, true, true, true, true, true, true, true, true, true, true, true, true, true, true] rfl rfl (one_of HT_.out (by kernel_rfl)) (by decide) (fun K hK => ?_)
 have hs18 : w11.cell? ⟨gb129, 0, none⟩ = some (.int .i64 0) := (blk_cell BK129.out 0).trans rfl
 have hfs18 := blk_frozen BK129.out 0
 have hns18_0 := NB125_129.out
 have hns18_1 := NB126_129.out
 have hns18_2 := NB127_129.out
 have hns18_3 := NB128_129.out
 have hms18_0 := NB129_125.out
 have hms18_1 := NB129_126.out
 have hms18_2 := NB129_127.out
 have hms18_3 := NB129_128.out
 have hs19 : w11.cell? ⟨gb129, 1, none⟩ = some (.int .i64 0) := (blk_cell BK129.out 1).trans rfl
 have hfs19 := blk_frozen BK129.out 1
 have hns19_0 := NB125_129.out
 have hns19_1 := NB126_129.out
 have hns19_2 := NB127_129.out
 have hns19_3 := NB128_129.out
 have hms19_0 := NB129_125.out
 have hms19_1 := NB129_126.out
 have hms19_2 := NB129_127.out
 have hms19_3 := NB129_128.out
 refine skip_ (w1 := ?_) (by rfl) rfl ?_ ?_
 rotate_left
 ·go_simp
  rfl
 refine hK.out _ _ ⟨((cell_far (p := ⟨gb129, _, none⟩) NB125_129.out _).trans (((cell_far (p := ⟨gb129, _, none⟩) NB125_129.out _).trans (hHeld.1)))), ((cell_far (p := ⟨gb129, _, none⟩) NB125_129.out _).trans (((cell_far (p := ⟨gb129, _, none⟩) NB125_129.out _).trans (hHeld.2.1)))), ((cell_far (p := ⟨gb129, _, none⟩) NB125_129.out _).trans (((cell_far (p := ⟨gb129, _, none⟩) NB125_129.out _).trans (hHeld.2.2.1)))), ((cell_far (p := ⟨gb129, _, none⟩) NB125_129.out _).trans (((cell_far (p := ⟨gb129, _, none⟩) NB125_129.out _).trans (hHeld.2.2.2.1)))), ((cell_far (p := ⟨gb129, _, none⟩) NB125_129.out _).trans (((cell_far (p := ⟨gb129, _, none⟩) NB125_129.out _).trans (hHeld.2.2.2.2.1)))), ((cell_far (p := ⟨gb129, _, none⟩) NB125_129.out _).trans (((cell_far (p := ⟨gb129, _, none⟩) NB125_129.out _).trans (hHeld.2.2.2.2.2.1)))), ((cell_far (p := ⟨gb129, _, none⟩) NB125_129.out _).trans (((cell_far (p := ⟨gb129, _, none⟩) NB125_129.out _).trans (hHeld.2.2.2.2.2.2.1)))), ((cell_far (p := ⟨gb129, _, none⟩) NB125_129.out _).trans (((cell_far (p := ⟨gb129, _, none⟩) NB125_129.out _).trans (hHeld.2.2.2.2.2.2.2))))⟩ (fun hHeld => ?_)
 clear hK K
 refine done_ (done_of HT_.out (by kernel_rfl)) ?_
 go_upto_region 2 with (fail)
 have K0 := ak (blk_far (p := ⟨gb129, 1, none⟩) (blk_far (p := ⟨gb129, 0, none⟩) (blk_far (p := ⟨gb128, 1, none⟩) (blk_far (p := ⟨gb128, 0, none⟩) (blk_far (p := ⟨gb127, 1, none⟩) (blk_far (p := ⟨gb127, 0, none⟩) (blk_far (p := ⟨gb126, 1, none⟩) (blk_far (p := ⟨gb126, 0, none⟩) BK125.out NB125_126.out (.int .i64 a0_0)) NB125_126.out (.int .i64 a0_1)) NB125_127.out (.int .i64 a0_2)) NB125_127.out (.int .i64 a0_3)) NB125_128.out (.int .i64 a0_4)) NB125_128.out (.int .i64 a0_5)) NB125_129.out (.int .i64 a0_6)) NB125_129.out (.int .i64 a0_7))
 have K1 := ak (blk_far (p := ⟨gb129, 1, none⟩) (blk_far (p := ⟨gb129, 0, none⟩) (blk_far (p := ⟨gb128, 1, none⟩) (blk_far (p := ⟨gb128, 0, none⟩) (blk_far (p := ⟨gb127, 1, none⟩) (blk_far (p := ⟨gb127, 0, none⟩) (blk_set (blk_set BK126.out 0 (.int .i64 a0_0)) 1 (.int .i64 a0_1)) NB126_127.out (.int .i64 a0_2)) NB126_127.out (.int .i64 a0_3)) NB126_128.out (.int .i64 a0_4)) NB126_128.out (.int .i64 a0_5)) NB126_129.out (.int .i64 a0_6)) NB126_129.out (.int .i64 a0_7))
 have K2 := ak (blk_far (p := ⟨gb129, 1, none⟩) (blk_far (p := ⟨gb129, 0, none⟩) (blk_far (p := ⟨gb128, 1, none⟩) (blk_far (p := ⟨gb128, 0, none⟩) (blk_set (blk_set (blk_far (p := ⟨gb126, 1, none⟩) (blk_far (p := ⟨gb126, 0, none⟩) BK127.out NB127_126.out (.int .i64 a0_0)) NB127_126.out (.int .i64 a0_1)) 0 (.int .i64 a0_2)) 1 (.int .i64 a0_3)) NB127_128.out (.int .i64 a0_4)) NB127_128.out (.int .i64 a0_5)) NB127_129.out (.int .i64 a0_6)) NB127_129.out (.int .i64 a0_7))
 have K3 := ak (blk_far (p := ⟨gb129, 1, none⟩) (blk_far (p := ⟨gb129, 0, none⟩) (blk_set (blk_set (blk_far (p := ⟨gb127, 1, none⟩) (blk_far (p := ⟨gb127, 0, none⟩) (blk_far (p := ⟨gb126, 1, none⟩) (blk_far (p := ⟨gb126, 0, none⟩) BK128.out NB128_126.out (.int .i64 a0_0)) NB128_126.out (.int .i64 a0_1)) NB128_127.out (.int .i64 a0_2)) NB128_127.out (.int .i64 a0_3)) 0 (.int .i64 a0_4)) 1 (.int .i64 a0_5)) NB128_129.out (.int .i64 a0_6)) NB128_129.out (.int .i64 a0_7))
 have K4 := ak (blk_set (blk_set (blk_far (p := ⟨gb128, 1, none⟩) (blk_far (p := ⟨gb128, 0, none⟩) (blk_far (p := ⟨gb127, 1, none⟩) (blk_far (p := ⟨gb127, 0, none⟩) (blk_far (p := ⟨gb126, 1, none⟩) (blk_far (p := ⟨gb126, 0, none⟩) BK129.out NB129_126.out (.int .i64 a0_0)) NB129_126.out (.int .i64 a0_1)) NB129_127.out (.int .i64 a0_2)) NB129_127.out (.int .i64 a0_3)) NB129_128.out (.int .i64 a0_4)) NB129_128.out (.int .i64 a0_5)) 0 (.int .i64 a0_6)) 1 (.int .i64 a0_7))
 have KB := ak (below_set (g := gb129) (j := 1) (v := .int .i64 a0_7) (below_set (g := gb129) (j := 0) (v := .int .i64 a0_6) (below_set (g := gb128) (j := 1) (v := .int .i64 a0_5) (below_set (g := gb128) (j := 0) (v := .int .i64 a0_4) (below_set (g := gb127) (j := 1) (v := .int .i64 a0_3) (below_set (g := gb127) (j := 0) (v := .int .i64 a0_2) (below_set (g := gb126) (j := 1) (v := .int .i64 a0_1) (below_set (g := gb126) (j := 0) (v := .int .i64 a0_0) HB.out GE126.out) GE126.out) GE127.out) GE127.out) GE128.out) GE128.out) GE129.out) GE129.out)
 have FV := ak (Five.mk K0.out K1.out K2.out K3.out K4.out KB.out)
 clear BK125 BK126 BK127 BK128 BK129 HB K0 K1 K2 K3 K4 KB
 go_cut [60] (fun v wc => v = .bool G ∧ Five w wc gb125 gb126 gb127 gb128 gb129 a0_0 a0_1 a0_2 a0_3 a0_4 a0_5 a0_6 a0_7)
 case first =>
  have hc0 := Five.c0 FV.out; have hc1 := Five.c1 FV.out; have hc2 := Five.c2 FV.out; have hc3 := Five.c3 FV.out; have hc4 := Five.c4 FV.out; have hc5 := Five.c5 FV.out; have hc6 := Five.c6 FV.out; have hc7 := Five.c7 FV.out
  cases m0 with
  | false =>
   have e : G = true := by rw [HG.out]; rfl
   subst e
   clear HG HFIN
   go_wp2_with (first | (go_at_call 14; (with_reducible refine (temperaref12_May.calls a0_0 a0_1 false _ M0.out).mono ?_); rintro e w1 ⟨rfl, hb⟩; have FN := ak (Five.step (by first | exact FV.out | exact Five.drewN FV.out _ | exact Five.drew FV.out | exact Five.drew (Five.drewN FV.out _)) hb); clear FV hb hc0 hc1 hc2 hc3 hc4 hc5 hc6 hc7; have FV := FN; clear FN; have hc0 := Five.c0 FV.out; have hc1 := Five.c1 FV.out; have hc2 := Five.c2 FV.out; have hc3 := Five.c3 FV.out; have hc4 := Five.c4 FV.out; have hc5 := Five.c5 FV.out; have hc6 := Five.c6 FV.out; have hc7 := Five.c7 FV.out))
   go_meet
   exact ⟨rfl, by first | exact FV.out | exact Five.drewN FV.out _⟩
  | true =>
   cases m1 with
   | false =>
    have e : G = true := by rw [HG.out]; rfl
    subst e
    clear HG HFIN
    go_wp2_with (first | (go_at_call 14; (with_reducible refine (temperaref12_May.calls a0_0 a0_1 true _ M0.out).mono ?_); rintro e w1 ⟨rfl, hb⟩; have FN := ak (Five.step (by first | exact FV.out | exact Five.drewN FV.out _ | exact Five.drew FV.out | exact Five.drew (Five.drewN FV.out _)) hb); clear FV hb hc0 hc1 hc2 hc3 hc4 hc5 hc6 hc7; have FV := FN; clear FN; have hc0 := Five.c0 FV.out; have hc1 := Five.c1 FV.out; have hc2 := Five.c2 FV.out; have hc3 := Five.c3 FV.out; have hc4 := Five.c4 FV.out; have hc5 := Five.c5 FV.out; have hc6 := Five.c6 FV.out; have hc7 := Five.c7 FV.out) | (go_at_call 14; (with_reducible refine (temperaref12_May.calls a0_2 a0_3 false _ M1.out).mono ?_); rintro e w1 ⟨rfl, hb⟩; have FN := ak (Five.step (by first | exact FV.out | exact Five.drewN FV.out _ | exact Five.drew FV.out | exact Five.drew (Five.drewN FV.out _)) hb); clear FV hb hc0 hc1 hc2 hc3 hc4 hc5 hc6 hc7; have FV := FN; clear FN; have hc0 := Five.c0 FV.out; have hc1 := Five.c1 FV.out; have hc2 := Five.c2 FV.out; have hc3 := Five.c3 FV.out; have hc4 := Five.c4 FV.out; have hc5 := Five.c5 FV.out; have hc6 := Five.c6 FV.out; have hc7 := Five.c7 FV.out))
    go_meet
    exact ⟨rfl, by first | exact FV.out | exact Five.drewN FV.out _⟩
   | true =>
    cases m2 with
    | false =>
     have e : G = true := by rw [HG.out]; rfl
     subst e
     clear HG HFIN
     go_wp2_with (first | (go_at_call 14; (with_reducible refine (temperaref12_May.calls a0_0 a0_1 true _ M0.out).mono ?_); rintro e w1 ⟨rfl, hb⟩; have FN := ak (Five.step (by first | exact FV.out | exact Five.drewN FV.out _ | exact Five.drew FV.out | exact Five.drew (Five.drewN FV.out _)) hb); clear FV hb hc0 hc1 hc2 hc3 hc4 hc5 hc6 hc7; have FV := FN; clear FN; have hc0 := Five.c0 FV.out; have hc1 := Five.c1 FV.out; have hc2 := Five.c2 FV.out; have hc3 := Five.c3 FV.out; have hc4 := Five.c4 FV.out; have hc5 := Five.c5 FV.out; have hc6 := Five.c6 FV.out; have hc7 := Five.c7 FV.out) | (go_at_call 14; (with_reducible refine (temperaref12_May.calls a0_2 a0_3 true _ M1.out).mono ?_); rintro e w1 ⟨rfl, hb⟩; have FN := ak (Five.step (by first | exact FV.out | exact Five.drewN FV.out _ | exact Five.drew FV.out | exact Five.drew (Five.drewN FV.out _)) hb); clear FV hb hc0 hc1 hc2 hc3 hc4 hc5 hc6 hc7; have FV := FN; clear FN; have hc0 := Five.c0 FV.out; have hc1 := Five.c1 FV.out; have hc2 := Five.c2 FV.out; have hc3 := Five.c3 FV.out; have hc4 := Five.c4 FV.out; have hc5 := Five.c5 FV.out; have hc6 := Five.c6 FV.out; have hc7 := Five.c7 FV.out) | (go_at_call 14; (with_reducible refine (temperaref12_May.calls a0_4 a0_5 false _ M2.out).mono ?_); rintro e w1 ⟨rfl, hb⟩; have FN := ak (Five.step (by first | exact FV.out | exact Five.drewN FV.out _ | exact Five.drew FV.out | exact Five.drew (Five.drewN FV.out _)) hb); clear FV hb hc0 hc1 hc2 hc3 hc4 hc5 hc6 hc7; have FV := FN; clear FN; have hc0 := Five.c0 FV.out; have hc1 := Five.c1 FV.out; have hc2 := Five.c2 FV.out; have hc3 := Five.c3 FV.out; have hc4 := Five.c4 FV.out; have hc5 := Five.c5 FV.out; have hc6 := Five.c6 FV.out; have hc7 := Five.c7 FV.out))
     go_meet
     exact ⟨rfl, by first | exact FV.out | exact Five.drewN FV.out _⟩
    | true =>
     cases m3 with
     | false =>
      have e : G = true := by rw [HG.out]; rfl
      subst e
      clear HG HFIN
      go_wp2_with (first | (go_at_call 14; (with_reducible refine (temperaref12_May.calls a0_0 a0_1 true _ M0.out).mono ?_); rintro e w1 ⟨rfl, hb⟩; have FN := ak (Five.step (by first | exact FV.out | exact Five.drewN FV.out _ | exact Five.drew FV.out | exact Five.drew (Five.drewN FV.out _)) hb); clear FV hb hc0 hc1 hc2 hc3 hc4 hc5 hc6 hc7; have FV := FN; clear FN; have hc0 := Five.c0 FV.out; have hc1 := Five.c1 FV.out; have hc2 := Five.c2 FV.out; have hc3 := Five.c3 FV.out; have hc4 := Five.c4 FV.out; have hc5 := Five.c5 FV.out; have hc6 := Five.c6 FV.out; have hc7 := Five.c7 FV.out) | (go_at_call 14; (with_reducible refine (temperaref12_May.calls a0_2 a0_3 true _ M1.out).mono ?_); rintro e w1 ⟨rfl, hb⟩; have FN := ak (Five.step (by first | exact FV.out | exact Five.drewN FV.out _ | exact Five.drew FV.out | exact Five.drew (Five.drewN FV.out _)) hb); clear FV hb hc0 hc1 hc2 hc3 hc4 hc5 hc6 hc7; have FV := FN; clear FN; have hc0 := Five.c0 FV.out; have hc1 := Five.c1 FV.out; have hc2 := Five.c2 FV.out; have hc3 := Five.c3 FV.out; have hc4 := Five.c4 FV.out; have hc5 := Five.c5 FV.out; have hc6 := Five.c6 FV.out; have hc7 := Five.c7 FV.out) | (go_at_call 14; (with_reducible refine (temperaref12_May.calls a0_4 a0_5 true _ M2.out).mono ?_); rintro e w1 ⟨rfl, hb⟩; have FN := ak (Five.step (by first | exact FV.out | exact Five.drewN FV.out _ | exact Five.drew FV.out | exact Five.drew (Five.drewN FV.out _)) hb); clear FV hb hc0 hc1 hc2 hc3 hc4 hc5 hc6 hc7; have FV := FN; clear FN; have hc0 := Five.c0 FV.out; have hc1 := Five.c1 FV.out; have hc2 := Five.c2 FV.out; have hc3 := Five.c3 FV.out; have hc4 := Five.c4 FV.out; have hc5 := Five.c5 FV.out; have hc6 := Five.c6 FV.out; have hc7 := Five.c7 FV.out) | (go_at_call 14; (with_reducible refine (temperaref12_May.calls a0_6 a0_7 false _ M3.out).mono ?_); rintro e w1 ⟨rfl, hb⟩; have FN := ak (Five.step (by first | exact FV.out | exact Five.drewN FV.out _ | exact Five.drew FV.out | exact Five.drew (Five.drewN FV.out _)) hb); clear FV hb hc0 hc1 hc2 hc3 hc4 hc5 hc6 hc7; have FV := FN; clear FN; have hc0 := Five.c0 FV.out; have hc1 := Five.c1 FV.out; have hc2 := Five.c2 FV.out; have hc3 := Five.c3 FV.out; have hc4 := Five.c4 FV.out; have hc5 := Five.c5 FV.out; have hc6 := Five.c6 FV.out; have hc7 := Five.c7 FV.out))
      go_meet
      exact ⟨rfl, by first | exact FV.out | exact Five.drewN FV.out _⟩
     | true =>
      cases mf with
      | false =>
       have e : G = true := by rw [HG.out]; rfl
       subst e
       clear HG HFIN
       go_wp2_with (first | (go_at_call 14; (with_reducible refine (temperaref12_May.calls a0_0 a0_1 true _ M0.out).mono ?_); rintro e w1 ⟨rfl, hb⟩; have FN := ak (Five.step (by first | exact FV.out | exact Five.drewN FV.out _ | exact Five.drew FV.out | exact Five.drew (Five.drewN FV.out _)) hb); clear FV hb hc0 hc1 hc2 hc3 hc4 hc5 hc6 hc7; have FV := FN; clear FN; have hc0 := Five.c0 FV.out; have hc1 := Five.c1 FV.out; have hc2 := Five.c2 FV.out; have hc3 := Five.c3 FV.out; have hc4 := Five.c4 FV.out; have hc5 := Five.c5 FV.out; have hc6 := Five.c6 FV.out; have hc7 := Five.c7 FV.out) | (go_at_call 14; (with_reducible refine (temperaref12_May.calls a0_2 a0_3 true _ M1.out).mono ?_); rintro e w1 ⟨rfl, hb⟩; have FN := ak (Five.step (by first | exact FV.out | exact Five.drewN FV.out _ | exact Five.drew FV.out | exact Five.drew (Five.drewN FV.out _)) hb); clear FV hb hc0 hc1 hc2 hc3 hc4 hc5 hc6 hc7; have FV := FN; clear FN; have hc0 := Five.c0 FV.out; have hc1 := Five.c1 FV.out; have hc2 := Five.c2 FV.out; have hc3 := Five.c3 FV.out; have hc4 := Five.c4 FV.out; have hc5 := Five.c5 FV.out; have hc6 := Five.c6 FV.out; have hc7 := Five.c7 FV.out) | (go_at_call 14; (with_reducible refine (temperaref12_May.calls a0_4 a0_5 true _ M2.out).mono ?_); rintro e w1 ⟨rfl, hb⟩; have FN := ak (Five.step (by first | exact FV.out | exact Five.drewN FV.out _ | exact Five.drew FV.out | exact Five.drew (Five.drewN FV.out _)) hb); clear FV hb hc0 hc1 hc2 hc3 hc4 hc5 hc6 hc7; have FV := FN; clear FN; have hc0 := Five.c0 FV.out; have hc1 := Five.c1 FV.out; have hc2 := Five.c2 FV.out; have hc3 := Five.c3 FV.out; have hc4 := Five.c4 FV.out; have hc5 := Five.c5 FV.out; have hc6 := Five.c6 FV.out; have hc7 := Five.c7 FV.out) | (go_at_call 14; (with_reducible refine (temperaref12_May.calls a0_6 a0_7 true _ M3.out).mono ?_); rintro e w1 ⟨rfl, hb⟩; have FN := ak (Five.step (by first | exact FV.out | exact Five.drewN FV.out _ | exact Five.drew FV.out | exact Five.drew (Five.drewN FV.out _)) hb); clear FV hb hc0 hc1 hc2 hc3 hc4 hc5 hc6 hc7; have FV := FN; clear FN; have hc0 := Five.c0 FV.out; have hc1 := Five.c1 FV.out; have hc2 := Five.c2 FV.out; have hc3 := Five.c3 FV.out; have hc4 := Five.c4 FV.out; have hc5 := Five.c5 FV.out; have hc6 := Five.c6 FV.out; have hc7 := Five.c7 FV.out) | (go_at_call 9; (with_reducible refine (temperaref12_Fits.calls a1 a2 false _ MF.out).mono ?_); rintro e w1 ⟨rfl, ⟨nd, rfl⟩⟩))
       go_meet
       exact ⟨rfl, by first | exact FV.out | exact Five.drewN FV.out _⟩
      | true =>
       by_cases x0 : s1 ≤ 0
       ·have y0 : decide (s1 ≤ 0) = true := decide_eq_true x0
        have z0 : decide (0 < s1) = false := decide_eq_false (by omega)
        have e : G = true := by rw [HG.out]; simp [z0]
        subst e
        clear HG HFIN
        go_wp2_with (first | (go_at_call 14; (with_reducible refine (temperaref12_May.calls a0_0 a0_1 true _ M0.out).mono ?_); rintro e w1 ⟨rfl, hb⟩; have FN := ak (Five.step (by first | exact FV.out | exact Five.drewN FV.out _ | exact Five.drew FV.out | exact Five.drew (Five.drewN FV.out _)) hb); clear FV hb hc0 hc1 hc2 hc3 hc4 hc5 hc6 hc7; have FV := FN; clear FN; have hc0 := Five.c0 FV.out; have hc1 := Five.c1 FV.out; have hc2 := Five.c2 FV.out; have hc3 := Five.c3 FV.out; have hc4 := Five.c4 FV.out; have hc5 := Five.c5 FV.out; have hc6 := Five.c6 FV.out; have hc7 := Five.c7 FV.out) | (go_at_call 14; (with_reducible refine (temperaref12_May.calls a0_2 a0_3 true _ M1.out).mono ?_); rintro e w1 ⟨rfl, hb⟩; have FN := ak (Five.step (by first | exact FV.out | exact Five.drewN FV.out _ | exact Five.drew FV.out | exact Five.drew (Five.drewN FV.out _)) hb); clear FV hb hc0 hc1 hc2 hc3 hc4 hc5 hc6 hc7; have FV := FN; clear FN; have hc0 := Five.c0 FV.out; have hc1 := Five.c1 FV.out; have hc2 := Five.c2 FV.out; have hc3 := Five.c3 FV.out; have hc4 := Five.c4 FV.out; have hc5 := Five.c5 FV.out; have hc6 := Five.c6 FV.out; have hc7 := Five.c7 FV.out) | (go_at_call 14; (with_reducible refine (temperaref12_May.calls a0_4 a0_5 true _ M2.out).mono ?_); rintro e w1 ⟨rfl, hb⟩; have FN := ak (Five.step (by first | exact FV.out | exact Five.drewN FV.out _ | exact Five.drew FV.out | exact Five.drew (Five.drewN FV.out _)) hb); clear FV hb hc0 hc1 hc2 hc3 hc4 hc5 hc6 hc7; have FV := FN; clear FN; have hc0 := Five.c0 FV.out; have hc1 := Five.c1 FV.out; have hc2 := Five.c2 FV.out; have hc3 := Five.c3 FV.out; have hc4 := Five.c4 FV.out; have hc5 := Five.c5 FV.out; have hc6 := Five.c6 FV.out; have hc7 := Five.c7 FV.out) | (go_at_call 14; (with_reducible refine (temperaref12_May.calls a0_6 a0_7 true _ M3.out).mono ?_); rintro e w1 ⟨rfl, hb⟩; have FN := ak (Five.step (by first | exact FV.out | exact Five.drewN FV.out _ | exact Five.drew FV.out | exact Five.drew (Five.drewN FV.out _)) hb); clear FV hb hc0 hc1 hc2 hc3 hc4 hc5 hc6 hc7; have FV := FN; clear FN; have hc0 := Five.c0 FV.out; have hc1 := Five.c1 FV.out; have hc2 := Five.c2 FV.out; have hc3 := Five.c3 FV.out; have hc4 := Five.c4 FV.out; have hc5 := Five.c5 FV.out; have hc6 := Five.c6 FV.out; have hc7 := Five.c7 FV.out) | (go_at_call 9; (with_reducible refine (temperaref12_Fits.calls a1 a2 true _ MF.out).mono ?_); rintro e w1 ⟨rfl, ⟨nd, rfl⟩⟩) | (go_at_call 15; (with_reducible refine (temperaref12_Side.calls a0_0 a0_1 a0_2 a0_3 a0_4 a0_5 s1 _ S1.out).mono ?_); rintro e w1 ⟨rfl, hb⟩; have FN := ak (Five.step (by first | exact FV.out | exact Five.drewN FV.out _ | exact Five.drew FV.out | exact Five.drew (Five.drewN FV.out _)) hb); clear FV hb hc0 hc1 hc2 hc3 hc4 hc5 hc6 hc7; have FV := FN; clear FN; have hc0 := Five.c0 FV.out; have hc1 := Five.c1 FV.out; have hc2 := Five.c2 FV.out; have hc3 := Five.c3 FV.out; have hc4 := Five.c4 FV.out; have hc5 := Five.c5 FV.out; have hc6 := Five.c6 FV.out; have hc7 := Five.c7 FV.out))
        go_meet
        exact ⟨rfl, by first | exact FV.out | exact Five.drewN FV.out _⟩
       ·have y0 : decide (s1 ≤ 0) = false := decide_eq_false x0
        have z0 : decide (0 < s1) = true := decide_eq_true (by omega)
        by_cases x1 : s2 ≤ 0
        ·have y1 : decide (s2 ≤ 0) = true := decide_eq_true x1
         have z1 : decide (0 < s2) = false := decide_eq_false (by omega)
         have e : G = true := by rw [HG.out]; simp [z0, z1]
         subst e
         clear HG HFIN
         go_wp2_with (first | (go_at_call 14; (with_reducible refine (temperaref12_May.calls a0_0 a0_1 true _ M0.out).mono ?_); rintro e w1 ⟨rfl, hb⟩; have FN := ak (Five.step (by first | exact FV.out | exact Five.drewN FV.out _ | exact Five.drew FV.out | exact Five.drew (Five.drewN FV.out _)) hb); clear FV hb hc0 hc1 hc2 hc3 hc4 hc5 hc6 hc7; have FV := FN; clear FN; have hc0 := Five.c0 FV.out; have hc1 := Five.c1 FV.out; have hc2 := Five.c2 FV.out; have hc3 := Five.c3 FV.out; have hc4 := Five.c4 FV.out; have hc5 := Five.c5 FV.out; have hc6 := Five.c6 FV.out; have hc7 := Five.c7 FV.out) | (go_at_call 14; (with_reducible refine (temperaref12_May.calls a0_2 a0_3 true _ M1.out).mono ?_); rintro e w1 ⟨rfl, hb⟩; have FN := ak (Five.step (by first | exact FV.out | exact Five.drewN FV.out _ | exact Five.drew FV.out | exact Five.drew (Five.drewN FV.out _)) hb); clear FV hb hc0 hc1 hc2 hc3 hc4 hc5 hc6 hc7; have FV := FN; clear FN; have hc0 := Five.c0 FV.out; have hc1 := Five.c1 FV.out; have hc2 := Five.c2 FV.out; have hc3 := Five.c3 FV.out; have hc4 := Five.c4 FV.out; have hc5 := Five.c5 FV.out; have hc6 := Five.c6 FV.out; have hc7 := Five.c7 FV.out) | (go_at_call 14; (with_reducible refine (temperaref12_May.calls a0_4 a0_5 true _ M2.out).mono ?_); rintro e w1 ⟨rfl, hb⟩; have FN := ak (Five.step (by first | exact FV.out | exact Five.drewN FV.out _ | exact Five.drew FV.out | exact Five.drew (Five.drewN FV.out _)) hb); clear FV hb hc0 hc1 hc2 hc3 hc4 hc5 hc6 hc7; have FV := FN; clear FN; have hc0 := Five.c0 FV.out; have hc1 := Five.c1 FV.out; have hc2 := Five.c2 FV.out; have hc3 := Five.c3 FV.out; have hc4 := Five.c4 FV.out; have hc5 := Five.c5 FV.out; have hc6 := Five.c6 FV.out; have hc7 := Five.c7 FV.out) | (go_at_call 14; (with_reducible refine (temperaref12_May.calls a0_6 a0_7 true _ M3.out).mono ?_); rintro e w1 ⟨rfl, hb⟩; have FN := ak (Five.step (by first | exact FV.out | exact Five.drewN FV.out _ | exact Five.drew FV.out | exact Five.drew (Five.drewN FV.out _)) hb); clear FV hb hc0 hc1 hc2 hc3 hc4 hc5 hc6 hc7; have FV := FN; clear FN; have hc0 := Five.c0 FV.out; have hc1 := Five.c1 FV.out; have hc2 := Five.c2 FV.out; have hc3 := Five.c3 FV.out; have hc4 := Five.c4 FV.out; have hc5 := Five.c5 FV.out; have hc6 := Five.c6 FV.out; have hc7 := Five.c7 FV.out) | (go_at_call 9; (with_reducible refine (temperaref12_Fits.calls a1 a2 true _ MF.out).mono ?_); rintro e w1 ⟨rfl, ⟨nd, rfl⟩⟩) | (go_at_call 15; (with_reducible refine (temperaref12_Side.calls a0_0 a0_1 a0_2 a0_3 a0_4 a0_5 s1 _ S1.out).mono ?_); rintro e w1 ⟨rfl, hb⟩; have FN := ak (Five.step (by first | exact FV.out | exact Five.drewN FV.out _ | exact Five.drew FV.out | exact Five.drew (Five.drewN FV.out _)) hb); clear FV hb hc0 hc1 hc2 hc3 hc4 hc5 hc6 hc7; have FV := FN; clear FN; have hc0 := Five.c0 FV.out; have hc1 := Five.c1 FV.out; have hc2 := Five.c2 FV.out; have hc3 := Five.c3 FV.out; have hc4 := Five.c4 FV.out; have hc5 := Five.c5 FV.out; have hc6 := Five.c6 FV.out; have hc7 := Five.c7 FV.out) | (go_at_call 15; (with_reducible refine (temperaref12_Side.calls a0_2 a0_3 a0_0 a0_1 a0_6 a0_7 s2 _ S2.out).mono ?_); rintro e w1 ⟨rfl, hb⟩; have FN := ak (Five.step (by first | exact FV.out | exact Five.drewN FV.out _ | exact Five.drew FV.out | exact Five.drew (Five.drewN FV.out _)) hb); clear FV hb hc0 hc1 hc2 hc3 hc4 hc5 hc6 hc7; have FV := FN; clear FN; have hc0 := Five.c0 FV.out; have hc1 := Five.c1 FV.out; have hc2 := Five.c2 FV.out; have hc3 := Five.c3 FV.out; have hc4 := Five.c4 FV.out; have hc5 := Five.c5 FV.out; have hc6 := Five.c6 FV.out; have hc7 := Five.c7 FV.out))
         go_meet
         exact ⟨rfl, by first | exact FV.out | exact Five.drewN FV.out _⟩
        ·have y1 : decide (s2 ≤ 0) = false := decide_eq_false x1
         have z1 : decide (0 < s2) = true := decide_eq_true (by omega)
         have e : G = false := by rw [HG.out]; simp [z0, z1]
         subst e
         clear HG HFIN
         go_wp2_with (first | (go_at_call 14; (with_reducible refine (temperaref12_May.calls a0_0 a0_1 true _ M0.out).mono ?_); rintro e w1 ⟨rfl, hb⟩; have FN := ak (Five.step (by first | exact FV.out | exact Five.drewN FV.out _ | exact Five.drew FV.out | exact Five.drew (Five.drewN FV.out _)) hb); clear FV hb hc0 hc1 hc2 hc3 hc4 hc5 hc6 hc7; have FV := FN; clear FN; have hc0 := Five.c0 FV.out; have hc1 := Five.c1 FV.out; have hc2 := Five.c2 FV.out; have hc3 := Five.c3 FV.out; have hc4 := Five.c4 FV.out; have hc5 := Five.c5 FV.out; have hc6 := Five.c6 FV.out; have hc7 := Five.c7 FV.out) | (go_at_call 14; (with_reducible refine (temperaref12_May.calls a0_2 a0_3 true _ M1.out).mono ?_); rintro e w1 ⟨rfl, hb⟩; have FN := ak (Five.step (by first | exact FV.out | exact Five.drewN FV.out _ | exact Five.drew FV.out | exact Five.drew (Five.drewN FV.out _)) hb); clear FV hb hc0 hc1 hc2 hc3 hc4 hc5 hc6 hc7; have FV := FN; clear FN; have hc0 := Five.c0 FV.out; have hc1 := Five.c1 FV.out; have hc2 := Five.c2 FV.out; have hc3 := Five.c3 FV.out; have hc4 := Five.c4 FV.out; have hc5 := Five.c5 FV.out; have hc6 := Five.c6 FV.out; have hc7 := Five.c7 FV.out) | (go_at_call 14; (with_reducible refine (temperaref12_May.calls a0_4 a0_5 true _ M2.out).mono ?_); rintro e w1 ⟨rfl, hb⟩; have FN := ak (Five.step (by first | exact FV.out | exact Five.drewN FV.out _ | exact Five.drew FV.out | exact Five.drew (Five.drewN FV.out _)) hb); clear FV hb hc0 hc1 hc2 hc3 hc4 hc5 hc6 hc7; have FV := FN; clear FN; have hc0 := Five.c0 FV.out; have hc1 := Five.c1 FV.out; have hc2 := Five.c2 FV.out; have hc3 := Five.c3 FV.out; have hc4 := Five.c4 FV.out; have hc5 := Five.c5 FV.out; have hc6 := Five.c6 FV.out; have hc7 := Five.c7 FV.out) | (go_at_call 14; (with_reducible refine (temperaref12_May.calls a0_6 a0_7 true _ M3.out).mono ?_); rintro e w1 ⟨rfl, hb⟩; have FN := ak (Five.step (by first | exact FV.out | exact Five.drewN FV.out _ | exact Five.drew FV.out | exact Five.drew (Five.drewN FV.out _)) hb); clear FV hb hc0 hc1 hc2 hc3 hc4 hc5 hc6 hc7; have FV := FN; clear FN; have hc0 := Five.c0 FV.out; have hc1 := Five.c1 FV.out; have hc2 := Five.c2 FV.out; have hc3 := Five.c3 FV.out; have hc4 := Five.c4 FV.out; have hc5 := Five.c5 FV.out; have hc6 := Five.c6 FV.out; have hc7 := Five.c7 FV.out) | (go_at_call 9; (with_reducible refine (temperaref12_Fits.calls a1 a2 true _ MF.out).mono ?_); rintro e w1 ⟨rfl, ⟨nd, rfl⟩⟩) | (go_at_call 15; (with_reducible refine (temperaref12_Side.calls a0_0 a0_1 a0_2 a0_3 a0_4 a0_5 s1 _ S1.out).mono ?_); rintro e w1 ⟨rfl, hb⟩; have FN := ak (Five.step (by first | exact FV.out | exact Five.drewN FV.out _ | exact Five.drew FV.out | exact Five.drew (Five.drewN FV.out _)) hb); clear FV hb hc0 hc1 hc2 hc3 hc4 hc5 hc6 hc7; have FV := FN; clear FN; have hc0 := Five.c0 FV.out; have hc1 := Five.c1 FV.out; have hc2 := Five.c2 FV.out; have hc3 := Five.c3 FV.out; have hc4 := Five.c4 FV.out; have hc5 := Five.c5 FV.out; have hc6 := Five.c6 FV.out; have hc7 := Five.c7 FV.out) | (go_at_call 15; (with_reducible refine (temperaref12_Side.calls a0_2 a0_3 a0_0 a0_1 a0_6 a0_7 s2 _ S2.out).mono ?_); rintro e w1 ⟨rfl, hb⟩; have FN := ak (Five.step (by first | exact FV.out | exact Five.drewN FV.out _ | exact Five.drew FV.out | exact Five.drew (Five.drewN FV.out _)) hb); clear FV hb hc0 hc1 hc2 hc3 hc4 hc5 hc6 hc7; have FV := FN; clear FN; have hc0 := Five.c0 FV.out; have hc1 := Five.c1 FV.out; have hc2 := Five.c2 FV.out; have hc3 := Five.c3 FV.out; have hc4 := Five.c4 FV.out; have hc5 := Five.c5 FV.out; have hc6 := Five.c6 FV.out; have hc7 := Five.c7 FV.out))
         go_meet
         exact ⟨rfl, FV.out⟩
 case rest =>
  clear FV
  obtain ⟨rfl, hF⟩ := hcut
  have FV := ak hF
  clear hF
  cases G with
  | true =>
   go_wp2_with (first | (go_at_call 10; (with_reducible refine (temperalaw12_awake.calls true _ awake_is).mono ?_); rintro e w1 ⟨rfl, hb⟩; have HE := ak (below_step (by first | exact FV.out.b | exact (Five.drewN FV.out _).b | exact (Five.drew FV.out).b | exact (Five.drew (Five.drewN FV.out _)).b) hb)))
   go_ret
   exact ⟨rfl, HE.out⟩
  | false =>
   obtain ⟨BK0, BK1, BK2, BK3, BK4, HB0⟩ := FV.out
   have BK125 := ak BK0
   have BK126 := ak BK1
   have BK127 := ak BK2
   have BK128 := ak BK3
   have BK129 := ak BK4
   have HB := ak HB0
   clear BK0 BK1 BK2 BK3 BK4 HB0
   obtain ⟨t138, t139, q1, q2, s3, s4, s5, s6, s7, e1, e2, hn0, hn1, hm0, hm1, hnm, e3, e4, e5, e6, e7, e8, hone⟩ := HFIN.out rfl
   have A152 := ak e1
   have A153 := ak e2
   have AM := ak e3
   have T3 := ak e4
   have T4 := ak e5
   have T5 := ak e6
   have T6 := ak e7
   have T7 := ak e8
   have ONE := ak hone
   clear e1 e2 e3 e4 e5 e6 e7 e8 hone FV HFIN HG
   try go_wp2
   have n0_ := ak (blk_drew BK125.out)
   have n1_ := ak (blk_drew BK126.out)
   have n2_ := ak (blk_drew BK127.out)
   have n3_ := ak (blk_drew BK128.out)
   have n4_ := ak (blk_drew BK129.out)
   have n5_ := ak (below_drew1 HB.out)
   clear BK125
   clear BK126
   clear BK127
   clear BK128
   clear BK129
   clear HB
   have BK125 := n0_
   have BK126 := n1_
   have BK127 := n2_
   have BK128 := n3_
   have BK129 := n4_
   have HB := n5_
   clear n0_ n1_ n2_ n3_ n4_ n5_
   refine start_ (n := 14) (S := fun w' => w'.cell? ⟨gb126, 0, none⟩ = some (.int .i64 a0_0) ∧ w'.cell? ⟨gb126, 1, none⟩ = some (.int .i64 a0_1) ∧ w'.cell? ⟨gb127, 0, none⟩ = some (.int .i64 a0_2) ∧ w'.cell? ⟨gb127, 1, none⟩ = some (.int .i64 a0_3) ∧ w'.cell? ⟨gb128, 0, none⟩ = some (.int .i64 a0_4) ∧ w'.cell? ⟨gb128, 1, none⟩ = some (.int .i64 a0_5) ∧ w'.cell? ⟨gb129, 0, none⟩ = some (.int .i64 a0_6) ∧ w'.cell? ⟨gb129, 1, none⟩ = some (.int .i64 a0_7)) (ds := []) #[false, false, false, false, false, false, false, false, false, false, false, false, false, false] (by kernel_rfl) rfl rfl ⟨(blk_cell BK126.out 0).trans rfl, (blk_cell BK126.out 1).trans rfl, (blk_cell BK127.out 0).trans rfl, (blk_cell BK127.out 1).trans rfl, (blk_cell BK128.out 0).trans rfl, (blk_cell BK128.out 1).trans rfl, (blk_cell BK129.out 0).trans rfl, (blk_cell BK129.out 1).trans rfl⟩ (fun hHeld => ?_); refine with_tabW edgeShared.tab4 edgeShared.bits4 (fun HT_ HW_ => ?_)
   generalize wc.drew = w155 at BK125 BK126 BK127 BK128 BK129 HB hHeld ⊢
   refine pure_ (i := 3) (N := some 65) (v := ?_) (a' := ?_) #[false, false, false, true, false, false, false, false, false, false, false, false, false, false] rfl rfl (any_of HT_.out (by kernel_rfl)) (fun _ _ _ h => h) (Or.inl ⟨by rfl, ?_⟩) ?_ ?_
   rotate_left
   ·intro w'
    go_simp
    with_reducible rfl
   rotate_left
   ·simp only [Act.put, List.setIfInBounds_toArray, List.set_cons_zero, List.set_cons_succ, i64_w, i32_w]
    rfl
   refine pure_ (i := 4) (N := some 66) (v := ?_) (a' := ?_) #[false, false, false, true, true, false, false, false, false, false, false, false, false, false] rfl rfl (any_of HT_.out (by kernel_rfl)) (fun _ _ _ h => h) (Or.inl ⟨by rfl, ?_⟩) ?_ ?_
   rotate_left
   ·intro w'
    go_simp
    with_reducible rfl
   rotate_left
   ·simp only [Act.put, List.setIfInBounds_toArray, List.set_cons_zero, List.set_cons_succ, i64_w, i32_w]
    rfl
   refine pure_ (i := 9) (N := some 71) (v := ?_) (a' := ?_) #[false, false, false, true, true, false, false, false, false, true, false, false, false, false] rfl rfl (any_of HT_.out (by kernel_rfl)) (fun _ _ _ h => h) (Or.inl ⟨by rfl, ?_⟩) ?_ ?_
   rotate_left
   ·intro w'
    go_simp
    with_reducible rfl
   rotate_left
   ·simp only [Act.put, List.setIfInBounds_toArray, List.set_cons_zero, List.set_cons_succ, i64_w, i32_w]
    rfl
   refine pure_ (i := 10) (N := some 72) (v := ?_) (a' := ?_) #[false, false, false, true, true, false, false, false, false, true, true, false, false, false] rfl rfl (any_of HT_.out (by kernel_rfl)) (fun _ _ _ h => h) (Or.inl ⟨by rfl, ?_⟩) ?_ ?_
   rotate_left
   ·intro w'
    go_simp
    with_reducible rfl
   rotate_left
   ·simp only [Act.put, List.setIfInBounds_toArray, List.set_cons_zero, List.set_cons_succ, i64_w, i32_w]
    rfl
   refine take_ (i := 0) (N := some 62) (v := ?_) (a' := ?_) #[true, false, false, true, true, false, false, false, false, true, true, false, false, false] rfl rfl (take_ofW HT_.out HW_.out (by kernel_rfl)) (fun _ _ _ h => h) (Or.inl ⟨by rfl, ?_⟩) hHeld ?_ ?_
   rotate_left
   ·rintro w' ⟨s0, s1, s2, s3, s4, s5, s6, s7⟩
    go_simp
    with_reducible rfl
   rotate_left
   ·simp only [Act.put, List.setIfInBounds_toArray, List.set_cons_zero, List.set_cons_succ, i64_w, i32_w]
    rfl
   refine take_ (i := 1) (N := some 63) (v := ?_) (a' := ?_) #[true, true, false, true, true, false, false, false, false, true, true, false, false, false] rfl rfl (take_ofW HT_.out HW_.out (by kernel_rfl)) (fun _ _ _ h => h) (Or.inl ⟨by rfl, ?_⟩) hHeld ?_ ?_
   rotate_left
   ·rintro w' ⟨s0, s1, s2, s3, s4, s5, s6, s7⟩
    go_simp
    with_reducible rfl
   rotate_left
   ·simp only [Act.put, List.setIfInBounds_toArray, List.set_cons_zero, List.set_cons_succ, i64_w, i32_w]
    rfl
   refine take_ (i := 2) (N := some 64) (v := ?_) (a' := ?_) #[true, true, true, true, true, false, false, false, false, true, true, false, false, false] rfl rfl (take_ofW HT_.out HW_.out (by kernel_rfl)) (fun _ _ _ h => h) (Or.inl ⟨by rfl, ?_⟩) hHeld ?_ ?_
   rotate_left
   ·rintro w' ⟨s0, s1, s2, s3, s4, s5, s6, s7⟩
    go_simp
    with_reducible rfl
   rotate_left
   ·simp only [Act.put, List.setIfInBounds_toArray, List.set_cons_zero, List.set_cons_succ, i64_w, i32_w]
    rfl
   refine take_ (i := 6) (N := some 68) (v := ?_) (a' := ?_) #[true, true, true, true, true, false, true, false, false, true, true, false, false, false] rfl rfl (take_ofW HT_.out HW_.out (by kernel_rfl)) (fun _ _ _ h => h) (Or.inl ⟨by rfl, ?_⟩) hHeld ?_ ?_
   rotate_left
   ·rintro w' ⟨s0, s1, s2, s3, s4, s5, s6, s7⟩
    go_simp
    with_reducible rfl
   rotate_left
   ·simp only [Act.put, List.setIfInBounds_toArray, List.set_cons_zero, List.set_cons_succ, i64_w, i32_w]
    rfl
   refine take_ (i := 7) (N := some 69) (v := ?_) (a' := ?_) #[true, true, true, true, true, false, true, true, false, true, true, false, false, false] rfl rfl (take_ofW HT_.out HW_.out (by kernel_rfl)) (fun _ _ _ h => h) (Or.inl ⟨by rfl, ?_⟩) hHeld ?_ ?_
   rotate_left
   ·rintro w' ⟨s0, s1, s2, s3, s4, s5, s6, s7⟩
    go_simp
    with_reducible rfl
   rotate_left
   ·simp only [Act.put, List.setIfInBounds_toArray, List.set_cons_zero, List.set_cons_succ, i64_w, i32_w]
    rfl
   refine take_ (i := 8) (N := some 70) (v := ?_) (a' := ?_) #[true, true, true, true, true, false, true, true, true, true, true, false, false, false] rfl rfl (take_ofW HT_.out HW_.out (by kernel_rfl)) (fun _ _ _ h => h) (Or.inl ⟨by rfl, ?_⟩) hHeld ?_ ?_
   rotate_left
   ·rintro w' ⟨s0, s1, s2, s3, s4, s5, s6, s7⟩
    go_simp
    with_reducible rfl
   rotate_left
   ·simp only [Act.put, List.setIfInBounds_toArray, List.set_cons_zero, List.set_cons_succ, i64_w, i32_w]
    rfl
   refine one_ (i := 5) (N := some 67) #[true, true, true, true, true, true, true, true, true, true, true, false, false, false] rfl rfl (one_of HT_.out (by kernel_rfl)) (by decide) (fun K hK => ?_)
   refine goes_ Try.func16 (by kernel_rfl) rfl #[.agg #[.int .i64 a0_0, .int .i64 a0_1], .agg #[.int .i64 a0_2, .int .i64 a0_3], .agg #[.int .i64 a0_4, .int .i64 a0_5], .int .i64 a1, .int .i64 a2] (by rfl) rfl rfl (by (try simp only [List.map_toArray, List.map_cons, List.map_nil]); first | done | rfl | (simp only [List.length_drop, List.length_take]; rfl)) ?_
   with_reducible refine (temperalaw12_has.calls a0_0 a0_1 a0_2 a0_3 a0_4 a0_5 a1 a2 t138 _ A152.out).mono ?_
   rintro e w156 ⟨rfl, hb⟩
   refine ⟨_, rfl, ?_⟩
   have n0_ := ak (blk_below (g := gb125) (o := .cells #[.int .i64 a0_0, .int .i64 a0_1, .int .i64 a0_2, .int .i64 a0_3, .int .i64 a0_4, .int .i64 a0_5, .int .i64 a0_6, .int .i64 a0_7] 36 (0, 0)) (by first | exact BK125.out | exact blk_drew BK125.out) hb)
   have n1_ := ak (blk_below (g := gb126) (o := .cells #[.int .i64 a0_0, .int .i64 a0_1] 23 (0, 0)) (by first | exact BK126.out | exact blk_drew BK126.out) hb)
   have n2_ := ak (blk_below (g := gb127) (o := .cells #[.int .i64 a0_2, .int .i64 a0_3] 23 (0, 0)) (by first | exact BK127.out | exact blk_drew BK127.out) hb)
   have n3_ := ak (blk_below (g := gb128) (o := .cells #[.int .i64 a0_4, .int .i64 a0_5] 23 (0, 0)) (by first | exact BK128.out | exact blk_drew BK128.out) hb)
   have n4_ := ak (blk_below (g := gb129) (o := .cells #[.int .i64 a0_6, .int .i64 a0_7] 23 (0, 0)) (by first | exact BK129.out | exact blk_drew BK129.out) hb)
   have n5_ := ak (below_step (by first | exact HB.out | exact below_drew1 HB.out) hb)
   clear BK125
   clear BK126
   clear BK127
   clear BK128
   clear BK129
   clear HB
   have BK125 := n0_
   have BK126 := n1_
   have BK127 := n2_
   have BK128 := n3_
   have BK129 := n4_
   have HB := n5_
   clear n0_ n1_ n2_ n3_ n4_ n5_
   (try clear hb)
   (try clear hb2)
   (try clear hk)
   (try clear hi)
   refine hK.out _ _ ⟨(blk_cell BK126.out 0).trans rfl, (blk_cell BK126.out 1).trans rfl, (blk_cell BK127.out 0).trans rfl, (blk_cell BK127.out 1).trans rfl, (blk_cell BK128.out 0).trans rfl, (blk_cell BK128.out 1).trans rfl, (blk_cell BK129.out 0).trans rfl, (blk_cell BK129.out 1).trans rfl⟩ (fun hHeld => ?_)
   clear hK K
   refine norm_ (a' := ?_) ?_ ?_
   rotate_left
   ·show Act.put _ (some 67) _ = _
    simp only [Act.put, List.setIfInBounds_toArray, List.set_cons_zero, List.set_cons_succ, i64_w, i32_w]
    rfl
   refine one_ (i := 11) (N := some 73) #[true, true, true, true, true, true, true, true, true, true, true, true, false, false] rfl rfl (one_of HT_.out (by kernel_rfl)) (by decide) (fun K hK => ?_)
   refine goes_ Try.func16 (by kernel_rfl) rfl #[.agg #[.int .i64 a0_2, .int .i64 a0_3], .agg #[.int .i64 a0_0, .int .i64 a0_1], .agg #[.int .i64 a0_6, .int .i64 a0_7], .int .i64 a1, .int .i64 a2] (by rfl) rfl rfl (by (try simp only [List.map_toArray, List.map_cons, List.map_nil]); first | done | rfl | (simp only [List.length_drop, List.length_take]; rfl)) ?_
   with_reducible refine (temperalaw12_has.calls a0_2 a0_3 a0_0 a0_1 a0_6 a0_7 a1 a2 t139 _ A153.out).mono ?_
   rintro e w157 ⟨rfl, hb⟩
   refine ⟨_, rfl, ?_⟩
   have n0_ := ak (blk_below (g := gb125) (o := .cells #[.int .i64 a0_0, .int .i64 a0_1, .int .i64 a0_2, .int .i64 a0_3, .int .i64 a0_4, .int .i64 a0_5, .int .i64 a0_6, .int .i64 a0_7] 36 (0, 0)) (by first | exact BK125.out | exact blk_drew BK125.out) hb)
   have n1_ := ak (blk_below (g := gb126) (o := .cells #[.int .i64 a0_0, .int .i64 a0_1] 23 (0, 0)) (by first | exact BK126.out | exact blk_drew BK126.out) hb)
   have n2_ := ak (blk_below (g := gb127) (o := .cells #[.int .i64 a0_2, .int .i64 a0_3] 23 (0, 0)) (by first | exact BK127.out | exact blk_drew BK127.out) hb)
   have n3_ := ak (blk_below (g := gb128) (o := .cells #[.int .i64 a0_4, .int .i64 a0_5] 23 (0, 0)) (by first | exact BK128.out | exact blk_drew BK128.out) hb)
   have n4_ := ak (blk_below (g := gb129) (o := .cells #[.int .i64 a0_6, .int .i64 a0_7] 23 (0, 0)) (by first | exact BK129.out | exact blk_drew BK129.out) hb)
   have n5_ := ak (below_step (by first | exact HB.out | exact below_drew1 HB.out) hb)
   clear BK125
   clear BK126
   clear BK127
   clear BK128
   clear BK129
   clear HB
   have BK125 := n0_
   have BK126 := n1_
   have BK127 := n2_
   have BK128 := n3_
   have BK129 := n4_
   have HB := n5_
   clear n0_ n1_ n2_ n3_ n4_ n5_
   (try clear hb)
   (try clear hb2)
   (try clear hk)
   (try clear hi)
   refine hK.out _ _ ⟨(blk_cell BK126.out 0).trans rfl, (blk_cell BK126.out 1).trans rfl, (blk_cell BK127.out 0).trans rfl, (blk_cell BK127.out 1).trans rfl, (blk_cell BK128.out 0).trans rfl, (blk_cell BK128.out 1).trans rfl, (blk_cell BK129.out 0).trans rfl, (blk_cell BK129.out 1).trans rfl⟩ (fun hHeld => ?_)
   clear hK K
   refine norm_ (a' := ?_) ?_ ?_
   rotate_left
   ·show Act.put _ (some 73) _ = _
    simp only [Act.put, List.setIfInBounds_toArray, List.set_cons_zero, List.set_cons_succ, i64_w, i32_w]
    rfl
   refine pure_ (i := 12) (N := some 11) (v := ?_) (a' := ?_) #[true, true, true, true, true, true, true, true, true, true, true, true, true, false] rfl rfl (any_of HT_.out (by kernel_rfl)) (fun _ _ _ h => h) (Or.inl ⟨by rfl, ?_⟩) ?_ ?_
   rotate_left
   ·intro w'
    go_simp
    with_reducible rfl
   rotate_left
   ·simp only [Act.put, List.setIfInBounds_toArray, List.set_cons_zero, List.set_cons_succ, i64_w, i32_w]
    rfl
   refine pure_ (i := 13) (N := some 12) (v := ?_) (a' := ?_) #[true, true, true, true, true, true, true, true, true, true, true, true, true, true] rfl rfl (any_of HT_.out (by kernel_rfl)) (fun _ _ _ h => h) (Or.inl ⟨by rfl, ?_⟩) ?_ ?_
   rotate_left
   ·intro w'
    go_simp
    with_reducible rfl
   rotate_left
   ·simp only [Act.put, List.setIfInBounds_toArray, List.set_cons_zero, List.set_cons_succ, i64_w, i32_w]
    rfl
   refine done_ (done_of HT_.out (by kernel_rfl)) ?_
   have FV := ak (Five.mk BK125.out BK126.out BK127.out BK128.out BK129.out HB.out)
   clear BK125 BK126 BK127 BK128 BK129 HB
   have hc0 := Five.c0 FV.out; have hc1 := Five.c1 FV.out; have hc2 := Five.c2 FV.out; have hc3 := Five.c3 FV.out; have hc4 := Five.c4 FV.out; have hc5 := Five.c5 FV.out; have hc6 := Five.c6 FV.out; have hc7 := Five.c7 FV.out
   have d1 : decide (1 < t138) = false := decide_eq_false (by omega)
   have d2 : decide (1 < t139) = false := decide_eq_false (by omega)
   have d3 : decide (1 < t138 + t139) = false := decide_eq_false (by omega)
   by_cases z0 : s3 = 0
   ·have y0 : (s3 == 0) = true := beq_iff_eq.mpr z0
    by_cases z1 : 0 < s4
    ·have y1 : decide (0 < s4) = true := decide_eq_true z1
     by_cases z2 : 0 < s5
     ·have y2 : decide (0 < s5) = true := decide_eq_true z2
      by_cases z3 : 0 < s6
      ·have y3 : decide (0 < s6) = true := decide_eq_true z3
       by_cases z4 : 0 < s7
       ·have y4 : decide (0 < s7) = true := decide_eq_true z4
        have d4 : (t138 + t139 == 1) = true := beq_iff_eq.mpr (ONE.out z0 z1 z2 z3 z4)
        clear z0 z1 z2 z3 z4 ONE hnm
        go_wp2_with (first | (go_at_call 11; (with_reducible refine (temperaref12_Middle.calls a1 a2 q1 q2 _ AM.out).mono ?_); rintro e w1 ⟨rfl, hb⟩; have FN := ak (Five.step (by first | exact FV.out | exact Five.drewN FV.out _ | exact Five.drew FV.out | exact Five.drew (Five.drewN FV.out _)) hb); clear FV hb hc0 hc1 hc2 hc3 hc4 hc5 hc6 hc7; have FV := FN; clear FN; have hc0 := Five.c0 FV.out; have hc1 := Five.c1 FV.out; have hc2 := Five.c2 FV.out; have hc3 := Five.c3 FV.out; have hc4 := Five.c4 FV.out; have hc5 := Five.c5 FV.out; have hc6 := Five.c6 FV.out; have hc7 := Five.c7 FV.out; have hz1 := blk_lt FV.out.k1; have hz2 := blk_lt FV.out.k2; have hz3 := blk_lt FV.out.k3; have hz4 := blk_lt FV.out.k4) | (go_at_call 15; (with_reducible refine (temperaref12_Side.calls a0_0 a0_1 a0_2 a0_3 q1 q2 s3 _ T3.out).mono ?_); rintro e w2 ⟨rfl, hb⟩; have PK := ak (blk_below (blk_new w1 _) hb); have FN := ak (Five.step (Five.alloc FV.out _) hb); clear FV hb hc0 hc1 hc2 hc3 hc4 hc5 hc6 hc7; have FV := FN; clear FN; have hc0 := Five.c0 FV.out; have hc1 := Five.c1 FV.out; have hc2 := Five.c2 FV.out; have hc3 := Five.c3 FV.out; have hc4 := Five.c4 FV.out; have hc5 := Five.c5 FV.out; have hc6 := Five.c6 FV.out; have hc7 := Five.c7 FV.out; have hq0 := (blk_cell PK.out 0).trans rfl; have hq1 := (blk_cell PK.out 1).trans rfl) | (go_at_call 15; (with_reducible refine (temperaref12_Side.calls a0_2 a0_3 a0_4 a0_5 q1 q2 s4 _ T4.out).mono ?_); rintro e w2 ⟨rfl, hb⟩; have PN := ak (blk_below PK.out hb); have FN := ak (Five.step FV.out hb); clear FV PK hb hq0 hq1 hc0 hc1 hc2 hc3 hc4 hc5 hc6 hc7; have FV := FN; have PK := PN; clear FN PN; have hc0 := Five.c0 FV.out; have hc1 := Five.c1 FV.out; have hc2 := Five.c2 FV.out; have hc3 := Five.c3 FV.out; have hc4 := Five.c4 FV.out; have hc5 := Five.c5 FV.out; have hc6 := Five.c6 FV.out; have hc7 := Five.c7 FV.out; have hq0 := (blk_cell PK.out 0).trans rfl; have hq1 := (blk_cell PK.out 1).trans rfl) | (go_at_call 15; (with_reducible refine (temperaref12_Side.calls a0_4 a0_5 a0_0 a0_1 q1 q2 s5 _ T5.out).mono ?_); rintro e w2 ⟨rfl, hb⟩; have PN := ak (blk_below PK.out hb); have FN := ak (Five.step FV.out hb); clear FV PK hb hq0 hq1 hc0 hc1 hc2 hc3 hc4 hc5 hc6 hc7; have FV := FN; have PK := PN; clear FN PN; have hc0 := Five.c0 FV.out; have hc1 := Five.c1 FV.out; have hc2 := Five.c2 FV.out; have hc3 := Five.c3 FV.out; have hc4 := Five.c4 FV.out; have hc5 := Five.c5 FV.out; have hc6 := Five.c6 FV.out; have hc7 := Five.c7 FV.out; have hq0 := (blk_cell PK.out 0).trans rfl; have hq1 := (blk_cell PK.out 1).trans rfl) | (go_at_call 15; (with_reducible refine (temperaref12_Side.calls a0_0 a0_1 a0_6 a0_7 q1 q2 s6 _ T6.out).mono ?_); rintro e w2 ⟨rfl, hb⟩; have PN := ak (blk_below PK.out hb); have FN := ak (Five.step FV.out hb); clear FV PK hb hq0 hq1 hc0 hc1 hc2 hc3 hc4 hc5 hc6 hc7; have FV := FN; have PK := PN; clear FN PN; have hc0 := Five.c0 FV.out; have hc1 := Five.c1 FV.out; have hc2 := Five.c2 FV.out; have hc3 := Five.c3 FV.out; have hc4 := Five.c4 FV.out; have hc5 := Five.c5 FV.out; have hc6 := Five.c6 FV.out; have hc7 := Five.c7 FV.out; have hq0 := (blk_cell PK.out 0).trans rfl; have hq1 := (blk_cell PK.out 1).trans rfl) | (go_at_call 15; (with_reducible refine (temperaref12_Side.calls a0_6 a0_7 a0_2 a0_3 q1 q2 s7 _ T7.out).mono ?_); rintro e w2 ⟨rfl, hb⟩; have PN := ak (blk_below PK.out hb); have FN := ak (Five.step FV.out hb); clear FV PK hb hq0 hq1 hc0 hc1 hc2 hc3 hc4 hc5 hc6 hc7; have FV := FN; have PK := PN; clear FN PN; have hc0 := Five.c0 FV.out; have hc1 := Five.c1 FV.out; have hc2 := Five.c2 FV.out; have hc3 := Five.c3 FV.out; have hc4 := Five.c4 FV.out; have hc5 := Five.c5 FV.out; have hc6 := Five.c6 FV.out; have hc7 := Five.c7 FV.out; have hq0 := (blk_cell PK.out 0).trans rfl; have hq1 := (blk_cell PK.out 1).trans rfl) | (go_at_call 10; (with_reducible refine (temperalaw12_awake.calls true _ awake_is).mono ?_); rintro e w1 ⟨rfl, hb⟩; have HE := ak (below_step (by first | exact FV.out.b | exact (Five.drewN FV.out _).b | exact (Five.drew FV.out).b | exact (Five.drew (Five.drewN FV.out _)).b) hb)))
        go_ret
        exact ⟨rfl, HE.out⟩
       ·have y4 : decide (0 < s7) = false := decide_eq_false z4
        clear z0 z1 z2 z3 z4 ONE hnm
        go_wp2_with (first | (go_at_call 11; (with_reducible refine (temperaref12_Middle.calls a1 a2 q1 q2 _ AM.out).mono ?_); rintro e w1 ⟨rfl, hb⟩; have FN := ak (Five.step (by first | exact FV.out | exact Five.drewN FV.out _ | exact Five.drew FV.out | exact Five.drew (Five.drewN FV.out _)) hb); clear FV hb hc0 hc1 hc2 hc3 hc4 hc5 hc6 hc7; have FV := FN; clear FN; have hc0 := Five.c0 FV.out; have hc1 := Five.c1 FV.out; have hc2 := Five.c2 FV.out; have hc3 := Five.c3 FV.out; have hc4 := Five.c4 FV.out; have hc5 := Five.c5 FV.out; have hc6 := Five.c6 FV.out; have hc7 := Five.c7 FV.out; have hz1 := blk_lt FV.out.k1; have hz2 := blk_lt FV.out.k2; have hz3 := blk_lt FV.out.k3; have hz4 := blk_lt FV.out.k4) | (go_at_call 15; (with_reducible refine (temperaref12_Side.calls a0_0 a0_1 a0_2 a0_3 q1 q2 s3 _ T3.out).mono ?_); rintro e w2 ⟨rfl, hb⟩; have PK := ak (blk_below (blk_new w1 _) hb); have FN := ak (Five.step (Five.alloc FV.out _) hb); clear FV hb hc0 hc1 hc2 hc3 hc4 hc5 hc6 hc7; have FV := FN; clear FN; have hc0 := Five.c0 FV.out; have hc1 := Five.c1 FV.out; have hc2 := Five.c2 FV.out; have hc3 := Five.c3 FV.out; have hc4 := Five.c4 FV.out; have hc5 := Five.c5 FV.out; have hc6 := Five.c6 FV.out; have hc7 := Five.c7 FV.out; have hq0 := (blk_cell PK.out 0).trans rfl; have hq1 := (blk_cell PK.out 1).trans rfl) | (go_at_call 15; (with_reducible refine (temperaref12_Side.calls a0_2 a0_3 a0_4 a0_5 q1 q2 s4 _ T4.out).mono ?_); rintro e w2 ⟨rfl, hb⟩; have PN := ak (blk_below PK.out hb); have FN := ak (Five.step FV.out hb); clear FV PK hb hq0 hq1 hc0 hc1 hc2 hc3 hc4 hc5 hc6 hc7; have FV := FN; have PK := PN; clear FN PN; have hc0 := Five.c0 FV.out; have hc1 := Five.c1 FV.out; have hc2 := Five.c2 FV.out; have hc3 := Five.c3 FV.out; have hc4 := Five.c4 FV.out; have hc5 := Five.c5 FV.out; have hc6 := Five.c6 FV.out; have hc7 := Five.c7 FV.out; have hq0 := (blk_cell PK.out 0).trans rfl; have hq1 := (blk_cell PK.out 1).trans rfl) | (go_at_call 15; (with_reducible refine (temperaref12_Side.calls a0_4 a0_5 a0_0 a0_1 q1 q2 s5 _ T5.out).mono ?_); rintro e w2 ⟨rfl, hb⟩; have PN := ak (blk_below PK.out hb); have FN := ak (Five.step FV.out hb); clear FV PK hb hq0 hq1 hc0 hc1 hc2 hc3 hc4 hc5 hc6 hc7; have FV := FN; have PK := PN; clear FN PN; have hc0 := Five.c0 FV.out; have hc1 := Five.c1 FV.out; have hc2 := Five.c2 FV.out; have hc3 := Five.c3 FV.out; have hc4 := Five.c4 FV.out; have hc5 := Five.c5 FV.out; have hc6 := Five.c6 FV.out; have hc7 := Five.c7 FV.out; have hq0 := (blk_cell PK.out 0).trans rfl; have hq1 := (blk_cell PK.out 1).trans rfl) | (go_at_call 15; (with_reducible refine (temperaref12_Side.calls a0_0 a0_1 a0_6 a0_7 q1 q2 s6 _ T6.out).mono ?_); rintro e w2 ⟨rfl, hb⟩; have PN := ak (blk_below PK.out hb); have FN := ak (Five.step FV.out hb); clear FV PK hb hq0 hq1 hc0 hc1 hc2 hc3 hc4 hc5 hc6 hc7; have FV := FN; have PK := PN; clear FN PN; have hc0 := Five.c0 FV.out; have hc1 := Five.c1 FV.out; have hc2 := Five.c2 FV.out; have hc3 := Five.c3 FV.out; have hc4 := Five.c4 FV.out; have hc5 := Five.c5 FV.out; have hc6 := Five.c6 FV.out; have hc7 := Five.c7 FV.out; have hq0 := (blk_cell PK.out 0).trans rfl; have hq1 := (blk_cell PK.out 1).trans rfl) | (go_at_call 15; (with_reducible refine (temperaref12_Side.calls a0_6 a0_7 a0_2 a0_3 q1 q2 s7 _ T7.out).mono ?_); rintro e w2 ⟨rfl, hb⟩; have PN := ak (blk_below PK.out hb); have FN := ak (Five.step FV.out hb); clear FV PK hb hq0 hq1 hc0 hc1 hc2 hc3 hc4 hc5 hc6 hc7; have FV := FN; have PK := PN; clear FN PN; have hc0 := Five.c0 FV.out; have hc1 := Five.c1 FV.out; have hc2 := Five.c2 FV.out; have hc3 := Five.c3 FV.out; have hc4 := Five.c4 FV.out; have hc5 := Five.c5 FV.out; have hc6 := Five.c6 FV.out; have hc7 := Five.c7 FV.out; have hq0 := (blk_cell PK.out 0).trans rfl; have hq1 := (blk_cell PK.out 1).trans rfl) | (go_at_call 10; (with_reducible refine (temperalaw12_awake.calls true _ awake_is).mono ?_); rintro e w1 ⟨rfl, hb⟩; have HE := ak (below_step (by first | exact FV.out.b | exact (Five.drewN FV.out _).b | exact (Five.drew FV.out).b | exact (Five.drew (Five.drewN FV.out _)).b) hb)))
        go_ret
        exact ⟨rfl, HE.out⟩
      ·have y3 : decide (0 < s6) = false := decide_eq_false z3
       clear z0 z1 z2 z3 ONE hnm
       go_wp2_with (first | (go_at_call 11; (with_reducible refine (temperaref12_Middle.calls a1 a2 q1 q2 _ AM.out).mono ?_); rintro e w1 ⟨rfl, hb⟩; have FN := ak (Five.step (by first | exact FV.out | exact Five.drewN FV.out _ | exact Five.drew FV.out | exact Five.drew (Five.drewN FV.out _)) hb); clear FV hb hc0 hc1 hc2 hc3 hc4 hc5 hc6 hc7; have FV := FN; clear FN; have hc0 := Five.c0 FV.out; have hc1 := Five.c1 FV.out; have hc2 := Five.c2 FV.out; have hc3 := Five.c3 FV.out; have hc4 := Five.c4 FV.out; have hc5 := Five.c5 FV.out; have hc6 := Five.c6 FV.out; have hc7 := Five.c7 FV.out; have hz1 := blk_lt FV.out.k1; have hz2 := blk_lt FV.out.k2; have hz3 := blk_lt FV.out.k3; have hz4 := blk_lt FV.out.k4) | (go_at_call 15; (with_reducible refine (temperaref12_Side.calls a0_0 a0_1 a0_2 a0_3 q1 q2 s3 _ T3.out).mono ?_); rintro e w2 ⟨rfl, hb⟩; have PK := ak (blk_below (blk_new w1 _) hb); have FN := ak (Five.step (Five.alloc FV.out _) hb); clear FV hb hc0 hc1 hc2 hc3 hc4 hc5 hc6 hc7; have FV := FN; clear FN; have hc0 := Five.c0 FV.out; have hc1 := Five.c1 FV.out; have hc2 := Five.c2 FV.out; have hc3 := Five.c3 FV.out; have hc4 := Five.c4 FV.out; have hc5 := Five.c5 FV.out; have hc6 := Five.c6 FV.out; have hc7 := Five.c7 FV.out; have hq0 := (blk_cell PK.out 0).trans rfl; have hq1 := (blk_cell PK.out 1).trans rfl) | (go_at_call 15; (with_reducible refine (temperaref12_Side.calls a0_2 a0_3 a0_4 a0_5 q1 q2 s4 _ T4.out).mono ?_); rintro e w2 ⟨rfl, hb⟩; have PN := ak (blk_below PK.out hb); have FN := ak (Five.step FV.out hb); clear FV PK hb hq0 hq1 hc0 hc1 hc2 hc3 hc4 hc5 hc6 hc7; have FV := FN; have PK := PN; clear FN PN; have hc0 := Five.c0 FV.out; have hc1 := Five.c1 FV.out; have hc2 := Five.c2 FV.out; have hc3 := Five.c3 FV.out; have hc4 := Five.c4 FV.out; have hc5 := Five.c5 FV.out; have hc6 := Five.c6 FV.out; have hc7 := Five.c7 FV.out; have hq0 := (blk_cell PK.out 0).trans rfl; have hq1 := (blk_cell PK.out 1).trans rfl) | (go_at_call 15; (with_reducible refine (temperaref12_Side.calls a0_4 a0_5 a0_0 a0_1 q1 q2 s5 _ T5.out).mono ?_); rintro e w2 ⟨rfl, hb⟩; have PN := ak (blk_below PK.out hb); have FN := ak (Five.step FV.out hb); clear FV PK hb hq0 hq1 hc0 hc1 hc2 hc3 hc4 hc5 hc6 hc7; have FV := FN; have PK := PN; clear FN PN; have hc0 := Five.c0 FV.out; have hc1 := Five.c1 FV.out; have hc2 := Five.c2 FV.out; have hc3 := Five.c3 FV.out; have hc4 := Five.c4 FV.out; have hc5 := Five.c5 FV.out; have hc6 := Five.c6 FV.out; have hc7 := Five.c7 FV.out; have hq0 := (blk_cell PK.out 0).trans rfl; have hq1 := (blk_cell PK.out 1).trans rfl) | (go_at_call 15; (with_reducible refine (temperaref12_Side.calls a0_0 a0_1 a0_6 a0_7 q1 q2 s6 _ T6.out).mono ?_); rintro e w2 ⟨rfl, hb⟩; have PN := ak (blk_below PK.out hb); have FN := ak (Five.step FV.out hb); clear FV PK hb hq0 hq1 hc0 hc1 hc2 hc3 hc4 hc5 hc6 hc7; have FV := FN; have PK := PN; clear FN PN; have hc0 := Five.c0 FV.out; have hc1 := Five.c1 FV.out; have hc2 := Five.c2 FV.out; have hc3 := Five.c3 FV.out; have hc4 := Five.c4 FV.out; have hc5 := Five.c5 FV.out; have hc6 := Five.c6 FV.out; have hc7 := Five.c7 FV.out; have hq0 := (blk_cell PK.out 0).trans rfl; have hq1 := (blk_cell PK.out 1).trans rfl) | (go_at_call 10; (with_reducible refine (temperalaw12_awake.calls true _ awake_is).mono ?_); rintro e w1 ⟨rfl, hb⟩; have HE := ak (below_step (by first | exact FV.out.b | exact (Five.drewN FV.out _).b | exact (Five.drew FV.out).b | exact (Five.drew (Five.drewN FV.out _)).b) hb)))
       go_ret
       exact ⟨rfl, HE.out⟩
     ·have y2 : decide (0 < s5) = false := decide_eq_false z2
      clear z0 z1 z2 ONE hnm
      go_wp2_with (first | (go_at_call 11; (with_reducible refine (temperaref12_Middle.calls a1 a2 q1 q2 _ AM.out).mono ?_); rintro e w1 ⟨rfl, hb⟩; have FN := ak (Five.step (by first | exact FV.out | exact Five.drewN FV.out _ | exact Five.drew FV.out | exact Five.drew (Five.drewN FV.out _)) hb); clear FV hb hc0 hc1 hc2 hc3 hc4 hc5 hc6 hc7; have FV := FN; clear FN; have hc0 := Five.c0 FV.out; have hc1 := Five.c1 FV.out; have hc2 := Five.c2 FV.out; have hc3 := Five.c3 FV.out; have hc4 := Five.c4 FV.out; have hc5 := Five.c5 FV.out; have hc6 := Five.c6 FV.out; have hc7 := Five.c7 FV.out; have hz1 := blk_lt FV.out.k1; have hz2 := blk_lt FV.out.k2; have hz3 := blk_lt FV.out.k3; have hz4 := blk_lt FV.out.k4) | (go_at_call 15; (with_reducible refine (temperaref12_Side.calls a0_0 a0_1 a0_2 a0_3 q1 q2 s3 _ T3.out).mono ?_); rintro e w2 ⟨rfl, hb⟩; have PK := ak (blk_below (blk_new w1 _) hb); have FN := ak (Five.step (Five.alloc FV.out _) hb); clear FV hb hc0 hc1 hc2 hc3 hc4 hc5 hc6 hc7; have FV := FN; clear FN; have hc0 := Five.c0 FV.out; have hc1 := Five.c1 FV.out; have hc2 := Five.c2 FV.out; have hc3 := Five.c3 FV.out; have hc4 := Five.c4 FV.out; have hc5 := Five.c5 FV.out; have hc6 := Five.c6 FV.out; have hc7 := Five.c7 FV.out; have hq0 := (blk_cell PK.out 0).trans rfl; have hq1 := (blk_cell PK.out 1).trans rfl) | (go_at_call 15; (with_reducible refine (temperaref12_Side.calls a0_2 a0_3 a0_4 a0_5 q1 q2 s4 _ T4.out).mono ?_); rintro e w2 ⟨rfl, hb⟩; have PN := ak (blk_below PK.out hb); have FN := ak (Five.step FV.out hb); clear FV PK hb hq0 hq1 hc0 hc1 hc2 hc3 hc4 hc5 hc6 hc7; have FV := FN; have PK := PN; clear FN PN; have hc0 := Five.c0 FV.out; have hc1 := Five.c1 FV.out; have hc2 := Five.c2 FV.out; have hc3 := Five.c3 FV.out; have hc4 := Five.c4 FV.out; have hc5 := Five.c5 FV.out; have hc6 := Five.c6 FV.out; have hc7 := Five.c7 FV.out; have hq0 := (blk_cell PK.out 0).trans rfl; have hq1 := (blk_cell PK.out 1).trans rfl) | (go_at_call 15; (with_reducible refine (temperaref12_Side.calls a0_4 a0_5 a0_0 a0_1 q1 q2 s5 _ T5.out).mono ?_); rintro e w2 ⟨rfl, hb⟩; have PN := ak (blk_below PK.out hb); have FN := ak (Five.step FV.out hb); clear FV PK hb hq0 hq1 hc0 hc1 hc2 hc3 hc4 hc5 hc6 hc7; have FV := FN; have PK := PN; clear FN PN; have hc0 := Five.c0 FV.out; have hc1 := Five.c1 FV.out; have hc2 := Five.c2 FV.out; have hc3 := Five.c3 FV.out; have hc4 := Five.c4 FV.out; have hc5 := Five.c5 FV.out; have hc6 := Five.c6 FV.out; have hc7 := Five.c7 FV.out; have hq0 := (blk_cell PK.out 0).trans rfl; have hq1 := (blk_cell PK.out 1).trans rfl) | (go_at_call 10; (with_reducible refine (temperalaw12_awake.calls true _ awake_is).mono ?_); rintro e w1 ⟨rfl, hb⟩; have HE := ak (below_step (by first | exact FV.out.b | exact (Five.drewN FV.out _).b | exact (Five.drew FV.out).b | exact (Five.drew (Five.drewN FV.out _)).b) hb)))
      go_ret
      exact ⟨rfl, HE.out⟩
    ·have y1 : decide (0 < s4) = false := decide_eq_false z1
     clear z0 z1 ONE hnm
     go_wp2_with (first | (go_at_call 11; (with_reducible refine (temperaref12_Middle.calls a1 a2 q1 q2 _ AM.out).mono ?_); rintro e w1 ⟨rfl, hb⟩; have FN := ak (Five.step (by first | exact FV.out | exact Five.drewN FV.out _ | exact Five.drew FV.out | exact Five.drew (Five.drewN FV.out _)) hb); clear FV hb hc0 hc1 hc2 hc3 hc4 hc5 hc6 hc7; have FV := FN; clear FN; have hc0 := Five.c0 FV.out; have hc1 := Five.c1 FV.out; have hc2 := Five.c2 FV.out; have hc3 := Five.c3 FV.out; have hc4 := Five.c4 FV.out; have hc5 := Five.c5 FV.out; have hc6 := Five.c6 FV.out; have hc7 := Five.c7 FV.out; have hz1 := blk_lt FV.out.k1; have hz2 := blk_lt FV.out.k2; have hz3 := blk_lt FV.out.k3; have hz4 := blk_lt FV.out.k4) | (go_at_call 15; (with_reducible refine (temperaref12_Side.calls a0_0 a0_1 a0_2 a0_3 q1 q2 s3 _ T3.out).mono ?_); rintro e w2 ⟨rfl, hb⟩; have PK := ak (blk_below (blk_new w1 _) hb); have FN := ak (Five.step (Five.alloc FV.out _) hb); clear FV hb hc0 hc1 hc2 hc3 hc4 hc5 hc6 hc7; have FV := FN; clear FN; have hc0 := Five.c0 FV.out; have hc1 := Five.c1 FV.out; have hc2 := Five.c2 FV.out; have hc3 := Five.c3 FV.out; have hc4 := Five.c4 FV.out; have hc5 := Five.c5 FV.out; have hc6 := Five.c6 FV.out; have hc7 := Five.c7 FV.out; have hq0 := (blk_cell PK.out 0).trans rfl; have hq1 := (blk_cell PK.out 1).trans rfl) | (go_at_call 15; (with_reducible refine (temperaref12_Side.calls a0_2 a0_3 a0_4 a0_5 q1 q2 s4 _ T4.out).mono ?_); rintro e w2 ⟨rfl, hb⟩; have PN := ak (blk_below PK.out hb); have FN := ak (Five.step FV.out hb); clear FV PK hb hq0 hq1 hc0 hc1 hc2 hc3 hc4 hc5 hc6 hc7; have FV := FN; have PK := PN; clear FN PN; have hc0 := Five.c0 FV.out; have hc1 := Five.c1 FV.out; have hc2 := Five.c2 FV.out; have hc3 := Five.c3 FV.out; have hc4 := Five.c4 FV.out; have hc5 := Five.c5 FV.out; have hc6 := Five.c6 FV.out; have hc7 := Five.c7 FV.out; have hq0 := (blk_cell PK.out 0).trans rfl; have hq1 := (blk_cell PK.out 1).trans rfl) | (go_at_call 10; (with_reducible refine (temperalaw12_awake.calls true _ awake_is).mono ?_); rintro e w1 ⟨rfl, hb⟩; have HE := ak (below_step (by first | exact FV.out.b | exact (Five.drewN FV.out _).b | exact (Five.drew FV.out).b | exact (Five.drew (Five.drewN FV.out _)).b) hb)))
     go_ret
     exact ⟨rfl, HE.out⟩
   ·have y0 : (s3 == 0) = false := beq_eq_false_iff_ne.mpr z0
    clear z0 ONE hnm
    go_wp2_with (first | (go_at_call 11; (with_reducible refine (temperaref12_Middle.calls a1 a2 q1 q2 _ AM.out).mono ?_); rintro e w1 ⟨rfl, hb⟩; have FN := ak (Five.step (by first | exact FV.out | exact Five.drewN FV.out _ | exact Five.drew FV.out | exact Five.drew (Five.drewN FV.out _)) hb); clear FV hb hc0 hc1 hc2 hc3 hc4 hc5 hc6 hc7; have FV := FN; clear FN; have hc0 := Five.c0 FV.out; have hc1 := Five.c1 FV.out; have hc2 := Five.c2 FV.out; have hc3 := Five.c3 FV.out; have hc4 := Five.c4 FV.out; have hc5 := Five.c5 FV.out; have hc6 := Five.c6 FV.out; have hc7 := Five.c7 FV.out; have hz1 := blk_lt FV.out.k1; have hz2 := blk_lt FV.out.k2; have hz3 := blk_lt FV.out.k3; have hz4 := blk_lt FV.out.k4) | (go_at_call 15; (with_reducible refine (temperaref12_Side.calls a0_0 a0_1 a0_2 a0_3 q1 q2 s3 _ T3.out).mono ?_); rintro e w2 ⟨rfl, hb⟩; have PK := ak (blk_below (blk_new w1 _) hb); have FN := ak (Five.step (Five.alloc FV.out _) hb); clear FV hb hc0 hc1 hc2 hc3 hc4 hc5 hc6 hc7; have FV := FN; clear FN; have hc0 := Five.c0 FV.out; have hc1 := Five.c1 FV.out; have hc2 := Five.c2 FV.out; have hc3 := Five.c3 FV.out; have hc4 := Five.c4 FV.out; have hc5 := Five.c5 FV.out; have hc6 := Five.c6 FV.out; have hc7 := Five.c7 FV.out; have hq0 := (blk_cell PK.out 0).trans rfl; have hq1 := (blk_cell PK.out 1).trans rfl) | (go_at_call 10; (with_reducible refine (temperalaw12_awake.calls true _ awake_is).mono ?_); rintro e w1 ⟨rfl, hb⟩; have HE := ak (below_step (by first | exact FV.out.b | exact (Five.drewN FV.out _).b | exact (Five.drew FV.out).b | exact (Five.drew (Five.drewN FV.out _)).b) hb)))
    go_ret
    exact ⟨rfl, HE.out⟩
end Go.Proofs.Ytbbadldapnanpaa.PEdge
