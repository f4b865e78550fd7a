/- The laws of the package sten, as plain statements, and their walks: at whatever stencil test and numbers each returns true, and nothing that was in memory is turned. Conditions: none. -/
import Derived.Test.YthojeidldnjpaaaStenPlain
namespace Go.Proofs.Ythojeidldnjpaaa.PSten
open Go.RowKit Go.Proofs.YthojeidldnjpaaaW.PrintWords Go.Proofs.YthojeidldnjpaaaW.PrintLast
set_option linter.unusedVariables false

def passB (k a b : Int) : Bool := (temperaref08_Passes.f k a b).getD false

theorem sbelow (a b : Int) (h : a < b) : depth_relation.f a b = some 1 := by simp [depth_relation.f, h]
theorem sabove (a b : Int) (h : b < a) : depth_relation.f a b = some 4 := by
  have : ¬ a < b := by omega
  simp [depth_relation.f, h, this]
theorem salike (a : Int) : depth_relation.f a a = some 2 := by simp [depth_relation.f]

theorem pass_some (k a b : Int) : temperaref08_Passes.f k a b = some (passB k a b) := by
  unfold passB temperaref08_Passes.f
  (repeat' split) <;> rfl

/-- A test passes as the document says. -/
theorem pass_is (k a b : Int) (h : kindB k = true) : depth_Passes.f k a b = some (passB k a b, 0) := by
  rw [kindB_iff] at h
  have e : k = 0 ∨ k = 1 ∨ k = 2 ∨ k = 3 ∨ k = 4 ∨ k = 5 ∨ k = 6 ∨ k = 7 := by omega
  have hp : ∃ p, depth_Passes.f k a b = some (p, 0) ∧ temperaref08_Passes.f k a b = some p := by
    by_cases c1 : a < b
    · have r1 := sbelow a b c1
      have h4 : a ≤ b := by omega
      have h5 : ¬ b ≤ a := by omega
      have h2 : ¬ b < a := by omega
      have h3 : a ≠ b := by omega
      have h6 : (a == b) = false := beq_eq_false_iff_ne.mpr h3
      have h7 : (a != b) = true := bne_iff_ne.mpr h3
      rcases e with rfl | rfl | rfl | rfl | rfl | rfl | rfl | rfl <;> exact ⟨_, by simp [depth_Passes.f, depth_check.f, r1]; rfl, by simp [temperaref08_Passes.f, c1, h2, h4, h5, h6, h7]; decide⟩
    · by_cases c2 : b < a
      · have r1 := sabove a b c2
        have h4 : b ≤ a := by omega
        have h5 : ¬ a ≤ b := by omega
        have h3 : a ≠ b := by omega
        have h6 : (a == b) = false := beq_eq_false_iff_ne.mpr h3
        have h7 : (a != b) = true := bne_iff_ne.mpr h3
        rcases e with rfl | rfl | rfl | rfl | rfl | rfl | rfl | rfl <;> exact ⟨_, by simp [depth_Passes.f, depth_check.f, r1]; rfl, by simp [temperaref08_Passes.f, c1, c2, h4, h5, h6, h7]; decide⟩
      · obtain rfl : a = b := by omega
        have r1 := salike a
        rcases e with rfl | rfl | rfl | rfl | rfl | rfl | rfl | rfl <;> exact ⟨_, by simp [depth_Passes.f, depth_check.f, r1]; rfl, by simp [temperaref08_Passes.f]; decide⟩
  obtain ⟨p, h1, h2⟩ := hp
  rw [pass_some] at h2
  rw [h1, Option.some.inj h2]

theorem nat_of {x : Int} (h : byB x = true) : ∃ n : Nat, x = (n : Int) ∧ n < 256 := by
  rw [byB_iff] at h
  exact ⟨x.toNat, by omega, by omega⟩

theorem chk_zero {s0 s1 s2 s3 s4 s5 s6 : Int} (h : chk s0 s1 s2 s3 s4 s5 s6 = 0) :
    kindB s0 = true ∧ kindB s4 = true ∧ kindB s5 = true ∧ kindB s6 = true ∧ byB s1 = true ∧ byB s2 = true ∧ byB s3 = true := by
  unfold chk at h
  revert h
  cases kindB s0 <;> cases kindB s4 <;> cases kindB s5 <;> cases kindB s6 <;> cases byB s1 <;> cases byB s2 <;> cases byB s3 <;> simp

theorem test_bad (k : Nat) (s0 s1 s2 s3 s4 s5 s6 old : Int) (h : ¬ chk s0 s1 s2 s3 s4 s5 s6 = 0) : sten_Test.f (k + 1) s0 s1 s2 s3 s4 s5 s6 old = some (false, chk s0 s1 s2 s3 s4 s5 s6) := by
  unfold sten_Test.f
  rw [check_is]
  simp only [Option.bind_some]
  rw [if_neg h]
theorem test_range (k : Nat) (s0 s1 s2 s3 s4 s5 s6 old : Int) (h : chk s0 s1 s2 s3 s4 s5 s6 = 0) (ho : byB old = false) : sten_Test.f (k + 1) s0 s1 s2 s3 s4 s5 s6 old = some (false, 3) := by
  unfold sten_Test.f
  rw [check_is]
  simp only [Option.bind_some]
  rw [if_pos h, is_is, ho]
  rfl
theorem test_ok (k R M O : Nat) (s0 s3 s4 s5 s6 : Int) (h : chk s0 R M s3 s4 s5 s6 = 0) (hR : R < 256) (hM : M < 256) (hO : O < 256) :
    sten_Test.f (k + 1) s0 R M s3 s4 s5 s6 O = some (passB s0 ((R &&& M : Nat) : Int) ((O &&& M : Nat) : Int), 0) := by
  unfold sten_Test.f
  rw [check_is]
  simp only [Option.bind_some]
  have ho : byB (O : Int) = true := by rw [byB_iff]; omega
  rw [if_pos h, is_is, ho]
  simp only [Option.bind_some, if_true]
  rw [and_nat R M hR hM, and_nat O M hO hM, pass_is _ _ _ (chk_zero h).1]
  rfl
theorem rtest_ok (k R M O : Nat) (s0 s3 s4 s5 s6 : Int) (hR : R < 256) (hM : M < 256) (hO : O < 256) :
    temperaref09_Test.f (k + 9) s0 R M s3 s4 s5 s6 O = some (passB s0 ((R &&& M : Nat) : Int) ((O &&& M : Nat) : Int)) := by
  unfold temperaref09_Test.f
  rw [and_is R M k hR hM, and_is O M k hO hM]
  simp only [Option.bind_some]
  rw [pass_some]
  rfl

theorem awake21 : temperalaw09_awake.f 21 = some true := awake_mono 20 awake_is
theorem awake22 : temperalaw09_awake.f 22 = some true := awake_mono 21 awake21

theorem stenTests_pure (s0 s1 s2 s3 s4 s5 s6 old other : Int) : temperalaw09_StenTests.f 22 s0 s1 s2 s3 s4 s5 s6 old other = some true := by
  unfold temperalaw09_StenTests.f
  rw [rcheck_is 21, check_is 21]
  by_cases hc : chk s0 s1 s2 s3 s4 s5 s6 = 0
  · cases ho : byB old with
    | false =>
      rw [test_range 21 _ _ _ _ _ _ _ _ hc ho]
      simp [hc, ris_is, ho, awake22]
    | true =>
      obtain ⟨k0, _, _, _, b1, b2, b3⟩ := chk_zero hc
      obtain ⟨R, rfl, hR⟩ := nat_of b1
      obtain ⟨M, rfl, hM⟩ := nat_of b2
      obtain ⟨O, rfl, hO⟩ := nat_of ho
      have hj1 : temperalaw09_StenTests.j1 21 O (passB s0 ((R &&& M : Nat) : Int) ((O &&& M : Nat) : Int)) 0 false s0 R M s3 s4 s5 s6 = some true := by
        show temperalaw09_StenTests.j1 (20 + 1) _ _ _ _ _ _ _ _ _ _ _ = _
        simp only [temperalaw09_StenTests.j1]
        rw [rtest_ok 11 R M O _ _ _ _ _ hR hM hO]
        simp [awake_is]
      have hjf : temperalaw09_StenTests.j0 22 O other (passB s0 ((R &&& M : Nat) : Int) ((O &&& M : Nat) : Int)) 0 false s0 R M s3 s4 s5 s6 = some true := by
        show temperalaw09_StenTests.j0 (21 + 1) _ _ _ _ _ _ _ _ _ _ _ _ = _
        simp only [temperalaw09_StenTests.j0]
        rw [rtest_ok 12 R M O _ _ _ _ _ hR hM hO]
        simp [awake21]
      rw [test_ok 21 R M O _ _ _ _ _ hc hR hM hO]
      simp only [Option.bind_some]
      rw [if_pos trivial, if_pos hc, ris_is, ho]
      simp only [Option.bind_some, if_true, ris_is]
      cases hq : byB other with
      | false =>
        rw [if_neg (by decide)]
        exact hjf
      | true =>
        rw [if_pos rfl]
        obtain ⟨Q, rfl, hQ⟩ := nat_of hq
        rw [and_is O M 13 hO hM, and_is Q M 13 hQ hM]
        simp only [Option.bind_some]
        by_cases he : O &&& M = Q &&& M
        · rw [he]
          have : ((((Q &&& M : Nat) : Int)) == ((Q &&& M : Nat) : Int)) = true := beq_self_eq_true _
          rw [this]
          show temperalaw09_StenTests.j0 (21 + 1) _ _ _ _ _ _ _ _ _ _ _ _ = _
          simp only [temperalaw09_StenTests.j0]
          rw [if_pos trivial, test_ok 20 R M Q _ _ _ _ _ hc hR hM hQ]
          simp only [Option.bind_some]
          rw [he] at hj1
          rw [if_neg (by simp)]
          exact hj1
        · have : (((O &&& M : Nat) : Int) == ((Q &&& M : Nat) : Int)) = false := beq_eq_false_iff_ne.mpr (by omega)
          rw [this]
          exact hjf
  · rw [test_bad 21 _ _ _ _ _ _ _ _ hc]
    simp [hc, awake22]

theorem stenTests_walk (s0 s1 s2 s3 s4 s5 s6 old other : Int) (w : World) :
    Calls Try.prog 3 #[.agg #[.int .i64 s0, .int .i64 s1, .int .i64 s2, .int .i64 s3, .int .i64 s4, .int .i64 s5, .int .i64 s6], .int .i64 old, .int .i64 other] w fun e w' => e = .returned (.bool true) ∧ Below w.heap.size w w' :=
  temperalaw09_StenTests.calls 22 s0 s1 s2 s3 s4 s5 s6 old other true w (stenTests_pure s0 s1 s2 s3 s4 s5 s6 old other)

theorem stenDeeds_walk (kind old ref : Int) (w : World) :
    Calls Try.prog 5 #[.int .i64 kind, .int .i64 old, .int .i64 ref] w fun e w' => e = .returned (.bool true) ∧ Below w.heap.size w w' :=
  temperalaw09_StenDeeds.calls 22 kind old ref true w (stenDeeds_pure kind old ref)

/-! ### StenPuts -/
theorem sput_bad (s0 s1 s2 s3 s4 s5 s6 how old : Int) (h : ¬ chk s0 s1 s2 s3 s4 s5 s6 = 0) : sten_Put.f s0 s1 s2 s3 s4 s5 s6 how old = some (0, chk s0 s1 s2 s3 s4 s5 s6) := by
  unfold sten_Put.f
  rw [check_is 0]
  simp only [Option.bind_some]
  rw [if_neg h]
theorem sput_how (s0 s1 s2 s3 s4 s5 s6 how old : Int) (h : chk s0 s1 s2 s3 s4 s5 s6 = 0) (hh : how < 0 ∨ 2 < how) : sten_Put.f s0 s1 s2 s3 s4 s5 s6 how old = some (0, 2) := by
  unfold sten_Put.f
  rw [check_is 0]
  simp only [Option.bind_some]
  rw [if_pos h]
  by_cases h1 : how < 0
  · rw [if_pos h1]
  · rw [if_neg h1, if_pos (by omega)]

def sel (how s4 s5 s6 : Int) : Int := if how = 0 then s4 else if how = 1 then s5 else s6
theorem sel_kind {how s4 s5 s6 : Int} (h4 : kindB s4 = true) (h5 : kindB s5 = true) (h6 : kindB s6 = true) : kindB (sel how s4 s5 s6) = true := by
  unfold sel
  (repeat' split) <;> assumption

theorem sput_range (s0 s1 s2 s3 s4 s5 s6 how old : Int) (h : chk s0 s1 s2 s3 s4 s5 s6 = 0) (hh : 0 ≤ how ∧ how ≤ 2) (ho : byB old = false) : sten_Put.f s0 s1 s2 s3 s4 s5 s6 how old = some (0, 3) := by
  obtain ⟨_, k4, k5, k6, b1, _, _⟩ := chk_zero h
  unfold sten_Put.f
  rw [check_is 0]
  simp only [Option.bind_some]
  rw [if_pos h, if_neg (by omega), if_neg (by omega)]
  have := deed_range (old := old) (ref := s1) (sel_kind (how := how) k4 k5 k6) (by rw [ho]; rfl)
  unfold sel at this
  rw [this]
  rfl

theorem sput_ok (R M W O : Nat) (s0 s4 s5 s6 how : Int) (h : chk s0 R M W s4 s5 s6 = 0) (hh : 0 ≤ how ∧ how ≤ 2) (hR : R < 256) (hW : W < 256) (hO : O < 256) :
    ∃ D : Nat, D < 256 ∧ dd (sel how s4 s5 s6) O R = (D : Int) ∧ temperaref09_Deed.f (sel how s4 s5 s6) O R = some (D : Int) ∧
      sten_Put.f s0 R M W s4 s5 s6 how O = some ((((O &&& (255 - W)) ||| (D &&& W) : Nat) : Int), 0) := by
  obtain ⟨_, k4, k5, k6, b1, _, _⟩ := chk_zero h
  have ho : byB (O : Int) = true := by rw [byB_iff]; omega
  obtain ⟨d1, d2, d3⟩ := deed_ok (sel_kind (how := how) k4 k5 k6) ho b1
  obtain ⟨D, hD, hD2⟩ := nat_of d3
  refine ⟨D, hD2, hD, by rw [d2, hD], ?_⟩
  unfold sten_Put.f
  rw [check_is 0]
  simp only [Option.bind_some]
  rw [if_pos h, if_neg (by omega), if_neg (by omega)]
  unfold sel at d1 hD
  rw [d1]
  simp only [Option.bind_some, if_true]
  rw [hD, andNot_nat O W hO hW, and_nat D W hD2 hW, or_nat _ _ (and_lt _ _ (by omega)) (and_lt _ _ hW)]

theorem sput_sum (D W O : Nat) (hD : D < 256) (hW : W < 256) (hO : O < 256) : wrap64 (((D &&& W : Nat) : Int) + ((O &&& (255 - W) : Nat) : Int)) = (((O &&& (255 - W)) ||| (D &&& W) : Nat) : Int) := by
  have l1 := and_lt D W hW
  have l2 := and_lt O (255 - W) (by omega)
  rw [put_or O D W hO hD hW]
  generalize D &&& W = x at l1
  generalize O &&& (255 - W) = y at l2
  rw [wrapB _ (by omega)]
  omega

theorem rput_gen (k : Nat) {how old kd s0 s1 s2 s3 s4 s5 s6 d x y v : Int} (hd : temperaref09_Deed.f (if how = 2 then s6 else kd) old s1 = some d) (hx : temperaref09_And.f k d s3 = some x)
    (hy : temperaref09_And.f k old (wrap64 (255 - s3)) = some y) (hv : wrap64 (x + y) = v) : temperaref09_Put.j0 (k + 1) how old kd s0 s1 s2 s3 s4 s5 s6 = some v := by
  simp only [temperaref09_Put.j0]
  by_cases h : how = 2
  · rw [if_pos h] at hd
    rw [if_pos h, hd]
    simp only [Option.bind_some]
    rw [hx]
    simp only [Option.bind_some]
    rw [hy]
    simp only [Option.bind_some]
    rw [hv]
  · rw [if_neg h] at hd
    rw [if_neg h, hd]
    simp only [Option.bind_some]
    rw [hx]
    simp only [Option.bind_some]
    rw [hy]
    simp only [Option.bind_some]
    rw [hv]

theorem w_not (W : Nat) (hW : W < 256) : wrap64 (255 - (W : Int)) = ((255 - W : Nat) : Int) := by rw [wrapB _ (by omega)]; omega
theorem and_w (k O W : Nat) (hO : O < 256) (hW : W < 256) : temperaref09_And.f (k + 9) (O : Int) (wrap64 (255 - (W : Int))) = some ((O &&& (255 - W) : Nat) : Int) := by
  have h := and_is O (255 - W) k hO (by omega)
  have e := w_not W hW
  generalize wrap64 (255 - (W : Int)) = z at e
  subst e
  exact h

theorem rput_j0 (k R M W O D : Nat) (how kd s0 s4 s5 s6 : Int) (hW : W < 256) (hO : O < 256) (hD : D < 256) (hr : temperaref09_Deed.f (if how = 2 then s6 else kd) O R = some (D : Int)) :
    temperaref09_Put.j0 (k + 9 + 1) how O kd s0 R M W s4 s5 s6 = some ((((O &&& (255 - W)) ||| (D &&& W) : Nat) : Int)) :=
  rput_gen (k + 9) hr (and_is D W k hD hW) (and_w k O W hO hW) (sput_sum D W O hD hW hO)

theorem rput_ok (k R M W O D : Nat) (how s0 s4 s5 s6 : Int) (hh : 0 ≤ how ∧ how ≤ 2) (hW : W < 256) (hO : O < 256) (hD : D < 256) (hr : temperaref09_Deed.f (sel how s4 s5 s6) O R = some (D : Int)) :
    temperaref09_Put.f (k + 9 + 1) s0 R M W s4 s5 s6 how O = some ((((O &&& (255 - W)) ||| (D &&& W) : Nat) : Int)) := by
  unfold temperaref09_Put.f
  unfold sel at hr
  by_cases h1 : how = 1
  · rw [if_pos h1]
    refine rput_j0 k R M W O D _ _ _ _ _ _ hW hO hD ?_
    rw [if_neg (by omega), if_pos h1] at hr
    rw [if_neg (by omega)]
    exact hr
  · rw [if_neg h1]
    refine rput_j0 k R M W O D _ _ _ _ _ _ hW hO hD ?_
    by_cases h2 : how = 2
    · rw [if_neg (by omega), if_neg h1] at hr
      rw [if_pos h2]
      exact hr
    · rw [if_pos (by omega)] at hr
      rw [if_neg h2]
      exact hr

theorem put_lt (O D W : Nat) (hO : O < 256) (hW : W < 256) : ((O &&& (255 - W)) ||| (D &&& W)) < 256 := Nat.or_lt_two_pow (n := 8) (and_lt O (255 - W) (by omega)) (and_lt D W hW)

theorem sputs_gen (k : Nat) {how old v a s0 s1 s2 s3 s4 s5 s6 : Int} (ho : byB old = true) (hp : temperaref09_Put.f k s0 s1 s2 s3 s4 s5 s6 how old = some v) (h1 : temperaref09_And.f k v (wrap64 (255 - s3)) = some a)
    (h2 : temperaref09_And.f k old (wrap64 (255 - s3)) = some a) (ha : temperalaw09_awake.f k = some true) : temperalaw09_StenPuts.j0 (k + 1) how old v 0 false s0 s1 s2 s3 s4 s5 s6 = some true := by
  simp only [temperalaw09_StenPuts.j0]
  rw [if_neg (by decide), ris_is, ho]
  simp only [Option.bind_some, if_true]
  rw [hp]
  simp only [Option.bind_some, if_true]
  rw [h1]
  simp only [Option.bind_some]
  rw [h2]
  simp only [Option.bind_some, if_true]
  rw [ha]
  rfl

theorem sput_last (k R M W O D : Nat) (how s0 s4 s5 s6 : Int) (hh : 0 ≤ how ∧ how ≤ 2) (hW : W < 256) (hO : O < 256) (hD : D < 256) (hr : temperaref09_Deed.f (sel how s4 s5 s6) O R = some (D : Int)) (ha : temperalaw09_awake.f (k + 9 + 1) = some true) :
    temperalaw09_StenPuts.j0 (k + 9 + 1 + 1) how O (((O &&& (255 - W)) ||| (D &&& W) : Nat) : Int) 0 false s0 R M W s4 s5 s6 = some true := by
  have ho : byB (O : Int) = true := by rw [byB_iff]; omega
  have h1 := and_w (k + 1) _ W (put_lt O D W hO hW) hW
  rw [put_and O D W hO hD hW] at h1
  have e : k + 1 + 9 = k + 9 + 1 := by omega
  have h2 := and_w (k + 1) O W hO hW
  rw [e] at h1 h2
  exact sputs_gen (k + 9 + 1) ho (rput_ok k R M W O D how s0 s4 s5 s6 hh hW hO hD hr) h1 h2 ha

theorem sputs_how (s0 s1 s2 s3 s4 s5 s6 how old : Int) (hc : chk s0 s1 s2 s3 s4 s5 s6 = 0) (hh : how < 0 ∨ 2 < how) : temperalaw09_StenPuts.f 22 s0 s1 s2 s3 s4 s5 s6 how old = some true := by
  unfold temperalaw09_StenPuts.f
  rw [rcheck_is 21, sput_how _ _ _ _ _ _ _ _ _ hc hh]
  have hj : temperalaw09_StenPuts.j0 (21 + 1) how old 0 2 true s0 s1 s2 s3 s4 s5 s6 = some true := by
    simp only [temperalaw09_StenPuts.j0]
    simp [awake21]
  simp only [Option.bind_some]
  rw [if_pos hc]
  by_cases h1 : how < 0
  · rw [if_pos h1]; exact hj
  · rw [if_neg h1, show decide (how > 2) = true from decide_eq_true (by omega)]; exact hj

theorem sputs_range (s0 s1 s2 s3 s4 s5 s6 how old : Int) (hc : chk s0 s1 s2 s3 s4 s5 s6 = 0) (hh2 : 0 ≤ how ∧ how ≤ 2) (ho : byB old = false) : temperalaw09_StenPuts.f 22 s0 s1 s2 s3 s4 s5 s6 how old = some true := by
  unfold temperalaw09_StenPuts.f
  rw [rcheck_is 21, sput_range _ _ _ _ _ _ _ _ _ hc hh2 ho]
  have hd : decide (how > 2) = false := decide_eq_false (by omega)
  simp only [Option.bind_some]
  rw [if_pos hc, if_neg (by omega), hd]
  show temperalaw09_StenPuts.j0 (21 + 1) _ _ _ _ _ _ _ _ _ _ _ _ = _
  simp only [temperalaw09_StenPuts.j0]
  simp [ris_is, ho, awake21]

theorem sputs_ok (R M W O : Nat) (s0 s4 s5 s6 how : Int) (hc : chk s0 R M W s4 s5 s6 = 0) (hh2 : 0 ≤ how ∧ how ≤ 2) (hR : R < 256) (hW : W < 256) (hO : O < 256) : temperalaw09_StenPuts.f 22 s0 R M W s4 s5 s6 how O = some true := by
  obtain ⟨D, hD, _, hr, hp⟩ := sput_ok R M W O _ _ _ _ _ hc hh2 hR hW hO
  have hd : decide (how > 2) = false := decide_eq_false (by omega)
  have hl := sput_last 11 R M W O D how s0 s4 s5 s6 hh2 hW hO hD hr awake21
  unfold temperalaw09_StenPuts.f
  rw [rcheck_is 21, hp]
  simp only [Option.bind_some]
  rw [if_pos hc, if_neg (by omega), hd]
  exact hl

theorem stenPuts_pure (s0 s1 s2 s3 s4 s5 s6 how old : Int) : temperalaw09_StenPuts.f 22 s0 s1 s2 s3 s4 s5 s6 how old = some true := by
  by_cases hc : chk s0 s1 s2 s3 s4 s5 s6 = 0
  · by_cases hh : how < 0 ∨ 2 < how
    · exact sputs_how _ _ _ _ _ _ _ _ _ hc hh
    · have hh2 : 0 ≤ how ∧ how ≤ 2 := by omega
      cases ho : byB old with
      | false => exact sputs_range _ _ _ _ _ _ _ _ _ hc hh2 ho
      | true =>
        obtain ⟨_, _, _, _, b1, b2, b3⟩ := chk_zero hc
        obtain ⟨R, rfl, hR⟩ := nat_of b1
        obtain ⟨M, rfl, hM⟩ := nat_of b2
        obtain ⟨W, rfl, hW⟩ := nat_of b3
        obtain ⟨O, rfl, hO⟩ := nat_of ho
        exact sputs_ok R M W O _ _ _ _ _ hc hh2 hR hW hO
  · unfold temperalaw09_StenPuts.f
    rw [rcheck_is 21, sput_bad _ _ _ _ _ _ _ _ _ hc]
    simp [hc, awake22]

theorem stenPuts_walk (s0 s1 s2 s3 s4 s5 s6 how old : Int) (w : World) :
    Calls Try.prog 4 #[.agg #[.int .i64 s0, .int .i64 s1, .int .i64 s2, .int .i64 s3, .int .i64 s4, .int .i64 s5, .int .i64 s6], .int .i64 how, .int .i64 old] w fun e w' => e = .returned (.bool true) ∧ Below w.heap.size w w' :=
  temperalaw09_StenPuts.calls 22 s0 s1 s2 s3 s4 s5 s6 how old true w (stenPuts_pure s0 s1 s2 s3 s4 s5 s6 how old)
end Go.Proofs.Ythojeidldnjpaaa.PSten
