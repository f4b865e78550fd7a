/- What the functions of the package edge and of its reference compute, as plain numbers, and the plain laws of a triangle's pixels. Conditions: points from -524288 to 524288, pixels from -32768 to 32767, as each lemma says. -/
import Derived.Test.YtbbadldapnanpaaPEdgex3
namespace Go.Proofs.Ytbbadldapnanpaa.PEdge
open Go.RowKit Go.Proofs.YtbbadldapnanpaaW.PrintWords Go.Proofs.YtbbadldapnanpaaW.PrintLast

def sd (ax ay bx b_y px py : Int) : Int := (bx - ax) * (py - ay) - (b_y - ay) * (px - ax)
def ow (ax ay bx b_y : Int) : Bool := if ay = b_y then decide (ax < bx) else decide (ay > b_y)
def onB (ax ay bx b_y px py : Int) : Bool := if sd ax ay bx b_y px py > 0 then true else if sd ax ay bx b_y px py = 0 then ow ax ay bx b_y else false
def hasB (ax ay bx b_y cx cy px py : Int) : Bool := decide (sd ax ay bx b_y cx cy > 0) && (onB ax ay bx b_y px py && (onB bx b_y cx cy px py && onB cx cy ax ay px py))
def inB (x y : Int) : Bool := decide (-524288 ≤ x) && (decide (x ≤ 524288) && (decide (-524288 ≤ y) && decide (y ≤ 524288)))
def fitB (x y : Int) : Bool := decide (-32768 ≤ x) && (decide (x ≤ 32767) && (decide (-32768 ≤ y) && decide (y ≤ 32767)))

theorem inB_iff (x y : Int) : inB x y = true ↔ -524288 ≤ x ∧ x ≤ 524288 ∧ -524288 ≤ y ∧ y ≤ 524288 := by simp [inB]
theorem fitB_iff (x y : Int) : fitB x y = true ↔ -32768 ≤ x ∧ x ≤ 32767 ∧ -32768 ≤ y ∧ y ≤ 32767 := by simp [fitB]

theorem mul_bd (a b : Int) (ha : -1048576 ≤ a ∧ a ≤ 1048576) (hb : -1048576 ≤ b ∧ b ≤ 1048576) : -1099511627776 ≤ a * b ∧ a * b ≤ 1099511627776 := by
  have h1 : a.natAbs ≤ 1048576 := by omega
  have h2 : b.natAbs ≤ 1048576 := by omega
  have h3 : (a * b).natAbs ≤ 1048576 * 1048576 := by rw [Int.natAbs_mul]; exact Nat.mul_le_mul h1 h2
  omega

theorem wrap_id (a : Int) (h : -9223372036854775808 ≤ a ∧ a ≤ 9223372036854775807) : wrap64 a = a := by unfold wrap64; omega

theorem side_bd {ax ay bx b_y px py : Int} (ha : inB ax ay = true) (hb : inB bx b_y = true) (hp : inB px py = true) :
    wrap64 ((wrap64 ((wrap64 (bx - ax)) * (wrap64 (py - ay)))) - (wrap64 ((wrap64 (b_y - ay)) * (wrap64 (px - ax))))) = sd ax ay bx b_y px py := by
  rw [inB_iff] at ha hb hp
  have e1 : wrap64 (bx - ax) = bx - ax := wrap_id _ (by omega)
  have e2 : wrap64 (py - ay) = py - ay := wrap_id _ (by omega)
  have e3 : wrap64 (b_y - ay) = b_y - ay := wrap_id _ (by omega)
  have e4 : wrap64 (px - ax) = px - ax := wrap_id _ (by omega)
  rw [e1, e2, e3, e4]
  have m1 := mul_bd (bx - ax) (py - ay) (by omega) (by omega)
  have m2 := mul_bd (b_y - ay) (px - ax) (by omega) (by omega)
  unfold sd
  rw [wrap_id _ (by omega : -9223372036854775808 ≤ (bx - ax) * (py - ay) ∧ (bx - ax) * (py - ay) ≤ 9223372036854775807), wrap_id _ (by omega : -9223372036854775808 ≤ (b_y - ay) * (px - ax) ∧ (b_y - ay) * (px - ax) ≤ 9223372036854775807)]
  exact wrap_id _ (by omega)

theorem side_is {ax ay bx b_y px py : Int} (ha : inB ax ay = true) (hb : inB bx b_y = true) (hp : inB px py = true) : edge_side.f ax ay bx b_y px py = some (sd ax ay bx b_y px py) := by
  unfold edge_side.f
  rw [side_bd ha hb hp]

theorem rside_is {ax ay bx b_y px py : Int} (ha : inB ax ay = true) (hb : inB bx b_y = true) (hp : inB px py = true) : temperaref12_Side.f ax ay bx b_y px py = some (sd ax ay bx b_y px py) := by
  unfold temperaref12_Side.f
  rw [side_bd ha hb hp]

theorem mid_in {x y : Int} (h : fitB x y = true) : inB (16 * x + 8) (16 * y + 8) = true := by
  rw [fitB_iff] at h
  rw [inB_iff]
  omega

theorem mid_is {x y : Int} (h : fitB x y = true) : edge_Middle.f x y = some (16 * x + 8, 16 * y + 8, 0) := by
  rw [fitB_iff] at h
  unfold edge_Middle.f
  rw [if_neg (by omega), if_neg (by omega), if_neg (by omega), if_neg (by omega), wrap_id (x * 16) (by omega), wrap_id (y * 16) (by omega), wrap_id _ (by omega), wrap_id _ (by omega), Int.mul_comm x, Int.mul_comm y]

theorem mid_no {x y : Int} (h : fitB x y = false) : edge_Middle.f x y = some (0, 0, 3) := by
  have h' : ¬ (fitB x y = true) := by simp [h]
  rw [fitB_iff] at h'
  unfold edge_Middle.f
  by_cases h1 : x < -32768
  · rw [if_pos h1]
  · rw [if_neg h1]
    by_cases h2 : x ≥ 32768
    · rw [if_pos h2]
    · rw [if_neg h2]
      by_cases h3 : y < -32768
      · rw [if_pos h3]
      · rw [if_neg h3]
        by_cases h4 : y ≥ 32768
        · rw [if_pos h4]
        · omega

theorem rmid_is {x y : Int} (h : fitB x y = true) : temperaref12_Middle.f x y = some (16 * x + 8, 16 * y + 8) := by
  rw [fitB_iff] at h
  unfold temperaref12_Middle.f
  rw [wrap_id (16 * x) (by omega), wrap_id (16 * y) (by omega), wrap_id _ (by omega), wrap_id _ (by omega)]

theorem fits_is (x y : Int) : temperaref12_Fits.f x y = some (fitB x y) := by
  unfold temperaref12_Fits.f fitB
  by_cases h1 : x ≥ -32768 <;> by_cases h2 : x ≤ 32767 <;> by_cases h3 : y ≥ -32768 <;> simp [h1, h2, h3]

theorem May_is (x y : Int) : temperaref12_May.f x y = some (inB x y) := by
  unfold temperaref12_May.f inB
  by_cases h1 : x ≥ -524288 <;> by_cases h2 : x ≤ 524288 <;> by_cases h3 : y ≥ -524288 <;> simp [h1, h2, h3]

theorem may_t (a b c d e f : Int) : temperalaw12_may.f a b c d e f = some (inB a b && (inB c d && inB e f)) := by
  unfold temperalaw12_may.f
  rw [May_is, May_is, May_is]
  cases inB a b <;> cases inB c d <;> cases inB e f <;> rfl

theorem may_step (l : List S23) (k : Nat) (n i : Int) (h0 : 0 ≤ i) (h1 : i < n) (h2 : i < (l.length : Int)) (h3 : n ≤ 1000) :
    edge_may.l0 (k + 1) l n i = if inB (rd_T23 l i).f0 (rd_T23 l i).f1 = true then edge_may.l0 k l n (i + 1) else some false := by
  simp only [edge_may.l0]
  rw [if_pos h1, if_pos h0, if_pos h2, wrap_id (i + 1) (by omega)]
  by_cases h : inB (rd_T23 l i).f0 (rd_T23 l i).f1 = true
  · rw [if_pos h]
    rw [inB_iff] at h
    rw [if_neg (by omega), if_neg (by omega), if_neg (by omega), if_neg (by omega)]
  · rw [if_neg h]
    rw [inB_iff] at h
    by_cases c1 : (rd_T23 l i).f0 < -524288
    · rw [if_pos c1]
    · rw [if_neg c1]
      by_cases c2 : (rd_T23 l i).f0 > 524288
      · rw [if_pos c2]
      · rw [if_neg c2]
        by_cases c3 : (rd_T23 l i).f1 < -524288
        · rw [if_pos c3]
        · rw [if_neg c3]
          by_cases c4 : (rd_T23 l i).f1 > 524288
          · rw [if_pos c4]
          · omega

theorem may_three (a b c d e f : Int) : edge_may.f 4 [⟨a, b⟩, ⟨c, d⟩, ⟨e, f⟩] = some (inB a b && (inB c d && inB e f)) := by
  unfold edge_may.f
  show edge_may.l0 (3 + 1) _ 3 0 = _
  rw [may_step _ 3 3 0 (by omega) (by omega) (by simp) (by omega), may_step _ 2 3 (0 + 1) (by omega) (by omega) (by simp) (by omega), may_step _ 1 3 (0 + 1 + 1) (by omega) (by omega) (by simp) (by omega)]
  show (if inB a b = true then if inB c d = true then if inB e f = true then edge_may.l0 (0 + 1) _ 3 3 else some false else some false else some false) = _
  have hE : ∀ l, edge_may.l0 (0 + 1) l 3 3 = some true := fun l => by simp only [edge_may.l0]; rw [if_neg (by omega)]
  rw [hE]
  cases inB a b <;> cases inB c d <;> cases inB e f <;> rfl

theorem owns_is (ax ay bx b_y : Int) : edge_Owns.f ax ay bx b_y = some (ow ax ay bx b_y) := by
  unfold edge_Owns.f ow
  by_cases h1 : b_y < ay
  · have : ¬ ay = b_y := by omega
    simp [h1, this]
  · by_cases h2 : b_y = ay
    · subst h2
      simp
    · have : ¬ ay = b_y := by omega
      simp [h1, h2, this]

theorem rowns_is (ax ay bx b_y : Int) : temperaref12_Owns.f ax ay bx b_y = some (ow ax ay bx b_y) := by
  unfold temperaref12_Owns.f ow
  by_cases h : ay = b_y <;> simp [h]

theorem ron_is {ax ay bx b_y px py : Int} (ha : inB ax ay = true) (hb : inB bx b_y = true) (hp : inB px py = true) : temperaref12_on.f ax ay bx b_y px py = some (onB ax ay bx b_y px py) := by
  unfold temperaref12_on.f onB
  rw [rside_is ha hb hp, rowns_is]
  simp only [Option.bind_some]
  by_cases h1 : sd ax ay bx b_y px py > 0
  · rw [if_pos h1, if_pos h1]
  · rw [if_neg h1, if_neg h1]
    by_cases h2 : sd ax ay bx b_y px py = 0
    · rw [if_pos h2, if_pos h2]
    · rw [if_neg h2, if_neg h2]

theorem hasOn_is (ax ay bx b_y px py : Int) : hasOn (sd ax ay bx b_y px py) (ow ax ay bx b_y) = onB ax ay bx b_y px py := by
  unfold hasOn onB
  by_cases h1 : sd ax ay bx b_y px py < 0
  · rw [if_pos h1, if_neg (by omega), if_neg (by omega)]
  · rw [if_neg h1]
    by_cases h2 : sd ax ay bx b_y px py = 0
    · rw [if_pos h2, if_neg (by omega), if_pos h2]
    · rw [if_neg h2, if_pos (by omega)]

theorem rHas_is {ax ay bx b_y cx cy x y : Int} (ha : inB ax ay = true) (hb : inB bx b_y = true) (hc : inB cx cy = true) (hf : fitB x y = true) :
    temperaref12_Has.f ax ay bx b_y cx cy x y = some (hasB ax ay bx b_y cx cy (16 * x + 8) (16 * y + 8)) := by
  have hm := mid_in hf
  unfold temperaref12_Has.f hasB
  rw [rmid_is hf, rside_is ha hb hc]
  simp only [Option.bind_some]
  rw [ron_is ha hb hm, ron_is hb hc hm, ron_is hc ha hm]
  simp only [Option.bind_some]
  by_cases h : sd ax ay bx b_y cx cy > 0
  · rw [if_pos h, decide_eq_true h]
    cases onB ax ay bx b_y (16 * x + 8) (16 * y + 8) <;> cases onB bx b_y cx cy (16 * x + 8) (16 * y + 8) <;> rfl
  · rw [if_neg h, decide_eq_false h]
    rfl

theorem Has_is {ax ay bx b_y cx cy x y : Int} (ha : inB ax ay = true) (hb : inB bx b_y = true) (hc : inB cx cy = true) (hf : fitB x y = true) :
    edge_Has.f ax ay bx b_y cx cy x y = some (hasB ax ay bx b_y cx cy (16 * x + 8) (16 * y + 8), 0) := by
  have hm := mid_in hf
  unfold edge_Has.f hasB
  rw [mid_is hf, may_three, side_is ha hb hc, ha, hb, hc]
  simp only [Option.bind_some, Bool.and_self, if_true]
  by_cases h : sd ax ay bx b_y cx cy > 0
  · rw [if_neg (by omega), side_is ha hb hm, side_is hb hc hm, side_is hc ha hm, owns_is, owns_is, owns_is]
    simp only [Option.bind_some]
    rw [hasOn_is, hasOn_is, hasOn_is, decide_eq_true h, Bool.true_and]
  · rw [if_pos (by omega), decide_eq_false h, Bool.false_and]

theorem Has_nofit {ax ay bx b_y cx cy x y : Int} (hf : fitB x y = false) : edge_Has.f ax ay bx b_y cx cy x y = some (false, 3) := by
  unfold edge_Has.f
  rw [mid_no hf]
  rfl

theorem Has_nomay {ax ay bx b_y cx cy x y : Int} (hn : (inB ax ay && (inB bx b_y && inB cx cy)) = false) : edge_Has.f ax ay bx b_y cx cy x y = some (false, 3) := by
  cases hf : fitB x y with
  | false => exact Has_nofit hf
  | true =>
    unfold edge_Has.f
    rw [mid_is hf, may_three, hn]
    rfl

theorem has_is {ax ay bx b_y cx cy x y : Int} (ha : inB ax ay = true) (hb : inB bx b_y = true) (hc : inB cx cy = true) (hf : fitB x y = true) :
    temperalaw12_has.f ax ay bx b_y cx cy x y = some (if hasB ax ay bx b_y cx cy (16 * x + 8) (16 * y + 8) = true then 1 else 0) := by
  unfold temperalaw12_has.f
  rw [Has_is ha hb hc hf]
  simp only [Option.bind_some, if_true]
  cases hasB ax ay bx b_y cx cy (16 * x + 8) (16 * y + 8) <;> rfl

theorem Side_is {ax ay bx b_y px py : Int} (ha : inB ax ay = true) (hb : inB bx b_y = true) (hp : inB px py = true) : edge_Side.f 4 ax ay bx b_y px py = some (sd ax ay bx b_y px py, 0) := by
  unfold edge_Side.f
  rw [may_three, ha, hb, hp, side_is ha hb hp]
  rfl

theorem Side_no {ax ay bx b_y px py : Int} (hn : (inB ax ay && (inB bx b_y && inB px py)) = false) : edge_Side.f 4 ax ay bx b_y px py = some (0, 3) := by
  unfold edge_Side.f
  rw [may_three, hn]
  rfl

theorem awake_is : temperalaw12_awake.f = some true := by
  unfold temperalaw12_awake.f
  rw [Has_is (by decide) (by decide) (by decide) (by decide), Has_is (by decide) (by decide) (by decide) (by decide), owns_is]
  decide +kernel

/-! ### the plain laws -/
theorem sd_turn (ax ay bx b_y cx cy : Int) : sd bx b_y cx cy ax ay = sd ax ay bx b_y cx cy := by unfold sd; grind
theorem sd_back (ax ay bx b_y cx cy : Int) : sd bx b_y ax ay cx cy = - sd ax ay bx b_y cx cy := by unfold sd; grind
theorem sd_self (ax ay cx cy : Int) : sd ax ay ax ay cx cy = 0 := by unfold sd; grind
theorem ow_back {ax ay bx b_y : Int} (h : ax ≠ bx ∨ ay ≠ b_y) : ow bx b_y ax ay = !ow ax ay bx b_y := by
  unfold ow
  by_cases e : ay = b_y
  · subst e
    simp only [if_true]
    by_cases l : ax < bx
    · have : ¬ bx < ax := by omega
      simp [l, this]
    · have : bx < ax := by omega
      simp [l, this]
  · have e' : ¬ b_y = ay := fun h => e h.symm
    rw [if_neg e, if_neg e']
    by_cases l : ay > b_y
    · have : ¬ b_y > ay := by omega
      simp [l, this]
    · have : b_y > ay := by omega
      simp [l, this]

theorem on_back {ax ay bx b_y px py : Int} (h : ax ≠ bx ∨ ay ≠ b_y) : onB bx b_y ax ay px py = !onB ax ay bx b_y px py := by
  unfold onB
  rw [sd_back, ow_back h]
  by_cases h1 : sd ax ay bx b_y px py > 0
  · rw [if_pos h1, if_neg (by omega), if_neg (by omega)]; rfl
  · rw [if_neg h1]
    by_cases h2 : sd ax ay bx b_y px py = 0
    · rw [if_pos h2, if_neg (by omega), if_pos (by omega)]
    · rw [if_neg h2, if_pos (by omega)]; rfl

/-- Who owns a line is told as if the point stood a little to the side: three numbers, one behind the other. -/
def lp (s u v : Int) : Prop := s > 0 ∨ (s = 0 ∧ (u > 0 ∨ (u = 0 ∧ v > 0)))

theorem on_lp (ax ay bx b_y px py : Int) : onB ax ay bx b_y px py = true ↔ lp (sd ax ay bx b_y px py) (ay - b_y) (bx - ax) := by
  unfold onB lp ow
  generalize sd ax ay bx b_y px py = s
  by_cases h1 : s > 0
  · rw [if_pos h1]
    exact ⟨fun _ => .inl h1, fun _ => rfl⟩
  · rw [if_neg h1]
    by_cases h2 : s = 0
    · rw [if_pos h2]
      by_cases h3 : ay = b_y
      · rw [if_pos h3, decide_eq_true_eq]
        constructor
        · intro h
          exact .inr ⟨h2, .inr ⟨by omega, by omega⟩⟩
        · intro h
          omega
      · rw [if_neg h3, decide_eq_true_eq]
        constructor
        · intro h
          exact .inr ⟨h2, .inl (by omega)⟩
        · intro h
          omega
    · rw [if_neg h2]
      constructor
      · intro h
        exact absurd h (by decide)
      · intro h
        omega

theorem mul_nn {k s : Int} (hk : 0 < k) (h : 0 ≤ s) : 0 ≤ k * s := Int.mul_nonneg (Int.le_of_lt hk) h
theorem pos_of {k s : Int} (hk : 0 < k) (h : 0 < k * s) : 0 < s := by
  by_cases c : s ≤ 0
  · have := mul_nn hk (show 0 ≤ -s by omega)
    rw [Int.mul_neg] at this
    omega
  · omega
theorem zero_of {k s : Int} (hk : 0 < k) (h : k * s = 0) : s = 0 := by
  rcases Int.mul_eq_zero.mp h with h | h <;> omega

theorem comb {k m n s s1 s2 : Int} (hk : 0 < k) (hm : 0 < m) (hn : 0 < n) (hs : k * s = m * s1 + n * s2) : (0 < s1 → 0 ≤ s2 → 0 < s) ∧ (0 ≤ s1 → 0 < s2 → 0 < s) ∧ (s1 = 0 → s2 = 0 → s = 0) := by
  refine ⟨fun h1 h2 => pos_of hk ?_, fun h1 h2 => pos_of hk ?_, fun h1 h2 => zero_of hk ?_⟩
  · have := Int.mul_pos hm h1
    have := mul_nn hn h2
    omega
  · have := mul_nn hm h1
    have := Int.mul_pos hn h2
    omega
  · rw [hs, h1, h2, Int.mul_zero, Int.mul_zero]
    rfl

theorem zero3 {k m n s1 s2 s3 : Int} (hk : 0 < k) (hm : 0 < m) (hn : 0 < n) (hs : k * s1 + m * s2 + n * s3 = 0) (h1 : 0 ≤ s1) (h2 : 0 ≤ s2) (h3 : 0 ≤ s3) : s1 = 0 ∧ s2 = 0 ∧ s3 = 0 := by
  have a1 := mul_nn hk h1
  have a2 := mul_nn hm h2
  have a3 := mul_nn hn h3
  exact ⟨zero_of hk (by omega), zero_of hm (by omega), zero_of hn (by omega)⟩

theorem lp_comb {k m n s u v s1 u1 v1 s2 u2 v2 : Int} (hk : 0 < k) (hm : 0 < m) (hn : 0 < n) (hs : k * s = m * s1 + n * s2) (hu : k * u = m * u1 + n * u2) (hv : k * v = m * v1 + n * v2)
    (h1 : lp s1 u1 v1) (h2 : lp s2 u2 v2) : lp s u v := by
  obtain ⟨A1, A2, A3⟩ := comb hk hm hn hs
  obtain ⟨B1, B2, B3⟩ := comb hk hm hn hu
  obtain ⟨C1, C2, C3⟩ := comb hk hm hn hv
  unfold lp at *
  clear hs hu hv
  rcases h1 with p1 | ⟨z1, p1 | ⟨y1, p1⟩⟩ <;> rcases h2 with p2 | ⟨z2, p2 | ⟨y2, p2⟩⟩ <;> first
    | exact Or.inl (A1 (by omega) (by omega))
    | exact Or.inl (A2 (by omega) (by omega))
    | exact Or.inr ⟨A3 z1 z2, Or.inl (B1 (by omega) (by omega))⟩
    | exact Or.inr ⟨A3 z1 z2, Or.inl (B2 (by omega) (by omega))⟩
    | exact Or.inr ⟨A3 z1 z2, Or.inr ⟨B3 y1 y2, C1 (by omega) (by omega)⟩⟩

theorem lp_nn {s u v : Int} (h : lp s u v) : 0 ≤ s ∧ (s = 0 → 0 ≤ u) ∧ (s = 0 → u = 0 → 0 < v) := by
  unfold lp at h
  omega

theorem lp_none {k m n s1 u1 v1 s2 u2 v2 s3 u3 v3 : Int} (hk : 0 < k) (hm : 0 < m) (hn : 0 < n) (hs : k * s1 + m * s2 + n * s3 = 0) (hu : k * u1 + m * u2 + n * u3 = 0) (hv : k * v1 + m * v2 + n * v3 = 0)
    (h1 : lp s1 u1 v1) (h2 : lp s2 u2 v2) (h3 : lp s3 u3 v3) : False := by
  obtain ⟨a1, b1, c1⟩ := lp_nn h1
  obtain ⟨a2, b2, c2⟩ := lp_nn h2
  obtain ⟨a3, b3, c3⟩ := lp_nn h3
  obtain ⟨z1, z2, z3⟩ := zero3 hk hm hn hs a1 a2 a3
  obtain ⟨y1, y2, y3⟩ := zero3 hk hm hn hu (b1 z1) (b2 z2) (b3 z3)
  have p1 := c1 z1 y1
  have p2 := c2 z2 y2
  have p3 := c3 z3 y3
  obtain ⟨x1, _, _⟩ := zero3 hk hm hn hv (by omega) (by omega) (by omega)
  omega

/-- A part's pixel is the whole one's: the two other edges. -/
theorem fan_part {ax ay bx b_y cx cy px py qx qy : Int} (h1 : 0 < sd ax ay bx b_y px py) (h2 : 0 < sd bx b_y cx cy px py) (h3 : 0 < sd cx cy ax ay px py)
    (e1 : onB ax ay bx b_y qx qy = true) (f2 : onB bx b_y px py qx qy = true) (g1 : onB px py ax ay qx qy = true) : onB bx b_y cx cy qx qy = true ∧ onB cx cy ax ay qx qy = true := by
  rw [on_lp] at e1 f2 g1
  rw [on_lp, on_lp]
  have hS : 0 < sd ax ay bx b_y cx cy := by
    have : sd ax ay bx b_y cx cy = sd ax ay bx b_y px py + sd bx b_y cx cy px py + sd cx cy ax ay px py := by unfold sd; grind
    omega
  refine ⟨lp_comb h1 hS h2 ?_ ?_ ?_ f2 e1, lp_comb h1 hS h3 ?_ ?_ ?_ g1 e1⟩ <;> (unfold sd; grind)

theorem fan_some {ax ay bx b_y cx cy px py qx qy : Int} (h1 : 0 < sd ax ay bx b_y px py) (h2 : 0 < sd bx b_y cx cy px py) (h3 : 0 < sd cx cy ax ay px py)
    (f1 : onB ax ay px py qx qy = true) (f2 : onB bx b_y px py qx qy = true) (f3 : onB cx cy px py qx qy = true) : False := by
  rw [on_lp] at f1 f2 f3
  refine lp_none h2 h3 h1 ?_ ?_ ?_ f1 f2 f3 <;> (unfold sd; grind)

theorem fan_none {ax ay bx b_y cx cy px py qx qy : Int} (h1 : 0 < sd ax ay bx b_y px py) (h2 : 0 < sd bx b_y cx cy px py) (h3 : 0 < sd cx cy ax ay px py)
    (f1 : onB px py ax ay qx qy = true) (f2 : onB px py bx b_y qx qy = true) (f3 : onB px py cx cy qx qy = true) : False := by
  rw [on_lp] at f1 f2 f3
  refine lp_none h2 h3 h1 ?_ ?_ ?_ f1 f2 f3 <;> (unfold sd; grind)

theorem apart_of {ax ay bx b_y cx cy : Int} (h : 0 < sd ax ay bx b_y cx cy) : ax ≠ bx ∨ ay ≠ b_y := by
  by_cases e : ax = bx
  · right
    intro e2
    subst e e2
    rw [sd_self] at h
    omega
  · exact .inl e

theorem apart_of3 {ax ay bx b_y cx cy : Int} (h : 0 < sd ax ay bx b_y cx cy) : ax ≠ cx ∨ ay ≠ cy := by
  by_cases e : ax = cx
  · right
    intro e2
    subst e e2
    have : sd ax ay bx b_y ax ay = 0 := by unfold sd; grind
    omega
  · exact .inl e

def one (b : Bool) : Int := if b = true then 1 else 0

theorem fan_bools (E1 E2 E3 F1 F2 F3 : Bool) (a1 : E1 = true → F2 = true → F1 = false → E2 = true ∧ E3 = true) (a2 : E2 = true → F3 = true → F2 = false → E3 = true ∧ E1 = true) (a3 : E3 = true → F1 = true → F3 = false → E1 = true ∧ E2 = true)
    (a4 : ¬ (F1 = true ∧ F2 = true ∧ F3 = true)) (a5 : ¬ (F1 = false ∧ F2 = false ∧ F3 = false)) :
    one (E1 && (F2 && !F1)) + one (E2 && (F3 && !F2)) + one (E3 && (F1 && !F3)) = one (E1 && (E2 && E3)) := by
  cases E1 <;> cases E2 <;> cases E3 <;> cases F1 <;> cases F2 <;> cases F3 <;> simp_all [one]

/-- Of three parts just one has a pixel that the whole one has; else none. -/
theorem fan_law {ax ay bx b_y cx cy px py qx qy : Int} (h1 : 0 < sd ax ay bx b_y px py) (h2 : 0 < sd bx b_y cx cy px py) (h3 : 0 < sd cx cy ax ay px py) :
    one (hasB ax ay bx b_y px py qx qy) + one (hasB bx b_y cx cy px py qx qy) + one (hasB cx cy ax ay px py qx qy) = one (hasB ax ay bx b_y cx cy qx qy) := by
  have hS : 0 < sd ax ay bx b_y cx cy := by
    have : sd ax ay bx b_y cx cy = sd ax ay bx b_y px py + sd bx b_y cx cy px py + sd cx cy ax ay px py := by unfold sd; grind
    omega
  have na := apart_of3 h1
  have nb := apart_of3 h2
  have nc := apart_of3 h3
  have b1 := @on_back ax ay px py qx qy na
  have b2 := @on_back bx b_y px py qx qy nb
  have b3 := @on_back cx cy px py qx qy nc
  unfold hasB
  rw [decide_eq_true h1, decide_eq_true h2, decide_eq_true h3, decide_eq_true hS, b1, b2, b3]
  simp only [Bool.true_and]
  apply fan_bools
  · intro x y z
    exact fan_part h1 h2 h3 x y (by rw [b1, z]; rfl)
  · intro x y z
    exact fan_part h2 h3 h1 x y (by rw [b2, z]; rfl)
  · intro x y z
    exact fan_part h3 h1 h2 x y (by rw [b3, z]; rfl)
  · rintro ⟨x, y, z⟩
    exact fan_some h1 h2 h3 x y z
  · rintro ⟨x, y, z⟩
    exact fan_none (qx := qx) (qy := qy) h1 h2 h3 (by rw [b1, x]; rfl) (by rw [b2, y]; rfl) (by rw [b3, z]; rfl)

/-- Of two triangles on both sides of an edge at most one has a pixel. -/
theorem shared_law {ax ay bx b_y cx cy dx dy qx qy : Int} (h1 : 0 < sd ax ay bx b_y cx cy) : one (hasB ax ay bx b_y cx cy qx qy) + one (hasB bx b_y ax ay dx dy qx qy) ≤ 1 := by
  have b := @on_back ax ay bx b_y qx qy (apart_of h1)
  unfold hasB
  rw [b]
  cases onB ax ay bx b_y qx qy
  · simp only [Bool.false_and, Bool.and_false]
    unfold one
    split <;> split <;> simp_all
  · simp only [Bool.not_true, Bool.false_and, Bool.and_false]
    unfold one
    split <;> split <;> simp_all

theorem on_pos {ax ay bx b_y px py : Int} (h : 0 < sd ax ay bx b_y px py) : onB ax ay bx b_y px py = true := by unfold onB; rw [if_pos h]

theorem shared_between {ax ay bx b_y cx cy dx dy qx qy : Int} (h1 : 0 < sd ax ay bx b_y cx cy) (h2 : 0 < sd bx b_y ax ay dx dy)
    (h4 : 0 < sd bx b_y cx cy qx qy) (h5 : 0 < sd cx cy ax ay qx qy) (h6 : 0 < sd ax ay dx dy qx qy) (h7 : 0 < sd dx dy bx b_y qx qy) :
    one (hasB ax ay bx b_y cx cy qx qy) + one (hasB bx b_y ax ay dx dy qx qy) = 1 := by
  have b := @on_back ax ay bx b_y qx qy (apart_of h1)
  unfold hasB
  rw [b, decide_eq_true h1, decide_eq_true h2, on_pos h4, on_pos h5, on_pos h6, on_pos h7]
  cases onB ax ay bx b_y qx qy <;> rfl
end Go.Proofs.Ytbbadldapnanpaa.PEdge
