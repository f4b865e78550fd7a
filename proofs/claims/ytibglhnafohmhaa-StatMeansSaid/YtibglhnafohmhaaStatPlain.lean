/- The laws of layer 41, plainly: shares, means and spreads over floats. -/
import Derived.Test.YtibglhnafohmhaaOpensStat
import Derived.Test.YtibglhnafohmhaaFloatLaw
namespace Go.Proofs.Ytibglhnafohmhaa.Plain
open Go.RowKit Go.Proofs.Ytibglhnafohmhaa.PStat Go.Proofs.YtibglhnafohmhaaW.PrintWords Go.Proofs.YtibglhnafohmhaaW.PrintLast

theorem awake40 : temperalaw41_awake.f 40 = some true := by decide +kernel
theorem awake_more (d : Nat) : temperalaw41_awake.f (40 + d) = some true := by
  induction d with
  | zero => exact awake40
  | succ d ih => exact temperalaw41_awake.mono (40 + d) true ih
theorem awake (k : Nat) (h : 40 ≤ k) : temperalaw41_awake.f k = some true := by
  have := awake_more (k - 40)
  rwa [show 40 + (k - 40) = k by omega] at this

theorem sg_foi (n : Int) : sg (decide (n < 0)) (n.natAbs * U) = n * U := by
  unfold sg
  by_cases h : n < 0
  · have e : n = -(n.natAbs : Int) := by omega
    simp only [h, decide_true, if_true]
    rw [Int.natCast_mul]
    generalize n.natAbs = a at *
    subst e
    rw [Int.neg_mul]
  · have e : n = (n.natAbs : Int) := by omega
    simp only [h, decide_false, Bool.false_eq_true, if_false]
    rw [Int.natCast_mul]
    generalize n.natAbs = a at *
    subst e
    rfl

theorem div_zero {x y b : Nat} (hx : Is x false 0) (hy : Is y false (b * U)) (hb : 0 < b) : fok .quo x y = true ∧ fop .quo x y = 0 := by
  obtain ⟨m, i, hr, hi, hm, hu⟩ := hx.read
  obtain ⟨n, j, hq, hj, hn, hv⟩ := hy.read
  have hm0 : m = 0 := by
    rcases Nat.eq_zero_or_pos m with h0 | h0
    · exact h0
    · have := Nat.mul_pos h0 (Nat.two_pow_pos (i + 1074).toNat)
      omega
  have hn0 : ¬ n = 0 := by
    intro h0
    subst h0; rw [Nat.zero_mul] at hv
    have := Nat.mul_pos hb U_pos
    omega
  subst hm0
  have key : floatBits .quo .f64 x y = some 0 := by
    unfold floatBits
    simp only [fmt, Ieee.Format.div, hr, hq, Ieee.Datum.quotient, if_neg hn0, Option.map_some, Ieee.Format.write, Nat.shiftLeft_eq, Nat.zero_mul, Nat.zero_div, Nat.zero_mod, bne_self_eq_false, Bool.toNat_false, Nat.mul_zero, Nat.add_zero]
    rw [nearest_zero']
  exact ⟨by unfold fok; rw [key]; rfl, by unfold fop; rw [key]; rfl⟩

/-! ### means -/
def inR (n : Int) : Prop := -1099511627776 ≤ n ∧ n ≤ 1099511627776
instance (n : Int) : Decidable (inR n) := inferInstanceAs (Decidable (_ ∧ _))
def psum (l : List Int) : Nat → Int
  | 0 => 0
  | i + 1 => psum l i + rd l i
def allR (l : List Int) (i : Nat) : Prop := ∀ j, j < i → inR (rd l j)
theorem psum_bd (l : List Int) (i : Nat) (h : allR l i) : -(i * 1099511627776 : Int) ≤ psum l i ∧ psum l i ≤ i * 1099511627776 := by
  induction i with
  | zero => simp [psum]
  | succ i ih =>
    have h1 := ih (fun j hj => h j (by omega))
    have h2 := h i (by omega)
    unfold inR at h2
    simp only [psum]
    omega
/-- What the mean of numbers is. -/
def meanOf (l : List Int) (n : Nat × Bool) : Prop :=
  (allR l l.length ∧ l.length ≠ 0 ∧ n = (fop .quo (foi (psum l l.length)) (foi (l.length : Int)), true)) ∨ ((¬ allR l l.length ∨ l.length = 0) ∧ n = (0, false))

theorem quo_mean (s : Int) (n : Nat) (hn : 0 < n) (hn2 : n ≤ 1000) (h1 : -(n * 1099511627776 : Int) ≤ s) (h2 : s ≤ n * 1099511627776) :
    fok .quo (foi s) (foi (n : Int)) = true ∧ ∃ neg r, Is (fop .quo (foi s) (foi (n : Int))) neg r ∧ (∀ h : Int, s ≤ h * n → inR h → sg neg r ≤ h * U) ∧ (∀ h : Int, h * n ≤ s → inR h → h * U ≤ sg neg r) := by
  have hy := foi_is (n : Int) (by omega)
  have e1 : decide ((n : Int) < 0) = false := decide_eq_false (by omega)
  rw [e1, Int.natAbs_natCast] at hy
  have hx := foi_is s (by omega)
  have hU : (0 : Int) < (U : Int) := by have := U_pos; omega
  have mulU : ∀ {a b : Nat}, a ≤ b → ((a * U : Nat) : Int) ≤ ((b * U : Nat) : Int) := fun h => Int.ofNat_le.2 (Nat.mul_le_mul_right _ h)
  by_cases h0 : s = 0
  · subst h0
    simp only [Int.lt_irrefl, decide_false, Int.natAbs_zero, Nat.zero_mul] at hx
    obtain ⟨k1, k2⟩ := div_zero hx hy hn
    refine ⟨k1, false, 0, by rw [k2]; exact is_zero, fun h hh _ => ?_, fun h hh _ => ?_⟩
    · have : 0 ≤ h := by
        rcases Int.lt_or_le h 0 with h3 | h3
        · have := Int.mul_neg_of_neg_of_pos h3 (show (0 : Int) < n by omega); omega
        · exact h3
      simpa [sg] using Int.mul_nonneg this (Int.le_of_lt hU)
    · have : h ≤ 0 := by
        rcases Int.lt_or_le 0 h with h3 | h3
        · have := Int.mul_pos h3 (show (0 : Int) < n by omega); omega
        · exact h3
      simpa [sg] using Int.mul_nonpos_of_nonpos_of_nonneg this (Int.le_of_lt hU)
  · obtain ⟨k1, r, hr, g1, g2⟩ := div_is 0 (by omega) hx hy (by omega) hn (by omega) (by omega) (by omega)
    rw [gr_zero] at g1 g2
    refine ⟨k1, _, r, hr, fun h hh hR => ?_, fun h hh hR => ?_⟩
    · by_cases hs : s < 0
      · simp only [hs, decide_true, sg, if_true]
        by_cases hp : 0 ≤ h
        · have := Int.mul_nonneg hp (Int.le_of_lt hU)
          omega
        · have e : h = -(h.natAbs : Int) := by omega
          have := g2 h.natAbs (by
            rw [Nat.pow_zero, Nat.mul_one]
            have h3 : ((h.natAbs * n : Nat) : Int) ≤ s.natAbs := by
              rw [Int.natCast_mul]
              have : h * n = -((h.natAbs : Int) * n) := by rw [← Int.neg_mul, ← e]
              omega
            exact Int.ofNat_le.1 h3)
          have h4 : ((h.natAbs * U : Nat) : Int) ≤ r := Int.ofNat_le.2 this
          rw [Int.natCast_mul] at h4
          have : h * U = -((h.natAbs : Int) * U) := by rw [← Int.neg_mul, ← e]
          omega
      · simp only [hs, decide_false, sg, Bool.false_eq_true, if_false]
        have hp : 0 ≤ h := by
          rcases Int.lt_or_le h 0 with h3 | h3
          · have := Int.mul_neg_of_neg_of_pos h3 (show (0 : Int) < n by omega); omega
          · exact h3
        have e : h = (h.natAbs : Int) := by omega
        have := g1 h.natAbs (by
          rw [Nat.pow_zero, Nat.mul_one]
          have h3 : (s.natAbs : Int) ≤ ((h.natAbs * n : Nat) : Int) := by
            rw [Int.natCast_mul, ← e]
            omega
          exact Int.ofNat_le.1 h3)
        have h4 : (r : Int) ≤ ((h.natAbs * U : Nat) : Int) := Int.ofNat_le.2 this
        rw [Int.natCast_mul, ← e] at h4
        exact h4
    · by_cases hs : s < 0
      · simp only [hs, decide_true, sg, if_true]
        have hp : h < 0 := by
          rcases Int.lt_or_le h 0 with h3 | h3
          · exact h3
          · have := Int.mul_nonneg h3 (show (0 : Int) ≤ n by omega); omega
        have e : h = -(h.natAbs : Int) := by omega
        have := g1 h.natAbs (by
          rw [Nat.pow_zero, Nat.mul_one]
          have h3 : (s.natAbs : Int) ≤ ((h.natAbs * n : Nat) : Int) := by
            rw [Int.natCast_mul]
            have : h * n = -((h.natAbs : Int) * n) := by rw [← Int.neg_mul, ← e]
            omega
          exact Int.ofNat_le.1 h3)
        have h4 : (r : Int) ≤ ((h.natAbs * U : Nat) : Int) := Int.ofNat_le.2 this
        rw [Int.natCast_mul] at h4
        have : h * U = -((h.natAbs : Int) * U) := by rw [← Int.neg_mul, ← e]
        omega
      · simp only [hs, decide_false, sg, Bool.false_eq_true, if_false]
        by_cases hp : 0 ≤ h
        · have e : h = (h.natAbs : Int) := by omega
          have := g2 h.natAbs (by
            rw [Nat.pow_zero, Nat.mul_one]
            have h3 : ((h.natAbs * n : Nat) : Int) ≤ (s.natAbs : Int) := by
              rw [Int.natCast_mul, ← e]
              omega
            exact Int.ofNat_le.1 h3)
          have h4 : ((h.natAbs * U : Nat) : Int) ≤ (r : Int) := Int.ofNat_le.2 this
          rw [Int.natCast_mul, ← e] at h4
          exact h4
        · have := Int.mul_neg_of_neg_of_pos (show h < 0 by omega) hU
          omega

theorem wrapS {l : List Int} {i : Nat} (h : allR l i) (hi : i ≤ 1000) : ∀ x, inR x → wrap64 (psum l i + x) = psum l i + x := by
  intro x hx
  have := psum_bd l i h
  unfold inR at hx
  unfold wrap64
  omega

theorem mean_loop (l : List Int) (hl : l.length ≤ 1000) (d : Nat) : ∀ (k i : Nat), i ≤ l.length → l.length - i = d → d < k → allR l i →
    ∃ n, stat_Mean.l0 k l (psum l i) l (l.length : Int) (i : Int) = some n ∧ meanOf l n := by
  induction d with
  | zero =>
    intro k i h1 hd hk ha
    obtain ⟨k, rfl⟩ : ∃ m, k = m + 1 := ⟨k - 1, by omega⟩
    have hi : i = l.length := by omega
    subst hi
    simp only [stat_Mean.l0]
    rw [if_neg (by omega)]
    by_cases h0 : l.length = 0
    · rw [if_pos (by omega)]
      exact ⟨_, rfl, .inr ⟨.inr h0, rfl⟩⟩
    · rw [if_neg (by omega)]
      have hb := psum_bd l _ ha
      obtain ⟨hok, _⟩ := quo_mean (psum l l.length) l.length (by omega) hl hb.1 hb.2
      rw [if_pos hok]
      exact ⟨_, rfl, .inl ⟨ha, h0, rfl⟩⟩
  | succ d ih =>
    intro k i h1 hd hk ha
    obtain ⟨k, rfl⟩ : ∃ m, k = m + 1 := ⟨k - 1, by omega⟩
    simp only [stat_Mean.l0]
    rw [if_pos (by omega), if_pos (by omega), if_pos (by omega)]
    by_cases hb : rd l i < -1099511627776
    · rw [if_pos hb]
      exact ⟨_, rfl, .inr ⟨.inl (fun h => by have := h i (by omega); unfold inR at this; omega), rfl⟩⟩
    · rw [if_neg hb]
      by_cases hc : rd l i > 1099511627776
      · rw [if_pos hc]
        exact ⟨_, rfl, .inr ⟨.inl (fun h => by have := h i (by omega); unfold inR at this; omega), rfl⟩⟩
      · rw [if_neg hc]
        have hR : inR (rd l i) := by unfold inR; omega
        rw [wrapS ha (by omega) _ hR, show wrap64 ((i : Int) + 1) = ((i + 1 : Nat) : Int) by unfold wrap64; omega]
        exact ih k (i + 1) (by omega) (by omega) (by omega) (fun j hj => by
          rcases Nat.lt_or_ge j i with h3 | h3
          · exact ha j h3
          · have : j = i := by omega
            subst this; exact hR)

def lohi (l : List Int) (i : Nat) (lo hi : Int) : Prop := (i = 0 ∧ lo = 9223372036854775807 ∧ hi = -9223372036854775808) ∨ (inR lo ∧ inR hi ∧ lo * i ≤ psum l i ∧ psum l i ≤ hi * i)
theorem low_f (a b : Int) : temperaref01_Low.f a b = some (if a < b then a else b) := by unfold temperaref01_Low.f; split <;> rfl
theorem high_f (a b : Int) : temperaref01_High.f a b = some (if a > b then a else b) := by unfold temperaref01_High.f; split <;> rfl
theorem lohi_step {l : List Int} {i : Nat} {lo hi : Int} (h : lohi l i lo hi) (hx : inR (rd l i)) : lohi l (i + 1) (if lo < rd l i then lo else rd l i) (if hi > rd l i then hi else rd l i) := by
  rcases h with ⟨rfl, rfl, rfl⟩ | ⟨h1, h2, h3, h4⟩
  · right
    have e1 : (if (9223372036854775807 : Int) < rd l (0 : Nat) then (9223372036854775807 : Int) else rd l (0 : Nat)) = rd l (0 : Nat) := if_neg (by unfold inR at hx; omega)
    have e2 : (if (-9223372036854775808 : Int) > rd l (0 : Nat) then (-9223372036854775808 : Int) else rd l (0 : Nat)) = rd l (0 : Nat) := if_neg (by unfold inR at hx; omega)
    rw [e1, e2]
    exact ⟨hx, hx, by simp [psum], by simp [psum]⟩
  · right
    have hlo : (if lo < rd l i then lo else rd l i) ≤ lo ∧ (if lo < rd l i then lo else rd l i) ≤ rd l i ∧ inR (if lo < rd l i then lo else rd l i) := by
      split
      · exact ⟨by omega, by omega, h1⟩
      · exact ⟨by omega, by omega, hx⟩
    have hhi : hi ≤ (if hi > rd l i then hi else rd l i) ∧ rd l i ≤ (if hi > rd l i then hi else rd l i) ∧ inR (if hi > rd l i then hi else rd l i) := by
      split
      · exact ⟨by omega, by omega, h2⟩
      · exact ⟨by omega, by omega, hx⟩
    generalize (if lo < rd l i then lo else rd l i) = lo' at *
    generalize (if hi > rd l i then hi else rd l i) = hi' at *
    refine ⟨hlo.2.2, hhi.2.2, ?_, ?_⟩
    · have := Int.mul_le_mul_of_nonneg_right hlo.1 (show (0 : Int) ≤ i by omega)
      simp only [psum]
      rw [Int.natCast_add, Int.mul_add]
      omega
    · have := Int.mul_le_mul_of_nonneg_right hhi.1 (show (0 : Int) ≤ i by omega)
      simp only [psum]
      rw [Int.natCast_add, Int.mul_add]
      omega

theorem feq_zero : feq 0 0 = true := (feq_is is_zero is_zero).2 rfl

theorem means_loop (l : List Int) (hl : l.length ≤ 1000) (n : Nat × Bool) (hn : meanOf l n) (d : Nat) : ∀ (k i : Nat) (lo hi : Int), i ≤ l.length → l.length - i = d → 2 * d + 50 < k → allR l i → lohi l i lo hi →
    temperalaw41_StatMeans.l0 k l n.1 n.2 lo hi (psum l i) (i : Int) = some true := by
  induction d with
  | zero =>
    intro k i lo hi h1 hd hk ha hlh
    obtain ⟨k, rfl⟩ : ∃ m, k = m + 1 := ⟨k - 1, by omega⟩
    have hi' : i = l.length := by omega
    subst hi'
    simp only [temperalaw41_StatMeans.l0]
    rw [if_neg (by omega)]
    by_cases h0 : l.length = 0
    · rw [if_pos (by omega)]
      rcases hn with ⟨_, h, _⟩ | ⟨_, rfl⟩
      · exact absurd h0 h
      · simp only []
        rw [if_pos feq_zero, if_neg (by simp), awake k (by omega)]
        rfl
    · rw [if_neg (by omega)]
      have hb := psum_bd l _ ha
      obtain ⟨hok, neg, r, hr, g1, g2⟩ := quo_mean (psum l l.length) l.length (by omega) hl hb.1 hb.2
      rcases hn with ⟨_, _, rfl⟩ | ⟨h, _⟩
      · rcases hlh with ⟨h, _⟩ | ⟨r1, r2, r3, r4⟩
        · omega
        · have hlo := foi_is lo (by unfold inR at r1; omega)
          have hhi := foi_is hi (by unfold inR at r2; omega)
          simp only [if_true]
          rw [if_pos hok, if_pos ((feq_is hr hr).2 rfl), if_pos ((fge_is hr hlo).2 (by rw [sg_foi]; exact g2 lo r3 r1)), if_pos ((fle_is hr hhi).2 (by rw [sg_foi]; exact g1 hi r4 r2)), awake k (by omega)]
          rfl
      · exact absurd ha (by rcases h with h | h; exact h; exact absurd h h0)
  | succ d ih =>
    intro k i lo hi h1 hd hk ha hlh
    obtain ⟨k, rfl⟩ : ∃ m, k = m + 1 := ⟨k - 1, by omega⟩
    obtain ⟨k, rfl⟩ : ∃ m, k = m + 1 := ⟨k - 1, by omega⟩
    simp only [temperalaw41_StatMeans.l0]
    rw [if_pos (by omega), if_pos (by omega)]
    have bad : ¬ inR (rd l i) → temperalaw41_StatMeans.j1 (k + 1) l n.1 n.2 lo hi (psum l i) (i : Int) true = some true := by
      intro hb
      rcases hn with ⟨h, _⟩ | ⟨_, rfl⟩
      · exact absurd (h i (by omega)) hb
      · simp only [temperalaw41_StatMeans.j1, if_true]
        rw [if_pos feq_zero, if_neg (by simp), awake k (by omega)]
        rfl
    by_cases hb : rd l i < -1099511627776
    · rw [if_pos hb]
      exact bad (by unfold inR; omega)
    · rw [if_neg hb]
      by_cases hc : rd l i > 1099511627776
      · rw [decide_eq_true hc]
        exact bad (by unfold inR; omega)
      · rw [decide_eq_false hc]
        have hR : inR (rd l i) := by unfold inR; omega
        simp only [temperalaw41_StatMeans.j1]
        rw [if_neg (by simp), if_pos (by omega), if_pos (by omega), low_f, Option.bind_some, high_f, Option.bind_some, wrapS ha (by omega) _ hR, show wrap64 ((i : Int) + 1) = ((i + 1 : Nat) : Int) by unfold wrap64; omega]
        exact ih k (i + 1) _ _ (by omega) (by omega) (by omega) (fun j hj => by
          rcases Nat.lt_or_ge j i with h3 | h3
          · exact ha j h3
          · have : j = i := by omega
            subst this; exact hR) (lohi_step hlh hR)

theorem StatMeans (l : List Int) (_ : rowOk (inKind .i64) l) : ∃ k, temperalaw41_StatMeans.f k l = some true := by
  refine ⟨2100, ?_⟩
  unfold temperalaw41_StatMeans.f
  by_cases hl : (l.length : Int) > 1000
  · rw [if_pos hl, awake 2100 (by omega)]
    rfl
  · rw [if_neg hl]
    unfold stat_Mean.f
    obtain ⟨n, e, hn⟩ := mean_loop l (by omega) l.length 2100 0 (by omega) (by omega) (by omega) (fun j hj => by omega)
    have e2 : stat_Mean.l0 2100 l 0 l (l.length : Int) 0 = some n := e
    rw [e2, Option.bind_some]
    exact means_loop l (by omega) n hn l.length 2100 0 _ _ (by omega) (by omega) (by omega) (fun j hj => by omega) (.inl ⟨rfl, rfl, rfl⟩)

/-! ### how many draws each worker has -/
def cnt (l : List S40) : Nat → Int → Int
  | 0, _ => 0
  | i + 1, w => cnt l i w + if (rd_T40 l i).f0 = w ∧ (rd_T40 l i).f1 = 2 then 1 else 0
theorem cnt_bd (l : List S40) (i : Nat) (w : Int) : 0 ≤ cnt l i w ∧ cnt l i w ≤ i := by
  induction i with
  | zero => simp [cnt]
  | succ i ih => simp only [cnt]; split <;> omega
/-- All draws of the first so many workers. -/
def tot (l : List S40) : Nat → Int
  | 0 => 0
  | m + 1 => tot l m + cnt l l.length ((m : Int) + 1)
theorem tot_bd (l : List S40) (hl : l.length ≤ 100) (m : Nat) : 0 ≤ tot l m ∧ tot l m ≤ 100 * m := by
  induction m with
  | zero => simp [tot]
  | succ m ih => have := cnt_bd l l.length ((m : Int) + 1); simp only [tot]; omega
theorem tot_mono (l : List S40) (m d : Nat) : tot l m ≤ tot l (m + d) := by
  induction d with
  | zero => exact Int.le_refl _
  | succ d ih => have := cnt_bd l l.length (((m + d : Nat) : Int) + 1); show tot l m ≤ tot l (m + d) + cnt l l.length (((m + d : Nat) : Int) + 1); omega
theorem cnt_le_tot (l : List S40) (m i : Nat) (h : i < m) : cnt l l.length ((i : Int) + 1) ≤ tot l m := by
  have h1 := tot_mono l (i + 1) (m - (i + 1))
  rw [show i + 1 + (m - (i + 1)) = m by omega] at h1
  have h2 : 0 ≤ tot l i := by
    have := tot_mono l 0 i
    rw [Nat.zero_add] at this
    exact this
  have : tot l (i + 1) = tot l i + cnt l l.length ((i : Int) + 1) := rfl
  omega

theorem wrap_ok {x : Int} (h0 : -1000000 ≤ x) (h1 : x ≤ 1000000) : wrap64 x = x := by unfold wrap64; omega

theorem many_loop (l : List S40) (hl : l.length ≤ 100) (w : Int) (d : Nat) : ∀ (k i : Nat), i ≤ l.length → l.length - i = d → d < k →
    temperaref40_Many.l0 k l w 2 (cnt l i w) (i : Int) = some (cnt l l.length w) := by
  induction d with
  | zero =>
    intro k i h1 hd hk
    obtain ⟨k, rfl⟩ : ∃ m, k = m + 1 := ⟨k - 1, by omega⟩
    have hi : i = l.length := by omega
    subst hi
    simp only [temperaref40_Many.l0]
    rw [if_neg (by omega)]
  | succ d ih =>
    intro k i h1 hd hk
    obtain ⟨k, rfl⟩ : ∃ m, k = m + 1 := ⟨k - 1, by omega⟩
    have hb := cnt_bd l i w
    have hi1 : wrap64 ((i : Int) + 1) = ((i + 1 : Nat) : Int) := by unfold wrap64; omega
    have hn := ih k (i + 1) (by omega) (by omega) (by omega)
    simp only [temperaref40_Many.l0]
    rw [if_pos (by omega), if_pos (by omega), hi1, wrap_ok (by omega) (by omega)]
    by_cases h3 : (rd_T40 l i).f0 = w
    · rw [if_pos h3]
      by_cases h4 : (rd_T40 l i).f1 = 2
      · rw [if_pos h4]
        simpa only [cnt, if_pos (And.intro h3 h4)] using hn
      · rw [if_neg h4]
        have : ¬ ((rd_T40 l i).f0 = w ∧ (rd_T40 l i).f1 = 2) := fun h => h4 h.2
        simpa only [cnt, if_neg this, Int.add_zero] using hn
    · rw [if_neg h3]
      have : ¬ ((rd_T40 l i).f0 = w ∧ (rd_T40 l i).f1 = 2) := fun h => h3 h.1
      simpa only [cnt, if_neg this, Int.add_zero] using hn
theorem many (l : List S40) (hl : l.length ≤ 100) (w : Int) (k : Nat) (hk : 101 ≤ k) : temperaref40_Many.f k l w 2 = some (cnt l l.length w) :=
  many_loop l hl w l.length k 0 (by omega) (by omega) (by omega)

theorem draws_loop (l : List S40) (hl : l.length ≤ 100) (n : Nat) (hn : n ≤ 64) (d : Nat) : ∀ (k m : Nat), m ≤ n → n - m = d → d + 102 < k →
    temperaref41_Draws.l0 k l (n : Int) (tot l m) ((m : Int) + 1) = some (tot l n) := by
  induction d with
  | zero =>
    intro k m h1 hd hk
    obtain ⟨k, rfl⟩ : ∃ m, k = m + 1 := ⟨k - 1, by omega⟩
    have hm : m = n := by omega
    subst hm
    simp only [temperaref41_Draws.l0]
    rw [if_neg (by omega)]
  | succ d ih =>
    intro k m h1 hd hk
    obtain ⟨k, rfl⟩ : ∃ m, k = m + 1 := ⟨k - 1, by omega⟩
    have hb := tot_bd l hl m
    have hc := cnt_bd l l.length ((m : Int) + 1)
    simp only [temperaref41_Draws.l0]
    rw [if_pos (by omega), many l hl _ k (by omega), Option.bind_some, wrap_ok (by omega) (by omega), wrap_ok (by omega) (by omega)]
    exact ih k (m + 1) (by omega) (by omega) (by omega)
theorem draws (l : List S40) (hl : l.length ≤ 100) (n : Nat) (hn : n ≤ 64) (k : Nat) (hk : 200 ≤ k) : temperaref41_Draws.f k l (n : Int) = some (tot l n) :=
  draws_loop l hl n hn n k 0 (by omega) (by omega) (by omega)

/-- A worker's share, as a word. -/
def shr_ (l : List S40) (n : Nat) (w : Int) : Nat := if tot l n = 0 then 0 else fop .quo (foi (cnt l l.length w)) (foi (tot l n))

/-- What a share is: its amount r. -/
structure ShIs (l : List S40) (n : Nat) (w : Int) (r : Nat) : Prop where
  is : Is (shr_ l n w) false r
  le : r ≤ U
  ok : tot l n ≠ 0 → fok .quo (foi (cnt l l.length w)) (foi (tot l n)) = true
  up : (tot l n).natAbs * r ≤ (cnt l l.length w).natAbs * U + (tot l n).natAbs * gr 40
  lo : (cnt l l.length w).natAbs * U ≤ (tot l n).natAbs * r + (tot l n).natAbs * gr 40

theorem gr40 : gr 40 * 2 ^ 40 = U := gr_mul (by rw [K_eq]; omega)

theorem sh_is (l : List S40) (hl : l.length ≤ 100) (n : Nat) (hn : n ≤ 64) (i : Nat) (hi : i < n) : ∃ r, ShIs l n ((i : Int) + 1) r := by
  have hc := cnt_bd l l.length ((i : Int) + 1)
  have ht := tot_bd l hl n
  have hct := cnt_le_tot l n i hi
  generalize hcw : cnt l l.length ((i : Int) + 1) = c at *
  generalize hT : tot l n = T at *
  by_cases h0 : T = 0
  · have hc0 : c = 0 := by omega
    refine ⟨0, ⟨by unfold shr_; rw [hT, if_pos h0]; exact is_zero, Nat.zero_le _, fun h => absurd (hT.trans h0) h, ?_, ?_⟩⟩
    · rw [hT, hcw, h0]; simp
    · rw [hT, hcw, hc0]; simp
  · have hy := foi_is T (by omega)
    rw [decide_eq_false (show ¬ T < 0 by omega)] at hy
    by_cases hc0 : c = 0
    · have hx := foi_is c (by omega)
      rw [hc0] at hx
      have hx0 : Is (foi 0) false 0 := by simpa using hx
      obtain ⟨k1, k2⟩ := div_zero hx0 hy (by omega)
      refine ⟨0, ⟨?_, Nat.zero_le _, fun _ => by rw [hcw, hT, hc0]; exact k1, ?_, ?_⟩⟩
      · unfold shr_; rw [hT, if_neg h0, hcw, hc0, k2]; exact is_zero
      · rw [hT, hcw]; simp
      · rw [hT, hcw, hc0]; simp
    · have hx := foi_is c (by omega)
      rw [decide_eq_false (show ¬ c < 0 by omega)] at hx
      obtain ⟨k1, r, hr, g1, g2⟩ := div_is 40 (by omega) hx hy (by omega) (by omega) (by omega) (by omega) (by omega)
      have hTp : 0 < T.natAbs := by omega
      refine ⟨r, ⟨by unfold shr_; rw [hT, if_neg h0, hcw]; exact hr, ?_, fun _ => by rw [hcw, hT]; exact k1, ?_, ?_⟩⟩
      · have := g1 (2 ^ 40) (by rw [Nat.mul_comm]; exact Nat.mul_le_mul_left _ (by omega))
        rwa [Nat.mul_comm, gr40] at this
      · rw [hT, hcw]
        have h1 := g1 (c.natAbs * 2 ^ 40 / T.natAbs + 1) (by
          have := Nat.lt_div_mul_add (a := c.natAbs * 2 ^ 40) hTp
          rw [Nat.add_mul, Nat.one_mul]
          omega)
        have h2 := Nat.mul_le_mul_left T.natAbs h1
        refine Nat.le_trans h2 ?_
        have h3 : T.natAbs * (c.natAbs * 2 ^ 40 / T.natAbs + 1) ≤ c.natAbs * 2 ^ 40 + T.natAbs := by
          rw [Nat.mul_add, Nat.mul_one]
          have := Nat.mul_div_le (c.natAbs * 2 ^ 40) T.natAbs
          omega
        have h4 := Nat.mul_le_mul_right (gr 40) h3
        rw [Nat.add_mul, Nat.mul_assoc c.natAbs, Nat.mul_comm (2 ^ 40), gr40] at h4
        rw [← Nat.mul_assoc]
        exact h4
      · rw [hT, hcw]
        have h1 := g2 (c.natAbs * 2 ^ 40 / T.natAbs) (Nat.div_mul_le_self _ _)
        have h2 := Nat.mul_le_mul_left T.natAbs h1
        have h3 : c.natAbs * 2 ^ 40 ≤ T.natAbs * (c.natAbs * 2 ^ 40 / T.natAbs) + T.natAbs := by
          have := Nat.lt_div_mul_add (a := c.natAbs * 2 ^ 40) hTp
          rw [Nat.mul_comm T.natAbs]
          omega
        have h4 := Nat.mul_le_mul_right (gr 40) h3
        rw [Nat.add_mul, Nat.mul_assoc c.natAbs, Nat.mul_comm (2 ^ 40), gr40] at h4
        rw [← Nat.mul_assoc] at h2
        omega

theorem share_f (l : List S40) (hl : l.length ≤ 100) (n : Nat) (hn : n ≤ 64) (i : Nat) (hi : i < n) (k : Nat) (hk : 200 ≤ k) : temperaref41_Share.f k l (n : Int) ((i : Int) + 1) = some (shr_ l n ((i : Int) + 1)) := by
  obtain ⟨r, hr⟩ := sh_is l hl n hn i hi
  unfold temperaref41_Share.f shr_
  rw [draws l hl n hn k hk, Option.bind_some]
  by_cases h0 : tot l n = 0
  · rw [if_pos h0, if_pos h0]
  · rw [if_neg h0, if_neg h0, many l hl _ k (by omega), Option.bind_some, if_pos (hr.ok h0)]

/-! ### what workers had to do -/
def LoadsAre (l : List S40) (n i : Nat) (x : List S45) : Prop := x.length = n ∧ ∀ w : Nat, w < n → (rd_T45 x w).f1 = cnt l i ((w : Int) + 1)
theorem rd_set (x : List S45) (j : Nat) (v : S45) (w : Nat) (hj : j < x.length) : rd_T45 (x.set j v) (w : Int) = if j = w then v else rd_T45 x (w : Int) := by
  unfold rd_T45
  simp only [Int.toNat_natCast, List.getD_eq_getElem?_getD, List.getElem?_set]
  by_cases h : j = w
  · subst h; simp [hj]
  · simp [h]

theorem loads_loop (l : List S40) (hl : l.length ≤ 100) (n : Nat) (hn : n ≤ 64) (d : Nat) : ∀ (k i : Nat) (x : List S45), i ≤ l.length → l.length - i = d → 2 * d + 1 < k → LoadsAre l n i x →
    ∃ y, audit_Loads.l0 k (n : Int) x l (l.length : Int) (i : Int) = some (y, 0) ∧ LoadsAre l n l.length y := by
  induction d with
  | zero =>
    intro k i x h1 hd hk hx
    obtain ⟨k, rfl⟩ : ∃ m, k = m + 1 := ⟨k - 1, by omega⟩
    have hi : i = l.length := by omega
    subst hi
    simp only [audit_Loads.l0]
    rw [if_neg (by omega)]
    exact ⟨x, rfl, hx⟩
  | succ d ih =>
    intro k i x h1 hd hk hx
    obtain ⟨k, rfl⟩ : ∃ m, k = m + 1 := ⟨k - 1, by omega⟩
    obtain ⟨k, rfl⟩ : ∃ m, k = m + 1 := ⟨k - 1, by omega⟩
    have hi1 : wrap64 ((i : Int) + 1) = ((i + 1 : Nat) : Int) := by unfold wrap64; omega
    have step : ∀ y, LoadsAre l n (i + 1) y → ∃ z, audit_Loads.l0 k (n : Int) y l (l.length : Int) ((i + 1 : Nat) : Int) = some (z, 0) ∧ LoadsAre l n l.length z :=
      fun y hy => ih k (i + 1) y (by omega) (by omega) (by omega) hy
    have same : (¬ ((1 ≤ (rd_T40 l i).f0 ∧ (rd_T40 l i).f0 ≤ n) ∧ (rd_T40 l i).f1 = 2)) → LoadsAre l n (i + 1) x := fun hno => ⟨hx.1, fun w hw => by
      rw [hx.2 w hw]
      simp only [cnt]
      rw [if_neg (fun h => hno ⟨by omega, h.2⟩)]
      omega⟩
    simp only [audit_Loads.l0]
    rw [if_pos (by omega), if_pos (by omega), if_pos (by omega)]
    generalize hev : rd_T40 l (i : Int) = ev at *
    have skip : (¬ (1 ≤ ev.f0 ∧ ev.f0 ≤ n)) → ∃ z, audit_Loads.j2 (k + 1) (n : Int) x l (l.length : Int) (i : Int) true ev.f0 ev.f1 ev.f2 ev.f3 = some (z, 0) ∧ LoadsAre l n l.length z := by
      intro hno
      simp only [audit_Loads.j2, if_true]
      rw [hi1]
      exact step x (same (fun h => hno h.1))
    by_cases h3 : ev.f0 < 1
    · rw [if_pos h3]
      exact skip (by omega)
    · rw [if_neg h3]
      by_cases h4 : ev.f0 > n
      · rw [decide_eq_true h4]
        exact skip (by omega)
      · rw [decide_eq_false h4]
        have hw1 : wrap64 (ev.f0 - 1) = (((ev.f0 - 1).toNat : Nat) : Int) := by unfold wrap64; omega
        have hlen := hx.1
        simp only [audit_Loads.j2, Bool.false_eq_true, if_false]
        rw [hw1, hi1, if_pos (by omega), if_pos (by omega)]
        simp only [Int.toNat_natCast]
        generalize hp : (ev.f0 - 1).toNat = p at *
        have hpn : p < n := by omega
        have hpx : p < x.length := by omega
        have other : ∀ v : S45, v.f1 = (rd_T45 x (p : Int)).f1 → (¬ ev.f1 = 2) → LoadsAre l n (i + 1) (x.set p v) := fun v hv hno => ⟨by rw [List.length_set]; exact hlen, fun w hw => by
          rw [rd_set x p v w hpx]
          have hcn : cnt l (i + 1) ((w : Int) + 1) = cnt l i ((w : Int) + 1) := by
            simp only [cnt]
            rw [hev, if_neg (fun h => hno h.2)]
            omega
          rw [hcn]
          split
          · rename_i e; subst e; rw [hv]; exact hx.2 p hw
          · exact hx.2 w hw⟩
        by_cases h5 : ev.f1 = 1
        · rw [if_pos h5]
          exact step _ (other _ rfl (by omega))
        · rw [if_neg h5]
          by_cases h6 : ev.f1 = 2
          · rw [if_pos h6]
            refine step _ ⟨by rw [List.length_set]; exact hlen, fun w hw => ?_⟩
            rw [rd_set x p _ w hpx]
            have hb := cnt_bd l i ((p : Int) + 1)
            split
            · rename_i e; subst e
              show wrap64 ((rd_T45 x (p : Int)).f1 + 1) = _
              rw [hx.2 p hw, wrap_ok (by omega) (by omega)]
              simp only [cnt]
              rw [hev, if_pos ⟨by omega, h6⟩]
            · rename_i e
              rw [hx.2 w hw]
              simp only [cnt]
              rw [hev, if_neg (fun h => e (by omega))]
              omega
          · rw [if_neg h6]
            by_cases h7 : ev.f1 = 3
            · rw [if_pos h7]
              exact step _ (other _ rfl (by omega))
            · rw [if_neg h7]
              exact step x (same (fun h => h6 h.2))

theorem loads (l : List S40) (hl : l.length ≤ 100) (n : Nat) (hn : n ≤ 64) (h1 : 1 ≤ n) (k : Nat) (hk : 300 ≤ k) : ∃ y, audit_Loads.f k l (n : Int) = some (y, 0) ∧ LoadsAre l n l.length y := by
  obtain ⟨k, rfl⟩ : ∃ m, k = m + 1 := ⟨k - 1, by omega⟩
  unfold audit_Loads.f
  rw [if_neg (by omega), decide_eq_false (by omega)]
  simp only [audit_Loads.j0, Bool.false_eq_true, if_false]
  rw [if_pos (by omega), if_pos (by omega)]
  refine loads_loop l hl n hn l.length k 0 _ (by omega) (by omega) (by omega) ⟨by simp, fun w hw => ?_⟩
  simp only [cnt, rd_T45, Int.toNat_natCast, List.getD_eq_getElem?_getD, List.getElem?_replicate]
  rw [if_pos hw]
  rfl
theorem loads_no (l : List S40) (n : Int) (h : n < 1 ∨ n > 64) (k : Nat) (hk : 300 ≤ k) : audit_Loads.f k l n = some ([], 2) := by
  obtain ⟨k, rfl⟩ : ∃ m, k = m + 1 := ⟨k - 1, by omega⟩
  unfold audit_Loads.f
  by_cases h1 : n < 1
  · rw [if_pos h1]; simp [audit_Loads.j0]
  · rw [if_neg h1, decide_eq_true (show n > 64 by omega)]; simp [audit_Loads.j0]

/-! ### shares -/
def SharesAre (l : List S40) (n i : Nat) (s : List Nat) : Prop := s.length = n ∧ ∀ w : Nat, w < n → rdOf (0 : Nat) s (w : Int) = if w < i then shr_ l n ((w : Int) + 1) else 0
theorem rdOf_set (x : List Nat) (j v w : Nat) (hj : j < x.length) : rdOf (0 : Nat) (x.set j v) (w : Int) = if j = w then v else rdOf (0 : Nat) x (w : Int) := by
  unfold rdOf
  simp only [Int.toNat_natCast, List.getD_eq_getElem?_getD, List.getElem?_set]
  by_cases h : j = w
  · subst h; simp [hj]
  · simp [h]

theorem shares_loop1 (l : List S40) (hl : l.length ≤ 100) (n : Nat) (hn : n ≤ 64) (y : List S45) (hy : LoadsAre l n l.length y) (d : Nat) : ∀ (k i : Nat) (s : List Nat), i ≤ n → n - i = d → d < k → SharesAre l n i s →
    ∃ t, stat_Shares.l1 k (tot l n) s y (y.length : Int) (i : Int) = some (t, 0) ∧ SharesAre l n n t := by
  induction d with
  | zero =>
    intro k i s h1 hd hk hs
    obtain ⟨k, rfl⟩ : ∃ m, k = m + 1 := ⟨k - 1, by omega⟩
    have hi : i = n := by omega
    subst hi
    have := hy.1
    simp only [stat_Shares.l1]
    rw [if_neg (by omega)]
    exact ⟨s, rfl, hs⟩
  | succ d ih =>
    intro k i s h1 hd hk hs
    obtain ⟨k, rfl⟩ : ∃ m, k = m + 1 := ⟨k - 1, by omega⟩
    have hyl := hy.1
    have hsl := hs.1
    have hi1 : wrap64 ((i : Int) + 1) = ((i + 1 : Nat) : Int) := by unfold wrap64; omega
    obtain ⟨r, hr⟩ := sh_is l hl n hn i (by omega)
    have ht := tot_bd l hl n
    simp only [stat_Shares.l1]
    rw [if_pos (by omega), if_pos (by omega), if_pos (by omega), hi1, hy.2 i (by omega)]
    by_cases h0 : tot l n > 0
    · rw [if_pos h0, if_pos (hr.ok (by omega)), if_pos (by omega)]
      refine ih k (i + 1) _ (by omega) (by omega) (by omega) ⟨by rw [List.length_set]; exact hsl, fun w hw => ?_⟩
      simp only [Int.toNat_natCast]
      rw [rdOf_set s i _ w (by omega), hs.2 w hw]
      by_cases e : i = w
      · subst e
        rw [if_pos rfl, if_pos (by omega)]
        unfold shr_
        rw [if_neg (by omega)]
      · rw [if_neg e]
        by_cases e2 : w < i
        · rw [if_pos e2, if_pos (by omega)]
        · rw [if_neg e2, if_neg (by omega)]
    · rw [if_neg h0]
      refine ih k (i + 1) _ (by omega) (by omega) (by omega) ⟨hsl, fun w hw => ?_⟩
      rw [hs.2 w hw]
      have : shr_ l n ((w : Int) + 1) = 0 := by unfold shr_; rw [if_pos (by omega)]
      rw [this]
      simp

theorem shares_loop0 (l : List S40) (hl : l.length ≤ 100) (n : Nat) (hn : n ≤ 64) (y : List S45) (hy : LoadsAre l n l.length y) (d : Nat) : ∀ (k i : Nat), i ≤ n → n - i = d → d + 70 < k →
    ∃ t, stat_Shares.l0 k y (tot l i) y (y.length : Int) (i : Int) = some (t, 0) ∧ SharesAre l n n t := by
  induction d with
  | zero =>
    intro k i h1 hd hk
    obtain ⟨k, rfl⟩ : ∃ m, k = m + 1 := ⟨k - 1, by omega⟩
    have hi : i = n := by omega
    subst hi
    have hyl := hy.1
    simp only [stat_Shares.l0]
    rw [if_neg (by omega), if_pos (by omega), if_pos (by omega)]
    refine shares_loop1 l hl i hn y hy i k 0 _ (by omega) (by omega) (by omega) ⟨by simp [hyl], fun w hw => ?_⟩
    simp only [rdOf, Int.toNat_natCast, List.getD_eq_getElem?_getD, List.getElem?_replicate]
    rw [if_pos (by omega)]
    simp
  | succ d ih =>
    intro k i h1 hd hk
    obtain ⟨k, rfl⟩ : ∃ m, k = m + 1 := ⟨k - 1, by omega⟩
    have hyl := hy.1
    have hb := tot_bd l hl i
    have hc := cnt_bd l l.length ((i : Int) + 1)
    have hi1 : wrap64 ((i : Int) + 1) = ((i + 1 : Nat) : Int) := by unfold wrap64; omega
    simp only [stat_Shares.l0]
    rw [if_pos (by omega), if_pos (by omega), if_pos (by omega), hi1, hy.2 i (by omega), wrap_ok (by omega) (by omega)]
    exact ih k (i + 1) (by omega) (by omega) (by omega)

theorem shares (l : List S40) (hl : l.length ≤ 100) (n : Nat) (hn : n ≤ 64) (h1 : 1 ≤ n) (k : Nat) (hk : 300 ≤ k) : ∃ s, stat_Shares.f k l (n : Int) = some (s, 0) ∧ SharesAre l n n s := by
  obtain ⟨y, e, hy⟩ := loads l hl n hn h1 k hk
  unfold stat_Shares.f
  rw [e, Option.bind_some]
  simp only [if_true]
  exact shares_loop0 l hl n hn y hy n k 0 (by omega) (by omega) (by omega)
theorem shares_no (l : List S40) (n : Int) (h : n < 1 ∨ n > 64) (k : Nat) (hk : 300 ≤ k) : stat_Shares.f k l n = some ([], 2) := by
  unfold stat_Shares.f
  rw [loads_no l n h k hk, Option.bind_some]
  simp

theorem gr53 : gr 53 * 2 ^ 53 = U := gr_mul (by rw [K_eq]; omega)
theorem gr52 : gr 52 * 2 ^ 52 = U := gr_mul (by rw [K_eq]; omega)
theorem word_is (e c w g : Nat) (he : e ≤ 1100) (hc : 4503599627370496 ≤ c) (hc2 : c ≤ 9007199254740992) (hw : w = e * 4503599627370496 + c) (hg : e = K - g) : Is w false (c * gr g) := by
  refine ⟨w, by omega, rfl, ?_⟩
  rw [gr_eq, ← hg, hw]
  exact (amt_of e c hc hc2).symm
theorem one_is : Is 4607182418800017408 false U := by
  have := word_is 1022 4503599627370496 4607182418800017408 52 (by omega) (by omega) (by omega) (by omega) (by rw [K_eq])
  rwa [Nat.mul_comm, show (4503599627370496 : Nat) = 2 ^ 52 from rfl, gr52] at this
theorem low_is : Is 4607182409792818153 false (9007190247541737 * gr 53) := word_is 1021 _ _ 53 (by omega) (by omega) (by omega) (by omega) (by rw [K_eq])
theorem high_is : Is 4607182423303617035 false (4503604130970123 * gr 52) := word_is 1022 _ _ 52 (by omega) (by omega) (by omega) (by omega) (by rw [K_eq])
theorem add_zero0 : fok .add 0 0 = true ∧ fop .add 0 0 = 0 := by
  obtain ⟨h1, r, hr, h2, _⟩ := add_is is_zero is_zero (by have := U_pos; omega)
  have := h2 0 (by omega)
  have : r = 0 := by omega
  subst this
  exact ⟨h1, hr.inj is_zero⟩

/-- The sum of so many shares: as a word, and its amount. -/
structure SumIs (l : List S40) (n i : Nat) (x u : Nat) : Prop where
  is : Is x false u
  up : (tot l n).natAbs * u ≤ (tot l i).natAbs * U + 2 * i * ((tot l n).natAbs * gr 40)
  lo : (tot l i).natAbs * U ≤ (tot l n).natAbs * u + 2 * i * ((tot l n).natAbs * gr 40)
  no : tot l n = 0 → x = 0

theorem sum_step (l : List S40) (hl : l.length ≤ 100) (n : Nat) (hn : n ≤ 64) (i : Nat) (hi : i < n) {x u r : Nat} (hx : SumIs l n i x u) (hr : ShIs l n ((i : Int) + 1) r) :
    fok .add x (shr_ l n ((i : Int) + 1)) = true ∧ ∃ u', SumIs l n (i + 1) (fop .add x (shr_ l n ((i : Int) + 1))) u' := by
  by_cases h0 : tot l n = 0
  · have e1 := hx.no h0
    have e2 : shr_ l n ((i : Int) + 1) = 0 := by unfold shr_; rw [if_pos h0]
    subst e1
    rw [e2]
    have hm : tot l (i + 1) ≤ tot l n := by
      have := tot_mono l (i + 1) (n - (i + 1))
      rwa [show i + 1 + (n - (i + 1)) = n by omega] at this
    have hp := tot_bd l hl (i + 1)
    have h3 : tot l (i + 1) = 0 := by omega
    exact ⟨add_zero0.1, 0, ⟨by rw [add_zero0.2]; exact is_zero, by simp, by rw [h3]; simp, fun _ => add_zero0.2⟩⟩
  · have hp := tot_bd l hl i
    have ht := tot_bd l hl n
    have hc := cnt_bd l l.length ((i : Int) + 1)
    have hm : tot l (i + 1) ≤ tot l n := by
      have := tot_mono l (i + 1) (n - (i + 1))
      rwa [show i + 1 + (n - (i + 1)) = n by omega] at this
    have e : tot l (i + 1) = tot l i + cnt l l.length ((i : Int) + 1) := rfl
    have e' : (tot l (i + 1)).natAbs = (tot l i).natAbs + (cnt l l.length ((i : Int) + 1)).natAbs := by omega
    have hmn : (tot l (i + 1)).natAbs ≤ (tot l n).natAbs := by omega
    have hTp : 0 < (tot l n).natAbs := by omega
    have hxu := hx.up
    have hxl := hx.lo
    have hru := hr.up
    have hrl := hr.lo
    have hg := gr40
    have hgp := gr_pos 40
    generalize hTT : (tot l n).natAbs = T at *
    generalize hPP : (tot l (i + 1)).natAbs = P' at *
    generalize (tot l i).natAbs = P at *
    generalize (cnt l l.length ((i : Int) + 1)).natAbs = c at *
    subst e'
    have a1 : (2 * i) * (T * gr 40) ≤ 128 * (T * gr 40) := Nat.mul_le_mul_right _ (by omega)
    have a2 : P * U + c * U ≤ T * U := by rw [← Nat.add_mul]; exact Nat.mul_le_mul_right _ hmn
    have a3 : T * (u + r) ≤ T * U + 129 * (T * gr 40) := by rw [Nat.mul_add]; omega
    have a4 : 129 * (T * gr 40) ≤ T * U := by
      rw [← hg, Nat.mul_left_comm]
      refine Nat.mul_le_mul_left _ ?_
      rw [Nat.mul_comm]
      exact Nat.mul_le_mul_left _ (by decide)
    have a5 : u + r < 2 ^ 13 * U := by
      have b1 : T * (u + r) ≤ T * (2 * U) := by rw [Nat.mul_left_comm]; omega
      have b2 := Nat.le_of_mul_le_mul_left b1 hTp
      have b3 := U_pos
      omega
    obtain ⟨k1, r', hr', g1, g2⟩ := add_is hx.is hr.is a5
    have up' : r' ≤ u + r + gr 40 := by
      have b1 := g1 ((u + r) / gr 40 + 1) (by
        have := Nat.lt_div_mul_add (a := u + r) hgp
        rw [Nat.add_mul, Nat.one_mul]; omega)
      have b2 := Nat.div_mul_le_self (u + r) (gr 40)
      rw [Nat.add_mul, Nat.one_mul] at b1
      omega
    have lo' : u + r ≤ r' + gr 40 := by
      have b1 := g2 ((u + r) / gr 40) (Nat.div_mul_le_self _ _)
      have b2 := Nat.lt_div_mul_add (a := u + r) hgp
      omega
    have up2 := Nat.mul_le_mul_left T up'
    have lo2 := Nat.mul_le_mul_left T lo'
    rw [Nat.mul_add, Nat.mul_add] at up2 lo2
    have e3 : 2 * (i + 1) * (T * gr 40) = 2 * i * (T * gr 40) + 2 * (T * gr 40) := by rw [Nat.mul_add, Nat.add_mul]
    refine ⟨k1, r', ⟨hr', ?_, ?_, fun h => absurd h h0⟩⟩
    · rw [hTT, hPP, e3, Nat.add_mul]
      omega
    · rw [hTT, hPP, e3, Nat.add_mul]
      omega

theorem grs : U = 9007199254740992 * gr 53 ∧ gr 40 = 8192 * gr 53 ∧ gr 52 = 2 * gr 53 := by
  have h53 := gr53
  have e1 : gr 40 = 8192 * gr 53 := by
    have e : K - 40 = 13 + (K - 53) := by rw [K_eq]
    rw [gr_eq, gr_eq, e, Nat.pow_add]
  have e2 : gr 52 = 2 * gr 53 := by
    have e : K - 52 = 1 + (K - 53) := by rw [K_eq]
    rw [gr_eq, gr_eq, e, Nat.pow_add, Nat.pow_one]
  refine ⟨?_, e1, e2⟩
  rw [← h53, Nat.mul_comm]

theorem sum_end (l : List S40) (n : Nat) (hn : n ≤ 64) (h0 : tot l n ≠ 0) {x u : Nat} (hx : SumIs l n n x u) : fgt x 4607182409792818153 = true ∧ flt x 4607182423303617035 = true := by
  have hTp : 0 < (tot l n).natAbs := by omega
  have hup := hx.up
  have hlo := hx.lo
  generalize (tot l n).natAbs = T at *
  have a1 : 2 * n * (T * gr 40) ≤ 128 * (T * gr 40) := Nat.mul_le_mul_right _ (by omega)
  have e : T * (128 * gr 40) = 128 * (T * gr 40) := by rw [Nat.mul_left_comm]
  have b1 : T * u ≤ T * (U + 128 * gr 40) := by rw [Nat.mul_add, e]; omega
  have b2 : T * U ≤ T * (u + 128 * gr 40) := by rw [Nat.mul_add, e]; omega
  have c1 := Nat.le_of_mul_le_mul_left b1 hTp
  have c2 := Nat.le_of_mul_le_mul_left b2 hTp
  obtain ⟨g1, g2, g3⟩ := grs
  have hz := gr_pos 53
  constructor
  · refine (fgt_is hx.is low_is).2 ?_
    simp only [sg, Bool.false_eq_true, if_false]
    refine Int.ofNat_lt.2 ?_
    omega
  · refine (flt_is hx.is high_is).2 ?_
    simp only [sg, Bool.false_eq_true, if_false]
    refine Int.ofNat_lt.2 ?_
    rw [g3]
    omega

theorem shares_law (l : List S40) (hl : l.length ≤ 100) (n : Nat) (hn : n ≤ 64) (s : List Nat) (hs : SharesAre l n n s) (d : Nat) : ∀ (k i x u : Nat), i ≤ n → n - i = d → d + 300 < k → SumIs l n i x u →
    temperalaw41_StatShares.l0 k l (n : Int) s x (i : Int) = some true := by
  induction d with
  | zero =>
    intro k i x u h1 hd hk hx
    obtain ⟨k, rfl⟩ : ∃ m, k = m + 1 := ⟨k - 1, by omega⟩
    have hi : i = n := by omega
    subst hi
    simp only [temperalaw41_StatShares.l0]
    rw [if_neg (by omega), draws l hl i hn k (by omega), Option.bind_some]
    by_cases h0 : tot l i = 0
    · rw [if_pos h0, hx.no h0, if_pos feq_zero, awake k (by omega)]
      rfl
    · obtain ⟨e1, e2⟩ := sum_end l i hn h0 hx
      rw [if_neg h0, if_pos e1, if_pos e2, awake k (by omega)]
      rfl
  | succ d ih =>
    intro k i x u h1 hd hk hx
    obtain ⟨k, rfl⟩ : ∃ m, k = m + 1 := ⟨k - 1, by omega⟩
    have hsl := hs.1
    have hi1 : wrap64 ((i : Int) + 1) = (i : Int) + 1 := by unfold wrap64; omega
    obtain ⟨r, hr⟩ := sh_is l hl n hn i (by omega)
    obtain ⟨k1, u', hx'⟩ := sum_step l hl n hn i (by omega) hx hr
    have e := hs.2 i (by omega)
    rw [if_pos (by omega)] at e
    simp only [temperalaw41_StatShares.l0]
    rw [if_pos (by omega), if_pos (by omega), if_pos (by omega), hi1, share_f l hl n hn i (by omega) k (by omega), Option.bind_some, e]
    have n1 : ¬ (fne (shr_ l n ((i : Int) + 1)) (shr_ l n ((i : Int) + 1)) = true) := fun h => (fne_is hr.is hr.is).1 h rfl
    have n2 : ¬ (flt (shr_ l n ((i : Int) + 1)) 0 = true) := fun h => by
      have h2 := (flt_is hr.is is_zero).1 h
      simp only [sg, Bool.false_eq_true, if_false] at h2
      omega
    have n3 : ¬ (fgt (shr_ l n ((i : Int) + 1)) 4607182418800017408 = true) := fun h => by
      have h2 := (fgt_is hr.is one_is).1 h
      simp only [sg, Bool.false_eq_true, if_false] at h2
      have := hr.le
      omega
    rw [if_neg n1, if_neg n2, if_neg n3, if_pos k1]
    exact ih k (i + 1) _ u' (by omega) (by omega) (by omega) hx'

theorem StatShares (l : List S40) (n : Int) (_ : rowOk good40 l) (_ : inKind .i64 n) : ∃ k, temperalaw41_StatShares.f k l n = some true := by
  refine ⟨502, ?_⟩
  unfold temperalaw41_StatShares.f
  by_cases hl : (l.length : Int) > 100
  · rw [if_pos hl, awake 502 (by omega)]
    rfl
  · rw [if_neg hl]
    have no : n < 1 ∨ n > 64 → ((stat_Shares.f 502 l n).bind fun bt154 => temperalaw41_StatShares.j0 502 l n bt154.1 bt154.2 true) = some true := by
      intro h
      rw [shares_no l n h 502 (by omega), Option.bind_some]
      simp only [temperalaw41_StatShares.j0, if_true, List.length_nil]
      rw [if_pos (show ((0 : Nat) : Int) = 0 from rfl), awake 501 (by omega)]
      rfl
    by_cases h1 : n < 1
    · simp only [if_pos h1]
      exact no (.inl h1)
    · simp only [if_neg h1]
      by_cases h2 : n > 64
      · simp only [decide_eq_true h2]
        exact no (.inr h2)
      · simp only [decide_eq_false h2]
        obtain ⟨m, rfl⟩ : ∃ m : Nat, n = m := ⟨n.toNat, by omega⟩
        obtain ⟨s, e, hs⟩ := shares l (by omega) m (by omega) (by omega) 502 (by omega)
        rw [e, Option.bind_some]
        simp only [temperalaw41_StatShares.j0, Bool.false_eq_true, if_false, if_true]
        have hb : ((s.length : Int) != (m : Int)) = false := by rw [hs.1]; simp
        rw [hb]
        simp only [temperalaw41_StatShares.j1, Bool.false_eq_true, if_false]
        exact shares_law l (by omega) m (by omega) s hs m 500 0 0 0 (by omega) (by omega) (by omega) ⟨is_zero, by simp, by simp [tot], fun _ => rfl⟩

/-! ### spreads -/
def mxs (l : List S40) (n : Nat) : Nat → Nat
  | 0 => shr_ l n 1
  | i + 1 => fmx (mxs l n i) (shr_ l n (((i + 1 : Nat) : Int) + 1))
def mns (l : List S40) (n : Nat) : Nat → Nat
  | 0 => shr_ l n 1
  | i + 1 => fmn (mns l n i) (shr_ l n (((i + 1 : Nat) : Int) + 1))
theorem dec_pos {x u : Nat} (hx : Is x false u) : (FloatKind.f64.decode x).neg = false := by
  obtain ⟨m, i, hr, _⟩ := hx.read
  show (Ieee.double.read x).neg = false
  rw [hr]; rfl
theorem fmx_is {x y u v : Nat} (hx : Is x false u) (hy : Is y false v) : fmx x y = (if fgt y x = true then y else x) ∧ Is (fmx x y) false (max u v) := by
  have ho := order_is hx hy
  have h2 := fgt_is hy hx
  simp only [sg, Bool.false_eq_true, if_false] at ho h2
  rcases Nat.lt_trichotomy u v with h | h | h
  · rw [compare_lt.2 (Int.ofNat_lt.2 h)] at ho
    have e : fmx x y = y := by unfold fmx; rw [ho]
    rw [e, if_pos (h2.2 (Int.ofNat_lt.2 h)), Nat.max_eq_right (Nat.le_of_lt h)]
    exact ⟨rfl, hy⟩
  · subst h
    rw [compare_eq.2 rfl] at ho
    have e : fmx x y = x := by unfold fmx; rw [ho]; simp [dec_pos hx]
    have hn : ¬ (fgt y x = true) := fun h3 => by have := h2.1 h3; omega
    rw [e, if_neg hn, Nat.max_self]
    exact ⟨rfl, hx⟩
  · rw [compare_gt.2 (Int.ofNat_lt.2 h)] at ho
    have e : fmx x y = x := by unfold fmx; rw [ho]
    have hn : ¬ (fgt y x = true) := fun h3 => by have := h2.1 h3; omega
    rw [e, if_neg hn, Nat.max_eq_left (Nat.le_of_lt h)]
    exact ⟨rfl, hx⟩
theorem fmn_is {x y u v : Nat} (hx : Is x false u) (hy : Is y false v) : fmn x y = (if flt y x = true then y else x) ∧ Is (fmn x y) false (min u v) := by
  have ho := order_is hx hy
  have h2 := flt_is hy hx
  simp only [sg, Bool.false_eq_true, if_false] at ho h2
  rcases Nat.lt_trichotomy u v with h | h | h
  · rw [compare_lt.2 (Int.ofNat_lt.2 h)] at ho
    have e : fmn x y = x := by unfold fmn; rw [ho]
    have hn : ¬ (flt y x = true) := fun h3 => by have := h2.1 h3; omega
    rw [e, if_neg hn, Nat.min_eq_left (Nat.le_of_lt h)]
    exact ⟨rfl, hx⟩
  · subst h
    have exy := hx.inj hy
    rw [compare_eq.2 rfl] at ho
    have e : fmn x y = x := by unfold fmn; rw [ho]; simp [exy]
    have hn : ¬ (flt y x = true) := fun h3 => by have := h2.1 h3; omega
    rw [e, if_neg hn, Nat.min_self]
    exact ⟨rfl, hx⟩
  · rw [compare_gt.2 (Int.ofNat_lt.2 h)] at ho
    have e : fmn x y = y := by unfold fmn; rw [ho]
    rw [e, if_pos (h2.2 (Int.ofNat_lt.2 h)), Nat.min_eq_right (Nat.le_of_lt h)]
    exact ⟨rfl, hy⟩

/-- The least and the greatest share of the first so many. -/
theorem mm_is (l : List S40) (hl : l.length ≤ 100) (n : Nat) (hn : n ≤ 64) (i : Nat) (hi : i < n) : ∃ u v, Is (mns l n i) false u ∧ Is (mxs l n i) false v ∧ u ≤ v ∧ v ≤ U ∧ (i = 0 → u = v) := by
  induction i with
  | zero =>
    obtain ⟨r, hr⟩ := sh_is l hl n hn 0 hi
    exact ⟨r, r, hr.is, hr.is, Nat.le_refl _, hr.le, fun _ => rfl⟩
  | succ i ih =>
    obtain ⟨u, v, h1, h2, h3, h4, _⟩ := ih (by omega)
    obtain ⟨r, hr⟩ := sh_is l hl n hn (i + 1) hi
    refine ⟨min u r, max v r, (fmn_is h1 hr.is).2, (fmx_is h2 hr.is).2, by omega, by have := hr.le; omega, fun h => by omega⟩

theorem max_loop (l : List S40) (hl : l.length ≤ 100) (n : Nat) (hn : n ≤ 64) (s : List Nat) (hs : SharesAre l n n s) (d : Nat) : ∀ (k i : Nat), i < n → n - 1 - i = d → d < k →
    slices_Max_float64_float64.l0 k s (mxs l n i) ((i : Int) + 1) = some (mxs l n (n - 1)) := by
  induction d with
  | zero =>
    intro k i h1 hd hk
    obtain ⟨k, rfl⟩ : ∃ m, k = m + 1 := ⟨k - 1, by omega⟩
    have hi : i = n - 1 := by omega
    subst hi
    have := hs.1
    simp only [slices_Max_float64_float64.l0]
    rw [if_neg (by omega)]
  | succ d ih =>
    intro k i h1 hd hk
    obtain ⟨k, rfl⟩ : ∃ m, k = m + 1 := ⟨k - 1, by omega⟩
    have hsl := hs.1
    have hin : i + 1 < n := by omega
    have hw : wrap64 ((i : Int) + 1 + 1) = ((i + 1 : Nat) : Int) + 1 := by unfold wrap64; omega
    have hc : (i : Int) + 1 = ((i + 1 : Nat) : Int) := by omega
    have h3 := ih k (i + 1) (by omega) (by omega) (by omega)
    have hq1 : ((i + 1 : Nat) : Int) < (s.length : Int) := by omega
    have hq0 : (0 : Int) ≤ ((i + 1 : Nat) : Int) := by omega
    have e := hs.2 (i + 1) hin
    rw [if_pos hin] at e
    obtain ⟨u, v, e1, e2, _⟩ := mm_is l hl n hn i h1
    obtain ⟨r, hr⟩ := sh_is l hl n hn (i + 1) hin
    have h4 := fcm_is e2 hr.is
    simp only [slices_Max_float64_float64.l0]
    rw [hw, hc, if_pos hq1, if_pos hq0, e, if_pos h4]
    exact h3

theorem min_loop (l : List S40) (hl : l.length ≤ 100) (n : Nat) (hn : n ≤ 64) (s : List Nat) (hs : SharesAre l n n s) (d : Nat) : ∀ (k i : Nat), i < n → n - 1 - i = d → d < k →
    slices_Min_float64_float64.l0 k s (mns l n i) ((i : Int) + 1) = some (mns l n (n - 1)) := by
  induction d with
  | zero =>
    intro k i h1 hd hk
    obtain ⟨k, rfl⟩ : ∃ m, k = m + 1 := ⟨k - 1, by omega⟩
    have hi : i = n - 1 := by omega
    subst hi
    have := hs.1
    simp only [slices_Min_float64_float64.l0]
    rw [if_neg (by omega)]
  | succ d ih =>
    intro k i h1 hd hk
    obtain ⟨k, rfl⟩ : ∃ m, k = m + 1 := ⟨k - 1, by omega⟩
    have hsl := hs.1
    have hin : i + 1 < n := by omega
    have hw : wrap64 ((i : Int) + 1 + 1) = ((i + 1 : Nat) : Int) + 1 := by unfold wrap64; omega
    have hc : (i : Int) + 1 = ((i + 1 : Nat) : Int) := by omega
    have h3 := ih k (i + 1) (by omega) (by omega) (by omega)
    have hq1 : ((i + 1 : Nat) : Int) < (s.length : Int) := by omega
    have hq0 : (0 : Int) ≤ ((i + 1 : Nat) : Int) := by omega
    have e := hs.2 (i + 1) hin
    rw [if_pos hin] at e
    obtain ⟨u, v, e1, e2, _⟩ := mm_is l hl n hn i h1
    obtain ⟨r, hr⟩ := sh_is l hl n hn (i + 1) hin
    have h4 := fcm_is e1 hr.is
    simp only [slices_Min_float64_float64.l0]
    rw [hw, hc, if_pos hq1, if_pos hq0, e, if_pos h4]
    exact h3

theorem spread (l : List S40) (hl : l.length ≤ 100) (n : Nat) (hn : n ≤ 64) (h1 : 1 ≤ n) (k : Nat) (hk : 300 ≤ k) :
    stat_Spread.f k l (n : Int) = some (fop .sub (mxs l n (n - 1)) (mns l n (n - 1)), 0) ∧ fok .sub (mxs l n (n - 1)) (mns l n (n - 1)) = true ∧ (∃ r, Is (fop .sub (mxs l n (n - 1)) (mns l n (n - 1))) false r) ∧ (n = 1 → fop .sub (mxs l n (n - 1)) (mns l n (n - 1)) = 0) := by
  obtain ⟨s, e, hs⟩ := shares l hl n hn h1 k hk
  obtain ⟨u, v, e1, e2, h3, h4, h5⟩ := mm_is l hl n hn (n - 1) (by omega)
  obtain ⟨k1, k2, k3⟩ := sub_is e2 e1 h3 (by have := U_pos; omega)
  have m1 := max_loop l hl n hn s hs (n - 1) k 0 (by omega) (by omega) (by omega)
  have m2 := min_loop l hl n hn s hs (n - 1) k 0 (by omega) (by omega) (by omega)
  have hsl := hs.1
  have z := hs.2 0 (by omega)
  rw [if_pos (by omega)] at z
  have z' : rdOf (0 : Nat) s 0 = shr_ l n 1 := z
  refine ⟨?_, k1, k2, fun h => k3 (h5 (by omega)).symm⟩
  unfold stat_Spread.f slices_Max_float64_float64.f slices_Min_float64_float64.f
  rw [e, Option.bind_some]
  simp only [if_true]
  rw [if_neg (by omega), if_pos (by omega), if_neg (by omega), if_pos (by omega), z']
  have m1' : slices_Max_float64_float64.l0 k s (shr_ l n 1) 1 = some (mxs l n (n - 1)) := m1
  have m2' : slices_Min_float64_float64.l0 k s (shr_ l n 1) 1 = some (mns l n (n - 1)) := m2
  rw [m1', Option.bind_some, m2', Option.bind_some, if_pos k1]

theorem spread_law (l : List S40) (hl : l.length ≤ 100) (n : Nat) (hn : n ≤ 64) (h1 : 1 ≤ n) (d : Nat) : ∀ (k i : Nat), i < n → n - 1 - i = d → d + 300 < k →
    temperalaw41_StatSpread.l0 k l (n : Int) (fop .sub (mxs l n (n - 1)) (mns l n (n - 1))) 0 (mns l n i) (mxs l n i) ((i : Int) + 2) = some true := by
  induction d with
  | zero =>
    intro k i h2 hd hk
    obtain ⟨k, rfl⟩ : ∃ m, k = m + 1 := ⟨k - 1, by omega⟩
    have hi : i = n - 1 := by omega
    subst hi
    obtain ⟨_, k1, ⟨r, k2⟩, k3⟩ := spread l hl n hn h1 300 (by omega)
    simp only [temperalaw41_StatSpread.l0]
    rw [if_neg (by omega), if_pos trivial, if_pos k1, if_pos ((feq_is k2 k2).2 rfl)]
    by_cases h4 : (n : Int) > 1
    · rw [if_pos h4, awake k (by omega)]
      rfl
    · rw [if_neg h4, k3 (by omega), if_pos feq_zero, awake k (by omega)]
      rfl
  | succ d ih =>
    intro k i h2 hd hk
    obtain ⟨k, rfl⟩ : ∃ m, k = m + 1 := ⟨k - 1, by omega⟩
    obtain ⟨u, v, e1, e2, _⟩ := mm_is l hl n hn i h2
    obtain ⟨r, hr⟩ := sh_is l hl n hn (i + 1) (by omega)
    have hw : wrap64 ((i : Int) + 2 + 1) = ((i + 1 : Nat) : Int) + 2 := by unfold wrap64; omega
    have hc : (i : Int) + 2 = ((i + 1 : Nat) : Int) + 1 := by omega
    have a1 := (fmx_is e2 hr.is).1
    have a2 := (fmn_is e1 hr.is).1
    have h3 := ih k (i + 1) (by omega) (by omega) (by omega)
    have b1 : mxs l n (i + 1) = fmx (mxs l n i) (shr_ l n (((i + 1 : Nat) : Int) + 1)) := rfl
    have b2 : mns l n (i + 1) = fmn (mns l n i) (shr_ l n (((i + 1 : Nat) : Int) + 1)) := rfl
    rw [b1, b2, a1, a2] at h3
    simp only [temperalaw41_StatSpread.l0]
    rw [if_pos (by omega), hw, hc, share_f l hl n hn (i + 1) (by omega) k (by omega), Option.bind_some]
    generalize shr_ l n (((i + 1 : Nat) : Int) + 1) = t at *
    by_cases c1 : flt t (mns l n i) = true <;> by_cases c2 : fgt t (mxs l n i) = true <;> simp only [c1, c2, if_true, if_false, Bool.false_eq_true] at h3 ⊢ <;> exact h3

theorem StatSpread (l : List S40) (n : Int) (_ : rowOk good40 l) (_ : inKind .i64 n) : ∃ k, temperalaw41_StatSpread.f k l n = some true := by
  refine ⟨502, ?_⟩
  unfold temperalaw41_StatSpread.f
  by_cases hl : (l.length : Int) > 100
  · rw [if_pos hl, awake 502 (by omega)]
    rfl
  · rw [if_neg hl]
    have no : n < 1 ∨ n > 64 → ((stat_Spread.f 502 l n).bind fun bt178 => temperalaw41_StatSpread.j0 502 l n bt178.1 bt178.2 true) = some true := by
      intro h
      unfold stat_Spread.f
      rw [shares_no l n h 502 (by omega), Option.bind_some]
      simp only [show ¬ ((2 : Int) = 0) by omega, if_false, Option.bind_some, temperalaw41_StatSpread.j0, if_true]
      rw [if_pos feq_zero, awake 501 (by omega)]
      rfl
    by_cases h1 : n < 1
    · simp only [if_pos h1]
      exact no (.inl h1)
    · simp only [if_neg h1]
      by_cases h2 : n > 64
      · simp only [decide_eq_true h2]
        exact no (.inr h2)
      · simp only [decide_eq_false h2]
        obtain ⟨m, rfl⟩ : ∃ m : Nat, n = m := ⟨n.toNat, by omega⟩
        obtain ⟨e, _⟩ := spread l (by omega) m (by omega) (by omega) 502 (by omega)
        have hs := share_f l (by omega) m (by omega) 0 (by omega) 501 (by omega)
        have hs' : temperaref41_Share.f 501 l (m : Int) 1 = some (shr_ l m 1) := hs
        rw [e, Option.bind_some]
        simp only [temperalaw41_StatSpread.j0, Bool.false_eq_true, if_false]
        rw [hs', Option.bind_some]
        exact spread_law l (by omega) m (by omega) (by omega) (m - 1) 501 0 (by omega) (by omega) (by omega)
end Go.Proofs.Ytibglhnafohmhaa.Plain
