/- Floats (float64), plainly: what a word stands for, how two words stand to each other, and what rounding keeps. -/
import Derived.Test.YtibglhnafohmhaaFlo
namespace Go.Proofs.Ytibglhnafohmhaa.Plain
open Ieee Go.Proofs.YtibglhnafohmhaaW.PrintWords

theorem lp : double.leastPlace = -1074 := by decide +kernel
theorem bin_eq : double.binade = 4503599627370496 := by decide +kernel
theorem inf_eq : double.infRung = 9218868437227405312 := by decide +kernel
theorem sw_eq : double.signWeight = 9223372036854775808 := by decide +kernel
theorem fmt : FloatKind.f64.format = double := rfl

/-! ### what is cut -/
theorem lt_log2 (n : Nat) : n < 2 ^ (n.log2 + 1) := Nat.lt_log2_self

theorem cut_le (neg : Bool) (n drop H : Nat) (h : n ≤ H * 2 ^ drop) : Toward.even.cut neg n drop ≤ H := by
  unfold Toward.cut
  simp only [Nat.one_shiftLeft]
  rcases Nat.le_total drop (n.log2 + 2) with hd | hd
  · rw [Nat.min_eq_left hd]
    have hg : 0 < 2 ^ drop := Nat.two_pow_pos _
    have hq : n / 2 ^ drop ≤ H := by
      rw [Nat.mul_comm] at h
      exact Nat.div_le_of_le_mul h
    rcases Nat.lt_or_ge (n / 2 ^ drop) H with h1 | h1
    · have : ∀ b : Bool, b.toNat ≤ 1 := by decide
      have := this (decide (2 ^ drop < 2 * (n % 2 ^ drop)) || (2 ^ drop == 2 * (n % 2 ^ drop) && n / 2 ^ drop % 2 == 1))
      omega
    · have he : n / 2 ^ drop = H := by omega
      have hm : n % 2 ^ drop = 0 := by
        have h2 := Nat.div_add_mod n (2 ^ drop)
        rw [he, Nat.mul_comm] at h2
        omega
      have hne : (2 ^ drop == 2 * 0) = false := by simp
      rw [hm, he, hne]
      simp
  · rw [Nat.min_eq_right hd]
    have hlt : n < 2 ^ (n.log2 + 2) := Nat.lt_trans (lt_log2 n) (Nat.pow_lt_pow_right (by omega) (by omega))
    have hlt2 : 2 * n < 2 ^ (n.log2 + 2) := by
      have := lt_log2 n
      have e : 2 ^ (n.log2 + 2) = 2 ^ (n.log2 + 1) * 2 := Nat.pow_succ ..
      omega
    rw [Nat.div_eq_of_lt hlt, Nat.mod_eq_of_lt hlt]
    have h1 : ¬ (2 ^ (n.log2 + 2) < 2 * n) := by omega
    have h2 : (2 ^ (n.log2 + 2) == 2 * n) = false := by simp; omega
    rw [h2]
    simp [h1]

theorem le_cut (neg : Bool) (n drop H : Nat) (h : H * 2 ^ drop ≤ n) : H ≤ Toward.even.cut neg n drop := by
  unfold Toward.cut
  simp only [Nat.one_shiftLeft]
  rcases Nat.le_total drop (n.log2 + 2) with hd | hd
  · rw [Nat.min_eq_left hd]
    have hg : 0 < 2 ^ drop := Nat.two_pow_pos _
    have hq : H ≤ n / 2 ^ drop := (Nat.le_div_iff_mul_le hg).2 h
    omega
  · have hlt : n < 2 ^ drop := Nat.lt_of_lt_of_le (lt_log2 n) (Nat.pow_le_pow_right (by omega) (by omega))
    have : H = 0 := by
      rcases Nat.eq_zero_or_pos H with h0 | h0
      · exact h0
      · have := Nat.le_mul_of_pos_left (2 ^ drop) h0
        omega
    rw [this]
    exact Nat.zero_le _

/-- A number's cut is off by less than one unit. -/
theorem cut_near (neg : Bool) (n drop : Nat) : n < (Toward.even.cut neg n drop + 1) * 2 ^ drop ∧ Toward.even.cut neg n drop * 2 ^ drop ≤ n + 2 ^ drop := by
  have hg : 0 < 2 ^ drop := Nat.two_pow_pos _
  have h1 := le_cut neg n drop (n / 2 ^ drop) (Nat.div_mul_le_self n _)
  have h2 := cut_le neg n drop (n / 2 ^ drop + 1) (by
    have := Nat.div_add_mod n (2 ^ drop)
    have hm := Nat.mod_lt n hg
    rw [Nat.add_mul, Nat.mul_comm]
    omega)
  have hd := Nat.div_add_mod n (2 ^ drop)
  have hm := Nat.mod_lt n hg
  generalize Toward.even.cut neg n drop = c at *
  generalize n / 2 ^ drop = q at *
  generalize 2 ^ drop = g at *
  constructor
  · have := Nat.mul_le_mul_right g (show q + 1 ≤ c + 1 by omega)
    have e : (q + 1) * g = g * q + g := by rw [Nat.add_mul, Nat.mul_comm]; omega
    omega
  · have := Nat.mul_le_mul_right g h2
    have e : (q + 1) * g = g * q + g := by rw [Nat.add_mul, Nat.mul_comm]; omega
    omega

/-! ### what a word stands for: 'sgn * v / 2 ^ 1074' -/
/-- The amount of a rung, times 2 ^ 1074. -/
def amt (r : Nat) : Nat := if r < 4503599627370496 then r else (4503599627370496 + r % 4503599627370496) * 2 ^ (r / 4503599627370496 - 1)
/-- A word is a finite number: its sign, and its amount times 2 ^ 1074. -/
def Is (w : Nat) (neg : Bool) (v : Nat) : Prop := ∃ r, r < 9218868437227405312 ∧ w = double.word neg r ∧ v = amt r

theorem Is.read {w : Nat} {neg : Bool} {v : Nat} (h : Is w neg v) : ∃ m i, double.read w = .number neg m (i : Int) ∧ -1074 ≤ i ∧ m < 9007199254740992 ∧ m * 2 ^ (i + 1074).toNat = v := by
  obtain ⟨r, h, rfl, rfl⟩ := h
  have hr : r < 9223372036854775808 := by omega
  unfold Format.read Format.word amt
  rw [sw_eq, bin_eq, inf_eq, lp]
  have h1 : ∀ b : Bool, (if b then 9223372036854775808 + r else r) % 9223372036854775808 = r := by
    intro b
    cases b
    · exact Nat.mod_eq_of_lt hr
    · simp only [if_true]; omega
  have h2 : ((if neg then 9223372036854775808 + r else r) / 9223372036854775808 % 2 == 1) = neg := by
    cases neg
    · simp only [Bool.false_eq_true, if_false]
      rw [Nat.div_eq_of_lt hr]
      rfl
    · simp only [if_true]
      have : (9223372036854775808 + r) / 9223372036854775808 = 1 := by omega
      rw [this]
      rfl
  simp only [h1, h2]
  by_cases hb : r < 4503599627370496
  · rw [if_pos hb, if_pos hb]
    exact ⟨r, -1074, rfl, by omega, by omega, by simp⟩
  · rw [if_neg hb, if_neg hb, if_pos h]
    refine ⟨_, _, rfl, by omega, by omega, ?_⟩
    congr 2
    omega

theorem is_zero : Is 0 false 0 := ⟨0, by omega, by decide +kernel, by decide +kernel⟩

theorem amt_step (r : Nat) : amt r < amt (r + 1) := by
  unfold amt
  by_cases h : r + 1 < 4503599627370496
  · rw [if_pos (by omega), if_pos h]; omega
  · rw [if_neg h]
    by_cases h1 : r < 4503599627370496
    · have e : r + 1 = 4503599627370496 := by omega
      rw [if_pos h1, e]
      simp
      omega
    · rw [if_neg h1]
      by_cases hm : (r + 1) % 4503599627370496 = 0
      · have e1 : r % 4503599627370496 = 4503599627370496 - 1 := by omega
        have e2 : (r + 1) / 4503599627370496 - 1 = (r / 4503599627370496 - 1) + 1 := by omega
        rw [hm, e1, e2, Nat.pow_succ]
        have hp : 0 < 2 ^ (r / 4503599627370496 - 1) := Nat.two_pow_pos _
        generalize 2 ^ (r / 4503599627370496 - 1) = g at *
        omega
      · have e1 : (r + 1) % 4503599627370496 = r % 4503599627370496 + 1 := by omega
        have e2 : (r + 1) / 4503599627370496 = r / 4503599627370496 := by omega
        rw [e1, e2]
        exact Nat.mul_lt_mul_of_pos_right (by omega) (Nat.two_pow_pos _)

theorem amt_lt {r s : Nat} (h : r < s) : amt r < amt s := by
  induction s with
  | zero => omega
  | succ s ih =>
    rcases Nat.lt_or_ge r s with h1 | h1
    · exact Nat.lt_trans (ih h1) (amt_step s)
    · have : r = s := by omega
      subst this
      exact amt_step r

theorem amt_le_iff {r s : Nat} : amt r ≤ amt s ↔ r ≤ s := by
  constructor
  · intro h
    rcases Nat.lt_or_ge s r with h1 | h1
    · have := amt_lt h1; omega
    · exact h1
  · intro h
    rcases Nat.lt_or_ge r s with h1 | h1
    · exact Nat.le_of_lt (amt_lt h1)
    · have : r = s := by omega
      subst this
      exact Nat.le_refl _

/-- A rung of so many units. -/
theorem amt_of (e c : Nat) (hc : 4503599627370496 ≤ c) (hc2 : c ≤ 9007199254740992) : amt (e * 4503599627370496 + c) = c * 2 ^ e := by
  unfold amt
  rw [if_neg (by omega)]
  by_cases h : c = 9007199254740992
  · subst h
    have e1 : (e * 4503599627370496 + 9007199254740992) % 4503599627370496 = 0 := by omega
    have e2 : (e * 4503599627370496 + 9007199254740992) / 4503599627370496 - 1 = e + 1 := by omega
    rw [e1, e2, Nat.pow_succ]
    omega
  · have e1 : (e * 4503599627370496 + c) % 4503599627370496 = c - 4503599627370496 := by omega
    have e2 : (e * 4503599627370496 + c) / 4503599627370496 - 1 = e := by omega
    rw [e1, e2, show 4503599627370496 + (c - 4503599627370496) = c by omega]

theorem amt_inj {r s : Nat} (h : amt r = amt s) : r = s := by
  have h1 := (amt_le_iff (r := r) (s := s)).1 (by omega)
  have h2 := (amt_le_iff (r := s) (s := r)).1 (by omega)
  omega
theorem Is.inj {x y : Nat} {neg : Bool} {v : Nat} (hx : Is x neg v) (hy : Is y neg v) : x = y := by
  obtain ⟨r, _, rfl, h1⟩ := hx
  obtain ⟨s, _, rfl, h2⟩ := hy
  rw [amt_inj (h1.symm.trans h2)]

/-! ### order -/
/-- The number that a word stands for, times 2 ^ 1074. -/
def sg (neg : Bool) (v : Nat) : Int := if neg then -(v : Int) else v

theorem sg_scale (neg : Bool) (m : Nat) (g : Nat) : sg neg (m * g) = sg neg m * g := by
  cases neg <;> simp [sg, Int.neg_mul]

theorem compare_scale (a b : Int) (g : Nat) (hg : 0 < g) : compare (a * g) (b * g) = compare a b := by
  rcases Int.lt_trichotomy a b with h | h | h
  · have h2 : a * g < b * g := Int.mul_lt_mul_of_pos_right h (by omega)
    simp only [compare, compareOfLessAndEq, if_pos h, if_pos h2]
  · subst h
    simp [compare, compareOfLessAndEq]
  · have h2 : b * g < a * g := Int.mul_lt_mul_of_pos_right h (by omega)
    have n1 : ¬ a < b := by omega
    have n2 : ¬ a * g < b * g := by omega
    have n3 : ¬ a = b := by omega
    have n4 : ¬ a * (g : Int) = b * g := by omega
    simp only [compare, compareOfLessAndEq, if_neg n1, if_neg n2, if_neg n3, if_neg n4]

theorem order_is {x y : Nat} {s t : Bool} {u v : Nat} (hx : Is x s u) (hy : Is y t v) : FloatKind.f64.format.order x y = some (compare (sg s u) (sg t v)) := by
  obtain ⟨m, i, hr, hi, _, rfl⟩ := hx.read
  obtain ⟨n, j, hq, hj, _, rfl⟩ := hy.read
  rw [fmt]
  unfold Format.order
  rw [hr, hq]
  simp only [Datum.order]
  congr 1
  have key : ∀ (s : Bool) (m : Nat) (i : Int), min i j ≤ i → True := fun _ _ _ _ => trivial
  have hb : -1074 ≤ min i j := by omega
  have e1 : ∀ (s : Bool) (m : Nat) (i' : Int), min i j ≤ i' → sg s (m * 2 ^ (i' + 1074).toNat) = signed s m (i' - min i j).toNat * ((2 ^ (min i j + 1074).toNat : Nat) : Int) := by
    intro s m i' hi'
    have e : (i' + 1074).toNat = (i' - min i j).toNat + (min i j + 1074).toNat := by omega
    rw [e, Nat.pow_add, ← Nat.mul_assoc, sg_scale]
    congr 1
    cases s <;> simp [sg, signed, Nat.shiftLeft_eq]
  rw [e1 s m i (by omega), e1 t n j (by omega), compare_scale _ _ _ (Nat.two_pow_pos _)]

theorem compare_lt {a b : Int} : (compare a b = .lt) ↔ a < b := by
  simp only [compare, compareOfLessAndEq]
  split
  · simp [*]
  · split <;> simp [*]
theorem compare_gt {a b : Int} : (compare a b = .gt) ↔ b < a := by
  simp only [compare, compareOfLessAndEq]
  split
  · simp; omega
  · split
    · simp; omega
    · simp; omega
theorem compare_eq {a b : Int} : (compare a b = .eq) ↔ a = b := by
  simp only [compare, compareOfLessAndEq]
  split
  · simp; omega
  · split <;> simp [*]

theorem flt_is {x y : Nat} {s t : Bool} {u v : Nat} (hx : Is x s u) (hy : Is y t v) : (flt x y = true) ↔ sg s u < sg t v := by
  unfold flt; rw [order_is hx hy, ← compare_lt]; simp
theorem fgt_is {x y : Nat} {s t : Bool} {u v : Nat} (hx : Is x s u) (hy : Is y t v) : (fgt x y = true) ↔ sg t v < sg s u := by
  unfold fgt; rw [order_is hx hy, ← compare_gt]; simp
theorem feq_is {x y : Nat} {s t : Bool} {u v : Nat} (hx : Is x s u) (hy : Is y t v) : (feq x y = true) ↔ sg s u = sg t v := by
  unfold feq; rw [order_is hx hy, ← compare_eq]; simp
theorem fne_is {x y : Nat} {s t : Bool} {u v : Nat} (hx : Is x s u) (hy : Is y t v) : (fne x y = true) ↔ sg s u ≠ sg t v := by
  unfold fne; rw [order_is hx hy, ne_eq, ← compare_eq]; simp
theorem fge_is {x y : Nat} {s t : Bool} {u v : Nat} (hx : Is x s u) (hy : Is y t v) : (fge x y = true) ↔ sg t v ≤ sg s u := by
  unfold fge; rw [order_is hx hy]
  rcases Int.lt_trichotomy (sg s u) (sg t v) with h | h | h
  · rw [compare_lt.2 h]; simp; omega
  · rw [compare_eq.2 h]; simp; omega
  · rw [compare_gt.2 h]; simp; omega
theorem fle_is {x y : Nat} {s t : Bool} {u v : Nat} (hx : Is x s u) (hy : Is y t v) : (fle x y = true) ↔ sg s u ≤ sg t v := by
  unfold fle; rw [order_is hx hy]
  rcases Int.lt_trichotomy (sg s u) (sg t v) with h | h | h
  · rw [compare_lt.2 h]; simp; omega
  · rw [compare_eq.2 h]; simp; omega
  · rw [compare_gt.2 h]; simp; omega
theorem fcm_is {x y : Nat} {s t : Bool} {u v : Nat} (hx : Is x s u) (hy : Is y t v) : fcm x y = true := by
  unfold fcm; rw [order_is hx hy]; rfl

/-! ### rounding -/
theorem near {neg : Bool} {mag : Nat} {place : Int} (g : Nat) (h0 : 0 < mag) (hp : -1074 ≤ place) (hg : g ≤ 50) (hv : mag * 2 ^ (place + 1074).toNat < 2 ^ (1127 - g)) :
    ∃ r, Is (double.nearest neg mag place) neg r ∧ (∀ h, mag * 2 ^ (place + 1074).toNat ≤ h * 2 ^ (1074 - g) → r ≤ h * 2 ^ (1074 - g)) ∧ (∀ h, h * 2 ^ (1074 - g) ≤ mag * 2 ^ (place + 1074).toNat → h * 2 ^ (1074 - g) ≤ r) := by
  have hL1 : 2 ^ mag.log2 ≤ mag := Nat.log2_self_le (by omega)
  have hL2 : mag < 2 ^ (mag.log2 + 1) := lt_log2 mag
  -- how great the exponent is
  have hx : mag.log2 + (place + 1074).toNat < 1127 - g := by
    have h1 : 2 ^ (mag.log2 + (place + 1074).toNat) ≤ mag * 2 ^ (place + 1074).toNat := by
      rw [Nat.pow_add]; exact Nat.mul_le_mul_right _ hL1
    exact (Nat.pow_lt_pow_iff_right (by omega)).1 (Nat.lt_of_le_of_lt h1 hv)
  unfold Format.nearest
  rw [if_neg (by omega), lp, bin_eq, inf_eq]
  have hfb : (double.fractionBits : Int) = 52 := rfl
  rw [hfb]
  dsimp only
  generalize hlast : max (place + (mag.log2 : Int) - 52) (-1074) = last
  generalize hu : (place - last).toNat = u
  generalize hd : (last - place).toNat = d
  generalize he : (last - -1074).toNat = e
  have hl1 : -1074 ≤ last := by omega
  have hsum : u + e = d + (place + 1074).toNat := by omega
  have hcl : Toward.even.cut neg (mag <<< u) d ≤ 9007199254740992 := by
    refine cut_le _ _ _ _ ?_
    rw [Nat.shiftLeft_eq]
    have h1 : mag * 2 ^ u ≤ 2 ^ (mag.log2 + 1) * 2 ^ u := Nat.mul_le_mul_right _ (Nat.le_of_lt hL2)
    have h2 : 2 ^ (mag.log2 + 1) * 2 ^ u ≤ 9007199254740992 * 2 ^ d := by
      rw [show (9007199254740992 : Nat) = 2 ^ 53 from rfl, ← Nat.pow_add, ← Nat.pow_add]
      exact Nat.pow_le_pow_right (by omega) (by omega)
    exact Nat.le_trans h1 h2
  have hcg : -1074 < last → 4503599627370496 ≤ Toward.even.cut neg (mag <<< u) d := by
    intro hl2
    refine le_cut _ _ _ _ ?_
    rw [Nat.shiftLeft_eq]
    have h1 : 2 ^ mag.log2 * 2 ^ u ≤ mag * 2 ^ u := Nat.mul_le_mul_right _ hL1
    have h2 : 4503599627370496 * 2 ^ d ≤ 2 ^ mag.log2 * 2 ^ u := by
      rw [show (4503599627370496 : Nat) = 2 ^ 52 from rfl, ← Nat.pow_add, ← Nat.pow_add]
      exact Nat.pow_le_pow_right (by omega) (by omega)
    exact Nat.le_trans h2 h1
  have hgrid : ∀ h, (mag * 2 ^ (place + 1074).toNat ≤ h * 2 ^ (1074 - g) → Toward.even.cut neg (mag <<< u) d * 2 ^ e ≤ h * 2 ^ (1074 - g)) ∧ (h * 2 ^ (1074 - g) ≤ mag * 2 ^ (place + 1074).toNat → h * 2 ^ (1074 - g) ≤ Toward.even.cut neg (mag <<< u) d * 2 ^ e) := by
    intro h
    have heg : e ≤ 1074 - g := by omega
    have hpe : 0 < 2 ^ e := Nat.two_pow_pos _
    have e1 : h * 2 ^ (1074 - g) = h * 2 ^ (1074 - g - e) * 2 ^ e := by
      rw [Nat.mul_assoc, ← Nat.pow_add, show 1074 - g - e + e = 1074 - g by omega]
    have e2 : mag * 2 ^ u * 2 ^ e = mag * 2 ^ (place + 1074).toNat * 2 ^ d := by
      rw [Nat.mul_assoc, Nat.mul_assoc, ← Nat.pow_add, ← Nat.pow_add, hsum, Nat.add_comm d]
    constructor
    · intro hle
      rw [e1]
      refine Nat.mul_le_mul_right _ (cut_le _ _ _ _ ?_)
      rw [Nat.shiftLeft_eq]
      refine Nat.le_of_mul_le_mul_right ?_ hpe
      rw [e2]
      have := Nat.mul_le_mul_right (2 ^ d) hle
      rw [e1] at this
      rw [Nat.mul_assoc (h * 2 ^ (1074 - g - e)), Nat.mul_comm (2 ^ d), ← Nat.mul_assoc]
      exact this
    · intro hle
      rw [e1]
      refine Nat.mul_le_mul_right _ (le_cut _ _ _ _ ?_)
      rw [Nat.shiftLeft_eq]
      refine Nat.le_of_mul_le_mul_right ?_ hpe
      rw [e2]
      have := Nat.mul_le_mul_right (2 ^ d) hle
      rw [e1] at this
      rw [Nat.mul_assoc (h * 2 ^ (1074 - g - e)), Nat.mul_comm (2 ^ d), ← Nat.mul_assoc]
      exact this
  generalize Toward.even.cut neg (mag <<< u) d = c at *
  have hee : e ≤ 1074 := by omega
  have hr : e * 4503599627370496 + c < 9218868437227405312 := by omega
  rw [Nat.min_eq_left (Nat.le_of_lt hr)]
  refine ⟨c * 2 ^ e, ⟨_, hr, rfl, ?_⟩, fun h => (hgrid h).1, fun h => (hgrid h).2⟩
  by_cases hl2 : -1074 < last
  · exact (amt_of e c (hcg hl2) hcl).symm
  · have he0 : e = 0 := by omega
    subst he0
    by_cases hb : 4503599627370496 ≤ c
    · exact (amt_of 0 c hb hcl).symm
    · unfold amt
      rw [if_pos (by rw [Nat.zero_mul, Nat.zero_add]; exact Nat.lt_of_not_le hb), Nat.pow_zero, Nat.mul_one, Nat.zero_mul, Nat.zero_add]

theorem K_is : ∃ k : Nat, k = 1074 := ⟨_, rfl⟩
/-- 1074, not laid open. -/
noncomputable def K : Nat := Classical.choose K_is
theorem K_eq : K = 1074 := Classical.choose_spec K_is
theorem U_is : ∃ u : Nat, u = 2 ^ K := ⟨_, rfl⟩
/-- The unit: 1 as an amount. -/
noncomputable def U : Nat := Classical.choose U_is
theorem U_eq : U = 2 ^ K := Classical.choose_spec U_is
theorem gr_is (g : Nat) : ∃ u : Nat, u = 2 ^ (K - g) := ⟨_, rfl⟩
/-- A grid's width: 1 / 2 ^ g as an amount. -/
noncomputable def gr (g : Nat) : Nat := Classical.choose (gr_is g)
theorem gr_eq (g : Nat) : gr g = 2 ^ (K - g) := Classical.choose_spec (gr_is g)
theorem U_pos : 0 < U := by rw [U_eq]; exact Nat.two_pow_pos _
theorem gr_pos (g : Nat) : 0 < gr g := by rw [gr_eq]; exact Nat.two_pow_pos _
theorem gr_mul {g : Nat} (h : g ≤ K) : gr g * 2 ^ g = U := by
  rw [gr_eq, U_eq, ← Nat.pow_add, Nat.sub_add_cancel h]
theorem gr_zero : gr 0 = U := by
  rw [gr_eq, U_eq, Nat.sub_zero]
theorem pow_U {g : Nat} (h : g ≤ 50) : 2 ^ (1127 - g) = 2 ^ (53 - g) * U := by
  rw [U_eq, ← Nat.pow_add, K_eq]
  congr 1
  omega
/-- Rounding keeps the grid's points where they are. -/
theorem near2 {neg : Bool} {mag v : Nat} {place : Int} (g : Nat) (h0 : 0 < mag) (hp : -1074 ≤ place) (hg : g ≤ 50) (hm : mag * 2 ^ (place + 1074).toNat = v) (hv : v < 2 ^ (53 - g) * U) :
    ∃ r, Is (double.nearest neg mag place) neg r ∧ (∀ h, v ≤ h * gr g → r ≤ h * gr g) ∧ (∀ h, h * gr g ≤ v → h * gr g ≤ r) := by
  subst hm
  rw [← pow_U hg] at hv
  rw [gr_eq, K_eq]
  exact near g h0 hp hg hv
theorem pow_U1 (n : Nat) : n * U = n * 2 ^ ((0 : Int) + 1074).toNat := by
  have e1 : ((0 : Int) + 1074).toNat = K := by rw [K_eq]; omega
  rw [e1, U_eq]

/-! ### whole numbers -/
theorem foi_is (n : Int) (h : n.natAbs < 9007199254740992) : Is (foi n) (decide (n < 0)) (n.natAbs * U) := by
  unfold foi floatOfInt FloatKind.nearest FloatKind.encode
  rw [fmt]
  simp only [Format.write]
  by_cases h0 : n = 0
  · subst h0
    have : double.nearest (decide ((0 : Int) < 0)) (Int.natAbs 0) 0 = 0 := by decide +kernel
    rw [this]
    simpa using is_zero
  · obtain ⟨r, hr, h1, h2⟩ := near2 (neg := decide (n < 0)) 0 (show 0 < n.natAbs by omega) (by omega) (by omega) (pow_U1 n.natAbs).symm (Nat.mul_lt_mul_of_pos_right (by omega) U_pos)
    rw [gr_zero] at h1 h2
    have e : r = n.natAbs * U := Nat.le_antisymm (h1 n.natAbs (Nat.le_refl _)) (h2 n.natAbs (Nat.le_refl _))
    rw [← e]
    exact hr

/-! ### sums and differences -/
theorem signed_false (m up : Nat) : signed false m up = ((m * 2 ^ up : Nat) : Int) := by
  simp [signed, Nat.shiftLeft_eq]
theorem signed_true (m up : Nat) : signed true m up = -((m * 2 ^ up : Nat) : Int) := by
  simp [signed, Nat.shiftLeft_eq]
theorem scale_up {m : Nat} {i b : Int} (hb : -1074 ≤ b) (hbi : b ≤ i) : m * 2 ^ (i - b).toNat * 2 ^ (b + 1074).toNat = m * 2 ^ (i + 1074).toNat := by
  rw [Nat.mul_assoc, ← Nat.pow_add]
  congr 2
  omega
theorem nearest_zero : double.nearest false 0 (-1074) = 0 := by decide +kernel
theorem nearest_zero' (p : Int) : double.nearest false 0 p = 0 := by
  unfold Format.nearest
  simp [Format.word]

theorem add_is {x y u v : Nat} (hx : Is x false u) (hy : Is y false v) (h : u + v < 2 ^ 13 * U) :
    fok .add x y = true ∧ ∃ r, Is (fop .add x y) false r ∧ (∀ h, u + v ≤ h * gr 40 → r ≤ h * gr 40) ∧ (∀ h, h * gr 40 ≤ u + v → h * gr 40 ≤ r) := by
  obtain ⟨m, i, hr, hi, _, hu⟩ := hx.read
  obtain ⟨n, j, hq, hj, _, hv⟩ := hy.read
  have hb : -1074 ≤ min i j := by omega
  have key : floatBits .add .f64 x y = some (double.nearest false (m * 2 ^ (i - min i j).toNat + n * 2 ^ (j - min i j).toNat) (min i j)) := by
    unfold floatBits
    simp only [fmt, Format.add, hr, hq, Datum.sum, signed_false, Option.map_some, Format.write]
    congr 1
    have e : ((m * 2 ^ (i - min i j).toNat : Nat) : Int) + ((n * 2 ^ (j - min i j).toNat : Nat) : Int) = ((m * 2 ^ (i - min i j).toNat + n * 2 ^ (j - min i j).toNat : Nat) : Int) := by simp
    rw [e]
    congr 1
    · split
      · rfl
      · exact decide_eq_false (Int.not_lt.2 (Int.natCast_nonneg _))
  have hval : (m * 2 ^ (i - min i j).toNat + n * 2 ^ (j - min i j).toNat) * 2 ^ (min i j + 1074).toNat = u + v := by
    rw [Nat.add_mul, scale_up hb (by omega), scale_up hb (by omega), hu, hv]
  have hop : fop .add x y = double.nearest false (m * 2 ^ (i - min i j).toNat + n * 2 ^ (j - min i j).toNat) (min i j) := by
    unfold fop; rw [key]; rfl
  refine ⟨by unfold fok; rw [key]; rfl, ?_⟩
  rw [hop]
  generalize m * 2 ^ (i - min i j).toNat + n * 2 ^ (j - min i j).toNat = mag at *
  rcases Nat.eq_zero_or_pos mag with h0 | h0
  · subst h0
    rw [nearest_zero']
    have h0 : u + v = 0 := by rw [← hval, Nat.zero_mul]
    exact ⟨0, is_zero, fun h _ => Nat.zero_le _, fun h hh => by omega⟩
  · exact near2 40 h0 hb (by omega) hval h

theorem sub_is {x y u v : Nat} (hx : Is x false u) (hy : Is y false v) (hle : v ≤ u) (h : u < 2 ^ 53 * U) :
    fok .sub x y = true ∧ (∃ r, Is (fop .sub x y) false r) ∧ (u = v → fop .sub x y = 0) := by
  obtain ⟨m, i, hr, hi, _, hu⟩ := hx.read
  obtain ⟨n, j, hq, hj, _, hv⟩ := hy.read
  have hb : -1074 ≤ min i j := by omega
  have h1 : m * 2 ^ (i - min i j).toNat * 2 ^ (min i j + 1074).toNat = u := by rw [scale_up hb (by omega), hu]
  have h2 : n * 2 ^ (j - min i j).toNat * 2 ^ (min i j + 1074).toNat = v := by rw [scale_up hb (by omega), hv]
  have hpos : 0 < 2 ^ (min i j + 1074).toNat := Nat.two_pow_pos _
  have hmn : n * 2 ^ (j - min i j).toNat ≤ m * 2 ^ (i - min i j).toNat := by
    refine Nat.le_of_mul_le_mul_right ?_ hpos
    omega
  have key : floatBits .sub .f64 x y = some (double.nearest false (m * 2 ^ (i - min i j).toNat - n * 2 ^ (j - min i j).toNat) (min i j)) := by
    unfold floatBits
    simp only [fmt, Format.sub, hr, hq, Datum.sum, Datum.opposite, Bool.not_false, signed_false, signed_true, Option.map_some, Format.write]
    congr 1
    have e : ((m * 2 ^ (i - min i j).toNat : Nat) : Int) + -((n * 2 ^ (j - min i j).toNat : Nat) : Int) = ((m * 2 ^ (i - min i j).toNat - n * 2 ^ (j - min i j).toNat : Nat) : Int) := by omega
    rw [e]
    congr 1
    · split
      · rfl
      · exact decide_eq_false (Int.not_lt.2 (Int.natCast_nonneg _))
  have hval : (m * 2 ^ (i - min i j).toNat - n * 2 ^ (j - min i j).toNat) * 2 ^ (min i j + 1074).toNat = u - v := by
    rw [Nat.sub_mul, h1, h2]
  have hop : fop .sub x y = double.nearest false (m * 2 ^ (i - min i j).toNat - n * 2 ^ (j - min i j).toNat) (min i j) := by
    unfold fop; rw [key]; rfl
  refine ⟨by unfold fok; rw [key]; rfl, ?_⟩
  rw [hop]
  generalize m * 2 ^ (i - min i j).toNat - n * 2 ^ (j - min i j).toNat = mag at *
  rcases Nat.eq_zero_or_pos mag with h0 | h0
  · subst h0
    rw [nearest_zero']
    exact ⟨⟨0, is_zero⟩, fun _ => rfl⟩
  · obtain ⟨r, hr, _⟩ := near2 (neg := false) 0 h0 hb (by omega) hval (by omega)
    refine ⟨⟨r, hr⟩, fun e => ?_⟩
    have : 0 < mag * 2 ^ (min i j + 1074).toNat := Nat.mul_pos h0 hpos
    omega

/-! ### quotients -/
theorem log2_bounds {m : Nat} (h : 0 < m) : 2 ^ m.log2 ≤ m ∧ m < 2 ^ (m.log2 + 1) := ⟨Nat.log2_self_le (by omega), Nat.lt_log2_self⟩

theorem div_is {x y a b : Nat} {s : Bool} (g : Nat) (hg : g ≤ 40) (hx : Is x s (a * U)) (hy : Is y false (b * U)) (ha : 0 < a) (hb : 0 < b) (hab : a < 2 ^ (50 - g) * b) (ha2 : a < 2 ^ 52) (hb2 : b < 2 ^ 52) :
    fok .quo x y = true ∧ ∃ r, Is (fop .quo x y) s r ∧ (∀ h, a * 2 ^ g ≤ h * b → r ≤ h * gr g) ∧ (∀ h, h * b ≤ a * 2 ^ g → h * gr g ≤ r) := by
  obtain ⟨m, i, hr, hi, hm, hu⟩ := hx.read
  obtain ⟨n, j, hq, hj, hn, hv⟩ := hy.read
  have hU := U_pos
  have hm0 : 0 < m := by
    rcases Nat.eq_zero_or_pos m with h0 | h0
    · subst h0; rw [Nat.zero_mul] at hu
      have := Nat.mul_pos ha hU
      omega
    · exact h0
  have hn0 : 0 < n := by
    rcases Nat.eq_zero_or_pos n with h0 | h0
    · subst h0; rw [Nat.zero_mul] at hv
      have := Nat.mul_pos hb hU
      omega
    · exact h0
  obtain ⟨hm1, hm2⟩ := log2_bounds hm0
  obtain ⟨hn1, hn2⟩ := log2_bounds hn0
  -- the exponents
  have E1 : m.log2 + (i + 1074).toNat < 52 + K := by
    refine (Nat.pow_lt_pow_iff_right (a := 2) (by omega)).1 ?_
    rw [Nat.pow_add, Nat.pow_add]
    refine Nat.lt_of_le_of_lt (Nat.mul_le_mul_right _ hm1) ?_
    rw [hu, ← U_eq]
    exact Nat.mul_lt_mul_of_pos_right ha2 hU
  have E2 : K < n.log2 + 1 + (j + 1074).toNat := by
    refine (Nat.pow_lt_pow_iff_right (a := 2) (by omega)).1 ?_
    have h1 : 2 ^ K ≤ b * U := by rw [← U_eq]; exact Nat.le_mul_of_pos_left _ hb
    refine Nat.lt_of_le_of_lt h1 ?_
    rw [← hv, Nat.pow_add]
    exact Nat.mul_lt_mul_of_pos_right hn2 (Nat.two_pow_pos _)
  have E3 : m.log2 + (i + 1074).toNat < (50 - g) + (n.log2 + 1 + (j + 1074).toNat) := by
    refine (Nat.pow_lt_pow_iff_right (a := 2) (by omega)).1 ?_
    rw [Nat.pow_add, Nat.pow_add, Nat.pow_add 2 (n.log2 + 1)]
    refine Nat.lt_of_le_of_lt (Nat.mul_le_mul_right _ hm1) ?_
    rw [hu]
    refine Nat.lt_trans (Nat.mul_lt_mul_of_pos_right hab hU) ?_
    rw [Nat.mul_assoc]
    refine Nat.mul_lt_mul_of_pos_left ?_ (Nat.two_pow_pos _)
    rw [← hv]
    exact Nat.mul_lt_mul_of_pos_right hn2 (Nat.two_pow_pos _)
  have E4 : n.log2 + (j + 1074).toNat < 52 + K := by
    refine (Nat.pow_lt_pow_iff_right (a := 2) (by omega)).1 ?_
    rw [Nat.pow_add, Nat.pow_add]
    refine Nat.lt_of_le_of_lt (Nat.mul_le_mul_right _ hn1) ?_
    rw [hv, ← U_eq]
    exact Nat.mul_lt_mul_of_pos_right hb2 hU
  have E5 : K < m.log2 + 1 + (i + 1074).toNat := by
    refine (Nat.pow_lt_pow_iff_right (a := 2) (by omega)).1 ?_
    have h1 : 2 ^ K ≤ a * U := by rw [← U_eq]; exact Nat.le_mul_of_pos_left _ ha
    refine Nat.lt_of_le_of_lt h1 ?_
    rw [← hu, Nat.pow_add]
    exact Nat.mul_lt_mul_of_pos_right hm2 (Nat.two_pow_pos _)
  have Em : m.log2 ≤ 52 := by
    have : m.log2 < 53 := (Nat.pow_lt_pow_iff_right (a := 2) (by omega)).1 (Nat.lt_of_le_of_lt hm1 hm)
    omega
  have En : n.log2 ≤ 52 := by
    have : n.log2 < 53 := (Nat.pow_lt_pow_iff_right (a := 2) (by omega)).1 (Nat.lt_of_le_of_lt hn1 hn)
    omega
  have hfb : double.fractionBits = 52 := rfl
  have hK : K = 1074 := K_eq
  generalize hmore : 52 + 2 + n.log2 - m.log2 = more
  have key : floatBits .quo .f64 x y = some (double.nearest s (2 * (m * 2 ^ more / n) + (m * 2 ^ more % n != 0).toNat) (i - j - more - 1)) := by
    unfold floatBits
    simp only [fmt, Format.div, hr, hq, Datum.quotient, hfb, hmore, if_neg (show ¬ n = 0 by omega), Option.map_some, Format.write, Nat.shiftLeft_eq, Bool.xor_false]
  have hop : fop .quo x y = double.nearest s (2 * (m * 2 ^ more / n) + (m * 2 ^ more % n != 0).toNat) (i - j - more - 1) := by
    unfold fop; rw [key]; rfl
  refine ⟨by unfold fok; rw [key]; rfl, ?_⟩
  rw [hop]
  generalize hpl : i - j - (more : Int) - 1 = place
  have hp : -1074 ≤ place := by omega
  generalize hW : (place + 1074).toNat = W
  -- between the two: D = m * 2 ^ more
  have hge : g + 1 + W ≤ K := by omega
  have hUU : 0 < U * U := Nat.mul_pos hU hU
  have hex : ∀ h, (a * 2 ^ g ≤ h * b ↔ m * 2 ^ more ≤ h * 2 ^ (K - g - 1 - W) * n) ∧ (h * b ≤ a * 2 ^ g ↔ h * 2 ^ (K - g - 1 - W) * n ≤ m * 2 ^ more) := by
    intro h
    have e1 : a * 2 ^ g * (U * U) = m * 2 ^ more * 2 ^ (g + 1 + W + (j + 1074).toNat) := by
      have : a * 2 ^ g * (U * U) = (a * U) * (2 ^ g * U) := by ac_rfl
      rw [this, ← hu, U_eq, Nat.mul_assoc, Nat.mul_assoc, ← Nat.pow_add, ← Nat.pow_add, ← Nat.pow_add]
      congr 2
      omega
    have e2 : h * b * (U * U) = h * 2 ^ (K - g - 1 - W) * n * 2 ^ (g + 1 + W + (j + 1074).toNat) := by
      have : h * b * (U * U) = h * (b * U) * U := by ac_rfl
      have e3 : h * 2 ^ (K - g - 1 - W) * n * 2 ^ (g + 1 + W + (j + 1074).toNat) = h * n * (2 ^ (K - g - 1 - W) * 2 ^ (g + 1 + W + (j + 1074).toNat)) := by ac_rfl
      rw [this, ← hv, U_eq, e3, ← Nat.pow_add]
      have e4 : h * (n * 2 ^ (j + 1074).toNat) * 2 ^ K = h * n * (2 ^ (j + 1074).toNat * 2 ^ K) := by ac_rfl
      rw [e4, ← Nat.pow_add]
      congr 2
      omega
    have hc : 0 < 2 ^ (g + 1 + W + (j + 1074).toNat) := Nat.two_pow_pos _
    constructor
    · rw [← Nat.mul_le_mul_right_iff hUU, e1, e2, Nat.mul_le_mul_right_iff hc]
    · rw [← Nat.mul_le_mul_right_iff hUU, e1, e2, Nat.mul_le_mul_right_iff hc]
  have hq1 : ∀ D H, D ≤ H * n → 2 * (D / n) + (D % n != 0).toNat ≤ 2 * H := by
    intro D H hD
    have h1 : D / n ≤ H := by rw [Nat.mul_comm] at hD; exact Nat.div_le_of_le_mul hD
    rcases Nat.lt_or_ge (D / n) H with h2 | h2
    · have : (D % n != 0).toNat ≤ 1 := Bool.toNat_le _
      omega
    · have he : D / n = H := by omega
      have h3 := Nat.div_add_mod D n
      rw [he, Nat.mul_comm] at h3
      have : D % n = 0 := by omega
      rw [this, he]
      simp
  have hq2 : ∀ D H, H * n ≤ D → 2 * H ≤ 2 * (D / n) + (D % n != 0).toNat := by
    intro D H hD
    have h1 : H ≤ D / n := (Nat.le_div_iff_mul_le hn0).2 hD
    omega
  have hscale : ∀ h, 2 * (h * 2 ^ (K - g - 1 - W)) * 2 ^ W = h * gr g := by
    intro h
    rw [gr_eq]
    have : 2 * (h * 2 ^ (K - g - 1 - W)) * 2 ^ W = h * (2 ^ (K - g - 1 - W) * 2 ^ W * 2 ^ 1) := by
      rw [Nat.pow_one]; ac_rfl
    rw [this, ← Nat.pow_add, ← Nat.pow_add]
    congr 2
    omega
  have hv1 : ∀ h, a * 2 ^ g ≤ h * b → (2 * (m * 2 ^ more / n) + (m * 2 ^ more % n != 0).toNat) * 2 ^ W ≤ h * gr g := by
    intro h hh
    rw [← hscale]
    exact Nat.mul_le_mul_right _ (hq1 _ _ ((hex h).1.1 hh))
  have hv2 : ∀ h, h * b ≤ a * 2 ^ g → h * gr g ≤ (2 * (m * 2 ^ more / n) + (m * 2 ^ more % n != 0).toNat) * 2 ^ W := by
    intro h hh
    rw [← hscale]
    exact Nat.mul_le_mul_right _ (hq2 _ _ ((hex h).2.1 hh))
  have hpos : 0 < 2 * (m * 2 ^ more / n) + (m * 2 ^ more % n != 0).toNat := by
    have hD : 0 < m * 2 ^ more := Nat.mul_pos hm0 (Nat.two_pow_pos _)
    rcases Nat.eq_zero_or_pos (m * 2 ^ more / n) with h0 | h0
    · have h3 := Nat.div_add_mod (m * 2 ^ more) n
      rw [h0, Nat.mul_zero] at h3
      have : (m * 2 ^ more % n != 0) = true := by simp; omega
      rw [this]
      simp
    · omega
  have hlt : (2 * (m * 2 ^ more / n) + (m * 2 ^ more % n != 0).toNat) * 2 ^ W < 2 ^ (53 - g) * U := by
    have h1 : a * 2 ^ g ≤ 2 ^ 50 * b := by
      have : 2 ^ 50 = 2 ^ (50 - g) * 2 ^ g := by rw [← Nat.pow_add]; congr 1; omega
      rw [this, Nat.mul_right_comm]
      exact Nat.mul_le_mul_right _ (Nat.le_of_lt hab)
    refine Nat.lt_of_le_of_lt (hv1 _ h1) ?_
    have : 2 ^ (53 - g) * U = 2 ^ 53 * gr g := by
      rw [← gr_mul (g := g) (by omega), Nat.mul_comm (gr g), ← Nat.mul_assoc, ← Nat.pow_add]
      congr 2
      omega
    rw [this]
    exact Nat.mul_lt_mul_of_pos_right (by decide) (gr_pos g)
  obtain ⟨r, hr, h1, h2⟩ := near2 (neg := s) (place := place) g hpos hp (by omega) (by rw [hW]) hlt
  exact ⟨r, hr, fun h hh => h1 h (hv1 h hh), fun h hh => h2 h (hv2 h hh)⟩
end Go.Proofs.Ytibglhnafohmhaa.Plain
