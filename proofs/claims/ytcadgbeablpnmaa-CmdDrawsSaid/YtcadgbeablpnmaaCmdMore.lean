/- What the laws of layer 20 call, in one form each. -/
import Derived.Test.YtcadgbeablpnmaaCmdOf
import Derived.Test.YtcadgbeablpnmaaCmdRKinds
import Derived.Outline
import Derived.WalkSpells
import Derived.Deep.RegionHeld3
namespace Go.Proofs.Ytcadgbeablpnmaa.PCmd
open Go.RowKit Go.Proofs.YtcadgbeablpnmaaW.PrintWords Go.Proofs.YtcadgbeablpnmaaW.PrintLast Go.Proofs.YtcadgbeablpnmaaW.PrintMore
attribute [local go_sem] max2_int min2_int max_two min_two max_three min_three max_four min_four   -- for this text's walks alone
set_option linter.unusedVariables false
set_option linter.unusedSimpArgs false

attribute [local go_sem] alloc_drewN setCell_drewN

/-- A slice's value and what it holds. -/
def Sl {α : Type} (d : Kd α) (w : World) (v : Value) (l : List α) : Prop := ∃ A c, v = .slice A l.length c ∧ l.length ≤ c ∧ d.C w A l.length l
theorem Sl.below {α : Type} {d : Kd α} {w w1 : World} {v : Value} {l : List α} (h : Sl d w v l) (hb : Below w.heap.size w w1) : Sl d w1 v l := by
  obtain ⟨A, c, e, hc, hr⟩ := h
  exact ⟨A, c, e, hc, Kd.C_below hr hb⟩
theorem Sl.nil {α : Type} (d : Kd α) (w : World) (A : Option Addr) (c : Nat) : Sl d w (.slice A 0 c) [] := ⟨A, c, rfl, Nat.zero_le _, rfl, by simp, fun h => absurd h (by simp)⟩
theorem Sl.of_R {α : Type} {d : Kd α} {e base : Nat} {w : World} {ok : Nat → Prop} {v : Value} {l : List α} (h : d.R e w base ok v l) : Sl d w v l := Kd.R_reads h
theorem Sl.mk {α : Type} {d : Kd α} {w : World} {A : Option Addr} {c : Nat} {l : List α} (hr : d.C w A l.length l) (hc : l.length ≤ c) : Sl d w (.slice A l.length c) l := ⟨A, c, rfl, hc, hr⟩

theorem wrap1 (i : Nat) (h : i ≤ 5000) : wrap64 ((i : Int) + 1) = ((i + 1 : Nat) : Int) := by unfold wrap64; omega
theorem s60_eq (x : S60) : (!(x.f0 == x.f0) || (!(x.f1 == x.f1) || (!(x.f2 == x.f2) || ((!(x.f3.f0 == x.f3.f0) || (!(x.f3.f1 == x.f3.f1) || (!(x.f3.f2 == x.f3.f2) || (!(x.f3.f3 == x.f3.f3))))) || (!(x.f4 == x.f4) || (!(x.f5 == x.f5))))))) = false := by simp
theorem same_l1 (op h a b c d : Int) (l6 : List Int) (l7 : List S60) (hl : l7.length ≤ 1100) (n : Nat) : ∀ (k i : Nat), i ≤ l7.length → l7.length - i = n → n < k → temperaref20_Same.l1 k (i : Int) op h a b c d l6 l7 op h a b c d l6 l7 = some true := by
  induction n with
  | zero =>
    intro k i h1 h2 hk
    obtain ⟨k, rfl⟩ : ∃ m, k = m + 1 := ⟨k - 1, by omega⟩
    simp only [temperaref20_Same.l1]
    rw [if_neg (by omega)]
  | succ n ih =>
    intro k i h1 h2 hk
    obtain ⟨k, rfl⟩ : ∃ m, k = m + 1 := ⟨k - 1, by omega⟩
    simp only [temperaref20_Same.l1]
    rw [if_pos (by omega), if_pos (by omega), if_pos (by omega), if_neg (by simp), wrap1 i (by omega)]
    exact ih k (i + 1) (by omega) (by omega) (by omega)
theorem same_l0 (op h a b c d : Int) (l6 : List Int) (l7 : List S60) (hl : l6.length ≤ 5000) (hl7 : l7.length ≤ 1100) (n : Nat) : ∀ (k i : Nat), i ≤ l6.length → l6.length - i = n → n + 1200 < k → temperaref20_Same.l0 k (i : Int) op h a b c d l6 l7 op h a b c d l6 l7 = some true := by
  induction n with
  | zero =>
    intro k i h1 h2 hk
    obtain ⟨k, rfl⟩ : ∃ m, k = m + 1 := ⟨k - 1, by omega⟩
    simp only [temperaref20_Same.l0]
    rw [if_neg (by omega)]
    exact same_l1 op h a b c d l6 l7 hl7 l7.length k 0 (by omega) (by omega) (by omega)
  | succ n ih =>
    intro k i h1 h2 hk
    obtain ⟨k, rfl⟩ : ∃ m, k = m + 1 := ⟨k - 1, by omega⟩
    simp only [temperaref20_Same.l0]
    rw [if_pos (by omega), if_pos (by omega), if_pos (by omega), if_pos trivial, wrap1 i (by omega)]
    exact ih k (i + 1) (by omega) (by omega) (by omega)
theorem same_f (op h a b c d : Int) (l6 : List Int) (l7 : List S60) (hl6 : l6.length ≤ 5000) (hl7 : l7.length ≤ 1100) : temperaref20_Same.f 6300 op h a b c d l6 l7 op h a b c d l6 l7 = some true := by
  unfold temperaref20_Same.f
  simp only [if_true]
  have e : ((l7.length : Int) != (l7.length : Int)) = false := by simp
  rw [e]
  simp only [temperaref20_Same.j0, Bool.false_eq_true, if_false]
  exact same_l0 op h a b c d l6 l7 hl6 hl7 l6.length 6299 0 (by omega) (by omega) (by omega)
/-- Two commands with the same fields are the same. -/
theorem Same_eq (op h a b c d : Int) (l6 : List Int) (l7 : List S60) (v6 v7 u6 u7 : Value) (w : World) (g6 : Sl (Kd.int .i64) w v6 l6) (g7 : Sl k60 w v7 l7) (e6 : Sl (Kd.int .i64) w u6 l6) (e7 : Sl k60 w u7 l7) (hl6 : l6.length ≤ 5000) (hl7 : l7.length ≤ 1100) :
    Calls Try.prog 9 #[.agg #[.int .i64 op, .int .i64 h, .int .i64 a, .int .i64 b, .int .i64 c, .int .i64 d, v6, v7], .agg #[.int .i64 op, .int .i64 h, .int .i64 a, .int .i64 b, .int .i64 c, .int .i64 d, u6, u7]] w fun e w' => e = .returned (.bool true) ∧ Below w.heap.size w w' := by
  obtain ⟨A6, c6, rfl, h1, r1⟩ := g6
  obtain ⟨A7, c7, rfl, h2, r2⟩ := g7
  obtain ⟨B6, d6, rfl, h3, r3⟩ := e6
  obtain ⟨B7, d7, rfl, h4, r4⟩ := e7
  exact temperaref20_Same.calls 6300 op h a b c d A6 c6 l6 A7 c7 l7 op h a b c d B6 d6 l6 B7 d7 l7 true w r1 h1 r2 h2 r3 h3 r4 h4 (same_f op h a b c d l6 l7 hl6 hl7)
theorem Light_yes (op h a b c d : Int) (l6 : List Int) (l7 : List S60) (v6 v7 : Value) (w : World) (g6 : Sl (Kd.int .i64) w v6 l6) (g7 : Sl k60 w v7 l7) (r : Bool) (hr : decide (l6.length ≤ 5000 ∧ l7.length ≤ 1100) = r) :
    Calls Try.prog 6 #[.agg #[.int .i64 op, .int .i64 h, .int .i64 a, .int .i64 b, .int .i64 c, .int .i64 d, v6, v7]] w fun e w' => e = .returned (.bool r) ∧ Below w.heap.size w w' := by
  obtain ⟨A6, c6, rfl, h1, r1⟩ := g6
  obtain ⟨A7, c7, rfl, h2, r2⟩ := g7
  refine temperaref20_Light.calls op h a b c d A6 c6 l6 A7 c7 l7 r w r1 h1 r2 h2 ?_
  subst hr
  unfold temperaref20_Light.f
  by_cases x1 : l6.length ≤ 5000
  · rw [if_pos (by omega)]
    congr 1
    apply Bool.eq_iff_iff.2
    simp only [decide_eq_true_eq]
    omega
  · rw [if_neg (by omega)]
    congr 1
    exact (decide_eq_false (fun h => x1 h.1)).symm
theorem FlatMakeIn (kind : Int) (w : World) (hk : 1 ≤ kind ∧ kind ≤ 4) : Calls Try.prog 8 #[.iface 32 (.agg #[.int .i64 kind, .int .i64 1, .int .i64 0, .int .i64 0, .slice none 0 0, .slice none 0 0])] w fun e w' => ∃ A6 c6 A7 c7, e = .returned (.tuple #[.agg #[.int .i64 kind, .int .i64 1, .int .i64 0, .int .i64 0, .int .i64 0, .int .i64 0, .slice A6 0 c6, .slice A7 0 c7], .int .i64 0]) ∧ Below w.heap.size w w' := by
  have h4 : kind = 1 ∨ kind = 2 ∨ kind = 3 ∨ kind = 4 := by omega
  clear hk
  rcases h4 with rfl | rfl | rfl | rfl
  · exact (Flat_1 1 0 0 0 0 none 0 [] none 0 [] _ (Kd.C_nil _ _) (Nat.le_refl _) (Kd.C_nil _ _) (Nat.le_refl _) (by simp) (by simp)).mono (by rintro e w' ⟨v6, v7, rfl, h6, h7, hb⟩; obtain ⟨A6, c6, rfl⟩ := Kd.R_slice h6; obtain ⟨A7, c7, rfl⟩ := Kd.R_slice h7; exact ⟨A6, c6, A7, c7, rfl, hb⟩)
  · exact (Flat_2 1 0 0 0 0 none 0 [] none 0 [] _ (Kd.C_nil _ _) (Nat.le_refl _) (Kd.C_nil _ _) (Nat.le_refl _) (by simp) (by simp)).mono (by rintro e w' ⟨v6, v7, rfl, h6, h7, hb⟩; obtain ⟨A6, c6, rfl⟩ := Kd.R_slice h6; obtain ⟨A7, c7, rfl⟩ := Kd.R_slice h7; exact ⟨A6, c6, A7, c7, rfl, hb⟩)
  · exact (Flat_3 1 0 0 0 0 none 0 [] none 0 [] _ (Kd.C_nil _ _) (Nat.le_refl _) (Kd.C_nil _ _) (Nat.le_refl _) (by simp) (by simp)).mono (by rintro e w' ⟨v6, v7, rfl, h6, h7, hb⟩; obtain ⟨A6, c6, rfl⟩ := Kd.R_slice h6; obtain ⟨A7, c7, rfl⟩ := Kd.R_slice h7; exact ⟨A6, c6, A7, c7, rfl, hb⟩)
  · exact (Flat_4 1 0 0 0 0 none 0 [] none 0 [] _ (Kd.C_nil _ _) (Nat.le_refl _) (Kd.C_nil _ _) (Nat.le_refl _) (by simp) (by simp)).mono (by rintro e w' ⟨v6, v7, rfl, h6, h7, hb⟩; obtain ⟨A6, c6, rfl⟩ := Kd.R_slice h6; obtain ⟨A7, c7, rfl⟩ := Kd.R_slice h7; exact ⟨A6, c6, A7, c7, rfl, hb⟩)
theorem FlatMakeOut (kind : Int) (w : World) (hk : kind < 1 ∨ 4 < kind) : Calls Try.prog 8 #[.iface 32 (.agg #[.int .i64 kind, .int .i64 1, .int .i64 0, .int .i64 0, .slice none 0 0, .slice none 0 0])] w fun e w' => ∃ A6 c6 A7 c7, e = .returned (.tuple #[.agg #[.int .i64 0, .int .i64 0, .int .i64 0, .int .i64 0, .int .i64 0, .int .i64 0, .slice A6 0 c6, .slice A7 0 c7], .int .i64 9]) ∧ Below w.heap.size w w' := by
  rcases hk with hk | hk
  · exact (Flat_make_lo kind 1 0 0 none 0 0 none 0 0 w hk).mono (by rintro e w' ⟨rfl, hb⟩; exact ⟨none, 0, none, 0, rfl, hb⟩)
  · exact (Flat_make_hi kind 1 0 0 none 0 0 none 0 0 w hk).mono (by rintro e w' ⟨rfl, hb⟩; exact ⟨none, 0, none, 0, rfl, hb⟩)
theorem FlatMark15 (w : World) : Calls Try.prog 8 #[.iface 34 (.agg #[.int .i64 15, .int .i64 2])] w fun e w' => ∃ A6 c6 A7 c7, e = .returned (.tuple #[.agg #[.int .i64 15, .int .i64 0, .int .i64 0, .int .i64 0, .int .i64 0, .int .i64 0, .slice A6 0 c6, .slice A7 0 c7], .int .i64 0]) ∧ Below w.heap.size w w' :=
  (Flat_15 0 2 0 0 0 w).mono (by rintro e w' ⟨v6, v7, rfl, h6, h7, hb⟩; obtain ⟨A6, c6, rfl⟩ := Kd.R_slice h6; obtain ⟨A7, c7, rfl⟩ := Kd.R_slice h7; exact ⟨A6, c6, A7, c7, rfl, hb⟩)
theorem FlatMark16 (w : World) : Calls Try.prog 8 #[.iface 34 (.agg #[.int .i64 16, .int .i64 2])] w fun e w' => ∃ A6 c6 A7 c7, e = .returned (.tuple #[.agg #[.int .i64 16, .int .i64 0, .int .i64 2, .int .i64 0, .int .i64 0, .int .i64 0, .slice A6 0 c6, .slice A7 0 c7], .int .i64 0]) ∧ Below w.heap.size w w' :=
  (Flat_16 0 2 0 0 0 w).mono (by rintro e w' ⟨v6, v7, rfl, h6, h7, hb⟩; obtain ⟨A6, c6, rfl⟩ := Kd.R_slice h6; obtain ⟨A7, c7, rfl⟩ := Kd.R_slice h7; exact ⟨A6, c6, A7, c7, rfl, hb⟩)
theorem FlatMark17 (w : World) : Calls Try.prog 8 #[.iface 34 (.agg #[.int .i64 17, .int .i64 2])] w fun e w' => ∃ A6 c6 A7 c7, e = .returned (.tuple #[.agg #[.int .i64 17, .int .i64 0, .int .i64 2, .int .i64 0, .int .i64 0, .int .i64 0, .slice A6 0 c6, .slice A7 0 c7], .int .i64 0]) ∧ Below w.heap.size w w' :=
  (Flat_17 0 2 0 0 0 w).mono (by rintro e w' ⟨v6, v7, rfl, h6, h7, hb⟩; obtain ⟨A6, c6, rfl⟩ := Kd.R_slice h6; obtain ⟨A7, c7, rfl⟩ := Kd.R_slice h7; exact ⟨A6, c6, A7, c7, rfl, hb⟩)
theorem FlatMark19 (w : World) : Calls Try.prog 8 #[.iface 34 (.agg #[.int .i64 19, .int .i64 2])] w fun e w' => ∃ A6 c6 A7 c7, e = .returned (.tuple #[.agg #[.int .i64 19, .int .i64 0, .int .i64 0, .int .i64 0, .int .i64 0, .int .i64 0, .slice A6 0 c6, .slice A7 0 c7], .int .i64 0]) ∧ Below w.heap.size w w' :=
  (Flat_19 0 2 0 0 0 w).mono (by rintro e w' ⟨v6, v7, rfl, h6, h7, hb⟩; obtain ⟨A6, c6, rfl⟩ := Kd.R_slice h6; obtain ⟨A7, c7, rfl⟩ := Kd.R_slice h7; exact ⟨A6, c6, A7, c7, rfl, hb⟩)
theorem FlatMarkOut (kind : Int) (w : World) (hk : kind ≠ 15 ∧ kind ≠ 16 ∧ kind ≠ 17 ∧ kind ≠ 19) : Calls Try.prog 8 #[.iface 34 (.agg #[.int .i64 kind, .int .i64 2])] w fun e w' => ∃ A6 c6 A7 c7, e = .returned (.tuple #[.agg #[.int .i64 0, .int .i64 0, .int .i64 0, .int .i64 0, .int .i64 0, .int .i64 0, .slice A6 0 c6, .slice A7 0 c7], .int .i64 9]) ∧ Below w.heap.size w w' := by
  by_cases h : kind < 15
  · exact (Flat_mark_lo kind 2 w h).mono (by rintro e w' ⟨rfl, hb⟩; exact ⟨none, 0, none, 0, rfl, hb⟩)
  · exact (Flat_mark_hi kind 2 w (by omega)).mono (by rintro e w' ⟨rfl, hb⟩; exact ⟨none, 0, none, 0, rfl, hb⟩)
/-- The field H, where it is a kind's own (5 to 12). -/
def ownH (op x : Int) : Int := if op = 12 then x else 0
/-- The field A, where it is a kind's own (5 to 12). -/
def ownA (op x : Int) : Int := if op = 6 ∨ op = 7 ∨ op = 8 ∨ op = 10 ∨ op = 11 ∨ op = 12 then x else 0
/-- The field B, where it is a kind's own (5 to 12). -/
def ownB (op x : Int) : Int := if op = 6 ∨ op = 7 ∨ op = 8 ∨ op = 10 ∨ op = 12 then x else 0
/-- The field C, where it is a kind's own (5 to 12). -/
def ownC (op x : Int) : Int := if op = 6 ∨ op = 7 ∨ op = 10 then x else 0
/-- The field D, where it is a kind's own (5 to 12). -/
def ownD (op x : Int) : Int := if op = 6 ∨ op = 7 ∨ op = 10 then x else 0
def ownL (op : Int) (l : List Int) : List Int := if op = 5 ∨ op = 9 then l else []
theorem ownL_le (op : Int) (l : List Int) (h : l.length ≤ 5000) : (ownL op l).length ≤ 5000 := by unfold ownL; split; exact h; simp
theorem FlatSetIn (op : Int) (h a b c d : Int) (A6 : Option Addr) (c6 : Nat) (l6 : List Int) (A7 : Option Addr) (c7 : Nat) (l7 : List S60) (w : World) (hr6 : Kd.C (Kd.int .i64) w A6 l6.length l6) (hc6 : l6.length ≤ c6) (hr7 : Kd.C k60 w A7 l7.length l7) (hc7 : l7.length ≤ c7) (hl6 : l6.length ≤ 5000) (hl7 : l7.length ≤ 1100) (hop : 5 ≤ op ∧ op ≤ 12) : Calls Try.prog 8 #[.iface 36 (.agg #[.int .i64 op, .int .i64 h, .int .i64 a, .int .i64 b, .int .i64 c, .int .i64 d, .slice A6 l6.length c6, .slice A7 l7.length c7])] w fun e w' => ∃ A6' c6' A7' c7', e = .returned (.tuple #[.agg #[.int .i64 op, .int .i64 (ownH op h), .int .i64 (ownA op a), .int .i64 (ownB op b), .int .i64 (ownC op c), .int .i64 (ownD op d), .slice A6' (ownL op l6).length c6', .slice A7' 0 c7'], .int .i64 0]) ∧ Sl (Kd.int .i64) w' (.slice A6' (ownL op l6).length c6') (ownL op l6) ∧ Below w.heap.size w w' := by
  have h8 : op = 5 ∨ op = 6 ∨ op = 7 ∨ op = 8 ∨ op = 9 ∨ op = 10 ∨ op = 11 ∨ op = 12 := by omega
  clear hop
  rcases h8 with rfl | rfl | rfl | rfl | rfl | rfl | rfl | rfl
  · refine (Flat_5 h a b c d A6 c6 l6 A7 c7 l7 w hr6 hc6 hr7 hc7 hl6 hl7).mono ?_
    rintro e w' ⟨v6, v7, rfl, h6, h7, hb⟩
    obtain ⟨A6', c6', rfl⟩ := Kd.R_slice h6
    obtain ⟨A7', c7', rfl⟩ := Kd.R_slice h7
    exact ⟨A6', c6', A7', c7', rfl, Sl.of_R h6, hb⟩
  · refine (Flat_6 h a b c d A6 c6 l6 A7 c7 l7 w hr6 hc6 hr7 hc7 hl6 hl7).mono ?_
    rintro e w' ⟨v6, v7, rfl, h6, h7, hb⟩
    obtain ⟨A6', c6', rfl⟩ := Kd.R_slice h6
    obtain ⟨A7', c7', rfl⟩ := Kd.R_slice h7
    exact ⟨A6', c6', A7', c7', rfl, Sl.of_R h6, hb⟩
  · refine (Flat_7 h a b c d A6 c6 l6 A7 c7 l7 w hr6 hc6 hr7 hc7 hl6 hl7).mono ?_
    rintro e w' ⟨v6, v7, rfl, h6, h7, hb⟩
    obtain ⟨A6', c6', rfl⟩ := Kd.R_slice h6
    obtain ⟨A7', c7', rfl⟩ := Kd.R_slice h7
    exact ⟨A6', c6', A7', c7', rfl, Sl.of_R h6, hb⟩
  · refine (Flat_8 h a b c d A6 c6 l6 A7 c7 l7 w hr6 hc6 hr7 hc7 hl6 hl7).mono ?_
    rintro e w' ⟨v6, v7, rfl, h6, h7, hb⟩
    obtain ⟨A6', c6', rfl⟩ := Kd.R_slice h6
    obtain ⟨A7', c7', rfl⟩ := Kd.R_slice h7
    exact ⟨A6', c6', A7', c7', rfl, Sl.of_R h6, hb⟩
  · refine (Flat_9 h a b c d A6 c6 l6 A7 c7 l7 w hr6 hc6 hr7 hc7 hl6 hl7).mono ?_
    rintro e w' ⟨v6, v7, rfl, h6, h7, hb⟩
    obtain ⟨A6', c6', rfl⟩ := Kd.R_slice h6
    obtain ⟨A7', c7', rfl⟩ := Kd.R_slice h7
    exact ⟨A6', c6', A7', c7', rfl, Sl.of_R h6, hb⟩
  · refine (Flat_10 h a b c d A6 c6 l6 A7 c7 l7 w hr6 hc6 hr7 hc7 hl6 hl7).mono ?_
    rintro e w' ⟨v6, v7, rfl, h6, h7, hb⟩
    obtain ⟨A6', c6', rfl⟩ := Kd.R_slice h6
    obtain ⟨A7', c7', rfl⟩ := Kd.R_slice h7
    exact ⟨A6', c6', A7', c7', rfl, Sl.of_R h6, hb⟩
  · refine (Flat_11 h a b c d A6 c6 l6 A7 c7 l7 w hr6 hc6 hr7 hc7 hl6 hl7).mono ?_
    rintro e w' ⟨v6, v7, rfl, h6, h7, hb⟩
    obtain ⟨A6', c6', rfl⟩ := Kd.R_slice h6
    obtain ⟨A7', c7', rfl⟩ := Kd.R_slice h7
    exact ⟨A6', c6', A7', c7', rfl, Sl.of_R h6, hb⟩
  · refine (Flat_12 h a b c d A6 c6 l6 A7 c7 l7 w hr6 hc6 hr7 hc7 hl6 hl7).mono ?_
    rintro e w' ⟨v6, v7, rfl, h6, h7, hb⟩
    obtain ⟨A6', c6', rfl⟩ := Kd.R_slice h6
    obtain ⟨A7', c7', rfl⟩ := Kd.R_slice h7
    exact ⟨A6', c6', A7', c7', rfl, Sl.of_R h6, hb⟩
theorem FlatSetOut (op h a b c d : Int) (A6 : Option Addr) (n6 c6 : Nat) (A7 : Option Addr) (n7 c7 : Nat) (w : World) (hop : op < 5 ∨ 12 < op) : Calls Try.prog 8 #[.iface 36 (.agg #[.int .i64 op, .int .i64 h, .int .i64 a, .int .i64 b, .int .i64 c, .int .i64 d, .slice A6 n6 c6, .slice A7 n7 c7])] w fun e w' => ∃ A6' c6' A7' c7', e = .returned (.tuple #[.agg #[.int .i64 0, .int .i64 0, .int .i64 0, .int .i64 0, .int .i64 0, .int .i64 0, .slice A6' 0 c6', .slice A7' 0 c7'], .int .i64 9]) ∧ Below w.heap.size w w' := by
  rcases hop with hk | hk
  · exact (Flat_set_lo op h a b c d A6 n6 c6 A7 n7 c7 w hk).mono (by rintro e w' ⟨rfl, hb⟩; exact ⟨none, 0, none, 0, rfl, hb⟩)
  · exact (Flat_set_hi op h a b c d A6 n6 c6 A7 n7 c7 w hk).mono (by rintro e w' ⟨rfl, hb⟩; exact ⟨none, 0, none, 0, rfl, hb⟩)
theorem ROwnIn (op : Int) (h a b c d : Int) (A6 : Option Addr) (c6 : Nat) (l6 : List Int) (A7 : Option Addr) (c7 : Nat) (l7 : List S60) (w : World) (hr6 : Kd.C (Kd.int .i64) w A6 l6.length l6) (hc6 : l6.length ≤ c6) (hr7 : Kd.C k60 w A7 l7.length l7) (hc7 : l7.length ≤ c7) (hl6 : l6.length ≤ 5000) (hl7 : l7.length ≤ 1100) (hop : 5 ≤ op ∧ op ≤ 12) : Calls Try.prog 10 #[.agg #[.int .i64 op, .int .i64 h, .int .i64 a, .int .i64 b, .int .i64 c, .int .i64 d, .slice A6 l6.length c6, .slice A7 l7.length c7]] w fun e w' => ∃ v6 v7, e = .returned (.agg #[.int .i64 op, .int .i64 (ownH op h), .int .i64 (ownA op a), .int .i64 (ownB op b), .int .i64 (ownC op c), .int .i64 (ownD op d), v6, v7]) ∧ Sl (Kd.int .i64) w' v6 (ownL op l6) ∧ Sl k60 w' v7 [] ∧ Below w.heap.size w w' := by
  have h8 : op = 5 ∨ op = 6 ∨ op = 7 ∨ op = 8 ∨ op = 9 ∨ op = 10 ∨ op = 11 ∨ op = 12 := by omega
  clear hop
  rcases h8 with rfl | rfl | rfl | rfl | rfl | rfl | rfl | rfl
  · refine (rown_5 h a b c d A6 c6 l6 A7 c7 l7 w).mono ?_
    rintro e w' ⟨rfl, hb⟩
    exact ⟨_, _, rfl, (Sl.mk (Kd.C_below hr6 hb) hc6), Sl.nil _ _ _ _, hb⟩
  · refine (rown_6 h a b c d A6 c6 l6 A7 c7 l7 w).mono ?_
    rintro e w' ⟨rfl, hb⟩
    exact ⟨_, _, rfl, (Sl.nil _ _ _ _), Sl.nil _ _ _ _, hb⟩
  · refine (rown_7 h a b c d A6 c6 l6 A7 c7 l7 w).mono ?_
    rintro e w' ⟨rfl, hb⟩
    exact ⟨_, _, rfl, (Sl.nil _ _ _ _), Sl.nil _ _ _ _, hb⟩
  · refine (rown_8 h a b c d A6 c6 l6 A7 c7 l7 w).mono ?_
    rintro e w' ⟨rfl, hb⟩
    exact ⟨_, _, rfl, (Sl.nil _ _ _ _), Sl.nil _ _ _ _, hb⟩
  · refine (rown_9 h a b c d A6 c6 l6 A7 c7 l7 w).mono ?_
    rintro e w' ⟨rfl, hb⟩
    exact ⟨_, _, rfl, (Sl.mk (Kd.C_below hr6 hb) hc6), Sl.nil _ _ _ _, hb⟩
  · refine (rown_10 h a b c d A6 c6 l6 A7 c7 l7 w).mono ?_
    rintro e w' ⟨rfl, hb⟩
    exact ⟨_, _, rfl, (Sl.nil _ _ _ _), Sl.nil _ _ _ _, hb⟩
  · refine (rown_11 h a b c d A6 c6 l6 A7 c7 l7 w).mono ?_
    rintro e w' ⟨rfl, hb⟩
    exact ⟨_, _, rfl, (Sl.nil _ _ _ _), Sl.nil _ _ _ _, hb⟩
  · refine (rown_12 h a b c d A6 c6 l6 A7 c7 l7 w).mono ?_
    rintro e w' ⟨rfl, hb⟩
    exact ⟨_, _, rfl, (Sl.nil _ _ _ _), Sl.nil _ _ _ _, hb⟩
set_option maxHeartbeats 8000000 in
set_option maxRecDepth 100000 in
theorem awake20 (w : World) : Calls Try.prog 7 #[] w fun e w' => e = .returned (.bool true) ∧ Below w.heap.size w w' := by
  have hu25 := Try.underlying25
  go_enter Try.func7, Try.ntmps7
  go_wp2_with (first | (go_at_call 8; go_must (refine (Flat_14 1 2 0 3 0 _).mono ?_; rintro e w1 ⟨v6, v7, rfl, h6, h7, hb⟩; have HB := Aside0.mk hb; obtain ⟨A6, c6, rfl⟩ := Kd.R_slice h6; obtain ⟨A7, c7, rfl⟩ := Kd.R_slice h7; clear h6 h7 hb)) | (go_at_call 9; go_must (refine (Same_eq 14 1 2 0 3 0 [] [] _ _ _ _ _ (Sl.nil _ _ _ _) (Sl.nil _ _ _ _) (Sl.nil _ _ _ _) (Sl.nil _ _ _ _) (by simp) (by simp)).mono ?_; rintro e w2 ⟨rfl, hb2⟩; have HB2 := Aside0.mk (below_step (below_alloc HB.out _) hb2); clear hb2)))
  go_ret
  exact ⟨rfl, HB2.out⟩
end Go.Proofs.Ytcadgbeablpnmaa.PCmd
