/- Floats: words beside the print's: a kind for the bits of a float64, and what the walk says of float operations. -/
import Derived.Test.YtibglhnafohmhaaWMore
import Derived.Test.YtibglhnafohmhaaWFoot
import Derived.Laws.FloatArith
namespace Go.Proofs.YtibglhnafohmhaaW.PrintWords
open Go.RowKit
namespace Kd
def float : Kd Nat := scalar (Value.float .f64) (fun _ => rfl)
theorem heap_float : Heap Kd.float := ⟨fun _ h => h⟩
section
variable {w W : World} {A : Option Addr} {n : Nat} {ad : Addr}
theorem at_float {xs : List Nat} (h : Kd.float.C w A n xs) (i : Int) (h0 : 0 ≤ i) (h1 : i < n) : ∃ ad, A = some ad ∧ w.cell? (ad.add i.toNat) = some (.float .f64 (rdOf (0 : Nat) xs i)) :=
  ReadsOf.at_ (reads_of_C (enc := Value.float .f64) (d := (0 : Nat)) (h1 := fun _ => rfl) h) i h0 h1
theorem foot_float {l : List Nat} (h : Kd.float.C w (some ad) n l) (i : Int) (h0 : 0 ≤ i) (h1 : i < n) : w.cell? (ad.add i.toNat) = some (.float .f64 (rdOf (0 : Nat) l i)) := by
  obtain ⟨ad', he, hc⟩ := at_float h i h0 h1
  injection he with he
  subst he
  exact hc
end
end Kd
def feq (x y : Nat) : Bool := FloatKind.f64.format.order x y == some .eq
def fne (x y : Nat) : Bool := FloatKind.f64.format.order x y != some .eq
def flt (x y : Nat) : Bool := FloatKind.f64.format.order x y == some .lt
def fle (x y : Nat) : Bool := FloatKind.f64.format.order x y == some .lt || FloatKind.f64.format.order x y == some .eq
def fgt (x y : Nat) : Bool := FloatKind.f64.format.order x y == some .gt
def fge (x y : Nat) : Bool := FloatKind.f64.format.order x y == some .gt || FloatKind.f64.format.order x y == some .eq
/-- Is the operation's answer a number (or an infinity)? -/
def fok (op : BinOp) (x y : Nat) : Bool := (floatBits op .f64 x y).isSome
def fop (op : BinOp) (x y : Nat) : Nat := (floatBits op .f64 x y).getD 0
/-- Can two be held against each other? -/
def fcm (x y : Nat) : Bool := (FloatKind.f64.format.order x y).isSome
def fmx (x y : Nat) : Nat := match FloatKind.f64.format.order x y with | some .lt => y | some .gt => x | _ => if (FloatKind.f64.decode x).neg then y else x
def fmn (x y : Nat) : Nat := match FloatKind.f64.format.order x y with | some .lt => x | some .gt => y | _ => if (FloatKind.f64.decode x).neg then x else y
/-- A whole number as a float. -/
def foi (n : Int) : Nat := floatOfInt .f64 n
theorem fl_eql (t : TypeId) (a b : Nat) : binOp .eql t (.float .f64 a) (.float .f64 b) = pure (.bool (feq a b)) := by simp [binOp, Op.floatCmp, feq]
theorem fl_neq (t : TypeId) (a b : Nat) : binOp .neq t (.float .f64 a) (.float .f64 b) = pure (.bool (fne a b)) := by simp [binOp, Op.floatCmp, fne]
theorem fl_lss (t : TypeId) (a b : Nat) : binOp .lss t (.float .f64 a) (.float .f64 b) = pure (.bool (flt a b)) := by simp [binOp, Op.floatCmp, flt]
theorem fl_leq (t : TypeId) (a b : Nat) : binOp .leq t (.float .f64 a) (.float .f64 b) = pure (.bool (fle a b)) := by simp [binOp, Op.floatCmp, fle]
theorem fl_gtr (t : TypeId) (a b : Nat) : binOp .gtr t (.float .f64 a) (.float .f64 b) = pure (.bool (fgt a b)) := by simp [binOp, Op.floatCmp, fgt]
theorem fl_geq (t : TypeId) (a b : Nat) : binOp .geq t (.float .f64 a) (.float .f64 b) = pure (.bool (fge a b)) := by simp [binOp, Op.floatCmp, fge]
section
variable {P : Program} (w : World)
theorem fl_ari (op : BinOp) (t : TypeId) (x y : Nat) (h : fok op x y = true) : (binOp op t (.float .f64 x) (.float .f64 y)).run P w = .ok (.float .f64 (fop op x y)) w := by
  unfold fok at h
  obtain ⟨r, hr⟩ := Option.isSome_iff_exists.1 h
  rw [run_float_arith w op t .f64 x y r hr]
  simp [fop, hr]
theorem fl_foi (src dst : TypeId) (q : IntKind) (n : Int) (hs : (P.underlying src).isSome = true) (hd : P.underlying dst = some (.float .f64)) :
    (convert src dst (.int q n)).run P w = .ok (.float .f64 (foi n)) w := run_convert_int_float w src dst q .f64 n hs hd
theorem fl_store (a : Addr) (k : FloatKind) (b : Nat) (m : Mode) : (store a (.float k b) m).run P w = stored P w a (.float k b) m := run_store P w a _ m rfl
theorem fl_max (x y : Nat) (h : fcm x y = true) : Builtin.max2 (.float .f64 x) (.float .f64 y) = pure (.float .f64 (fmx x y)) := by
  unfold fcm at h
  obtain ⟨r, hr⟩ := Option.isSome_iff_exists.1 h
  cases r <;> simp [Builtin.max2, fmx, hr]
theorem fl_min (x y : Nat) (h : fcm x y = true) : Builtin.min2 (.float .f64 x) (.float .f64 y) = pure (.float .f64 (fmn x y)) := by
  unfold fcm at h
  obtain ⟨r, hr⟩ := Option.isSome_iff_exists.1 h
  cases r <;> simp [Builtin.min2, fmn, hr]
end
end Go.Proofs.YtibglhnafohmhaaW.PrintWords
