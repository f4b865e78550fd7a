/- What readings of the arguments of this seat's laws give. -/
import Derived.Test.YtcadgbeablpnmaaOpens
import Derived.Test.YtcadgbeablpnmaaPCmdx
namespace Go.Proofs.Ytcadgbeablpnmaa.PCmd
open Go.RowKit Go.Proofs.YtcadgbeablpnmaaW.PrintWords Go.Proofs.YtcadgbeablpnmaaW.PrintLast Go.Proofs.YtcadgbeablpnmaaW.PrintMore
set_option linter.unusedVariables false
set_option linter.unusedSimpArgs false
/-! #### struct type 25 -/
structure S25 where
  f0 : Int
  f1 : Int
  f2 : Int
  f3 : Int
  f4 : Int
  f5 : Int
  f6 : (List Int)
  f7 : (List S60)
def z25 : S25 := ⟨(0 : Int), (0 : Int), (0 : Int), (0 : Int), (0 : Int), (0 : Int), ([] : List Int), ([] : List S60)⟩
def k25 : Kd S25 := Kd.iso (Kd.pair (Kd.int .i64) (Kd.pair (Kd.int .i64) (Kd.pair (Kd.int .i64) (Kd.pair (Kd.int .i64) (Kd.pair (Kd.int .i64) (Kd.pair (Kd.int .i64) (Kd.pair (Kd.slice 3 (Kd.int .i64)) (Kd.slice 60 k60)))))))) (fun x : S25 => (x.f0, x.f1, x.f2, x.f3, x.f4, x.f5, x.f6, x.f7))
theorem k25_open {w : World} {x : S25} {cs : List Value} (h : k25.K w x cs) : ∃ A6 c6 A7 c7, cs = [.int .i64 x.f0, .int .i64 x.f1, .int .i64 x.f2, .int .i64 x.f3, .int .i64 x.f4, .int .i64 x.f5, .slice A6 x.f6.length c6, .slice A7 x.f7.length c7] ∧ x.f6.length ≤ c6 ∧ (Kd.int .i64).C w A6 x.f6.length x.f6 ∧ x.f7.length ≤ c7 ∧ k60.C w A7 x.f7.length x.f7 := by
  obtain ⟨_, _, rfl, rfl, ⟨_, _, rfl, rfl, ⟨_, _, rfl, rfl, ⟨_, _, rfl, rfl, ⟨_, _, rfl, rfl, ⟨_, _, rfl, rfl, ⟨_, _, rfl, ⟨A6, c6, rfl, l6, g6⟩, ⟨A7, c7, rfl, l7, g7⟩⟩⟩⟩⟩⟩⟩⟩ := h
  exact ⟨A6, c6, A7, c7, rfl, l6, g6, l7, g7⟩
theorem k25_openM {w : World} {base : Nat} {ok : Nat → Prop} {x : S25} {cs : List Value} (h : k25.M w base ok x cs) : ∃ v6 v7, cs = [.int .i64 x.f0, .int .i64 x.f1, .int .i64 x.f2, .int .i64 x.f3, .int .i64 x.f4, .int .i64 x.f5, v6, v7] ∧ (Kd.int .i64).R 3 w base ok v6 x.f6 ∧ k60.R 60 w base ok v7 x.f7 := by
  obtain ⟨_, _, rfl, rfl, ⟨_, _, rfl, rfl, ⟨_, _, rfl, rfl, ⟨_, _, rfl, rfl, ⟨_, _, rfl, rfl, ⟨_, _, rfl, rfl, ⟨_, _, rfl, ⟨v6, rfl, g6⟩, ⟨v7, rfl, g7⟩⟩⟩⟩⟩⟩⟩⟩ := h
  exact ⟨v6, v7, rfl, g6, g7⟩
theorem k25_mk (w : World) (x : S25) {A6 : Option Addr} {c6 : Nat} (l6 : x.f6.length ≤ c6) (g6 : (Kd.int .i64).C w A6 x.f6.length x.f6) {A7 : Option Addr} {c7 : Nat} (l7 : x.f7.length ≤ c7) (g7 : k60.C w A7 x.f7.length x.f7) : k25.K w x [.int .i64 x.f0, .int .i64 x.f1, .int .i64 x.f2, .int .i64 x.f3, .int .i64 x.f4, .int .i64 x.f5, .slice A6 x.f6.length c6, .slice A7 x.f7.length c7] := ⟨[.int .i64 x.f0], [.int .i64 x.f1, .int .i64 x.f2, .int .i64 x.f3, .int .i64 x.f4, .int .i64 x.f5, .slice A6 x.f6.length c6, .slice A7 x.f7.length c7], rfl, rfl, ⟨[.int .i64 x.f1], [.int .i64 x.f2, .int .i64 x.f3, .int .i64 x.f4, .int .i64 x.f5, .slice A6 x.f6.length c6, .slice A7 x.f7.length c7], rfl, rfl, ⟨[.int .i64 x.f2], [.int .i64 x.f3, .int .i64 x.f4, .int .i64 x.f5, .slice A6 x.f6.length c6, .slice A7 x.f7.length c7], rfl, rfl, ⟨[.int .i64 x.f3], [.int .i64 x.f4, .int .i64 x.f5, .slice A6 x.f6.length c6, .slice A7 x.f7.length c7], rfl, rfl, ⟨[.int .i64 x.f4], [.int .i64 x.f5, .slice A6 x.f6.length c6, .slice A7 x.f7.length c7], rfl, rfl, ⟨[.int .i64 x.f5], [.slice A6 x.f6.length c6, .slice A7 x.f7.length c7], rfl, rfl, ⟨[.slice A6 x.f6.length c6], [.slice A7 x.f7.length c7], rfl, ⟨A6, c6, rfl, l6, g6⟩, ⟨A7, c7, rfl, l7, g7⟩⟩⟩⟩⟩⟩⟩⟩
theorem k25_mkM (w : World) (base : Nat) (ok : Nat → Prop) (x : S25) {v6 : Value} (g6 : (Kd.int .i64).R 3 w base ok v6 x.f6) {v7 : Value} (g7 : k60.R 60 w base ok v7 x.f7) : k25.M w base ok x [.int .i64 x.f0, .int .i64 x.f1, .int .i64 x.f2, .int .i64 x.f3, .int .i64 x.f4, .int .i64 x.f5, v6, v7] := ⟨[.int .i64 x.f0], [.int .i64 x.f1, .int .i64 x.f2, .int .i64 x.f3, .int .i64 x.f4, .int .i64 x.f5, v6, v7], rfl, rfl, ⟨[.int .i64 x.f1], [.int .i64 x.f2, .int .i64 x.f3, .int .i64 x.f4, .int .i64 x.f5, v6, v7], rfl, rfl, ⟨[.int .i64 x.f2], [.int .i64 x.f3, .int .i64 x.f4, .int .i64 x.f5, v6, v7], rfl, rfl, ⟨[.int .i64 x.f3], [.int .i64 x.f4, .int .i64 x.f5, v6, v7], rfl, rfl, ⟨[.int .i64 x.f4], [.int .i64 x.f5, v6, v7], rfl, rfl, ⟨[.int .i64 x.f5], [v6, v7], rfl, rfl, ⟨[v6], [v7], rfl, ⟨v6, rfl, g6⟩, ⟨v7, rfl, g7⟩⟩⟩⟩⟩⟩⟩⟩
def rd_T25 (xs : List S25) (i : Int) : S25 := xs.getD i.toNat z25
theorem at_T25 {w : World} {A : Option Addr} {n : Nat} {xs : List S25} (h : Kd.C k25 w A n xs) (i : Int) (h0 : 0 ≤ i) (h1 : i < n) : ∃ ad A6 c6 A7 c7, A = some ad ∧ w.cell? (ad.add (i.toNat * 8)) = some (.int .i64 (rd_T25 xs i).f0) ∧ w.cell? ⟨(ad.add (i.toNat * 8)).block, (ad.add (i.toNat * 8)).off + 1, none⟩ = some (.int .i64 (rd_T25 xs i).f1) ∧ w.cell? ⟨(ad.add (i.toNat * 8)).block, (ad.add (i.toNat * 8)).off + 2, none⟩ = some (.int .i64 (rd_T25 xs i).f2) ∧ w.cell? ⟨(ad.add (i.toNat * 8)).block, (ad.add (i.toNat * 8)).off + 3, none⟩ = some (.int .i64 (rd_T25 xs i).f3) ∧ w.cell? ⟨(ad.add (i.toNat * 8)).block, (ad.add (i.toNat * 8)).off + 4, none⟩ = some (.int .i64 (rd_T25 xs i).f4) ∧ w.cell? ⟨(ad.add (i.toNat * 8)).block, (ad.add (i.toNat * 8)).off + 5, none⟩ = some (.int .i64 (rd_T25 xs i).f5) ∧ w.cell? ⟨(ad.add (i.toNat * 8)).block, (ad.add (i.toNat * 8)).off + 6, none⟩ = some (.slice A6 (rd_T25 xs i).f6.length c6) ∧ w.cell? ⟨(ad.add (i.toNat * 8)).block, (ad.add (i.toNat * 8)).off + 7, none⟩ = some (.slice A7 (rd_T25 xs i).f7.length c7) ∧ (rd_T25 xs i).f6.length ≤ c6 ∧ (Kd.int .i64).C w A6 (rd_T25 xs i).f6.length (rd_T25 xs i).f6 ∧ (rd_T25 xs i).f7.length ≤ c7 ∧ k60.C w A7 (rd_T25 xs i).f7.length (rd_T25 xs i).f7 := by
  obtain ⟨ad, c, e, _, hK, hc0⟩ := Kd.C_get h z25 i h0 h1
  have hc : ∀ j u, c[j]? = some u → w.cell? (ad.add (i.toNat * 8 + j)) = some u := hc0
  obtain ⟨A6, c6, A7, c7, rfl, l6, g6, l7, g7⟩ := k25_open hK
  exact ⟨ad, A6, c6, A7, c7, e, hc 0 _ rfl, by rw [← add_field _ _ 1 (by omega)]; exact hc 1 _ rfl, by rw [← add_field _ _ 2 (by omega)]; exact hc 2 _ rfl, by rw [← add_field _ _ 3 (by omega)]; exact hc 3 _ rfl, by rw [← add_field _ _ 4 (by omega)]; exact hc 4 _ rfl, by rw [← add_field _ _ 5 (by omega)]; exact hc 5 _ rfl, by rw [← add_field _ _ 6 (by omega)]; exact hc 6 _ rfl, by rw [← add_field _ _ 7 (by omega)]; exact hc 7 _ rfl, l6, g6, l7, g7⟩

def good58 (x : S58) : Prop := (inKind .i64) x.f0 ∧ (inKind .i64) x.f1 ∧ (inKind .i64) x.f2 ∧ (inKind .i64) x.f3
theorem op58 : Opens Try.prog k58 good58 58 := by
  intro H enc w base spare held fuel cs x h
  obtain ⟨xs, n, _, _, hl, hlen, hf⟩ := DataW.trod_struct Try.underlying58 h
  have hl2 : cs.length = 4 := hl.trans (by kernel_rfl)
  have hlen2 : xs.length = 4 := hlen
  have e0 := (hf 0 _ rfl).trans (List.getElem?_eq_getElem (by omega))
  obtain ⟨a0, q0, g0⟩ := (op_int Try.underlying3) e0
  have s0 : Try.prog.cellsOf 3 = 1 := by kernel_rfl
  replace q0 : (Kd.int .i64).K w a0 ((cs.drop 0).take 1) := by rw [← s0]; exact q0
  have e1 := (hf 1 _ rfl).trans (List.getElem?_eq_getElem (by omega))
  obtain ⟨a1, q1, g1⟩ := (op_int Try.underlying3) e1
  have s1 : Try.prog.cellsOf 3 = 1 := by kernel_rfl
  replace q1 : (Kd.int .i64).K w a1 ((cs.drop 1).take 1) := by rw [← s1]; exact q1
  have e2 := (hf 2 _ rfl).trans (List.getElem?_eq_getElem (by omega))
  obtain ⟨a2, q2, g2⟩ := (op_int Try.underlying3) e2
  have s2 : Try.prog.cellsOf 3 = 1 := by kernel_rfl
  replace q2 : (Kd.int .i64).K w a2 ((cs.drop 2).take 1) := by rw [← s2]; exact q2
  have e3 := (hf 3 _ rfl).trans (List.getElem?_eq_getElem (by omega))
  obtain ⟨a3, q3, g3⟩ := (op_int Try.underlying3) e3
  have s3 : Try.prog.cellsOf 3 = 1 := by kernel_rfl
  replace q3 : (Kd.int .i64).K w a3 ((cs.drop 3).take 1) := by rw [← s3]; exact q3
  have hK : k58.K w ⟨a0, a1, a2, a3⟩ (cs.drop 0) := ⟨_, _, drop_cut cs 0 1 1 rfl, q0, ⟨_, _, drop_cut cs 1 1 2 rfl, q1, ⟨_, _, drop_cut cs 2 1 3 rfl, q2, (by have := q3; rwa [drop_end cs 3 1 (by omega)] at this)⟩⟩⟩
  exact ⟨⟨a0, a1, a2, a3⟩, by simpa using hK, ⟨g0, g1, g2, g3⟩⟩
def good60 (x : S60) : Prop := (inKind .i64) x.f0 ∧ (inKind .i64) x.f1 ∧ (inKind .i64) x.f2 ∧ good58 x.f3 ∧ (inKind .i64) x.f4 ∧ (inKind .i64) x.f5
theorem op60 : Opens Try.prog k60 good60 60 := by
  intro H enc w base spare held fuel cs x h
  obtain ⟨xs, n, _, _, hl, hlen, hf⟩ := DataW.trod_struct Try.underlying60 h
  have hl2 : cs.length = 9 := hl.trans (by kernel_rfl)
  have hlen2 : xs.length = 6 := hlen
  have e0 := (hf 0 _ rfl).trans (List.getElem?_eq_getElem (by omega))
  obtain ⟨a0, q0, g0⟩ := (op_int Try.underlying3) e0
  have s0 : Try.prog.cellsOf 3 = 1 := by kernel_rfl
  replace q0 : (Kd.int .i64).K w a0 ((cs.drop 0).take 1) := by rw [← s0]; exact q0
  have e1 := (hf 1 _ rfl).trans (List.getElem?_eq_getElem (by omega))
  obtain ⟨a1, q1, g1⟩ := (op_int Try.underlying3) e1
  have s1 : Try.prog.cellsOf 3 = 1 := by kernel_rfl
  replace q1 : (Kd.int .i64).K w a1 ((cs.drop 1).take 1) := by rw [← s1]; exact q1
  have e2 := (hf 2 _ rfl).trans (List.getElem?_eq_getElem (by omega))
  obtain ⟨a2, q2, g2⟩ := (op_int Try.underlying3) e2
  have s2 : Try.prog.cellsOf 3 = 1 := by kernel_rfl
  replace q2 : (Kd.int .i64).K w a2 ((cs.drop 2).take 1) := by rw [← s2]; exact q2
  have e3 := (hf 3 _ rfl).trans (List.getElem?_eq_getElem (by omega))
  obtain ⟨a3, q3, g3⟩ := op58 e3
  have s3 : Try.prog.cellsOf 58 = 4 := by kernel_rfl
  replace q3 : k58.K w a3 ((cs.drop 3).take 4) := by rw [← s3]; exact q3
  have e4 := (hf 4 _ rfl).trans (List.getElem?_eq_getElem (by omega))
  obtain ⟨a4, q4, g4⟩ := (op_int Try.underlying3) e4
  have s4 : Try.prog.cellsOf 3 = 1 := by kernel_rfl
  replace q4 : (Kd.int .i64).K w a4 ((cs.drop 7).take 1) := by rw [← s4]; exact q4
  have e5 := (hf 5 _ rfl).trans (List.getElem?_eq_getElem (by omega))
  obtain ⟨a5, q5, g5⟩ := (op_int Try.underlying3) e5
  have s5 : Try.prog.cellsOf 3 = 1 := by kernel_rfl
  replace q5 : (Kd.int .i64).K w a5 ((cs.drop 8).take 1) := by rw [← s5]; exact q5
  have hK : k60.K w ⟨a0, a1, a2, a3, a4, a5⟩ (cs.drop 0) := ⟨_, _, drop_cut cs 0 1 1 rfl, q0, ⟨_, _, drop_cut cs 1 1 2 rfl, q1, ⟨_, _, drop_cut cs 2 1 3 rfl, q2, ⟨_, _, drop_cut cs 3 4 7 rfl, q3, ⟨_, _, drop_cut cs 7 1 8 rfl, q4, (by have := q5; rwa [drop_end cs 8 1 (by omega)] at this)⟩⟩⟩⟩⟩
  exact ⟨⟨a0, a1, a2, a3, a4, a5⟩, by simpa using hK, ⟨g0, g1, g2, g3, g4, g5⟩⟩
def good25 (x : S25) : Prop := (inKind .i64) x.f0 ∧ (inKind .i64) x.f1 ∧ (inKind .i64) x.f2 ∧ (inKind .i64) x.f3 ∧ (inKind .i64) x.f4 ∧ (inKind .i64) x.f5 ∧ (rowOk (inKind .i64)) x.f6 ∧ (rowOk good60) x.f7
theorem op25 : Opens Try.prog k25 good25 25 := by
  intro H enc w base spare held fuel cs x h
  obtain ⟨xs, n, _, _, hl, hlen, hf⟩ := DataW.trod_struct Try.underlying25 h
  have hl2 : cs.length = 8 := hl.trans (by kernel_rfl)
  have hlen2 : xs.length = 8 := hlen
  have e0 := (hf 0 _ rfl).trans (List.getElem?_eq_getElem (by omega))
  obtain ⟨a0, q0, g0⟩ := (op_int Try.underlying3) e0
  have s0 : Try.prog.cellsOf 3 = 1 := by kernel_rfl
  replace q0 : (Kd.int .i64).K w a0 ((cs.drop 0).take 1) := by rw [← s0]; exact q0
  have e1 := (hf 1 _ rfl).trans (List.getElem?_eq_getElem (by omega))
  obtain ⟨a1, q1, g1⟩ := (op_int Try.underlying3) e1
  have s1 : Try.prog.cellsOf 3 = 1 := by kernel_rfl
  replace q1 : (Kd.int .i64).K w a1 ((cs.drop 1).take 1) := by rw [← s1]; exact q1
  have e2 := (hf 2 _ rfl).trans (List.getElem?_eq_getElem (by omega))
  obtain ⟨a2, q2, g2⟩ := (op_int Try.underlying3) e2
  have s2 : Try.prog.cellsOf 3 = 1 := by kernel_rfl
  replace q2 : (Kd.int .i64).K w a2 ((cs.drop 2).take 1) := by rw [← s2]; exact q2
  have e3 := (hf 3 _ rfl).trans (List.getElem?_eq_getElem (by omega))
  obtain ⟨a3, q3, g3⟩ := (op_int Try.underlying3) e3
  have s3 : Try.prog.cellsOf 3 = 1 := by kernel_rfl
  replace q3 : (Kd.int .i64).K w a3 ((cs.drop 3).take 1) := by rw [← s3]; exact q3
  have e4 := (hf 4 _ rfl).trans (List.getElem?_eq_getElem (by omega))
  obtain ⟨a4, q4, g4⟩ := (op_int Try.underlying3) e4
  have s4 : Try.prog.cellsOf 3 = 1 := by kernel_rfl
  replace q4 : (Kd.int .i64).K w a4 ((cs.drop 4).take 1) := by rw [← s4]; exact q4
  have e5 := (hf 5 _ rfl).trans (List.getElem?_eq_getElem (by omega))
  obtain ⟨a5, q5, g5⟩ := (op_int Try.underlying3) e5
  have s5 : Try.prog.cellsOf 3 = 1 := by kernel_rfl
  replace q5 : (Kd.int .i64).K w a5 ((cs.drop 5).take 1) := by rw [← s5]; exact q5
  have e6 := (hf 6 _ rfl).trans (List.getElem?_eq_getElem (by omega))
  obtain ⟨a6, q6, g6⟩ := (op_slice Try.underlying22 (by kernel_rfl) (op_int Try.underlying3)) e6
  have s6 : Try.prog.cellsOf 22 = 1 := by kernel_rfl
  replace q6 : (Kd.slice 3 (Kd.int .i64)).K w a6 ((cs.drop 6).take 1) := by rw [← s6]; exact q6
  have e7 := (hf 7 _ rfl).trans (List.getElem?_eq_getElem (by omega))
  obtain ⟨a7, q7, g7⟩ := (op_slice Try.underlying23 (by kernel_rfl) op60) e7
  have s7 : Try.prog.cellsOf 23 = 1 := by kernel_rfl
  replace q7 : (Kd.slice 60 k60).K w a7 ((cs.drop 7).take 1) := by rw [← s7]; exact q7
  have hK : k25.K w ⟨a0, a1, a2, a3, a4, a5, a6, a7⟩ (cs.drop 0) := ⟨_, _, drop_cut cs 0 1 1 rfl, q0, ⟨_, _, drop_cut cs 1 1 2 rfl, q1, ⟨_, _, drop_cut cs 2 1 3 rfl, q2, ⟨_, _, drop_cut cs 3 1 4 rfl, q3, ⟨_, _, drop_cut cs 4 1 5 rfl, q4, ⟨_, _, drop_cut cs 5 1 6 rfl, q5, ⟨_, _, drop_cut cs 6 1 7 rfl, q6, (by have := q7; rwa [drop_end cs 7 1 (by omega)] at this)⟩⟩⟩⟩⟩⟩⟩
  exact ⟨⟨a0, a1, a2, a3, a4, a5, a6, a7⟩, by simpa using hK, ⟨g0, g1, g2, g3, g4, g5, g6, g7⟩⟩
end Go.Proofs.Ytcadgbeablpnmaa.PCmd
