/- What the claim of RowCodeReads needs of this seat's texts (drawn together by wip/prune.py): CodeF, CodeRead, CodePl, CodeBody, CodeList, CodeCS, CodeOwn, CodeOwns, CodeP1, CodeCmd, CodeCmdL. -/
import Derived.RegionTactic
import Derived.BigRegion
import Derived.Test.YtpgjkndijdleeaaRds5
section
namespace Go.Proofs.Ytpgjkndijdleeaa.PCode
open Go.RowKit Go.Proofs.YtpgjkndijdleeaaW.PrintWords Go.Proofs.YtpgjkndijdleeaaW.PrintLast Go.Proofs.YtpgjkndijdleeaaW.PrintMore
set_option linter.unusedVariables false
set_option linter.unusedSimpArgs false
/-- Where a kind's numbers stand in a command's block, in order. -/
def fo (op : Int) : List Nat := if op = 1 then [1] else if op = 2 then [1] else if op = 3 then [1, 2, 3] else if op = 4 then [1] else if op = 5 then [] else if op = 6 then [2, 3, 4, 5] else if op = 7 then [2, 3, 4, 5] else if op = 8 then [2, 3] else if op = 9 then [] else if op = 10 then [2, 3, 4, 5] else if op = 11 then [2] else if op = 12 then [1, 2, 3] else if op = 13 then [2, 3, 4, 5] else if op = 14 then [1, 2, 3, 4] else if op = 16 then [2] else if op = 17 then [2] else if op = 18 then [1, 2, 3, 4, 5] else []
/-- Has a kind a list? -/
def fl (op : Int) : Bool := decide (op = 2 ∨ op = 3 ∨ op = 5 ∨ op = 9)
/-- Has a kind vertices? -/
def fv (op : Int) : Bool := decide (op = 1)
theorem ite_p {P : List Nat → Prop} {c : Prop} [Decidable c] {a b : List Nat} (h1 : P a) (h2 : P b) : P (if c then a else b) := by split <;> assumption
theorem fo_le (op : Int) : (fo op).length ≤ 5 ∧ ∀ x ∈ fo op, 1 ≤ x ∧ x ≤ 5 := by
 unfold fo
 repeat' (first | refine ite_p (P := fun l : List Nat => l.length ≤ 5 ∧ ∀ x ∈ l, 1 ≤ x ∧ x ≤ 5) ?_ ?_ | decide)
/-- What fields gives: a row of pointers into the block, and two bools. -/
def Flds (w : World) (g : Nat) (op : Int) (e : Ending) (w' : World) : Prop := ∃ A, e = .returned (.tuple #[.slice A (fo op).length (fo op).length, .bool (fl op), .bool (fv op)]) ∧ ReadsOf (fun o : Nat => Value.pointer (some ⟨g, o, none⟩)) 0 w' A (fo op).length (fo op) ∧ Below w.heap.size w w' ∧ w'.ownsRow w.heap.size 76 1 (.slice A (fo op).length (fo op).length) (fo op).length (encs (fun o : Nat => Value.pointer (some ⟨g, o, none⟩)) (fo op))
theorem flds_none {w : World} {g : Nat} {op : Int} (h : fo op = []) : Flds w g op (.returned (.tuple #[.slice none 0 0, .bool (fl op), .bool (fv op)])) w :=
 ⟨none, by rw [h]; rfl, by rw [h]; exact ⟨rfl, by simp, fun h => absurd h (by simp)⟩, Below.refl _ _, by rw [h]; exact own_nil _ _ _ _⟩
theorem flds_some {w : World} {g : Nat} {op : Int} (l : List Nat) (h : fo op = l) (cs : Array Value) (hc : cs = (l.map (fun o : Nat => Value.pointer (some ⟨g, o, none⟩))).toArray) (n : Nat) : Flds w g op (.returned (.tuple #[.slice (some ⟨w.heap.size, 0, none⟩) l.length l.length, .bool (fl op), .bool (fv op)])) ((w.alloc (.cells cs 76)).drewN n) := by
 subst hc
 subst h
 have h5 := (fo_le op).1
 have ho := own_lit_of (enc := fun o : Nat => Value.pointer (some ⟨g, o, none⟩)) w w.heap.size 76 (fo op) (Nat.le_refl _) (by omega)
 obtain ⟨A, c, he, hr⟩ := own_reads_of (d := 0) ho
 injection he with h1 h2 h3
 subst h1
 exact ⟨_, rfl, hr, pw_below_drewN (below_alloc (Below.refl _ _) _) n, ho⟩
set_option maxHeartbeats 1000000 in
set_option maxRecDepth 100000 in
theorem fields_1 (g : Nat) (v1 v2 v3 v4 v5 v6 v7 : Value) (w : World) (hI : w.heap[g]? = some (.cells #[.int .i64 1, v1, v2, v3, v4, v5, v6, v7] 37 (0, 0))) :
  Calls Try.prog 32 #[.pointer (some ⟨g, 0, none⟩)] w (Flds w g 1) := by
 have h0 : w.cell? ⟨g, 0, none⟩ = some (.int .i64 1) := (blk_cell hI 0).trans rfl
 clear hI
 have hu37 := Try.underlying37
 go_enter Try.func32, Try.ntmps32
 go_wp2
 go_ret3
 exact flds_some (op := 1) [1] rfl _ rfl 0
set_option maxHeartbeats 1000000 in
set_option maxRecDepth 100000 in
theorem fields_2 (g : Nat) (v1 v2 v3 v4 v5 v6 v7 : Value) (w : World) (hI : w.heap[g]? = some (.cells #[.int .i64 2, v1, v2, v3, v4, v5, v6, v7] 37 (0, 0))) :
  Calls Try.prog 32 #[.pointer (some ⟨g, 0, none⟩)] w (Flds w g 2) := by
 have h0 : w.cell? ⟨g, 0, none⟩ = some (.int .i64 2) := (blk_cell hI 0).trans rfl
 clear hI
 have hu37 := Try.underlying37
 go_enter Try.func32, Try.ntmps32
 go_wp2
 go_ret3
 exact flds_some (op := 2) [1] rfl _ rfl 0
set_option maxHeartbeats 1000000 in
set_option maxRecDepth 100000 in
theorem fields_3 (g : Nat) (v1 v2 v3 v4 v5 v6 v7 : Value) (w : World) (hI : w.heap[g]? = some (.cells #[.int .i64 3, v1, v2, v3, v4, v5, v6, v7] 37 (0, 0))) :
  Calls Try.prog 32 #[.pointer (some ⟨g, 0, none⟩)] w (Flds w g 3) := by
 have h0 : w.cell? ⟨g, 0, none⟩ = some (.int .i64 3) := (blk_cell hI 0).trans rfl
 clear hI
 have hu37 := Try.underlying37
 go_enter Try.func32, Try.ntmps32
 go_wp2
 go_region
 all_goals (simp only [Exit.then, Exit.inBlock]; go_wp2; go_ret3; exact flds_some (op := 3) [1, 2, 3] rfl _ rfl 1)
set_option maxHeartbeats 1000000 in
set_option maxRecDepth 100000 in
theorem fields_4 (g : Nat) (v1 v2 v3 v4 v5 v6 v7 : Value) (w : World) (hI : w.heap[g]? = some (.cells #[.int .i64 4, v1, v2, v3, v4, v5, v6, v7] 37 (0, 0))) :
  Calls Try.prog 32 #[.pointer (some ⟨g, 0, none⟩)] w (Flds w g 4) := by
 have h0 : w.cell? ⟨g, 0, none⟩ = some (.int .i64 4) := (blk_cell hI 0).trans rfl
 clear hI
 have hu37 := Try.underlying37
 go_enter Try.func32, Try.ntmps32
 go_wp2
 go_ret3
 exact flds_some (op := 4) [1] rfl _ rfl 0
set_option maxHeartbeats 1000000 in
set_option maxRecDepth 100000 in
theorem fields_5 (g : Nat) (v1 v2 v3 v4 v5 v6 v7 : Value) (w : World) (hI : w.heap[g]? = some (.cells #[.int .i64 5, v1, v2, v3, v4, v5, v6, v7] 37 (0, 0))) :
  Calls Try.prog 32 #[.pointer (some ⟨g, 0, none⟩)] w (Flds w g 5) := by
 have h0 : w.cell? ⟨g, 0, none⟩ = some (.int .i64 5) := (blk_cell hI 0).trans rfl
 clear hI
 have hu37 := Try.underlying37
 go_enter Try.func32, Try.ntmps32
 go_wp2
 go_ret3
 exact flds_none (op := 5) rfl
set_option maxHeartbeats 1000000 in
set_option maxRecDepth 100000 in
theorem fields_6 (g : Nat) (v1 v2 v3 v4 v5 v6 v7 : Value) (w : World) (hI : w.heap[g]? = some (.cells #[.int .i64 6, v1, v2, v3, v4, v5, v6, v7] 37 (0, 0))) :
  Calls Try.prog 32 #[.pointer (some ⟨g, 0, none⟩)] w (Flds w g 6) := by
 have h0 : w.cell? ⟨g, 0, none⟩ = some (.int .i64 6) := (blk_cell hI 0).trans rfl
 clear hI
 have hu37 := Try.underlying37
 go_enter Try.func32, Try.ntmps32
 go_wp2
 go_region
 all_goals (simp only [Exit.then, Exit.inBlock]; go_wp2; go_ret3; exact flds_some (op := 6) [2, 3, 4, 5] rfl _ rfl 1)
set_option maxHeartbeats 1000000 in
set_option maxRecDepth 100000 in
theorem fields_7 (g : Nat) (v1 v2 v3 v4 v5 v6 v7 : Value) (w : World) (hI : w.heap[g]? = some (.cells #[.int .i64 7, v1, v2, v3, v4, v5, v6, v7] 37 (0, 0))) :
  Calls Try.prog 32 #[.pointer (some ⟨g, 0, none⟩)] w (Flds w g 7) := by
 have h0 : w.cell? ⟨g, 0, none⟩ = some (.int .i64 7) := (blk_cell hI 0).trans rfl
 clear hI
 have hu37 := Try.underlying37
 go_enter Try.func32, Try.ntmps32
 go_wp2
 go_region
 all_goals (simp only [Exit.then, Exit.inBlock]; go_wp2; go_ret3; exact flds_some (op := 7) [2, 3, 4, 5] rfl _ rfl 1)
set_option maxHeartbeats 1000000 in
set_option maxRecDepth 100000 in
theorem fields_8 (g : Nat) (v1 v2 v3 v4 v5 v6 v7 : Value) (w : World) (hI : w.heap[g]? = some (.cells #[.int .i64 8, v1, v2, v3, v4, v5, v6, v7] 37 (0, 0))) :
  Calls Try.prog 32 #[.pointer (some ⟨g, 0, none⟩)] w (Flds w g 8) := by
 have h0 : w.cell? ⟨g, 0, none⟩ = some (.int .i64 8) := (blk_cell hI 0).trans rfl
 clear hI
 have hu37 := Try.underlying37
 go_enter Try.func32, Try.ntmps32
 go_wp2
 go_region
 all_goals (simp only [Exit.then, Exit.inBlock]; go_wp2; go_ret3; exact flds_some (op := 8) [2, 3] rfl _ rfl 1)
set_option maxHeartbeats 1000000 in
set_option maxRecDepth 100000 in
theorem fields_9 (g : Nat) (v1 v2 v3 v4 v5 v6 v7 : Value) (w : World) (hI : w.heap[g]? = some (.cells #[.int .i64 9, v1, v2, v3, v4, v5, v6, v7] 37 (0, 0))) :
  Calls Try.prog 32 #[.pointer (some ⟨g, 0, none⟩)] w (Flds w g 9) := by
 have h0 : w.cell? ⟨g, 0, none⟩ = some (.int .i64 9) := (blk_cell hI 0).trans rfl
 clear hI
 have hu37 := Try.underlying37
 go_enter Try.func32, Try.ntmps32
 go_wp2
 go_ret3
 exact flds_none (op := 9) rfl
set_option maxHeartbeats 1000000 in
set_option maxRecDepth 100000 in
theorem fields_10 (g : Nat) (v1 v2 v3 v4 v5 v6 v7 : Value) (w : World) (hI : w.heap[g]? = some (.cells #[.int .i64 10, v1, v2, v3, v4, v5, v6, v7] 37 (0, 0))) :
  Calls Try.prog 32 #[.pointer (some ⟨g, 0, none⟩)] w (Flds w g 10) := by
 have h0 : w.cell? ⟨g, 0, none⟩ = some (.int .i64 10) := (blk_cell hI 0).trans rfl
 clear hI
 have hu37 := Try.underlying37
 go_enter Try.func32, Try.ntmps32
 go_wp2
 go_region
 all_goals (simp only [Exit.then, Exit.inBlock]; go_wp2; go_ret3; exact flds_some (op := 10) [2, 3, 4, 5] rfl _ rfl 1)
set_option maxHeartbeats 1000000 in
set_option maxRecDepth 100000 in
theorem fields_11 (g : Nat) (v1 v2 v3 v4 v5 v6 v7 : Value) (w : World) (hI : w.heap[g]? = some (.cells #[.int .i64 11, v1, v2, v3, v4, v5, v6, v7] 37 (0, 0))) :
  Calls Try.prog 32 #[.pointer (some ⟨g, 0, none⟩)] w (Flds w g 11) := by
 have h0 : w.cell? ⟨g, 0, none⟩ = some (.int .i64 11) := (blk_cell hI 0).trans rfl
 clear hI
 have hu37 := Try.underlying37
 go_enter Try.func32, Try.ntmps32
 go_wp2
 go_ret3
 exact flds_some (op := 11) [2] rfl _ rfl 0
set_option maxHeartbeats 1000000 in
set_option maxRecDepth 100000 in
theorem fields_12 (g : Nat) (v1 v2 v3 v4 v5 v6 v7 : Value) (w : World) (hI : w.heap[g]? = some (.cells #[.int .i64 12, v1, v2, v3, v4, v5, v6, v7] 37 (0, 0))) :
  Calls Try.prog 32 #[.pointer (some ⟨g, 0, none⟩)] w (Flds w g 12) := by
 have h0 : w.cell? ⟨g, 0, none⟩ = some (.int .i64 12) := (blk_cell hI 0).trans rfl
 clear hI
 have hu37 := Try.underlying37
 go_enter Try.func32, Try.ntmps32
 go_wp2
 go_region
 all_goals (simp only [Exit.then, Exit.inBlock]; go_wp2; go_ret3; exact flds_some (op := 12) [1, 2, 3] rfl _ rfl 1)
set_option maxHeartbeats 1000000 in
set_option maxRecDepth 100000 in
theorem fields_13 (g : Nat) (v1 v2 v3 v4 v5 v6 v7 : Value) (w : World) (hI : w.heap[g]? = some (.cells #[.int .i64 13, v1, v2, v3, v4, v5, v6, v7] 37 (0, 0))) :
  Calls Try.prog 32 #[.pointer (some ⟨g, 0, none⟩)] w (Flds w g 13) := by
 have h0 : w.cell? ⟨g, 0, none⟩ = some (.int .i64 13) := (blk_cell hI 0).trans rfl
 clear hI
 have hu37 := Try.underlying37
 go_enter Try.func32, Try.ntmps32
 go_wp2
 go_region
 all_goals (simp only [Exit.then, Exit.inBlock]; go_wp2; go_ret3; exact flds_some (op := 13) [2, 3, 4, 5] rfl _ rfl 1)
set_option maxHeartbeats 1000000 in
set_option maxRecDepth 100000 in
theorem fields_14 (g : Nat) (v1 v2 v3 v4 v5 v6 v7 : Value) (w : World) (hI : w.heap[g]? = some (.cells #[.int .i64 14, v1, v2, v3, v4, v5, v6, v7] 37 (0, 0))) :
  Calls Try.prog 32 #[.pointer (some ⟨g, 0, none⟩)] w (Flds w g 14) := by
 have h0 : w.cell? ⟨g, 0, none⟩ = some (.int .i64 14) := (blk_cell hI 0).trans rfl
 clear hI
 have hu37 := Try.underlying37
 go_enter Try.func32, Try.ntmps32
 go_wp2
 go_region
 all_goals (simp only [Exit.then, Exit.inBlock]; go_wp2; go_ret3; exact flds_some (op := 14) [1, 2, 3, 4] rfl _ rfl 1)
set_option maxHeartbeats 1000000 in
set_option maxRecDepth 100000 in
theorem fields_15 (g : Nat) (v1 v2 v3 v4 v5 v6 v7 : Value) (w : World) (hI : w.heap[g]? = some (.cells #[.int .i64 15, v1, v2, v3, v4, v5, v6, v7] 37 (0, 0))) :
  Calls Try.prog 32 #[.pointer (some ⟨g, 0, none⟩)] w (Flds w g 15) := by
 have h0 : w.cell? ⟨g, 0, none⟩ = some (.int .i64 15) := (blk_cell hI 0).trans rfl
 clear hI
 have hu37 := Try.underlying37
 go_enter Try.func32, Try.ntmps32
 go_wp2
 go_ret3
 exact flds_none (op := 15) rfl
set_option maxHeartbeats 1000000 in
set_option maxRecDepth 100000 in
theorem fields_16 (g : Nat) (v1 v2 v3 v4 v5 v6 v7 : Value) (w : World) (hI : w.heap[g]? = some (.cells #[.int .i64 16, v1, v2, v3, v4, v5, v6, v7] 37 (0, 0))) :
  Calls Try.prog 32 #[.pointer (some ⟨g, 0, none⟩)] w (Flds w g 16) := by
 have h0 : w.cell? ⟨g, 0, none⟩ = some (.int .i64 16) := (blk_cell hI 0).trans rfl
 clear hI
 have hu37 := Try.underlying37
 go_enter Try.func32, Try.ntmps32
 go_wp2
 go_ret3
 exact flds_some (op := 16) [2] rfl _ rfl 0
set_option maxHeartbeats 1000000 in
set_option maxRecDepth 100000 in
theorem fields_17 (g : Nat) (v1 v2 v3 v4 v5 v6 v7 : Value) (w : World) (hI : w.heap[g]? = some (.cells #[.int .i64 17, v1, v2, v3, v4, v5, v6, v7] 37 (0, 0))) :
  Calls Try.prog 32 #[.pointer (some ⟨g, 0, none⟩)] w (Flds w g 17) := by
 have h0 : w.cell? ⟨g, 0, none⟩ = some (.int .i64 17) := (blk_cell hI 0).trans rfl
 clear hI
 have hu37 := Try.underlying37
 go_enter Try.func32, Try.ntmps32
 go_wp2
 go_ret3
 exact flds_some (op := 17) [2] rfl _ rfl 0
set_option maxHeartbeats 1000000 in
set_option maxRecDepth 100000 in
theorem fields_18 (g : Nat) (v1 v2 v3 v4 v5 v6 v7 : Value) (w : World) (hI : w.heap[g]? = some (.cells #[.int .i64 18, v1, v2, v3, v4, v5, v6, v7] 37 (0, 0))) :
  Calls Try.prog 32 #[.pointer (some ⟨g, 0, none⟩)] w (Flds w g 18) := by
 have h0 : w.cell? ⟨g, 0, none⟩ = some (.int .i64 18) := (blk_cell hI 0).trans rfl
 clear hI
 have hu37 := Try.underlying37
 go_enter Try.func32, Try.ntmps32
 go_wp2
 go_region
 all_goals (simp only [Exit.then, Exit.inBlock]; go_wp2; go_ret3; exact flds_some (op := 18) [1, 2, 3, 4, 5] rfl _ rfl 1)
set_option maxHeartbeats 1000000 in
set_option maxRecDepth 100000 in
theorem fields_19 (g : Nat) (v1 v2 v3 v4 v5 v6 v7 : Value) (w : World) (hI : w.heap[g]? = some (.cells #[.int .i64 19, v1, v2, v3, v4, v5, v6, v7] 37 (0, 0))) :
  Calls Try.prog 32 #[.pointer (some ⟨g, 0, none⟩)] w (Flds w g 19) := by
 have h0 : w.cell? ⟨g, 0, none⟩ = some (.int .i64 19) := (blk_cell hI 0).trans rfl
 clear hI
 have hu37 := Try.underlying37
 go_enter Try.func32, Try.ntmps32
 go_wp2
 go_ret3
 exact flds_none (op := 19) rfl
theorem fields_any (op : Int) (h : 1 ≤ op ∧ op ≤ 19) (g : Nat) (v1 v2 v3 v4 v5 v6 v7 : Value) (w : World) (hI : w.heap[g]? = some (.cells #[.int .i64 op, v1, v2, v3, v4, v5, v6, v7] 37 (0, 0))) :
  Calls Try.prog 32 #[.pointer (some ⟨g, 0, none⟩)] w (Flds w g op) := by
 have hk : op = 1 ∨ op = 2 ∨ op = 3 ∨ op = 4 ∨ op = 5 ∨ op = 6 ∨ op = 7 ∨ op = 8 ∨ op = 9 ∨ op = 10 ∨ op = 11 ∨ op = 12 ∨ op = 13 ∨ op = 14 ∨ op = 15 ∨ op = 16 ∨ op = 17 ∨ op = 18 ∨ op = 19 := by omega
 rcases hk with rfl | rfl | rfl | rfl | rfl | rfl | rfl | rfl | rfl | rfl | rfl | rfl | rfl | rfl | rfl | rfl | rfl | rfl | rfl
 ·exact fields_1 g v1 v2 v3 v4 v5 v6 v7 w hI
 ·exact fields_2 g v1 v2 v3 v4 v5 v6 v7 w hI
 ·exact fields_3 g v1 v2 v3 v4 v5 v6 v7 w hI
 ·exact fields_4 g v1 v2 v3 v4 v5 v6 v7 w hI
 ·exact fields_5 g v1 v2 v3 v4 v5 v6 v7 w hI
 ·exact fields_6 g v1 v2 v3 v4 v5 v6 v7 w hI
 ·exact fields_7 g v1 v2 v3 v4 v5 v6 v7 w hI
 ·exact fields_8 g v1 v2 v3 v4 v5 v6 v7 w hI
 ·exact fields_9 g v1 v2 v3 v4 v5 v6 v7 w hI
 ·exact fields_10 g v1 v2 v3 v4 v5 v6 v7 w hI
 ·exact fields_11 g v1 v2 v3 v4 v5 v6 v7 w hI
 ·exact fields_12 g v1 v2 v3 v4 v5 v6 v7 w hI
 ·exact fields_13 g v1 v2 v3 v4 v5 v6 v7 w hI
 ·exact fields_14 g v1 v2 v3 v4 v5 v6 v7 w hI
 ·exact fields_15 g v1 v2 v3 v4 v5 v6 v7 w hI
 ·exact fields_16 g v1 v2 v3 v4 v5 v6 v7 w hI
 ·exact fields_17 g v1 v2 v3 v4 v5 v6 v7 w hI
 ·exact fields_18 g v1 v2 v3 v4 v5 v6 v7 w hI
 ·exact fields_19 g v1 v2 v3 v4 v5 v6 v7 w hI
end Go.Proofs.Ytpgjkndijdleeaa.PCode
end
section
namespace Go.Proofs.Ytpgjkndijdleeaa.PCode
open Go.RowKit Go.Proofs.YtpgjkndijdleeaaW.PrintWords Go.Proofs.YtpgjkndijdleeaaW.PrintLast Go.Proofs.YtpgjkndijdleeaaW.PrintMore
set_option linter.unusedVariables false
set_option linter.unusedSimpArgs false
/-- A reader's block: the bytes that are left (of an elder world), and its error. -/
def Rd (w0 W : World) (g : Nat) (l : List Int) (e : Int) : Prop := ∃ A c, W.heap[g]? = some (.cells #[.slice A l.length c, .int .i64 e] 54 (0, 0)) ∧ l.length ≤ c ∧ Kd.C (Kd.int .u8) w0 A l.length l ∧ ∀ x ∈ l, 0 ≤ x ∧ x ≤ 255
theorem fail_calls (g : Nat) (v : Value) (x : Int) (w : World) (hI : w.heap[g]? = some (.cells #[v, .int .i64 0] 54 (0, 0))) :
  Calls Try.prog 21 #[.pointer (some ⟨g, 0, none⟩), .int .i64 x] w fun en w' => en = .returned (.tuple #[]) ∧ w' = w.setCell ⟨g, 1, none⟩ (.int .i64 x) := by
 have h1 : w.cell? ⟨g, 1, none⟩ = some (.int .i64 0) := (blk_cell hI 1).trans rfl
 have z1 := blk_frozen hI 1
 clear hI
 go_enter Try.func21, Try.ntmps21
 go_wp2
 first | go_end0 | ((try simp only [Exit.inBlock, Exit.then]); refine bodyPost_ret (results_none rfl _ _ _) rfl ?_)
 exact ⟨rfl, rfl⟩
/-- What a count is read as, from round i on: it, the bytes that are left, the error. -/
def rcl : Nat → Int → Int → List Int → Int × List Int × Int
 | 0, _, _, l => (0, l, 6)
 | _ + 1, _, _, [] => (0, [], 5)
 | k + 1, i, u, x :: l => if (i = 9 ∧ 1 < x) ∨ (x = 0 ∧ 0 < i) then (0, l, 6) else if x < 128 then (Go.bits .or .u64 u (IntKind.u64.wrap (x % 128 * 2 ^ (7 * i).toNat)), l, 0) else rcl k (i + 1) (Go.bits .or .u64 u (IntKind.u64.wrap (x % 128 * 2 ^ (7 * i).toNat))) l
set_option maxHeartbeats 8000000 in
set_option maxRecDepth 100000 in
theorem count_ok (g : Nat) (l : List Int) (r : Int × List Int × Int) (hr : rcl 10 0 0 l = r) (w0 w : World) (hg : w0.heap.size ≤ g) (hB : Below w0.heap.size w0 w) (hI : Rd w0 w g l 0) :
  Calls Try.prog 20 #[.pointer (some ⟨g, 0, none⟩)] w fun en w' => en = .returned (.int .u64 r.1) ∧ Rd w0 w' g r.2.1 r.2.2 ∧ KeepBut w w' g none ∧ Below w0.heap.size w0 w' := by
 go_enter Try.func20, Try.ntmps20
 go_wp2
 go_loopg [3, 4] 10 (fun kq v3 v4 w' => ∃ (u i : Int) (l : List Int) , v3 = .int .u64 u ∧ v4 = .int .i64 i ∧ Aside0 (0 ≤ i ∧ i ≤ 9 ∧ i + kq = 10) ∧ Aside0 (rcl kq i u l = r) ∧ Aside0 (Rd w0 w' g l 0) ∧ Aside0 (KeepBut w w' g none) ∧ Aside0 (Below w0.heap.size w0 w'))
 case atStart => exact ⟨0, 0, l, rfl, rfl, ⟨by omega⟩, ⟨hr⟩, ⟨hI⟩, ⟨KeepBut.refl w g none⟩, ⟨hB⟩⟩
 case round =>
  clear hr hI hB
  obtain ⟨u, i, l, rfl, rfl, HI, HR, HRd, HKp, HBw⟩ := hrel
  obtain ⟨k1, rfl⟩ : ∃ k1, gk = k1 + 1 := ⟨gk - 1, by have h1_ := HI.out; omega⟩
  obtain ⟨A, c, HG, hlc, hC, hby⟩ := HRd.out
  have h0 : wr.cell? ⟨g, 0, none⟩ = some (.slice A l.length c) := (blk_cell HG 0).trans rfl
  have h1 : wr.cell? ⟨g, 1, none⟩ = some (.int .i64 0) := (blk_cell HG 1).trans rfl
  have z0 := blk_frozen HG 0
  have z1 := blk_frozen HG 1
  cases l with
  | nil =>
   have hr : (0, [], 5) = r := HR.out
   subst hr
   simp only [List.length_nil] at h0 HG
   go_wp2_with (first | (go_at_call 21; (refine (fail_calls g _ 5 _ HG).mono ?_); rintro en w1 ⟨rfl, rfl⟩))
   go_ret
   exact ⟨rfl, ⟨A, c, blk_put HG 1 _ rfl, Nat.zero_le _, hC, by simp⟩, HKp.out.set_ _ _, below_set HBw.out hg⟩
  | cons x l =>
   obtain ⟨ad, cs, rfl, hcl, hk, hcell⟩ := Kd.C_get hC 0 0 (by omega) (by simp only [List.length_cons]; omega)
   have hk' : cs = [.int .u8 x] := hk
   subst hk'
   have hx0 : w0.cell? (ad.add 0) = some (.int .u8 x) := hcell 0 _ rfl
   have hx := (HBw.out.cell (World.block_lt_of_cell? _ _ hx0)).trans hx0
   obtain ⟨A', hrun, hC', hl'⟩ := print_drop_of (P := Try.prog) (Value.int .u8) 0 25 5 .i64 (i := (Try.prog.info? 5).getD default) Try.underlying25 (by kernel_rfl) (by kernel_rfl) (some ad) c (x :: l) 1 (by omega) (by simp only [List.length_cons]; omega) hlc
   have hrun2 : ∀ W, (Instr.slice 25 (.slice (some ad) (l.length + 1) c) (some (.int .i64 1)) none none).run Try.prog W = .ok (.slice A' l.length (c - 1)) W := hrun
   have HC2 : Aside0 (Kd.C (Kd.int .u8) w0 A' l.length l) := ⟨Kd.C_of_reads (hC' w0 (Kd.reads_of_C (d := (0 : Int)) hC))⟩
   have hxa : 0 ≤ x := (hby x (by simp)).1
   have hxb : x ≤ 255 := (hby x (by simp)).2
   have HBY : Aside0 (∀ y ∈ l, 0 ≤ y ∧ y ≤ 255) := ⟨fun y hy => hby y (List.mem_cons_of_mem _ hy)⟩
   clear hby
   have HLc : Aside0 (l.length ≤ c - 1) := ⟨hl'⟩
   simp only [List.length_cons] at h0
   have hx1 : wr.cell? ad = some (.int .u8 x) := by rw [Addr.add_zero'] at hx; exact hx
   have HRN : ∀ W : World, W = wr.setCell ⟨g, 0, none⟩ (.slice A' l.length (c - 1)) → W.heap[g]? = some (.cells #[.slice A' l.length (c - 1), .int .i64 0] 54 (0, 0)) := fun W hW => by rw [hW]; exact blk_put HG 0 _ rfl
   clear hrun hC' hC hcell hx0 hx hl' hlc
   have HG2 := Aside0.mk (HRN _ rfl)
   have hgF := HRN
   have HG3 := Aside0.mk HG
   clear HG HRN hgF
   have w7 : wrap64 (7 * i) = 7 * i := by have h1_ := HI.out; unfold wrap64; omega
   have wi : wrap64 (i + 1) = i + 1 := by have h1_ := HI.out; unfold wrap64; omega
   have p7 : 0 ≤ 7 * i := by have h1_ := HI.out; omega
   have q7 : 7 * i ≤ 64 := by have h1_ := HI.out; omega
   by_cases hF : (i = 9 ∧ 1 < x) ∨ (x = 0 ∧ 0 < i)
   ·have hr : (0, l, 6) = r := by rw [← HR.out]; simp only [rcl, if_pos hF]
    subst hr
    clear HR
    rcases hF with ⟨h9, hx9⟩ | ⟨hx9, hi9⟩
    ·subst h9
     have c1 : decide (1 < x) = true := decide_eq_true hx9
     go_wp2_with (first | (go_at_call 21; (refine (fail_calls g _ 6 _ HG2.out).mono ?_); rintro en w1 ⟨rfl, rfl⟩))
     go_ret
     exact ⟨rfl, ⟨A', c - 1, blk_put HG2.out 1 _ rfl, HLc.out, HC2.out, HBY.out⟩, (HKp.out.set_ _ _).set_ _ _, below_set (below_set HBw.out hg) hg⟩
    ·subst hx9
     have c2 : decide (0 < i) = true := decide_eq_true hi9
     by_cases h9 : i = 9
     ·subst h9
      go_wp2_with (first | (go_at_call 21; (refine (fail_calls g _ 6 _ HG2.out).mono ?_); rintro en w1 ⟨rfl, rfl⟩))
      go_ret
      exact ⟨rfl, ⟨A', c - 1, blk_put HG2.out 1 _ rfl, HLc.out, HC2.out, HBY.out⟩, (HKp.out.set_ _ _).set_ _ _, below_set (below_set HBw.out hg) hg⟩
     ·have c9 : (i == 9) = false := by simpa using h9
      go_wp2_with (first | (go_at_call 21; (refine (fail_calls g _ 6 _ HG2.out).mono ?_); rintro en w1 ⟨rfl, rfl⟩))
      go_ret
      exact ⟨rfl, ⟨A', c - 1, blk_put HG2.out 1 _ rfl, HLc.out, HC2.out, HBY.out⟩, (HKp.out.set_ _ _).set_ _ _, below_set (below_set HBw.out hg) hg⟩
   have d1 : ¬ (i = 9 ∧ 1 < x) := fun h => hF (.inl h)
   have d2 : ¬ (x = 0 ∧ 0 < i) := fun h => hF (.inr h)
   by_cases hx128 : x < 128
   ·have hr : (Go.bits .or .u64 u (IntKind.u64.wrap (x % 128 * 2 ^ (7 * i).toNat)), l, 0) = r := by rw [← HR.out]; simp only [rcl, if_neg hF, if_pos hx128]
    subst hr
    clear hF HR
    have cx1 : decide (x < 128) = true := decide_eq_true hx128
    by_cases h9 : i = 9
    ·subst h9
     have c1 : decide (1 < x) = false := decide_eq_false (fun h => d1 ⟨rfl, h⟩)
     have cx0 : (x == 0) = false := by have : x ≠ 0 := (fun h => d2 ⟨h, by omega⟩); simpa using this
     clear d1 d2
     go_wp2
     go_ret
     exact ⟨rfl, ⟨A', c - 1, HG2.out, HLc.out, HC2.out, HBY.out⟩, HKp.out.set_ _ _, below_set HBw.out hg⟩
    ·have c9 : (i == 9) = false := by simpa using h9
     by_cases hx0 : x = 0
     ·subst hx0
      have c2 : decide (0 < i) = false := decide_eq_false (fun h => d2 ⟨rfl, h⟩)
      clear d1 d2
      go_wp2
      go_ret
      exact ⟨rfl, ⟨A', c - 1, HG2.out, HLc.out, HC2.out, HBY.out⟩, HKp.out.set_ _ _, below_set HBw.out hg⟩
     ·have cx0 : (x == 0) = false := by simpa using hx0
      clear d1 d2
      go_wp2
      go_ret
      exact ⟨rfl, ⟨A', c - 1, HG2.out, HLc.out, HC2.out, HBY.out⟩, HKp.out.set_ _ _, below_set HBw.out hg⟩
   ·have HR2 : Aside0 (rcl k1 (i + 1) (Go.bits .or .u64 u (IntKind.u64.wrap (x % 128 * 2 ^ (7 * i).toNat))) l = r) := ⟨by rw [← HR.out]; simp only [rcl, if_neg hF, if_neg hx128]⟩
    clear hF HR
    have h9 : i ≠ 9 := fun h => d1 ⟨h, by omega⟩
    have H9 := Aside0.mk h9
    have c9 : (i == 9) = false := by simpa using h9
    have cx0 : (x == 0) = false := by have : x ≠ 0 := (by omega); simpa using this
    have cx1 : decide (x < 128) = false := decide_eq_false hx128
    clear d1 d2
    go_wp2
    go_roundg k1
    case measure => omega
    case rel => exact ⟨_, i + 1, l, rfl, rfl, ⟨by have h1_ := HI.out; have h2_ := H9.out; omega⟩, HR2, ⟨⟨A', c - 1, HG2.out, HLc.out, HC2.out, HBY.out⟩⟩, ⟨HKp.out.set_ _ _⟩, ⟨below_set HBw.out hg⟩⟩
set_option maxHeartbeats 8000000 in
set_option maxRecDepth 100000 in
theorem count_err (g : Nat) (v : Value) (e : Int) (he : e ≠ 0) (w : World) (hI : w.heap[g]? = some (.cells #[v, .int .i64 e] 54 (0, 0))) :
  Calls Try.prog 20 #[.pointer (some ⟨g, 0, none⟩)] w fun en w' => en = .returned (.int .u64 0) ∧ w' = w := by
 have h1 : w.cell? ⟨g, 1, none⟩ = some (.int .i64 e) := (blk_cell hI 1).trans rfl
 have c1 : (e == 0) = false := by simpa using he
 clear hI he
 go_enter Try.func20, Try.ntmps20
 go_wp2
 go_loopg [3, 4] 1 (fun kq v3 v4 w' => v3 = .int .u64 0 ∧ v4 = .int .i64 0 ∧ Aside0 (w' = w))
 case atStart => exact ⟨rfl, rfl, ⟨rfl⟩⟩
 case round =>
  obtain ⟨rfl, rfl, ⟨rfl⟩⟩ := hrel
  go_wp2
  go_ret
  exact ⟨rfl, rfl⟩
/-- A number out of its count. -/
def zig (u : Int) : Int := Go.bits .xor .i64 (wrap64 (u / 2)) (wrap64 (-wrap64 (Go.bits .and .u64 u 1)))
set_option maxHeartbeats 8000000 in
set_option maxRecDepth 100000 in
theorem number_ok (g : Nat) (l : List Int) (u e : Int) (l' : List Int) (hr : rcl 10 0 0 l = (u, l', e)) (w0 w : World) (hg : w0.heap.size ≤ g) (hB : Below w0.heap.size w0 w) (hI : Rd w0 w g l 0) :
  Calls Try.prog 34 #[.pointer (some ⟨g, 0, none⟩)] w fun en w' => en = .returned (.int .i64 (zig u)) ∧ Rd w0 w' g l' e ∧ KeepBut w w' g none ∧ Below w0.heap.size w0 w' := by
 have HB := Aside0.mk hB
 have HI := Aside0.mk hI
 clear hB hI
 go_enter Try.func34, Try.ntmps34
 go_wp2_with (first | (go_at_call 20; (refine (count_ok g l _ hr w0 _ hg HB.out HI.out).mono ?_); rintro en w1 ⟨rfl, h1, h2, h3⟩; have H1 := Aside0.mk h1; have H2 := Aside0.mk h2; have H3 := Aside0.mk h3; clear h1 h2 h3))
 go_ret
 exact ⟨rfl, H1.out, H2.out, H3.out⟩
end Go.Proofs.Ytpgjkndijdleeaa.PCode
end
section
namespace Go.Proofs.Ytpgjkndijdleeaa.PCode
open Go.RowKit Go.Proofs.YtpgjkndijdleeaaW.PrintWords Go.Proofs.YtpgjkndijdleeaaW.PrintLast Go.Proofs.YtpgjkndijdleeaaW.PrintMore
set_option linter.unusedVariables false
set_option linter.unusedSimpArgs false
theorem wrap_u64 (n : Int) : IntKind.u64.wrap n = n % 18446744073709551616 := by simp [IntKind.wrap, IntKind.bits, IntKind.signed]
theorem wraps_u64 (n : Int) (h0 : 0 ≤ n) (h1 : n < 2 ^ 64) : IntKind.u64.wrap n = n := by rw [wrap_u64]; omega
theorem u8_or128' (x : Int) (h0 : 0 ≤ x) (h1 : x < 128) : Go.bits .or .u8 x 128 = x + 128 := by
 obtain ⟨a, rfl⟩ := Int.eq_ofNat_of_zero_le h0
 have h2 := (bits_nat .u8 8 (by decide) wraps_u8 a 128 (by omega) (by omega)).2
 have h3 := (bits_nat .u8 8 (by decide) wraps_u8 128 a (by omega) (by omega)).2
 have h4 := bits_join .u8 8 (by decide) wraps_u8 7 128 a (by decide) (by decide) (by decide) h0 (by simpa using h1) (by omega)
 have e : Go.bits .or .u8 (a : Int) 128 = Go.bits .or .u8 128 (a : Int) := by
  rw [show (128 : Int) = ((128 : Nat) : Int) from rfl, h2, h3, Nat.or_comm]
 rw [e, h4]; omega
theorem xor_ones (x : Int) (h0 : 0 ≤ x) (h1 : x < 18446744073709551616) : Go.bits .xor .u64 x 18446744073709551615 = 18446744073709551615 - x := by
 obtain ⟨a, rfl⟩ := Int.eq_ofNat_of_zero_le h0
 show IntKind.u64.wrap ((BitVec.ofInt 64 (a : Int) ^^^ BitVec.ofInt 64 18446744073709551615).toNat : Int) = _
 have e : BitVec.ofInt 64 18446744073709551615 = BitVec.allOnes 64 := by decide
 rw [e, BitVec.xor_allOnes, BitVec.toNat_not, BitVec.ofInt_natCast, BitVec.toNat_ofNat, Nat.mod_eq_of_lt (by omega), wrap_u64]
 omega
theorem xor_zero_u (x : Int) (h0 : 0 ≤ x) (h1 : x < 18446744073709551616) : Go.bits .xor .u64 x 0 = x := by
 obtain ⟨a, rfl⟩ := Int.eq_ofNat_of_zero_le h0
 show IntKind.u64.wrap ((BitVec.ofInt 64 (a : Int) ^^^ BitVec.ofInt 64 0).toNat : Int) = _
 have e : BitVec.ofInt 64 0 = 0#64 := by decide
 rw [e, BitVec.xor_zero, BitVec.ofInt_natCast, BitVec.toNat_ofNat, Nat.mod_eq_of_lt (by omega), wrap_u64]
 omega
theorem xor_ones_i (x : Int) (h0 : 0 ≤ x) (h1 : x < 9223372036854775808) : Go.bits .xor .i64 x (-1) = -1 - x := by
 obtain ⟨a, rfl⟩ := Int.eq_ofNat_of_zero_le h0
 show IntKind.i64.wrap ((BitVec.ofInt 64 (a : Int) ^^^ BitVec.ofInt 64 (-1)).toNat : Int) = _
 have e : BitVec.ofInt 64 (-1) = BitVec.allOnes 64 := by decide
 rw [e, BitVec.xor_allOnes, BitVec.toNat_not, BitVec.ofInt_natCast, BitVec.toNat_ofNat, Nat.mod_eq_of_lt (by omega), IntKind.wrap_i64]
 omega
theorem xor_zero_i (x : Int) (h0 : 0 ≤ x) (h1 : x < 9223372036854775808) : Go.bits .xor .i64 x 0 = x := by
 obtain ⟨a, rfl⟩ := Int.eq_ofNat_of_zero_le h0
 show IntKind.i64.wrap ((BitVec.ofInt 64 (a : Int) ^^^ BitVec.ofInt 64 0).toNat : Int) = _
 have e : BitVec.ofInt 64 0 = 0#64 := by decide
 rw [e, BitVec.xor_zero, BitVec.ofInt_natCast, BitVec.toNat_ofNat, Nat.mod_eq_of_lt (by omega), IntKind.wrap_i64]
 omega
/-- A number's count. -/
def zg (n : Int) : Int := if 0 ≤ n then 2 * n else -2 * n - 1
theorem zg_range {n : Int} (h0 : -9223372036854775808 ≤ n) (h1 : n ≤ 9223372036854775807) : 0 ≤ zg n ∧ zg n < 18446744073709551616 := by unfold zg; split <;> omega
theorem zg_is {n : Int} (h0 : -9223372036854775808 ≤ n) (h1 : n ≤ 9223372036854775807) : Go.bits .xor .u64 (IntKind.u64.wrap ((IntKind.u64.wrap n) * 2)) (IntKind.u64.wrap (n / 9223372036854775808)) = zg n := by
 unfold zg
 split
 ·have e1 : IntKind.u64.wrap (n / 9223372036854775808) = 0 := by rw [wrap_u64]; omega
  have e2 : IntKind.u64.wrap ((IntKind.u64.wrap n) * 2) = 2 * n := by rw [wrap_u64, wrap_u64]; omega
  rw [e1, e2, xor_zero_u _ (by omega) (by omega)]
 ·have e1 : IntKind.u64.wrap (n / 9223372036854775808) = 18446744073709551615 := by rw [wrap_u64]; omega
  have e2 : IntKind.u64.wrap ((IntKind.u64.wrap n) * 2) = 2 * n + 18446744073709551616 := by rw [wrap_u64, wrap_u64]; omega
  rw [e1, e2, xor_ones _ (by omega) (by omega)]
  omega
/-- A count's number. -/
def uz (u : Int) : Int := if u % 2 = 0 then u / 2 else -1 - u / 2
theorem uz_range {u : Int} (h0 : 0 ≤ u) (h1 : u < 18446744073709551616) : -9223372036854775808 ≤ uz u ∧ uz u ≤ 9223372036854775807 := by unfold uz; split <;> omega
theorem zig_is {u : Int} (h0 : 0 ≤ u) (h1 : u < 18446744073709551616) : zig u = uz u := by
 have hm : Go.bits .and .u64 u 1 = u % 2 := bits_mask .u64 64 (by decide) wraps_u64 1 (by decide) u h0 (by simpa using h1)
 unfold zig uz
 rw [hm]
 have e0 : wrap64 (u / 2) = u / 2 := by unfold wrap64; omega
 rw [e0]
 split
 ·rename_i h
  have e1 : wrap64 (-wrap64 (u % 2)) = 0 := by unfold wrap64; omega
  rw [e1, xor_zero_i _ (by omega) (by omega)]
 ·have e1 : wrap64 (-wrap64 (u % 2)) = -1 := by unfold wrap64; omega
  rw [e1, xor_ones_i _ (by omega) (by omega)]
theorem uz_zg (n : Int) : uz (zg n) = n := by unfold uz zg; split <;> split <;> omega
theorem zg_uz {u : Int} (h0 : 0 ≤ u) : zg (uz u) = u := by unfold uz zg; split <;> split <;> omega
/-- A count's bytes. -/
def cn : Nat → Int → List Int
 | 0, _ => []
 | k + 1, u => if u ≥ 128 then (u % 128 + 128) :: cn k (u / 128) else [u]
def cnB (u : Int) : List Int := cn 10 u
def numB (n : Int) : List Int := cnB (zg n)
def numsB (l : List Int) : List Int := l.flatMap numB
theorem cn_len : ∀ (k : Nat) (u : Int), (cn k u).length ≤ k
 | 0, _ => by simp [cn]
 | k + 1, u => by
  unfold cn
  split
  ·simp only [List.length_cons]; have := cn_len k (u / 128); omega
  ·simp
/-- The program's count. -/
theorem count_l0 : ∀ (k : Nat) (u : Int) (b : List Int) (j : Nat), 0 ≤ u → u < 128 ^ k → 1 ≤ k → b.length + k < 140737488355328 → code_count.l0 (k + j) b u = some (b ++ cn k u)
 | 0, u, b, j, _, _, h1, _ => by omega
 | k + 1, u, b, j, h0, h1, _, hb => by
  rw [show k + 1 + j = (k + j) + 1 from by omega]
  simp only [code_count.l0]
  by_cases h : u ≥ 128
  ·rw [if_pos h, if_pos (by omega)]
   have e1 : Go.bits .or .u8 ((Int.tmod u 128) % 256) 128 = u % 128 + 128 := by
    rw [show Int.tmod u 128 = u % 128 from by rw [Int.tmod_eq_emod_of_nonneg h0], u8_or128' _ (by omega) (by omega)]
    omega
   rw [e1]
   have hk : 1 ≤ k := by
    rcases Nat.eq_zero_or_pos k with rfl | h'
    ·simp at h1; omega
    ·exact h'
   have h2 : u / 128 < 128 ^ k := by
    rw [Int.pow_succ] at h1
    omega
   rw [count_l0 k (u / 128) _ j (by omega) h2 hk (by simp only [List.length_append, List.length_cons, List.length_nil]; omega)]
   simp only [cn]
   rw [if_pos h]
   simp
  ·rw [if_neg h, if_pos (by omega)]
   simp only [cn]
   rw [if_neg h, show u % 256 = u from by omega]
theorem count_is {u : Int} (h0 : 0 ≤ u) (h1 : u < 18446744073709551616) (b : List Int) (j : Nat) (hb : b.length < 140737488350000) : code_count.f (10 + j) b u = some (b ++ cnB u) :=
 count_l0 10 u b j h0 (by omega) (by omega) (by omega)
/-- The program's numbers. -/
def inI (n : Int) : Prop := -9223372036854775808 ≤ n ∧ n ≤ 9223372036854775807
instance (n : Int) : Decidable (inI n) := by unfold inI; infer_instance
theorem numB_len (n : Int) : (numB n).length ≤ 10 := cn_len 10 _
theorem numsB_len (l : List Int) : (numsB l).length ≤ 10 * l.length := by
 induction l with
 | nil => simp [numsB]
 | cons x l ih => simp only [numsB, List.flatMap_cons, List.length_append, List.length_cons] at *; have := numB_len x; omega
theorem numsB_append (a b : List Int) : numsB (a ++ b) = numsB a ++ numsB b := by simp [numsB]
theorem numbers_l0 (l : List Int) (hl : ∀ x ∈ l, inI x) (hm : l.length ≤ 100000) (j : Nat) : ∀ (d i : Nat) (b : List Int), i + d = l.length → b.length + 10 * d < 140737488350000 → code_numbers.l0 (11 + d + j) b l (l.length : Int) (i : Int) = some (b ++ numsB (l.drop i))
 | 0, i, b, hi, _ => by
  rw [show 11 + 0 + j = (10 + j) + 1 from by omega]
  simp only [code_numbers.l0]
  rw [if_neg (by omega), List.drop_of_length_le (by omega)]
  simp [numsB]
 | d + 1, i, b, hi, hb => by
  rw [show 11 + (d + 1) + j = (11 + d + j) + 1 from by omega]
  simp only [code_numbers.l0]
  rw [if_pos (by omega), if_pos (by omega), if_pos (by omega)]
  have hlt : i < l.length := by omega
  have e0 : rd l (i : Int) = l[i] := by simp [rd, List.getD_eq_getElem?_getD, hlt]
  have hx := hl l[i] (List.getElem_mem hlt)
  rw [e0, zg_is hx.1 hx.2, show 11 + d + j = 10 + (1 + d + j) from by omega, count_is (zg_range hx.1 hx.2).1 (zg_range hx.1 hx.2).2 b _ (by omega)]
  simp only [Option.bind_some]
  rw [show wrap64 ((i : Int) + 1) = ((i + 1 : Nat) : Int) from by unfold wrap64; omega, show 10 + (1 + d + j) = 11 + d + j from by omega, numbers_l0 l hl hm j d (i + 1) _ (by omega) (by have := cn_len 10 (zg l[i]); simp only [List.length_append, cnB]; omega)]
  rw [List.drop_eq_getElem_cons hlt]
  simp only [numsB, numB, List.flatMap_cons, List.append_assoc]
theorem numbers_is (l : List Int) (hl : ∀ x ∈ l, inI x) (hm : l.length ≤ 100000) (b : List Int) (hb : b.length ≤ 140737480000000) (j : Nat) : code_numbers.f (11 + l.length + j) b l = some (b ++ numsB l) := by
 have := numbers_l0 l hl hm j l.length 0 b (by omega) (by omega)
 simpa [code_numbers.f] using this
end Go.Proofs.Ytpgjkndijdleeaa.PCode
end
section
namespace Go.Proofs.Ytpgjkndijdleeaa.PCode
open Go.RowKit Go.Proofs.YtpgjkndijdleeaaW.PrintWords Go.Proofs.YtpgjkndijdleeaaW.PrintLast Go.Proofs.YtpgjkndijdleeaaW.PrintMore
attribute [local go_sem] max2_int min2_int max_two min_two max_three min_three max_four min_four   -- for this text's walks alone
set_option linter.unusedVariables false
set_option linter.unusedSimpArgs false
def fld (x : S37) (o : Nat) : Int := if o = 1 then x.f1 else if o = 2 then x.f2 else if o = 3 then x.f3 else if o = 4 then x.f4 else x.f5
def vnums (v : S62) : List Int := [v.f0, v.f1, v.f2, v.f3.f0, v.f3.f1, v.f3.f2, v.f3.f3, v.f4, v.f5]
/-- A command's body. -/
def bodyB (x : S37) : List Int := numsB ((fo x.f0).map (fld x)) ++ (if fl x.f0 = true then cnB (x.f6.length : Int) ++ numsB x.f6 else []) ++ (if fv x.f0 = true then cnB (x.f7.length : Int) ++ numsB (x.f7.flatMap vnums) else [])
/-- Numbers of a command are ints; its lists are not too long. -/
def goodC (x : S37) : Prop := (1 ≤ x.f0 ∧ x.f0 ≤ 19) ∧ (inI x.f1 ∧ inI x.f2 ∧ inI x.f3 ∧ inI x.f4 ∧ inI x.f5) ∧ (x.f6.length ≤ 5000 ∧ ∀ n ∈ x.f6, inI n) ∧ (x.f7.length ≤ 1100 ∧ ∀ v ∈ x.f7, ∀ n ∈ vnums v, inI n)
instance (x : S37) : Decidable (goodC x) := by unfold goodC; infer_instance
def code_body.f (a0_0 : Int) (a0_1 : Int) (a0_2 : Int) (a0_3 : Int) (a0_4 : Int) (a0_5 : Int) (l0_6 : List Int) (l0_7 : List (S62)) : Option (List Int) := if goodC ⟨a0_0, a0_1, a0_2, a0_3, a0_4, a0_5, l0_6, l0_7⟩ then some (bodyB ⟨a0_0, a0_1, a0_2, a0_3, a0_4, a0_5, l0_6, l0_7⟩) else none
/-- Bytes that the call has made. -/
abbrev Bs (w1 W : World) (v : Value) (b : List Int) : Prop := Kd.R (Kd.int .u8) 5 W w1.heap.size (fun _ => True) v b
theorem numbers_any {w1 W : World} {v : Value} {b : List Int} {A : Option Addr} {c : Nat} {l : List Int} (hl : ∀ x ∈ l, inI x) (hm : l.length ≤ 10000) (hb : b.length ≤ 1000000) (hB : Below w1.heap.size w1 W) (N : Nat) (hR : Kd.R (Kd.int .u8) 5 W w1.heap.size (fun k => k < N) v b) (hC : ∀ W', Kept W W' (fun k => k < N ∧ w1.heap.size ≤ k) → (Kd.int .i64).C W' A l.length l) (hc : l.length ≤ c) :
  Calls Try.prog 33 #[v, .slice A l.length c] W fun e w' => ∃ v', e = .returned v' ∧ Bs w1 w' v' (b ++ numsB l) ∧ Below w1.heap.size w1 w' := by
 have hR' : Kd.R (Kd.int .u8) 5 W w1.heap.size (fun k => k < N ∧ w1.heap.size ≤ k) v b := Kd.R_mono (Kd.R_bound hR) (fun k hk => ⟨hk.1, hk.2.1⟩)
 refine (code_numbers.calls (11 + l.length + 0) _ v b A c l _ w1 W hB hR' hC hc (numbers_is l hl (by omega) b (by omega) 0)).mono ?_
 rintro e w' ⟨v', rfl, h1, h2, h3⟩
 exact ⟨v', rfl, Kd.R_mono h1 (fun _ _ => trivial), h2⟩
theorem numbers_lit {w1 W : World} {v : Value} {b : List Int} (l : List Int) (cs : Array Value) (hcs : (l.map (Value.int .i64)).toArray = cs) (hl : ∀ x ∈ l, inI x) (hm : l.length ≤ 10000) (hb : b.length ≤ 1000000) (hB : Below w1.heap.size w1 W) (hR : Bs w1 W v b) :
  Calls Try.prog 33 #[v, .slice (some ⟨W.heap.size, 0, none⟩) l.length l.length] (W.alloc (.cells cs 3)) fun e w' => ∃ v', e = .returned v' ∧ Bs w1 w' v' (b ++ numsB l) ∧ Below w1.heap.size w1 w' := by
 subst hcs
 have ho := own_lit_of (enc := Value.int .i64) W W.heap.size 3 l (Nat.le_refl _) (by omega)
 have hk : Kd.R (Kd.int .i64) 3 _ W.heap.size (fun k => k = W.heap.size) _ l := Kd.R_of_own (h1 := fun _ => rfl) ho (fun k hk => by simpa [Value.ownBlock] using hk.symm)
 refine numbers_any hl hm hb (below_alloc hB _) W.heap.size (Kd.R_alloc (Kd.R_mono (Kd.R_bound hR) (fun k hk => hk.2.2.1)) _) (Kd.C_kept_own hk (fun k h1 h2 => by omega)) (Nat.le_refl _)
theorem numbers_lit2 {w1 W : World} {v : Value} {b : List Int} (l : List Int) (cs : Array Value) (n : Nat) (hn : W.heap.size = n) (hcs : (l.map (Value.int .i64)).toArray = cs) (hl : ∀ x ∈ l, inI x) (hm : l.length ≤ 10000) (hb : b.length ≤ 1000000) (hB : Below w1.heap.size w1 W) (hR : Bs w1 W v b) :
  Calls Try.prog 33 #[v, .slice (some ⟨n, 0, none⟩) l.length l.length] (W.alloc (.cells cs 3)) fun e w' => ∃ v', e = .returned v' ∧ Bs w1 w' v' (b ++ numsB l) ∧ Below w1.heap.size w1 w' := by
 subst hn
 exact numbers_lit l cs hcs hl hm hb hB hR
theorem numbers_came {w0 w1 W : World} {v : Value} {b : List Int} {A : Option Addr} {c : Nat} {l : List Int} (hl : ∀ x ∈ l, inI x) (hm : l.length ≤ 10000) (hb : b.length ≤ 1000000) (hB : Below w1.heap.size w1 W) (hR : Bs w1 W v b) (hC : (Kd.int .i64).C w1 A l.length l) (hc : l.length ≤ c) :
  Calls Try.prog 33 #[v, .slice A l.length c] W fun e w' => ∃ v', e = .returned v' ∧ Bs w1 w' v' (b ++ numsB l) ∧ Below w1.heap.size w1 w' :=
 numbers_any hl hm hb hB W.heap.size (Kd.R_mono (Kd.R_bound hR) (fun k hk => hk.2.2.1)) (Kd.C_kept_came (Kd.heap_int .i64) hC hB (fun k hk => hk.2)) hc
theorem count_any {w1 W : World} {v : Value} {b : List Int} {u : Int} (h0 : 0 ≤ u) (h1 : u < 18446744073709551616) (hb : b.length ≤ 1000000000000) (hB : Below w1.heap.size w1 W) (hR : Bs w1 W v b) :
  Calls Try.prog 19 #[v, .int .u64 u] W fun e w' => ∃ v', e = .returned v' ∧ Bs w1 w' v' (b ++ cnB u) ∧ Below w1.heap.size w1 w' := by
 refine (code_count.calls (10 + 0) _ v b u _ w1 W hB hR (count_is h0 h1 b 0 (by omega))).mono ?_
 rintro e w' ⟨v', rfl, h1, h2, h3⟩
 exact ⟨v', rfl, Kd.R_mono h1 (fun _ _ => trivial), h2⟩
theorem len_vnums (l : List S62) : (l.flatMap vnums).length = l.length * 9 := by
 induction l with
 | nil => rfl
 | cons a l ih => simp only [List.flatMap_cons, List.length_append, ih, List.length_cons, vnums, List.length_nil]; omega
theorem fld_in {x : S37} (h : goodC x) (o : Nat) : inI (fld x o) := by
 obtain ⟨_, ⟨h1, h2, h3, h4, h5⟩, _⟩ := h
 unfold fld
 repeat' split
 all_goals assumption
theorem body_end0 {x : S37} {w w1 W : World} {v : Value} {i : Nat} (hfl : fl x.f0 = false) (hfv : fv x.f0 = false) (hr : Bs w1 W v (numsB (((fo x.f0).take i).map (fld x)))) (hi : (fo x.f0).length ≤ i) (hs : w.heap.size ≤ w1.heap.size) : Kd.R (Kd.int .u8) 5 W w.heap.size (fun _ => True) v (bodyB x) := by
 rw [List.take_of_length_le hi] at hr
 have e : bodyB x = numsB ((fo x.f0).map (fld x)) := by unfold bodyB; rw [hfl, hfv]; simp
 rw [e]
 exact Kd.R_lower hr hs
theorem body_end1 {x : S37} {w w1 W : World} {v : Value} (hfl : fl x.f0 = true) (hfv : fv x.f0 = false) (hr : Bs w1 W v (numsB ((fo x.f0).map (fld x)) ++ cnB (x.f6.length : Int) ++ numsB x.f6)) (hs : w.heap.size ≤ w1.heap.size) : Kd.R (Kd.int .u8) 5 W w.heap.size (fun _ => True) v (bodyB x) := by
 have e : bodyB x = numsB ((fo x.f0).map (fld x)) ++ cnB (x.f6.length : Int) ++ numsB x.f6 := by unfold bodyB; rw [hfl, hfv]; simp
 rw [e]
 exact Kd.R_lower hr hs
theorem body_end2 {x : S37} {w w1 W : World} {v : Value} (hfl : fl x.f0 = false) (hfv : fv x.f0 = true) (hr : Bs w1 W v (numsB ((fo x.f0).map (fld x)) ++ cnB (x.f7.length : Int) ++ numsB (x.f7.flatMap vnums))) (hs : w.heap.size ≤ w1.heap.size) : Kd.R (Kd.int .u8) 5 W w.heap.size (fun _ => True) v (bodyB x) := by
 have e : bodyB x = numsB ((fo x.f0).map (fld x)) ++ cnB (x.f7.length : Int) ++ numsB (x.f7.flatMap vnums) := by unfold bodyB; rw [hfl, hfv]; simp
 rw [e]
 exact Kd.R_lower hr hs
set_option maxHeartbeats 8000000 in
set_option maxRecDepth 100000 in
theorem body_none (x : S37) (hg : goodC x) (hfl : fl x.f0 = false) (hfv : fv x.f0 = false) (A0_6 : Option Addr) (c0_6 : Nat) (A0_7 : Option Addr) (c0_7 : Nat) (w : World) :
  Calls Try.prog 18 #[.agg #[.int .i64 x.f0, .int .i64 x.f1, .int .i64 x.f2, .int .i64 x.f3, .int .i64 x.f4, .int .i64 x.f5, .slice A0_6 x.f6.length c0_6, .slice A0_7 x.f7.length c0_7]] w fun e w' => ∃ v0_ : Value, e = .returned (v0_) ∧ Kd.R (Kd.int .u8) 5 w' w.heap.size (fun _ => True) v0_ (bodyB x) ∧ Below w.heap.size w w' := by
 have hu37 := Try.underlying37
 have HG := Aside0.mk hg
 have HO := Aside0.mk (fo_le x.f0)
 clear hg
 go_enter Try.func18, Try.ntmps18
 go_wp2_with (first | (go_at_call 32; (refine (fields_any x.f0 HG.out.1 w.heap.size _ _ _ _ _ _ _ _ (blk_new w _)).mono ?_); rintro e w1 ⟨A, rfl, hp, hb, _⟩; have HP := Aside0.mk hp; have HB1 := Aside0.mk hb; clear hp hb))
 have HBK := Aside0.mk (blk_below (blk_new w _) HB1.out)
 have HB0 := Aside0.mk (below_step (below_alloc (Below.refl w.heap.size w) _) HB1.out)
 clear HB1
 go_loopg [3, 18] ((fo x.f0).length + 1) (fun kq v3 v18 w' => ∃ (i : Nat), v18 = .int .i64 i ∧ Aside0 (i + kq = (fo x.f0).length + 1) ∧ Aside0 (Bs w1 w' v3 (numsB (((fo x.f0).take i).map (fld x)))) ∧ Aside0 (Below w1.heap.size w1 w'))
 case atStart => exact ⟨0, rfl, ⟨by omega⟩, ⟨by simpa [numsB] using Kd.R_nil _ _ _ _ _⟩, ⟨Below.refl _ _⟩⟩
 case round =>
  obtain ⟨i, rfl, HI, HR, HB⟩ := hrel
  have h5 : (fo x.f0).length ≤ 5 := HO.out.1
  by_cases hlt : i < (fo x.f0).length
  ·obtain ⟨k1, rfl⟩ : ∃ k1, gk = k1 + 1 := ⟨gk - 1, by have h1_ := HI.out; omega⟩
   obtain ⟨ad, rfl, hp⟩ := ReadsOf.at_ HP.out (i : Int) (by omega) (by omega)
   obtain ⟨o, ho⟩ : ∃ o, o = (fo x.f0)[i] := ⟨_, rfl⟩
   have e0 : rdOf 0 (fo x.f0) (i : Int) = o := by rw [ho]; simp [rdOf, List.getD_eq_getElem?_getD, hlt]
   have hmem : o ∈ fo x.f0 := by rw [ho]; exact List.getElem_mem hlt
   have HT : Aside0 ((fo x.f0).take (i + 1) = (fo x.f0).take i ++ [o]) := ⟨by rw [ho]; exact List.take_succ_eq_append_getElem hlt⟩
   have hor := HO.out.2 o hmem
   rw [e0] at hp
   have hp2 := pw_cell_below HB.out hp
   simp only [Int.toNat_natCast] at hp2
   have hv : wr.cell? ⟨w.heap.size, o, none⟩ = some (.int .i64 (fld x o)) := by
    have hb := blk_cell (blk_below HBK.out HB.out) o
    rw [hb]
    have : o = 1 ∨ o = 2 ∨ o = 3 ∨ o = 4 ∨ o = 5 := by omega
    rcases this with rfl | rfl | rfl | rfl | rfl <;> rfl
   have HIN := Aside0.mk (fld_in HG.out o)
   have HLB : Aside0 ((numsB (((fo x.f0).take i).map (fld x))).length ≤ 1000000) := ⟨by have h1_ := numsB_len (((fo x.f0).take i).map (fld x)); simp only [List.length_map, List.length_take] at h1_; omega⟩
   clear ho e0 hmem hp HP hor
   go_wp2_with (go_at_call 33; refine (numbers_lit [fld x o] _ rfl (fun z hz => by have h_ := List.mem_singleton.1 hz; rw [h_]; exact HIN.out) (by simp) HLB.out HB.out HR.out).mono ?_; rintro e w2 ⟨v2, rfl, hr2, hb2⟩; have HR2 := Aside0.mk hr2; have HB2 := Aside0.mk hb2; clear hr2 hb2)
   go_roundg k1
   case measure => omega
   case rel => exact ⟨i + 1, by go_num, ⟨by have h1_ := HI.out; omega⟩, ⟨by rw [HT.out, List.map_append, numsB_append]; exact HR2.out⟩, HB2⟩
  ·go_wp2
   go_ret
   exact ⟨_, rfl, body_end0 hfl hfv HR.out (by have h1_ := HI.out; omega) HB0.out.size, below_step HB0.out HB.out⟩
set_option maxHeartbeats 8000000 in
set_option maxRecDepth 100000 in
theorem body_list (x : S37) (hg : goodC x) (hfl : fl x.f0 = true) (hfv : fv x.f0 = false) (A0_6 : Option Addr) (c0_6 : Nat) (A0_7 : Option Addr) (c0_7 : Nat) (w : World) (hr0_6 : Kd.C (Kd.int .i64) w A0_6 x.f6.length x.f6) (hc0_6 : x.f6.length ≤ c0_6) :
  Calls Try.prog 18 #[.agg #[.int .i64 x.f0, .int .i64 x.f1, .int .i64 x.f2, .int .i64 x.f3, .int .i64 x.f4, .int .i64 x.f5, .slice A0_6 x.f6.length c0_6, .slice A0_7 x.f7.length c0_7]] w fun e w' => ∃ v0_ : Value, e = .returned (v0_) ∧ Kd.R (Kd.int .u8) 5 w' w.heap.size (fun _ => True) v0_ (bodyB x) ∧ Below w.heap.size w w' := by
 have hu37 := Try.underlying37
 have HG := Aside0.mk hg
 have HO := Aside0.mk (fo_le x.f0)
 have HR6 := Aside0.mk hr0_6
 have HC6 := Aside0.mk hc0_6
 clear hg hr0_6 hc0_6
 go_enter Try.func18, Try.ntmps18
 go_wp2_with (first | (go_at_call 32; (refine (fields_any x.f0 HG.out.1 w.heap.size _ _ _ _ _ _ _ _ (blk_new w _)).mono ?_); rintro e w1 ⟨A, rfl, hp, hb, _⟩; have HP := Aside0.mk hp; have HB1 := Aside0.mk hb; clear hp hb))
 have HBK := Aside0.mk (blk_below (blk_new w _) HB1.out)
 have HB0 := Aside0.mk (below_step (below_alloc (Below.refl w.heap.size w) _) HB1.out)
 clear HB1
 go_loopg [3, 18] ((fo x.f0).length + 1) (fun kq v3 v18 w' => ∃ (i : Nat), v18 = .int .i64 i ∧ Aside0 (i + kq = (fo x.f0).length + 1) ∧ Aside0 (Bs w1 w' v3 (numsB (((fo x.f0).take i).map (fld x)))) ∧ Aside0 (Below w1.heap.size w1 w'))
 case atStart => exact ⟨0, rfl, ⟨by omega⟩, ⟨by simpa [numsB] using Kd.R_nil _ _ _ _ _⟩, ⟨Below.refl _ _⟩⟩
 case round =>
  obtain ⟨i, rfl, HI, HR, HB⟩ := hrel
  have h5 : (fo x.f0).length ≤ 5 := HO.out.1
  by_cases hlt : i < (fo x.f0).length
  ·obtain ⟨k1, rfl⟩ : ∃ k1, gk = k1 + 1 := ⟨gk - 1, by have h1_ := HI.out; omega⟩
   obtain ⟨ad, rfl, hp⟩ := ReadsOf.at_ HP.out (i : Int) (by omega) (by omega)
   obtain ⟨o, ho⟩ : ∃ o, o = (fo x.f0)[i] := ⟨_, rfl⟩
   have e0 : rdOf 0 (fo x.f0) (i : Int) = o := by rw [ho]; simp [rdOf, List.getD_eq_getElem?_getD, hlt]
   have hmem : o ∈ fo x.f0 := by rw [ho]; exact List.getElem_mem hlt
   have HT : Aside0 ((fo x.f0).take (i + 1) = (fo x.f0).take i ++ [o]) := ⟨by rw [ho]; exact List.take_succ_eq_append_getElem hlt⟩
   have hor := HO.out.2 o hmem
   rw [e0] at hp
   have hp2 := pw_cell_below HB.out hp
   simp only [Int.toNat_natCast] at hp2
   have hv : wr.cell? ⟨w.heap.size, o, none⟩ = some (.int .i64 (fld x o)) := by
    have hb := blk_cell (blk_below HBK.out HB.out) o
    rw [hb]
    have : o = 1 ∨ o = 2 ∨ o = 3 ∨ o = 4 ∨ o = 5 := by omega
    rcases this with rfl | rfl | rfl | rfl | rfl <;> rfl
   have HIN := Aside0.mk (fld_in HG.out o)
   have HLB : Aside0 ((numsB (((fo x.f0).take i).map (fld x))).length ≤ 1000000) := ⟨by have h1_ := numsB_len (((fo x.f0).take i).map (fld x)); simp only [List.length_map, List.length_take] at h1_; omega⟩
   clear ho e0 hmem hp HP hor
   go_wp2_with (go_at_call 33; refine (numbers_lit [fld x o] _ rfl (fun z hz => by have h_ := List.mem_singleton.1 hz; rw [h_]; exact HIN.out) (by simp) HLB.out HB.out HR.out).mono ?_; rintro e w2 ⟨v2, rfl, hr2, hb2⟩; have HR2 := Aside0.mk hr2; have HB2 := Aside0.mk hb2; clear hr2 hb2)
   go_roundg k1
   case measure => omega
   case rel => exact ⟨i + 1, by go_num, ⟨by have h1_ := HI.out; omega⟩, ⟨by rw [HT.out, List.map_append, numsB_append]; exact HR2.out⟩, HB2⟩
  ·have h6 : wr.cell? ⟨w.heap.size, 6, none⟩ = some (.slice A0_6 x.f6.length c0_6) := (blk_cell (blk_below HBK.out HB.out) 6).trans rfl
   have HI2 : Aside0 (((fo x.f0).take i) = fo x.f0) := ⟨List.take_of_length_le (by have h1_ := HI.out; omega)⟩
   have HR2 : Aside0 (Bs w1 wr u3 (numsB ((fo x.f0).map (fld x)))) := ⟨by have h1_ := HR.out; rw [HI2.out] at h1_; exact h1_⟩
   clear HR HI2
   have hw6 : IntKind.u64.wrap (x.f6.length : Int) = (x.f6.length : Int) := by rw [wrap_u64]; have h1_ := HG.out.2.2.1.1; omega
   have HL6 : Aside0 (0 ≤ (x.f6.length : Int) ∧ (x.f6.length : Int) < 18446744073709551616) := ⟨by have h1_ := HG.out.2.2.1.1; omega⟩
   have HLB : Aside0 ((numsB ((fo x.f0).map (fld x))).length ≤ 1000 ∧ (numsB ((fo x.f0).map (fld x)) ++ cnB (x.f6.length : Int)).length ≤ 1000000) := ⟨by have h1_ := numsB_len ((fo x.f0).map (fld x)); have h2_ := cn_len 10 (x.f6.length : Int); simp only [List.length_map, List.length_append, cnB] at h1_ h2_ ⊢; omega⟩
   have HB' := Aside0.mk (below_drew1 HB.out)
   have HR2' := Aside0.mk (show Bs w1 wr.drew u3 _ from Kd.R_drew HR2.out)
   clear HB HR2
   go_wp2
   go_region_held3 (fun w' => w'.cell? ⟨w.heap.size, 6, none⟩ = some (.slice A0_6 x.f6.length c0_6)) (first | go_keep | ((repeat' apply And.intro) <;> assumption)) (first | (go_at_call 19; (refine (count_any HL6.out.1 HL6.out.2 (by have h1_ := HLB.out.1; omega) HB'.out HR2'.out).mono ?_); rintro e w2 ⟨v2, rfl, hr2, hb2⟩; have HR3 := Aside0.mk hr2; have HB3 := Aside0.mk hb2; have h62 : w2.cell? ⟨w.heap.size, 6, none⟩ = some (.slice A0_6 x.f6.length c0_6) := (blk_cell (blk_below HBK.out hb2) 6).trans rfl; clear hr2 hb2) | (go_at_call 33; (refine (numbers_came (w0 := w) HG.out.2.2.1.2 (by have h1_ := HG.out.2.2.1.1; omega) HLB.out.2 HB3.out HR3.out (Kd.C_below HR6.out HB0.out) HC6.out).mono ?_); rintro e w3 ⟨v3, rfl, hr3, hb3⟩; have HR4 := Aside0.mk hr3; have HB4 := Aside0.mk hb3; have h63 : w3.cell? ⟨w.heap.size, 6, none⟩ = some (.slice A0_6 x.f6.length c0_6) := (blk_cell (blk_below HBK.out hb3) 6).trans rfl; clear hr3 hb3))
   all_goals
    simp only [Exit.then, Exit.inBlock]
    go_wp2
    go_ret
    exact ⟨_, rfl, body_end1 hfl hfv HR4.out HB0.out.size, below_step HB0.out HB4.out⟩
set_option maxHeartbeats 8000000 in
set_option maxRecDepth 100000 in
theorem body_verts (x : S37) (hg : goodC x) (hfl : fl x.f0 = false) (hfv : fv x.f0 = true) (A0_6 : Option Addr) (c0_6 : Nat) (A0_7 : Option Addr) (c0_7 : Nat) (w : World) (hr0_7 : Kd.C k62 w A0_7 x.f7.length x.f7) (hc0_7 : x.f7.length ≤ c0_7) :
  Calls Try.prog 18 #[.agg #[.int .i64 x.f0, .int .i64 x.f1, .int .i64 x.f2, .int .i64 x.f3, .int .i64 x.f4, .int .i64 x.f5, .slice A0_6 x.f6.length c0_6, .slice A0_7 x.f7.length c0_7]] w fun e w' => ∃ v0_ : Value, e = .returned (v0_) ∧ Kd.R (Kd.int .u8) 5 w' w.heap.size (fun _ => True) v0_ (bodyB x) ∧ Below w.heap.size w w' := by
 have hu37 := Try.underlying37
 have HG := Aside0.mk hg
 have HO := Aside0.mk (fo_le x.f0)
 have HR7 := Aside0.mk hr0_7
 have HC7 := Aside0.mk hc0_7
 clear hg hr0_7 hc0_7
 go_enter Try.func18, Try.ntmps18
 go_wp2_with (first | (go_at_call 32; (refine (fields_any x.f0 HG.out.1 w.heap.size _ _ _ _ _ _ _ _ (blk_new w _)).mono ?_); rintro e w1 ⟨A, rfl, hp, hb, _⟩; have HP := Aside0.mk hp; have HB1 := Aside0.mk hb; clear hp hb))
 have HBK := Aside0.mk (blk_below (blk_new w _) HB1.out)
 have HB0 := Aside0.mk (below_step (below_alloc (Below.refl w.heap.size w) _) HB1.out)
 clear HB1
 go_loopg [3, 18] ((fo x.f0).length + 1) (fun kq v3 v18 w' => ∃ (i : Nat), v18 = .int .i64 i ∧ Aside0 (i + kq = (fo x.f0).length + 1) ∧ Aside0 (Bs w1 w' v3 (numsB (((fo x.f0).take i).map (fld x)))) ∧ Aside0 (Below w1.heap.size w1 w'))
 case atStart => exact ⟨0, rfl, ⟨by omega⟩, ⟨by simpa [numsB] using Kd.R_nil _ _ _ _ _⟩, ⟨Below.refl _ _⟩⟩
 case round =>
  obtain ⟨i, rfl, HI, HR, HB⟩ := hrel
  have h5 : (fo x.f0).length ≤ 5 := HO.out.1
  by_cases hlt : i < (fo x.f0).length
  ·obtain ⟨k1, rfl⟩ : ∃ k1, gk = k1 + 1 := ⟨gk - 1, by have h1_ := HI.out; omega⟩
   obtain ⟨ad, rfl, hp⟩ := ReadsOf.at_ HP.out (i : Int) (by omega) (by omega)
   obtain ⟨o, ho⟩ : ∃ o, o = (fo x.f0)[i] := ⟨_, rfl⟩
   have e0 : rdOf 0 (fo x.f0) (i : Int) = o := by rw [ho]; simp [rdOf, List.getD_eq_getElem?_getD, hlt]
   have hmem : o ∈ fo x.f0 := by rw [ho]; exact List.getElem_mem hlt
   have HT : Aside0 ((fo x.f0).take (i + 1) = (fo x.f0).take i ++ [o]) := ⟨by rw [ho]; exact List.take_succ_eq_append_getElem hlt⟩
   have hor := HO.out.2 o hmem
   rw [e0] at hp
   have hp2 := pw_cell_below HB.out hp
   simp only [Int.toNat_natCast] at hp2
   have hv : wr.cell? ⟨w.heap.size, o, none⟩ = some (.int .i64 (fld x o)) := by
    have hb := blk_cell (blk_below HBK.out HB.out) o
    rw [hb]
    have : o = 1 ∨ o = 2 ∨ o = 3 ∨ o = 4 ∨ o = 5 := by omega
    rcases this with rfl | rfl | rfl | rfl | rfl <;> rfl
   have HIN := Aside0.mk (fld_in HG.out o)
   have HLB : Aside0 ((numsB (((fo x.f0).take i).map (fld x))).length ≤ 1000000) := ⟨by have h1_ := numsB_len (((fo x.f0).take i).map (fld x)); simp only [List.length_map, List.length_take] at h1_; omega⟩
   clear ho e0 hmem hp HP hor
   go_wp2_with (go_at_call 33; refine (numbers_lit [fld x o] _ rfl (fun z hz => by have h_ := List.mem_singleton.1 hz; rw [h_]; exact HIN.out) (by simp) HLB.out HB.out HR.out).mono ?_; rintro e w2 ⟨v2, rfl, hr2, hb2⟩; have HR2 := Aside0.mk hr2; have HB2 := Aside0.mk hb2; clear hr2 hb2)
   go_roundg k1
   case measure => omega
   case rel => exact ⟨i + 1, by go_num, ⟨by have h1_ := HI.out; omega⟩, ⟨by rw [HT.out, List.map_append, numsB_append]; exact HR2.out⟩, HB2⟩
  ·have h7 : wr.cell? ⟨w.heap.size, 7, none⟩ = some (.slice A0_7 x.f7.length c0_7) := (blk_cell (blk_below HBK.out HB.out) 7).trans rfl
   have HI2 : Aside0 (((fo x.f0).take i) = fo x.f0) := ⟨List.take_of_length_le (by have h1_ := HI.out; omega)⟩
   have HR2 : Aside0 (Bs w1 wr u3 (numsB ((fo x.f0).map (fld x)))) := ⟨by have h1_ := HR.out; rw [HI2.out] at h1_; exact h1_⟩
   clear HR HI2
   have h7l : x.f7.length ≤ 1100 := HG.out.2.2.2.1
   have hw7 : IntKind.u64.wrap (x.f7.length : Int) = (x.f7.length : Int) := by rw [wrap_u64]; omega
   have HL7 : Aside0 (0 ≤ (x.f7.length : Int) ∧ (x.f7.length : Int) < 18446744073709551616) := ⟨by omega⟩
   have HLB : Aside0 ((numsB ((fo x.f0).map (fld x))).length ≤ 1000) := ⟨by have h1_ := numsB_len ((fo x.f0).map (fld x)); simp only [List.length_map] at h1_; omega⟩
   go_wp2_with (go_at_call 19; (refine (count_any HL7.out.1 HL7.out.2 (by have h1_ := HLB.out; omega) HB.out HR2.out).mono ?_); rintro e w2 ⟨v2, rfl, hr2, hb2⟩; have HR3 := Aside0.mk hr2; have HB3 := Aside0.mk hb2; have h72 : w2.cell? ⟨w.heap.size, 7, none⟩ = some (.slice A0_7 x.f7.length c0_7) := (blk_cell (blk_below HBK.out hb2) 7).trans rfl; clear hr2 hb2)
   have HZ : Aside0 (numsB ((fo x.f0).map (fld x)) ++ cnB (x.f7.length : Int) = numsB ((fo x.f0).map (fld x)) ++ cnB (x.f7.length : Int) ++ numsB ((x.f7.take 0).flatMap vnums)) := ⟨by simp [numsB]⟩
   obtain ⟨pre, hpre⟩ : ∃ pre, pre = numsB ((fo x.f0).map (fld x)) ++ cnB (x.f7.length : Int) := ⟨_, rfl⟩
   have HPL : Aside0 (pre.length ≤ 2000) := ⟨by have h1_ := cn_len 10 (x.f7.length : Int); have h2_ := HLB.out; rw [hpre]; simp only [List.length_append, cnB]; omega⟩
   have HR5 : Aside0 (Bs w1 w2 v2 (pre ++ numsB ((x.f7.take 0).flatMap vnums))) := ⟨by rw [hpre, ← HZ.out]; exact HR3.out⟩
   have HPRE := Aside0.mk hpre
   have HR7' := Aside0.mk (Kd.C_below HR7.out HB0.out)
   clear hpre HZ HR3 HR2 HB h7 h72 HL7 hw7 HLB HI hlt
   go_loopg [3, 49] (x.f7.length + 1) (fun kq v3 v49 w' => ∃ (j : Nat), v49 = .int .i64 j ∧ Aside0 (j + kq = x.f7.length + 1) ∧ Aside0 (Bs w1 w' v3 (pre ++ numsB ((x.f7.take j).flatMap vnums))) ∧ Aside0 (Below w1.heap.size w1 w'))
   case atStart => exact ⟨0, rfl, ⟨by omega⟩, HR5, HB3⟩
   case round =>
    clear HR5 HB3
    obtain ⟨j, rfl, HJ, HR, HB⟩ := hrel
    by_cases hlt : j < x.f7.length
    ·obtain ⟨k1, rfl⟩ : ∃ k1, gk = k1 + 1 := ⟨gk - 1, by have h1_ := HJ.out; omega⟩
     have p242 : 0 ≤ (j : Int) := by omega
     have q242 : (j : Int) < x.f7.length := by omega
     obtain ⟨ad242, e242, hx242_0, hx242_1, hx242_2, hx242_3, hx242_4, hx242_5, hx242_6, hx242_7, hx242_8⟩ := at_T62 HR7'.out j p242 q242
     cases e242
     replace hx242_0 := pw_cell_below HB.out hx242_0
     replace hx242_1 := pw_cell_below HB.out hx242_1
     replace hx242_2 := pw_cell_below HB.out hx242_2
     replace hx242_3 := pw_cell_below HB.out hx242_3
     replace hx242_4 := pw_cell_below HB.out hx242_4
     replace hx242_5 := pw_cell_below HB.out hx242_5
     replace hx242_6 := pw_cell_below HB.out hx242_6
     replace hx242_7 := pw_cell_below HB.out hx242_7
     replace hx242_8 := pw_cell_below HB.out hx242_8
     obtain ⟨y, hy⟩ : ∃ y, y = x.f7[j] := ⟨_, rfl⟩
     have e0 : rd_T62 x.f7 (j : Int) = y := by rw [hy]; simp [rd_T62, List.getD_eq_getElem?_getD, hlt]
     have HT : Aside0 (x.f7.take (j + 1) = x.f7.take j ++ [y]) := ⟨by rw [hy]; exact List.take_succ_eq_append_getElem hlt⟩
     have HIN : Aside0 (∀ n ∈ vnums y, inI n) := ⟨HG.out.2.2.2.2 y (by rw [hy]; exact List.getElem_mem hlt)⟩
     rw [e0] at hx242_0 hx242_1 hx242_2 hx242_3 hx242_4 hx242_5 hx242_6 hx242_7 hx242_8
     clear e0 hy
     simp only [Int.toNat_natCast] at hx242_0 hx242_1 hx242_2 hx242_3 hx242_4 hx242_5 hx242_6 hx242_7 hx242_8
     have HLB : Aside0 ((pre ++ numsB ((x.f7.take j).flatMap vnums)).length ≤ 1000000) := ⟨by
      have h1_ := numsB_len ((x.f7.take j).flatMap vnums)
      have h2_ : ((x.f7.take j).flatMap vnums).length = (x.f7.take j).length * 9 := len_vnums _
      have h3_ := HPL.out
      simp only [List.length_take] at h2_
      simp only [List.length_append]; omega⟩
     have hu60 := Try.underlying60
     have hu62 := Try.underlying62
     go_wp2_with (go_at_call 33; refine (numbers_lit2 (vnums y) _ (wr.heap.size + 1) (by simp) rfl HIN.out (by simp [vnums]) HLB.out (below_alloc HB.out _) (Kd.R_alloc HR.out _)).mono ?_; rintro e w4 ⟨v4, rfl, hr4, hb4⟩; have HR4 := Aside0.mk hr4; have HB4 := Aside0.mk hb4; clear hr4 hb4)
     go_roundg k1
     case measure => omega
     case rel => exact ⟨j + 1, by go_num, ⟨by have h1_ := HJ.out; omega⟩, ⟨by rw [HT.out, List.flatMap_append, numsB_append, ← List.append_assoc]; simpa using HR4.out⟩, HB4⟩
    ·have HJ2 : Aside0 (x.f7.take j = x.f7) := ⟨List.take_of_length_le (by omega)⟩
     go_wp2
     go_ret
     exact ⟨_, rfl, body_end2 hfl hfv (by have h1_ := HR.out; rw [HJ2.out, HPRE.out] at h1_; exact h1_) HB0.out.size, below_step HB0.out HB.out⟩
theorem code_body.calls (a0_0 : Int) (a0_1 : Int) (a0_2 : Int) (a0_3 : Int) (a0_4 : Int) (a0_5 : Int) (A0_6 : Option Addr) (c0_6 : Nat) (l0_6 : List Int) (A0_7 : Option Addr) (c0_7 : Nat) (l0_7 : List (S62)) (r : List Int) (w : World) (hr0_6 : Kd.C (Kd.int .i64) w A0_6 l0_6.length l0_6) (hc0_6 : l0_6.length ≤ c0_6) (hr0_7 : Kd.C k62 w A0_7 l0_7.length l0_7) (hc0_7 : l0_7.length ≤ c0_7) (h : code_body.f a0_0 a0_1 a0_2 a0_3 a0_4 a0_5 l0_6 l0_7 = some r) :
  Calls Try.prog 18 #[.agg #[.int .i64 a0_0, .int .i64 a0_1, .int .i64 a0_2, .int .i64 a0_3, .int .i64 a0_4, .int .i64 a0_5, .slice A0_6 l0_6.length c0_6, .slice A0_7 l0_7.length c0_7]] w fun e w' => ∃ v0_ : Value, e = .returned (v0_) ∧ Kd.R (Kd.int .u8) 5 w' w.heap.size (fun _ => True) v0_ r ∧ Below w.heap.size w w' := by
 unfold code_body.f at h
 split at h
 ·rename_i hg
  obtain rfl := Option.some.inj h
  cases hfl : fl a0_0 with
  | false =>
   cases hfv : fv a0_0 with
   | false => exact body_none ⟨a0_0, a0_1, a0_2, a0_3, a0_4, a0_5, l0_6, l0_7⟩ hg hfl hfv A0_6 c0_6 A0_7 c0_7 w
   | true => exact body_verts ⟨a0_0, a0_1, a0_2, a0_3, a0_4, a0_5, l0_6, l0_7⟩ hg hfl hfv A0_6 c0_6 A0_7 c0_7 w hr0_7 hc0_7
  | true =>
   have hfv : fv a0_0 = false := by
    unfold fl at hfl
    unfold fv
    have := of_decide_eq_true hfl
    exact decide_eq_false (by omega)
   exact body_list ⟨a0_0, a0_1, a0_2, a0_3, a0_4, a0_5, l0_6, l0_7⟩ hg hfl hfv A0_6 c0_6 A0_7 c0_7 w hr0_6 hc0_6
 ·exact absurd h (by simp)
end Go.Proofs.Ytpgjkndijdleeaa.PCode
end
section
namespace Go.Proofs.Ytpgjkndijdleeaa.PCode
open Go.RowKit Go.Proofs.YtpgjkndijdleeaaW.PrintWords Go.Proofs.YtpgjkndijdleeaaW.PrintLast Go.Proofs.YtpgjkndijdleeaaW.PrintMore
set_option linter.unusedVariables false
set_option linter.unusedSimpArgs false
theorem or_rng (a b : Int) : 0 ≤ Go.bits .or .u64 a b ∧ Go.bits .or .u64 a b < 18446744073709551616 := by
 have h : ∀ n : Int, 0 ≤ IntKind.u64.wrap n ∧ IntKind.u64.wrap n < 18446744073709551616 := fun n => by rw [wrap_u64]; omega
 exact h _
theorem rcl_rng : ∀ (k : Nat) (i u : Int) (l : List Int), 0 ≤ (rcl k i u l).1 ∧ (rcl k i u l).1 < 18446744073709551616
 | 0, _, _, _ => by simp [rcl]
 | k + 1, _, _, [] => by simp [rcl]
 | k + 1, i, u, x :: l => by
  unfold rcl
  split
  ·simp
  ·split
   ·dsimp only; exact or_rng _ _
   ·exact rcl_rng k _ _ l
/-- A number that is read, or nothing where there is an error. -/
def rnum (l : List Int) (e : Int) : Int × List Int × Int := if e = 0 then (zig (rcl 10 0 0 l).1, (rcl 10 0 0 l).2.1, (rcl 10 0 0 l).2.2) else (0, l, e)
/-- How many there are of a list's. -/
def rlist (most : Int) (l : List Int) (e : Int) : Int × List Int × Int := if e = 0 then (if (rcl 10 0 0 l).2.2 = 0 then (if most < (rcl 10 0 0 l).1 then (0, (rcl 10 0 0 l).2.1, 4) else ((rcl 10 0 0 l).1, (rcl 10 0 0 l).2.1, 0)) else (0, (rcl 10 0 0 l).2.1, (rcl 10 0 0 l).2.2)) else (0, l, e)
theorem zig_zero : Go.bits .xor .i64 0 (wrap64 (-wrap64 (Go.bits .and .u64 0 1))) = 0 := by decide +kernel
set_option maxHeartbeats 8000000 in
set_option maxRecDepth 100000 in
theorem number_any (g : Nat) (l : List Int) (e : Int) (w0 w : World) (hg : w0.heap.size ≤ g) (hB : Below w0.heap.size w0 w) (hI : Rd w0 w g l e) :
  Calls Try.prog 34 #[.pointer (some ⟨g, 0, none⟩)] w fun en w' => en = .returned (.int .i64 (rnum l e).1) ∧ Rd w0 w' g (rnum l e).2.1 (rnum l e).2.2 ∧ KeepBut w w' g none ∧ Below w0.heap.size w0 w' := by
 by_cases he : e = 0
 ·subst he
  simp only [rnum, if_true]
  exact number_ok g l _ _ _ rfl w0 w hg hB hI
 ·simp only [rnum, if_neg he]
  have HB := Aside0.mk hB
  have HI := Aside0.mk hI
  have HE := Aside0.mk he
  clear hB hI he
  have HZ := Aside0.mk zig_zero
  obtain ⟨A, c, HG, hlc, hC, hby⟩ := HI.out
  have HG' := Aside0.mk HG
  clear HG hlc hC hby
  go_enter Try.func34, Try.ntmps34
  go_wp2_with (first | (go_at_call 20; (refine (count_err g _ e HE.out _ HG'.out).mono ?_); rintro en w1 ⟨rfl, rfl⟩))
  go_ret
  exact ⟨congrArg (fun z => Ending.returned (.int .i64 z)) HZ.out, HI.out, KeepBut.refl _ _ _, HB.out⟩
set_option maxHeartbeats 8000000 in
set_option maxRecDepth 100000 in
theorem list_any (g : Nat) (most : Int) (hm : 0 ≤ most ∧ most ≤ 10000) (l : List Int) (e : Int) (w0 w : World) (hg : w0.heap.size ≤ g) (hB : Below w0.heap.size w0 w) (hI : Rd w0 w g l e) :
  Calls Try.prog 35 #[.pointer (some ⟨g, 0, none⟩), .int .i64 most] w fun en w' => en = .returned (.int .i64 (rlist most l e).1) ∧ Rd w0 w' g (rlist most l e).2.1 (rlist most l e).2.2 ∧ KeepBut w w' g none ∧ Below w0.heap.size w0 w' := by
 have HB := Aside0.mk hB
 have HI := Aside0.mk hI
 have HGE := Aside0.mk hg
 clear hB hI hg
 obtain ⟨A, c, HG, hlc, hC, hby⟩ := HI.out
 have HG' := Aside0.mk HG
 clear HG hlc hC hby
 have hwm : IntKind.u64.wrap most = most := by rw [wrap_u64]; omega
 by_cases he : e = 0
 ·subst he
  obtain ⟨u, l', e', hr⟩ : ∃ u l' e', rcl 10 0 0 l = (u, l', e') := ⟨_, _, _, rfl⟩
  have HRN : Aside0 (0 ≤ u ∧ u < 18446744073709551616) := ⟨by have h1_ := rcl_rng 10 0 0 l; rw [hr] at h1_; exact h1_⟩
  have HR := Aside0.mk hr
  by_cases he' : e' = 0
  ·subst he'
   by_cases hu : most < u
   ·have HV : Aside0 (rlist most l 0 = (0, l', 4)) := ⟨by simp only [rlist, hr, if_true, if_pos hu]⟩
    rw [HV.out]
    have cu : decide (most < u) = true := decide_eq_true hu
    clear hr hu HV
    go_enter Try.func35, Try.ntmps35
    go_wp2_with (first | (go_at_call 20; (refine (count_ok g l _ HR.out w0 _ HGE.out HB.out HI.out).mono ?_); rintro en w1 ⟨rfl, h1, h2, h3⟩; obtain ⟨A1, c1, HG1, hlc1, hC1, hby1⟩ := h1; have HG1' := Aside0.mk HG1; have H1 := Aside0.mk (And.intro hlc1 (And.intro hC1 hby1)); have H2 := Aside0.mk h2; have H3 := Aside0.mk h3; have hc1 : w1.cell? ⟨g, 1, none⟩ = some (.int .i64 0) := (blk_cell HG1 1).trans rfl; clear HG1 hlc1 hC1 hby1 h2 h3) | (go_at_call 21; (refine (fail_calls g _ 4 _ HG1'.out).mono ?_); rintro en w2 ⟨rfl, rfl⟩; have HG2 := Aside0.mk (show (w1.setCell ⟨g, 1, none⟩ (.int .i64 4)).heap[g]? = some (.cells #[.slice A1 l'.length c1, .int .i64 4] 54 (0, 0)) from blk_put HG1'.out 1 _ rfl); have z1 := blk_frozen HG1'.out 1))
    go_ret
    exact ⟨rfl, ⟨A1, c1, HG2.out, H1.out.1, H1.out.2.1, H1.out.2.2⟩, H2.out.set_ _ _, below_set H3.out HGE.out⟩
   ·have HV : Aside0 (rlist most l 0 = (u, l', 0)) := ⟨by simp only [rlist, hr, if_true, if_neg hu]⟩
    rw [HV.out]
    have cu : decide (most < u) = false := decide_eq_false hu
    have CW : Aside0 (wrap64 u = u) := ⟨by have h1_ := HRN.out; unfold wrap64; omega⟩
    clear hr hu HV
    go_enter Try.func35, Try.ntmps35
    go_wp2_with (first | (go_at_call 20; (refine (count_ok g l _ HR.out w0 _ HGE.out HB.out HI.out).mono ?_); rintro en w1 ⟨rfl, h1, h2, h3⟩; obtain ⟨A1, c1, HG1, hlc1, hC1, hby1⟩ := h1; have HG1' := Aside0.mk HG1; have H1 := Aside0.mk (And.intro hlc1 (And.intro hC1 hby1)); have H2 := Aside0.mk h2; have H3 := Aside0.mk h3; have hc1 : w1.cell? ⟨g, 1, none⟩ = some (.int .i64 0) := (blk_cell HG1 1).trans rfl; clear HG1 hlc1 hC1 hby1 h2 h3))
    go_ret
    exact ⟨congrArg (fun z => Ending.returned (.int .i64 z)) CW.out, ⟨A1, c1, HG1'.out, H1.out.1, H1.out.2.1, H1.out.2.2⟩, H2.out, H3.out⟩
  ·have HV : Aside0 (rlist most l 0 = (0, l', e')) := ⟨by simp only [rlist, hr, if_true, if_neg he']⟩
   rw [HV.out]
   have ce : (e' == 0) = false := by simpa using he'
   have ce2 : (e' != 0) = true := by simpa using he'
   clear hr he' HV
   go_enter Try.func35, Try.ntmps35
   go_wp2_with (first | (go_at_call 20; (refine (count_ok g l _ HR.out w0 _ HGE.out HB.out HI.out).mono ?_); rintro en w1 ⟨rfl, h1, h2, h3⟩; obtain ⟨A1, c1, HG1, hlc1, hC1, hby1⟩ := h1; have HG1' := Aside0.mk HG1; have H1 := Aside0.mk (And.intro hlc1 (And.intro hC1 hby1)); have H2 := Aside0.mk h2; have H3 := Aside0.mk h3; have hc1 : w1.cell? ⟨g, 1, none⟩ = some (.int .i64 e') := (blk_cell HG1 1).trans rfl; clear HG1 hlc1 hC1 hby1 h2 h3))
   go_ret
   exact ⟨rfl, ⟨A1, c1, HG1'.out, H1.out.1, H1.out.2.1, H1.out.2.2⟩, H2.out, H3.out⟩
 ·have HV : Aside0 (rlist most l e = (0, l, e)) := ⟨by simp only [rlist, if_neg he]⟩
  rw [HV.out]
  have HE := Aside0.mk he
  have ce : (e == 0) = false := by simpa using he
  have ce2 : (e != 0) = true := by simpa using he
  have hc1 : w.cell? ⟨g, 1, none⟩ = some (.int .i64 e) := (blk_cell HG'.out 1).trans rfl
  clear he HV
  go_enter Try.func35, Try.ntmps35
  go_wp2_with (first | (go_at_call 20; (refine (count_err g _ e HE.out _ HG'.out).mono ?_); rintro en w1 ⟨rfl, rfl⟩))
  go_ret
  exact ⟨rfl, HI.out, KeepBut.refl _ _ _, HB.out⟩
end Go.Proofs.Ytpgjkndijdleeaa.PCode
end
section
namespace Go.Proofs.Ytpgjkndijdleeaa.PCode
open Go.RowKit Go.Proofs.YtpgjkndijdleeaaW.PrintWords Go.Proofs.YtpgjkndijdleeaaW.PrintLast Go.Proofs.YtpgjkndijdleeaaW.PrintMore
set_option linter.unusedVariables false
set_option linter.unusedSimpArgs false
def setf (x : S37) (o : Nat) (n : Int) : S37 := if o = 1 then { x with f1 := n } else if o = 2 then { x with f2 := n } else if o = 3 then { x with f3 := n } else if o = 4 then { x with f4 := n } else { x with f5 := n }
def rflds : List Nat → S37 → List Int → Int → S37 × List Int × Int
 | [], x, l, e => (x, l, e)
 | o :: os, x, l, e => rflds os (setf x o (rnum l e).1) (rnum l e).2.1 (rnum l e).2.2
def rmany : Nat → List Int → List Int → Int → List Int × List Int × Int
 | 0, acc, l, e => (acc, l, e)
 | n + 1, acc, l, e => if e = 0 then rmany n (acc ++ [(rnum l e).1]) (rnum l e).2.1 (rnum l e).2.2 else (acc, l, e)
/-- A vertex's numbers, so many of them. -/
def rvs : Nat → List Int → List Int → Int → List Int × List Int × Int
 | 0, acc, l, e => (acc, l, e)
 | n + 1, acc, l, e => rvs n (acc ++ [(rnum l e).1]) (rnum l e).2.1 (rnum l e).2.2
def vmk (l : List Int) : S62 := ⟨l.getD 0 0, l.getD 1 0, l.getD 2 0, ⟨l.getD 3 0, l.getD 4 0, l.getD 5 0, l.getD 6 0⟩, l.getD 7 0, l.getD 8 0⟩
def rverts : Nat → List S62 → List Int → Int → List S62 × List Int × Int
 | 0, acc, l, e => (acc, l, e)
 | n + 1, acc, l, e => if e = 0 then rverts n (acc ++ [vmk (rvs 9 [] l e).1]) (rvs 9 [] l e).2.1 (rvs 9 [] l e).2.2 else (acc, l, e)
def fin (l : List Int) (e : Int) : Int := if e = 0 ∧ l ≠ [] then 6 else e
def zc (op : Int) : S37 := ⟨op, 0, 0, 0, 0, 0, [], []⟩
def itm (x : S37) (e : Int) : S37 × Int := if e = 0 then (x, 0) else if e = 5 then (zc 0, 6) else (zc 0, e)
def rdF (op : Int) (l : List Int) : S37 × List Int × Int := rflds (fo op) (zc op) l 0
def rdL (t : S37 × List Int × Int) : S37 × List Int × Int :=
 let n := rlist 4096 t.2.1 t.2.2
 let m := rmany n.1.toNat [] n.2.1 n.2.2
 ({ t.1 with f6 := m.1 }, m.2.1, m.2.2)
def rdV (t : S37 × List Int × Int) : S37 × List Int × Int :=
 let n := rlist 1024 t.2.1 t.2.2
 let m := rverts n.1.toNat [] n.2.1 n.2.2
 ({ t.1 with f7 := m.1 }, m.2.1, m.2.2)
def rdA (op : Int) (l : List Int) : S37 × List Int × Int := if fl op = true then rdL (rdF op l) else if fv op = true then rdV (rdF op l) else rdF op l
/-- What a body is read as. -/
def cmdR (op : Int) (l : List Int) : S37 × Int := itm (rdA op l).1 (fin (rdA op l).2.1 (rdA op l).2.2)
/-- command's memory: the item's block, the reader's, the command's. -/
structure CS (w W : World) (g4 gr g6 : Nat) (x : S37) (v6 v7 : Value) (l : List Int) (e : Int) : Prop where
 b4 : W.heap[g4]? = some (.cells #[.int .i64 0, .int .i64 0, .int .i64 0, .int .i64 0, .int .i64 0, .int .i64 0, .slice none 0 0, .slice none 0 0, .int .i64 0] 39 (0, 0))
 rd : Rd w W gr l e
 b6 : W.heap[g6]? = some (.cells #[.int .i64 x.f0, .int .i64 x.f1, .int .i64 x.f2, .int .i64 x.f3, .int .i64 x.f4, .int .i64 x.f5, v6, v7] 37 (0, 0))
 bel : Below w.heap.size w W
 z4 : w.heap.size ≤ g4
 zr : w.heap.size ≤ gr
 z6 : w.heap.size ≤ g6
section
variable {w W W' : World} {g4 gr g6 : Nat} {x : S37} {v6 v7 : Value} {l l' : List Int} {e e' : Int}
theorem Rd.blk (h : Rd w W gr l e) : ∃ A c, W.heap[gr]? = some (.cells #[.slice A l.length c, .int .i64 e] 54 (0, 0)) := by
 obtain ⟨A, c, h, _⟩ := h
 exact ⟨A, c, h⟩
theorem Rd.move (h : Rd w W gr l e) (hm : W'.heap[gr]? = W.heap[gr]?) : Rd w W' gr l e := by
 obtain ⟨A, c, h, r⟩ := h
 exact ⟨A, c, hm.trans h, r⟩
theorem CS.n4 (h : CS w W g4 gr g6 x v6 v7 l e) : g4 ≠ gr := by
 obtain ⟨A, c, hb⟩ := h.rd.blk
 exact blk_ne h.b4 hb (by decide)
theorem CS.n6 (h : CS w W g4 gr g6 x v6 v7 l e) : g6 ≠ gr := by
 obtain ⟨A, c, hb⟩ := h.rd.blk
 exact blk_ne h.b6 hb (by decide)
theorem CS.n46 (h : CS w W g4 gr g6 x v6 v7 l e) : g4 ≠ g6 := blk_ne h.b4 h.b6 (by decide)
/-- A call of the reader's. -/
theorem CS.call (h : CS w W g4 gr g6 x v6 v7 l e) (hr : Rd w W' gr l' e') (hk : KeepBut W W' gr none) (hb : Below w.heap.size w W') : CS w W' g4 gr g6 x v6 v7 l' e' :=
 ⟨hk.blk h.b4 h.n4 (by simp), hr, hk.blk h.b6 h.n6 (by simp), hb, h.z4, h.zr, h.z6⟩
/-- What grows by other blocks. -/
theorem CS.below (h : CS w W g4 gr g6 x v6 v7 l e) (hb : Below W.heap.size W W') : CS w W' g4 gr g6 x v6 v7 l e := by
 obtain ⟨A, c, hr⟩ := h.rd.blk
 exact ⟨blk_below h.b4 hb, h.rd.move (hb.block gr (blk_lt hr)), blk_below h.b6 hb, below_step h.bel hb, h.z4, h.zr, h.z6⟩
theorem CS.alloc (h : CS w W g4 gr g6 x v6 v7 l e) (o : Obj) : CS w (W.alloc o) g4 gr g6 x v6 v7 l e := h.below (below_alloc (Below.refl _ _) o)
theorem CS.drew (h : CS w W g4 gr g6 x v6 v7 l e) : CS w W.drew g4 gr g6 x v6 v7 l e := h.below (below_drew (Below.refl _ _))
theorem CS.grown (h : CS w W g4 gr g6 x v6 v7 l e) {row : Option Nat} (hg : W.grownBy W' row) (h4 : some g4 ≠ row) (hr : some gr ≠ row) (h6 : some g6 ≠ row) (hb : Below w.heap.size w W') : CS w W' g4 gr g6 x v6 v7 l e := by
 obtain ⟨A, c, hR⟩ := h.rd.blk
 exact ⟨blk_grown h.b4 hg h4, h.rd.move (hg.block gr (blk_lt hR) hr), blk_grown h.b6 hg h6, hb, h.z4, h.zr, h.z6⟩
/-- A store into a field. -/
theorem CS.put (h : CS w W g4 gr g6 x v6 v7 l e) (o : Nat) (ho : 1 ≤ o ∧ o ≤ 5) (n : Int) : CS w (W.setCell ⟨g6, o, none⟩ (.int .i64 n)) g4 gr g6 (setf x o n) v6 v7 l e := by
 refine ⟨blk_far h.b4 h.n46 _, h.rd.move (Below.heap_setCell W ⟨g6, o, none⟩ _ gr (fun q => h.n6 q.symm)), ?_, below_set h.bel h.z6, h.z4, h.zr, h.z6⟩
 have hk : o = 1 ∨ o = 2 ∨ o = 3 ∨ o = 4 ∨ o = 5 := by omega
 rcases hk with rfl | rfl | rfl | rfl | rfl
 ·exact blk_put h.b6 1 _ rfl
 ·exact blk_put h.b6 2 _ rfl
 ·exact blk_put h.b6 3 _ rfl
 ·exact blk_put h.b6 4 _ rfl
 ·exact blk_put h.b6 5 _ rfl
theorem CS.put6 (h : CS w W g4 gr g6 x v6 v7 l e) (v : Value) : CS w (W.setCell ⟨g6, 6, none⟩ v) g4 gr g6 x v v7 l e :=
 ⟨blk_far h.b4 h.n46 _, h.rd.move (Below.heap_setCell W ⟨g6, 6, none⟩ _ gr (fun q => h.n6 q.symm)), blk_put h.b6 6 _ rfl, below_set h.bel h.z6, h.z4, h.zr, h.z6⟩
theorem CS.put7 (h : CS w W g4 gr g6 x v6 v7 l e) (v : Value) : CS w (W.setCell ⟨g6, 7, none⟩ v) g4 gr g6 x v6 v l e :=
 ⟨blk_far h.b4 h.n46 _, h.rd.move (Below.heap_setCell W ⟨g6, 7, none⟩ _ gr (fun q => h.n6 q.symm)), blk_put h.b6 7 _ rfl, below_set h.bel h.z6, h.z4, h.zr, h.z6⟩
theorem CS.cellf (h : CS w W g4 gr g6 x v6 v7 l e) (o : Nat) (ho : 1 ≤ o ∧ o ≤ 5) : W.cell? ⟨g6, o, none⟩ = some (.int .i64 (fld x o)) := by
 rw [blk_cell h.b6 o]
 have hk : o = 1 ∨ o = 2 ∨ o = 3 ∨ o = 4 ∨ o = 5 := by omega
 rcases hk with rfl | rfl | rfl | rfl | rfl <;> rfl
end
theorem setf_op (x : S37) (o : Nat) (n : Int) : (setf x o n).f0 = x.f0 := by
 unfold setf
 repeat' split
 all_goals rfl
theorem setf_ls (x : S37) (o : Nat) (n : Int) : (setf x o n).f6 = x.f6 ∧ (setf x o n).f7 = x.f7 := by
 unfold setf
 repeat' split
 all_goals exact ⟨rfl, rfl⟩
/-- fail, whatever the error is. -/
theorem fail_any (g : Nat) (l : List Int) (e x : Int) (w0 w : World) (hg : w0.heap.size ≤ g) (hB : Below w0.heap.size w0 w) (hI : Rd w0 w g l e) :
  Calls Try.prog 21 #[.pointer (some ⟨g, 0, none⟩), .int .i64 x] w fun en w' => en = .returned (.tuple #[]) ∧ Rd w0 w' g l (if e = 0 then x else e) ∧ KeepBut w w' g none ∧ Below w0.heap.size w0 w' := by
 obtain ⟨A, c, HG, hlc, hC, hby⟩ := hI
 by_cases he : e = 0
 ·subst he
  refine (fail_calls g _ x w HG).mono ?_
  rintro en w' ⟨rfl, rfl⟩
  exact ⟨rfl, ⟨A, c, blk_put HG 1 _ rfl, hlc, hC, hby⟩, (KeepBut.refl _ _ _).set_ _ _, below_set hB hg⟩
 ·rw [if_neg he]
  have HH := Aside0.mk (And.intro hlc (And.intro hC hby))
  have HG' := Aside0.mk HG
  have HB := Aside0.mk hB
  have h1 : w.cell? ⟨g, 1, none⟩ = some (.int .i64 e) := (blk_cell HG 1).trans rfl
  have ce : (e == 0) = false := by simpa using he
  clear he HG hlc hC hby hB
  go_enter Try.func21, Try.ntmps21
  go_wp2
  first | go_end0 | ((try simp only [Exit.inBlock, Exit.then]); refine bodyPost_ret (results_none rfl _ _ _) rfl ?_)
  exact ⟨rfl, ⟨A, c, HG'.out, HH.out.1, HH.out.2.1, HH.out.2.2⟩, KeepBut.refl _ _ _, HB.out⟩
end Go.Proofs.Ytpgjkndijdleeaa.PCode
end
section
namespace Go.Proofs.Ytpgjkndijdleeaa.PCode
open Go.RowKit Go.Proofs.YtpgjkndijdleeaaW.PrintWords Go.Proofs.YtpgjkndijdleeaaW.PrintLast Go.Proofs.YtpgjkndijdleeaaW.PrintMore
attribute [local go_sem] max2_int min2_int max_two min_two max_three min_three max_four min_four   -- for this text's walks alone
set_option linter.unusedVariables false
set_option linter.unusedSimpArgs false
attribute [local go_sem] alloc_drewN setCell_drewN
theorem blk_new3 (w : World) (o o1 o2 : Obj) : (((w.alloc o).alloc o1).alloc o2).heap[w.heap.size + 1 + 1]? = some o2 := by
 have h := blk_new2 (w.alloc o) o1 o2
 simpa using h
theorem clone_facts {α : Type} {kd : Kd α} {e : Nat} {w W w1 : World} {v : Value} {l : List α} {cobj zobj oobj : Obj} (hb : Below W.heap.size W w1) (hR : kd.R e w1 W.heap.size (fun _ => True) v l) (hc : W.heap[w.heap.size]? = some cobj) (hz : W.heap[w.heap.size + 1]? = some zobj) (ho : W.heap[w.heap.size + 1 + 1]? = some oobj) (hB : Below w.heap.size w W) :
  w1.heap[w.heap.size]? = some cobj ∧ w1.heap[w.heap.size + 1]? = some zobj ∧ w1.heap[w.heap.size + 1 + 1]? = some oobj ∧ Below w.heap.size w w1 ∧ kd.R e w1 w.heap.size (fun k => w.heap.size + 1 + 1 < k) v l ∧ w.heap.size + 1 + 1 < w1.heap.size := by
 have h2 : w.heap.size + 1 + 1 < W.heap.size := blk_lt ho
 have ho1 := blk_below ho hb
 exact ⟨blk_below hc hb, blk_below hz hb, ho1, below_step hB hb, Kd.R_lower (Kd.R_mono (Kd.R_bound hR) (fun k hk => Nat.lt_of_lt_of_le h2 hk.2.1)) (by omega), blk_lt ho1⟩
set_option maxHeartbeats 8000000 in
set_option maxRecDepth 100000 in
theorem own_none (op h a b c d : Int) (A6 : Option Addr) (c6 : Nat) (l6 : List Int) (A7 : Option Addr) (c7 : Nat) (l7 : List S62) (w : World) (hop : op < 1 ∨ 19 < op) :
  Calls Try.prog 17 #[.agg #[.int .i64 op, .int .i64 h, .int .i64 a, .int .i64 b, .int .i64 c, .int .i64 d, .slice A6 l6.length c6, .slice A7 l7.length c7]] w fun e w' => e = .returned (.agg #[.int .i64 0, .int .i64 0, .int .i64 0, .int .i64 0, .int .i64 0, .int .i64 0, .slice none 0 0, .slice none 0 0]) ∧ Below w.heap.size w w' := by
 have hu37 := Try.underlying37
 have e1 : (op == 1) = false := beq_eq_false_iff_ne.mpr (by omega)
 have e2 : (op == 2) = false := beq_eq_false_iff_ne.mpr (by omega)
 have e3 : (op == 3) = false := beq_eq_false_iff_ne.mpr (by omega)
 have e4 : (op == 4) = false := beq_eq_false_iff_ne.mpr (by omega)
 have e5 : (op == 5) = false := beq_eq_false_iff_ne.mpr (by omega)
 have e6 : (op == 6) = false := beq_eq_false_iff_ne.mpr (by omega)
 have e7 : (op == 7) = false := beq_eq_false_iff_ne.mpr (by omega)
 have e8 : (op == 8) = false := beq_eq_false_iff_ne.mpr (by omega)
 have e9 : (op == 9) = false := beq_eq_false_iff_ne.mpr (by omega)
 have e10 : (op == 10) = false := beq_eq_false_iff_ne.mpr (by omega)
 have e11 : (op == 11) = false := beq_eq_false_iff_ne.mpr (by omega)
 have e12 : (op == 12) = false := beq_eq_false_iff_ne.mpr (by omega)
 have e13 : (op == 13) = false := beq_eq_false_iff_ne.mpr (by omega)
 have e14 : (op == 14) = false := beq_eq_false_iff_ne.mpr (by omega)
 have e15 : (op == 15) = false := beq_eq_false_iff_ne.mpr (by omega)
 have e16 : (op == 16) = false := beq_eq_false_iff_ne.mpr (by omega)
 have e17 : (op == 17) = false := beq_eq_false_iff_ne.mpr (by omega)
 have e18 : (op == 18) = false := beq_eq_false_iff_ne.mpr (by omega)
 have e19 : (op == 19) = false := beq_eq_false_iff_ne.mpr (by omega)
 clear hop
 go_enter Try.func17, Try.ntmps17
 go_wp2
 all_goals (refine bodyPost_ret (results_cell_row rfl _ _ (w.heap.size + 1) 37 #[.int .i64 0, .int .i64 0, .int .i64 0, .int .i64 0, .int .i64 0, .int .i64 0, .slice none 0 0, .slice none 0 0] (0, 0) _ rfl ?_ Try.underlying37 rfl (by kernel_rfl)) rfl ?_)
 ·repeat (first | (with_reducible exact blk_new2 _ _ _) | (with_reducible refine blk_drewN ?_ _) | (with_reducible refine blk_drew ?_) | (with_reducible refine ret8 ?_) | (with_reducible refine blk_far ?_ (by show w.heap.size + 1 ≠ w.heap.size + 1 + 1; omega) _) | (with_reducible refine blk_alloc ?_ _))
 ·exact ⟨rfl, by repeat (first | (with_reducible exact Below.refl _ _) | (with_reducible refine below8 ?_ (Nat.le_succ _)) | (with_reducible apply below_alloc) | (with_reducible apply pw_below_drewN) | (with_reducible apply below_drew1) | (with_reducible refine below_set ?_ (by omega)))⟩
set_option maxHeartbeats 8000000 in
set_option maxRecDepth 100000 in
theorem own_1 (h a b c d : Int) (A6 : Option Addr) (c6 : Nat) (l6 : List Int) (A7 : Option Addr) (c7 : Nat) (l7 : List S62) (w : World) (hr6 : Kd.C (Kd.int .i64) w A6 l6.length l6) (hc6 : l6.length ≤ c6) (hr7 : Kd.C k62 w A7 l7.length l7) (hc7 : l7.length ≤ c7) (hl6 : l6.length ≤ 5000) (hl7 : l7.length ≤ 1100) :
  Calls Try.prog 17 #[.agg #[.int .i64 1, .int .i64 h, .int .i64 a, .int .i64 b, .int .i64 c, .int .i64 d, .slice A6 l6.length c6, .slice A7 l7.length c7]] w fun e w' => ∃ v6 v7, e = .returned (.agg #[.int .i64 1, .int .i64 h, .int .i64 0, .int .i64 0, .int .i64 0, .int .i64 0, v6, v7]) ∧ Kd.R (Kd.int .i64) 3 w' w.heap.size (fun _ => True) v6 [] ∧ Kd.R k62 62 w' w.heap.size (fun _ => True) v7 l7 ∧ Below w.heap.size w w' := by
 have hu37 := Try.underlying37
 have H6 := Aside0.mk hr6
 have C6 := Aside0.mk hc6
 have H7 := Aside0.mk hr7
 have C7 := Aside0.mk hc7
 have R6 : Aside0 (slices_Clone_int_int.f l6 = some l6) := Aside0.mk (by have hx : l6.length < 17592186044416 := (by omega); simp [slices_Clone_int_int.f, hx])
 have R7 : Aside0 (api_Vertex.f l7 = some l7) := Aside0.mk (by have hx : l7.length < 1954687338268 := (by omega); simp [api_Vertex.f, hx])
 clear hr6 hc6 hr7 hc7 hl6 hl7
 have hdn : w.heap.size + 1 + 1 ≠ w.heap.size := by omega
 go_enter Try.func17, Try.ntmps17
 go_wp2
 go_region_held3 (fun w' => w'.cell? ⟨w.heap.size, 1, none⟩ = some (.int .i64 h) ∧ w'.cell? ⟨w.heap.size, 7, none⟩ = some (.slice A7 l7.length c7)) (first | go_keep | ((repeat' apply And.intro) <;> (first | assumption | (rw [World.cell?_setCell_far _ _ _ _ hdn]; assumption) | (rw [World.cell?_setCell_far _ _ _ _ hdn, World.cell?_setCell_far _ _ _ _ hdn]; assumption)))) (first | (go_at_call 30; ((with_reducible refine (api_Vertex.calls _ _ l7 l7 _ (by repeat (first | (with_reducible exact H7.out) | (with_reducible refine Kd.C_alloc ?_ _) | (with_reducible refine Kd.C_drewN ?_ _) | (with_reducible refine Kd.C_drew ?_))) C7.out R7.out).mono ?_); rintro e w1 ⟨v, rfl, hR, hb⟩; obtain ⟨Av, cv, rfl⟩ := Kd.R_slice hR; have CF := clone_facts (w := w) (cobj := .cells #[.int .i64 1, .int .i64 h, .int .i64 a, .int .i64 b, .int .i64 c, .int .i64 d, .slice A6 l6.length c6, .slice A7 l7.length c7] 37 (0, 0)) (zobj := .cells #[.int .i64 0, .int .i64 0, .int .i64 0, .int .i64 0, .int .i64 0, .int .i64 0, .slice none 0 0, .slice none 0 0] 37 (0, 0)) (oobj := .cells #[.int .i64 1, .int .i64 0, .int .i64 0, .int .i64 0, .int .i64 0, .int .i64 0, .slice none 0 0, .slice none 0 0] 37 (0, 0)) hb hR (by repeat (first | (with_reducible exact blk_new _ _) | (with_reducible refine blk_drewN ?_ _) | (with_reducible refine blk_drew ?_) | (with_reducible refine blk_alloc ?_ _))) (by repeat (first | (with_reducible exact blk_new2 _ _ _) | (with_reducible refine blk_drewN ?_ _) | (with_reducible refine blk_drew ?_) | (with_reducible refine blk_alloc ?_ _))) (by repeat (first | (with_reducible exact blk_new3 _ _ _ _) | (with_reducible refine blk_drewN ?_ _) | (with_reducible refine blk_drew ?_))) (by repeat (first | (with_reducible exact Below.refl _ _) | (with_reducible apply below_alloc) | (with_reducible apply pw_below_drewN) | (with_reducible apply below_drew1))); clear hR hb; have INP := Aside0.mk CF.1; have RES := Aside0.mk CF.2.1; have OUT := Aside0.mk CF.2.2.1; have HB := Aside0.mk CF.2.2.2.1; have HR := Aside0.mk CF.2.2.2.2.1; have hlt := CF.2.2.2.2.2; clear CF; have hc0 : w1.cell? ⟨w.heap.size, 0, none⟩ = some (.int .i64 1) := (blk_cell INP.out 0).trans rfl; have hc1 : w1.cell? ⟨w.heap.size, 1, none⟩ = some (.int .i64 h) := (blk_cell INP.out 1).trans rfl; have hc2 : w1.cell? ⟨w.heap.size, 2, none⟩ = some (.int .i64 a) := (blk_cell INP.out 2).trans rfl; have hc3 : w1.cell? ⟨w.heap.size, 3, none⟩ = some (.int .i64 b) := (blk_cell INP.out 3).trans rfl; have hc4 : w1.cell? ⟨w.heap.size, 4, none⟩ = some (.int .i64 c) := (blk_cell INP.out 4).trans rfl; have hc5 : w1.cell? ⟨w.heap.size, 5, none⟩ = some (.int .i64 d) := (blk_cell INP.out 5).trans rfl; have hc6 : w1.cell? ⟨w.heap.size, 6, none⟩ = some (.slice A6 l6.length c6) := (blk_cell INP.out 6).trans rfl; have hc7 : w1.cell? ⟨w.heap.size, 7, none⟩ = some (.slice A7 l7.length c7) := (blk_cell INP.out 7).trans rfl; have ho0 := (blk_cell OUT.out 0).trans rfl; have hp0 := blk_frozen OUT.out 0; have ho1 := (blk_cell OUT.out 1).trans rfl; have hp1 := blk_frozen OUT.out 1; have ho2 := (blk_cell OUT.out 2).trans rfl; have hp2 := blk_frozen OUT.out 2; have ho3 := (blk_cell OUT.out 3).trans rfl; have hp3 := blk_frozen OUT.out 3; have ho4 := (blk_cell OUT.out 4).trans rfl; have hp4 := blk_frozen OUT.out 4; have ho5 := (blk_cell OUT.out 5).trans rfl; have hp5 := blk_frozen OUT.out 5; have ho6 := (blk_cell OUT.out 6).trans rfl; have hp6 := blk_frozen OUT.out 6; have ho7 := (blk_cell OUT.out 7).trans rfl; have hp7 := blk_frozen OUT.out 7; have hr0 := (blk_cell RES.out 0).trans rfl; have hq0 := blk_frozen RES.out 0; have hr1 := (blk_cell RES.out 1).trans rfl; have hq1 := blk_frozen RES.out 1; have hr2 := (blk_cell RES.out 2).trans rfl; have hq2 := blk_frozen RES.out 2; have hr3 := (blk_cell RES.out 3).trans rfl; have hq3 := blk_frozen RES.out 3; have hr4 := (blk_cell RES.out 4).trans rfl; have hq4 := blk_frozen RES.out 4; have hr5 := (blk_cell RES.out 5).trans rfl; have hq5 := blk_frozen RES.out 5; have hr6 := (blk_cell RES.out 6).trans rfl; have hq6 := blk_frozen RES.out 6; have hr7 := (blk_cell RES.out 7).trans rfl; have hq7 := blk_frozen RES.out 7)) | (go_at_call 30; ((with_reducible refine (api_Vertex.calls _ _ l7 l7 _ (by repeat (first | (with_reducible exact H7.out) | (with_reducible refine Kd.C_alloc ?_ _) | (with_reducible refine Kd.C_drewN ?_ _) | (with_reducible refine Kd.C_drew ?_))) C7.out R7.out).mono ?_); rintro e w1 ⟨v, rfl, hR, hb⟩; obtain ⟨Av, cv, rfl⟩ := Kd.R_slice hR; have CF := clone_facts (w := w) (cobj := .cells #[.int .i64 1, .int .i64 h, .int .i64 a, .int .i64 b, .int .i64 c, .int .i64 d, .slice A6 l6.length c6, .slice A7 l7.length c7] 37 (0, 0)) (zobj := .cells #[.int .i64 0, .int .i64 0, .int .i64 0, .int .i64 0, .int .i64 0, .int .i64 0, .slice none 0 0, .slice none 0 0] 37 (0, 0)) (oobj := .cells #[.int .i64 1, .int .i64 h, .int .i64 0, .int .i64 0, .int .i64 0, .int .i64 0, .slice none 0 0, .slice none 0 0] 37 (0, 0)) hb hR (by repeat (first | (with_reducible exact blk_new _ _) | (with_reducible refine blk_drewN ?_ _) | (with_reducible refine blk_drew ?_) | (with_reducible refine blk_alloc ?_ _))) (by repeat (first | (with_reducible exact blk_new2 _ _ _) | (with_reducible refine blk_drewN ?_ _) | (with_reducible refine blk_drew ?_) | (with_reducible refine blk_alloc ?_ _))) (by repeat (first | (with_reducible exact blk_new3 _ _ _ _) | (with_reducible refine blk_drewN ?_ _) | (with_reducible refine blk_drew ?_))) (by repeat (first | (with_reducible exact Below.refl _ _) | (with_reducible apply below_alloc) | (with_reducible apply pw_below_drewN) | (with_reducible apply below_drew1))); clear hR hb; have INP := Aside0.mk CF.1; have RES := Aside0.mk CF.2.1; have OUT := Aside0.mk CF.2.2.1; have HB := Aside0.mk CF.2.2.2.1; have HR := Aside0.mk CF.2.2.2.2.1; have hlt := CF.2.2.2.2.2; clear CF; have hc0 : w1.cell? ⟨w.heap.size, 0, none⟩ = some (.int .i64 1) := (blk_cell INP.out 0).trans rfl; have hc1 : w1.cell? ⟨w.heap.size, 1, none⟩ = some (.int .i64 h) := (blk_cell INP.out 1).trans rfl; have hc2 : w1.cell? ⟨w.heap.size, 2, none⟩ = some (.int .i64 a) := (blk_cell INP.out 2).trans rfl; have hc3 : w1.cell? ⟨w.heap.size, 3, none⟩ = some (.int .i64 b) := (blk_cell INP.out 3).trans rfl; have hc4 : w1.cell? ⟨w.heap.size, 4, none⟩ = some (.int .i64 c) := (blk_cell INP.out 4).trans rfl; have hc5 : w1.cell? ⟨w.heap.size, 5, none⟩ = some (.int .i64 d) := (blk_cell INP.out 5).trans rfl; have hc6 : w1.cell? ⟨w.heap.size, 6, none⟩ = some (.slice A6 l6.length c6) := (blk_cell INP.out 6).trans rfl; have hc7 : w1.cell? ⟨w.heap.size, 7, none⟩ = some (.slice A7 l7.length c7) := (blk_cell INP.out 7).trans rfl; have ho0 := (blk_cell OUT.out 0).trans rfl; have hp0 := blk_frozen OUT.out 0; have ho1 := (blk_cell OUT.out 1).trans rfl; have hp1 := blk_frozen OUT.out 1; have ho2 := (blk_cell OUT.out 2).trans rfl; have hp2 := blk_frozen OUT.out 2; have ho3 := (blk_cell OUT.out 3).trans rfl; have hp3 := blk_frozen OUT.out 3; have ho4 := (blk_cell OUT.out 4).trans rfl; have hp4 := blk_frozen OUT.out 4; have ho5 := (blk_cell OUT.out 5).trans rfl; have hp5 := blk_frozen OUT.out 5; have ho6 := (blk_cell OUT.out 6).trans rfl; have hp6 := blk_frozen OUT.out 6; have ho7 := (blk_cell OUT.out 7).trans rfl; have hp7 := blk_frozen OUT.out 7; have hr0 := (blk_cell RES.out 0).trans rfl; have hq0 := blk_frozen RES.out 0; have hr1 := (blk_cell RES.out 1).trans rfl; have hq1 := blk_frozen RES.out 1; have hr2 := (blk_cell RES.out 2).trans rfl; have hq2 := blk_frozen RES.out 2; have hr3 := (blk_cell RES.out 3).trans rfl; have hq3 := blk_frozen RES.out 3; have hr4 := (blk_cell RES.out 4).trans rfl; have hq4 := blk_frozen RES.out 4; have hr5 := (blk_cell RES.out 5).trans rfl; have hq5 := blk_frozen RES.out 5; have hr6 := (blk_cell RES.out 6).trans rfl; have hq6 := blk_frozen RES.out 6; have hr7 := (blk_cell RES.out 7).trans rfl; have hq7 := blk_frozen RES.out 7)))
 all_goals go_wp2
 all_goals (
  refine bodyPost_ret (results_cell_row rfl _ _ (w.heap.size + 1) 37 #[.int .i64 1, .int .i64 h, .int .i64 0, .int .i64 0, .int .i64 0, .int .i64 0, .slice none 0 0, .slice Av l7.length cv] (0, 0) _ rfl ?_ Try.underlying37 rfl (by kernel_rfl)) rfl ?_
  ·repeat (first | (with_reducible exact RES.out) | (with_reducible refine blk_drewN ?_ _) | (with_reducible refine blk_drew ?_) | (with_reducible refine ret8 ?_) | (with_reducible refine blk_far ?_ (by show w.heap.size + 1 ≠ w.heap.size + 1 + 1; omega) _))
  ·exact ⟨_, _, rfl, Kd.R_nil _ _ _ _ _, by (refine Kd.R_mono (ok := fun k => w.heap.size + 1 + 1 < k) ?_ (fun _ _ => trivial); repeat (first | (with_reducible exact HR.out) | (with_reducible refine Kd.R_drewN ?_ _) | (with_reducible refine Kd.R_drew ?_) | (refine Kd.R_far ?_ (by intro k hk; (try simp only []); omega) _))), by repeat (first | (with_reducible exact HB.out) | (with_reducible refine below8 ?_ (Nat.le_succ _)) | (with_reducible apply pw_below_drewN) | (with_reducible apply below_drew1) | (with_reducible refine below_set ?_ (by omega)))⟩)
set_option maxHeartbeats 8000000 in
set_option maxRecDepth 100000 in
theorem own_2 (h a b c d : Int) (A6 : Option Addr) (c6 : Nat) (l6 : List Int) (A7 : Option Addr) (c7 : Nat) (l7 : List S62) (w : World) (hr6 : Kd.C (Kd.int .i64) w A6 l6.length l6) (hc6 : l6.length ≤ c6) (hr7 : Kd.C k62 w A7 l7.length l7) (hc7 : l7.length ≤ c7) (hl6 : l6.length ≤ 5000) (hl7 : l7.length ≤ 1100) :
  Calls Try.prog 17 #[.agg #[.int .i64 2, .int .i64 h, .int .i64 a, .int .i64 b, .int .i64 c, .int .i64 d, .slice A6 l6.length c6, .slice A7 l7.length c7]] w fun e w' => ∃ v6 v7, e = .returned (.agg #[.int .i64 2, .int .i64 h, .int .i64 0, .int .i64 0, .int .i64 0, .int .i64 0, v6, v7]) ∧ Kd.R (Kd.int .i64) 3 w' w.heap.size (fun _ => True) v6 l6 ∧ Kd.R k62 62 w' w.heap.size (fun _ => True) v7 [] ∧ Below w.heap.size w w' := by
 have hu37 := Try.underlying37
 have H6 := Aside0.mk hr6
 have C6 := Aside0.mk hc6
 have H7 := Aside0.mk hr7
 have C7 := Aside0.mk hc7
 have R6 : Aside0 (slices_Clone_int_int.f l6 = some l6) := Aside0.mk (by have hx : l6.length < 17592186044416 := (by omega); simp [slices_Clone_int_int.f, hx])
 have R7 : Aside0 (api_Vertex.f l7 = some l7) := Aside0.mk (by have hx : l7.length < 1954687338268 := (by omega); simp [api_Vertex.f, hx])
 clear hr6 hc6 hr7 hc7 hl6 hl7
 have hdn : w.heap.size + 1 + 1 ≠ w.heap.size := by omega
 go_enter Try.func17, Try.ntmps17
 go_wp2
 go_region_held3 (fun w' => w'.cell? ⟨w.heap.size, 1, none⟩ = some (.int .i64 h) ∧ w'.cell? ⟨w.heap.size, 6, none⟩ = some (.slice A6 l6.length c6)) (first | go_keep | ((repeat' apply And.intro) <;> (first | assumption | (rw [World.cell?_setCell_far _ _ _ _ hdn]; assumption) | (rw [World.cell?_setCell_far _ _ _ _ hdn, World.cell?_setCell_far _ _ _ _ hdn]; assumption)))) (first | (go_at_call 31; ((with_reducible refine (slices_Clone_int_int.calls _ _ l6 l6 _ (by repeat (first | (with_reducible exact H6.out) | (with_reducible refine Kd.C_alloc ?_ _) | (with_reducible refine Kd.C_drewN ?_ _) | (with_reducible refine Kd.C_drew ?_))) C6.out R6.out).mono ?_); rintro e w1 ⟨v, rfl, hR, hb⟩; obtain ⟨Av, cv, rfl⟩ := Kd.R_slice hR; have CF := clone_facts (w := w) (cobj := .cells #[.int .i64 2, .int .i64 h, .int .i64 a, .int .i64 b, .int .i64 c, .int .i64 d, .slice A6 l6.length c6, .slice A7 l7.length c7] 37 (0, 0)) (zobj := .cells #[.int .i64 0, .int .i64 0, .int .i64 0, .int .i64 0, .int .i64 0, .int .i64 0, .slice none 0 0, .slice none 0 0] 37 (0, 0)) (oobj := .cells #[.int .i64 2, .int .i64 0, .int .i64 0, .int .i64 0, .int .i64 0, .int .i64 0, .slice none 0 0, .slice none 0 0] 37 (0, 0)) hb hR (by repeat (first | (with_reducible exact blk_new _ _) | (with_reducible refine blk_drewN ?_ _) | (with_reducible refine blk_drew ?_) | (with_reducible refine blk_alloc ?_ _))) (by repeat (first | (with_reducible exact blk_new2 _ _ _) | (with_reducible refine blk_drewN ?_ _) | (with_reducible refine blk_drew ?_) | (with_reducible refine blk_alloc ?_ _))) (by repeat (first | (with_reducible exact blk_new3 _ _ _ _) | (with_reducible refine blk_drewN ?_ _) | (with_reducible refine blk_drew ?_))) (by repeat (first | (with_reducible exact Below.refl _ _) | (with_reducible apply below_alloc) | (with_reducible apply pw_below_drewN) | (with_reducible apply below_drew1))); clear hR hb; have INP := Aside0.mk CF.1; have RES := Aside0.mk CF.2.1; have OUT := Aside0.mk CF.2.2.1; have HB := Aside0.mk CF.2.2.2.1; have HR := Aside0.mk CF.2.2.2.2.1; have hlt := CF.2.2.2.2.2; clear CF; have hc0 : w1.cell? ⟨w.heap.size, 0, none⟩ = some (.int .i64 2) := (blk_cell INP.out 0).trans rfl; have hc1 : w1.cell? ⟨w.heap.size, 1, none⟩ = some (.int .i64 h) := (blk_cell INP.out 1).trans rfl; have hc2 : w1.cell? ⟨w.heap.size, 2, none⟩ = some (.int .i64 a) := (blk_cell INP.out 2).trans rfl; have hc3 : w1.cell? ⟨w.heap.size, 3, none⟩ = some (.int .i64 b) := (blk_cell INP.out 3).trans rfl; have hc4 : w1.cell? ⟨w.heap.size, 4, none⟩ = some (.int .i64 c) := (blk_cell INP.out 4).trans rfl; have hc5 : w1.cell? ⟨w.heap.size, 5, none⟩ = some (.int .i64 d) := (blk_cell INP.out 5).trans rfl; have hc6 : w1.cell? ⟨w.heap.size, 6, none⟩ = some (.slice A6 l6.length c6) := (blk_cell INP.out 6).trans rfl; have hc7 : w1.cell? ⟨w.heap.size, 7, none⟩ = some (.slice A7 l7.length c7) := (blk_cell INP.out 7).trans rfl; have ho0 := (blk_cell OUT.out 0).trans rfl; have hp0 := blk_frozen OUT.out 0; have ho1 := (blk_cell OUT.out 1).trans rfl; have hp1 := blk_frozen OUT.out 1; have ho2 := (blk_cell OUT.out 2).trans rfl; have hp2 := blk_frozen OUT.out 2; have ho3 := (blk_cell OUT.out 3).trans rfl; have hp3 := blk_frozen OUT.out 3; have ho4 := (blk_cell OUT.out 4).trans rfl; have hp4 := blk_frozen OUT.out 4; have ho5 := (blk_cell OUT.out 5).trans rfl; have hp5 := blk_frozen OUT.out 5; have ho6 := (blk_cell OUT.out 6).trans rfl; have hp6 := blk_frozen OUT.out 6; have ho7 := (blk_cell OUT.out 7).trans rfl; have hp7 := blk_frozen OUT.out 7; have hr0 := (blk_cell RES.out 0).trans rfl; have hq0 := blk_frozen RES.out 0; have hr1 := (blk_cell RES.out 1).trans rfl; have hq1 := blk_frozen RES.out 1; have hr2 := (blk_cell RES.out 2).trans rfl; have hq2 := blk_frozen RES.out 2; have hr3 := (blk_cell RES.out 3).trans rfl; have hq3 := blk_frozen RES.out 3; have hr4 := (blk_cell RES.out 4).trans rfl; have hq4 := blk_frozen RES.out 4; have hr5 := (blk_cell RES.out 5).trans rfl; have hq5 := blk_frozen RES.out 5; have hr6 := (blk_cell RES.out 6).trans rfl; have hq6 := blk_frozen RES.out 6; have hr7 := (blk_cell RES.out 7).trans rfl; have hq7 := blk_frozen RES.out 7)) | (go_at_call 31; ((with_reducible refine (slices_Clone_int_int.calls _ _ l6 l6 _ (by repeat (first | (with_reducible exact H6.out) | (with_reducible refine Kd.C_alloc ?_ _) | (with_reducible refine Kd.C_drewN ?_ _) | (with_reducible refine Kd.C_drew ?_))) C6.out R6.out).mono ?_); rintro e w1 ⟨v, rfl, hR, hb⟩; obtain ⟨Av, cv, rfl⟩ := Kd.R_slice hR; have CF := clone_facts (w := w) (cobj := .cells #[.int .i64 2, .int .i64 h, .int .i64 a, .int .i64 b, .int .i64 c, .int .i64 d, .slice A6 l6.length c6, .slice A7 l7.length c7] 37 (0, 0)) (zobj := .cells #[.int .i64 0, .int .i64 0, .int .i64 0, .int .i64 0, .int .i64 0, .int .i64 0, .slice none 0 0, .slice none 0 0] 37 (0, 0)) (oobj := .cells #[.int .i64 2, .int .i64 h, .int .i64 0, .int .i64 0, .int .i64 0, .int .i64 0, .slice none 0 0, .slice none 0 0] 37 (0, 0)) hb hR (by repeat (first | (with_reducible exact blk_new _ _) | (with_reducible refine blk_drewN ?_ _) | (with_reducible refine blk_drew ?_) | (with_reducible refine blk_alloc ?_ _))) (by repeat (first | (with_reducible exact blk_new2 _ _ _) | (with_reducible refine blk_drewN ?_ _) | (with_reducible refine blk_drew ?_) | (with_reducible refine blk_alloc ?_ _))) (by repeat (first | (with_reducible exact blk_new3 _ _ _ _) | (with_reducible refine blk_drewN ?_ _) | (with_reducible refine blk_drew ?_))) (by repeat (first | (with_reducible exact Below.refl _ _) | (with_reducible apply below_alloc) | (with_reducible apply pw_below_drewN) | (with_reducible apply below_drew1))); clear hR hb; have INP := Aside0.mk CF.1; have RES := Aside0.mk CF.2.1; have OUT := Aside0.mk CF.2.2.1; have HB := Aside0.mk CF.2.2.2.1; have HR := Aside0.mk CF.2.2.2.2.1; have hlt := CF.2.2.2.2.2; clear CF; have hc0 : w1.cell? ⟨w.heap.size, 0, none⟩ = some (.int .i64 2) := (blk_cell INP.out 0).trans rfl; have hc1 : w1.cell? ⟨w.heap.size, 1, none⟩ = some (.int .i64 h) := (blk_cell INP.out 1).trans rfl; have hc2 : w1.cell? ⟨w.heap.size, 2, none⟩ = some (.int .i64 a) := (blk_cell INP.out 2).trans rfl; have hc3 : w1.cell? ⟨w.heap.size, 3, none⟩ = some (.int .i64 b) := (blk_cell INP.out 3).trans rfl; have hc4 : w1.cell? ⟨w.heap.size, 4, none⟩ = some (.int .i64 c) := (blk_cell INP.out 4).trans rfl; have hc5 : w1.cell? ⟨w.heap.size, 5, none⟩ = some (.int .i64 d) := (blk_cell INP.out 5).trans rfl; have hc6 : w1.cell? ⟨w.heap.size, 6, none⟩ = some (.slice A6 l6.length c6) := (blk_cell INP.out 6).trans rfl; have hc7 : w1.cell? ⟨w.heap.size, 7, none⟩ = some (.slice A7 l7.length c7) := (blk_cell INP.out 7).trans rfl; have ho0 := (blk_cell OUT.out 0).trans rfl; have hp0 := blk_frozen OUT.out 0; have ho1 := (blk_cell OUT.out 1).trans rfl; have hp1 := blk_frozen OUT.out 1; have ho2 := (blk_cell OUT.out 2).trans rfl; have hp2 := blk_frozen OUT.out 2; have ho3 := (blk_cell OUT.out 3).trans rfl; have hp3 := blk_frozen OUT.out 3; have ho4 := (blk_cell OUT.out 4).trans rfl; have hp4 := blk_frozen OUT.out 4; have ho5 := (blk_cell OUT.out 5).trans rfl; have hp5 := blk_frozen OUT.out 5; have ho6 := (blk_cell OUT.out 6).trans rfl; have hp6 := blk_frozen OUT.out 6; have ho7 := (blk_cell OUT.out 7).trans rfl; have hp7 := blk_frozen OUT.out 7; have hr0 := (blk_cell RES.out 0).trans rfl; have hq0 := blk_frozen RES.out 0; have hr1 := (blk_cell RES.out 1).trans rfl; have hq1 := blk_frozen RES.out 1; have hr2 := (blk_cell RES.out 2).trans rfl; have hq2 := blk_frozen RES.out 2; have hr3 := (blk_cell RES.out 3).trans rfl; have hq3 := blk_frozen RES.out 3; have hr4 := (blk_cell RES.out 4).trans rfl; have hq4 := blk_frozen RES.out 4; have hr5 := (blk_cell RES.out 5).trans rfl; have hq5 := blk_frozen RES.out 5; have hr6 := (blk_cell RES.out 6).trans rfl; have hq6 := blk_frozen RES.out 6; have hr7 := (blk_cell RES.out 7).trans rfl; have hq7 := blk_frozen RES.out 7)))
 all_goals go_wp2
 all_goals (
  refine bodyPost_ret (results_cell_row rfl _ _ (w.heap.size + 1) 37 #[.int .i64 2, .int .i64 h, .int .i64 0, .int .i64 0, .int .i64 0, .int .i64 0, .slice Av l6.length cv, .slice none 0 0] (0, 0) _ rfl ?_ Try.underlying37 rfl (by kernel_rfl)) rfl ?_
  ·repeat (first | (with_reducible exact RES.out) | (with_reducible refine blk_drewN ?_ _) | (with_reducible refine blk_drew ?_) | (with_reducible refine ret8 ?_) | (with_reducible refine blk_far ?_ (by show w.heap.size + 1 ≠ w.heap.size + 1 + 1; omega) _))
  ·exact ⟨_, _, rfl, by (refine Kd.R_mono (ok := fun k => w.heap.size + 1 + 1 < k) ?_ (fun _ _ => trivial); repeat (first | (with_reducible exact HR.out) | (with_reducible refine Kd.R_drewN ?_ _) | (with_reducible refine Kd.R_drew ?_) | (refine Kd.R_far ?_ (by intro k hk; (try simp only []); omega) _))), Kd.R_nil _ _ _ _ _, by repeat (first | (with_reducible exact HB.out) | (with_reducible refine below8 ?_ (Nat.le_succ _)) | (with_reducible apply pw_below_drewN) | (with_reducible apply below_drew1) | (with_reducible refine below_set ?_ (by omega)))⟩)
set_option maxHeartbeats 8000000 in
set_option maxRecDepth 100000 in
theorem own_3 (h a b c d : Int) (A6 : Option Addr) (c6 : Nat) (l6 : List Int) (A7 : Option Addr) (c7 : Nat) (l7 : List S62) (w : World) (hr6 : Kd.C (Kd.int .i64) w A6 l6.length l6) (hc6 : l6.length ≤ c6) (hr7 : Kd.C k62 w A7 l7.length l7) (hc7 : l7.length ≤ c7) (hl6 : l6.length ≤ 5000) (hl7 : l7.length ≤ 1100) :
  Calls Try.prog 17 #[.agg #[.int .i64 3, .int .i64 h, .int .i64 a, .int .i64 b, .int .i64 c, .int .i64 d, .slice A6 l6.length c6, .slice A7 l7.length c7]] w fun e w' => ∃ v6 v7, e = .returned (.agg #[.int .i64 3, .int .i64 h, .int .i64 a, .int .i64 b, .int .i64 0, .int .i64 0, v6, v7]) ∧ Kd.R (Kd.int .i64) 3 w' w.heap.size (fun _ => True) v6 l6 ∧ Kd.R k62 62 w' w.heap.size (fun _ => True) v7 [] ∧ Below w.heap.size w w' := by
 have hu37 := Try.underlying37
 have H6 := Aside0.mk hr6
 have C6 := Aside0.mk hc6
 have H7 := Aside0.mk hr7
 have C7 := Aside0.mk hc7
 have R6 : Aside0 (slices_Clone_int_int.f l6 = some l6) := Aside0.mk (by have hx : l6.length < 17592186044416 := (by omega); simp [slices_Clone_int_int.f, hx])
 have R7 : Aside0 (api_Vertex.f l7 = some l7) := Aside0.mk (by have hx : l7.length < 1954687338268 := (by omega); simp [api_Vertex.f, hx])
 clear hr6 hc6 hr7 hc7 hl6 hl7
 have hdn : w.heap.size + 1 + 1 ≠ w.heap.size := by omega
 go_enter Try.func17, Try.ntmps17
 go_wp2
 go_region_held3 (fun w' => w'.cell? ⟨w.heap.size, 1, none⟩ = some (.int .i64 h) ∧ w'.cell? ⟨w.heap.size, 2, none⟩ = some (.int .i64 a) ∧ w'.cell? ⟨w.heap.size, 3, none⟩ = some (.int .i64 b) ∧ w'.cell? ⟨w.heap.size, 6, none⟩ = some (.slice A6 l6.length c6)) (first | go_keep | ((repeat' apply And.intro) <;> (first | assumption | (rw [World.cell?_setCell_far _ _ _ _ hdn]; assumption) | (rw [World.cell?_setCell_far _ _ _ _ hdn, World.cell?_setCell_far _ _ _ _ hdn]; assumption)))) (first | (go_at_call 31; ((with_reducible refine (slices_Clone_int_int.calls _ _ l6 l6 _ (by repeat (first | (with_reducible exact H6.out) | (with_reducible refine Kd.C_alloc ?_ _) | (with_reducible refine Kd.C_drewN ?_ _) | (with_reducible refine Kd.C_drew ?_))) C6.out R6.out).mono ?_); rintro e w1 ⟨v, rfl, hR, hb⟩; obtain ⟨Av, cv, rfl⟩ := Kd.R_slice hR; have CF := clone_facts (w := w) (cobj := .cells #[.int .i64 3, .int .i64 h, .int .i64 a, .int .i64 b, .int .i64 c, .int .i64 d, .slice A6 l6.length c6, .slice A7 l7.length c7] 37 (0, 0)) (zobj := .cells #[.int .i64 0, .int .i64 0, .int .i64 0, .int .i64 0, .int .i64 0, .int .i64 0, .slice none 0 0, .slice none 0 0] 37 (0, 0)) (oobj := .cells #[.int .i64 3, .int .i64 0, .int .i64 0, .int .i64 0, .int .i64 0, .int .i64 0, .slice none 0 0, .slice none 0 0] 37 (0, 0)) hb hR (by repeat (first | (with_reducible exact blk_new _ _) | (with_reducible refine blk_drewN ?_ _) | (with_reducible refine blk_drew ?_) | (with_reducible refine blk_alloc ?_ _))) (by repeat (first | (with_reducible exact blk_new2 _ _ _) | (with_reducible refine blk_drewN ?_ _) | (with_reducible refine blk_drew ?_) | (with_reducible refine blk_alloc ?_ _))) (by repeat (first | (with_reducible exact blk_new3 _ _ _ _) | (with_reducible refine blk_drewN ?_ _) | (with_reducible refine blk_drew ?_))) (by repeat (first | (with_reducible exact Below.refl _ _) | (with_reducible apply below_alloc) | (with_reducible apply pw_below_drewN) | (with_reducible apply below_drew1))); clear hR hb; have INP := Aside0.mk CF.1; have RES := Aside0.mk CF.2.1; have OUT := Aside0.mk CF.2.2.1; have HB := Aside0.mk CF.2.2.2.1; have HR := Aside0.mk CF.2.2.2.2.1; have hlt := CF.2.2.2.2.2; clear CF; have hc0 : w1.cell? ⟨w.heap.size, 0, none⟩ = some (.int .i64 3) := (blk_cell INP.out 0).trans rfl; have hc1 : w1.cell? ⟨w.heap.size, 1, none⟩ = some (.int .i64 h) := (blk_cell INP.out 1).trans rfl; have hc2 : w1.cell? ⟨w.heap.size, 2, none⟩ = some (.int .i64 a) := (blk_cell INP.out 2).trans rfl; have hc3 : w1.cell? ⟨w.heap.size, 3, none⟩ = some (.int .i64 b) := (blk_cell INP.out 3).trans rfl; have hc4 : w1.cell? ⟨w.heap.size, 4, none⟩ = some (.int .i64 c) := (blk_cell INP.out 4).trans rfl; have hc5 : w1.cell? ⟨w.heap.size, 5, none⟩ = some (.int .i64 d) := (blk_cell INP.out 5).trans rfl; have hc6 : w1.cell? ⟨w.heap.size, 6, none⟩ = some (.slice A6 l6.length c6) := (blk_cell INP.out 6).trans rfl; have hc7 : w1.cell? ⟨w.heap.size, 7, none⟩ = some (.slice A7 l7.length c7) := (blk_cell INP.out 7).trans rfl; have ho0 := (blk_cell OUT.out 0).trans rfl; have hp0 := blk_frozen OUT.out 0; have ho1 := (blk_cell OUT.out 1).trans rfl; have hp1 := blk_frozen OUT.out 1; have ho2 := (blk_cell OUT.out 2).trans rfl; have hp2 := blk_frozen OUT.out 2; have ho3 := (blk_cell OUT.out 3).trans rfl; have hp3 := blk_frozen OUT.out 3; have ho4 := (blk_cell OUT.out 4).trans rfl; have hp4 := blk_frozen OUT.out 4; have ho5 := (blk_cell OUT.out 5).trans rfl; have hp5 := blk_frozen OUT.out 5; have ho6 := (blk_cell OUT.out 6).trans rfl; have hp6 := blk_frozen OUT.out 6; have ho7 := (blk_cell OUT.out 7).trans rfl; have hp7 := blk_frozen OUT.out 7; have hr0 := (blk_cell RES.out 0).trans rfl; have hq0 := blk_frozen RES.out 0; have hr1 := (blk_cell RES.out 1).trans rfl; have hq1 := blk_frozen RES.out 1; have hr2 := (blk_cell RES.out 2).trans rfl; have hq2 := blk_frozen RES.out 2; have hr3 := (blk_cell RES.out 3).trans rfl; have hq3 := blk_frozen RES.out 3; have hr4 := (blk_cell RES.out 4).trans rfl; have hq4 := blk_frozen RES.out 4; have hr5 := (blk_cell RES.out 5).trans rfl; have hq5 := blk_frozen RES.out 5; have hr6 := (blk_cell RES.out 6).trans rfl; have hq6 := blk_frozen RES.out 6; have hr7 := (blk_cell RES.out 7).trans rfl; have hq7 := blk_frozen RES.out 7)) | (go_at_call 31; ((with_reducible refine (slices_Clone_int_int.calls _ _ l6 l6 _ (by repeat (first | (with_reducible exact H6.out) | (with_reducible refine Kd.C_alloc ?_ _) | (with_reducible refine Kd.C_drewN ?_ _) | (with_reducible refine Kd.C_drew ?_))) C6.out R6.out).mono ?_); rintro e w1 ⟨v, rfl, hR, hb⟩; obtain ⟨Av, cv, rfl⟩ := Kd.R_slice hR; have CF := clone_facts (w := w) (cobj := .cells #[.int .i64 3, .int .i64 h, .int .i64 a, .int .i64 b, .int .i64 c, .int .i64 d, .slice A6 l6.length c6, .slice A7 l7.length c7] 37 (0, 0)) (zobj := .cells #[.int .i64 0, .int .i64 0, .int .i64 0, .int .i64 0, .int .i64 0, .int .i64 0, .slice none 0 0, .slice none 0 0] 37 (0, 0)) (oobj := .cells #[.int .i64 3, .int .i64 h, .int .i64 0, .int .i64 0, .int .i64 0, .int .i64 0, .slice none 0 0, .slice none 0 0] 37 (0, 0)) hb hR (by repeat (first | (with_reducible exact blk_new _ _) | (with_reducible refine blk_drewN ?_ _) | (with_reducible refine blk_drew ?_) | (with_reducible refine blk_alloc ?_ _))) (by repeat (first | (with_reducible exact blk_new2 _ _ _) | (with_reducible refine blk_drewN ?_ _) | (with_reducible refine blk_drew ?_) | (with_reducible refine blk_alloc ?_ _))) (by repeat (first | (with_reducible exact blk_new3 _ _ _ _) | (with_reducible refine blk_drewN ?_ _) | (with_reducible refine blk_drew ?_))) (by repeat (first | (with_reducible exact Below.refl _ _) | (with_reducible apply below_alloc) | (with_reducible apply pw_below_drewN) | (with_reducible apply below_drew1))); clear hR hb; have INP := Aside0.mk CF.1; have RES := Aside0.mk CF.2.1; have OUT := Aside0.mk CF.2.2.1; have HB := Aside0.mk CF.2.2.2.1; have HR := Aside0.mk CF.2.2.2.2.1; have hlt := CF.2.2.2.2.2; clear CF; have hc0 : w1.cell? ⟨w.heap.size, 0, none⟩ = some (.int .i64 3) := (blk_cell INP.out 0).trans rfl; have hc1 : w1.cell? ⟨w.heap.size, 1, none⟩ = some (.int .i64 h) := (blk_cell INP.out 1).trans rfl; have hc2 : w1.cell? ⟨w.heap.size, 2, none⟩ = some (.int .i64 a) := (blk_cell INP.out 2).trans rfl; have hc3 : w1.cell? ⟨w.heap.size, 3, none⟩ = some (.int .i64 b) := (blk_cell INP.out 3).trans rfl; have hc4 : w1.cell? ⟨w.heap.size, 4, none⟩ = some (.int .i64 c) := (blk_cell INP.out 4).trans rfl; have hc5 : w1.cell? ⟨w.heap.size, 5, none⟩ = some (.int .i64 d) := (blk_cell INP.out 5).trans rfl; have hc6 : w1.cell? ⟨w.heap.size, 6, none⟩ = some (.slice A6 l6.length c6) := (blk_cell INP.out 6).trans rfl; have hc7 : w1.cell? ⟨w.heap.size, 7, none⟩ = some (.slice A7 l7.length c7) := (blk_cell INP.out 7).trans rfl; have ho0 := (blk_cell OUT.out 0).trans rfl; have hp0 := blk_frozen OUT.out 0; have ho1 := (blk_cell OUT.out 1).trans rfl; have hp1 := blk_frozen OUT.out 1; have ho2 := (blk_cell OUT.out 2).trans rfl; have hp2 := blk_frozen OUT.out 2; have ho3 := (blk_cell OUT.out 3).trans rfl; have hp3 := blk_frozen OUT.out 3; have ho4 := (blk_cell OUT.out 4).trans rfl; have hp4 := blk_frozen OUT.out 4; have ho5 := (blk_cell OUT.out 5).trans rfl; have hp5 := blk_frozen OUT.out 5; have ho6 := (blk_cell OUT.out 6).trans rfl; have hp6 := blk_frozen OUT.out 6; have ho7 := (blk_cell OUT.out 7).trans rfl; have hp7 := blk_frozen OUT.out 7; have hr0 := (blk_cell RES.out 0).trans rfl; have hq0 := blk_frozen RES.out 0; have hr1 := (blk_cell RES.out 1).trans rfl; have hq1 := blk_frozen RES.out 1; have hr2 := (blk_cell RES.out 2).trans rfl; have hq2 := blk_frozen RES.out 2; have hr3 := (blk_cell RES.out 3).trans rfl; have hq3 := blk_frozen RES.out 3; have hr4 := (blk_cell RES.out 4).trans rfl; have hq4 := blk_frozen RES.out 4; have hr5 := (blk_cell RES.out 5).trans rfl; have hq5 := blk_frozen RES.out 5; have hr6 := (blk_cell RES.out 6).trans rfl; have hq6 := blk_frozen RES.out 6; have hr7 := (blk_cell RES.out 7).trans rfl; have hq7 := blk_frozen RES.out 7)))
 all_goals go_wp2
 all_goals (
  refine bodyPost_ret (results_cell_row rfl _ _ (w.heap.size + 1) 37 #[.int .i64 3, .int .i64 h, .int .i64 a, .int .i64 b, .int .i64 0, .int .i64 0, .slice Av l6.length cv, .slice none 0 0] (0, 0) _ rfl ?_ Try.underlying37 rfl (by kernel_rfl)) rfl ?_
  ·repeat (first | (with_reducible exact RES.out) | (with_reducible refine blk_drewN ?_ _) | (with_reducible refine blk_drew ?_) | (with_reducible refine ret8 ?_) | (with_reducible refine blk_far ?_ (by show w.heap.size + 1 ≠ w.heap.size + 1 + 1; omega) _))
  ·exact ⟨_, _, rfl, by (refine Kd.R_mono (ok := fun k => w.heap.size + 1 + 1 < k) ?_ (fun _ _ => trivial); repeat (first | (with_reducible exact HR.out) | (with_reducible refine Kd.R_drewN ?_ _) | (with_reducible refine Kd.R_drew ?_) | (refine Kd.R_far ?_ (by intro k hk; (try simp only []); omega) _))), Kd.R_nil _ _ _ _ _, by repeat (first | (with_reducible exact HB.out) | (with_reducible refine below8 ?_ (Nat.le_succ _)) | (with_reducible apply pw_below_drewN) | (with_reducible apply below_drew1) | (with_reducible refine below_set ?_ (by omega)))⟩)
set_option maxHeartbeats 8000000 in
set_option maxRecDepth 100000 in
theorem own_4 (h a b c d : Int) (A6 : Option Addr) (c6 : Nat) (l6 : List Int) (A7 : Option Addr) (c7 : Nat) (l7 : List S62) (w : World) (hr6 : Kd.C (Kd.int .i64) w A6 l6.length l6) (hc6 : l6.length ≤ c6) (hr7 : Kd.C k62 w A7 l7.length l7) (hc7 : l7.length ≤ c7) (hl6 : l6.length ≤ 5000) (hl7 : l7.length ≤ 1100) :
  Calls Try.prog 17 #[.agg #[.int .i64 4, .int .i64 h, .int .i64 a, .int .i64 b, .int .i64 c, .int .i64 d, .slice A6 l6.length c6, .slice A7 l7.length c7]] w fun e w' => ∃ v6 v7, e = .returned (.agg #[.int .i64 4, .int .i64 h, .int .i64 0, .int .i64 0, .int .i64 0, .int .i64 0, v6, v7]) ∧ Kd.R (Kd.int .i64) 3 w' w.heap.size (fun _ => True) v6 [] ∧ Kd.R k62 62 w' w.heap.size (fun _ => True) v7 [] ∧ Below w.heap.size w w' := by
 have hu37 := Try.underlying37
 have H6 := Aside0.mk hr6
 have C6 := Aside0.mk hc6
 have H7 := Aside0.mk hr7
 have C7 := Aside0.mk hc7
 have R6 : Aside0 (slices_Clone_int_int.f l6 = some l6) := Aside0.mk (by have hx : l6.length < 17592186044416 := (by omega); simp [slices_Clone_int_int.f, hx])
 have R7 : Aside0 (api_Vertex.f l7 = some l7) := Aside0.mk (by have hx : l7.length < 1954687338268 := (by omega); simp [api_Vertex.f, hx])
 clear hr6 hc6 hr7 hc7 hl6 hl7
 have hdn : w.heap.size + 1 + 1 ≠ w.heap.size := by omega
 go_enter Try.func17, Try.ntmps17
 go_wp2
 all_goals (refine bodyPost_ret (results_cell_row rfl _ _ (w.heap.size + 1) 37 #[.int .i64 4, .int .i64 h, .int .i64 0, .int .i64 0, .int .i64 0, .int .i64 0, .slice none 0 0, .slice none 0 0] (0, 0) _ rfl ?_ Try.underlying37 rfl (by kernel_rfl)) rfl ?_)
 ·repeat (first | (with_reducible exact blk_new2 _ _ _) | (with_reducible refine blk_drewN ?_ _) | (with_reducible refine blk_drew ?_) | (with_reducible refine ret8 ?_) | (with_reducible refine blk_far ?_ (by show w.heap.size + 1 ≠ w.heap.size + 1 + 1; omega) _) | (with_reducible refine blk_alloc ?_ _))
 ·exact ⟨_, _, rfl, Kd.R_nil _ _ _ _ _, Kd.R_nil _ _ _ _ _, by repeat (first | (with_reducible exact Below.refl _ _) | (with_reducible refine below8 ?_ (Nat.le_succ _)) | (with_reducible apply below_alloc) | (with_reducible apply pw_below_drewN) | (with_reducible apply below_drew1) | (with_reducible refine below_set ?_ (by omega)))⟩
set_option maxHeartbeats 8000000 in
set_option maxRecDepth 100000 in
theorem own_5 (h a b c d : Int) (A6 : Option Addr) (c6 : Nat) (l6 : List Int) (A7 : Option Addr) (c7 : Nat) (l7 : List S62) (w : World) (hr6 : Kd.C (Kd.int .i64) w A6 l6.length l6) (hc6 : l6.length ≤ c6) (hr7 : Kd.C k62 w A7 l7.length l7) (hc7 : l7.length ≤ c7) (hl6 : l6.length ≤ 5000) (hl7 : l7.length ≤ 1100) :
  Calls Try.prog 17 #[.agg #[.int .i64 5, .int .i64 h, .int .i64 a, .int .i64 b, .int .i64 c, .int .i64 d, .slice A6 l6.length c6, .slice A7 l7.length c7]] w fun e w' => ∃ v6 v7, e = .returned (.agg #[.int .i64 5, .int .i64 0, .int .i64 0, .int .i64 0, .int .i64 0, .int .i64 0, v6, v7]) ∧ Kd.R (Kd.int .i64) 3 w' w.heap.size (fun _ => True) v6 l6 ∧ Kd.R k62 62 w' w.heap.size (fun _ => True) v7 [] ∧ Below w.heap.size w w' := by
 have hu37 := Try.underlying37
 have H6 := Aside0.mk hr6
 have C6 := Aside0.mk hc6
 have H7 := Aside0.mk hr7
 have C7 := Aside0.mk hc7
 have R6 : Aside0 (slices_Clone_int_int.f l6 = some l6) := Aside0.mk (by have hx : l6.length < 17592186044416 := (by omega); simp [slices_Clone_int_int.f, hx])
 have R7 : Aside0 (api_Vertex.f l7 = some l7) := Aside0.mk (by have hx : l7.length < 1954687338268 := (by omega); simp [api_Vertex.f, hx])
 clear hr6 hc6 hr7 hc7 hl6 hl7
 have hdn : w.heap.size + 1 + 1 ≠ w.heap.size := by omega
 go_enter Try.func17, Try.ntmps17
 go_wp2_with (first | (go_at_call 31; go_must ((with_reducible refine (slices_Clone_int_int.calls _ _ l6 l6 _ (by repeat (first | (with_reducible exact H6.out) | (with_reducible refine Kd.C_alloc ?_ _) | (with_reducible refine Kd.C_drewN ?_ _) | (with_reducible refine Kd.C_drew ?_))) C6.out R6.out).mono ?_); rintro e w1 ⟨v, rfl, hR, hb⟩; obtain ⟨Av, cv, rfl⟩ := Kd.R_slice hR; have CF := clone_facts (w := w) (cobj := .cells #[.int .i64 5, .int .i64 h, .int .i64 a, .int .i64 b, .int .i64 c, .int .i64 d, .slice A6 l6.length c6, .slice A7 l7.length c7] 37 (0, 0)) (zobj := .cells #[.int .i64 0, .int .i64 0, .int .i64 0, .int .i64 0, .int .i64 0, .int .i64 0, .slice none 0 0, .slice none 0 0] 37 (0, 0)) (oobj := .cells #[.int .i64 5, .int .i64 0, .int .i64 0, .int .i64 0, .int .i64 0, .int .i64 0, .slice none 0 0, .slice none 0 0] 37 (0, 0)) hb hR (by repeat (first | (with_reducible exact blk_new _ _) | (with_reducible refine blk_drewN ?_ _) | (with_reducible refine blk_drew ?_) | (with_reducible refine blk_alloc ?_ _))) (by repeat (first | (with_reducible exact blk_new2 _ _ _) | (with_reducible refine blk_drewN ?_ _) | (with_reducible refine blk_drew ?_) | (with_reducible refine blk_alloc ?_ _))) (by repeat (first | (with_reducible exact blk_new3 _ _ _ _) | (with_reducible refine blk_drewN ?_ _) | (with_reducible refine blk_drew ?_))) (by repeat (first | (with_reducible exact Below.refl _ _) | (with_reducible apply below_alloc) | (with_reducible apply pw_below_drewN) | (with_reducible apply below_drew1))); clear hR hb; have INP := Aside0.mk CF.1; have RES := Aside0.mk CF.2.1; have OUT := Aside0.mk CF.2.2.1; have HB := Aside0.mk CF.2.2.2.1; have HR := Aside0.mk CF.2.2.2.2.1; have hlt := CF.2.2.2.2.2; clear CF; have hc0 : w1.cell? ⟨w.heap.size, 0, none⟩ = some (.int .i64 5) := (blk_cell INP.out 0).trans rfl; have hc1 : w1.cell? ⟨w.heap.size, 1, none⟩ = some (.int .i64 h) := (blk_cell INP.out 1).trans rfl; have hc2 : w1.cell? ⟨w.heap.size, 2, none⟩ = some (.int .i64 a) := (blk_cell INP.out 2).trans rfl; have hc3 : w1.cell? ⟨w.heap.size, 3, none⟩ = some (.int .i64 b) := (blk_cell INP.out 3).trans rfl; have hc4 : w1.cell? ⟨w.heap.size, 4, none⟩ = some (.int .i64 c) := (blk_cell INP.out 4).trans rfl; have hc5 : w1.cell? ⟨w.heap.size, 5, none⟩ = some (.int .i64 d) := (blk_cell INP.out 5).trans rfl; have hc6 : w1.cell? ⟨w.heap.size, 6, none⟩ = some (.slice A6 l6.length c6) := (blk_cell INP.out 6).trans rfl; have hc7 : w1.cell? ⟨w.heap.size, 7, none⟩ = some (.slice A7 l7.length c7) := (blk_cell INP.out 7).trans rfl; have ho0 := (blk_cell OUT.out 0).trans rfl; have hp0 := blk_frozen OUT.out 0; have ho1 := (blk_cell OUT.out 1).trans rfl; have hp1 := blk_frozen OUT.out 1; have ho2 := (blk_cell OUT.out 2).trans rfl; have hp2 := blk_frozen OUT.out 2; have ho3 := (blk_cell OUT.out 3).trans rfl; have hp3 := blk_frozen OUT.out 3; have ho4 := (blk_cell OUT.out 4).trans rfl; have hp4 := blk_frozen OUT.out 4; have ho5 := (blk_cell OUT.out 5).trans rfl; have hp5 := blk_frozen OUT.out 5; have ho6 := (blk_cell OUT.out 6).trans rfl; have hp6 := blk_frozen OUT.out 6; have ho7 := (blk_cell OUT.out 7).trans rfl; have hp7 := blk_frozen OUT.out 7; have hr0 := (blk_cell RES.out 0).trans rfl; have hq0 := blk_frozen RES.out 0; have hr1 := (blk_cell RES.out 1).trans rfl; have hq1 := blk_frozen RES.out 1; have hr2 := (blk_cell RES.out 2).trans rfl; have hq2 := blk_frozen RES.out 2; have hr3 := (blk_cell RES.out 3).trans rfl; have hq3 := blk_frozen RES.out 3; have hr4 := (blk_cell RES.out 4).trans rfl; have hq4 := blk_frozen RES.out 4; have hr5 := (blk_cell RES.out 5).trans rfl; have hq5 := blk_frozen RES.out 5; have hr6 := (blk_cell RES.out 6).trans rfl; have hq6 := blk_frozen RES.out 6; have hr7 := (blk_cell RES.out 7).trans rfl; have hq7 := blk_frozen RES.out 7)))
 all_goals (
  refine bodyPost_ret (results_cell_row rfl _ _ (w.heap.size + 1) 37 #[.int .i64 5, .int .i64 0, .int .i64 0, .int .i64 0, .int .i64 0, .int .i64 0, .slice Av l6.length cv, .slice none 0 0] (0, 0) _ rfl ?_ Try.underlying37 rfl (by kernel_rfl)) rfl ?_
  ·repeat (first | (with_reducible exact RES.out) | (with_reducible refine blk_drewN ?_ _) | (with_reducible refine blk_drew ?_) | (with_reducible refine ret8 ?_) | (with_reducible refine blk_far ?_ (by show w.heap.size + 1 ≠ w.heap.size + 1 + 1; omega) _))
  ·exact ⟨_, _, rfl, by (refine Kd.R_mono (ok := fun k => w.heap.size + 1 + 1 < k) ?_ (fun _ _ => trivial); repeat (first | (with_reducible exact HR.out) | (with_reducible refine Kd.R_drewN ?_ _) | (with_reducible refine Kd.R_drew ?_) | (refine Kd.R_far ?_ (by intro k hk; (try simp only []); omega) _))), Kd.R_nil _ _ _ _ _, by repeat (first | (with_reducible exact HB.out) | (with_reducible refine below8 ?_ (Nat.le_succ _)) | (with_reducible apply pw_below_drewN) | (with_reducible apply below_drew1) | (with_reducible refine below_set ?_ (by omega)))⟩)
set_option maxHeartbeats 8000000 in
set_option maxRecDepth 100000 in
theorem own_6 (h a b c d : Int) (A6 : Option Addr) (c6 : Nat) (l6 : List Int) (A7 : Option Addr) (c7 : Nat) (l7 : List S62) (w : World) (hr6 : Kd.C (Kd.int .i64) w A6 l6.length l6) (hc6 : l6.length ≤ c6) (hr7 : Kd.C k62 w A7 l7.length l7) (hc7 : l7.length ≤ c7) (hl6 : l6.length ≤ 5000) (hl7 : l7.length ≤ 1100) :
  Calls Try.prog 17 #[.agg #[.int .i64 6, .int .i64 h, .int .i64 a, .int .i64 b, .int .i64 c, .int .i64 d, .slice A6 l6.length c6, .slice A7 l7.length c7]] w fun e w' => ∃ v6 v7, e = .returned (.agg #[.int .i64 6, .int .i64 0, .int .i64 a, .int .i64 b, .int .i64 c, .int .i64 d, v6, v7]) ∧ Kd.R (Kd.int .i64) 3 w' w.heap.size (fun _ => True) v6 [] ∧ Kd.R k62 62 w' w.heap.size (fun _ => True) v7 [] ∧ Below w.heap.size w w' := by
 have hu37 := Try.underlying37
 have H6 := Aside0.mk hr6
 have C6 := Aside0.mk hc6
 have H7 := Aside0.mk hr7
 have C7 := Aside0.mk hc7
 have R6 : Aside0 (slices_Clone_int_int.f l6 = some l6) := Aside0.mk (by have hx : l6.length < 17592186044416 := (by omega); simp [slices_Clone_int_int.f, hx])
 have R7 : Aside0 (api_Vertex.f l7 = some l7) := Aside0.mk (by have hx : l7.length < 1954687338268 := (by omega); simp [api_Vertex.f, hx])
 clear hr6 hc6 hr7 hc7 hl6 hl7
 have hdn : w.heap.size + 1 + 1 ≠ w.heap.size := by omega
 go_enter Try.func17, Try.ntmps17
 go_wp2
 go_region_held3 (fun w' => w'.cell? ⟨w.heap.size, 2, none⟩ = some (.int .i64 a) ∧ w'.cell? ⟨w.heap.size, 3, none⟩ = some (.int .i64 b) ∧ w'.cell? ⟨w.heap.size, 4, none⟩ = some (.int .i64 c) ∧ w'.cell? ⟨w.heap.size, 5, none⟩ = some (.int .i64 d)) (first | go_keep | ((repeat' apply And.intro) <;> (first | assumption | (rw [World.cell?_setCell_far _ _ _ _ hdn]; assumption) | (rw [World.cell?_setCell_far _ _ _ _ hdn, World.cell?_setCell_far _ _ _ _ hdn]; assumption)))) (first | fail)
 all_goals go_wp2
 all_goals (refine bodyPost_ret (results_cell_row rfl _ _ (w.heap.size + 1) 37 #[.int .i64 6, .int .i64 0, .int .i64 a, .int .i64 b, .int .i64 c, .int .i64 d, .slice none 0 0, .slice none 0 0] (0, 0) _ rfl ?_ Try.underlying37 rfl (by kernel_rfl)) rfl ?_)
 ·repeat (first | (with_reducible exact blk_new2 _ _ _) | (with_reducible refine blk_drewN ?_ _) | (with_reducible refine blk_drew ?_) | (with_reducible refine ret8 ?_) | (with_reducible refine blk_far ?_ (by show w.heap.size + 1 ≠ w.heap.size + 1 + 1; omega) _) | (with_reducible refine blk_alloc ?_ _))
 ·exact ⟨_, _, rfl, Kd.R_nil _ _ _ _ _, Kd.R_nil _ _ _ _ _, by repeat (first | (with_reducible exact Below.refl _ _) | (with_reducible refine below8 ?_ (Nat.le_succ _)) | (with_reducible apply below_alloc) | (with_reducible apply pw_below_drewN) | (with_reducible apply below_drew1) | (with_reducible refine below_set ?_ (by omega)))⟩
set_option maxHeartbeats 8000000 in
set_option maxRecDepth 100000 in
theorem own_7 (h a b c d : Int) (A6 : Option Addr) (c6 : Nat) (l6 : List Int) (A7 : Option Addr) (c7 : Nat) (l7 : List S62) (w : World) (hr6 : Kd.C (Kd.int .i64) w A6 l6.length l6) (hc6 : l6.length ≤ c6) (hr7 : Kd.C k62 w A7 l7.length l7) (hc7 : l7.length ≤ c7) (hl6 : l6.length ≤ 5000) (hl7 : l7.length ≤ 1100) :
  Calls Try.prog 17 #[.agg #[.int .i64 7, .int .i64 h, .int .i64 a, .int .i64 b, .int .i64 c, .int .i64 d, .slice A6 l6.length c6, .slice A7 l7.length c7]] w fun e w' => ∃ v6 v7, e = .returned (.agg #[.int .i64 7, .int .i64 0, .int .i64 a, .int .i64 b, .int .i64 c, .int .i64 d, v6, v7]) ∧ Kd.R (Kd.int .i64) 3 w' w.heap.size (fun _ => True) v6 [] ∧ Kd.R k62 62 w' w.heap.size (fun _ => True) v7 [] ∧ Below w.heap.size w w' := by
 have hu37 := Try.underlying37
 have H6 := Aside0.mk hr6
 have C6 := Aside0.mk hc6
 have H7 := Aside0.mk hr7
 have C7 := Aside0.mk hc7
 have R6 : Aside0 (slices_Clone_int_int.f l6 = some l6) := Aside0.mk (by have hx : l6.length < 17592186044416 := (by omega); simp [slices_Clone_int_int.f, hx])
 have R7 : Aside0 (api_Vertex.f l7 = some l7) := Aside0.mk (by have hx : l7.length < 1954687338268 := (by omega); simp [api_Vertex.f, hx])
 clear hr6 hc6 hr7 hc7 hl6 hl7
 have hdn : w.heap.size + 1 + 1 ≠ w.heap.size := by omega
 go_enter Try.func17, Try.ntmps17
 go_wp2
 go_region_held3 (fun w' => w'.cell? ⟨w.heap.size, 2, none⟩ = some (.int .i64 a) ∧ w'.cell? ⟨w.heap.size, 3, none⟩ = some (.int .i64 b) ∧ w'.cell? ⟨w.heap.size, 4, none⟩ = some (.int .i64 c) ∧ w'.cell? ⟨w.heap.size, 5, none⟩ = some (.int .i64 d)) (first | go_keep | ((repeat' apply And.intro) <;> (first | assumption | (rw [World.cell?_setCell_far _ _ _ _ hdn]; assumption) | (rw [World.cell?_setCell_far _ _ _ _ hdn, World.cell?_setCell_far _ _ _ _ hdn]; assumption)))) (first | fail)
 all_goals go_wp2
 all_goals (refine bodyPost_ret (results_cell_row rfl _ _ (w.heap.size + 1) 37 #[.int .i64 7, .int .i64 0, .int .i64 a, .int .i64 b, .int .i64 c, .int .i64 d, .slice none 0 0, .slice none 0 0] (0, 0) _ rfl ?_ Try.underlying37 rfl (by kernel_rfl)) rfl ?_)
 ·repeat (first | (with_reducible exact blk_new2 _ _ _) | (with_reducible refine blk_drewN ?_ _) | (with_reducible refine blk_drew ?_) | (with_reducible refine ret8 ?_) | (with_reducible refine blk_far ?_ (by show w.heap.size + 1 ≠ w.heap.size + 1 + 1; omega) _) | (with_reducible refine blk_alloc ?_ _))
 ·exact ⟨_, _, rfl, Kd.R_nil _ _ _ _ _, Kd.R_nil _ _ _ _ _, by repeat (first | (with_reducible exact Below.refl _ _) | (with_reducible refine below8 ?_ (Nat.le_succ _)) | (with_reducible apply below_alloc) | (with_reducible apply pw_below_drewN) | (with_reducible apply below_drew1) | (with_reducible refine below_set ?_ (by omega)))⟩
set_option maxHeartbeats 8000000 in
set_option maxRecDepth 100000 in
theorem own_8 (h a b c d : Int) (A6 : Option Addr) (c6 : Nat) (l6 : List Int) (A7 : Option Addr) (c7 : Nat) (l7 : List S62) (w : World) (hr6 : Kd.C (Kd.int .i64) w A6 l6.length l6) (hc6 : l6.length ≤ c6) (hr7 : Kd.C k62 w A7 l7.length l7) (hc7 : l7.length ≤ c7) (hl6 : l6.length ≤ 5000) (hl7 : l7.length ≤ 1100) :
  Calls Try.prog 17 #[.agg #[.int .i64 8, .int .i64 h, .int .i64 a, .int .i64 b, .int .i64 c, .int .i64 d, .slice A6 l6.length c6, .slice A7 l7.length c7]] w fun e w' => ∃ v6 v7, e = .returned (.agg #[.int .i64 8, .int .i64 0, .int .i64 a, .int .i64 b, .int .i64 0, .int .i64 0, v6, v7]) ∧ Kd.R (Kd.int .i64) 3 w' w.heap.size (fun _ => True) v6 [] ∧ Kd.R k62 62 w' w.heap.size (fun _ => True) v7 [] ∧ Below w.heap.size w w' := by
 have hu37 := Try.underlying37
 have H6 := Aside0.mk hr6
 have C6 := Aside0.mk hc6
 have H7 := Aside0.mk hr7
 have C7 := Aside0.mk hc7
 have R6 : Aside0 (slices_Clone_int_int.f l6 = some l6) := Aside0.mk (by have hx : l6.length < 17592186044416 := (by omega); simp [slices_Clone_int_int.f, hx])
 have R7 : Aside0 (api_Vertex.f l7 = some l7) := Aside0.mk (by have hx : l7.length < 1954687338268 := (by omega); simp [api_Vertex.f, hx])
 clear hr6 hc6 hr7 hc7 hl6 hl7
 have hdn : w.heap.size + 1 + 1 ≠ w.heap.size := by omega
 go_enter Try.func17, Try.ntmps17
 go_wp2
 go_region_held3 (fun w' => w'.cell? ⟨w.heap.size, 2, none⟩ = some (.int .i64 a) ∧ w'.cell? ⟨w.heap.size, 3, none⟩ = some (.int .i64 b)) (first | go_keep | ((repeat' apply And.intro) <;> (first | assumption | (rw [World.cell?_setCell_far _ _ _ _ hdn]; assumption) | (rw [World.cell?_setCell_far _ _ _ _ hdn, World.cell?_setCell_far _ _ _ _ hdn]; assumption)))) (first | fail)
 all_goals go_wp2
 all_goals (refine bodyPost_ret (results_cell_row rfl _ _ (w.heap.size + 1) 37 #[.int .i64 8, .int .i64 0, .int .i64 a, .int .i64 b, .int .i64 0, .int .i64 0, .slice none 0 0, .slice none 0 0] (0, 0) _ rfl ?_ Try.underlying37 rfl (by kernel_rfl)) rfl ?_)
 ·repeat (first | (with_reducible exact blk_new2 _ _ _) | (with_reducible refine blk_drewN ?_ _) | (with_reducible refine blk_drew ?_) | (with_reducible refine ret8 ?_) | (with_reducible refine blk_far ?_ (by show w.heap.size + 1 ≠ w.heap.size + 1 + 1; omega) _) | (with_reducible refine blk_alloc ?_ _))
 ·exact ⟨_, _, rfl, Kd.R_nil _ _ _ _ _, Kd.R_nil _ _ _ _ _, by repeat (first | (with_reducible exact Below.refl _ _) | (with_reducible refine below8 ?_ (Nat.le_succ _)) | (with_reducible apply below_alloc) | (with_reducible apply pw_below_drewN) | (with_reducible apply below_drew1) | (with_reducible refine below_set ?_ (by omega)))⟩
set_option maxHeartbeats 8000000 in
set_option maxRecDepth 100000 in
theorem own_9 (h a b c d : Int) (A6 : Option Addr) (c6 : Nat) (l6 : List Int) (A7 : Option Addr) (c7 : Nat) (l7 : List S62) (w : World) (hr6 : Kd.C (Kd.int .i64) w A6 l6.length l6) (hc6 : l6.length ≤ c6) (hr7 : Kd.C k62 w A7 l7.length l7) (hc7 : l7.length ≤ c7) (hl6 : l6.length ≤ 5000) (hl7 : l7.length ≤ 1100) :
  Calls Try.prog 17 #[.agg #[.int .i64 9, .int .i64 h, .int .i64 a, .int .i64 b, .int .i64 c, .int .i64 d, .slice A6 l6.length c6, .slice A7 l7.length c7]] w fun e w' => ∃ v6 v7, e = .returned (.agg #[.int .i64 9, .int .i64 0, .int .i64 0, .int .i64 0, .int .i64 0, .int .i64 0, v6, v7]) ∧ Kd.R (Kd.int .i64) 3 w' w.heap.size (fun _ => True) v6 l6 ∧ Kd.R k62 62 w' w.heap.size (fun _ => True) v7 [] ∧ Below w.heap.size w w' := by
 have hu37 := Try.underlying37
 have H6 := Aside0.mk hr6
 have C6 := Aside0.mk hc6
 have H7 := Aside0.mk hr7
 have C7 := Aside0.mk hc7
 have R6 : Aside0 (slices_Clone_int_int.f l6 = some l6) := Aside0.mk (by have hx : l6.length < 17592186044416 := (by omega); simp [slices_Clone_int_int.f, hx])
 have R7 : Aside0 (api_Vertex.f l7 = some l7) := Aside0.mk (by have hx : l7.length < 1954687338268 := (by omega); simp [api_Vertex.f, hx])
 clear hr6 hc6 hr7 hc7 hl6 hl7
 have hdn : w.heap.size + 1 + 1 ≠ w.heap.size := by omega
 go_enter Try.func17, Try.ntmps17
 go_wp2_with (first | (go_at_call 31; go_must ((with_reducible refine (slices_Clone_int_int.calls _ _ l6 l6 _ (by repeat (first | (with_reducible exact H6.out) | (with_reducible refine Kd.C_alloc ?_ _) | (with_reducible refine Kd.C_drewN ?_ _) | (with_reducible refine Kd.C_drew ?_))) C6.out R6.out).mono ?_); rintro e w1 ⟨v, rfl, hR, hb⟩; obtain ⟨Av, cv, rfl⟩ := Kd.R_slice hR; have CF := clone_facts (w := w) (cobj := .cells #[.int .i64 9, .int .i64 h, .int .i64 a, .int .i64 b, .int .i64 c, .int .i64 d, .slice A6 l6.length c6, .slice A7 l7.length c7] 37 (0, 0)) (zobj := .cells #[.int .i64 0, .int .i64 0, .int .i64 0, .int .i64 0, .int .i64 0, .int .i64 0, .slice none 0 0, .slice none 0 0] 37 (0, 0)) (oobj := .cells #[.int .i64 9, .int .i64 0, .int .i64 0, .int .i64 0, .int .i64 0, .int .i64 0, .slice none 0 0, .slice none 0 0] 37 (0, 0)) hb hR (by repeat (first | (with_reducible exact blk_new _ _) | (with_reducible refine blk_drewN ?_ _) | (with_reducible refine blk_drew ?_) | (with_reducible refine blk_alloc ?_ _))) (by repeat (first | (with_reducible exact blk_new2 _ _ _) | (with_reducible refine blk_drewN ?_ _) | (with_reducible refine blk_drew ?_) | (with_reducible refine blk_alloc ?_ _))) (by repeat (first | (with_reducible exact blk_new3 _ _ _ _) | (with_reducible refine blk_drewN ?_ _) | (with_reducible refine blk_drew ?_))) (by repeat (first | (with_reducible exact Below.refl _ _) | (with_reducible apply below_alloc) | (with_reducible apply pw_below_drewN) | (with_reducible apply below_drew1))); clear hR hb; have INP := Aside0.mk CF.1; have RES := Aside0.mk CF.2.1; have OUT := Aside0.mk CF.2.2.1; have HB := Aside0.mk CF.2.2.2.1; have HR := Aside0.mk CF.2.2.2.2.1; have hlt := CF.2.2.2.2.2; clear CF; have hc0 : w1.cell? ⟨w.heap.size, 0, none⟩ = some (.int .i64 9) := (blk_cell INP.out 0).trans rfl; have hc1 : w1.cell? ⟨w.heap.size, 1, none⟩ = some (.int .i64 h) := (blk_cell INP.out 1).trans rfl; have hc2 : w1.cell? ⟨w.heap.size, 2, none⟩ = some (.int .i64 a) := (blk_cell INP.out 2).trans rfl; have hc3 : w1.cell? ⟨w.heap.size, 3, none⟩ = some (.int .i64 b) := (blk_cell INP.out 3).trans rfl; have hc4 : w1.cell? ⟨w.heap.size, 4, none⟩ = some (.int .i64 c) := (blk_cell INP.out 4).trans rfl; have hc5 : w1.cell? ⟨w.heap.size, 5, none⟩ = some (.int .i64 d) := (blk_cell INP.out 5).trans rfl; have hc6 : w1.cell? ⟨w.heap.size, 6, none⟩ = some (.slice A6 l6.length c6) := (blk_cell INP.out 6).trans rfl; have hc7 : w1.cell? ⟨w.heap.size, 7, none⟩ = some (.slice A7 l7.length c7) := (blk_cell INP.out 7).trans rfl; have ho0 := (blk_cell OUT.out 0).trans rfl; have hp0 := blk_frozen OUT.out 0; have ho1 := (blk_cell OUT.out 1).trans rfl; have hp1 := blk_frozen OUT.out 1; have ho2 := (blk_cell OUT.out 2).trans rfl; have hp2 := blk_frozen OUT.out 2; have ho3 := (blk_cell OUT.out 3).trans rfl; have hp3 := blk_frozen OUT.out 3; have ho4 := (blk_cell OUT.out 4).trans rfl; have hp4 := blk_frozen OUT.out 4; have ho5 := (blk_cell OUT.out 5).trans rfl; have hp5 := blk_frozen OUT.out 5; have ho6 := (blk_cell OUT.out 6).trans rfl; have hp6 := blk_frozen OUT.out 6; have ho7 := (blk_cell OUT.out 7).trans rfl; have hp7 := blk_frozen OUT.out 7; have hr0 := (blk_cell RES.out 0).trans rfl; have hq0 := blk_frozen RES.out 0; have hr1 := (blk_cell RES.out 1).trans rfl; have hq1 := blk_frozen RES.out 1; have hr2 := (blk_cell RES.out 2).trans rfl; have hq2 := blk_frozen RES.out 2; have hr3 := (blk_cell RES.out 3).trans rfl; have hq3 := blk_frozen RES.out 3; have hr4 := (blk_cell RES.out 4).trans rfl; have hq4 := blk_frozen RES.out 4; have hr5 := (blk_cell RES.out 5).trans rfl; have hq5 := blk_frozen RES.out 5; have hr6 := (blk_cell RES.out 6).trans rfl; have hq6 := blk_frozen RES.out 6; have hr7 := (blk_cell RES.out 7).trans rfl; have hq7 := blk_frozen RES.out 7)))
 all_goals (
  refine bodyPost_ret (results_cell_row rfl _ _ (w.heap.size + 1) 37 #[.int .i64 9, .int .i64 0, .int .i64 0, .int .i64 0, .int .i64 0, .int .i64 0, .slice Av l6.length cv, .slice none 0 0] (0, 0) _ rfl ?_ Try.underlying37 rfl (by kernel_rfl)) rfl ?_
  ·repeat (first | (with_reducible exact RES.out) | (with_reducible refine blk_drewN ?_ _) | (with_reducible refine blk_drew ?_) | (with_reducible refine ret8 ?_) | (with_reducible refine blk_far ?_ (by show w.heap.size + 1 ≠ w.heap.size + 1 + 1; omega) _))
  ·exact ⟨_, _, rfl, by (refine Kd.R_mono (ok := fun k => w.heap.size + 1 + 1 < k) ?_ (fun _ _ => trivial); repeat (first | (with_reducible exact HR.out) | (with_reducible refine Kd.R_drewN ?_ _) | (with_reducible refine Kd.R_drew ?_) | (refine Kd.R_far ?_ (by intro k hk; (try simp only []); omega) _))), Kd.R_nil _ _ _ _ _, by repeat (first | (with_reducible exact HB.out) | (with_reducible refine below8 ?_ (Nat.le_succ _)) | (with_reducible apply pw_below_drewN) | (with_reducible apply below_drew1) | (with_reducible refine below_set ?_ (by omega)))⟩)
set_option maxHeartbeats 8000000 in
set_option maxRecDepth 100000 in
theorem own_10 (h a b c d : Int) (A6 : Option Addr) (c6 : Nat) (l6 : List Int) (A7 : Option Addr) (c7 : Nat) (l7 : List S62) (w : World) (hr6 : Kd.C (Kd.int .i64) w A6 l6.length l6) (hc6 : l6.length ≤ c6) (hr7 : Kd.C k62 w A7 l7.length l7) (hc7 : l7.length ≤ c7) (hl6 : l6.length ≤ 5000) (hl7 : l7.length ≤ 1100) :
  Calls Try.prog 17 #[.agg #[.int .i64 10, .int .i64 h, .int .i64 a, .int .i64 b, .int .i64 c, .int .i64 d, .slice A6 l6.length c6, .slice A7 l7.length c7]] w fun e w' => ∃ v6 v7, e = .returned (.agg #[.int .i64 10, .int .i64 0, .int .i64 a, .int .i64 b, .int .i64 c, .int .i64 d, v6, v7]) ∧ Kd.R (Kd.int .i64) 3 w' w.heap.size (fun _ => True) v6 [] ∧ Kd.R k62 62 w' w.heap.size (fun _ => True) v7 [] ∧ Below w.heap.size w w' := by
 have hu37 := Try.underlying37
 have H6 := Aside0.mk hr6
 have C6 := Aside0.mk hc6
 have H7 := Aside0.mk hr7
 have C7 := Aside0.mk hc7
 have R6 : Aside0 (slices_Clone_int_int.f l6 = some l6) := Aside0.mk (by have hx : l6.length < 17592186044416 := (by omega); simp [slices_Clone_int_int.f, hx])
 have R7 : Aside0 (api_Vertex.f l7 = some l7) := Aside0.mk (by have hx : l7.length < 1954687338268 := (by omega); simp [api_Vertex.f, hx])
 clear hr6 hc6 hr7 hc7 hl6 hl7
 have hdn : w.heap.size + 1 + 1 ≠ w.heap.size := by omega
 go_enter Try.func17, Try.ntmps17
 go_wp2
 go_region_held3 (fun w' => w'.cell? ⟨w.heap.size, 2, none⟩ = some (.int .i64 a) ∧ w'.cell? ⟨w.heap.size, 3, none⟩ = some (.int .i64 b) ∧ w'.cell? ⟨w.heap.size, 4, none⟩ = some (.int .i64 c) ∧ w'.cell? ⟨w.heap.size, 5, none⟩ = some (.int .i64 d)) (first | go_keep | ((repeat' apply And.intro) <;> (first | assumption | (rw [World.cell?_setCell_far _ _ _ _ hdn]; assumption) | (rw [World.cell?_setCell_far _ _ _ _ hdn, World.cell?_setCell_far _ _ _ _ hdn]; assumption)))) (first | fail)
 all_goals go_wp2
 all_goals (refine bodyPost_ret (results_cell_row rfl _ _ (w.heap.size + 1) 37 #[.int .i64 10, .int .i64 0, .int .i64 a, .int .i64 b, .int .i64 c, .int .i64 d, .slice none 0 0, .slice none 0 0] (0, 0) _ rfl ?_ Try.underlying37 rfl (by kernel_rfl)) rfl ?_)
 ·repeat (first | (with_reducible exact blk_new2 _ _ _) | (with_reducible refine blk_drewN ?_ _) | (with_reducible refine blk_drew ?_) | (with_reducible refine ret8 ?_) | (with_reducible refine blk_far ?_ (by show w.heap.size + 1 ≠ w.heap.size + 1 + 1; omega) _) | (with_reducible refine blk_alloc ?_ _))
 ·exact ⟨_, _, rfl, Kd.R_nil _ _ _ _ _, Kd.R_nil _ _ _ _ _, by repeat (first | (with_reducible exact Below.refl _ _) | (with_reducible refine below8 ?_ (Nat.le_succ _)) | (with_reducible apply below_alloc) | (with_reducible apply pw_below_drewN) | (with_reducible apply below_drew1) | (with_reducible refine below_set ?_ (by omega)))⟩
set_option maxHeartbeats 8000000 in
set_option maxRecDepth 100000 in
theorem own_11 (h a b c d : Int) (A6 : Option Addr) (c6 : Nat) (l6 : List Int) (A7 : Option Addr) (c7 : Nat) (l7 : List S62) (w : World) (hr6 : Kd.C (Kd.int .i64) w A6 l6.length l6) (hc6 : l6.length ≤ c6) (hr7 : Kd.C k62 w A7 l7.length l7) (hc7 : l7.length ≤ c7) (hl6 : l6.length ≤ 5000) (hl7 : l7.length ≤ 1100) :
  Calls Try.prog 17 #[.agg #[.int .i64 11, .int .i64 h, .int .i64 a, .int .i64 b, .int .i64 c, .int .i64 d, .slice A6 l6.length c6, .slice A7 l7.length c7]] w fun e w' => ∃ v6 v7, e = .returned (.agg #[.int .i64 11, .int .i64 0, .int .i64 a, .int .i64 0, .int .i64 0, .int .i64 0, v6, v7]) ∧ Kd.R (Kd.int .i64) 3 w' w.heap.size (fun _ => True) v6 [] ∧ Kd.R k62 62 w' w.heap.size (fun _ => True) v7 [] ∧ Below w.heap.size w w' := by
 have hu37 := Try.underlying37
 have H6 := Aside0.mk hr6
 have C6 := Aside0.mk hc6
 have H7 := Aside0.mk hr7
 have C7 := Aside0.mk hc7
 have R6 : Aside0 (slices_Clone_int_int.f l6 = some l6) := Aside0.mk (by have hx : l6.length < 17592186044416 := (by omega); simp [slices_Clone_int_int.f, hx])
 have R7 : Aside0 (api_Vertex.f l7 = some l7) := Aside0.mk (by have hx : l7.length < 1954687338268 := (by omega); simp [api_Vertex.f, hx])
 clear hr6 hc6 hr7 hc7 hl6 hl7
 have hdn : w.heap.size + 1 + 1 ≠ w.heap.size := by omega
 go_enter Try.func17, Try.ntmps17
 go_wp2
 all_goals (refine bodyPost_ret (results_cell_row rfl _ _ (w.heap.size + 1) 37 #[.int .i64 11, .int .i64 0, .int .i64 a, .int .i64 0, .int .i64 0, .int .i64 0, .slice none 0 0, .slice none 0 0] (0, 0) _ rfl ?_ Try.underlying37 rfl (by kernel_rfl)) rfl ?_)
 ·repeat (first | (with_reducible exact blk_new2 _ _ _) | (with_reducible refine blk_drewN ?_ _) | (with_reducible refine blk_drew ?_) | (with_reducible refine ret8 ?_) | (with_reducible refine blk_far ?_ (by show w.heap.size + 1 ≠ w.heap.size + 1 + 1; omega) _) | (with_reducible refine blk_alloc ?_ _))
 ·exact ⟨_, _, rfl, Kd.R_nil _ _ _ _ _, Kd.R_nil _ _ _ _ _, by repeat (first | (with_reducible exact Below.refl _ _) | (with_reducible refine below8 ?_ (Nat.le_succ _)) | (with_reducible apply below_alloc) | (with_reducible apply pw_below_drewN) | (with_reducible apply below_drew1) | (with_reducible refine below_set ?_ (by omega)))⟩
set_option maxHeartbeats 8000000 in
set_option maxRecDepth 100000 in
theorem own_12 (h a b c d : Int) (A6 : Option Addr) (c6 : Nat) (l6 : List Int) (A7 : Option Addr) (c7 : Nat) (l7 : List S62) (w : World) (hr6 : Kd.C (Kd.int .i64) w A6 l6.length l6) (hc6 : l6.length ≤ c6) (hr7 : Kd.C k62 w A7 l7.length l7) (hc7 : l7.length ≤ c7) (hl6 : l6.length ≤ 5000) (hl7 : l7.length ≤ 1100) :
  Calls Try.prog 17 #[.agg #[.int .i64 12, .int .i64 h, .int .i64 a, .int .i64 b, .int .i64 c, .int .i64 d, .slice A6 l6.length c6, .slice A7 l7.length c7]] w fun e w' => ∃ v6 v7, e = .returned (.agg #[.int .i64 12, .int .i64 h, .int .i64 a, .int .i64 b, .int .i64 0, .int .i64 0, v6, v7]) ∧ Kd.R (Kd.int .i64) 3 w' w.heap.size (fun _ => True) v6 [] ∧ Kd.R k62 62 w' w.heap.size (fun _ => True) v7 [] ∧ Below w.heap.size w w' := by
 have hu37 := Try.underlying37
 have H6 := Aside0.mk hr6
 have C6 := Aside0.mk hc6
 have H7 := Aside0.mk hr7
 have C7 := Aside0.mk hc7
 have R6 : Aside0 (slices_Clone_int_int.f l6 = some l6) := Aside0.mk (by have hx : l6.length < 17592186044416 := (by omega); simp [slices_Clone_int_int.f, hx])
 have R7 : Aside0 (api_Vertex.f l7 = some l7) := Aside0.mk (by have hx : l7.length < 1954687338268 := (by omega); simp [api_Vertex.f, hx])
 clear hr6 hc6 hr7 hc7 hl6 hl7
 have hdn : w.heap.size + 1 + 1 ≠ w.heap.size := by omega
 go_enter Try.func17, Try.ntmps17
 go_wp2
 go_region_held3 (fun w' => w'.cell? ⟨w.heap.size, 1, none⟩ = some (.int .i64 h) ∧ w'.cell? ⟨w.heap.size, 2, none⟩ = some (.int .i64 a) ∧ w'.cell? ⟨w.heap.size, 3, none⟩ = some (.int .i64 b)) (first | go_keep | ((repeat' apply And.intro) <;> (first | assumption | (rw [World.cell?_setCell_far _ _ _ _ hdn]; assumption) | (rw [World.cell?_setCell_far _ _ _ _ hdn, World.cell?_setCell_far _ _ _ _ hdn]; assumption)))) (first | fail)
 all_goals go_wp2
 all_goals (refine bodyPost_ret (results_cell_row rfl _ _ (w.heap.size + 1) 37 #[.int .i64 12, .int .i64 h, .int .i64 a, .int .i64 b, .int .i64 0, .int .i64 0, .slice none 0 0, .slice none 0 0] (0, 0) _ rfl ?_ Try.underlying37 rfl (by kernel_rfl)) rfl ?_)
 ·repeat (first | (with_reducible exact blk_new2 _ _ _) | (with_reducible refine blk_drewN ?_ _) | (with_reducible refine blk_drew ?_) | (with_reducible refine ret8 ?_) | (with_reducible refine blk_far ?_ (by show w.heap.size + 1 ≠ w.heap.size + 1 + 1; omega) _) | (with_reducible refine blk_alloc ?_ _))
 ·exact ⟨_, _, rfl, Kd.R_nil _ _ _ _ _, Kd.R_nil _ _ _ _ _, by repeat (first | (with_reducible exact Below.refl _ _) | (with_reducible refine below8 ?_ (Nat.le_succ _)) | (with_reducible apply below_alloc) | (with_reducible apply pw_below_drewN) | (with_reducible apply below_drew1) | (with_reducible refine below_set ?_ (by omega)))⟩
set_option maxHeartbeats 8000000 in
set_option maxRecDepth 100000 in
theorem own_13 (h a b c d : Int) (A6 : Option Addr) (c6 : Nat) (l6 : List Int) (A7 : Option Addr) (c7 : Nat) (l7 : List S62) (w : World) (hr6 : Kd.C (Kd.int .i64) w A6 l6.length l6) (hc6 : l6.length ≤ c6) (hr7 : Kd.C k62 w A7 l7.length l7) (hc7 : l7.length ≤ c7) (hl6 : l6.length ≤ 5000) (hl7 : l7.length ≤ 1100) :
  Calls Try.prog 17 #[.agg #[.int .i64 13, .int .i64 h, .int .i64 a, .int .i64 b, .int .i64 c, .int .i64 d, .slice A6 l6.length c6, .slice A7 l7.length c7]] w fun e w' => ∃ v6 v7, e = .returned (.agg #[.int .i64 13, .int .i64 0, .int .i64 a, .int .i64 b, .int .i64 c, .int .i64 d, v6, v7]) ∧ Kd.R (Kd.int .i64) 3 w' w.heap.size (fun _ => True) v6 [] ∧ Kd.R k62 62 w' w.heap.size (fun _ => True) v7 [] ∧ Below w.heap.size w w' := by
 have hu37 := Try.underlying37
 have H6 := Aside0.mk hr6
 have C6 := Aside0.mk hc6
 have H7 := Aside0.mk hr7
 have C7 := Aside0.mk hc7
 have R6 : Aside0 (slices_Clone_int_int.f l6 = some l6) := Aside0.mk (by have hx : l6.length < 17592186044416 := (by omega); simp [slices_Clone_int_int.f, hx])
 have R7 : Aside0 (api_Vertex.f l7 = some l7) := Aside0.mk (by have hx : l7.length < 1954687338268 := (by omega); simp [api_Vertex.f, hx])
 clear hr6 hc6 hr7 hc7 hl6 hl7
 have hdn : w.heap.size + 1 + 1 ≠ w.heap.size := by omega
 go_enter Try.func17, Try.ntmps17
 go_wp2
 go_region_held3 (fun w' => w'.cell? ⟨w.heap.size, 2, none⟩ = some (.int .i64 a) ∧ w'.cell? ⟨w.heap.size, 3, none⟩ = some (.int .i64 b) ∧ w'.cell? ⟨w.heap.size, 4, none⟩ = some (.int .i64 c) ∧ w'.cell? ⟨w.heap.size, 5, none⟩ = some (.int .i64 d)) (first | go_keep | ((repeat' apply And.intro) <;> (first | assumption | (rw [World.cell?_setCell_far _ _ _ _ hdn]; assumption) | (rw [World.cell?_setCell_far _ _ _ _ hdn, World.cell?_setCell_far _ _ _ _ hdn]; assumption)))) (first | fail)
 all_goals go_wp2
 all_goals (refine bodyPost_ret (results_cell_row rfl _ _ (w.heap.size + 1) 37 #[.int .i64 13, .int .i64 0, .int .i64 a, .int .i64 b, .int .i64 c, .int .i64 d, .slice none 0 0, .slice none 0 0] (0, 0) _ rfl ?_ Try.underlying37 rfl (by kernel_rfl)) rfl ?_)
 ·repeat (first | (with_reducible exact blk_new2 _ _ _) | (with_reducible refine blk_drewN ?_ _) | (with_reducible refine blk_drew ?_) | (with_reducible refine ret8 ?_) | (with_reducible refine blk_far ?_ (by show w.heap.size + 1 ≠ w.heap.size + 1 + 1; omega) _) | (with_reducible refine blk_alloc ?_ _))
 ·exact ⟨_, _, rfl, Kd.R_nil _ _ _ _ _, Kd.R_nil _ _ _ _ _, by repeat (first | (with_reducible exact Below.refl _ _) | (with_reducible refine below8 ?_ (Nat.le_succ _)) | (with_reducible apply below_alloc) | (with_reducible apply pw_below_drewN) | (with_reducible apply below_drew1) | (with_reducible refine below_set ?_ (by omega)))⟩
set_option maxHeartbeats 8000000 in
set_option maxRecDepth 100000 in
theorem own_14 (h a b c d : Int) (A6 : Option Addr) (c6 : Nat) (l6 : List Int) (A7 : Option Addr) (c7 : Nat) (l7 : List S62) (w : World) (hr6 : Kd.C (Kd.int .i64) w A6 l6.length l6) (hc6 : l6.length ≤ c6) (hr7 : Kd.C k62 w A7 l7.length l7) (hc7 : l7.length ≤ c7) (hl6 : l6.length ≤ 5000) (hl7 : l7.length ≤ 1100) :
  Calls Try.prog 17 #[.agg #[.int .i64 14, .int .i64 h, .int .i64 a, .int .i64 b, .int .i64 c, .int .i64 d, .slice A6 l6.length c6, .slice A7 l7.length c7]] w fun e w' => ∃ v6 v7, e = .returned (.agg #[.int .i64 14, .int .i64 h, .int .i64 a, .int .i64 b, .int .i64 c, .int .i64 0, v6, v7]) ∧ Kd.R (Kd.int .i64) 3 w' w.heap.size (fun _ => True) v6 [] ∧ Kd.R k62 62 w' w.heap.size (fun _ => True) v7 [] ∧ Below w.heap.size w w' := by
 have hu37 := Try.underlying37
 have H6 := Aside0.mk hr6
 have C6 := Aside0.mk hc6
 have H7 := Aside0.mk hr7
 have C7 := Aside0.mk hc7
 have R6 : Aside0 (slices_Clone_int_int.f l6 = some l6) := Aside0.mk (by have hx : l6.length < 17592186044416 := (by omega); simp [slices_Clone_int_int.f, hx])
 have R7 : Aside0 (api_Vertex.f l7 = some l7) := Aside0.mk (by have hx : l7.length < 1954687338268 := (by omega); simp [api_Vertex.f, hx])
 clear hr6 hc6 hr7 hc7 hl6 hl7
 have hdn : w.heap.size + 1 + 1 ≠ w.heap.size := by omega
 go_enter Try.func17, Try.ntmps17
 go_wp2
 go_region_held3 (fun w' => w'.cell? ⟨w.heap.size, 1, none⟩ = some (.int .i64 h) ∧ w'.cell? ⟨w.heap.size, 2, none⟩ = some (.int .i64 a) ∧ w'.cell? ⟨w.heap.size, 3, none⟩ = some (.int .i64 b) ∧ w'.cell? ⟨w.heap.size, 4, none⟩ = some (.int .i64 c)) (first | go_keep | ((repeat' apply And.intro) <;> (first | assumption | (rw [World.cell?_setCell_far _ _ _ _ hdn]; assumption) | (rw [World.cell?_setCell_far _ _ _ _ hdn, World.cell?_setCell_far _ _ _ _ hdn]; assumption)))) (first | fail)
 all_goals go_wp2
 all_goals (refine bodyPost_ret (results_cell_row rfl _ _ (w.heap.size + 1) 37 #[.int .i64 14, .int .i64 h, .int .i64 a, .int .i64 b, .int .i64 c, .int .i64 0, .slice none 0 0, .slice none 0 0] (0, 0) _ rfl ?_ Try.underlying37 rfl (by kernel_rfl)) rfl ?_)
 ·repeat (first | (with_reducible exact blk_new2 _ _ _) | (with_reducible refine blk_drewN ?_ _) | (with_reducible refine blk_drew ?_) | (with_reducible refine ret8 ?_) | (with_reducible refine blk_far ?_ (by show w.heap.size + 1 ≠ w.heap.size + 1 + 1; omega) _) | (with_reducible refine blk_alloc ?_ _))
 ·exact ⟨_, _, rfl, Kd.R_nil _ _ _ _ _, Kd.R_nil _ _ _ _ _, by repeat (first | (with_reducible exact Below.refl _ _) | (with_reducible refine below8 ?_ (Nat.le_succ _)) | (with_reducible apply below_alloc) | (with_reducible apply pw_below_drewN) | (with_reducible apply below_drew1) | (with_reducible refine below_set ?_ (by omega)))⟩
set_option maxHeartbeats 8000000 in
set_option maxRecDepth 100000 in
theorem own_15 (h a b c d : Int) (A6 : Option Addr) (c6 : Nat) (l6 : List Int) (A7 : Option Addr) (c7 : Nat) (l7 : List S62) (w : World) (hr6 : Kd.C (Kd.int .i64) w A6 l6.length l6) (hc6 : l6.length ≤ c6) (hr7 : Kd.C k62 w A7 l7.length l7) (hc7 : l7.length ≤ c7) (hl6 : l6.length ≤ 5000) (hl7 : l7.length ≤ 1100) :
  Calls Try.prog 17 #[.agg #[.int .i64 15, .int .i64 h, .int .i64 a, .int .i64 b, .int .i64 c, .int .i64 d, .slice A6 l6.length c6, .slice A7 l7.length c7]] w fun e w' => ∃ v6 v7, e = .returned (.agg #[.int .i64 15, .int .i64 0, .int .i64 0, .int .i64 0, .int .i64 0, .int .i64 0, v6, v7]) ∧ Kd.R (Kd.int .i64) 3 w' w.heap.size (fun _ => True) v6 [] ∧ Kd.R k62 62 w' w.heap.size (fun _ => True) v7 [] ∧ Below w.heap.size w w' := by
 have hu37 := Try.underlying37
 have H6 := Aside0.mk hr6
 have C6 := Aside0.mk hc6
 have H7 := Aside0.mk hr7
 have C7 := Aside0.mk hc7
 have R6 : Aside0 (slices_Clone_int_int.f l6 = some l6) := Aside0.mk (by have hx : l6.length < 17592186044416 := (by omega); simp [slices_Clone_int_int.f, hx])
 have R7 : Aside0 (api_Vertex.f l7 = some l7) := Aside0.mk (by have hx : l7.length < 1954687338268 := (by omega); simp [api_Vertex.f, hx])
 clear hr6 hc6 hr7 hc7 hl6 hl7
 have hdn : w.heap.size + 1 + 1 ≠ w.heap.size := by omega
 go_enter Try.func17, Try.ntmps17
 go_wp2
 all_goals (refine bodyPost_ret (results_cell_row rfl _ _ (w.heap.size + 1) 37 #[.int .i64 15, .int .i64 0, .int .i64 0, .int .i64 0, .int .i64 0, .int .i64 0, .slice none 0 0, .slice none 0 0] (0, 0) _ rfl ?_ Try.underlying37 rfl (by kernel_rfl)) rfl ?_)
 ·repeat (first | (with_reducible exact blk_new2 _ _ _) | (with_reducible refine blk_drewN ?_ _) | (with_reducible refine blk_drew ?_) | (with_reducible refine ret8 ?_) | (with_reducible refine blk_far ?_ (by show w.heap.size + 1 ≠ w.heap.size + 1 + 1; omega) _) | (with_reducible refine blk_alloc ?_ _))
 ·exact ⟨_, _, rfl, Kd.R_nil _ _ _ _ _, Kd.R_nil _ _ _ _ _, by repeat (first | (with_reducible exact Below.refl _ _) | (with_reducible refine below8 ?_ (Nat.le_succ _)) | (with_reducible apply below_alloc) | (with_reducible apply pw_below_drewN) | (with_reducible apply below_drew1) | (with_reducible refine below_set ?_ (by omega)))⟩
set_option maxHeartbeats 8000000 in
set_option maxRecDepth 100000 in
theorem own_16 (h a b c d : Int) (A6 : Option Addr) (c6 : Nat) (l6 : List Int) (A7 : Option Addr) (c7 : Nat) (l7 : List S62) (w : World) (hr6 : Kd.C (Kd.int .i64) w A6 l6.length l6) (hc6 : l6.length ≤ c6) (hr7 : Kd.C k62 w A7 l7.length l7) (hc7 : l7.length ≤ c7) (hl6 : l6.length ≤ 5000) (hl7 : l7.length ≤ 1100) :
  Calls Try.prog 17 #[.agg #[.int .i64 16, .int .i64 h, .int .i64 a, .int .i64 b, .int .i64 c, .int .i64 d, .slice A6 l6.length c6, .slice A7 l7.length c7]] w fun e w' => ∃ v6 v7, e = .returned (.agg #[.int .i64 16, .int .i64 0, .int .i64 a, .int .i64 0, .int .i64 0, .int .i64 0, v6, v7]) ∧ Kd.R (Kd.int .i64) 3 w' w.heap.size (fun _ => True) v6 [] ∧ Kd.R k62 62 w' w.heap.size (fun _ => True) v7 [] ∧ Below w.heap.size w w' := by
 have hu37 := Try.underlying37
 have H6 := Aside0.mk hr6
 have C6 := Aside0.mk hc6
 have H7 := Aside0.mk hr7
 have C7 := Aside0.mk hc7
 have R6 : Aside0 (slices_Clone_int_int.f l6 = some l6) := Aside0.mk (by have hx : l6.length < 17592186044416 := (by omega); simp [slices_Clone_int_int.f, hx])
 have R7 : Aside0 (api_Vertex.f l7 = some l7) := Aside0.mk (by have hx : l7.length < 1954687338268 := (by omega); simp [api_Vertex.f, hx])
 clear hr6 hc6 hr7 hc7 hl6 hl7
 have hdn : w.heap.size + 1 + 1 ≠ w.heap.size := by omega
 go_enter Try.func17, Try.ntmps17
 go_wp2
 all_goals (refine bodyPost_ret (results_cell_row rfl _ _ (w.heap.size + 1) 37 #[.int .i64 16, .int .i64 0, .int .i64 a, .int .i64 0, .int .i64 0, .int .i64 0, .slice none 0 0, .slice none 0 0] (0, 0) _ rfl ?_ Try.underlying37 rfl (by kernel_rfl)) rfl ?_)
 ·repeat (first | (with_reducible exact blk_new2 _ _ _) | (with_reducible refine blk_drewN ?_ _) | (with_reducible refine blk_drew ?_) | (with_reducible refine ret8 ?_) | (with_reducible refine blk_far ?_ (by show w.heap.size + 1 ≠ w.heap.size + 1 + 1; omega) _) | (with_reducible refine blk_alloc ?_ _))
 ·exact ⟨_, _, rfl, Kd.R_nil _ _ _ _ _, Kd.R_nil _ _ _ _ _, by repeat (first | (with_reducible exact Below.refl _ _) | (with_reducible refine below8 ?_ (Nat.le_succ _)) | (with_reducible apply below_alloc) | (with_reducible apply pw_below_drewN) | (with_reducible apply below_drew1) | (with_reducible refine below_set ?_ (by omega)))⟩
set_option maxHeartbeats 8000000 in
set_option maxRecDepth 100000 in
theorem own_17 (h a b c d : Int) (A6 : Option Addr) (c6 : Nat) (l6 : List Int) (A7 : Option Addr) (c7 : Nat) (l7 : List S62) (w : World) (hr6 : Kd.C (Kd.int .i64) w A6 l6.length l6) (hc6 : l6.length ≤ c6) (hr7 : Kd.C k62 w A7 l7.length l7) (hc7 : l7.length ≤ c7) (hl6 : l6.length ≤ 5000) (hl7 : l7.length ≤ 1100) :
  Calls Try.prog 17 #[.agg #[.int .i64 17, .int .i64 h, .int .i64 a, .int .i64 b, .int .i64 c, .int .i64 d, .slice A6 l6.length c6, .slice A7 l7.length c7]] w fun e w' => ∃ v6 v7, e = .returned (.agg #[.int .i64 17, .int .i64 0, .int .i64 a, .int .i64 0, .int .i64 0, .int .i64 0, v6, v7]) ∧ Kd.R (Kd.int .i64) 3 w' w.heap.size (fun _ => True) v6 [] ∧ Kd.R k62 62 w' w.heap.size (fun _ => True) v7 [] ∧ Below w.heap.size w w' := by
 have hu37 := Try.underlying37
 have H6 := Aside0.mk hr6
 have C6 := Aside0.mk hc6
 have H7 := Aside0.mk hr7
 have C7 := Aside0.mk hc7
 have R6 : Aside0 (slices_Clone_int_int.f l6 = some l6) := Aside0.mk (by have hx : l6.length < 17592186044416 := (by omega); simp [slices_Clone_int_int.f, hx])
 have R7 : Aside0 (api_Vertex.f l7 = some l7) := Aside0.mk (by have hx : l7.length < 1954687338268 := (by omega); simp [api_Vertex.f, hx])
 clear hr6 hc6 hr7 hc7 hl6 hl7
 have hdn : w.heap.size + 1 + 1 ≠ w.heap.size := by omega
 go_enter Try.func17, Try.ntmps17
 go_wp2
 all_goals (refine bodyPost_ret (results_cell_row rfl _ _ (w.heap.size + 1) 37 #[.int .i64 17, .int .i64 0, .int .i64 a, .int .i64 0, .int .i64 0, .int .i64 0, .slice none 0 0, .slice none 0 0] (0, 0) _ rfl ?_ Try.underlying37 rfl (by kernel_rfl)) rfl ?_)
 ·repeat (first | (with_reducible exact blk_new2 _ _ _) | (with_reducible refine blk_drewN ?_ _) | (with_reducible refine blk_drew ?_) | (with_reducible refine ret8 ?_) | (with_reducible refine blk_far ?_ (by show w.heap.size + 1 ≠ w.heap.size + 1 + 1; omega) _) | (with_reducible refine blk_alloc ?_ _))
 ·exact ⟨_, _, rfl, Kd.R_nil _ _ _ _ _, Kd.R_nil _ _ _ _ _, by repeat (first | (with_reducible exact Below.refl _ _) | (with_reducible refine below8 ?_ (Nat.le_succ _)) | (with_reducible apply below_alloc) | (with_reducible apply pw_below_drewN) | (with_reducible apply below_drew1) | (with_reducible refine below_set ?_ (by omega)))⟩
set_option maxHeartbeats 8000000 in
set_option maxRecDepth 100000 in
theorem own_18 (h a b c d : Int) (A6 : Option Addr) (c6 : Nat) (l6 : List Int) (A7 : Option Addr) (c7 : Nat) (l7 : List S62) (w : World) (hr6 : Kd.C (Kd.int .i64) w A6 l6.length l6) (hc6 : l6.length ≤ c6) (hr7 : Kd.C k62 w A7 l7.length l7) (hc7 : l7.length ≤ c7) (hl6 : l6.length ≤ 5000) (hl7 : l7.length ≤ 1100) :
  Calls Try.prog 17 #[.agg #[.int .i64 18, .int .i64 h, .int .i64 a, .int .i64 b, .int .i64 c, .int .i64 d, .slice A6 l6.length c6, .slice A7 l7.length c7]] w fun e w' => ∃ v6 v7, e = .returned (.agg #[.int .i64 18, .int .i64 h, .int .i64 a, .int .i64 b, .int .i64 c, .int .i64 d, v6, v7]) ∧ Kd.R (Kd.int .i64) 3 w' w.heap.size (fun _ => True) v6 [] ∧ Kd.R k62 62 w' w.heap.size (fun _ => True) v7 [] ∧ Below w.heap.size w w' := by
 have hu37 := Try.underlying37
 have H6 := Aside0.mk hr6
 have C6 := Aside0.mk hc6
 have H7 := Aside0.mk hr7
 have C7 := Aside0.mk hc7
 have R6 : Aside0 (slices_Clone_int_int.f l6 = some l6) := Aside0.mk (by have hx : l6.length < 17592186044416 := (by omega); simp [slices_Clone_int_int.f, hx])
 have R7 : Aside0 (api_Vertex.f l7 = some l7) := Aside0.mk (by have hx : l7.length < 1954687338268 := (by omega); simp [api_Vertex.f, hx])
 clear hr6 hc6 hr7 hc7 hl6 hl7
 have hdn : w.heap.size + 1 + 1 ≠ w.heap.size := by omega
 go_enter Try.func17, Try.ntmps17
 go_wp2
 go_region_held3 (fun w' => w'.cell? ⟨w.heap.size, 1, none⟩ = some (.int .i64 h) ∧ w'.cell? ⟨w.heap.size, 2, none⟩ = some (.int .i64 a) ∧ w'.cell? ⟨w.heap.size, 3, none⟩ = some (.int .i64 b) ∧ w'.cell? ⟨w.heap.size, 4, none⟩ = some (.int .i64 c) ∧ w'.cell? ⟨w.heap.size, 5, none⟩ = some (.int .i64 d)) (first | go_keep | ((repeat' apply And.intro) <;> (first | assumption | (rw [World.cell?_setCell_far _ _ _ _ hdn]; assumption) | (rw [World.cell?_setCell_far _ _ _ _ hdn, World.cell?_setCell_far _ _ _ _ hdn]; assumption)))) (first | fail)
 all_goals go_wp2
 all_goals (refine bodyPost_ret (results_cell_row rfl _ _ (w.heap.size + 1) 37 #[.int .i64 18, .int .i64 h, .int .i64 a, .int .i64 b, .int .i64 c, .int .i64 d, .slice none 0 0, .slice none 0 0] (0, 0) _ rfl ?_ Try.underlying37 rfl (by kernel_rfl)) rfl ?_)
 ·repeat (first | (with_reducible exact blk_new2 _ _ _) | (with_reducible refine blk_drewN ?_ _) | (with_reducible refine blk_drew ?_) | (with_reducible refine ret8 ?_) | (with_reducible refine blk_far ?_ (by show w.heap.size + 1 ≠ w.heap.size + 1 + 1; omega) _) | (with_reducible refine blk_alloc ?_ _))
 ·exact ⟨_, _, rfl, Kd.R_nil _ _ _ _ _, Kd.R_nil _ _ _ _ _, by repeat (first | (with_reducible exact Below.refl _ _) | (with_reducible refine below8 ?_ (Nat.le_succ _)) | (with_reducible apply below_alloc) | (with_reducible apply pw_below_drewN) | (with_reducible apply below_drew1) | (with_reducible refine below_set ?_ (by omega)))⟩
set_option maxHeartbeats 8000000 in
set_option maxRecDepth 100000 in
theorem own_19 (h a b c d : Int) (A6 : Option Addr) (c6 : Nat) (l6 : List Int) (A7 : Option Addr) (c7 : Nat) (l7 : List S62) (w : World) (hr6 : Kd.C (Kd.int .i64) w A6 l6.length l6) (hc6 : l6.length ≤ c6) (hr7 : Kd.C k62 w A7 l7.length l7) (hc7 : l7.length ≤ c7) (hl6 : l6.length ≤ 5000) (hl7 : l7.length ≤ 1100) :
  Calls Try.prog 17 #[.agg #[.int .i64 19, .int .i64 h, .int .i64 a, .int .i64 b, .int .i64 c, .int .i64 d, .slice A6 l6.length c6, .slice A7 l7.length c7]] w fun e w' => ∃ v6 v7, e = .returned (.agg #[.int .i64 19, .int .i64 0, .int .i64 0, .int .i64 0, .int .i64 0, .int .i64 0, v6, v7]) ∧ Kd.R (Kd.int .i64) 3 w' w.heap.size (fun _ => True) v6 [] ∧ Kd.R k62 62 w' w.heap.size (fun _ => True) v7 [] ∧ Below w.heap.size w w' := by
 have hu37 := Try.underlying37
 have H6 := Aside0.mk hr6
 have C6 := Aside0.mk hc6
 have H7 := Aside0.mk hr7
 have C7 := Aside0.mk hc7
 have R6 : Aside0 (slices_Clone_int_int.f l6 = some l6) := Aside0.mk (by have hx : l6.length < 17592186044416 := (by omega); simp [slices_Clone_int_int.f, hx])
 have R7 : Aside0 (api_Vertex.f l7 = some l7) := Aside0.mk (by have hx : l7.length < 1954687338268 := (by omega); simp [api_Vertex.f, hx])
 clear hr6 hc6 hr7 hc7 hl6 hl7
 have hdn : w.heap.size + 1 + 1 ≠ w.heap.size := by omega
 go_enter Try.func17, Try.ntmps17
 go_wp2
 all_goals (refine bodyPost_ret (results_cell_row rfl _ _ (w.heap.size + 1) 37 #[.int .i64 19, .int .i64 0, .int .i64 0, .int .i64 0, .int .i64 0, .int .i64 0, .slice none 0 0, .slice none 0 0] (0, 0) _ rfl ?_ Try.underlying37 rfl (by kernel_rfl)) rfl ?_)
 ·repeat (first | (with_reducible exact blk_new2 _ _ _) | (with_reducible refine blk_drewN ?_ _) | (with_reducible refine blk_drew ?_) | (with_reducible refine ret8 ?_) | (with_reducible refine blk_far ?_ (by show w.heap.size + 1 ≠ w.heap.size + 1 + 1; omega) _) | (with_reducible refine blk_alloc ?_ _))
 ·exact ⟨_, _, rfl, Kd.R_nil _ _ _ _ _, Kd.R_nil _ _ _ _ _, by repeat (first | (with_reducible exact Below.refl _ _) | (with_reducible refine below8 ?_ (Nat.le_succ _)) | (with_reducible apply below_alloc) | (with_reducible apply pw_below_drewN) | (with_reducible apply below_drew1) | (with_reducible refine below_set ?_ (by omega)))⟩
end Go.Proofs.Ytpgjkndijdleeaa.PCode
end
section
namespace Go.Proofs.Ytpgjkndijdleeaa.PCode
open Go.RowKit Go.Proofs.YtpgjkndijdleeaaW.PrintWords Go.Proofs.YtpgjkndijdleeaaW.PrintLast Go.Proofs.YtpgjkndijdleeaaW.PrintMore
set_option linter.unusedVariables false
set_option linter.unusedSimpArgs false
/-- A command with its own fields alone. -/
def ownS (x : S37) : S37 := if 1 ≤ x.f0 ∧ x.f0 ≤ 19 then ⟨x.f0, if 1 ∈ fo x.f0 then x.f1 else 0, if 2 ∈ fo x.f0 then x.f2 else 0, if 3 ∈ fo x.f0 then x.f3 else 0, if 4 ∈ fo x.f0 then x.f4 else 0, if 5 ∈ fo x.f0 then x.f5 else 0, if fl x.f0 = true then x.f6 else [], if fv x.f0 = true then x.f7 else []⟩ else ⟨0, 0, 0, 0, 0, 0, [], []⟩
def tp (x : S37) : Int × Int × Int × Int × Int × Int × List Int × (List (S62)) := (x.f0, x.f1, x.f2, x.f3, x.f4, x.f5, x.f6, x.f7)
def cmd_Own.f (a0_0 : Int) (a0_1 : Int) (a0_2 : Int) (a0_3 : Int) (a0_4 : Int) (a0_5 : Int) (l0_6 : List Int) (l0_7 : List (S62)) : Option (Int × Int × Int × Int × Int × Int × List Int × (List (S62))) := if l0_6.length ≤ 5000 ∧ l0_7.length ≤ 1100 then some (tp (ownS ⟨a0_0, a0_1, a0_2, a0_3, a0_4, a0_5, l0_6, l0_7⟩)) else none
theorem tp_inj {x : S37} (r1 : Int) (r2 : Int) (r3 : Int) (r4 : Int) (r5 : Int) (r6 : Int) (r7 : List Int) (r8 : List (S62)) (h : some (tp x) = some (r1, r2, r3, r4, r5, r6, r7, r8)) : x.f0 = r1 ∧ x.f1 = r2 ∧ x.f2 = r3 ∧ x.f3 = r4 ∧ x.f4 = r5 ∧ x.f5 = r6 ∧ x.f6 = r7 ∧ x.f7 = r8 := by
 have h1 := Option.some.inj h
 simp only [tp, Prod.mk.injEq] at h1
 exact h1
theorem own_spec (a0_0 : Int) (a0_1 : Int) (a0_2 : Int) (a0_3 : Int) (a0_4 : Int) (a0_5 : Int) (A0_6 : Option Addr) (c0_6 : Nat) (l0_6 : List Int) (A0_7 : Option Addr) (c0_7 : Nat) (l0_7 : List (S62)) (w : World) (hr0_6 : Kd.C (Kd.int .i64) w A0_6 l0_6.length l0_6) (hc0_6 : l0_6.length ≤ c0_6) (hr0_7 : Kd.C k62 w A0_7 l0_7.length l0_7) (hc0_7 : l0_7.length ≤ c0_7) (h6 : l0_6.length ≤ 5000) (h7 : l0_7.length ≤ 1100) :
  Calls Try.prog 17 #[.agg #[.int .i64 a0_0, .int .i64 a0_1, .int .i64 a0_2, .int .i64 a0_3, .int .i64 a0_4, .int .i64 a0_5, .slice A0_6 l0_6.length c0_6, .slice A0_7 l0_7.length c0_7]] w fun e w' => ∃ v6_ v7_ : Value, e = .returned (.agg #[.int .i64 (ownS ⟨a0_0, a0_1, a0_2, a0_3, a0_4, a0_5, l0_6, l0_7⟩).f0, .int .i64 (ownS ⟨a0_0, a0_1, a0_2, a0_3, a0_4, a0_5, l0_6, l0_7⟩).f1, .int .i64 (ownS ⟨a0_0, a0_1, a0_2, a0_3, a0_4, a0_5, l0_6, l0_7⟩).f2, .int .i64 (ownS ⟨a0_0, a0_1, a0_2, a0_3, a0_4, a0_5, l0_6, l0_7⟩).f3, .int .i64 (ownS ⟨a0_0, a0_1, a0_2, a0_3, a0_4, a0_5, l0_6, l0_7⟩).f4, .int .i64 (ownS ⟨a0_0, a0_1, a0_2, a0_3, a0_4, a0_5, l0_6, l0_7⟩).f5, v6_, v7_]) ∧ Kd.R (Kd.int .i64) 3 w' w.heap.size (fun _ => True) v6_ (ownS ⟨a0_0, a0_1, a0_2, a0_3, a0_4, a0_5, l0_6, l0_7⟩).f6 ∧ Kd.R k62 62 w' w.heap.size (fun _ => True) v7_ (ownS ⟨a0_0, a0_1, a0_2, a0_3, a0_4, a0_5, l0_6, l0_7⟩).f7 ∧ Below w.heap.size w w' := by
 by_cases hop : 1 ≤ a0_0 ∧ a0_0 ≤ 19
 ·have hk : a0_0 = 1 ∨ a0_0 = 2 ∨ a0_0 = 3 ∨ a0_0 = 4 ∨ a0_0 = 5 ∨ a0_0 = 6 ∨ a0_0 = 7 ∨ a0_0 = 8 ∨ a0_0 = 9 ∨ a0_0 = 10 ∨ a0_0 = 11 ∨ a0_0 = 12 ∨ a0_0 = 13 ∨ a0_0 = 14 ∨ a0_0 = 15 ∨ a0_0 = 16 ∨ a0_0 = 17 ∨ a0_0 = 18 ∨ a0_0 = 19 := by omega
  rcases hk with rfl | rfl | rfl | rfl | rfl | rfl | rfl | rfl | rfl | rfl | rfl | rfl | rfl | rfl | rfl | rfl | rfl | rfl | rfl
  ·exact own_1 a0_1 a0_2 a0_3 a0_4 a0_5 A0_6 c0_6 l0_6 A0_7 c0_7 l0_7 w hr0_6 hc0_6 hr0_7 hc0_7 h6 h7
  ·exact own_2 a0_1 a0_2 a0_3 a0_4 a0_5 A0_6 c0_6 l0_6 A0_7 c0_7 l0_7 w hr0_6 hc0_6 hr0_7 hc0_7 h6 h7
  ·exact own_3 a0_1 a0_2 a0_3 a0_4 a0_5 A0_6 c0_6 l0_6 A0_7 c0_7 l0_7 w hr0_6 hc0_6 hr0_7 hc0_7 h6 h7
  ·exact own_4 a0_1 a0_2 a0_3 a0_4 a0_5 A0_6 c0_6 l0_6 A0_7 c0_7 l0_7 w hr0_6 hc0_6 hr0_7 hc0_7 h6 h7
  ·exact own_5 a0_1 a0_2 a0_3 a0_4 a0_5 A0_6 c0_6 l0_6 A0_7 c0_7 l0_7 w hr0_6 hc0_6 hr0_7 hc0_7 h6 h7
  ·exact own_6 a0_1 a0_2 a0_3 a0_4 a0_5 A0_6 c0_6 l0_6 A0_7 c0_7 l0_7 w hr0_6 hc0_6 hr0_7 hc0_7 h6 h7
  ·exact own_7 a0_1 a0_2 a0_3 a0_4 a0_5 A0_6 c0_6 l0_6 A0_7 c0_7 l0_7 w hr0_6 hc0_6 hr0_7 hc0_7 h6 h7
  ·exact own_8 a0_1 a0_2 a0_3 a0_4 a0_5 A0_6 c0_6 l0_6 A0_7 c0_7 l0_7 w hr0_6 hc0_6 hr0_7 hc0_7 h6 h7
  ·exact own_9 a0_1 a0_2 a0_3 a0_4 a0_5 A0_6 c0_6 l0_6 A0_7 c0_7 l0_7 w hr0_6 hc0_6 hr0_7 hc0_7 h6 h7
  ·exact own_10 a0_1 a0_2 a0_3 a0_4 a0_5 A0_6 c0_6 l0_6 A0_7 c0_7 l0_7 w hr0_6 hc0_6 hr0_7 hc0_7 h6 h7
  ·exact own_11 a0_1 a0_2 a0_3 a0_4 a0_5 A0_6 c0_6 l0_6 A0_7 c0_7 l0_7 w hr0_6 hc0_6 hr0_7 hc0_7 h6 h7
  ·exact own_12 a0_1 a0_2 a0_3 a0_4 a0_5 A0_6 c0_6 l0_6 A0_7 c0_7 l0_7 w hr0_6 hc0_6 hr0_7 hc0_7 h6 h7
  ·exact own_13 a0_1 a0_2 a0_3 a0_4 a0_5 A0_6 c0_6 l0_6 A0_7 c0_7 l0_7 w hr0_6 hc0_6 hr0_7 hc0_7 h6 h7
  ·exact own_14 a0_1 a0_2 a0_3 a0_4 a0_5 A0_6 c0_6 l0_6 A0_7 c0_7 l0_7 w hr0_6 hc0_6 hr0_7 hc0_7 h6 h7
  ·exact own_15 a0_1 a0_2 a0_3 a0_4 a0_5 A0_6 c0_6 l0_6 A0_7 c0_7 l0_7 w hr0_6 hc0_6 hr0_7 hc0_7 h6 h7
  ·exact own_16 a0_1 a0_2 a0_3 a0_4 a0_5 A0_6 c0_6 l0_6 A0_7 c0_7 l0_7 w hr0_6 hc0_6 hr0_7 hc0_7 h6 h7
  ·exact own_17 a0_1 a0_2 a0_3 a0_4 a0_5 A0_6 c0_6 l0_6 A0_7 c0_7 l0_7 w hr0_6 hc0_6 hr0_7 hc0_7 h6 h7
  ·exact own_18 a0_1 a0_2 a0_3 a0_4 a0_5 A0_6 c0_6 l0_6 A0_7 c0_7 l0_7 w hr0_6 hc0_6 hr0_7 hc0_7 h6 h7
  ·exact own_19 a0_1 a0_2 a0_3 a0_4 a0_5 A0_6 c0_6 l0_6 A0_7 c0_7 l0_7 w hr0_6 hc0_6 hr0_7 hc0_7 h6 h7
 ·have e : ownS ⟨a0_0, a0_1, a0_2, a0_3, a0_4, a0_5, l0_6, l0_7⟩ = ⟨0, 0, 0, 0, 0, 0, [], []⟩ := if_neg hop
  rw [e]
  refine (own_none a0_0 a0_1 a0_2 a0_3 a0_4 a0_5 A0_6 c0_6 l0_6 A0_7 c0_7 l0_7 w (by omega)).mono ?_
  rintro en w' ⟨rfl, hb⟩
  exact ⟨_, _, rfl, Kd.R_nil _ _ _ _ _, Kd.R_nil _ _ _ _ _, hb⟩
theorem cmd_Own.calls (a0_0 : Int) (a0_1 : Int) (a0_2 : Int) (a0_3 : Int) (a0_4 : Int) (a0_5 : Int) (A0_6 : Option Addr) (c0_6 : Nat) (l0_6 : List Int) (A0_7 : Option Addr) (c0_7 : Nat) (l0_7 : List (S62)) (r1 : Int) (r2 : Int) (r3 : Int) (r4 : Int) (r5 : Int) (r6 : Int) (r7 : List Int) (r8 : List (S62)) (w : World) (hr0_6 : Kd.C (Kd.int .i64) w A0_6 l0_6.length l0_6) (hc0_6 : l0_6.length ≤ c0_6) (hr0_7 : Kd.C k62 w A0_7 l0_7.length l0_7) (hc0_7 : l0_7.length ≤ c0_7) (h : cmd_Own.f a0_0 a0_1 a0_2 a0_3 a0_4 a0_5 l0_6 l0_7 = some (r1, r2, r3, r4, r5, r6, r7, r8)) :
  Calls Try.prog 17 #[.agg #[.int .i64 a0_0, .int .i64 a0_1, .int .i64 a0_2, .int .i64 a0_3, .int .i64 a0_4, .int .i64 a0_5, .slice A0_6 l0_6.length c0_6, .slice A0_7 l0_7.length c0_7]] w fun e w' => ∃ v6_ v7_ : Value, e = .returned (.agg #[.int .i64 r1, .int .i64 r2, .int .i64 r3, .int .i64 r4, .int .i64 r5, .int .i64 r6, v6_, v7_]) ∧ Kd.R (Kd.int .i64) 3 w' w.heap.size (fun _ => True) v6_ r7 ∧ Kd.R k62 62 w' w.heap.size (fun _ => True) v7_ r8 ∧ Below w.heap.size w w' := by
 unfold cmd_Own.f at h
 split at h
 ·rename_i hg
  obtain ⟨rfl, rfl, rfl, rfl, rfl, rfl, rfl, rfl⟩ := tp_inj _ _ _ _ _ _ _ _ h
  exact own_spec a0_0 a0_1 a0_2 a0_3 a0_4 a0_5 A0_6 c0_6 l0_6 A0_7 c0_7 l0_7 w hr0_6 hc0_6 hr0_7 hc0_7 hg.1 hg.2
 ·exact absurd h (by simp)
end Go.Proofs.Ytpgjkndijdleeaa.PCode
end
section
namespace Go.Proofs.Ytpgjkndijdleeaa.PCode
open Go.RowKit Go.Proofs.YtpgjkndijdleeaaW.PrintWords Go.Proofs.YtpgjkndijdleeaaW.PrintLast Go.Proofs.YtpgjkndijdleeaaW.PrintMore
set_option linter.unusedVariables false
set_option linter.unusedSimpArgs false
theorem or_comm64 (a b : Int) (ha : 0 ≤ a ∧ a < 2 ^ 64) (hb : 0 ≤ b ∧ b < 2 ^ 64) : Go.bits .or .u64 a b = Go.bits .or .u64 b a := by
 obtain ⟨x, rfl⟩ := Int.eq_ofNat_of_zero_le ha.1
 obtain ⟨y, rfl⟩ := Int.eq_ofNat_of_zero_le hb.1
 rw [(bits_nat .u64 64 (by decide) wraps_u64 x y (by omega) (by omega)).2, (bits_nat .u64 64 (by decide) wraps_u64 y x (by omega) (by omega)).2, Nat.or_comm]
theorem p128 (n : Nat) : (2 : Int) ^ (7 * (n : Int)).toNat = 128 ^ n := by
 have e : (7 * (n : Int)).toNat = 7 * n := by omega
 rw [e, Int.pow_mul]
 rfl
theorem pow9 {n : Nat} (h : n ≤ 9) : n = 0 ∨ n = 1 ∨ n = 2 ∨ n = 3 ∨ n = 4 ∨ n = 5 ∨ n = 6 ∨ n = 7 ∨ n = 8 ∨ n = 9 := by omega
/-- One group more. -/
theorem or_add (n : Nat) (hn : n ≤ 9) (u x : Int) (hu : 0 ≤ u ∧ u < 128 ^ n) (hx : 0 ≤ x ∧ x ≤ 255) (h9 : n = 9 → x ≤ 1) : Go.bits .or .u64 u (IntKind.u64.wrap (x % 128 * 2 ^ (7 * (n : Int)).toNat)) = u + x % 128 * 128 ^ n := by
 rw [p128]
 have hP : (0 : Int) < 128 ^ n := by
  rcases pow9 hn with rfl | rfl | rfl | rfl | rfl | rfl | rfl | rfl | rfl | rfl <;> decide
 have hb : 0 ≤ x % 128 * 128 ^ n ∧ x % 128 * 128 ^ n < 2 ^ 64 ∧ u < 2 ^ 64 := by
  rcases pow9 hn with rfl | rfl | rfl | rfl | rfl | rfl | rfl | rfl | rfl | rfl <;> (first | omega | (have := h9 rfl; omega))
 have hmod : x % 128 * 128 ^ n % 2 ^ (7 * n) = 0 := by
  have e : (2 : Int) ^ (7 * n) = 128 ^ n := by rw [Int.pow_mul]; rfl
  rw [e]
  exact Int.mul_emod_left _ _
 have hlt : u < 2 ^ (7 * n) := by
  have e : (2 : Int) ^ (7 * n) = 128 ^ n := by rw [Int.pow_mul]; rfl
  rw [e]
  exact hu.2
 rw [wraps_u64 _ hb.1 hb.2.1, or_comm64 u _ ⟨hu.1, hb.2.2⟩ ⟨hb.1, hb.2.1⟩, bits_join .u64 64 (by decide) wraps_u64 (7 * n) _ u hb.1 hmod hb.2.1 hu.1 hlt hb.2.2]
 omega
theorem rcl_cn : ∀ (k n : Nat) (a v : Int) (rest : List Int), k + n = 10 → n ≤ 9 → 0 ≤ a ∧ a < 128 ^ n → 0 ≤ v → a + v * 128 ^ n < 18446744073709551616 → (0 < n → 0 < v) → rcl k (n : Int) a (cn k v ++ rest) = (a + v * 128 ^ n, rest, 0)
 | 0, n, a, v, rest, hk, hn, _, _, _, _ => by omega
 | k + 1, n, a, v, rest, hk, hn, ha, hv, hs, hz => by
  have hP : (0 : Int) < 128 ^ n := by
   rcases pow9 hn with rfl | rfl | rfl | rfl | rfl | rfl | rfl | rfl | rfl | rfl <;> decide
  simp only [cn]
  by_cases h : v ≥ 128
  ·have hn8 : n ≤ 8 := by
    rcases pow9 hn with rfl | rfl | rfl | rfl | rfl | rfl | rfl | rfl | rfl | rfl <;> omega
   rw [if_pos h, List.cons_append]
   simp only [rcl]
   rw [if_neg (by omega), if_neg (by omega), or_add n hn a _ ha (by omega) (by omega)]
   have e1 : (v % 128 + 128) % 128 = v % 128 := by omega
   have e2 : a + (v % 128) * 128 ^ n + v / 128 * 128 ^ (n + 1) = a + v * 128 ^ n := by
    have e : v = 128 * (v / 128) + v % 128 := by omega
    rw [Int.pow_succ]
    generalize (128 : Int) ^ n = P
    generalize hq : v / 128 = q at *
    generalize hr : v % 128 = r at *
    subst e
    grind
   have hm : 0 ≤ (v % 128) * 128 ^ n ∧ (v % 128) * 128 ^ n ≤ 127 * 128 ^ n := ⟨Int.mul_nonneg (by omega) (by omega), Int.mul_le_mul_of_nonneg_right (by omega) (by omega)⟩
   rw [e1, show (n : Int) + 1 = ((n + 1 : Nat) : Int) from by omega, rcl_cn k (n + 1) (a + v % 128 * 128 ^ n) (v / 128) rest (by omega) (by omega) ⟨by omega, by rw [Int.pow_succ]; omega⟩ (by omega) (by rw [e2]; exact hs) (fun _ => by omega), e2]
  ·rw [if_neg h, List.cons_append, List.nil_append]
   simp only [rcl]
   have h9 : n = 9 → v ≤ 1 := by rintro rfl; omega
   rw [if_neg (by omega), if_pos (by omega), or_add n hn a v ha (by omega) h9, show v % 128 = v from by omega]
theorem rcl_cnB {u : Int} (h0 : 0 ≤ u) (h1 : u < 18446744073709551616) (rest : List Int) : rcl 10 0 0 (cnB u ++ rest) = (u, rest, 0) := by
 have := rcl_cn 10 0 0 u rest (by omega) (by omega) ⟨by omega, by decide⟩ h0 (by simpa using h1) (by omega)
 simpa [cnB] using this
theorem rcl_inv : ∀ (k n : Nat) (a : Int) (l : List Int) (u : Int) (rest : List Int), k + n = 10 → n ≤ 10 → 0 ≤ a ∧ a < 128 ^ n → (∀ x ∈ l, 0 ≤ x ∧ x ≤ 255) → rcl k (n : Int) a l = (u, rest, 0) → ∃ v, u = a + v * 128 ^ n ∧ l = cn k v ++ rest ∧ 0 ≤ v ∧ (0 < n → 0 < v)
 | 0, n, a, l, u, rest, hk, hn, ha, hb, h => by simp [rcl] at h
 | k + 1, n, a, [], u, rest, hk, hn, ha, hb, h => by simp [rcl] at h
 | k + 1, n, a, x :: l, u, rest, hk, hn, ha, hb, h => by
  have hx := hb x (by simp)
  have hn9 : n ≤ 9 := by omega
  have hP : (0 : Int) < 128 ^ n := by
   rcases pow9 hn9 with rfl | rfl | rfl | rfl | rfl | rfl | rfl | rfl | rfl | rfl <;> decide
  simp only [rcl] at h
  by_cases hF : ((n : Int) = 9 ∧ 1 < x) ∨ (x = 0 ∧ 0 < (n : Int))
  ·rw [if_pos hF] at h
   simp at h
  ·rw [if_neg hF] at h
   have h9 : n = 9 → x ≤ 1 := fun e => by
    rcases Int.lt_or_le 1 x with h' | h'
    ·exact absurd (.inl ⟨by omega, h'⟩) hF
    ·exact h'
   rw [or_add n hn9 a x ha hx h9] at h
   by_cases h128 : x < 128
   ·rw [if_pos h128] at h
    simp only [Prod.mk.injEq, and_true] at h
    obtain ⟨rfl, rfl⟩ := h
    refine ⟨x, by rw [show x % 128 = x from by omega], ?_, hx.1, fun hn0 => ?_⟩
    ·simp only [cn]
     rw [if_neg (by omega)]
     rfl
    ·have : x ≠ 0 := fun e => hF (.inr ⟨e, by omega⟩)
     omega
   ·rw [if_neg h128, show (n : Int) + 1 = ((n + 1 : Nat) : Int) from by omega] at h
    have hm : 0 ≤ (x % 128) * 128 ^ n ∧ (x % 128) * 128 ^ n ≤ 127 * 128 ^ n := ⟨Int.mul_nonneg (by omega) (by omega), Int.mul_le_mul_of_nonneg_right (by omega) (by omega)⟩
    obtain ⟨v, hv1, hv2, hv3, hv4⟩ := rcl_inv k (n + 1) _ l u rest (by omega) (by omega) ⟨by omega, by rw [Int.pow_succ]; omega⟩ (fun y hy => hb y (List.mem_cons_of_mem _ hy)) h
    have hv5 := hv4 (by omega)
    refine ⟨x % 128 + 128 * v, ?_, ?_, by omega, fun _ => by omega⟩
    ·rw [hv1, Int.pow_succ]
     grind
    ·simp only [cn]
     rw [if_pos (by omega), show (x % 128 + 128 * v) % 128 + 128 = x from by omega, show (x % 128 + 128 * v) / 128 = v from by omega, hv2]
     rfl
theorem rcl_inv0 {l : List Int} {u : Int} {rest : List Int} (hb : ∀ x ∈ l, 0 ≤ x ∧ x ≤ 255) (h : rcl 10 0 0 l = (u, rest, 0)) : l = cnB u ++ rest ∧ 0 ≤ u ∧ u < 18446744073709551616 := by
 obtain ⟨v, h1, h2, h3, _⟩ := rcl_inv 10 0 0 l u rest (by omega) (by omega) ⟨by omega, by decide⟩ hb h
 have e : u = v := by rw [h1]; simp
 subst e
 have hr := rcl_rng 10 0 0 l
 rw [h] at hr
 exact ⟨h2, hr.1, hr.2⟩
theorem rnum_B {n : Int} (h : inI n) (rest : List Int) : rnum (numB n ++ rest) 0 = (n, rest, 0) := by
 have hz := zg_range h.1 h.2
 unfold rnum numB
 rw [if_pos rfl, rcl_cnB hz.1 hz.2]
 simp only
 rw [zig_is hz.1 hz.2, uz_zg]
theorem rnum_err {l : List Int} {e : Int} (h : e ≠ 0) : rnum l e = (0, l, e) := by unfold rnum; rw [if_neg h]
theorem rnum_inv {l : List Int} {e n : Int} {rest : List Int} (hb : ∀ x ∈ l, 0 ≤ x ∧ x ≤ 255) (h : rnum l e = (n, rest, 0)) : e = 0 ∧ l = numB n ++ rest ∧ inI n := by
 by_cases he : e = 0
 ·subst he
  unfold rnum at h
  rw [if_pos rfl] at h
  simp only [Prod.mk.injEq] at h
  obtain ⟨h1, h2, h3⟩ := h
  obtain ⟨hl, hu0, hu1⟩ := rcl_inv0 (u := (rcl 10 0 0 l).1) (rest := (rcl 10 0 0 l).2.1) hb (Prod.ext rfl (Prod.ext rfl h3))
  rw [zig_is hu0 hu1] at h1
  refine ⟨rfl, ?_, ?_⟩
  ·unfold numB
   rw [← h1, zg_uz hu0, ← h2]
   exact hl
  ·rw [← h1]
   exact uz_range hu0 hu1
 ·rw [rnum_err he] at h
  simp only [Prod.mk.injEq] at h
  exact absurd h.2.2 he
theorem fld_setf (x : S37) (o o' : Nat) (n : Int) (h : 1 ≤ o ∧ o ≤ 5) (h' : 1 ≤ o' ∧ o' ≤ 5) : fld (setf x o n) o' = if o' = o then n else fld x o' := by
 have hk : o = 1 ∨ o = 2 ∨ o = 3 ∨ o = 4 ∨ o = 5 := by omega
 have hk' : o' = 1 ∨ o' = 2 ∨ o' = 3 ∨ o' = 4 ∨ o' = 5 := by omega
 rcases hk with rfl | rfl | rfl | rfl | rfl <;> rcases hk' with rfl | rfl | rfl | rfl | rfl <;> rfl
theorem rflds_B : ∀ (os : List Nat) (x x0 : S37) (rest : List Int), (∀ o, inI (fld x o)) → rflds os x0 (numsB (os.map (fld x)) ++ rest) 0 = (os.foldl (fun y o => setf y o (fld x o)) x0, rest, 0)
 | [], x, x0, rest, _ => rfl
 | o :: os, x, x0, rest, h => by
  simp only [rflds, List.map_cons, numsB, List.flatMap_cons, List.append_assoc, List.foldl_cons]
  rw [rnum_B (h o)]
  exact rflds_B os x _ rest h
theorem rflds_err : ∀ (os : List Nat) (x : S37) (l : List Int) {e : Int}, e ≠ 0 → (rflds os x l e).2.2 ≠ 0
 | [], x, l, e, h => h
 | o :: os, x, l, e, h => by
  simp only [rflds]
  rw [rnum_err h]
  exact rflds_err os _ l h
theorem rflds_inv : ∀ (os : List Nat) (x0 x' : S37) (l rest : List Int) (e : Int), (∀ o ∈ os, 1 ≤ o ∧ o ≤ 5) → os.Nodup → (∀ x ∈ l, 0 ≤ x ∧ x ≤ 255) → rflds os x0 l e = (x', rest, 0) → e = 0 ∧ l = numsB (os.map (fld x')) ++ rest ∧ (∀ o ∈ os, inI (fld x' o)) ∧ (∀ o, 1 ≤ o ∧ o ≤ 5 → o ∉ os → fld x' o = fld x0 o) ∧ x'.f0 = x0.f0 ∧ x'.f6 = x0.f6 ∧ x'.f7 = x0.f7 ∧ (∀ x ∈ rest, 0 ≤ x ∧ x ≤ 255)
 | [], x0, x', l, rest, e, _, _, hb, h => by
  simp only [rflds, Prod.mk.injEq] at h
  obtain ⟨rfl, rfl, rfl⟩ := h
  exact ⟨rfl, rfl, by simp, fun _ _ _ => rfl, rfl, rfl, rfl, hb⟩
 | o :: os, x0, x', l, rest, e, ho, hnd, hb, h => by
  simp only [rflds] at h
  obtain ⟨n, l1, e1, hr⟩ : ∃ n l1 e1, rnum l e = (n, l1, e1) := ⟨_, _, _, rfl⟩
  rw [hr] at h
  have hnd' := List.nodup_cons.1 hnd
  have hoo := ho o (by simp)
  by_cases he1 : e1 = 0
  ·subst he1
   obtain ⟨rfl, hl, hn⟩ := rnum_inv hb hr
   have hb1 : ∀ x ∈ l1, 0 ≤ x ∧ x ≤ 255 := fun x hx => hb x (by rw [hl]; exact List.mem_append_right _ hx)
   obtain ⟨_, h1, h2, h3, h4, h5, h6, h7⟩ := rflds_inv os (setf x0 o n) x' l1 rest 0 (fun o' h' => ho o' (List.mem_cons_of_mem _ h')) hnd'.2 hb1 h
   have hfo : fld x' o = n := by rw [h3 o hoo hnd'.1, fld_setf _ _ _ _ hoo hoo, if_pos rfl]
   refine ⟨rfl, ?_, ?_, ?_, h4.trans (setf_op _ _ _), h5.trans (setf_ls _ _ _).1, h6.trans (setf_ls _ _ _).2, h7⟩
   ·simp only [List.map_cons, numsB, List.flatMap_cons, List.append_assoc]
    rw [hfo, hl, h1]
    rfl
   ·intro o' h'
    rcases List.mem_cons.1 h' with rfl | h'
    ·rw [hfo]; exact hn
    ·exact h2 o' h'
   ·intro o' hr' hno
    rw [h3 o' hr' (fun q => hno (List.mem_cons_of_mem _ q)), fld_setf _ _ _ _ hoo hr', if_neg (fun q => hno (by rw [q]; simp))]
  ·exact absurd (by rw [h]) (rflds_err os (setf x0 o n) l1 he1)
theorem rlist_B {most n : Int} (h0 : 0 ≤ n) (h1 : n ≤ most) (hm : most ≤ 100000) (rest : List Int) : rlist most (cnB n ++ rest) 0 = (n, rest, 0) := by
 unfold rlist
 rw [rcl_cnB h0 (by omega)]
 simp only [if_true]
 rw [if_neg (by omega)]
theorem rlist_inv {most n : Int} {l rest : List Int} {e : Int} (hb : ∀ x ∈ l, 0 ≤ x ∧ x ≤ 255) (h : rlist most l e = (n, rest, 0)) : e = 0 ∧ l = cnB n ++ rest ∧ 0 ≤ n ∧ n ≤ most := by
 unfold rlist at h
 split at h
 ·rename_i he
  split at h
  ·rename_i h2
   split at h
   ·simp at h
   ·rename_i h3
    simp only [Prod.mk.injEq, and_true] at h
    obtain ⟨hl, hu0, hu1⟩ := rcl_inv0 (u := (rcl 10 0 0 l).1) (rest := (rcl 10 0 0 l).2.1) hb (Prod.ext rfl (Prod.ext rfl h2))
    rw [h.1, h.2] at hl
    rw [h.1] at hu0 h3
    exact ⟨he, hl, hu0, by omega⟩
  ·rename_i h2
   simp only [Prod.mk.injEq] at h
   exact absurd h.2.2 h2
 ·rename_i he
  simp only [Prod.mk.injEq] at h
  exact absurd h.2.2 he
theorem rmany_B : ∀ (xs acc rest : List Int), (∀ n ∈ xs, inI n) → rmany xs.length acc (numsB xs ++ rest) 0 = (acc ++ xs, rest, 0)
 | [], acc, rest, _ => by simp [rmany, numsB]
 | n :: xs, acc, rest, h => by
  simp only [List.length_cons, rmany, if_true, numsB, List.flatMap_cons, List.append_assoc]
  rw [rnum_B (h n (by simp))]
  have := rmany_B xs (acc ++ [n]) rest (fun y hy => h y (List.mem_cons_of_mem _ hy))
  simpa [numsB] using this
theorem rmany_inv : ∀ (m : Nat) (acc acc' l rest : List Int) (e : Int), (∀ x ∈ l, 0 ≤ x ∧ x ≤ 255) → rmany m acc l e = (acc', rest, 0) → e = 0 ∧ ∃ xs, acc' = acc ++ xs ∧ xs.length = m ∧ l = numsB xs ++ rest ∧ (∀ n ∈ xs, inI n) ∧ (∀ x ∈ rest, 0 ≤ x ∧ x ≤ 255)
 | 0, acc, acc', l, rest, e, hb, h => by
  simp only [rmany, Prod.mk.injEq] at h
  obtain ⟨rfl, rfl, rfl⟩ := h
  exact ⟨rfl, [], by simp, rfl, by simp [numsB], by simp, hb⟩
 | m + 1, acc, acc', l, rest, e, hb, h => by
  simp only [rmany] at h
  by_cases he : e = 0
  ·rw [if_pos he] at h
   obtain ⟨n, l1, e1, hr⟩ : ∃ n l1 e1, rnum l e = (n, l1, e1) := ⟨_, _, _, rfl⟩
   rw [hr] at h
   have hb1 : e1 = 0 → l = numB n ++ l1 ∧ inI n := fun q => by
    rw [q] at hr
    exact (rnum_inv hb hr).2
   have hbl : e1 = 0 → ∀ x ∈ l1, 0 ≤ x ∧ x ≤ 255 := fun q x hx => hb x (by rw [(hb1 q).1]; exact List.mem_append_right _ hx)
   by_cases he1 : e1 = 0
   ·obtain ⟨_, xs, h1, h2, h3, h4, h5⟩ := rmany_inv m (acc ++ [n]) acc' l1 rest e1 (hbl he1) h
    refine ⟨he, n :: xs, by rw [h1]; simp, by simp [h2], ?_, ?_, h5⟩
    ·rw [(hb1 he1).1, h3]; simp [numsB]
    ·intro y hy
     rcases List.mem_cons.1 hy with rfl | hy
     ·exact (hb1 he1).2
     ·exact h4 y hy
   ·cases m with
    | zero =>
     simp only [rmany, Prod.mk.injEq] at h
     exact absurd h.2.2 he1
    | succ m =>
     simp only [rmany] at h
     rw [if_neg he1] at h
     simp only [Prod.mk.injEq] at h
     exact absurd h.2.2 he1
  ·rw [if_neg he] at h
   simp only [Prod.mk.injEq] at h
   exact absurd h.2.2 he
theorem rvs_B : ∀ (xs acc rest : List Int), (∀ n ∈ xs, inI n) → rvs xs.length acc (numsB xs ++ rest) 0 = (acc ++ xs, rest, 0)
 | [], acc, rest, _ => by simp [rvs, numsB]
 | n :: xs, acc, rest, h => by
  simp only [List.length_cons, rvs, numsB, List.flatMap_cons, List.append_assoc]
  rw [rnum_B (h n (by simp))]
  have := rvs_B xs (acc ++ [n]) rest (fun y hy => h y (List.mem_cons_of_mem _ hy))
  simpa [numsB] using this
theorem rvs_err : ∀ (m : Nat) (acc l : List Int) {e : Int}, e ≠ 0 → (rvs m acc l e).2.2 ≠ 0
 | 0, acc, l, e, h => h
 | m + 1, acc, l, e, h => by
  simp only [rvs]
  rw [rnum_err h]
  exact rvs_err m _ l h
theorem rvs_inv : ∀ (m : Nat) (acc acc' l rest : List Int) (e : Int), (∀ x ∈ l, 0 ≤ x ∧ x ≤ 255) → rvs m acc l e = (acc', rest, 0) → e = 0 ∧ ∃ xs, acc' = acc ++ xs ∧ xs.length = m ∧ l = numsB xs ++ rest ∧ (∀ n ∈ xs, inI n) ∧ (∀ x ∈ rest, 0 ≤ x ∧ x ≤ 255)
 | 0, acc, acc', l, rest, e, hb, h => by
  simp only [rvs, Prod.mk.injEq] at h
  obtain ⟨rfl, rfl, rfl⟩ := h
  exact ⟨rfl, [], by simp, rfl, by simp [numsB], by simp, hb⟩
 | m + 1, acc, acc', l, rest, e, hb, h => by
  simp only [rvs] at h
  obtain ⟨n, l1, e1, hr⟩ : ∃ n l1 e1, rnum l e = (n, l1, e1) := ⟨_, _, _, rfl⟩
  rw [hr] at h
  by_cases he1 : e1 = 0
  ·subst he1
   obtain ⟨rfl, hl, hn⟩ := rnum_inv hb hr
   obtain ⟨_, xs, h1, h2, h3, h4, h5⟩ := rvs_inv m (acc ++ [n]) acc' l1 rest 0 (fun x hx => hb x (by rw [hl]; exact List.mem_append_right _ hx)) h
   refine ⟨rfl, n :: xs, by rw [h1]; simp, by simp [h2], ?_, ?_, h5⟩
   ·rw [hl, h3]; simp [numsB]
   ·intro y hy
    rcases List.mem_cons.1 hy with rfl | hy
    ·exact hn
    ·exact h4 y hy
  ·exact absurd (by rw [h]) (rvs_err m (acc ++ [n]) l1 he1)
theorem vmk_vnums (v : S62) : vmk (vnums v) = v := rfl
theorem rverts_B : ∀ (vs acc : List S62) (rest : List Int), (∀ v ∈ vs, ∀ n ∈ vnums v, inI n) → rverts vs.length acc (numsB (vs.flatMap vnums) ++ rest) 0 = (acc ++ vs, rest, 0)
 | [], acc, rest, _ => by simp [rverts, numsB]
 | v :: vs, acc, rest, h => by
  simp only [List.length_cons, rverts, if_true, List.flatMap_cons, numsB_append, List.append_assoc]
  have h9 := rvs_B (vnums v) [] (numsB (vs.flatMap vnums) ++ rest) (h v (by simp))
  rw [show (vnums v).length = 9 from rfl, List.nil_append] at h9
  rw [h9]
  simp only
  rw [vmk_vnums, rverts_B vs (acc ++ [v]) rest (fun y hy => h y (List.mem_cons_of_mem _ hy))]
  simp
theorem rverts_inv : ∀ (m : Nat) (acc acc' : List S62) (l rest : List Int) (e : Int), (∀ x ∈ l, 0 ≤ x ∧ x ≤ 255) → rverts m acc l e = (acc', rest, 0) → e = 0 ∧ ∃ vs, acc' = acc ++ vs ∧ vs.length = m ∧ l = numsB (vs.flatMap vnums) ++ rest ∧ (∀ v ∈ vs, ∀ n ∈ vnums v, inI n) ∧ (∀ x ∈ rest, 0 ≤ x ∧ x ≤ 255)
 | 0, acc, acc', l, rest, e, hb, h => by
  simp only [rverts, Prod.mk.injEq] at h
  obtain ⟨rfl, rfl, rfl⟩ := h
  exact ⟨rfl, [], by simp, rfl, by simp [numsB], by simp, hb⟩
 | m + 1, acc, acc', l, rest, e, hb, h => by
  simp only [rverts] at h
  by_cases he : e = 0
  ·rw [if_pos he] at h
   obtain ⟨ns, l1, e1, hr⟩ : ∃ ns l1 e1, rvs 9 [] l 0 = (ns, l1, e1) := ⟨_, _, _, rfl⟩
   rw [he] at h
   rw [hr] at h
   by_cases he1 : e1 = 0
   ·subst he1
    obtain ⟨_, xs, hx1, hx2, hx3, hx4, hx5⟩ := rvs_inv 9 [] ns l l1 0 hb hr
    rw [List.nil_append] at hx1
    subst hx1
    obtain ⟨_, vs, h1, h2, h3, h4, h5⟩ := rverts_inv m _ acc' l1 rest 0 hx5 h
    have hvn : vnums (vmk ns) = ns := by
     match ns, hx2 with
     | [a, b, c, d, e', f, g, i, j], _ => rfl
    refine ⟨he, vmk ns :: vs, by rw [h1]; simp, by simp [h2], ?_, ?_, h5⟩
    ·rw [hx3, h3, List.flatMap_cons, hvn, numsB_append, List.append_assoc]
    ·intro y hy
     rcases List.mem_cons.1 hy with rfl | hy
     ·rw [hvn]; exact hx4
     ·exact h4 y hy
   ·cases m with
    | zero =>
     simp only [rverts, Prod.mk.injEq] at h
     exact absurd h.2.2 he1
    | succ m =>
     simp only [rverts] at h
     rw [if_neg he1] at h
     simp only [Prod.mk.injEq] at h
     exact absurd h.2.2 he1
  ·rw [if_neg he] at h
   simp only [Prod.mk.injEq] at h
   exact absurd h.2.2 he
end Go.Proofs.Ytpgjkndijdleeaa.PCode
end
section
namespace Go.Proofs.Ytpgjkndijdleeaa.PCode
open Go.RowKit Go.Proofs.YtpgjkndijdleeaaW.PrintWords Go.Proofs.YtpgjkndijdleeaaW.PrintLast Go.Proofs.YtpgjkndijdleeaaW.PrintMore
attribute [local go_sem] max2_int min2_int max_two min_two max_three min_three max_four min_four   -- for this text's walks alone
set_option linter.unusedVariables false
set_option linter.unusedSimpArgs false
theorem blk_at3 (w : World) (o o1 o2 : Obj) : (((w.alloc o).alloc o1).alloc o2).heap[w.heap.size + 1 + 1]? = some o2 ∧ (((w.alloc o).alloc o1).alloc o2).heap[w.heap.size + 1]? = some o1 ∧ (((w.alloc o).alloc o1).alloc o2).heap[w.heap.size]? = some o := by
 refine ⟨?_, ?_, blk_alloc (blk_alloc (blk_new w o) _) _⟩
 ·have h := blk_new ((w.alloc o).alloc o1) o2
  simpa using h
 ·have h := blk_new (w.alloc o) o1
  exact blk_alloc (by simpa using h) _
/-- What command gives. -/
def CmdPost (w : World) (r : S37 × Int) (e : Ending) (w' : World) : Prop := ∃ v6 v7 : Value, e = .returned (.agg #[.int .i64 r.1.f0, .int .i64 r.1.f1, .int .i64 r.1.f2, .int .i64 r.1.f3, .int .i64 r.1.f4, .int .i64 r.1.f5, v6, v7, .int .i64 r.2]) ∧ Kd.R (Kd.int .i64) 3 w' w.heap.size (fun _ => True) v6 r.1.f6 ∧ Kd.R k62 62 w' w.heap.size (fun _ => True) v7 r.1.f7 ∧ Below w.heap.size w w'
theorem ret9 {W : World} {g : Nat} {v0 v1 v2 v3 v4 v5 v6 v7 v8 : Value} (h : W.heap[g]? = some (.cells #[.int .i64 0, .int .i64 0, .int .i64 0, .int .i64 0, .int .i64 0, .int .i64 0, .slice none 0 0, .slice none 0 0, .int .i64 0] 39 (0, 0))) : (((((((((W.setCell ⟨g, 0, none⟩ v0).setCell ⟨g, 1, none⟩ v1).setCell ⟨g, 2, none⟩ v2).setCell ⟨g, 3, none⟩ v3).setCell ⟨g, 4, none⟩ v4).setCell ⟨g, 5, none⟩ v5).setCell ⟨g, 6, none⟩ v6).setCell ⟨g, 7, none⟩ v7).setCell ⟨g, 8, none⟩ v8).heap[g]? = some (.cells #[v0, v1, v2, v3, v4, v5, v6, v7, v8] 39 (0, 0)) :=
 blk_put (cs := #[v0, v1, v2, v3, v4, v5, v6, v7, .int .i64 0]) (cs' := #[v0, v1, v2, v3, v4, v5, v6, v7, v8]) (blk_put (cs := #[v0, v1, v2, v3, v4, v5, v6, .slice none 0 0, .int .i64 0]) (cs' := #[v0, v1, v2, v3, v4, v5, v6, v7, .int .i64 0]) (blk_put (cs := #[v0, v1, v2, v3, v4, v5, .slice none 0 0, .slice none 0 0, .int .i64 0]) (cs' := #[v0, v1, v2, v3, v4, v5, v6, .slice none 0 0, .int .i64 0]) (blk_put (cs := #[v0, v1, v2, v3, v4, .int .i64 0, .slice none 0 0, .slice none 0 0, .int .i64 0]) (cs' := #[v0, v1, v2, v3, v4, v5, .slice none 0 0, .slice none 0 0, .int .i64 0]) (blk_put (cs := #[v0, v1, v2, v3, .int .i64 0, .int .i64 0, .slice none 0 0, .slice none 0 0, .int .i64 0]) (cs' := #[v0, v1, v2, v3, v4, .int .i64 0, .slice none 0 0, .slice none 0 0, .int .i64 0]) (blk_put (cs := #[v0, v1, v2, .int .i64 0, .int .i64 0, .int .i64 0, .slice none 0 0, .slice none 0 0, .int .i64 0]) (cs' := #[v0, v1, v2, v3, .int .i64 0, .int .i64 0, .slice none 0 0, .slice none 0 0, .int .i64 0]) (blk_put (cs := #[v0, v1, .int .i64 0, .int .i64 0, .int .i64 0, .int .i64 0, .slice none 0 0, .slice none 0 0, .int .i64 0]) (cs' := #[v0, v1, v2, .int .i64 0, .int .i64 0, .int .i64 0, .slice none 0 0, .slice none 0 0, .int .i64 0]) (blk_put (cs := #[v0, .int .i64 0, .int .i64 0, .int .i64 0, .int .i64 0, .int .i64 0, .slice none 0 0, .slice none 0 0, .int .i64 0]) (cs' := #[v0, v1, .int .i64 0, .int .i64 0, .int .i64 0, .int .i64 0, .slice none 0 0, .slice none 0 0, .int .i64 0]) (blk_put (cs := #[.int .i64 0, .int .i64 0, .int .i64 0, .int .i64 0, .int .i64 0, .int .i64 0, .slice none 0 0, .slice none 0 0, .int .i64 0]) (cs' := #[v0, .int .i64 0, .int .i64 0, .int .i64 0, .int .i64 0, .int .i64 0, .slice none 0 0, .slice none 0 0, .int .i64 0]) (h) 0 v0 rfl) 1 v1 rfl) 2 v2 rfl) 3 v3 rfl) 4 v4 rfl) 5 v5 rfl) 6 v6 rfl) 7 v7 rfl) 8 v8 rfl
theorem below9 {w W : World} {g : Nat} {v0 v1 v2 v3 v4 v5 v6 v7 v8 : Value} (h : Below w.heap.size w W) (hg : w.heap.size ≤ g) : Below w.heap.size w (((((((((W.setCell ⟨g, 0, none⟩ v0).setCell ⟨g, 1, none⟩ v1).setCell ⟨g, 2, none⟩ v2).setCell ⟨g, 3, none⟩ v3).setCell ⟨g, 4, none⟩ v4).setCell ⟨g, 5, none⟩ v5).setCell ⟨g, 6, none⟩ v6).setCell ⟨g, 7, none⟩ v7).setCell ⟨g, 8, none⟩ v8) :=
 below_set (below_set (below_set (below_set (below_set (below_set (below_set (below_set (below_set (h) hg) hg) hg) hg) hg) hg) hg) hg) hg
theorem R_store9 {α : Type} {d : Kd α} {e : Nat} {w W : World} {g : Nat} {v : Value} {xs : List α} {v0 v1 v2 v3 v4 v5 v6 v7 v8 : Value} (h0 : d.R e W w.heap.size (fun _ => True) v xs) (hb : W.heap[g]? = some (.cells #[.int .i64 0, .int .i64 0, .int .i64 0, .int .i64 0, .int .i64 0, .int .i64 0, .slice none 0 0, .slice none 0 0, .int .i64 0] 39 (0, 0))) (ht : ∀ q, q ∈ e :: d.E → q ≠ 39) : d.R e (((((((((W.setCell ⟨g, 0, none⟩ v0).setCell ⟨g, 1, none⟩ v1).setCell ⟨g, 2, none⟩ v2).setCell ⟨g, 3, none⟩ v3).setCell ⟨g, 4, none⟩ v4).setCell ⟨g, 5, none⟩ v5).setCell ⟨g, 6, none⟩ v6).setCell ⟨g, 7, none⟩ v7).setCell ⟨g, 8, none⟩ v8) w.heap.size (fun _ => True) v xs := by
 have h := Kd.R_types h0 hb ht
 exact Kd.R_mono (Kd.R_far (p := ⟨g, 8, none⟩) (Kd.R_far (p := ⟨g, 7, none⟩) (Kd.R_far (p := ⟨g, 6, none⟩) (Kd.R_far (p := ⟨g, 5, none⟩) (Kd.R_far (p := ⟨g, 4, none⟩) (Kd.R_far (p := ⟨g, 3, none⟩) (Kd.R_far (p := ⟨g, 2, none⟩) (Kd.R_far (p := ⟨g, 1, none⟩) (Kd.R_far (p := ⟨g, 0, none⟩) (h) (fun _ hk => hk.2) _) (fun _ hk => hk.2) _) (fun _ hk => hk.2) _) (fun _ hk => hk.2) _) (fun _ hk => hk.2) _) (fun _ hk => hk.2) _) (fun _ hk => hk.2) _) (fun _ hk => hk.2) _) (fun _ hk => hk.2) _) (fun _ _ => trivial)
theorem itm_ok (x : S37) : itm x 0 = (x, 0) := rfl
theorem itm_5 (x : S37) : itm x 5 = (zc 0, 6) := rfl
theorem itm_e (x : S37) {e : Int} (h : e ≠ 0) (h5 : e ≠ 5) : itm x e = (zc 0, e) := by unfold itm; rw [if_neg h, if_neg h5]
theorem fin_nil (e : Int) : fin [] e = e := by unfold fin; simp
theorem fin_cons0 (y : Int) (l : List Int) : fin (y :: l) 0 = 6 := by unfold fin; simp
theorem fin_cons (y : Int) (l : List Int) {e : Int} (h : e ≠ 0) : fin (y :: l) e = e := by unfold fin; rw [if_neg (fun q => h q.1)]
set_option maxHeartbeats 8000000 in
set_option maxRecDepth 100000 in
theorem cmd_none (op : Int) (hop : 1 ≤ op ∧ op ≤ 19) (hfl : fl op = false) (hfv : fv op = false) (A0 : Option Addr) (c0 : Nat) (l0 : List Int) (w : World) (hC : Kd.C (Kd.int .u8) w A0 l0.length l0) (hc : l0.length ≤ c0) (hby : ∀ x ∈ l0, 0 ≤ x ∧ x ≤ 255) :
  Calls Try.prog 22 #[.int .i64 op, .slice A0 l0.length c0] w (CmdPost w (cmdR op l0)) := by
 have hu37 := Try.underlying37
 have hu54 := Try.underlying54
 have hu39 := Try.underlying39
 have HOP := Aside0.mk hop
 have HIN := Aside0.mk (And.intro hc (And.intro hC hby))
 have HO := Aside0.mk (fo_le op)
 have HFL := Aside0.mk hfl
 have HFV := Aside0.mk hfv
 clear hop hc hC hby
 go_enter Try.func22, Try.ntmps22
 go_wp2_with (first | (go_at_call 32; (refine (fields_any op HOP.out (w.heap.size + 1 + 1) _ _ _ _ _ _ _ _ (blk_at3 w _ _ _).1).mono ?_); rintro e w1 ⟨A, rfl, _, hb, hp⟩; have HP := Aside0.mk hp; have HB1 := Aside0.mk hb; have HB4 := Aside0.mk (blk_below (blk_at3 w _ _ _).2.2 hb); have HBr := Aside0.mk (blk_below (blk_at3 w _ _ _).2.1 hb); have HB6 := Aside0.mk (blk_below (blk_at3 w _ _ _).1 hb); clear hp hb))
 have HBel := Aside0.mk (below_step (below_alloc (below_alloc (below_alloc (Below.refl w.heap.size w) _) _) _) HB1.out)
 have HCS : Aside0 (CS w w1 w.heap.size (w.heap.size + 1) (w.heap.size + 1 + 1) (zc op) (.slice none 0 0) (.slice none 0 0) l0 0) := ⟨⟨HB4.out, ⟨A0, c0, HBr.out, HIN.out.1, HIN.out.2.1, HIN.out.2.2⟩, HB6.out, HBel.out, Nat.le_refl _, by omega, by omega⟩⟩
 clear HB1 HB4 HBr HB6 HBel
 have HQ : Aside0 (w1.ownsRow w.heap.size 76 1 (.slice A (fo op).length (fo op).length) (fo op).length (encs (fun o : Nat => Value.pointer (some ⟨w.heap.size + 1 + 1, o, none⟩)) (fo op))) := ⟨own_weaken HP.out (by simp; omega)⟩
 clear HP HIN
 go_loopg [29] ((fo op).length + 1) (fun kq v29 w' => ∃ (i : Nat) (x : S37) (l : List Int) (e : Int), v29 = .int .i64 i ∧ Aside0 (i + kq = (fo op).length + 1) ∧ Aside0 (CS w w' w.heap.size (w.heap.size + 1) (w.heap.size + 1 + 1) x (.slice none 0 0) (.slice none 0 0) l e) ∧ Aside0 (w'.ownsRow w.heap.size 76 1 (.slice A (fo op).length (fo op).length) (fo op).length (encs (fun o : Nat => Value.pointer (some ⟨w.heap.size + 1 + 1, o, none⟩)) (fo op))) ∧ Aside0 (rflds ((fo op).drop i) x l e = rdF op l0) ∧ Aside0 (x.f6 = [] ∧ x.f7 = []))
 case atStart => exact ⟨0, zc op, l0, 0, rfl, ⟨by omega⟩, HCS, HQ, ⟨rfl⟩, ⟨rfl, rfl⟩⟩
 case round =>
  clear HCS HQ
  obtain ⟨i, x, l, e, rfl, HI, HCS, HQ, HF, HLS⟩ := hrel
  have h5 : (fo op).length ≤ 5 := HO.out.1
  by_cases hlt : i < (fo op).length
  ·obtain ⟨k1, rfl⟩ : ∃ k1, gk = k1 + 1 := ⟨gk - 1, by have h1_ := HI.out; omega⟩
   obtain ⟨A', c', he, hrd⟩ := own_reads_of (d := 0) HQ.out
   have hA := (Value.slice.inj he).1
   clear he
   subst hA
   obtain ⟨ad, rfl, hp⟩ := ReadsOf.at_ hrd (i : Int) (by omega) (by omega)
   obtain ⟨o, ho⟩ : ∃ o, o = (fo op)[i] := ⟨_, rfl⟩
   have e0 : rdOf 0 (fo op) (i : Int) = o := by rw [ho]; simp [rdOf, List.getD_eq_getElem?_getD, hlt]
   have HOR : Aside0 (1 ≤ o ∧ o ≤ 5) := ⟨HO.out.2 o (by rw [ho]; exact List.getElem_mem hlt)⟩
   have HF2 : Aside0 (rflds ((fo op).drop (i + 1)) (setf x o (rnum l e).1) (rnum l e).2.1 (rnum l e).2.2 = rdF op l0) := ⟨by have h1_ := HF.out; rw [List.drop_eq_getElem_cons hlt, ← ho] at h1_; exact h1_⟩
   rw [e0] at hp
   simp only [Int.toNat_natCast] at hp
   clear hrd ho e0 HF
   go_wp2_with (go_at_call 34; (refine (number_any (w.heap.size + 1) l e w _ HCS.out.zr HCS.out.bel HCS.out.rd).mono ?_); rintro en w2 ⟨rfl, h1, h2, h3⟩; have HC2 := Aside0.mk (HCS.out.call h1 h2 h3); have HQ2 := Aside0.mk (h2.own HQ.out (by obtain ⟨A_, c_, hb_⟩ := HCS.out.rd.blk; exact fun q => own_ne HQ.out hb_ (by decide) q.symm) ((Classical.em _).imp id id)); have hc2 := HC2.out.cellf o HOR.out; have z2 := blk_frozen HC2.out.b6 o; clear h1 h2 h3)
   go_roundg k1
   case measure => omega
   case rel => exact ⟨i + 1, _, _, _, by go_num, ⟨by have h1_ := HI.out; omega⟩, ⟨HC2.out.put o HOR.out _⟩, ⟨own_setCell HQ2.out (own_ne HQ2.out HC2.out.b6 (by decide)) _⟩, HF2, ⟨by rw [(setf_ls _ _ _).1, (setf_ls _ _ _).2]; exact HLS.out⟩⟩
  ·have HF2 : Aside0 (rdF op l0 = (x, l, e)) := ⟨by have h1_ := HF.out; rw [List.drop_of_length_le (by omega)] at h1_; exact h1_.symm⟩
   clear HF HQ HI h5
   have HA : Aside0 (rdA op l0 = (x, l, e)) := ⟨by unfold rdA; rw [HFL.out, HFV.out]; exact HF2.out⟩
   have HR6 : Aside0 (Kd.R (Kd.int .i64) 3 wr w.heap.size (fun _ => True) (.slice none 0 0) x.f6) := ⟨by rw [HLS.out.1]; exact Kd.R_nil _ _ _ _ _⟩
   have HR7 : Aside0 (Kd.R k62 62 wr w.heap.size (fun _ => True) (.slice none 0 0) x.f7) := ⟨by rw [HLS.out.2]; exact Kd.R_nil _ _ _ _ _⟩
   obtain ⟨Ar, cr, hbr, _⟩ := HCS.out.rd
   have HBR := Aside0.mk hbr
   have r0 : wr.cell? ⟨w.heap.size + 1, 0, none⟩ = some (.slice Ar l.length cr) := (blk_cell hbr 0).trans rfl
   have r1 : wr.cell? ⟨w.heap.size + 1, 1, none⟩ = some (.int .i64 e) := (blk_cell hbr 1).trans rfl
   clear hbr
   cases l with
   | nil =>
    simp only [List.length_nil] at r0
    have k0 : wr.cell? ⟨w.heap.size, 0, none⟩ = some (.int .i64 0) := (blk_cell HCS.out.b4 0).trans rfl
    have k1 : wr.cell? ⟨w.heap.size, 1, none⟩ = some (.int .i64 0) := (blk_cell HCS.out.b4 1).trans rfl
    have k2 : wr.cell? ⟨w.heap.size, 2, none⟩ = some (.int .i64 0) := (blk_cell HCS.out.b4 2).trans rfl
    have k3 : wr.cell? ⟨w.heap.size, 3, none⟩ = some (.int .i64 0) := (blk_cell HCS.out.b4 3).trans rfl
    have k4 : wr.cell? ⟨w.heap.size, 4, none⟩ = some (.int .i64 0) := (blk_cell HCS.out.b4 4).trans rfl
    have k5 : wr.cell? ⟨w.heap.size, 5, none⟩ = some (.int .i64 0) := (blk_cell HCS.out.b4 5).trans rfl
    have k6 : wr.cell? ⟨w.heap.size, 6, none⟩ = some (.slice none 0 0) := (blk_cell HCS.out.b4 6).trans rfl
    have k7 : wr.cell? ⟨w.heap.size, 7, none⟩ = some (.slice none 0 0) := (blk_cell HCS.out.b4 7).trans rfl
    have k8 : wr.cell? ⟨w.heap.size, 8, none⟩ = some (.int .i64 0) := (blk_cell HCS.out.b4 8).trans rfl
    have q0 := blk_frozen HCS.out.b4 0
    have q1 := blk_frozen HCS.out.b4 1
    have q2 := blk_frozen HCS.out.b4 2
    have q3 := blk_frozen HCS.out.b4 3
    have q4 := blk_frozen HCS.out.b4 4
    have q5 := blk_frozen HCS.out.b4 5
    have q6 := blk_frozen HCS.out.b4 6
    have q7 := blk_frozen HCS.out.b4 7
    have q8 := blk_frozen HCS.out.b4 8
    by_cases h0 : e = 0
    ·subst h0
     have x0 : wr.cell? ⟨w.heap.size + 1 + 1, 0, none⟩ = some (.int .i64 x.f0) := (blk_cell HCS.out.b6 0).trans rfl
     have x1 : wr.cell? ⟨w.heap.size + 1 + 1, 1, none⟩ = some (.int .i64 x.f1) := (blk_cell HCS.out.b6 1).trans rfl
     have x2 : wr.cell? ⟨w.heap.size + 1 + 1, 2, none⟩ = some (.int .i64 x.f2) := (blk_cell HCS.out.b6 2).trans rfl
     have x3 : wr.cell? ⟨w.heap.size + 1 + 1, 3, none⟩ = some (.int .i64 x.f3) := (blk_cell HCS.out.b6 3).trans rfl
     have x4 : wr.cell? ⟨w.heap.size + 1 + 1, 4, none⟩ = some (.int .i64 x.f4) := (blk_cell HCS.out.b6 4).trans rfl
     have x5 : wr.cell? ⟨w.heap.size + 1 + 1, 5, none⟩ = some (.int .i64 x.f5) := (blk_cell HCS.out.b6 5).trans rfl
     have x6 : wr.cell? ⟨w.heap.size + 1 + 1, 6, none⟩ = some (.slice none 0 0) := (blk_cell HCS.out.b6 6).trans rfl
     have x7 : wr.cell? ⟨w.heap.size + 1 + 1, 7, none⟩ = some (.slice none 0 0) := (blk_cell HCS.out.b6 7).trans rfl
     go_wp2
     refine bodyPost_ret (results_cell_row rfl _ _ w.heap.size 39 #[.int .i64 x.f0, .int .i64 x.f1, .int .i64 x.f2, .int .i64 x.f3, .int .i64 x.f4, .int .i64 x.f5, .slice none 0 0, .slice none 0 0, .int .i64 0] (0, 0) _ rfl (ret9 HCS.out.b4) Try.underlying39 rfl (by kernel_rfl)) rfl ?_
     have hA_ : cmdR op l0 = (x, 0) := by unfold cmdR; rw [HA.out]; exact (congrArg _ (fin_nil _)).trans (itm_ok _)
     rw [hA_]
     exact ⟨_, _, rfl, R_store9 (HR6.out) HCS.out.b4 (by decide), R_store9 (HR7.out) HCS.out.b4 (by decide), below9 HCS.out.bel (Nat.le_refl _)⟩
    ·have n0 : (e == 0) = false := by simpa using h0
     by_cases h5 : e = 5
     ·subst h5
      clear h0 n0
      go_wp2
      refine bodyPost_ret (results_cell_row rfl _ _ w.heap.size 39 #[.int .i64 0, .int .i64 0, .int .i64 0, .int .i64 0, .int .i64 0, .int .i64 0, .slice none 0 0, .slice none 0 0, .int .i64 6] (0, 0) _ rfl (ret9 HCS.out.b4) Try.underlying39 rfl (by kernel_rfl)) rfl ?_
      have hA_ : cmdR op l0 = (zc 0, 6) := by unfold cmdR; rw [HA.out]; exact (congrArg _ (fin_nil _)).trans (itm_5 _)
      rw [hA_]
      exact ⟨(.slice none 0 0), (.slice none 0 0), rfl, R_store9 ((Kd.R_nil _ _ _ _ _)) HCS.out.b4 (by decide), R_store9 ((Kd.R_nil _ _ _ _ _)) HCS.out.b4 (by decide), below9 HCS.out.bel (Nat.le_refl _)⟩
     ·have n5 : (e == 5) = false := by simpa using h5
      have HN := Aside0.mk (And.intro h0 h5)
      clear h0 h5
      go_wp2
      refine bodyPost_ret (results_cell_row rfl _ _ w.heap.size 39 #[.int .i64 0, .int .i64 0, .int .i64 0, .int .i64 0, .int .i64 0, .int .i64 0, .slice none 0 0, .slice none 0 0, .int .i64 e] (0, 0) _ rfl (ret9 HCS.out.b4) Try.underlying39 rfl (by kernel_rfl)) rfl ?_
      have hA_ : cmdR op l0 = (zc 0, e) := by unfold cmdR; rw [HA.out]; exact (congrArg _ (fin_nil _)).trans (itm_e _ HN.out.1 HN.out.2)
      rw [hA_]
      exact ⟨(.slice none 0 0), (.slice none 0 0), rfl, R_store9 ((Kd.R_nil _ _ _ _ _)) HCS.out.b4 (by decide), R_store9 ((Kd.R_nil _ _ _ _ _)) HCS.out.b4 (by decide), below9 HCS.out.bel (Nat.le_refl _)⟩
   | cons y l =>
    have yl : 0 < (y :: l).length := by simp
    have dl : decide (0 < (y :: l).length) = true := decide_eq_true yl
    simp only [List.length_cons] at r0 yl dl
    have HLL : Aside0 (l.length + 1 = (y :: l).length) := ⟨rfl⟩
    by_cases h0 : e = 0
    ·subst h0
     go_wp2_with (go_at_call 21; (refine (fail_any (w.heap.size + 1) (y :: l) 0 6 w _ HCS.out.zr HCS.out.bel HCS.out.rd).mono ?_); rintro en w9 ⟨rfl, h1, h2, h3⟩; have HC9 := Aside0.mk (HCS.out.call h1 h2 h3); skip; obtain ⟨A9, c9, hb9, _⟩ := h1; have r9 : w9.cell? ⟨w.heap.size + 1, 1, none⟩ = some (.int .i64 6) := (blk_cell hb9 1).trans rfl; clear hb9 h2 h3; have k0 : w9.cell? ⟨w.heap.size, 0, none⟩ = some (.int .i64 0) := (blk_cell HC9.out.b4 0).trans rfl; have k1 : w9.cell? ⟨w.heap.size, 1, none⟩ = some (.int .i64 0) := (blk_cell HC9.out.b4 1).trans rfl; have k2 : w9.cell? ⟨w.heap.size, 2, none⟩ = some (.int .i64 0) := (blk_cell HC9.out.b4 2).trans rfl; have k3 : w9.cell? ⟨w.heap.size, 3, none⟩ = some (.int .i64 0) := (blk_cell HC9.out.b4 3).trans rfl; have k4 : w9.cell? ⟨w.heap.size, 4, none⟩ = some (.int .i64 0) := (blk_cell HC9.out.b4 4).trans rfl; have k5 : w9.cell? ⟨w.heap.size, 5, none⟩ = some (.int .i64 0) := (blk_cell HC9.out.b4 5).trans rfl; have k6 : w9.cell? ⟨w.heap.size, 6, none⟩ = some (.slice none 0 0) := (blk_cell HC9.out.b4 6).trans rfl; have k7 : w9.cell? ⟨w.heap.size, 7, none⟩ = some (.slice none 0 0) := (blk_cell HC9.out.b4 7).trans rfl; have k8 : w9.cell? ⟨w.heap.size, 8, none⟩ = some (.int .i64 0) := (blk_cell HC9.out.b4 8).trans rfl; have q0 := blk_frozen HC9.out.b4 0; have q1 := blk_frozen HC9.out.b4 1; have q2 := blk_frozen HC9.out.b4 2; have q3 := blk_frozen HC9.out.b4 3; have q4 := blk_frozen HC9.out.b4 4; have q5 := blk_frozen HC9.out.b4 5; have q6 := blk_frozen HC9.out.b4 6; have q7 := blk_frozen HC9.out.b4 7; have q8 := blk_frozen HC9.out.b4 8)
     go_wp2
     refine bodyPost_ret (results_cell_row rfl _ _ w.heap.size 39 #[.int .i64 0, .int .i64 0, .int .i64 0, .int .i64 0, .int .i64 0, .int .i64 0, .slice none 0 0, .slice none 0 0, .int .i64 6] (0, 0) _ rfl (ret9 HC9.out.b4) Try.underlying39 rfl (by kernel_rfl)) rfl ?_
     have hA_ : cmdR op l0 = (zc 0, 6) := by unfold cmdR; rw [HA.out]; exact (congrArg _ (fin_cons0 _ _)).trans (itm_e _ (by decide) (by decide))
     rw [hA_]
     exact ⟨(.slice none 0 0), (.slice none 0 0), rfl, R_store9 ((Kd.R_nil _ _ _ _ _)) HC9.out.b4 (by decide), R_store9 ((Kd.R_nil _ _ _ _ _)) HC9.out.b4 (by decide), below9 HC9.out.bel (Nat.le_refl _)⟩
    ·have n0 : (e == 0) = false := by simpa using h0
     have HE0 := Aside0.mk h0
     by_cases h5 : e = 5
     ·subst h5
      clear h0 n0
      go_wp2_with (go_at_call 21; (refine (fail_any (w.heap.size + 1) (y :: l) 5 6 w _ HCS.out.zr HCS.out.bel HCS.out.rd).mono ?_); rintro en w9 ⟨rfl, h1, h2, h3⟩; have HC9 := Aside0.mk (HCS.out.call h1 h2 h3); rw [if_neg HE0.out] at h1; obtain ⟨A9, c9, hb9, _⟩ := h1; have r9 : w9.cell? ⟨w.heap.size + 1, 1, none⟩ = some (.int .i64 5) := (blk_cell hb9 1).trans rfl; clear hb9 h2 h3; have k0 : w9.cell? ⟨w.heap.size, 0, none⟩ = some (.int .i64 0) := (blk_cell HC9.out.b4 0).trans rfl; have k1 : w9.cell? ⟨w.heap.size, 1, none⟩ = some (.int .i64 0) := (blk_cell HC9.out.b4 1).trans rfl; have k2 : w9.cell? ⟨w.heap.size, 2, none⟩ = some (.int .i64 0) := (blk_cell HC9.out.b4 2).trans rfl; have k3 : w9.cell? ⟨w.heap.size, 3, none⟩ = some (.int .i64 0) := (blk_cell HC9.out.b4 3).trans rfl; have k4 : w9.cell? ⟨w.heap.size, 4, none⟩ = some (.int .i64 0) := (blk_cell HC9.out.b4 4).trans rfl; have k5 : w9.cell? ⟨w.heap.size, 5, none⟩ = some (.int .i64 0) := (blk_cell HC9.out.b4 5).trans rfl; have k6 : w9.cell? ⟨w.heap.size, 6, none⟩ = some (.slice none 0 0) := (blk_cell HC9.out.b4 6).trans rfl; have k7 : w9.cell? ⟨w.heap.size, 7, none⟩ = some (.slice none 0 0) := (blk_cell HC9.out.b4 7).trans rfl; have k8 : w9.cell? ⟨w.heap.size, 8, none⟩ = some (.int .i64 0) := (blk_cell HC9.out.b4 8).trans rfl; have q0 := blk_frozen HC9.out.b4 0; have q1 := blk_frozen HC9.out.b4 1; have q2 := blk_frozen HC9.out.b4 2; have q3 := blk_frozen HC9.out.b4 3; have q4 := blk_frozen HC9.out.b4 4; have q5 := blk_frozen HC9.out.b4 5; have q6 := blk_frozen HC9.out.b4 6; have q7 := blk_frozen HC9.out.b4 7; have q8 := blk_frozen HC9.out.b4 8)
      go_wp2
      refine bodyPost_ret (results_cell_row rfl _ _ w.heap.size 39 #[.int .i64 0, .int .i64 0, .int .i64 0, .int .i64 0, .int .i64 0, .int .i64 0, .slice none 0 0, .slice none 0 0, .int .i64 6] (0, 0) _ rfl (ret9 HC9.out.b4) Try.underlying39 rfl (by kernel_rfl)) rfl ?_
      have hA_ : cmdR op l0 = (zc 0, 6) := by unfold cmdR; rw [HA.out]; exact (congrArg _ (fin_cons _ _ HE0.out)).trans (itm_5 _)
      rw [hA_]
      exact ⟨(.slice none 0 0), (.slice none 0 0), rfl, R_store9 ((Kd.R_nil _ _ _ _ _)) HC9.out.b4 (by decide), R_store9 ((Kd.R_nil _ _ _ _ _)) HC9.out.b4 (by decide), below9 HC9.out.bel (Nat.le_refl _)⟩
     ·have n5 : (e == 5) = false := by simpa using h5
      have HN := Aside0.mk (And.intro h0 h5)
      clear h0 h5
      go_wp2_with (go_at_call 21; (refine (fail_any (w.heap.size + 1) (y :: l) e 6 w _ HCS.out.zr HCS.out.bel HCS.out.rd).mono ?_); rintro en w9 ⟨rfl, h1, h2, h3⟩; have HC9 := Aside0.mk (HCS.out.call h1 h2 h3); rw [if_neg HE0.out] at h1; obtain ⟨A9, c9, hb9, _⟩ := h1; have r9 : w9.cell? ⟨w.heap.size + 1, 1, none⟩ = some (.int .i64 e) := (blk_cell hb9 1).trans rfl; clear hb9 h2 h3; have k0 : w9.cell? ⟨w.heap.size, 0, none⟩ = some (.int .i64 0) := (blk_cell HC9.out.b4 0).trans rfl; have k1 : w9.cell? ⟨w.heap.size, 1, none⟩ = some (.int .i64 0) := (blk_cell HC9.out.b4 1).trans rfl; have k2 : w9.cell? ⟨w.heap.size, 2, none⟩ = some (.int .i64 0) := (blk_cell HC9.out.b4 2).trans rfl; have k3 : w9.cell? ⟨w.heap.size, 3, none⟩ = some (.int .i64 0) := (blk_cell HC9.out.b4 3).trans rfl; have k4 : w9.cell? ⟨w.heap.size, 4, none⟩ = some (.int .i64 0) := (blk_cell HC9.out.b4 4).trans rfl; have k5 : w9.cell? ⟨w.heap.size, 5, none⟩ = some (.int .i64 0) := (blk_cell HC9.out.b4 5).trans rfl; have k6 : w9.cell? ⟨w.heap.size, 6, none⟩ = some (.slice none 0 0) := (blk_cell HC9.out.b4 6).trans rfl; have k7 : w9.cell? ⟨w.heap.size, 7, none⟩ = some (.slice none 0 0) := (blk_cell HC9.out.b4 7).trans rfl; have k8 : w9.cell? ⟨w.heap.size, 8, none⟩ = some (.int .i64 0) := (blk_cell HC9.out.b4 8).trans rfl; have q0 := blk_frozen HC9.out.b4 0; have q1 := blk_frozen HC9.out.b4 1; have q2 := blk_frozen HC9.out.b4 2; have q3 := blk_frozen HC9.out.b4 3; have q4 := blk_frozen HC9.out.b4 4; have q5 := blk_frozen HC9.out.b4 5; have q6 := blk_frozen HC9.out.b4 6; have q7 := blk_frozen HC9.out.b4 7; have q8 := blk_frozen HC9.out.b4 8)
      go_wp2
      refine bodyPost_ret (results_cell_row rfl _ _ w.heap.size 39 #[.int .i64 0, .int .i64 0, .int .i64 0, .int .i64 0, .int .i64 0, .int .i64 0, .slice none 0 0, .slice none 0 0, .int .i64 e] (0, 0) _ rfl (ret9 HC9.out.b4) Try.underlying39 rfl (by kernel_rfl)) rfl ?_
      have hA_ : cmdR op l0 = (zc 0, e) := by unfold cmdR; rw [HA.out]; exact (congrArg _ (fin_cons _ _ HE0.out)).trans (itm_e _ HN.out.1 HN.out.2)
      rw [hA_]
      exact ⟨(.slice none 0 0), (.slice none 0 0), rfl, R_store9 ((Kd.R_nil _ _ _ _ _)) HC9.out.b4 (by decide), R_store9 ((Kd.R_nil _ _ _ _ _)) HC9.out.b4 (by decide), below9 HC9.out.bel (Nat.le_refl _)⟩
end Go.Proofs.Ytpgjkndijdleeaa.PCode
end
section
namespace Go.Proofs.Ytpgjkndijdleeaa.PCode
open Go.RowKit Go.Proofs.YtpgjkndijdleeaaW.PrintWords Go.Proofs.YtpgjkndijdleeaaW.PrintLast Go.Proofs.YtpgjkndijdleeaaW.PrintMore
attribute [local go_sem] max2_int min2_int max_two min_two max_three min_three max_four min_four   -- for this text's walks alone
set_option linter.unusedVariables false
set_option linter.unusedSimpArgs false
theorem rlist_rng (most : Int) (hm : 0 ≤ most) (l : List Int) (e : Int) : 0 ≤ (rlist most l e).1 ∧ (rlist most l e).1 ≤ most := by
 have h := rcl_rng 10 0 0 l
 unfold rlist
 repeat' split
 all_goals first | (simp only; omega) | omega
theorem rmany_err (m : Nat) (acc l : List Int) {e : Int} (h : e ≠ 0) : rmany m acc l e = (acc, l, e) := by
 cases m with
 | zero => rfl
 | succ m => simp only [rmany]; rw [if_neg h]
theorem CS.same {w W : World} {g4 gr g6 : Nat} {x : S37} {v6 v7 : Value} {l : List Int} {e : Int} (h : CS w W g4 gr g6 x v6 v7 l e) (a : List Int) (b : List S62) : CS w W g4 gr g6 { x with f6 := a, f7 := b } v6 v7 l e :=
 ⟨h.b4, h.rd, h.b6, h.bel, h.z4, h.zr, h.z6⟩
theorem R_call {α : Type} {d : Kd α} {t : Nat} {w W W' : World} {gr : Nat} {v : Value} {xs : List α} {l : List Int} {e : Int} (h : d.R t W w.heap.size (fun _ => True) v xs) (hr : Rd w W gr l e) (hk : KeepBut W W' gr none) (ht : ∀ q, q ∈ t :: d.E → q ≠ 54) : d.R t W' w.heap.size (fun _ => True) v xs := by
 obtain ⟨A, c, hb⟩ := hr.blk
 exact Kd.R_mono (Kd.R_keep (Kd.R_types h hb ht) hk (fun _ hk => hk.2)) (fun _ _ => trivial)
theorem CS.rne {α : Type} {d : Kd α} {t : Nat} {w W : World} {g4 gr g6 : Nat} {x : S37} {v6 v7 v : Value} {l : List Int} {e : Int} {xs : List α} (h : CS w W g4 gr g6 x v6 v7 l e) (hr : d.R t W w.heap.size (fun _ => True) v xs) (h1 : t ≠ 39) (h2 : t ≠ 54) (h3 : t ≠ 37) : some g4 ≠ v.ownBlock ∧ some gr ≠ v.ownBlock ∧ some g6 ≠ v.ownBlock := by
 obtain ⟨A, c, hb⟩ := h.rd.blk
 exact ⟨Kd.R_ne hr h.b4 h1, Kd.R_ne hr hb h2, Kd.R_ne hr h.b6 h3⟩
set_option maxHeartbeats 8000000 in
set_option maxRecDepth 100000 in
theorem cmd_list (op : Int) (hop : 1 ≤ op ∧ op ≤ 19) (hfl : fl op = true) (hfv : fv op = false) (A0 : Option Addr) (c0 : Nat) (l0 : List Int) (w : World) (hC : Kd.C (Kd.int .u8) w A0 l0.length l0) (hc : l0.length ≤ c0) (hby : ∀ x ∈ l0, 0 ≤ x ∧ x ≤ 255) :
  Calls Try.prog 22 #[.int .i64 op, .slice A0 l0.length c0] w (CmdPost w (cmdR op l0)) := by
 have hu37 := Try.underlying37
 have hu54 := Try.underlying54
 have hu39 := Try.underlying39
 have HOP := Aside0.mk hop
 have HIN := Aside0.mk (And.intro hc (And.intro hC hby))
 have HO := Aside0.mk (fo_le op)
 have HFL := Aside0.mk hfl
 have HFV := Aside0.mk hfv
 clear hop hc hC hby
 go_enter Try.func22, Try.ntmps22
 go_wp2_with (first | (go_at_call 32; (refine (fields_any op HOP.out (w.heap.size + 1 + 1) _ _ _ _ _ _ _ _ (blk_at3 w _ _ _).1).mono ?_); rintro e w1 ⟨A, rfl, _, hb, hp⟩; have HP := Aside0.mk hp; have HB1 := Aside0.mk hb; have HB4 := Aside0.mk (blk_below (blk_at3 w _ _ _).2.2 hb); have HBr := Aside0.mk (blk_below (blk_at3 w _ _ _).2.1 hb); have HB6 := Aside0.mk (blk_below (blk_at3 w _ _ _).1 hb); clear hp hb))
 have HBel := Aside0.mk (below_step (below_alloc (below_alloc (below_alloc (Below.refl w.heap.size w) _) _) _) HB1.out)
 have HCS : Aside0 (CS w w1 w.heap.size (w.heap.size + 1) (w.heap.size + 1 + 1) (zc op) (.slice none 0 0) (.slice none 0 0) l0 0) := ⟨⟨HB4.out, ⟨A0, c0, HBr.out, HIN.out.1, HIN.out.2.1, HIN.out.2.2⟩, HB6.out, HBel.out, Nat.le_refl _, by omega, by omega⟩⟩
 clear HB1 HB4 HBr HB6 HBel
 have HQ : Aside0 (w1.ownsRow w.heap.size 76 1 (.slice A (fo op).length (fo op).length) (fo op).length (encs (fun o : Nat => Value.pointer (some ⟨w.heap.size + 1 + 1, o, none⟩)) (fo op))) := ⟨own_weaken HP.out (by simp; omega)⟩
 clear HP HIN
 go_loopg [29] ((fo op).length + 1) (fun kq v29 w' => ∃ (i : Nat) (x : S37) (l : List Int) (e : Int), v29 = .int .i64 i ∧ Aside0 (i + kq = (fo op).length + 1) ∧ Aside0 (CS w w' w.heap.size (w.heap.size + 1) (w.heap.size + 1 + 1) x (.slice none 0 0) (.slice none 0 0) l e) ∧ Aside0 (w'.ownsRow w.heap.size 76 1 (.slice A (fo op).length (fo op).length) (fo op).length (encs (fun o : Nat => Value.pointer (some ⟨w.heap.size + 1 + 1, o, none⟩)) (fo op))) ∧ Aside0 (rflds ((fo op).drop i) x l e = rdF op l0) ∧ Aside0 (x.f6 = [] ∧ x.f7 = []))
 case atStart => exact ⟨0, zc op, l0, 0, rfl, ⟨by omega⟩, HCS, HQ, ⟨rfl⟩, ⟨rfl, rfl⟩⟩
 case round =>
  clear HCS HQ
  obtain ⟨i, x, l, e, rfl, HI, HCS, HQ, HF, HLS⟩ := hrel
  have h5 : (fo op).length ≤ 5 := HO.out.1
  by_cases hlt : i < (fo op).length
  ·obtain ⟨k1, rfl⟩ : ∃ k1, gk = k1 + 1 := ⟨gk - 1, by have h1_ := HI.out; omega⟩
   obtain ⟨A', c', he, hrd⟩ := own_reads_of (d := 0) HQ.out
   have hA := (Value.slice.inj he).1
   clear he
   subst hA
   obtain ⟨ad, rfl, hp⟩ := ReadsOf.at_ hrd (i : Int) (by omega) (by omega)
   obtain ⟨o, ho⟩ : ∃ o, o = (fo op)[i] := ⟨_, rfl⟩
   have e0 : rdOf 0 (fo op) (i : Int) = o := by rw [ho]; simp [rdOf, List.getD_eq_getElem?_getD, hlt]
   have HOR : Aside0 (1 ≤ o ∧ o ≤ 5) := ⟨HO.out.2 o (by rw [ho]; exact List.getElem_mem hlt)⟩
   have HF2 : Aside0 (rflds ((fo op).drop (i + 1)) (setf x o (rnum l e).1) (rnum l e).2.1 (rnum l e).2.2 = rdF op l0) := ⟨by have h1_ := HF.out; rw [List.drop_eq_getElem_cons hlt, ← ho] at h1_; exact h1_⟩
   rw [e0] at hp
   simp only [Int.toNat_natCast] at hp
   clear hrd ho e0 HF
   go_wp2_with (go_at_call 34; (refine (number_any (w.heap.size + 1) l e w _ HCS.out.zr HCS.out.bel HCS.out.rd).mono ?_); rintro en w2 ⟨rfl, h1, h2, h3⟩; have HC2 := Aside0.mk (HCS.out.call h1 h2 h3); have HQ2 := Aside0.mk (h2.own HQ.out (by obtain ⟨A_, c_, hb_⟩ := HCS.out.rd.blk; exact fun q => own_ne HQ.out hb_ (by decide) q.symm) ((Classical.em _).imp id id)); have hc2 := HC2.out.cellf o HOR.out; have z2 := blk_frozen HC2.out.b6 o; clear h1 h2 h3)
   go_roundg k1
   case measure => omega
   case rel => exact ⟨i + 1, _, _, _, by go_num, ⟨by have h1_ := HI.out; omega⟩, ⟨HC2.out.put o HOR.out _⟩, ⟨own_setCell HQ2.out (own_ne HQ2.out HC2.out.b6 (by decide)) _⟩, HF2, ⟨by rw [(setf_ls _ _ _).1, (setf_ls _ _ _).2]; exact HLS.out⟩⟩
  ·have HF2 : Aside0 (rdF op l0 = (x, l, e)) := ⟨by have h1_ := HF.out; rw [List.drop_of_length_le (by omega)] at h1_; exact h1_.symm⟩
   clear HF HQ HI h5
   obtain ⟨n, l1, e1, hn⟩ : ∃ n l1 e1, rlist 4096 l e = (n, l1, e1) := ⟨_, _, _, rfl⟩
   have HN := Aside0.mk hn
   have hn0 : 0 ≤ n ∧ n ≤ 4096 := by have h1_ := rlist_rng 4096 (by decide) l e; rw [hn] at h1_; exact h1_
   clear hn
   obtain ⟨N, rfl⟩ := Int.eq_ofNat_of_zero_le hn0.1
   have hN : N ≤ 4096 := by omega
   clear hn0
   go_wp2_with (go_at_call 35; (refine (list_any (w.heap.size + 1) 4096 (by decide) l e w _ HCS.out.zr HCS.out.bel HCS.out.rd).mono ?_); rw [HN.out]; rintro en w3 ⟨rfl, h1, h2, h3⟩; have HC3 := Aside0.mk (HCS.out.call h1 h2 h3); clear h1 h2 h3)
   have HA : Aside0 (rdA op l0 = ({ x with f6 := (rmany N [] l1 e1).1, f7 := [] }, (rmany N [] l1 e1).2)) := ⟨by unfold rdA; rw [HFL.out, if_pos rfl, HF2.out]; unfold rdL; rw [HN.out, ← HLS.out.2]; rfl⟩
   clear HCS HF2 HN HLS
   go_loopg [12] (N + 1) (fun kq v12 w' => ∃ (m : Nat) (acc l : List Int) (e : Int) (v6 : Value), v12 = .int .i64 m ∧ Aside0 (m + 1 = kq) ∧ Aside0 (CS w w' w.heap.size (w.heap.size + 1) (w.heap.size + 1 + 1) x v6 (.slice none 0 0) l e) ∧ Aside0 (Kd.R (Kd.int .i64) 3 w' w.heap.size (fun _ => True) v6 acc) ∧ Aside0 (rmany m acc l e = rmany N [] l1 e1) ∧ Aside0 (acc.length + m ≤ 4096))
   case atStart => exact ⟨N, [], l1, e1, _, rfl, ⟨rfl⟩, HC3, ⟨Kd.R_nil _ _ _ _ _⟩, ⟨rfl⟩, ⟨by simpa using hN⟩⟩
   case round =>
    clear HC3
    obtain ⟨m, acc, l, e, v6, rfl, HM, HCS, HR6, HF, HLN⟩ := hrel
    obtain ⟨A6, c6, hv6⟩ := Kd.R_slice HR6.out
    subst hv6
    by_cases hgo : 0 < m ∧ e = 0
    ·obtain ⟨hm, rfl⟩ := hgo
     obtain ⟨m1, rfl⟩ : ∃ m1, m = m1 + 1 := ⟨m - 1, by omega⟩
     obtain ⟨k1, rfl⟩ : ∃ k1, gk = k1 + 1 := ⟨gk - 1, by have h1_ := HM.out; omega⟩
     have HF2 : Aside0 (rmany m1 (acc ++ [(rnum l 0).1]) (rnum l 0).2.1 (rnum l 0).2.2 = rmany N [] l1 e1) := ⟨HF.out⟩
     clear HF hm
     obtain ⟨Ar, cr, hbr, _⟩ := HCS.out.rd
     have r1 : wr.cell? ⟨w.heap.size + 1, 1, none⟩ = some (.int .i64 0) := (blk_cell hbr 1).trans rfl
     clear hbr
     have hm2 : m1 + 1 ≤ 4096 := by have h1_ := HLN.out; omega
     have HCSd := Aside0.mk HCS.out.drew
     have HRd : Aside0 (Kd.R (Kd.int .i64) 3 wr.drew w.heap.size (fun _ => True) (.slice A6 acc.length c6) acc) := ⟨Kd.R_drew HR6.out⟩
     have HLN2 : Aside0 (acc.length ≤ 4096) := ⟨by have h1_ := HLN.out; omega⟩
     go_wp2
     refine start_ (n := 8) (S := fun w' => w'.cell? ⟨w.heap.size + 1 + 1, 6, none⟩ = some (.slice A6 acc.length c6)) (ds := [7]) #[false, false, false, false, false, false, false, false] (by kernel_rfl) rfl rfl ((blk_cell HCSd.out.b6 6).trans rfl) (fun hHeld => ?_)
     refine pure_ (i := 0) (N := some 52) (v := ?_) (a' := ?_) #[true, false, false, false, false, false, false, false] rfl rfl (by kernel_rfl) (fun _ _ _ h => h) (Or.inl ⟨by rfl, ?_⟩) ?_ ?_
     rotate_left
     ·intro w'
      go_simp
      with_reducible rfl
     rotate_left
     ·simp only [Act.put, List.setIfInBounds_toArray, List.set_cons_zero, List.set_cons_succ, i64_w, i32_w]
      rfl
     refine pure_ (i := 2) (N := some 54) (v := ?_) (a' := ?_) #[true, false, true, false, false, false, false, false] rfl rfl (by kernel_rfl) (fun _ _ _ h => h) (Or.inl ⟨by rfl, ?_⟩) ?_ ?_
     rotate_left
     ·intro w'
      go_simp
      with_reducible rfl
     rotate_left
     ·simp only [Act.put, List.setIfInBounds_toArray, List.set_cons_zero, List.set_cons_succ, i64_w, i32_w]
      rfl
     refine take_ (i := 1) (N := some 53) (v := ?_) (a' := ?_) #[true, true, true, false, false, false, false, false] rfl rfl (by kernel_rfl) (fun _ _ _ h => h) (Or.inl ⟨by rfl, ?_⟩) hHeld ?_ ?_
     rotate_left
     ·intro w' s0
      go_simp
      with_reducible rfl
     rotate_left
     ·simp only [Act.put, List.setIfInBounds_toArray, List.set_cons_zero, List.set_cons_succ, i64_w, i32_w]
      rfl
     refine one_ (i := 3) (N := some 55) #[true, true, true, true, false, false, false, false] rfl rfl (by kernel_rfl) (by decide) (fun K hK => ?_)
     refine goes_ Try.func34 (by kernel_rfl) rfl #[.pointer (some ⟨w.heap.size + 1, 0, none⟩)] (by rfl) rfl rfl (by simp only [List.map_toArray, List.map_cons, List.map_nil]; rfl) ?_
     with_reducible refine (number_any (w.heap.size + 1) l 0 w _ HCSd.out.zr HCSd.out.bel HCSd.out.rd).mono ?_
     rintro en w2 ⟨rfl, h1, h2, h3⟩
     refine ⟨_, rfl, ?_⟩
     have HC2 := Aside0.mk (HCSd.out.call h1 h2 h3)
     have HR2 := Aside0.mk (R_call HRd.out HCSd.out.rd h2 (by decide))
     clear h1 h2 h3
     refine hK.out _ _ ((blk_cell HC2.out.b6 6).trans rfl) (fun hHeld => ?_)
     clear hK K
     refine norm_ (a' := ?_) ?_ ?_
     rotate_left
     ·show Act.put _ (some 55) _ = _
      simp only [Act.put, List.setIfInBounds_toArray, List.set_cons_zero, List.set_cons_succ, i64_w, i32_w]
      rfl
     refine one_ (i := 4) (N := some 56) #[true, true, true, true, true, false, false, false] rfl rfl (by kernel_rfl) (by decide) (fun K hK => ?_)
     refine value_ (w1 := ?_) (v := ?_) (by rfl) rfl ?_ ?_
     rotate_left 2
     ·go_simp
      constructor
      ·rfl
      ·rfl
     refine hK.out _ _ ((blk_cell (blk_alloc HC2.out.b6 _) 6).trans rfl) (fun hHeld => ?_)
     clear hK K
     refine norm_ (a' := ?_) ?_ ?_
     rotate_left
     ·show Act.put _ (some 56) _ = _
      simp only [Act.put, List.setIfInBounds_toArray, List.set_cons_zero, List.set_cons_succ, i64_w, i32_w]
      rfl
     refine one_ (i := 5) (N := some 57) #[true, true, true, true, true, true, false, false] rfl rfl (by kernel_rfl) (by decide) (fun K hK => ?_)
     refine Kd.R_append_step (Kd.int .i64) (w0 := w) w.heap.size (by rfl) (.tmp 53) (.tmp 56) 34 3 (.int .i64 0) 8 rfl Try.underlying34 info3 rfl (by decide) (by omega) _ acc (rnum l 0).1 [.int .i64 (rnum l 0).1] (fun _ => True) (fun k => w2.heap.size < k) rfl rfl ?aP ?aN ?aF HR2.out HC2.out.bel HC2.out.bel.size ?aL ?_
     (case aP => exact rfl)
     (case aN => exact fun k hk => ⟨trivial, fun q => by have h1_ := own_lt HR2.out.2.choose_spec.1 k q.symm; omega⟩)
     (case aF => exact fun _ _ => trivial)
     (case aL => have h1_ := HLN2.out; omega)
     intro v3 w4 ho hb hg hat
     obtain ⟨A7, c7, e7⟩ := Kd.R_slice ho
     subst e7
     have hne := HC2.out.rne HR2.out (by decide) (by decide) (by decide)
     have HC4 := Aside0.mk (HC2.out.grown hg hne.1 hne.2.1 hne.2.2 hb)
     rw [show (acc ++ [(rnum l 0).1]).length = acc.length + 1 from by simp] at ho
     have HR4 := Aside0.mk ho
     have z4 := blk_frozen HC4.out.b6 6
     clear ho hb hg hat hne
     refine hK.out _ _ ((blk_cell HC4.out.b6 6).trans rfl) (fun hHeld => ?_)
     clear hK K
     refine norm_ (a' := ?_) ?_ ?_
     rotate_left
     ·show Act.put _ (some 57) _ = _
      simp only [Act.put, List.setIfInBounds_toArray, List.set_cons_zero, List.set_cons_succ, i64_w, i32_w]
      rfl
     refine pure_ (i := 6) (N := some 58) (v := ?_) (a' := ?_) #[true, true, true, true, true, true, true, false] rfl rfl (by kernel_rfl) (fun _ _ _ h => h) (Or.inl ⟨by rfl, ?_⟩) ?_ ?_
     rotate_left
     ·intro w'
      go_simp
      with_reducible rfl
     rotate_left
     ·simp only [Act.put, List.setIfInBounds_toArray, List.set_cons_zero, List.set_cons_succ, i64_w, i32_w]
      rfl
     refine last_ (i := 7) (N := none) #[true, true, true, true, true, true, true, true] rfl rfl (by kernel_rfl) (by decide) (fun K hK => ?_)
     have y4 := hHeld
     refine skip_ (w1 := ?_) (by rfl) rfl ?_ ?_
     rotate_left
     ·go_simp
      rfl
     refine hK.out _ _ ?_
     clear hK K
     refine done_ (by kernel_rfl) ?_
     (try simp only [Exit.then, Exit.inBlock])
     go_wp2
     go_roundg k1
     case measure => omega
     case rel => exact ⟨m1, acc ++ [(rnum l 0).1], _, _, _, by go_num, ⟨by have h1_ := HM.out; omega⟩, ⟨HC4.out.put6 _⟩, ⟨Kd.R_mono (Kd.R_far (p := ⟨w.heap.size + 1 + 1, 6, none⟩) (Kd.R_types HR4.out HC4.out.b6 (by decide)) (fun _ hk => hk.2) _) (fun _ _ => trivial)⟩, HF2, ⟨by have h1_ := HLN.out; simp only [List.length_append, List.length_cons, List.length_nil]; omega⟩⟩
    ·have HF2 : Aside0 (rmany N [] l1 e1 = (acc, l, e)) := ⟨by
      have h1_ := HF.out
      rw [← h1_]
      by_cases he : e = 0
      ·have hm0 : m = 0 := by
        rcases Nat.eq_zero_or_pos m with h | h
        ·exact h
        ·exact absurd ⟨h, he⟩ hgo
       rw [hm0]; rfl
      ·exact rmany_err m acc l he⟩
     have HA2 : Aside0 (rdA op l0 = ({ x with f6 := acc, f7 := [] }, l, e)) := ⟨by rw [HA.out, HF2.out]⟩
     clear HF HA HF2
     obtain ⟨y, hy⟩ : ∃ y : S37, y = { x with f6 := acc, f7 := [] } := ⟨_, rfl⟩
     have HA : Aside0 (rdA op l0 = (y, l, e)) := ⟨by rw [hy]; exact HA2.out⟩
     have HCS2 : Aside0 (CS w wr w.heap.size (w.heap.size + 1) (w.heap.size + 1 + 1) y (.slice A6 acc.length c6) (.slice none 0 0) l e) := ⟨by rw [hy]; exact HCS.out.same _ _⟩
     have HR62 : Aside0 (Kd.R (Kd.int .i64) 3 wr w.heap.size (fun _ => True) (.slice A6 acc.length c6) y.f6) := ⟨by rw [hy]; exact HR6.out⟩
     have HR7 : Aside0 (Kd.R k62 62 wr w.heap.size (fun _ => True) (.slice none 0 0) y.f7) := ⟨by rw [hy]; exact Kd.R_nil _ _ _ _ _⟩
     clear hy HCS HR6 HA2
     have HCS := HCS2
     have HR6 := HR62
     clear HCS2 HR62
     have hgo2 : m = 0 ∨ (0 < m ∧ e ≠ 0) := by omega
     clear hgo
     rcases hgo2 with rfl | ⟨hm, he⟩
     ·skip
      obtain ⟨Ar, cr, hbr, _⟩ := HCS.out.rd
      have HBR := Aside0.mk hbr
      have r0 : wr.cell? ⟨w.heap.size + 1, 0, none⟩ = some (.slice Ar l.length cr) := (blk_cell hbr 0).trans rfl
      have r1 : wr.cell? ⟨w.heap.size + 1, 1, none⟩ = some (.int .i64 e) := (blk_cell hbr 1).trans rfl
      clear hbr
      cases l with
      | nil =>
       simp only [List.length_nil] at r0
       have k0 : wr.cell? ⟨w.heap.size, 0, none⟩ = some (.int .i64 0) := (blk_cell HCS.out.b4 0).trans rfl
       have k1 : wr.cell? ⟨w.heap.size, 1, none⟩ = some (.int .i64 0) := (blk_cell HCS.out.b4 1).trans rfl
       have k2 : wr.cell? ⟨w.heap.size, 2, none⟩ = some (.int .i64 0) := (blk_cell HCS.out.b4 2).trans rfl
       have k3 : wr.cell? ⟨w.heap.size, 3, none⟩ = some (.int .i64 0) := (blk_cell HCS.out.b4 3).trans rfl
       have k4 : wr.cell? ⟨w.heap.size, 4, none⟩ = some (.int .i64 0) := (blk_cell HCS.out.b4 4).trans rfl
       have k5 : wr.cell? ⟨w.heap.size, 5, none⟩ = some (.int .i64 0) := (blk_cell HCS.out.b4 5).trans rfl
       have k6 : wr.cell? ⟨w.heap.size, 6, none⟩ = some (.slice none 0 0) := (blk_cell HCS.out.b4 6).trans rfl
       have k7 : wr.cell? ⟨w.heap.size, 7, none⟩ = some (.slice none 0 0) := (blk_cell HCS.out.b4 7).trans rfl
       have k8 : wr.cell? ⟨w.heap.size, 8, none⟩ = some (.int .i64 0) := (blk_cell HCS.out.b4 8).trans rfl
       have q0 := blk_frozen HCS.out.b4 0
       have q1 := blk_frozen HCS.out.b4 1
       have q2 := blk_frozen HCS.out.b4 2
       have q3 := blk_frozen HCS.out.b4 3
       have q4 := blk_frozen HCS.out.b4 4
       have q5 := blk_frozen HCS.out.b4 5
       have q6 := blk_frozen HCS.out.b4 6
       have q7 := blk_frozen HCS.out.b4 7
       have q8 := blk_frozen HCS.out.b4 8
       by_cases h0 : e = 0
       ·subst h0
        have x0 : wr.cell? ⟨w.heap.size + 1 + 1, 0, none⟩ = some (.int .i64 y.f0) := (blk_cell HCS.out.b6 0).trans rfl
        have x1 : wr.cell? ⟨w.heap.size + 1 + 1, 1, none⟩ = some (.int .i64 y.f1) := (blk_cell HCS.out.b6 1).trans rfl
        have x2 : wr.cell? ⟨w.heap.size + 1 + 1, 2, none⟩ = some (.int .i64 y.f2) := (blk_cell HCS.out.b6 2).trans rfl
        have x3 : wr.cell? ⟨w.heap.size + 1 + 1, 3, none⟩ = some (.int .i64 y.f3) := (blk_cell HCS.out.b6 3).trans rfl
        have x4 : wr.cell? ⟨w.heap.size + 1 + 1, 4, none⟩ = some (.int .i64 y.f4) := (blk_cell HCS.out.b6 4).trans rfl
        have x5 : wr.cell? ⟨w.heap.size + 1 + 1, 5, none⟩ = some (.int .i64 y.f5) := (blk_cell HCS.out.b6 5).trans rfl
        have x6 : wr.cell? ⟨w.heap.size + 1 + 1, 6, none⟩ = some (.slice A6 acc.length c6) := (blk_cell HCS.out.b6 6).trans rfl
        have x7 : wr.cell? ⟨w.heap.size + 1 + 1, 7, none⟩ = some (.slice none 0 0) := (blk_cell HCS.out.b6 7).trans rfl
        go_wp2
        refine bodyPost_ret (results_cell_row rfl _ _ w.heap.size 39 #[.int .i64 y.f0, .int .i64 y.f1, .int .i64 y.f2, .int .i64 y.f3, .int .i64 y.f4, .int .i64 y.f5, .slice A6 acc.length c6, .slice none 0 0, .int .i64 0] (0, 0) _ rfl (ret9 HCS.out.b4) Try.underlying39 rfl (by kernel_rfl)) rfl ?_
        have hA_ : cmdR op l0 = (y, 0) := by unfold cmdR; rw [HA.out]; exact (congrArg _ (fin_nil _)).trans (itm_ok _)
        rw [hA_]
        exact ⟨.slice A6 acc.length c6, .slice none 0 0, rfl, R_store9 (HR6.out) HCS.out.b4 (by decide), R_store9 (HR7.out) HCS.out.b4 (by decide), below9 HCS.out.bel (Nat.le_refl _)⟩
       ·have n0 : (e == 0) = false := by simpa using h0
        by_cases h5 : e = 5
        ·subst h5
         clear h0 n0
         go_wp2
         refine bodyPost_ret (results_cell_row rfl _ _ w.heap.size 39 #[.int .i64 0, .int .i64 0, .int .i64 0, .int .i64 0, .int .i64 0, .int .i64 0, .slice none 0 0, .slice none 0 0, .int .i64 6] (0, 0) _ rfl (ret9 HCS.out.b4) Try.underlying39 rfl (by kernel_rfl)) rfl ?_
         have hA_ : cmdR op l0 = (zc 0, 6) := by unfold cmdR; rw [HA.out]; exact (congrArg _ (fin_nil _)).trans (itm_5 _)
         rw [hA_]
         exact ⟨(.slice none 0 0), (.slice none 0 0), rfl, R_store9 ((Kd.R_nil _ _ _ _ _)) HCS.out.b4 (by decide), R_store9 ((Kd.R_nil _ _ _ _ _)) HCS.out.b4 (by decide), below9 HCS.out.bel (Nat.le_refl _)⟩
        ·have n5 : (e == 5) = false := by simpa using h5
         have HN := Aside0.mk (And.intro h0 h5)
         clear h0 h5
         go_wp2
         refine bodyPost_ret (results_cell_row rfl _ _ w.heap.size 39 #[.int .i64 0, .int .i64 0, .int .i64 0, .int .i64 0, .int .i64 0, .int .i64 0, .slice none 0 0, .slice none 0 0, .int .i64 e] (0, 0) _ rfl (ret9 HCS.out.b4) Try.underlying39 rfl (by kernel_rfl)) rfl ?_
         have hA_ : cmdR op l0 = (zc 0, e) := by unfold cmdR; rw [HA.out]; exact (congrArg _ (fin_nil _)).trans (itm_e _ HN.out.1 HN.out.2)
         rw [hA_]
         exact ⟨(.slice none 0 0), (.slice none 0 0), rfl, R_store9 ((Kd.R_nil _ _ _ _ _)) HCS.out.b4 (by decide), R_store9 ((Kd.R_nil _ _ _ _ _)) HCS.out.b4 (by decide), below9 HCS.out.bel (Nat.le_refl _)⟩
      | cons y l =>
       have yl : 0 < (y :: l).length := by simp
       have dl : decide (0 < (y :: l).length) = true := decide_eq_true yl
       simp only [List.length_cons] at r0 yl dl
       have HLL : Aside0 (l.length + 1 = (y :: l).length) := ⟨rfl⟩
       by_cases h0 : e = 0
       ·subst h0
        go_wp2_with (go_at_call 21; (refine (fail_any (w.heap.size + 1) (y :: l) 0 6 w _ HCS.out.zr HCS.out.bel HCS.out.rd).mono ?_); rintro en w9 ⟨rfl, h1, h2, h3⟩; have HC9 := Aside0.mk (HCS.out.call h1 h2 h3); skip; obtain ⟨A9, c9, hb9, _⟩ := h1; have r9 : w9.cell? ⟨w.heap.size + 1, 1, none⟩ = some (.int .i64 6) := (blk_cell hb9 1).trans rfl; clear hb9 h2 h3; have k0 : w9.cell? ⟨w.heap.size, 0, none⟩ = some (.int .i64 0) := (blk_cell HC9.out.b4 0).trans rfl; have k1 : w9.cell? ⟨w.heap.size, 1, none⟩ = some (.int .i64 0) := (blk_cell HC9.out.b4 1).trans rfl; have k2 : w9.cell? ⟨w.heap.size, 2, none⟩ = some (.int .i64 0) := (blk_cell HC9.out.b4 2).trans rfl; have k3 : w9.cell? ⟨w.heap.size, 3, none⟩ = some (.int .i64 0) := (blk_cell HC9.out.b4 3).trans rfl; have k4 : w9.cell? ⟨w.heap.size, 4, none⟩ = some (.int .i64 0) := (blk_cell HC9.out.b4 4).trans rfl; have k5 : w9.cell? ⟨w.heap.size, 5, none⟩ = some (.int .i64 0) := (blk_cell HC9.out.b4 5).trans rfl; have k6 : w9.cell? ⟨w.heap.size, 6, none⟩ = some (.slice none 0 0) := (blk_cell HC9.out.b4 6).trans rfl; have k7 : w9.cell? ⟨w.heap.size, 7, none⟩ = some (.slice none 0 0) := (blk_cell HC9.out.b4 7).trans rfl; have k8 : w9.cell? ⟨w.heap.size, 8, none⟩ = some (.int .i64 0) := (blk_cell HC9.out.b4 8).trans rfl; have q0 := blk_frozen HC9.out.b4 0; have q1 := blk_frozen HC9.out.b4 1; have q2 := blk_frozen HC9.out.b4 2; have q3 := blk_frozen HC9.out.b4 3; have q4 := blk_frozen HC9.out.b4 4; have q5 := blk_frozen HC9.out.b4 5; have q6 := blk_frozen HC9.out.b4 6; have q7 := blk_frozen HC9.out.b4 7; have q8 := blk_frozen HC9.out.b4 8)
        go_wp2
        refine bodyPost_ret (results_cell_row rfl _ _ w.heap.size 39 #[.int .i64 0, .int .i64 0, .int .i64 0, .int .i64 0, .int .i64 0, .int .i64 0, .slice none 0 0, .slice none 0 0, .int .i64 6] (0, 0) _ rfl (ret9 HC9.out.b4) Try.underlying39 rfl (by kernel_rfl)) rfl ?_
        have hA_ : cmdR op l0 = (zc 0, 6) := by unfold cmdR; rw [HA.out]; exact (congrArg _ (fin_cons0 _ _)).trans (itm_e _ (by decide) (by decide))
        rw [hA_]
        exact ⟨(.slice none 0 0), (.slice none 0 0), rfl, R_store9 ((Kd.R_nil _ _ _ _ _)) HC9.out.b4 (by decide), R_store9 ((Kd.R_nil _ _ _ _ _)) HC9.out.b4 (by decide), below9 HC9.out.bel (Nat.le_refl _)⟩
       ·have n0 : (e == 0) = false := by simpa using h0
        have HE0 := Aside0.mk h0
        by_cases h5 : e = 5
        ·subst h5
         clear h0 n0
         go_wp2_with (go_at_call 21; (refine (fail_any (w.heap.size + 1) (y :: l) 5 6 w _ HCS.out.zr HCS.out.bel HCS.out.rd).mono ?_); rintro en w9 ⟨rfl, h1, h2, h3⟩; have HC9 := Aside0.mk (HCS.out.call h1 h2 h3); rw [if_neg HE0.out] at h1; obtain ⟨A9, c9, hb9, _⟩ := h1; have r9 : w9.cell? ⟨w.heap.size + 1, 1, none⟩ = some (.int .i64 5) := (blk_cell hb9 1).trans rfl; clear hb9 h2 h3; have k0 : w9.cell? ⟨w.heap.size, 0, none⟩ = some (.int .i64 0) := (blk_cell HC9.out.b4 0).trans rfl; have k1 : w9.cell? ⟨w.heap.size, 1, none⟩ = some (.int .i64 0) := (blk_cell HC9.out.b4 1).trans rfl; have k2 : w9.cell? ⟨w.heap.size, 2, none⟩ = some (.int .i64 0) := (blk_cell HC9.out.b4 2).trans rfl; have k3 : w9.cell? ⟨w.heap.size, 3, none⟩ = some (.int .i64 0) := (blk_cell HC9.out.b4 3).trans rfl; have k4 : w9.cell? ⟨w.heap.size, 4, none⟩ = some (.int .i64 0) := (blk_cell HC9.out.b4 4).trans rfl; have k5 : w9.cell? ⟨w.heap.size, 5, none⟩ = some (.int .i64 0) := (blk_cell HC9.out.b4 5).trans rfl; have k6 : w9.cell? ⟨w.heap.size, 6, none⟩ = some (.slice none 0 0) := (blk_cell HC9.out.b4 6).trans rfl; have k7 : w9.cell? ⟨w.heap.size, 7, none⟩ = some (.slice none 0 0) := (blk_cell HC9.out.b4 7).trans rfl; have k8 : w9.cell? ⟨w.heap.size, 8, none⟩ = some (.int .i64 0) := (blk_cell HC9.out.b4 8).trans rfl; have q0 := blk_frozen HC9.out.b4 0; have q1 := blk_frozen HC9.out.b4 1; have q2 := blk_frozen HC9.out.b4 2; have q3 := blk_frozen HC9.out.b4 3; have q4 := blk_frozen HC9.out.b4 4; have q5 := blk_frozen HC9.out.b4 5; have q6 := blk_frozen HC9.out.b4 6; have q7 := blk_frozen HC9.out.b4 7; have q8 := blk_frozen HC9.out.b4 8)
         go_wp2
         refine bodyPost_ret (results_cell_row rfl _ _ w.heap.size 39 #[.int .i64 0, .int .i64 0, .int .i64 0, .int .i64 0, .int .i64 0, .int .i64 0, .slice none 0 0, .slice none 0 0, .int .i64 6] (0, 0) _ rfl (ret9 HC9.out.b4) Try.underlying39 rfl (by kernel_rfl)) rfl ?_
         have hA_ : cmdR op l0 = (zc 0, 6) := by unfold cmdR; rw [HA.out]; exact (congrArg _ (fin_cons _ _ HE0.out)).trans (itm_5 _)
         rw [hA_]
         exact ⟨(.slice none 0 0), (.slice none 0 0), rfl, R_store9 ((Kd.R_nil _ _ _ _ _)) HC9.out.b4 (by decide), R_store9 ((Kd.R_nil _ _ _ _ _)) HC9.out.b4 (by decide), below9 HC9.out.bel (Nat.le_refl _)⟩
        ·have n5 : (e == 5) = false := by simpa using h5
         have HN := Aside0.mk (And.intro h0 h5)
         clear h0 h5
         go_wp2_with (go_at_call 21; (refine (fail_any (w.heap.size + 1) (y :: l) e 6 w _ HCS.out.zr HCS.out.bel HCS.out.rd).mono ?_); rintro en w9 ⟨rfl, h1, h2, h3⟩; have HC9 := Aside0.mk (HCS.out.call h1 h2 h3); rw [if_neg HE0.out] at h1; obtain ⟨A9, c9, hb9, _⟩ := h1; have r9 : w9.cell? ⟨w.heap.size + 1, 1, none⟩ = some (.int .i64 e) := (blk_cell hb9 1).trans rfl; clear hb9 h2 h3; have k0 : w9.cell? ⟨w.heap.size, 0, none⟩ = some (.int .i64 0) := (blk_cell HC9.out.b4 0).trans rfl; have k1 : w9.cell? ⟨w.heap.size, 1, none⟩ = some (.int .i64 0) := (blk_cell HC9.out.b4 1).trans rfl; have k2 : w9.cell? ⟨w.heap.size, 2, none⟩ = some (.int .i64 0) := (blk_cell HC9.out.b4 2).trans rfl; have k3 : w9.cell? ⟨w.heap.size, 3, none⟩ = some (.int .i64 0) := (blk_cell HC9.out.b4 3).trans rfl; have k4 : w9.cell? ⟨w.heap.size, 4, none⟩ = some (.int .i64 0) := (blk_cell HC9.out.b4 4).trans rfl; have k5 : w9.cell? ⟨w.heap.size, 5, none⟩ = some (.int .i64 0) := (blk_cell HC9.out.b4 5).trans rfl; have k6 : w9.cell? ⟨w.heap.size, 6, none⟩ = some (.slice none 0 0) := (blk_cell HC9.out.b4 6).trans rfl; have k7 : w9.cell? ⟨w.heap.size, 7, none⟩ = some (.slice none 0 0) := (blk_cell HC9.out.b4 7).trans rfl; have k8 : w9.cell? ⟨w.heap.size, 8, none⟩ = some (.int .i64 0) := (blk_cell HC9.out.b4 8).trans rfl; have q0 := blk_frozen HC9.out.b4 0; have q1 := blk_frozen HC9.out.b4 1; have q2 := blk_frozen HC9.out.b4 2; have q3 := blk_frozen HC9.out.b4 3; have q4 := blk_frozen HC9.out.b4 4; have q5 := blk_frozen HC9.out.b4 5; have q6 := blk_frozen HC9.out.b4 6; have q7 := blk_frozen HC9.out.b4 7; have q8 := blk_frozen HC9.out.b4 8)
         go_wp2
         refine bodyPost_ret (results_cell_row rfl _ _ w.heap.size 39 #[.int .i64 0, .int .i64 0, .int .i64 0, .int .i64 0, .int .i64 0, .int .i64 0, .slice none 0 0, .slice none 0 0, .int .i64 e] (0, 0) _ rfl (ret9 HC9.out.b4) Try.underlying39 rfl (by kernel_rfl)) rfl ?_
         have hA_ : cmdR op l0 = (zc 0, e) := by unfold cmdR; rw [HA.out]; exact (congrArg _ (fin_cons _ _ HE0.out)).trans (itm_e _ HN.out.1 HN.out.2)
         rw [hA_]
         exact ⟨(.slice none 0 0), (.slice none 0 0), rfl, R_store9 ((Kd.R_nil _ _ _ _ _)) HC9.out.b4 (by decide), R_store9 ((Kd.R_nil _ _ _ _ _)) HC9.out.b4 (by decide), below9 HC9.out.bel (Nat.le_refl _)⟩
     ·have hm2 : m ≤ 4096 := by have h1_ := HLN.out; omega
      have ne0 : (e == 0) = false := by simpa using he
      have HEE := Aside0.mk he
      clear he
      obtain ⟨Ar, cr, hbr, _⟩ := HCS.out.rd
      have HBR := Aside0.mk hbr
      have r0 : wr.cell? ⟨w.heap.size + 1, 0, none⟩ = some (.slice Ar l.length cr) := (blk_cell hbr 0).trans rfl
      have r1 : wr.cell? ⟨w.heap.size + 1, 1, none⟩ = some (.int .i64 e) := (blk_cell hbr 1).trans rfl
      clear hbr
      cases l with
      | nil =>
       simp only [List.length_nil] at r0
       have k0 : wr.cell? ⟨w.heap.size, 0, none⟩ = some (.int .i64 0) := (blk_cell HCS.out.b4 0).trans rfl
       have k1 : wr.cell? ⟨w.heap.size, 1, none⟩ = some (.int .i64 0) := (blk_cell HCS.out.b4 1).trans rfl
       have k2 : wr.cell? ⟨w.heap.size, 2, none⟩ = some (.int .i64 0) := (blk_cell HCS.out.b4 2).trans rfl
       have k3 : wr.cell? ⟨w.heap.size, 3, none⟩ = some (.int .i64 0) := (blk_cell HCS.out.b4 3).trans rfl
       have k4 : wr.cell? ⟨w.heap.size, 4, none⟩ = some (.int .i64 0) := (blk_cell HCS.out.b4 4).trans rfl
       have k5 : wr.cell? ⟨w.heap.size, 5, none⟩ = some (.int .i64 0) := (blk_cell HCS.out.b4 5).trans rfl
       have k6 : wr.cell? ⟨w.heap.size, 6, none⟩ = some (.slice none 0 0) := (blk_cell HCS.out.b4 6).trans rfl
       have k7 : wr.cell? ⟨w.heap.size, 7, none⟩ = some (.slice none 0 0) := (blk_cell HCS.out.b4 7).trans rfl
       have k8 : wr.cell? ⟨w.heap.size, 8, none⟩ = some (.int .i64 0) := (blk_cell HCS.out.b4 8).trans rfl
       have q0 := blk_frozen HCS.out.b4 0
       have q1 := blk_frozen HCS.out.b4 1
       have q2 := blk_frozen HCS.out.b4 2
       have q3 := blk_frozen HCS.out.b4 3
       have q4 := blk_frozen HCS.out.b4 4
       have q5 := blk_frozen HCS.out.b4 5
       have q6 := blk_frozen HCS.out.b4 6
       have q7 := blk_frozen HCS.out.b4 7
       have q8 := blk_frozen HCS.out.b4 8
       by_cases h0 : e = 0
       ·exact absurd h0 HEE.out
       ·have n0 : (e == 0) = false := by simpa using h0
        by_cases h5 : e = 5
        ·subst h5
         clear h0 n0
         go_wp2
         refine bodyPost_ret (results_cell_row rfl _ _ w.heap.size 39 #[.int .i64 0, .int .i64 0, .int .i64 0, .int .i64 0, .int .i64 0, .int .i64 0, .slice none 0 0, .slice none 0 0, .int .i64 6] (0, 0) _ rfl (ret9 HCS.out.b4) Try.underlying39 rfl (by kernel_rfl)) rfl ?_
         have hA_ : cmdR op l0 = (zc 0, 6) := by unfold cmdR; rw [HA.out]; exact (congrArg _ (fin_nil _)).trans (itm_5 _)
         rw [hA_]
         exact ⟨(.slice none 0 0), (.slice none 0 0), rfl, R_store9 ((Kd.R_nil _ _ _ _ _)) HCS.out.b4 (by decide), R_store9 ((Kd.R_nil _ _ _ _ _)) HCS.out.b4 (by decide), below9 HCS.out.bel (Nat.le_refl _)⟩
        ·have n5 : (e == 5) = false := by simpa using h5
         have HN := Aside0.mk (And.intro h0 h5)
         clear h0 h5
         go_wp2
         refine bodyPost_ret (results_cell_row rfl _ _ w.heap.size 39 #[.int .i64 0, .int .i64 0, .int .i64 0, .int .i64 0, .int .i64 0, .int .i64 0, .slice none 0 0, .slice none 0 0, .int .i64 e] (0, 0) _ rfl (ret9 HCS.out.b4) Try.underlying39 rfl (by kernel_rfl)) rfl ?_
         have hA_ : cmdR op l0 = (zc 0, e) := by unfold cmdR; rw [HA.out]; exact (congrArg _ (fin_nil _)).trans (itm_e _ HN.out.1 HN.out.2)
         rw [hA_]
         exact ⟨(.slice none 0 0), (.slice none 0 0), rfl, R_store9 ((Kd.R_nil _ _ _ _ _)) HCS.out.b4 (by decide), R_store9 ((Kd.R_nil _ _ _ _ _)) HCS.out.b4 (by decide), below9 HCS.out.bel (Nat.le_refl _)⟩
      | cons y l =>
       have yl : 0 < (y :: l).length := by simp
       have dl : decide (0 < (y :: l).length) = true := decide_eq_true yl
       simp only [List.length_cons] at r0 yl dl
       have HLL : Aside0 (l.length + 1 = (y :: l).length) := ⟨rfl⟩
       by_cases h0 : e = 0
       ·exact absurd h0 HEE.out
       ·have n0 : (e == 0) = false := by simpa using h0
        have HE0 := Aside0.mk h0
        by_cases h5 : e = 5
        ·subst h5
         clear h0 n0
         go_wp2_with (go_at_call 21; (refine (fail_any (w.heap.size + 1) (y :: l) 5 6 w _ HCS.out.zr HCS.out.bel HCS.out.rd).mono ?_); rintro en w9 ⟨rfl, h1, h2, h3⟩; have HC9 := Aside0.mk (HCS.out.call h1 h2 h3); rw [if_neg HE0.out] at h1; obtain ⟨A9, c9, hb9, _⟩ := h1; have r9 : w9.cell? ⟨w.heap.size + 1, 1, none⟩ = some (.int .i64 5) := (blk_cell hb9 1).trans rfl; clear hb9 h2 h3; have k0 : w9.cell? ⟨w.heap.size, 0, none⟩ = some (.int .i64 0) := (blk_cell HC9.out.b4 0).trans rfl; have k1 : w9.cell? ⟨w.heap.size, 1, none⟩ = some (.int .i64 0) := (blk_cell HC9.out.b4 1).trans rfl; have k2 : w9.cell? ⟨w.heap.size, 2, none⟩ = some (.int .i64 0) := (blk_cell HC9.out.b4 2).trans rfl; have k3 : w9.cell? ⟨w.heap.size, 3, none⟩ = some (.int .i64 0) := (blk_cell HC9.out.b4 3).trans rfl; have k4 : w9.cell? ⟨w.heap.size, 4, none⟩ = some (.int .i64 0) := (blk_cell HC9.out.b4 4).trans rfl; have k5 : w9.cell? ⟨w.heap.size, 5, none⟩ = some (.int .i64 0) := (blk_cell HC9.out.b4 5).trans rfl; have k6 : w9.cell? ⟨w.heap.size, 6, none⟩ = some (.slice none 0 0) := (blk_cell HC9.out.b4 6).trans rfl; have k7 : w9.cell? ⟨w.heap.size, 7, none⟩ = some (.slice none 0 0) := (blk_cell HC9.out.b4 7).trans rfl; have k8 : w9.cell? ⟨w.heap.size, 8, none⟩ = some (.int .i64 0) := (blk_cell HC9.out.b4 8).trans rfl; have q0 := blk_frozen HC9.out.b4 0; have q1 := blk_frozen HC9.out.b4 1; have q2 := blk_frozen HC9.out.b4 2; have q3 := blk_frozen HC9.out.b4 3; have q4 := blk_frozen HC9.out.b4 4; have q5 := blk_frozen HC9.out.b4 5; have q6 := blk_frozen HC9.out.b4 6; have q7 := blk_frozen HC9.out.b4 7; have q8 := blk_frozen HC9.out.b4 8)
         go_wp2
         refine bodyPost_ret (results_cell_row rfl _ _ w.heap.size 39 #[.int .i64 0, .int .i64 0, .int .i64 0, .int .i64 0, .int .i64 0, .int .i64 0, .slice none 0 0, .slice none 0 0, .int .i64 6] (0, 0) _ rfl (ret9 HC9.out.b4) Try.underlying39 rfl (by kernel_rfl)) rfl ?_
         have hA_ : cmdR op l0 = (zc 0, 6) := by unfold cmdR; rw [HA.out]; exact (congrArg _ (fin_cons _ _ HE0.out)).trans (itm_5 _)
         rw [hA_]
         exact ⟨(.slice none 0 0), (.slice none 0 0), rfl, R_store9 ((Kd.R_nil _ _ _ _ _)) HC9.out.b4 (by decide), R_store9 ((Kd.R_nil _ _ _ _ _)) HC9.out.b4 (by decide), below9 HC9.out.bel (Nat.le_refl _)⟩
        ·have n5 : (e == 5) = false := by simpa using h5
         have HN := Aside0.mk (And.intro h0 h5)
         clear h0 h5
         go_wp2_with (go_at_call 21; (refine (fail_any (w.heap.size + 1) (y :: l) e 6 w _ HCS.out.zr HCS.out.bel HCS.out.rd).mono ?_); rintro en w9 ⟨rfl, h1, h2, h3⟩; have HC9 := Aside0.mk (HCS.out.call h1 h2 h3); rw [if_neg HE0.out] at h1; obtain ⟨A9, c9, hb9, _⟩ := h1; have r9 : w9.cell? ⟨w.heap.size + 1, 1, none⟩ = some (.int .i64 e) := (blk_cell hb9 1).trans rfl; clear hb9 h2 h3; have k0 : w9.cell? ⟨w.heap.size, 0, none⟩ = some (.int .i64 0) := (blk_cell HC9.out.b4 0).trans rfl; have k1 : w9.cell? ⟨w.heap.size, 1, none⟩ = some (.int .i64 0) := (blk_cell HC9.out.b4 1).trans rfl; have k2 : w9.cell? ⟨w.heap.size, 2, none⟩ = some (.int .i64 0) := (blk_cell HC9.out.b4 2).trans rfl; have k3 : w9.cell? ⟨w.heap.size, 3, none⟩ = some (.int .i64 0) := (blk_cell HC9.out.b4 3).trans rfl; have k4 : w9.cell? ⟨w.heap.size, 4, none⟩ = some (.int .i64 0) := (blk_cell HC9.out.b4 4).trans rfl; have k5 : w9.cell? ⟨w.heap.size, 5, none⟩ = some (.int .i64 0) := (blk_cell HC9.out.b4 5).trans rfl; have k6 : w9.cell? ⟨w.heap.size, 6, none⟩ = some (.slice none 0 0) := (blk_cell HC9.out.b4 6).trans rfl; have k7 : w9.cell? ⟨w.heap.size, 7, none⟩ = some (.slice none 0 0) := (blk_cell HC9.out.b4 7).trans rfl; have k8 : w9.cell? ⟨w.heap.size, 8, none⟩ = some (.int .i64 0) := (blk_cell HC9.out.b4 8).trans rfl; have q0 := blk_frozen HC9.out.b4 0; have q1 := blk_frozen HC9.out.b4 1; have q2 := blk_frozen HC9.out.b4 2; have q3 := blk_frozen HC9.out.b4 3; have q4 := blk_frozen HC9.out.b4 4; have q5 := blk_frozen HC9.out.b4 5; have q6 := blk_frozen HC9.out.b4 6; have q7 := blk_frozen HC9.out.b4 7; have q8 := blk_frozen HC9.out.b4 8)
         go_wp2
         refine bodyPost_ret (results_cell_row rfl _ _ w.heap.size 39 #[.int .i64 0, .int .i64 0, .int .i64 0, .int .i64 0, .int .i64 0, .int .i64 0, .slice none 0 0, .slice none 0 0, .int .i64 e] (0, 0) _ rfl (ret9 HC9.out.b4) Try.underlying39 rfl (by kernel_rfl)) rfl ?_
         have hA_ : cmdR op l0 = (zc 0, e) := by unfold cmdR; rw [HA.out]; exact (congrArg _ (fin_cons _ _ HE0.out)).trans (itm_e _ HN.out.1 HN.out.2)
         rw [hA_]
         exact ⟨(.slice none 0 0), (.slice none 0 0), rfl, R_store9 ((Kd.R_nil _ _ _ _ _)) HC9.out.b4 (by decide), R_store9 ((Kd.R_nil _ _ _ _ _)) HC9.out.b4 (by decide), below9 HC9.out.bel (Nat.le_refl _)⟩
end Go.Proofs.Ytpgjkndijdleeaa.PCode
end
