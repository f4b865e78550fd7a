import Derived.Test.YtcadgbeablpnmaaPCmdx
import Derived.Test.YtcadgbeablpnmaaCmdDrawT
import Derived.Defers
import Derived.Recover
import Derived.Deep.RegionHeld3
import Derived.Deep.RegionLaw
set_option maxHeartbeats 1000000
set_option maxRecDepth 100000
namespace Go.Proofs.Ytcadgbeablpnmaa.PCmd
open Go.RowKit Go.Proofs.YtcadgbeablpnmaaW.PrintWords Go.Proofs.YtcadgbeablpnmaaW.PrintLast Go.Proofs.YtcadgbeablpnmaaW.PrintMore
attribute [local go_sem] max2_int min2_int max_two min_two max_three min_three max_four min_four
set_option linter.unusedVariables false
set_option linter.unusedSimpArgs false
attribute [local go_sem] as_32_49 as_36_49 as_67_49 as_49_49 as_34_49 as_69_49 as_nil_49

theorem asx_49 (v : Value) (w : World) : (Instr.typeAssert (.iface 49 v) 41 49 false).run Try.prog w = .ok v w := by first | rfl | kernel_rfl
theorem asx_32 (v : Value) (w : World) : (Instr.typeAssert (.iface 32 v) 41 49 false).run Try.prog w = .halt (.panic (.iface 15 (.pointer (some ⟨w.heap.size, 0, none⟩)))) (w.alloc (.cells #[typeHandle Try.prog 41, typeHandle Try.prog 32, typeHandle Try.prog 49, strVal ""] 73)) := by
  simp [Instr.typeAssert, runtimePanic, go_sem, run_underlying Try.underlying49, elemOf, run_underlying Try.underlying15]
theorem asx_36 (v : Value) (w : World) : (Instr.typeAssert (.iface 36 v) 41 49 false).run Try.prog w = .halt (.panic (.iface 15 (.pointer (some ⟨w.heap.size, 0, none⟩)))) (w.alloc (.cells #[typeHandle Try.prog 41, typeHandle Try.prog 36, typeHandle Try.prog 49, strVal ""] 73)) := by
  simp [Instr.typeAssert, runtimePanic, go_sem, run_underlying Try.underlying49, elemOf, run_underlying Try.underlying15]
theorem asx_67 (v : Value) (w : World) : (Instr.typeAssert (.iface 67 v) 41 49 false).run Try.prog w = .halt (.panic (.iface 15 (.pointer (some ⟨w.heap.size, 0, none⟩)))) (w.alloc (.cells #[typeHandle Try.prog 41, typeHandle Try.prog 67, typeHandle Try.prog 49, strVal ""] 73)) := by
  simp [Instr.typeAssert, runtimePanic, go_sem, run_underlying Try.underlying49, elemOf, run_underlying Try.underlying15]
theorem asx_34 (v : Value) (w : World) : (Instr.typeAssert (.iface 34 v) 41 49 false).run Try.prog w = .halt (.panic (.iface 15 (.pointer (some ⟨w.heap.size, 0, none⟩)))) (w.alloc (.cells #[typeHandle Try.prog 41, typeHandle Try.prog 34, typeHandle Try.prog 49, strVal ""] 73)) := by
  simp [Instr.typeAssert, runtimePanic, go_sem, run_underlying Try.underlying49, elemOf, run_underlying Try.underlying15]
theorem asx_69 (v : Value) (w : World) : (Instr.typeAssert (.iface 69 v) 41 49 false).run Try.prog w = .halt (.panic (.iface 15 (.pointer (some ⟨w.heap.size, 0, none⟩)))) (w.alloc (.cells #[typeHandle Try.prog 41, typeHandle Try.prog 69, typeHandle Try.prog 49, strVal ""] 73)) := by
  simp [Instr.typeAssert, runtimePanic, go_sem, run_underlying Try.underlying49, elemOf, run_underlying Try.underlying15]
theorem asx_nil (w : World) : (Instr.typeAssert .nilIface 41 49 false).run Try.prog w = .halt (.panic (.iface 15 (.pointer (some ⟨w.heap.size, 0, none⟩)))) (w.alloc (.cells #[typeHandle Try.prog 41, .pointer none, typeHandle Try.prog 49, strVal ""] 73)) := by
  simp [Instr.typeAssert, runtimePanic, go_sem, run_underlying Try.underlying49, elemOf, run_underlying Try.underlying15]
attribute [local go_sem] asx_49 asx_32 asx_36 asx_67 asx_34 asx_69 asx_nil
theorem catch_panicking (p q : Addr) (x : Option Addr) (y z : Nat) (y' : Int) (u : TypeId) (pv : Value) (older : List PanicEntry) (w : World) (hc : w.cell? p = some (.slice x y z)) (hz : w.frozen? p = false) (hc' : w.cell? q = some (.int .i64 y')) (hz' : w.frozen? q = false) (hpq : p ≠ q) :
    CallsD Try.prog 21 #[.pointer (some p), .pointer (some q)] (.panicking ({ v := .iface u pv, recovered := false } :: older)) w fun e u' w' =>
      e = .returned (.tuple #[]) ∧ u' = .panicking ({ v := .iface u pv, recovered := true } :: older) ∧ w' = (w.setCell p (.slice none 0 0)).setCell q (.int .i64 14) := by
  have hc2 : (w.setCell p (.slice none 0 0)).cell? q = some (.int .i64 y') := (World.cell?_setCell_other _ _ _ _ hpq).trans hc'
  refine callsD_of_wpS Try.func21 rfl fun c₀ cs hu => ?_
  apply wpS_seq
  apply wpS_region
  simp [wpOpsS, go_sem, recoverD, hu, Try.ntmps21, Exit.thenS]
  refine wpS_cond (t := true) (by simp [Act.eval, Array.replicate]) ?_
  simp only [if_true]
  apply wpS_region
  simp [wpOpsS, go_sem, hc, hz, hc2, hz', bodyPostS, results, Try.results21]

theorem catch_idle (p q : Addr) (w : World) :
    CallsD Try.prog 21 #[.pointer (some p), .pointer (some q)] .returning w fun e u' w' => e = .returned (.tuple #[]) ∧ u' = .returning ∧ w' = w := by
  refine callsD_of_wpS Try.func21 rfl fun c₀ cs hu => ?_
  apply wpS_seq
  apply wpS_region
  simp [wpOpsS, go_sem, recoverD, hu, Try.ntmps21, Exit.thenS]
  refine wpS_cond (t := false) (by simp [Act.eval, Array.replicate]) ?_
  simp only [Bool.false_eq_true, if_false]
  refine wpS_of_wp (wp_skip ?_)
  cases c₀
  simp_all [bodyPostS, results, Try.results21]

inductive IV where
  | draw (d : S58)
  | other (T : Nat) (v : Value)
  | nil
def IV.val : IV → Value
  | .draw d => .iface 49 (.agg #[.int .i64 d.f0, .int .i64 d.f1, .int .i64 d.f2, .int .i64 d.f3])
  | .other T v => .iface T v
  | .nil => .nilIface
def IV.ok : IV → Prop
  | .draw _ => True
  | .other T _ => T = 32 ∨ T = 36 ∨ T = 67 ∨ T = 34 ∨ T = 69
  | .nil => True
def IV.isD : IV → Bool
  | .draw _ => true
  | _ => false
def IV.rec' : IV → S58
  | .draw d => d
  | _ => z58
theorem IV.one (x : IV) : (IV.val x).oneCell' = true := by cases x <;> rfl
def kiv : Kd IV := Kd.scalar IV.val IV.one
theorem info49 : (Try.prog.info? 49).map (fun i => (i.zero, i.size, i.bytes)) = some (some (.agg #[(.int .i64 0), (.int .i64 0), (.int .i64 0), (.int .i64 0)]), 4, 32) := by kernel_rfl
theorem kiv_get {w : World} {A : Option Addr} {xs : List IV} (h : Kd.C kiv w A xs.length xs) (i : Nat) (hi : i < xs.length) : ∃ ad, A = some ad ∧ w.cell? (ad.add i) = some (IV.val (xs.getD i .nil)) := by
  obtain ⟨ad, c, e, hl, hk, hc⟩ := Kd.C_get h .nil (i : Int) (by omega) (by omega)
  have hk' : c = [IV.val (xs.getD i .nil)] := hk
  subst hk'
  have := hc 0 _ rfl
  exact ⟨ad, e, by simpa [kiv, Kd.scalar] using this⟩

theorem Leaves_ret14 {R : Ending → World → Prop} {tmps : Array Value} {w : World} {p q : Addr} {v u : Value} (h0 : w.cell? p = some v) (h1 : w.cell? q = some u) (e2 : tmps[2]?.getD undef = .pointer (some p)) (e3 : tmps[3]?.getD undef = .pointer (some q)) (h : R (.returned (.tuple #[v, u])) w) : Leaves Try.prog Try.f14 tmps R [] .returning w := by
  simp [Leaves, settle, results, Try.results14, go_sem, h0, h1, e2, e3, h]
theorem Draws_door {R : Ending → World → Prop} {tmps : Array Value} {W : World} {g h : Nat} {A1 : Option Addr} {n c1 : Nat} {u : TypeId} {pv : Value} (HG : W.heap[g]? = some (.cells #[.slice A1 n c1] 47 (0, 0))) (HE : W.heap[h]? = some (.cells #[.int .i64 0] 28 (0, 0))) (hgh : g ≠ h) (e2 : tmps[2]?.getD undef = .pointer (some ⟨g, 0, none⟩)) (e3 : tmps[3]?.getD undef = .pointer (some ⟨h, 0, none⟩)) (hR : R (.returned (.tuple #[.slice none 0 0, .int .i64 14])) ((W.setCell ⟨g, 0, none⟩ (.slice none 0 0)).setCell ⟨h, 0, none⟩ (.int .i64 14))) : bodyPostD Try.prog Try.f14 R (.panic [{ v := .iface u pv, recovered := false }]) { tmps := tmps, defers := [{ target := .fn (.func 21) #[.pointer (some ⟨g, 0, none⟩), .pointer (some ⟨h, 0, none⟩)], args := #[] }] } W := by
  refine leaves_cons (f := 21) (args := #[.pointer (some ⟨g, 0, none⟩), .pointer (some ⟨h, 0, none⟩)]) (by simp) (by simp [go_sem]) ?_
  refine (catch_panicking ⟨g, 0, none⟩ ⟨h, 0, none⟩ A1 n c1 0 u pv [] _ ((blk_cell HG 0).trans rfl) (blk_frozen HG 0) ((blk_cell HE 0).trans rfl) (blk_frozen HE 0) (fun e => hgh (congrArg Addr.block e))).mono ?_
  rintro e u' w'' ⟨rfl, rfl, rfl⟩
  refine Leaves_ret14 (p := ⟨g, 0, none⟩) (q := ⟨h, 0, none⟩) ?_ ?_ e2 e3 hR
  · exact (blk_cell (blk_far (blk_put HG 0 _ rfl) (by simpa using hgh) _) 0).trans rfl
  · exact (blk_cell (blk_put (blk_far HE (by simpa using hgh.symm) _) 0 _ rfl) 0).trans rfl
set_option maxHeartbeats 8000000 in
theorem Draws_any (A : Option Addr) (c : Nat) (xs : List IV) (w : World) (hC : Kd.C kiv w A xs.length xs) (hlen : xs.length ≤ 20) (hok : ∀ x ∈ xs, x.ok) (hcap : xs.length ≤ c) :
    Calls Try.prog 14 #[.slice A xs.length c] w fun e w' => Below w.heap.size w w' ∧ ((∃ ds v, xs = ds.map IV.draw ∧ e = .returned (.tuple #[v, .int .i64 0]) ∧ Kd.R k58 49 w' w.heap.size (fun _ => True) v ds) ∨ ((∃ x ∈ xs, x.isD = false) ∧ e = .returned (.tuple #[.slice none 0 0, .int .i64 14]))) := by
  have hmf : ∀ (fn : Fn) (first cap : Array Value) (w : World), (Instr.makeFunc fn first cap).run Try.prog w = .ok (.func fn first cap) w := fun _ _ _ _ => rfl
  have hd1 : w.heap.size ≠ w.heap.size + 1 := by omega
  go_enter_defers Try.func14, Try.ntmps14
  go_wp2
  go_loopg [9] xs.length (fun kq v9 w' => ∃ (ds : List S58) (rest : List IV) (v : Value), v9 = .int .i64 (ds.length : Int) ∧ Aside0 (xs = ds.map IV.draw ++ rest) ∧ Aside0 (kq = rest.length) ∧ Aside0 (w'.heap[w.heap.size]? = some (.cells #[v] 47 (0, 0))) ∧ Aside0 (w'.heap[w.heap.size + 1]? = some (.cells #[.int .i64 0] 28 (0, 0))) ∧ Aside0 (Kd.R k58 49 w' w.heap.size (fun k => k ≠ w.heap.size ∧ k ≠ w.heap.size + 1) v ds) ∧ Aside0 (Below w.heap.size w w'))
  case atStart => exact ⟨[], xs, .slice none 0 0, rfl, ⟨rfl⟩, ⟨rfl⟩, ⟨by repeat (first | (with_reducible exact blk_new _ _) | (with_reducible refine blk_alloc ?_ _))⟩, ⟨blk_new2 _ _ _⟩, ⟨Kd.R_nil _ _ _ _ _⟩, ⟨by repeat (first | exact Below.refl _ _ | apply below_alloc)⟩⟩
  case round =>
    obtain ⟨ds, rest, v, rfl, HX, HK, HG, HE, HR, HB⟩ := hrel
    obtain ⟨A1, c1, rfl⟩ := Kd.R_slice HR.out
    have hg0 : wr.cell? ⟨w.heap.size, 0, none⟩ = some (.slice A1 ds.length c1) := (blk_cell HG.out 0).trans rfl
    have hz0 := blk_frozen HG.out 0
    have hg1 : wr.cell? ⟨w.heap.size + 1, 0, none⟩ = some (.int .i64 0) := (blk_cell HE.out 0).trans rfl
    have hz1 := blk_frozen HE.out 0
    have hl0 : xs.length = ds.length + rest.length := by rw [HX.out]; simp
    cases rest with
    | nil =>
      have HX' := HX.out
      rw [List.append_nil] at HX'
      have hl : (xs.length : Int) = (ds.length : Int) := by simp at hl0; omega
      have hd : decide ((ds.length : Int) < (xs.length : Int)) = false := decide_eq_false (by omega)
      go_wp2
      refine leaves_cons (f := 21) (args := #[.pointer (some ⟨w.heap.size, 0, none⟩), .pointer (some ⟨w.heap.size + 1, 0, none⟩)]) (by simp) (by simp [go_sem]) ?_
      refine (catch_idle _ _ _).mono ?_
      rintro e u' w'' ⟨rfl, rfl, rfl⟩
      have hs0 : ((wr.setCell ⟨w.heap.size, 0, none⟩ (.slice A1 ds.length c1)).setCell ⟨w.heap.size + 1, 0, none⟩ (.int .i64 0)).cell? ⟨w.heap.size, 0, none⟩ = some (.slice A1 ds.length c1) :=
        (blk_cell (blk_far (blk_put HG.out 0 _ rfl) (by simp) _) 0).trans rfl
      have hs1 : ((wr.setCell ⟨w.heap.size, 0, none⟩ (.slice A1 ds.length c1)).setCell ⟨w.heap.size + 1, 0, none⟩ (.int .i64 0)).cell? ⟨w.heap.size + 1, 0, none⟩ = some (.int .i64 0) :=
        (blk_cell (blk_put (blk_far HE.out (by simp) _) 0 _ rfl) 0).trans rfl
      refine Leaves_ret14 hs0 hs1 rfl rfl ⟨below_set (below_set HB.out (Nat.le_refl _)) (Nat.le_succ _), .inl ⟨ds, _, HX', rfl, ?_⟩⟩
      exact Kd.R_mono (Kd.R_far (Kd.R_far HR.out (fun k hk => hk.1) _) (fun k hk => hk.2) _) (fun _ _ => trivial)
    | cons x rest =>
      have hi : ds.length < xs.length := by simp at hl0; omega
      have hlt : decide ((ds.length : Int) < (xs.length : Int)) = true := decide_eq_true (by omega)
      obtain ⟨ad, rfl, hc⟩ := kiv_get hC ds.length hi
      have hget : xs.getD ds.length .nil = x := by rw [HX.out]; simp
      rw [hget] at hc
      have hcw : wr.cell? (ad.add ds.length) = some (IV.val x) := (HB.out.cell (World.block_lt_of_cell? w _ hc)).trans hc
      have hsz := blk_lt HE.out
      have hlt0 := blk_lt HG.out
      have hne0 : w.heap.size ≠ wr.heap.size := Nat.ne_of_lt hlt0
      have hw1 : IntKind.i64.wrap ((ds.length : Int) + 1) = ((ds.length : Int) + 1) := by rw [IntKind.wrap_i64]; omega
      have hi0 : (0 : Int) ≤ (ds.length : Int) := by omega
      have hi1 : (ds.length : Int) < (xs.length : Int) := by omega
      have HL := Aside0.mk hl0
      clear hl0
      cases x with
      | draw d =>
        simp only [IV.val] at hcw
        go_wp2_with fail
        refine wp_region_noPanic ?_
        go_region_law (refine Kd.R_append_step k58 (w0 := w) (W := wr.drew) w.heap.size rfl (.tmp 13) (.tmp 16) 47 49 (.agg #[(.int .i64 0), (.int .i64 0), (.int .i64 0), (.int .i64 0)]) 32 rfl Try.underlying47 info49 rfl (by decide) (by omega) (.slice A1 ds.length c1) ds d [.int .i64 d.f0, .int .i64 d.f1, .int .i64 d.f2, .int .i64 d.f3] (fun k => k ≠ w.heap.size ∧ k ≠ w.heap.size + 1) (fun _ => False) rfl rfl ?aP (fun _ hk => hk.elim) ?aF ?aO ?aB ?aS ?aL ?_; (case aP => exact k58_mkM _ _ _ _); (case aF => exact fun k hk => (by have hk' : wr.heap.size ≤ k := hk; constructor <;> omega)); (case aO => exact Kd.R_drew HR.out); (case aB => exact below_drew1 HB.out); (case aS => exact (by show w.heap.size ≤ wr.heap.size; omega)); (case aL => omega); intro v1 w1 ho hb hg hat; obtain ⟨A2, c2, rfl⟩ := Kd.R_slice ho; have hG2 := blk_grown (blk_drew HG.out) hg (Kd.R_away HR.out (fun k hk => hk.1)); have hE2 := blk_grown (blk_drew HE.out) hg (Kd.R_away HR.out (fun k hk => hk.2)); have hgc : w1.cell? ⟨w.heap.size, 0, none⟩ = some (.slice A1 ds.length c1) := (blk_cell hG2 0).trans rfl; have hgz := blk_frozen hG2 0)
        all_goals refine NoPanic.normal ?_
        all_goals
          go_wp2
          go_roundg rest.length
          case measure => have := HK.out; simp at this; omega
          case rel => exact ⟨ds ++ [d], rest, .slice A2 (ds ++ [d]).length c2, by simp, ⟨by rw [HX.out]; simp⟩, ⟨rfl⟩, ⟨blk_put hG2 0 _ (by simp)⟩, ⟨blk_far hE2 (by simp) _⟩, ⟨Kd.R_far ho (fun k hk => hk.1) _⟩, ⟨below_set hb (Nat.le_refl _)⟩⟩
      | other T v =>
        simp only [IV.val] at hcw
        have hT : T = 32 ∨ T = 36 ∨ T = 67 ∨ T = 34 ∨ T = 69 := hok (.other T v) (by rw [HX.out]; simp)
        have hmem : IV.other T v ∈ xs := by rw [HX.out]; simp
        rcases hT with rfl | rfl | rfl | rfl | rfl
        · go_wp2_with fail
          refine wp_region_any (by kernel_rfl) ?_
          try (change wpAny _ _ _ _ _ _ _ (World.drew _))
          refine wpAny_ready (rs := [0, 1]) (by kernel_rfl) (by simp) ?_
          refine AllReady.cons rfl (fun K hK => ?_) (AllReady.cons rfl (fun K hK => ?_) AllReady.nil)
          · (go_simp; refine hK _ _ ?_; clear hK K)
            refine wpAny_ready (rs := [1]) (by kernel_rfl) (by simp) ?_
            refine AllReady.cons rfl (fun K hK => ?_) AllReady.nil
            (go_simp; refine hK _ _ ?_; clear hK K)
            refine wpAny_ready (rs := [2]) (by kernel_rfl) (by simp) ?_
            refine AllReady.cons rfl (fun K hK => ?_) AllReady.nil
            go_simp
            exact Draws_door (blk_drew (blk_alloc HG.out _)) (blk_drew (blk_alloc HE.out _)) hd1 rfl rfl ⟨below_set (below_set (below_drew1 (below_alloc HB.out _)) (Nat.le_refl _)) (Nat.le_succ _), .inr ⟨⟨_, hmem, rfl⟩, rfl⟩⟩
          · (go_simp; refine hK _ _ ?_; clear hK K)
            refine wpAny_ready (rs := [0, 2]) (by kernel_rfl) (by simp) ?_
            refine AllReady.cons rfl (fun K hK => ?_) (AllReady.cons rfl (fun K hK => ?_) AllReady.nil)
            · (go_simp; refine hK _ _ ?_; clear hK K)
              refine wpAny_ready (rs := [2]) (by kernel_rfl) (by simp) ?_
              refine AllReady.cons rfl (fun K hK => ?_) AllReady.nil
              go_simp
              exact Draws_door (blk_drew (blk_alloc HG.out _)) (blk_drew (blk_alloc HE.out _)) hd1 rfl rfl ⟨below_set (below_set (below_drew1 (below_alloc HB.out _)) (Nat.le_refl _)) (Nat.le_succ _), .inr ⟨⟨_, hmem, rfl⟩, rfl⟩⟩
            · go_simp
              exact Draws_door (blk_drew (blk_alloc HG.out _)) (blk_drew (blk_alloc HE.out _)) hd1 rfl rfl ⟨below_set (below_set (below_drew1 (below_alloc HB.out _)) (Nat.le_refl _)) (Nat.le_succ _), .inr ⟨⟨_, hmem, rfl⟩, rfl⟩⟩
        · go_wp2_with fail
          refine wp_region_any (by kernel_rfl) ?_
          try (change wpAny _ _ _ _ _ _ _ (World.drew _))
          refine wpAny_ready (rs := [0, 1]) (by kernel_rfl) (by simp) ?_
          refine AllReady.cons rfl (fun K hK => ?_) (AllReady.cons rfl (fun K hK => ?_) AllReady.nil)
          · (go_simp; refine hK _ _ ?_; clear hK K)
            refine wpAny_ready (rs := [1]) (by kernel_rfl) (by simp) ?_
            refine AllReady.cons rfl (fun K hK => ?_) AllReady.nil
            (go_simp; refine hK _ _ ?_; clear hK K)
            refine wpAny_ready (rs := [2]) (by kernel_rfl) (by simp) ?_
            refine AllReady.cons rfl (fun K hK => ?_) AllReady.nil
            go_simp
            exact Draws_door (blk_drew (blk_alloc HG.out _)) (blk_drew (blk_alloc HE.out _)) hd1 rfl rfl ⟨below_set (below_set (below_drew1 (below_alloc HB.out _)) (Nat.le_refl _)) (Nat.le_succ _), .inr ⟨⟨_, hmem, rfl⟩, rfl⟩⟩
          · (go_simp; refine hK _ _ ?_; clear hK K)
            refine wpAny_ready (rs := [0, 2]) (by kernel_rfl) (by simp) ?_
            refine AllReady.cons rfl (fun K hK => ?_) (AllReady.cons rfl (fun K hK => ?_) AllReady.nil)
            · (go_simp; refine hK _ _ ?_; clear hK K)
              refine wpAny_ready (rs := [2]) (by kernel_rfl) (by simp) ?_
              refine AllReady.cons rfl (fun K hK => ?_) AllReady.nil
              go_simp
              exact Draws_door (blk_drew (blk_alloc HG.out _)) (blk_drew (blk_alloc HE.out _)) hd1 rfl rfl ⟨below_set (below_set (below_drew1 (below_alloc HB.out _)) (Nat.le_refl _)) (Nat.le_succ _), .inr ⟨⟨_, hmem, rfl⟩, rfl⟩⟩
            · go_simp
              exact Draws_door (blk_drew (blk_alloc HG.out _)) (blk_drew (blk_alloc HE.out _)) hd1 rfl rfl ⟨below_set (below_set (below_drew1 (below_alloc HB.out _)) (Nat.le_refl _)) (Nat.le_succ _), .inr ⟨⟨_, hmem, rfl⟩, rfl⟩⟩
        · go_wp2_with fail
          refine wp_region_any (by kernel_rfl) ?_
          try (change wpAny _ _ _ _ _ _ _ (World.drew _))
          refine wpAny_ready (rs := [0, 1]) (by kernel_rfl) (by simp) ?_
          refine AllReady.cons rfl (fun K hK => ?_) (AllReady.cons rfl (fun K hK => ?_) AllReady.nil)
          · (go_simp; refine hK _ _ ?_; clear hK K)
            refine wpAny_ready (rs := [1]) (by kernel_rfl) (by simp) ?_
            refine AllReady.cons rfl (fun K hK => ?_) AllReady.nil
            (go_simp; refine hK _ _ ?_; clear hK K)
            refine wpAny_ready (rs := [2]) (by kernel_rfl) (by simp) ?_
            refine AllReady.cons rfl (fun K hK => ?_) AllReady.nil
            go_simp
            exact Draws_door (blk_drew (blk_alloc HG.out _)) (blk_drew (blk_alloc HE.out _)) hd1 rfl rfl ⟨below_set (below_set (below_drew1 (below_alloc HB.out _)) (Nat.le_refl _)) (Nat.le_succ _), .inr ⟨⟨_, hmem, rfl⟩, rfl⟩⟩
          · (go_simp; refine hK _ _ ?_; clear hK K)
            refine wpAny_ready (rs := [0, 2]) (by kernel_rfl) (by simp) ?_
            refine AllReady.cons rfl (fun K hK => ?_) (AllReady.cons rfl (fun K hK => ?_) AllReady.nil)
            · (go_simp; refine hK _ _ ?_; clear hK K)
              refine wpAny_ready (rs := [2]) (by kernel_rfl) (by simp) ?_
              refine AllReady.cons rfl (fun K hK => ?_) AllReady.nil
              go_simp
              exact Draws_door (blk_drew (blk_alloc HG.out _)) (blk_drew (blk_alloc HE.out _)) hd1 rfl rfl ⟨below_set (below_set (below_drew1 (below_alloc HB.out _)) (Nat.le_refl _)) (Nat.le_succ _), .inr ⟨⟨_, hmem, rfl⟩, rfl⟩⟩
            · go_simp
              exact Draws_door (blk_drew (blk_alloc HG.out _)) (blk_drew (blk_alloc HE.out _)) hd1 rfl rfl ⟨below_set (below_set (below_drew1 (below_alloc HB.out _)) (Nat.le_refl _)) (Nat.le_succ _), .inr ⟨⟨_, hmem, rfl⟩, rfl⟩⟩
        · go_wp2_with fail
          refine wp_region_any (by kernel_rfl) ?_
          try (change wpAny _ _ _ _ _ _ _ (World.drew _))
          refine wpAny_ready (rs := [0, 1]) (by kernel_rfl) (by simp) ?_
          refine AllReady.cons rfl (fun K hK => ?_) (AllReady.cons rfl (fun K hK => ?_) AllReady.nil)
          · (go_simp; refine hK _ _ ?_; clear hK K)
            refine wpAny_ready (rs := [1]) (by kernel_rfl) (by simp) ?_
            refine AllReady.cons rfl (fun K hK => ?_) AllReady.nil
            (go_simp; refine hK _ _ ?_; clear hK K)
            refine wpAny_ready (rs := [2]) (by kernel_rfl) (by simp) ?_
            refine AllReady.cons rfl (fun K hK => ?_) AllReady.nil
            go_simp
            exact Draws_door (blk_drew (blk_alloc HG.out _)) (blk_drew (blk_alloc HE.out _)) hd1 rfl rfl ⟨below_set (below_set (below_drew1 (below_alloc HB.out _)) (Nat.le_refl _)) (Nat.le_succ _), .inr ⟨⟨_, hmem, rfl⟩, rfl⟩⟩
          · (go_simp; refine hK _ _ ?_; clear hK K)
            refine wpAny_ready (rs := [0, 2]) (by kernel_rfl) (by simp) ?_
            refine AllReady.cons rfl (fun K hK => ?_) (AllReady.cons rfl (fun K hK => ?_) AllReady.nil)
            · (go_simp; refine hK _ _ ?_; clear hK K)
              refine wpAny_ready (rs := [2]) (by kernel_rfl) (by simp) ?_
              refine AllReady.cons rfl (fun K hK => ?_) AllReady.nil
              go_simp
              exact Draws_door (blk_drew (blk_alloc HG.out _)) (blk_drew (blk_alloc HE.out _)) hd1 rfl rfl ⟨below_set (below_set (below_drew1 (below_alloc HB.out _)) (Nat.le_refl _)) (Nat.le_succ _), .inr ⟨⟨_, hmem, rfl⟩, rfl⟩⟩
            · go_simp
              exact Draws_door (blk_drew (blk_alloc HG.out _)) (blk_drew (blk_alloc HE.out _)) hd1 rfl rfl ⟨below_set (below_set (below_drew1 (below_alloc HB.out _)) (Nat.le_refl _)) (Nat.le_succ _), .inr ⟨⟨_, hmem, rfl⟩, rfl⟩⟩
        · go_wp2_with fail
          refine wp_region_any (by kernel_rfl) ?_
          try (change wpAny _ _ _ _ _ _ _ (World.drew _))
          refine wpAny_ready (rs := [0, 1]) (by kernel_rfl) (by simp) ?_
          refine AllReady.cons rfl (fun K hK => ?_) (AllReady.cons rfl (fun K hK => ?_) AllReady.nil)
          · (go_simp; refine hK _ _ ?_; clear hK K)
            refine wpAny_ready (rs := [1]) (by kernel_rfl) (by simp) ?_
            refine AllReady.cons rfl (fun K hK => ?_) AllReady.nil
            (go_simp; refine hK _ _ ?_; clear hK K)
            refine wpAny_ready (rs := [2]) (by kernel_rfl) (by simp) ?_
            refine AllReady.cons rfl (fun K hK => ?_) AllReady.nil
            go_simp
            exact Draws_door (blk_drew (blk_alloc HG.out _)) (blk_drew (blk_alloc HE.out _)) hd1 rfl rfl ⟨below_set (below_set (below_drew1 (below_alloc HB.out _)) (Nat.le_refl _)) (Nat.le_succ _), .inr ⟨⟨_, hmem, rfl⟩, rfl⟩⟩
          · (go_simp; refine hK _ _ ?_; clear hK K)
            refine wpAny_ready (rs := [0, 2]) (by kernel_rfl) (by simp) ?_
            refine AllReady.cons rfl (fun K hK => ?_) (AllReady.cons rfl (fun K hK => ?_) AllReady.nil)
            · (go_simp; refine hK _ _ ?_; clear hK K)
              refine wpAny_ready (rs := [2]) (by kernel_rfl) (by simp) ?_
              refine AllReady.cons rfl (fun K hK => ?_) AllReady.nil
              go_simp
              exact Draws_door (blk_drew (blk_alloc HG.out _)) (blk_drew (blk_alloc HE.out _)) hd1 rfl rfl ⟨below_set (below_set (below_drew1 (below_alloc HB.out _)) (Nat.le_refl _)) (Nat.le_succ _), .inr ⟨⟨_, hmem, rfl⟩, rfl⟩⟩
            · go_simp
              exact Draws_door (blk_drew (blk_alloc HG.out _)) (blk_drew (blk_alloc HE.out _)) hd1 rfl rfl ⟨below_set (below_set (below_drew1 (below_alloc HB.out _)) (Nat.le_refl _)) (Nat.le_succ _), .inr ⟨⟨_, hmem, rfl⟩, rfl⟩⟩
      | nil =>
        simp only [IV.val] at hcw
        have hmem : IV.nil ∈ xs := by rw [HX.out]; simp
        go_wp2_with fail
        refine wp_region_any (by kernel_rfl) ?_
        try (change wpAny _ _ _ _ _ _ _ (World.drew _))
        refine wpAny_ready (rs := [0, 1]) (by kernel_rfl) (by simp) ?_
        refine AllReady.cons rfl (fun K hK => ?_) (AllReady.cons rfl (fun K hK => ?_) AllReady.nil)
        · (go_simp; refine hK _ _ ?_; clear hK K)
          refine wpAny_ready (rs := [1]) (by kernel_rfl) (by simp) ?_
          refine AllReady.cons rfl (fun K hK => ?_) AllReady.nil
          (go_simp; refine hK _ _ ?_; clear hK K)
          refine wpAny_ready (rs := [2]) (by kernel_rfl) (by simp) ?_
          refine AllReady.cons rfl (fun K hK => ?_) AllReady.nil
          go_simp
          exact Draws_door (blk_drew (blk_alloc HG.out _)) (blk_drew (blk_alloc HE.out _)) hd1 rfl rfl ⟨below_set (below_set (below_drew1 (below_alloc HB.out _)) (Nat.le_refl _)) (Nat.le_succ _), .inr ⟨⟨_, hmem, rfl⟩, rfl⟩⟩
        · (go_simp; refine hK _ _ ?_; clear hK K)
          refine wpAny_ready (rs := [0, 2]) (by kernel_rfl) (by simp) ?_
          refine AllReady.cons rfl (fun K hK => ?_) (AllReady.cons rfl (fun K hK => ?_) AllReady.nil)
          · (go_simp; refine hK _ _ ?_; clear hK K)
            refine wpAny_ready (rs := [2]) (by kernel_rfl) (by simp) ?_
            refine AllReady.cons rfl (fun K hK => ?_) AllReady.nil
            go_simp
            exact Draws_door (blk_drew (blk_alloc HG.out _)) (blk_drew (blk_alloc HE.out _)) hd1 rfl rfl ⟨below_set (below_set (below_drew1 (below_alloc HB.out _)) (Nat.le_refl _)) (Nat.le_succ _), .inr ⟨⟨_, hmem, rfl⟩, rfl⟩⟩
          · go_simp
            exact Draws_door (blk_drew (blk_alloc HG.out _)) (blk_drew (blk_alloc HE.out _)) hd1 rfl rfl ⟨below_set (below_set (below_drew1 (below_alloc HB.out _)) (Nat.le_refl _)) (Nat.le_succ _), .inr ⟨⟨_, hmem, rfl⟩, rfl⟩⟩
end Go.Proofs.Ytcadgbeablpnmaa.PCmd
