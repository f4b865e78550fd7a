/- lex.Signs and lex.Places: ranges over a string that append, walked by hand. -/
import Derived.Test.YtaaibnpjajfpgaaDoorLexN
import Derived.Test.YtaaibnpjajfpgaaDoorLexP2
import Derived.Lib.OthersKept
namespace Go.Proofs.YtaaibnpjajfpgaaDoor.PLex
open Go.RowKit Go.Proofs.YtaaibnpjajfpgaaDoorW.PrintWords Go.Proofs.YtaaibnpjajfpgaaDoorW.PrintLast Go.Proofs.YtaaibnpjajfpgaaDoorW.PrintMore
attribute [local go_sem] max2_int min2_int max_two min_two max_three min_three max_four min_four   -- for this text's walks alone
set_option linter.unusedVariables false
set_option linter.unusedSimpArgs false




def lex_Signs.f (a0 : ByteArray) : Option (List Int) := if a0.size ≤ 1000000 then some (if Lib.validD a0.data.toList = true then nums2 (runes a0) else []) else none
set_option maxHeartbeats 8000000 in
set_option maxRecDepth 1000000 in
theorem lex_Signs.calls (a0 : ByteArray) (r : List Int) (w : World) (hT : Tabs w) (h : lex_Signs.f a0 = some r) :
    Calls Tryd.prog 12 #[.string a0] w fun e w' => ∃ v0_ : Value, e = .returned (v0_) ∧ Kd.R (Kd.int .i64) 3 w' w.heap.size (fun _ => True) v0_ r ∧ Below w.heap.size w w' := by
  unfold lex_Signs.f at h
  split at h
  case isFalse => cases h
  rename_i hs
  have HR := Aside0.mk (Option.some.inj h)
  clear h
  have HT := Aside0.mk hT
  clear hT
  have cR := lex_Right.calls a0 (Lib.validD a0.data.toList) w HT.out (by unfold lex_Right.f utf8_ValidString.f; rw [if_pos (by omega)]; rfl)
  cases hV : Lib.validD a0.data.toList with
  | false =>
    rw [hV] at cR HR
    go_enter Tryd.func12, Tryd.ntmps12
    go_wp2_with (go_at_call 10; refine cR.mono ?_; rintro e w2 ⟨rfl, hb2⟩)
    go_ret
    refine ⟨_, rfl, ?_, hb2⟩
    rw [← HR.out]
    exact Kd.R_nil _ _ _ _ _
  | true =>
    rw [hV] at cR HR
    go_enter Tryd.func12, Tryd.ntmps12
    go_wp2_with (go_at_call 10; refine cR.mono ?_; rintro e w2 ⟨rfl, hb2⟩)
    go_loopw [3, 5] (fun v3 v5 w' => ∃ (pos b : Nat) (acc : List Int), w'.heap[w2.heap.size]? = some (.stringIter a0 pos) ∧ Aside0 (Kd.R (Kd.int .i64) 3 w' w.heap.size (fun k_ => k_ ≠ w2.heap.size) v3 acc) ∧ Aside0 (Below w.heap.size w w') ∧ Aside0 (acc ++ nums2 (runesFrom a0 b pos) = r) ∧ a0.size ≤ pos + b ∧ acc.length ≤ pos) (fun _ _ w' => a0.size - w'.iterPos w2.heap.size)
    case atStart => exact ⟨0, a0.size, [], World.iter_heap _ _ _, ⟨Kd.R_nil _ _ _ _ _⟩, ⟨below_alloc hb2 _⟩, ⟨HR.out⟩, by omega, by simp⟩
    case round =>
      obtain ⟨pos, b, acc, hit, HO, HB, HA, hb, hacc⟩ := hrel
      by_cases hp : pos < a0.size
      · have hnx : ∀ ty, (Instr.next (.pointer (some ⟨w2.heap.size, 0, none⟩)) true ty).run Tryd.prog wr = _ := fun ty => Lib.run_next_any_at wr w2.heap.size a0 pos ty hit hp
        have hwd := Lib.decode_width_pos a0 pos hp
        cases b with
        | zero => omega
        | succ b =>
          rw [runesFrom_step a0 b pos hp] at HA
          have hle := decode_le a0 pos
          have hK := (Array.getElem?_eq_some_iff.1 hit).1
          have hit2 := Lib.iterAt_heap wr w2.heap.size a0 pos (pos + (Utf8.decode a0 pos).2) hit
          have hsz := Aside0.mk (Lib.iterAt_size wr w2.heap.size a0 (pos + (Utf8.decode a0 pos).2))
          have HO2 := Aside0.mk (Kd.R_step HO.out (w1 := wr.iterAt w2.heap.size a0 (pos + (Utf8.decode a0 pos).2)) (fun k hk _ => Lib.iterAt_other wr w2.heap.size k a0 _ hk))
          have HB2 := Aside0.mk (Lib.below_iterAt HB.out hb2.size a0 (pos + (Utf8.decode a0 pos).2))
          clear HO HB
          generalize hd : (Utf8.decode a0 pos).1 = c at *
          generalize hw2 : (Utf8.decode a0 pos).2 = wd at *
          have ge : (0 : Int) ≤ (c : Int) := by omega
          go_wp2_with (first | ((with_reducible refine gate_builtin (b := .append) (xs := #[.tmp 14, .tmp 17]) rfl ?_); at_builtin; refine Kd.R_append (Kd.int .i64) (w0 := w) w.heap.size rfl (.tmp 14) (.tmp 17) 24 3 (.int .i64 0) 8 rfl Tryd.underlying24 info3 rfl (by decide) (by omega) _ acc (c : Int) [.int .i64 (c : Int)] (fun k_ => k_ ≠ w2.heap.size) (fun _ => False) rfl rfl ?aP (fun _ hk => hk.elim) ?aF ?aO ?aB ?aS ?aL ?_; (case aP => exact rfl); (case aB => exact HB2.out); (case aF => exact (fun k_ hk => by have := hsz.out; omega)); (case aO => exact HO2.out); (case aS => exact HB2.out.size); (case aL => omega); intro v141 w11 ho hb3 hg hat; have HO3 := Aside0.mk ho; have HB3 := Aside0.mk hb3; have HG3 := Aside0.mk hg; clear ho hb3 hg hat))
          go_roundw
          case rel =>
            have hit3 : w11.heap[w2.heap.size]? = some (.stringIter a0 (pos + wd)) := by
              rw [HG3.out.block w2.heap.size (by have := hsz.out; omega) (fun e => HO2.out.1 w2.heap.size e.symm rfl)]
              exact hit2
            exact ⟨pos + wd, b, acc ++ [(c : Int)], hit3, HO3, HB3, ⟨by rw [← HA.out]; simp [nums2]⟩, by omega, by simp; omega⟩
          case measure =>
            have hit3 : w11.heap[w2.heap.size]? = some (.stringIter a0 (pos + wd)) := by
              rw [HG3.out.block w2.heap.size (by have := hsz.out; omega) (fun e => HO2.out.1 w2.heap.size e.symm rfl)]
              exact hit2
            simp only [World.iterPos, hit3, hit]
            omega
      · have hnx : ∀ ty, (Instr.next (.pointer (some ⟨w2.heap.size, 0, none⟩)) true ty).run Tryd.prog wr = _ := fun ty => Lib.run_next_end_at wr w2.heap.size a0 pos ty hit hp
        rw [runesFrom_end a0 b pos hp] at HA
        go_wp2
        go_ret
        refine ⟨_, rfl, ?_, HB.out⟩
        have e := HA.out
        simp only [nums2, List.map_nil, List.append_nil] at e
        rw [← e]
        exact Kd.R_mono HO.out (fun _ _ => trivial)

def lex_Places.f (a0 : ByteArray) : Option (List Int) := if a0.size ≤ 1000000 then some (if Lib.validD a0.data.toList = true then nums1 (runes a0) else []) else none
set_option maxHeartbeats 8000000 in
set_option maxRecDepth 1000000 in
theorem lex_Places.calls (a0 : ByteArray) (r : List Int) (w : World) (hT : Tabs w) (h : lex_Places.f a0 = some r) :
    Calls Tryd.prog 13 #[.string a0] w fun e w' => ∃ v0_ : Value, e = .returned (v0_) ∧ Kd.R (Kd.int .i64) 3 w' w.heap.size (fun _ => True) v0_ r ∧ Below w.heap.size w w' := by
  unfold lex_Places.f at h
  split at h
  case isFalse => cases h
  rename_i hs
  have HR := Aside0.mk (Option.some.inj h)
  clear h
  have HT := Aside0.mk hT
  clear hT
  have cR := lex_Right.calls a0 (Lib.validD a0.data.toList) w HT.out (by unfold lex_Right.f utf8_ValidString.f; rw [if_pos (by omega)]; rfl)
  cases hV : Lib.validD a0.data.toList with
  | false =>
    rw [hV] at cR HR
    go_enter Tryd.func13, Tryd.ntmps13
    go_wp2_with (go_at_call 10; refine cR.mono ?_; rintro e w2 ⟨rfl, hb2⟩)
    go_ret
    refine ⟨_, rfl, ?_, hb2⟩
    rw [← HR.out]
    exact Kd.R_nil _ _ _ _ _
  | true =>
    rw [hV] at cR HR
    go_enter Tryd.func13, Tryd.ntmps13
    go_wp2_with (go_at_call 10; refine cR.mono ?_; rintro e w2 ⟨rfl, hb2⟩)
    go_loopw [3, 4] (fun v3 v5 w' => ∃ (pos b : Nat) (acc : List Int), w'.heap[w2.heap.size]? = some (.stringIter a0 pos) ∧ Aside0 (Kd.R (Kd.int .i64) 3 w' w.heap.size (fun k_ => k_ ≠ w2.heap.size) v3 acc) ∧ Aside0 (Below w.heap.size w w') ∧ Aside0 (acc ++ nums1 (runesFrom a0 b pos) = r) ∧ a0.size ≤ pos + b ∧ acc.length ≤ pos) (fun _ _ w' => a0.size - w'.iterPos w2.heap.size)
    case atStart => exact ⟨0, a0.size, [], World.iter_heap _ _ _, ⟨Kd.R_nil _ _ _ _ _⟩, ⟨below_alloc hb2 _⟩, ⟨HR.out⟩, by omega, by simp⟩
    case round =>
      obtain ⟨pos, b, acc, hit, HO, HB, HA, hb, hacc⟩ := hrel
      by_cases hp : pos < a0.size
      · have hnx : ∀ ty, (Instr.next (.pointer (some ⟨w2.heap.size, 0, none⟩)) true ty).run Tryd.prog wr = _ := fun ty => Lib.run_next_any_at wr w2.heap.size a0 pos ty hit hp
        have hwd := Lib.decode_width_pos a0 pos hp
        cases b with
        | zero => omega
        | succ b =>
          rw [runesFrom_step a0 b pos hp] at HA
          have hle := decode_le a0 pos
          have hK := (Array.getElem?_eq_some_iff.1 hit).1
          have hit2 := Lib.iterAt_heap wr w2.heap.size a0 pos (pos + (Utf8.decode a0 pos).2) hit
          have hsz := Aside0.mk (Lib.iterAt_size wr w2.heap.size a0 (pos + (Utf8.decode a0 pos).2))
          have HO2 := Aside0.mk (Kd.R_step HO.out (w1 := wr.iterAt w2.heap.size a0 (pos + (Utf8.decode a0 pos).2)) (fun k hk _ => Lib.iterAt_other wr w2.heap.size k a0 _ hk))
          have HB2 := Aside0.mk (Lib.below_iterAt HB.out hb2.size a0 (pos + (Utf8.decode a0 pos).2))
          clear HO HB
          generalize hd : (Utf8.decode a0 pos).1 = c at *
          generalize hw2 : (Utf8.decode a0 pos).2 = wd at *
          have ge : (0 : Int) ≤ (c : Int) := by omega
          go_wp2_with (first | ((with_reducible refine gate_builtin (b := .append) (xs := #[.tmp 13, .tmp 15]) rfl ?_); at_builtin; refine Kd.R_append (Kd.int .i64) (w0 := w) w.heap.size rfl (.tmp 13) (.tmp 15) 24 3 (.int .i64 0) 8 rfl Tryd.underlying24 info3 rfl (by decide) (by omega) _ acc (pos : Int) [.int .i64 (pos : Int)] (fun k_ => k_ ≠ w2.heap.size) (fun _ => False) rfl rfl ?aP (fun _ hk => hk.elim) ?aF ?aO ?aB ?aS ?aL ?_; (case aP => exact rfl); (case aB => exact HB2.out); (case aF => exact (fun k_ hk => by have := hsz.out; omega)); (case aO => exact HO2.out); (case aS => exact HB2.out.size); (case aL => omega); intro v141 w11 ho hb3 hg hat; have HO3 := Aside0.mk ho; have HB3 := Aside0.mk hb3; have HG3 := Aside0.mk hg; clear ho hb3 hg hat))
          go_roundw
          case rel =>
            have hit3 : w11.heap[w2.heap.size]? = some (.stringIter a0 (pos + wd)) := by
              rw [HG3.out.block w2.heap.size (by have := hsz.out; omega) (fun e => HO2.out.1 w2.heap.size e.symm rfl)]
              exact hit2
            exact ⟨pos + wd, b, acc ++ [(pos : Int)], hit3, HO3, HB3, ⟨by rw [← HA.out]; simp [nums1]⟩, by omega, by simp; omega⟩
          case measure =>
            have hit3 : w11.heap[w2.heap.size]? = some (.stringIter a0 (pos + wd)) := by
              rw [HG3.out.block w2.heap.size (by have := hsz.out; omega) (fun e => HO2.out.1 w2.heap.size e.symm rfl)]
              exact hit2
            simp only [World.iterPos, hit3, hit]
            omega
      · have hnx : ∀ ty, (Instr.next (.pointer (some ⟨w2.heap.size, 0, none⟩)) true ty).run Tryd.prog wr = _ := fun ty => Lib.run_next_end_at wr w2.heap.size a0 pos ty hit hp
        rw [runesFrom_end a0 b pos hp] at HA
        go_wp2
        go_ret
        refine ⟨_, rfl, ?_, HB.out⟩
        have e := HA.out
        simp only [nums1, List.map_nil, List.append_nil] at e
        rw [← e]
        exact Kd.R_mono HO.out (fun _ _ => trivial)

end Go.Proofs.YtaaibnpjajfpgaaDoor.PLex
