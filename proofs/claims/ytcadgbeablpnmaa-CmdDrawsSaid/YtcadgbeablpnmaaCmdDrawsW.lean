/- The law CmdDraws, walked by hand. -/
import Derived.Test.YtcadgbeablpnmaaCmdDrawO
import Derived.Test.YtcadgbeablpnmaaOpensCmd
import Derived.Outline
import Derived.WalkSpells
import Derived.Deep.RegionHeld3
namespace Go.Proofs.Ytcadgbeablpnmaa.PCmd
open Go.RowKit Go.Proofs.YtcadgbeablpnmaaW.PrintWords Go.Proofs.YtcadgbeablpnmaaW.PrintLast Go.Proofs.YtcadgbeablpnmaaW.PrintMore
attribute [local go_sem] max2_int min2_int max_two min_two max_three min_three max_four min_four   -- for this text's walks alone
set_option linter.unusedVariables false
set_option linter.unusedSimpArgs false

theorem info41 : (Try.prog.info? 41).map (fun i => (i.zero, i.size, i.bytes)) = some (some .nilIface, 1, 16) := by kernel_rfl
theorem IV.val_cells (x : IV) : (IV.val x).cells = #[IV.val x] := by cases x <;> rfl
attribute [local go_sem] IV.val_cells
theorem AsDraw_as (x : IV) (hx : x.ok) (d : S58) (hd : x.rec' = d) (b : Bool) (hb : x.isD = b) (w : World) : Calls Try.prog 13 #[x.val] w fun e w' => e = .returned (.tuple #[.agg #[.int .i64 d.f0, .int .i64 d.f1, .int .i64 d.f2, .int .i64 d.f3], .bool b]) ∧ Below w.heap.size w w' := by
  subst hd hb
  exact AsDraw_any x hx w
theorem set4_cell {W : World} {g : Nat} {v0 v1 v2 v3 u : Value} {p : Addr} (hp : p.block ≠ g) (h : W.cell? p = some u) : ((((W.setCell ⟨g, 0, none⟩ v0).setCell ⟨g, 1, none⟩ v1).setCell ⟨g, 2, none⟩ v2).setCell ⟨g, 3, none⟩ v3).drew.cell? p = some u := by
  have o : ∀ j, (⟨g, j, none⟩ : Addr) ≠ p := fun j e => hp (congrArg Addr.block e).symm
  have d : ∀ X : World, X.drew.cell? p = X.cell? p := fun _ => rfl
  rw [d, World.cell?_setCell_other _ _ _ _ (o 3), World.cell?_setCell_other _ _ _ _ (o 2), World.cell?_setCell_other _ _ _ _ (o 1), World.cell?_setCell_other _ _ _ _ (o 0)]
  exact h
theorem e49_41 : ∀ q, q ∈ 49 :: k58.E → q ≠ 41 := by intro q hq; have : k58.E = [] := rfl; rw [this] at hq; rw [List.mem_singleton.1 hq]; decide
theorem e41_49 : ∀ q, q ∈ 41 :: kiv.E → q ≠ 49 := by intro q hq; have : kiv.E = [] := rfl; rw [this] at hq; rw [List.mem_singleton.1 hq]; decide
def temperalaw20_CmdDraws.f (_ : Nat) (_ : List S25) : Option Bool := some true
set_option maxHeartbeats 8000000 in
set_option maxRecDepth 100000 in
theorem temperalaw20_CmdDraws.calls (k : Nat) (A0 : Option Addr) (c0 : Nat) (l0 : List S25) (r : Bool) (w : World) (hr0 : Kd.C k25 w A0 l0.length l0) (hc0 : l0.length ≤ c0) (hF : temperalaw20_CmdDraws.f k l0 = some r) :
    Calls Try.prog 5 #[.slice A0 l0.length c0] w fun e w' => e = .returned (.bool r) ∧ Below w.heap.size w w' := by
  obtain rfl : true = r := Option.some.inj hF
  have HR0 := Aside0.mk hr0
  have HC0 := Aside0.mk hc0
  clear hr0 hc0 hF
  have HB := Aside0.mk (Below.refl w.heap.size w)
  have hu49 := Try.underlying49
  have hu25 := Try.underlying25
  by_cases hn : 20 < l0.length
  · have hnd : decide ((20 : Int) < (l0.length : Int)) = true := decide_eq_true (by omega)
    clear hn
    go_enter Try.func5, Try.ntmps5
    go_wp2_with (first | (go_at_call 7; (refine (awake20 _).mono ?_); rintro e w1 ⟨rfl, hb⟩))
    go_ret
    exact ⟨rfl, by repeat (first | exact hb | apply below_alloc)⟩
  · have hnd : decide ((20 : Int) < (l0.length : Int)) = false := decide_eq_false (by omega)
    have HN := Aside0.mk hn
    clear hn
    go_enter Try.func5, Try.ntmps5
    go_wp2
    go_loopg [3, 4, 5, 6] l0.length (fun kq v3 v4 v5 v6 w' => ∃ (ivs : List IV) (x6 : Int) (b : Bool), v6 = .int .i64 x6 ∧ v5 = .bool b ∧ Aside0 (b = ivs.all IV.isD) ∧ Aside0 (x6 = (ivs.length : Int)) ∧ Aside0 (ivs.length + kq = l0.length) ∧ Aside0 (∀ x ∈ ivs, x.ok) ∧ Aside0 (Kd.R kiv 41 w' w.heap.size (fun _ => True) v3 ivs) ∧ Aside0 (Kd.R k58 49 w' w.heap.size (fun _ => True) v4 (ivs.map IV.rec')) ∧ Aside0 (Below w.heap.size w w'))
    case atStart => exact ⟨[], 0, true, rfl, rfl, ⟨rfl⟩, ⟨rfl⟩, ⟨by simp⟩, ⟨by simp⟩, ⟨Kd.R_nil _ _ _ _ _⟩, ⟨Kd.R_nil _ _ _ _ _⟩, ⟨HB.out⟩⟩
    case round =>
      obtain ⟨ivs, x6, b, rfl, rfl, HBb, HX, HK, HOK, HR3, HR4, HB⟩ := hrel
      cases gk with
      | zero =>
        obtain ⟨A3, c3, rfl, h31, h32⟩ := Kd.R_reads HR3.out
        have hge : ¬ (x6 < (l0.length : Int)) := by rw [HX.out, ← HK.out]; omega
        have hged : decide (x6 < (l0.length : Int)) = false := decide_eq_false hge
        go_wp2_with fail
        refine (Draws_any A3 c3 ivs _ h32 (by have h1_ := HK.out; have h2_ := HN.out; omega) HOK.out h31).mono ?_
        clear h31 h32
        rintro e w1 ⟨hb, ⟨ds, v, hds, rfl, hR⟩ | ⟨⟨y, hy, hyd⟩, rfl⟩⟩
        · have hmap : ivs.map IV.rec' = ds := by rw [hds, List.map_map]; exact List.map_id ds
          obtain rfl : b = true := by rw [HBb.out, hds, List.all_map]; simp [IV.isD]
          have HR4' := Kd.R_below HR4.out hb
          rw [hmap] at HR4'
          obtain ⟨A4, c4, rfl, h41, h42⟩ := Kd.R_reads HR4'
          obtain ⟨A5, c5, rfl, h51, h52⟩ := Kd.R_reads hR
          have HBA := Aside0.mk (below_step HB.out hb)
          have H42 := Aside0.mk h42
          have H52 := Aside0.mk h52
          have HDL : Aside0 (ds.length ≤ 20) := ⟨by have h1_ := HK.out; have h2_ := HN.out; rw [hds, List.length_map] at h1_; omega⟩
          clear hb hR HR4' HR4 HR3 h41 h42 h51 h52 hds hmap hge hged HOK HK HX HBb
          go_wp2
          go_loopg [14] ds.length (fun kq v14 w' => ∃ (x14 : Int), v14 = .int .i64 x14 ∧ Aside0 (0 ≤ x14 ∧ x14 + kq = ds.length) ∧ Aside0 (Kd.C k58 w' A5 ds.length ds) ∧ Aside0 (Kd.C k58 w' A4 ds.length ds) ∧ Aside0 (Below w.heap.size w w'))
          case atStart => exact ⟨0, rfl, ⟨by omega⟩, H52, H42, HBA⟩
          case round =>
            obtain ⟨x14, rfl, HX, HC5, HC4, HBA⟩ := hrel
            cases gk with
            | zero =>
              have hged : decide (x14 < (ds.length : Int)) = false := decide_eq_false (by have h1_ := HX.out; omega)
              go_wp2_with (first | (go_at_call 7; (refine (awake20 _).mono ?_); rintro e w2 ⟨rfl, hb⟩))
              go_ret
              exact ⟨rfl, below_step HBA.out hb⟩
            | succ k1 =>
              have hged : decide (x14 < (ds.length : Int)) = true := decide_eq_true (by have h1_ := HX.out; omega)
              have p6 : 0 ≤ x14 := by have h1_ := HX.out; omega
              have q6 : x14 < (ds.length : Int) := by have h1_ := HX.out; omega
              have hw1 : wrap64 (x14 + 1) = x14 + 1 := by have h1_ := HX.out; have h2_ := HDL.out; unfold wrap64; omega
              obtain ⟨ad5, rfl, hx_0, hx_1, hx_2, hx_3⟩ := at_T58 HC5.out x14 p6 q6
              obtain ⟨ad4, rfl, hy_0, hy_1, hy_2, hy_3⟩ := at_T58 HC4.out x14 p6 q6
              replace p6 := eq_true p6
              replace q6 := eq_true q6
              generalize (rd_T58 ds x14).f0 = h at *
              generalize (rd_T58 ds x14).f1 = a at *
              generalize (rd_T58 ds x14).f2 = b1 at *
              generalize (rd_T58 ds x14).f3 = c at *
              go_wp2
              go_region_held3 (fun w' => w'.cell? (ad5.add (x14.toNat * 4)) = some (.int .i64 h) ∧ w'.cell? ⟨(ad5.add (x14.toNat * 4)).block, (ad5.add (x14.toNat * 4)).off + 1, none⟩ = some (.int .i64 a) ∧ w'.cell? ⟨(ad5.add (x14.toNat * 4)).block, (ad5.add (x14.toNat * 4)).off + 2, none⟩ = some (.int .i64 b1) ∧ w'.cell? ⟨(ad5.add (x14.toNat * 4)).block, (ad5.add (x14.toNat * 4)).off + 3, none⟩ = some (.int .i64 c) ∧ w'.cell? (ad4.add (x14.toNat * 4)) = some (.int .i64 h) ∧ w'.cell? ⟨(ad4.add (x14.toNat * 4)).block, (ad4.add (x14.toNat * 4)).off + 1, none⟩ = some (.int .i64 a) ∧ w'.cell? ⟨(ad4.add (x14.toNat * 4)).block, (ad4.add (x14.toNat * 4)).off + 2, none⟩ = some (.int .i64 b1) ∧ w'.cell? ⟨(ad4.add (x14.toNat * 4)).block, (ad4.add (x14.toNat * 4)).off + 3, none⟩ = some (.int .i64 c)) (go_keep) (fail)
              all_goals
                go_wp2
                go_roundg k1
                case measure => omega
                case rel => exact ⟨x14 + 1, by first | rfl | (rw [hw1]) | (simp [hw1]), ⟨by have h1_ := HX.out; omega⟩, ⟨by repeat (first | exact HC5.out | (with_reducible refine Kd.C_drewN ?_ _) | (with_reducible refine Kd.C_drew ?_))⟩, ⟨by repeat (first | exact HC4.out | (with_reducible refine Kd.C_drewN ?_ _) | (with_reducible refine Kd.C_drew ?_))⟩, ⟨by repeat (first | (with_reducible first | exact HBA.out | apply below_drew1 | apply pw_below_drewN) | exact HBA.out)⟩⟩
        · obtain rfl : b = false := by rw [HBb.out, List.all_eq_false]; exact ⟨y, hy, by simp [hyd]⟩
          have HBA := Aside0.mk (below_step HB.out hb)
          clear hb
          go_wp2_with (first | (go_at_call 7; (refine (awake20 _).mono ?_); rintro e w2 ⟨rfl, hb⟩))
          go_ret
          exact ⟨rfl, below_step HBA.out hb⟩
      | succ k1 =>
        have hlt : decide (x6 < (l0.length : Int)) = true := decide_eq_true (by rw [HX.out, ← HK.out]; omega)
        have p6 : 0 ≤ x6 := by rw [HX.out]; omega
        have q6 : x6 < (l0.length : Int) := by rw [HX.out, ← HK.out]; omega
        obtain ⟨ad, A6, c6, A7, c7, rfl, hx_0, hx_1, hx_2, hx_3, hx_4, hx_5, hx_6, hx_7, hl6, hi6, hl7, hi7⟩ := at_T25 HR0.out x6 p6 q6
        replace hx_0 := (HB.out.cell (World.block_lt_of_cell? w _ hx_0)).trans hx_0
        replace hx_1 := (HB.out.cell (World.block_lt_of_cell? w _ hx_1)).trans hx_1
        replace hx_2 := (HB.out.cell (World.block_lt_of_cell? w _ hx_2)).trans hx_2
        replace hx_3 := (HB.out.cell (World.block_lt_of_cell? w _ hx_3)).trans hx_3
        replace hx_4 := (HB.out.cell (World.block_lt_of_cell? w _ hx_4)).trans hx_4
        replace hx_5 := (HB.out.cell (World.block_lt_of_cell? w _ hx_5)).trans hx_5
        replace hx_6 := (HB.out.cell (World.block_lt_of_cell? w _ hx_6)).trans hx_6
        replace hx_7 := (HB.out.cell (World.block_lt_of_cell? w _ hx_7)).trans hx_7
        replace p6 := eq_true p6
        replace q6 := eq_true q6
        generalize (rd_T25 l0 x6).f0 = op at *
        generalize (rd_T25 l0 x6).f1 = h at *
        generalize (rd_T25 l0 x6).f2 = a at *
        generalize (rd_T25 l0 x6).f3 = b1 at *
        generalize (rd_T25 l0 x6).f4 = c at *
        generalize (rd_T25 l0 x6).f5 = d at *
        generalize (rd_T25 l0 x6).f6 = l6 at *
        generalize (rd_T25 l0 x6).f7 = l7 at *
        have HL6 := Aside0.mk hl6
        have HL7 := Aside0.mk hl7
        have HI6 := Aside0.mk (Kd.C_below hi6 HB.out)
        have HI7 := Aside0.mk (Kd.C_below hi7 HB.out)
        clear hl6 hl7 hi6 hi7
        by_cases hlen : l6.length ≤ 5000 ∧ l7.length ≤ 1100
        · have HLEN := Aside0.mk hlen
          clear hlen
          by_cases hop : op = 14
          · subst hop
            go_wp2_with (first | (go_at_call 6; (refine (Light_yes 14 h a b1 c d l6 l7 _ _ _ (Sl.mk HI6.out HL6.out) (Sl.mk HI7.out HL7.out) true (by simp [HLEN.out])).mono ?_); rintro e w1 ⟨rfl, hb⟩; replace hx_0 := (hb.cell (World.block_lt_of_cell? _ _ hx_0)).trans hx_0; replace hx_1 := (hb.cell (World.block_lt_of_cell? _ _ hx_1)).trans hx_1; replace hx_2 := (hb.cell (World.block_lt_of_cell? _ _ hx_2)).trans hx_2; replace hx_3 := (hb.cell (World.block_lt_of_cell? _ _ hx_3)).trans hx_3; replace hx_4 := (hb.cell (World.block_lt_of_cell? _ _ hx_4)).trans hx_4; replace hx_5 := (hb.cell (World.block_lt_of_cell? _ _ hx_5)).trans hx_5; replace hx_6 := (hb.cell (World.block_lt_of_cell? _ _ hx_6)).trans hx_6; replace hx_7 := (hb.cell (World.block_lt_of_cell? _ _ hx_7)).trans hx_7; have HBA := Aside0.mk (below_step HB.out hb); have HI6a := Aside0.mk (Kd.C_below HI6.out hb); have HI7a := Aside0.mk (Kd.C_below HI7.out hb); have HRa := Aside0.mk (Kd.R_below HR3.out hb); have HRb := Aside0.mk (Kd.R_below HR4.out hb); clear hb) | (go_at_call 12; (refine (Of_14 h a b1 c d _ _ _ _ _ _ _ HI6a.out HL6.out HI7a.out HL7.out HLEN.out.1 HLEN.out.2).mono ?_); rintro e w2 ⟨rfl, hb⟩; replace hx_0 := (hb.cell (World.block_lt_of_cell? _ _ hx_0)).trans hx_0; replace hx_1 := (hb.cell (World.block_lt_of_cell? _ _ hx_1)).trans hx_1; replace hx_2 := (hb.cell (World.block_lt_of_cell? _ _ hx_2)).trans hx_2; replace hx_3 := (hb.cell (World.block_lt_of_cell? _ _ hx_3)).trans hx_3; replace hx_4 := (hb.cell (World.block_lt_of_cell? _ _ hx_4)).trans hx_4; replace hx_5 := (hb.cell (World.block_lt_of_cell? _ _ hx_5)).trans hx_5; replace hx_6 := (hb.cell (World.block_lt_of_cell? _ _ hx_6)).trans hx_6; replace hx_7 := (hb.cell (World.block_lt_of_cell? _ _ hx_7)).trans hx_7; have HBC := Aside0.mk (below_step HBA.out hb); have HRc := Aside0.mk (Kd.R_below HRa.out hb); have HRd := Aside0.mk (Kd.R_below HRb.out hb); clear hb) | (go_at_call 13; (refine (AsDraw_yes h a b1 c _).mono ?_); rintro e w3 ⟨rfl, hb⟩; replace hx_0 := (hb.cell (World.block_lt_of_cell? _ _ hx_0)).trans hx_0; replace hx_1 := (hb.cell (World.block_lt_of_cell? _ _ hx_1)).trans hx_1; replace hx_2 := (hb.cell (World.block_lt_of_cell? _ _ hx_2)).trans hx_2; replace hx_3 := (hb.cell (World.block_lt_of_cell? _ _ hx_3)).trans hx_3; replace hx_4 := (hb.cell (World.block_lt_of_cell? _ _ hx_4)).trans hx_4; replace hx_5 := (hb.cell (World.block_lt_of_cell? _ _ hx_5)).trans hx_5; replace hx_6 := (hb.cell (World.block_lt_of_cell? _ _ hx_6)).trans hx_6; replace hx_7 := (hb.cell (World.block_lt_of_cell? _ _ hx_7)).trans hx_7; have HBD := Aside0.mk (below_step HBC.out hb); have HRe := Aside0.mk (Kd.R_below HRc.out hb); have HRf := Aside0.mk (Kd.R_below HRd.out hb); clear hb; have hblt : (ad.add (x6.toNat * 8)).block < w3.heap.size := World.block_lt_of_cell? _ _ hx_0; have hbne : (ad.add (x6.toNat * 8)).block ≠ w3.heap.size := Nat.ne_of_lt hblt; have hbne1 : (ad.add (x6.toNat * 8)).block ≠ w3.heap.size + 1 := by omega))
            obtain ⟨W4, hW4⟩ : ∃ W, W = (w3.alloc (.cells #[.int .i64 h, .int .i64 a, .int .i64 b1, .int .i64 c] 49)).alloc (.cells #[.int .i64 0, .int .i64 0, .int .i64 0, .int .i64 0] 49) := ⟨_, rfl⟩
            have BG : W4.heap[w3.heap.size]? = some (.cells #[.int .i64 h, .int .i64 a, .int .i64 b1, .int .i64 c] 49 (0, 0)) := by rw [hW4]; exact blk_alloc (blk_new _ _) _
            have BH : W4.heap[w3.heap.size + 1]? = some (.cells #[.int .i64 0, .int .i64 0, .int .i64 0, .int .i64 0] 49 (0, 0)) := by rw [hW4]; exact blk_new2 _ _ _
            have hb4 : Below w3.heap.size w3 W4 := by rw [hW4]; exact below_alloc (below_alloc (Below.refl _ _) _) _
            have HBE := Aside0.mk (below_step HBD.out hb4)
            have HRg := Aside0.mk (Kd.R_below HRe.out hb4)
            have HRh := Aside0.mk (Kd.R_below HRf.out hb4)
            have HS3 := Aside0.mk HBD.out.size
            replace hx_0 := (hb4.cell (World.block_lt_of_cell? _ _ hx_0)).trans hx_0
            replace hx_1 := (hb4.cell (World.block_lt_of_cell? _ _ hx_1)).trans hx_1
            replace hx_2 := (hb4.cell (World.block_lt_of_cell? _ _ hx_2)).trans hx_2
            replace hx_3 := (hb4.cell (World.block_lt_of_cell? _ _ hx_3)).trans hx_3
            replace hx_4 := (hb4.cell (World.block_lt_of_cell? _ _ hx_4)).trans hx_4
            replace hx_5 := (hb4.cell (World.block_lt_of_cell? _ _ hx_5)).trans hx_5
            replace hx_6 := (hb4.cell (World.block_lt_of_cell? _ _ hx_6)).trans hx_6
            replace hx_7 := (hb4.cell (World.block_lt_of_cell? _ _ hx_7)).trans hx_7
            rw [← hW4]
            clear hW4
            have BG1 := Aside0.mk BG
            have BH1 := Aside0.mk BH
            obtain ⟨hq0, hq1, hq_0, hq_1, hq_2, hq_3⟩ := blk4 BH
            have hf_0 := blk_frozen BH 0
            have hf_1 := blk_frozen BH 1
            have hf_2 := blk_frozen BH 2
            have hf_3 := blk_frozen BH 3
            clear BG BH
            go_region_held3 (fun w' => w'.cell? ⟨(ad.add (x6.toNat * 8)).block, (ad.add (x6.toNat * 8)).off + 1, none⟩ = some (.int .i64 h) ∧ w'.cell? ⟨(ad.add (x6.toNat * 8)).block, (ad.add (x6.toNat * 8)).off + 2, none⟩ = some (.int .i64 a) ∧ w'.cell? ⟨(ad.add (x6.toNat * 8)).block, (ad.add (x6.toNat * 8)).off + 3, none⟩ = some (.int .i64 b1) ∧ w'.cell? ⟨(ad.add (x6.toNat * 8)).block, (ad.add (x6.toNat * 8)).off + 4, none⟩ = some (.int .i64 c)) (first | ((repeat' apply And.intro) <;> with_reducible (first | exact set4_cell hbne1 hx_1 | exact set4_cell hbne1 hx_2 | exact set4_cell hbne1 hx_3 | exact set4_cell hbne1 hx_4)) | go_keep) (fail)
            obtain ⟨W5, hW5⟩ : ∃ W, W = ((((W4.setCell ⟨w3.heap.size + 1, 0, none⟩ (.int .i64 h)).setCell ⟨w3.heap.size + 1, 1, none⟩ (.int .i64 a)).setCell ⟨w3.heap.size + 1, 2, none⟩ (.int .i64 b1)).setCell ⟨w3.heap.size + 1, 3, none⟩ (.int .i64 c)).drew := ⟨_, rfl⟩
            have hd01 : w3.heap.size ≠ w3.heap.size + 1 := by omega
            have BG : W5.heap[w3.heap.size]? = some (.cells #[.int .i64 h, .int .i64 a, .int .i64 b1, .int .i64 c] 49 (0, 0)) := by rw [hW5]; exact blk_drew (blk_far (blk_far (blk_far (blk_far BG1.out hd01 _) hd01 _) hd01 _) hd01 _)
            have BH : W5.heap[w3.heap.size + 1]? = some (.cells #[.int .i64 h, .int .i64 a, .int .i64 b1, .int .i64 c] 49 (0, 0)) := by rw [hW5]; exact blk_drew (ret4 BH1.out)
            have hb5 : Below w3.heap.size w3 W5 := by rw [hW5]; exact below_drew1 (below4 hb4 (Nat.le_succ _))
            replace hx_0 := (set4_cell (v0 := .int .i64 h) (v1 := .int .i64 a) (v2 := .int .i64 b1) (v3 := .int .i64 c) hbne1 hx_0)
            rw [← hW5] at hx_0 ⊢
            clear hx_1 hx_2 hx_3 hx_4 hx_5 hx_6 hx_7 hq0 hq1 hq_0 hq_1 hq_2 hq_3 hf_0 hf_1 hf_2 hf_3 hW5 BG1 BH1
            have HXO : Aside0 (IV.ok (IV.draw ⟨h, a, b1, c⟩)) := ⟨trivial⟩
            have HBk := Aside0.mk (below_step HBD.out hb5)
            have HRk := Aside0.mk (Kd.R_below HRe.out hb5)
            have HRl := Aside0.mk (Kd.R_below HRf.out hb5)
            clear hb5 hb4
            obtain ⟨hg0, hg1, hg_0, hg_1, hg_2, hg_3⟩ := blk4 BG
            obtain ⟨hh0, hh1, hh_0, hh_1, hh_2, hh_3⟩ := blk4 BH
            have BG2 := Aside0.mk BG
            have BH2 := Aside0.mk BH
            clear BG BH
            cases b
            all_goals
              go_wp2_with (first | ((with_reducible refine gate_builtin (b := .append) (xs := #[.tmp 90, .tmp 92]) rfl ?_); at_builtin; refine Kd.R_append kiv (w0 := w) w.heap.size rfl (.tmp 90) (.tmp 92) 46 41 .nilIface 16 rfl Try.underlying46 info41 rfl (by decide) (by omega) u3 ivs (IV.draw ⟨h, a, b1, c⟩) [.iface 49 (.agg #[.int .i64 h, .int .i64 a, .int .i64 b1, .int .i64 c])] (fun _ => True) (fun _ => False) rfl rfl ?aP (fun _ hk => hk.elim) ?aF ?aO ?aB ?aS ?aL ?_; (case aP => exact rfl); (case aF => exact fun _ _ => trivial); (case aO => exact HRk.out); (case aB => exact HBk.out); (case aS => exact HBk.out.size); (case aL => exact (by have h1_ := HK.out; have h2_ := HN.out; omega)); intro v5 w6 ho hb hg hat; have HR5 := Aside0.mk ho; have HR6 := Aside0.mk (Kd.R_over HRl.out HRk.out e49_41 hg); have HB6 := Aside0.mk hb; obtain ⟨hg0, hg1, hg_0, hg_1, hg_2, hg_3⟩ := blk4 (blk_grown BG2.out hg (Kd.R_ne HRk.out BG2.out (show (41 : Nat) ≠ 49 by decide))); clear ho hb hg hat) | ((with_reducible refine gate_builtin (b := .append) (xs := #[.tmp 94, .tmp 96]) rfl ?_); at_builtin; refine Kd.R_append k58 (w0 := w) w.heap.size rfl (.tmp 94) (.tmp 96) 47 49 (.agg #[.int .i64 0, .int .i64 0, .int .i64 0, .int .i64 0]) 32 rfl Try.underlying47 info49 rfl (by decide) (by omega) u4 (ivs.map IV.rec') ⟨h, a, b1, c⟩ [.int .i64 h, .int .i64 a, .int .i64 b1, .int .i64 c] (fun _ => True) (fun _ => False) rfl rfl ?aP (fun _ hk => hk.elim) ?aF ?aO ?aB ?aS ?aL ?_; (case aP => exact k58_mkM _ _ _ ⟨h, a, b1, c⟩); (case aF => exact fun _ _ => trivial); (case aO => exact HR6.out); (case aB => exact HB6.out); (case aS => exact HB6.out.size); (case aL => exact (by have h1_ := HK.out; have h2_ := HN.out; rw [List.length_map]; omega)); intro v7 w8 ho hb hg hat; have HR7 := Aside0.mk (Kd.R_over HR5.out HR6.out e41_49 hg); have HR8 := Aside0.mk ho; have HB8 := Aside0.mk hb; clear ho hb hg hat))
              go_roundg k1
              case measure => omega
              case rel => exact ⟨ivs ++ [(IV.draw ⟨h, a, b1, c⟩)], _, _, rfl, rfl, ⟨by rw [List.all_append, ← HBb.out]; rfl⟩, ⟨by have h1_ := HK.out; have h2_ := HN.out; rw [HX.out, List.length_append, List.length_singleton]; exact wrap1 _ (by omega)⟩, ⟨by have h1_ := HK.out; rw [List.length_append, List.length_singleton]; omega⟩, ⟨fun y hy => by rcases List.mem_append.1 hy with hy | hy; exact HOK.out y hy; rw [List.mem_singleton.1 hy]; exact HXO.out⟩, ⟨HR7.out⟩, ⟨by rw [List.map_append]; exact HR8.out⟩, ⟨HB8.out⟩⟩
          · have hopd : decide (op = 14) = false := decide_eq_false hop
            have HOP := Aside0.mk hop
            have hopb : (op == 14) = false := by simpa using hop
            go_wp2_with (first | (go_at_call 6; (refine (Light_yes op h a b1 c d l6 l7 _ _ _ (Sl.mk HI6.out HL6.out) (Sl.mk HI7.out HL7.out) true (by simp [HLEN.out])).mono ?_); rintro e w1 ⟨rfl, hb⟩; replace hx_0 := (hb.cell (World.block_lt_of_cell? _ _ hx_0)).trans hx_0; replace hx_1 := (hb.cell (World.block_lt_of_cell? _ _ hx_1)).trans hx_1; replace hx_2 := (hb.cell (World.block_lt_of_cell? _ _ hx_2)).trans hx_2; replace hx_3 := (hb.cell (World.block_lt_of_cell? _ _ hx_3)).trans hx_3; replace hx_4 := (hb.cell (World.block_lt_of_cell? _ _ hx_4)).trans hx_4; replace hx_5 := (hb.cell (World.block_lt_of_cell? _ _ hx_5)).trans hx_5; replace hx_6 := (hb.cell (World.block_lt_of_cell? _ _ hx_6)).trans hx_6; replace hx_7 := (hb.cell (World.block_lt_of_cell? _ _ hx_7)).trans hx_7; have HBA := Aside0.mk (below_step HB.out hb); have HI6a := Aside0.mk (Kd.C_below HI6.out hb); have HI7a := Aside0.mk (Kd.C_below HI7.out hb); have HRa := Aside0.mk (Kd.R_below HR3.out hb); have HRb := Aside0.mk (Kd.R_below HR4.out hb); clear hb))
            refine (Of_any op h a b1 c d _ _ _ _ _ _ _ HI6a.out HL6.out HI7a.out HL7.out HLEN.out.1 HLEN.out.2).mono ?_
            rintro e w2 ⟨x, n, rfl, hxok, hb, hxd, hxr⟩
            replace hx_0 := (hb.cell (World.block_lt_of_cell? _ _ hx_0)).trans hx_0
            replace hx_1 := (hb.cell (World.block_lt_of_cell? _ _ hx_1)).trans hx_1
            replace hx_2 := (hb.cell (World.block_lt_of_cell? _ _ hx_2)).trans hx_2
            replace hx_3 := (hb.cell (World.block_lt_of_cell? _ _ hx_3)).trans hx_3
            replace hx_4 := (hb.cell (World.block_lt_of_cell? _ _ hx_4)).trans hx_4
            replace hx_5 := (hb.cell (World.block_lt_of_cell? _ _ hx_5)).trans hx_5
            replace hx_6 := (hb.cell (World.block_lt_of_cell? _ _ hx_6)).trans hx_6
            replace hx_7 := (hb.cell (World.block_lt_of_cell? _ _ hx_7)).trans hx_7
            have HBC := Aside0.mk (below_step HBA.out hb)
            have HRc := Aside0.mk (Kd.R_below HRa.out hb)
            have HRd := Aside0.mk (Kd.R_below HRb.out hb)
            clear hb
            have HXO := Aside0.mk hxok
            have HXD := Aside0.mk hxd
            clear hxok hxd hxr
            cases x with
            | draw d' => exact absurd HXD.out (by simp [IV.isD, HOP.out])
            | other T v =>
              simp only [IV.val]
              cases b
              all_goals
                go_wp2_with (first | (go_at_call 13; (refine (AsDraw_as (IV.other T v) HXO.out ⟨0, 0, 0, 0⟩ rfl false rfl _).mono ?_); rintro e w3 ⟨rfl, hb⟩; replace hx_0 := (hb.cell (World.block_lt_of_cell? _ _ hx_0)).trans hx_0; replace hx_1 := (hb.cell (World.block_lt_of_cell? _ _ hx_1)).trans hx_1; replace hx_2 := (hb.cell (World.block_lt_of_cell? _ _ hx_2)).trans hx_2; replace hx_3 := (hb.cell (World.block_lt_of_cell? _ _ hx_3)).trans hx_3; replace hx_4 := (hb.cell (World.block_lt_of_cell? _ _ hx_4)).trans hx_4; replace hx_5 := (hb.cell (World.block_lt_of_cell? _ _ hx_5)).trans hx_5; replace hx_6 := (hb.cell (World.block_lt_of_cell? _ _ hx_6)).trans hx_6; replace hx_7 := (hb.cell (World.block_lt_of_cell? _ _ hx_7)).trans hx_7; have HBD := Aside0.mk (below_step HBC.out hb); have HRe := Aside0.mk (Kd.R_below HRc.out hb); have HRf := Aside0.mk (Kd.R_below HRd.out hb); clear hb; have hblt : (ad.add (x6.toNat * 8)).block < w3.heap.size := World.block_lt_of_cell? _ _ hx_0; have hbne : (ad.add (x6.toNat * 8)).block ≠ w3.heap.size := Nat.ne_of_lt hblt; have hbne1 : (ad.add (x6.toNat * 8)).block ≠ w3.heap.size + 1 := by omega) | ((with_reducible refine gate_builtin (b := .append) (xs := #[.tmp 90, .tmp 92]) rfl ?_); at_builtin; go_must (refine Kd.R_append kiv (w0 := w) (W := (w3.alloc (.cells #[.int .i64 0, .int .i64 0, .int .i64 0, .int .i64 0] 49)).alloc (.cells #[.int .i64 0, .int .i64 0, .int .i64 0, .int .i64 0] 49)) w.heap.size rfl (.tmp 90) (.tmp 92) 46 41 .nilIface 16 rfl Try.underlying46 info41 rfl (by decide) (by omega) u3 ivs (IV.other T v) [.iface T v] (fun _ => True) (fun _ => False) rfl (by simp [Act.eval]) ?aP (fun _ hk => hk.elim) ?aF ?aO ?aB ?aS ?aL ?_; (case aP => exact rfl); (case aF => exact fun _ _ => trivial); (case aO => exact (Kd.R_alloc (Kd.R_alloc HRe.out (.cells #[.int .i64 0, .int .i64 0, .int .i64 0, .int .i64 0] 49)) (.cells #[.int .i64 0, .int .i64 0, .int .i64 0, .int .i64 0] 49))); (case aB => exact below_alloc (below_alloc HBD.out _) _); (case aS => exact (below_alloc (below_alloc HBD.out _) _).size); (case aL => exact (by have h1_ := HK.out; have h2_ := HN.out; omega)); intro v5 w6 ho hb hg hat; have HR5 := Aside0.mk ho; have HR6 := Aside0.mk (Kd.R_over (Kd.R_alloc (Kd.R_alloc HRf.out (.cells #[.int .i64 0, .int .i64 0, .int .i64 0, .int .i64 0] 49)) (.cells #[.int .i64 0, .int .i64 0, .int .i64 0, .int .i64 0] 49)) (Kd.R_alloc (Kd.R_alloc HRe.out (.cells #[.int .i64 0, .int .i64 0, .int .i64 0, .int .i64 0] 49)) (.cells #[.int .i64 0, .int .i64 0, .int .i64 0, .int .i64 0] 49)) e49_41 hg); have HB6 := Aside0.mk hb; obtain ⟨hg0, hg1, hg_0, hg_1, hg_2, hg_3⟩ := blk4 (blk_grown (blk_alloc (blk_new w3 (.cells #[.int .i64 0, .int .i64 0, .int .i64 0, .int .i64 0] 49)) (.cells #[.int .i64 0, .int .i64 0, .int .i64 0, .int .i64 0] 49)) hg (Kd.R_ne (Kd.R_alloc (Kd.R_alloc HRe.out (.cells #[.int .i64 0, .int .i64 0, .int .i64 0, .int .i64 0] 49)) (.cells #[.int .i64 0, .int .i64 0, .int .i64 0, .int .i64 0] 49)) (blk_alloc (blk_new w3 (.cells #[.int .i64 0, .int .i64 0, .int .i64 0, .int .i64 0] 49)) (.cells #[.int .i64 0, .int .i64 0, .int .i64 0, .int .i64 0] 49)) (show (41 : Nat) ≠ 49 by decide))); clear ho hb hg hat)) | ((with_reducible refine gate_builtin (b := .append) (xs := #[.tmp 94, .tmp 96]) rfl ?_); at_builtin; refine Kd.R_append k58 (w0 := w) w.heap.size rfl (.tmp 94) (.tmp 96) 47 49 (.agg #[.int .i64 0, .int .i64 0, .int .i64 0, .int .i64 0]) 32 rfl Try.underlying47 info49 rfl (by decide) (by omega) u4 (ivs.map IV.rec') ⟨0, 0, 0, 0⟩ [.int .i64 0, .int .i64 0, .int .i64 0, .int .i64 0] (fun _ => True) (fun _ => False) rfl rfl ?aP (fun _ hk => hk.elim) ?aF ?aO ?aB ?aS ?aL ?_; (case aP => exact k58_mkM _ _ _ ⟨0, 0, 0, 0⟩); (case aF => exact fun _ _ => trivial); (case aO => exact HR6.out); (case aB => exact HB6.out); (case aS => exact HB6.out.size); (case aL => exact (by have h1_ := HK.out; have h2_ := HN.out; rw [List.length_map]; omega)); intro v7 w8 ho hb hg hat; have HR7 := Aside0.mk (Kd.R_over HR5.out HR6.out e41_49 hg); have HR8 := Aside0.mk ho; have HB8 := Aside0.mk hb; clear ho hb hg hat))
                go_roundg k1
                case measure => omega
                case rel => exact ⟨ivs ++ [(IV.other T v)], _, _, rfl, rfl, ⟨by rw [List.all_append, ← HBb.out]; rfl⟩, ⟨by have h1_ := HK.out; have h2_ := HN.out; rw [HX.out, List.length_append, List.length_singleton]; exact wrap1 _ (by omega)⟩, ⟨by have h1_ := HK.out; rw [List.length_append, List.length_singleton]; omega⟩, ⟨fun y hy => by rcases List.mem_append.1 hy with hy | hy; exact HOK.out y hy; rw [List.mem_singleton.1 hy]; exact HXO.out⟩, ⟨HR7.out⟩, ⟨by rw [List.map_append]; exact HR8.out⟩, ⟨HB8.out⟩⟩
            | nil =>
              simp only [IV.val]
              cases b
              all_goals
                go_wp2_with (first | (go_at_call 13; (refine (AsDraw_as IV.nil HXO.out ⟨0, 0, 0, 0⟩ rfl false rfl _).mono ?_); rintro e w3 ⟨rfl, hb⟩; replace hx_0 := (hb.cell (World.block_lt_of_cell? _ _ hx_0)).trans hx_0; replace hx_1 := (hb.cell (World.block_lt_of_cell? _ _ hx_1)).trans hx_1; replace hx_2 := (hb.cell (World.block_lt_of_cell? _ _ hx_2)).trans hx_2; replace hx_3 := (hb.cell (World.block_lt_of_cell? _ _ hx_3)).trans hx_3; replace hx_4 := (hb.cell (World.block_lt_of_cell? _ _ hx_4)).trans hx_4; replace hx_5 := (hb.cell (World.block_lt_of_cell? _ _ hx_5)).trans hx_5; replace hx_6 := (hb.cell (World.block_lt_of_cell? _ _ hx_6)).trans hx_6; replace hx_7 := (hb.cell (World.block_lt_of_cell? _ _ hx_7)).trans hx_7; have HBD := Aside0.mk (below_step HBC.out hb); have HRe := Aside0.mk (Kd.R_below HRc.out hb); have HRf := Aside0.mk (Kd.R_below HRd.out hb); clear hb; have hblt : (ad.add (x6.toNat * 8)).block < w3.heap.size := World.block_lt_of_cell? _ _ hx_0; have hbne : (ad.add (x6.toNat * 8)).block ≠ w3.heap.size := Nat.ne_of_lt hblt; have hbne1 : (ad.add (x6.toNat * 8)).block ≠ w3.heap.size + 1 := by omega) | ((with_reducible refine gate_builtin (b := .append) (xs := #[.tmp 90, .tmp 92]) rfl ?_); at_builtin; go_must (refine Kd.R_append kiv (w0 := w) (W := (w3.alloc (.cells #[.int .i64 0, .int .i64 0, .int .i64 0, .int .i64 0] 49)).alloc (.cells #[.int .i64 0, .int .i64 0, .int .i64 0, .int .i64 0] 49)) w.heap.size rfl (.tmp 90) (.tmp 92) 46 41 .nilIface 16 rfl Try.underlying46 info41 rfl (by decide) (by omega) u3 ivs IV.nil [.nilIface] (fun _ => True) (fun _ => False) rfl (by simp [Act.eval]) ?aP (fun _ hk => hk.elim) ?aF ?aO ?aB ?aS ?aL ?_; (case aP => exact rfl); (case aF => exact fun _ _ => trivial); (case aO => exact (Kd.R_alloc (Kd.R_alloc HRe.out (.cells #[.int .i64 0, .int .i64 0, .int .i64 0, .int .i64 0] 49)) (.cells #[.int .i64 0, .int .i64 0, .int .i64 0, .int .i64 0] 49))); (case aB => exact below_alloc (below_alloc HBD.out _) _); (case aS => exact (below_alloc (below_alloc HBD.out _) _).size); (case aL => exact (by have h1_ := HK.out; have h2_ := HN.out; omega)); intro v5 w6 ho hb hg hat; have HR5 := Aside0.mk ho; have HR6 := Aside0.mk (Kd.R_over (Kd.R_alloc (Kd.R_alloc HRf.out (.cells #[.int .i64 0, .int .i64 0, .int .i64 0, .int .i64 0] 49)) (.cells #[.int .i64 0, .int .i64 0, .int .i64 0, .int .i64 0] 49)) (Kd.R_alloc (Kd.R_alloc HRe.out (.cells #[.int .i64 0, .int .i64 0, .int .i64 0, .int .i64 0] 49)) (.cells #[.int .i64 0, .int .i64 0, .int .i64 0, .int .i64 0] 49)) e49_41 hg); have HB6 := Aside0.mk hb; obtain ⟨hg0, hg1, hg_0, hg_1, hg_2, hg_3⟩ := blk4 (blk_grown (blk_alloc (blk_new w3 (.cells #[.int .i64 0, .int .i64 0, .int .i64 0, .int .i64 0] 49)) (.cells #[.int .i64 0, .int .i64 0, .int .i64 0, .int .i64 0] 49)) hg (Kd.R_ne (Kd.R_alloc (Kd.R_alloc HRe.out (.cells #[.int .i64 0, .int .i64 0, .int .i64 0, .int .i64 0] 49)) (.cells #[.int .i64 0, .int .i64 0, .int .i64 0, .int .i64 0] 49)) (blk_alloc (blk_new w3 (.cells #[.int .i64 0, .int .i64 0, .int .i64 0, .int .i64 0] 49)) (.cells #[.int .i64 0, .int .i64 0, .int .i64 0, .int .i64 0] 49)) (show (41 : Nat) ≠ 49 by decide))); clear ho hb hg hat)) | ((with_reducible refine gate_builtin (b := .append) (xs := #[.tmp 94, .tmp 96]) rfl ?_); at_builtin; refine Kd.R_append k58 (w0 := w) w.heap.size rfl (.tmp 94) (.tmp 96) 47 49 (.agg #[.int .i64 0, .int .i64 0, .int .i64 0, .int .i64 0]) 32 rfl Try.underlying47 info49 rfl (by decide) (by omega) u4 (ivs.map IV.rec') ⟨0, 0, 0, 0⟩ [.int .i64 0, .int .i64 0, .int .i64 0, .int .i64 0] (fun _ => True) (fun _ => False) rfl rfl ?aP (fun _ hk => hk.elim) ?aF ?aO ?aB ?aS ?aL ?_; (case aP => exact k58_mkM _ _ _ ⟨0, 0, 0, 0⟩); (case aF => exact fun _ _ => trivial); (case aO => exact HR6.out); (case aB => exact HB6.out); (case aS => exact HB6.out.size); (case aL => exact (by have h1_ := HK.out; have h2_ := HN.out; rw [List.length_map]; omega)); intro v7 w8 ho hb hg hat; have HR7 := Aside0.mk (Kd.R_over HR5.out HR6.out e41_49 hg); have HR8 := Aside0.mk ho; have HB8 := Aside0.mk hb; clear ho hb hg hat))
                go_roundg k1
                case measure => omega
                case rel => exact ⟨ivs ++ [IV.nil], _, _, rfl, rfl, ⟨by rw [List.all_append, ← HBb.out]; rfl⟩, ⟨by have h1_ := HK.out; have h2_ := HN.out; rw [HX.out, List.length_append, List.length_singleton]; exact wrap1 _ (by omega)⟩, ⟨by have h1_ := HK.out; rw [List.length_append, List.length_singleton]; omega⟩, ⟨fun y hy => by rcases List.mem_append.1 hy with hy | hy; exact HOK.out y hy; rw [List.mem_singleton.1 hy]; exact HXO.out⟩, ⟨HR7.out⟩, ⟨by rw [List.map_append]; exact HR8.out⟩, ⟨HB8.out⟩⟩
        · have hle : decide (l6.length ≤ 5000 ∧ l7.length ≤ 1100) = false := decide_eq_false hlen
          go_wp2_with (first | (go_at_call 6; (refine (Light_yes op h a b1 c d l6 l7 _ _ _ (Sl.mk HI6.out HL6.out) (Sl.mk HI7.out HL7.out) false hle).mono ?_); rintro e w1 ⟨rfl, hb⟩; have HBA := Aside0.mk (below_step HB.out hb); clear hb) | (go_at_call 7; (refine (awake20 _).mono ?_); rintro e w2 ⟨rfl, hb⟩))
          go_ret
          exact ⟨rfl, below_step HBA.out hb⟩
end Go.Proofs.Ytcadgbeablpnmaa.PCmd
