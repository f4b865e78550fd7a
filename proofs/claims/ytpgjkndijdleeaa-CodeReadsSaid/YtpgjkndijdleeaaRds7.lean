/- What the claim of RowCodeReads needs of this seat's texts (drawn together by wip/prune.py): CodeCmdV, Code39, CodeDec, CodeP2, Code2A, Code2B, CodeP3. -/
import Derived.Test.YtpgjkndijdleeaaRds6
section
namespace Go.Proofs.Ytpgjkndijdleeaa.PCode
open Go.RowKit Go.Proofs.YtpgjkndijdleeaaW.PrintWords Go.Proofs.YtpgjkndijdleeaaW.PrintLast Go.Proofs.YtpgjkndijdleeaaW.PrintMore
attribute [local go_sem] max2_int min2_int max_two min_two max_three min_three max_four min_four   -- for this text's walks alone
set_option linter.unusedVariables false
set_option linter.unusedSimpArgs false
theorem rverts_err (m : Nat) (acc : List S62) (l : List Int) {e : Int} (h : e ≠ 0) : rverts m acc l e = (acc, l, e) := by
 cases m with
 | zero => rfl
 | succ m => simp only [rverts]; rw [if_neg h]
/-- A vertex's cells, of which the first are filled. -/
def vc (l : List Int) : Array Value := ((l ++ List.replicate (9 - l.length) 0).map (Value.int .i64)).toArray
theorem vc_at {l : List Int} (h : l.length < 9) : (vc l)[l.length]? = some (.int .i64 0) := by
 obtain ⟨d, hd⟩ : ∃ d, 9 - l.length = d + 1 := ⟨9 - l.length - 1, by omega⟩
 simp [vc, hd, List.replicate_succ]
theorem vc_set {l : List Int} (h : l.length < 9) (n : Int) : (vc l).setIfInBounds l.length (.int .i64 n) = vc (l ++ [n]) := by
 unfold vc
 obtain ⟨d, hd⟩ : ∃ d, 9 - l.length = d + 1 := ⟨9 - l.length - 1, by omega⟩
 have hd2 : 9 - (l ++ [n]).length = d := by simp; omega
 rw [hd, hd2, List.setIfInBounds_toArray, List.replicate_succ, List.map_append, List.map_cons]
 congr 1
 rw [List.set_append, if_neg (by simp)]
 simp
theorem nine (l : List Int) (h : l.length = 9) : ∃ a b c d e f g i j, l = [a, b, c, d, e, f, g, i, j] := by
 match l, h with
 | [a, b, c, d, e, f, g, i, j], _ => exact ⟨a, b, c, d, e, f, g, i, j, rfl⟩
/-- A row made earlier is none of a block made later: a call of the reader's, a store into that block. -/
theorem R_callN {α : Type} {d : Kd α} {t : Nat} {w W W' : World} {gr N : Nat} {v : Value} {xs : List α} {l : List Int} {e : Int} (h : d.R t W w.heap.size (fun k => k < N) v xs) (hr : Rd w W gr l e) (hk : KeepBut W W' gr none) (ht : ∀ q, q ∈ t :: d.E → q ≠ 54) : d.R t W' w.heap.size (fun k => k < N) v xs := by
 obtain ⟨A, c, hb⟩ := hr.blk
 exact Kd.R_mono (Kd.R_keep (Kd.R_types h hb ht) hk (fun _ hk => hk.2)) (fun _ hk => hk.1)
/-- A store into a block that is none of the three. -/
theorem CS.setv {w W : World} {g4 gr g6 : Nat} {x : S37} {v6 v7 : Value} {l : List Int} {e : Int} (h : CS w W g4 gr g6 x v6 v7 l e) {gv t : Nat} {cs : Array Value} (hv : W.heap[gv]? = some (.cells cs t (0, 0))) (h1 : t ≠ 39) (h2 : t ≠ 54) (h3 : t ≠ 37) (hz : w.heap.size ≤ gv) (i : Nat) (u : Value) : CS w (W.setCell ⟨gv, i, none⟩ u) g4 gr g6 x v6 v7 l e := by
 obtain ⟨A, c, hb⟩ := h.rd.blk
 exact ⟨blk_far h.b4 (blk_ne h.b4 hv (Ne.symm h1)) _, h.rd.move (Below.heap_setCell W ⟨gv, i, none⟩ _ gr (blk_ne hb hv (Ne.symm h2))), blk_far h.b6 (blk_ne h.b6 hv (Ne.symm h3)) _, below_set h.bel hz, h.z4, h.zr, h.z6⟩
set_option maxHeartbeats 8000000 in
set_option maxRecDepth 100000 in
theorem cmd_verts (op : Int) (hop : 1 ≤ op ∧ op ≤ 19) (hfl : fl op = false) (hfv : fv op = true) (A0 : Option Addr) (c0 : Nat) (l0 : List Int) (w : World) (hC : Kd.C (Kd.int .u8) w A0 l0.length l0) (hc : l0.length ≤ c0) (hby : ∀ x ∈ l0, 0 ≤ x ∧ x ≤ 255) :
  Calls Try.prog 22 #[.int .i64 op, .slice A0 l0.length c0] w (CmdPost w (cmdR op l0)) := by
 have hu37 := Try.underlying37
 have hu54 := Try.underlying54
 have hu39 := Try.underlying39
 have HOP := Aside0.mk hop
 have HIN := Aside0.mk (And.intro hc (And.intro hC hby))
 have HO := Aside0.mk (fo_le op)
 have HFL := Aside0.mk hfl
 have HFV := Aside0.mk hfv
 clear hop hc hC hby
 go_enter Try.func22, Try.ntmps22
 go_wp2_with (first | (go_at_call 32; (refine (fields_any op HOP.out (w.heap.size + 1 + 1) _ _ _ _ _ _ _ _ (blk_at3 w _ _ _).1).mono ?_); rintro e w1 ⟨A, rfl, _, hb, hp⟩; have HP := Aside0.mk hp; have HB1 := Aside0.mk hb; have HB4 := Aside0.mk (blk_below (blk_at3 w _ _ _).2.2 hb); have HBr := Aside0.mk (blk_below (blk_at3 w _ _ _).2.1 hb); have HB6 := Aside0.mk (blk_below (blk_at3 w _ _ _).1 hb); clear hp hb))
 have HBel := Aside0.mk (below_step (below_alloc (below_alloc (below_alloc (Below.refl w.heap.size w) _) _) _) HB1.out)
 have HCS : Aside0 (CS w w1 w.heap.size (w.heap.size + 1) (w.heap.size + 1 + 1) (zc op) (.slice none 0 0) (.slice none 0 0) l0 0) := ⟨⟨HB4.out, ⟨A0, c0, HBr.out, HIN.out.1, HIN.out.2.1, HIN.out.2.2⟩, HB6.out, HBel.out, Nat.le_refl _, by omega, by omega⟩⟩
 clear HB1 HB4 HBr HB6 HBel
 have HQ : Aside0 (w1.ownsRow w.heap.size 76 1 (.slice A (fo op).length (fo op).length) (fo op).length (encs (fun o : Nat => Value.pointer (some ⟨w.heap.size + 1 + 1, o, none⟩)) (fo op))) := ⟨own_weaken HP.out (by simp; omega)⟩
 clear HP HIN
 go_loopg [29] ((fo op).length + 1) (fun kq v29 w' => ∃ (i : Nat) (x : S37) (l : List Int) (e : Int), v29 = .int .i64 i ∧ Aside0 (i + kq = (fo op).length + 1) ∧ Aside0 (CS w w' w.heap.size (w.heap.size + 1) (w.heap.size + 1 + 1) x (.slice none 0 0) (.slice none 0 0) l e) ∧ Aside0 (w'.ownsRow w.heap.size 76 1 (.slice A (fo op).length (fo op).length) (fo op).length (encs (fun o : Nat => Value.pointer (some ⟨w.heap.size + 1 + 1, o, none⟩)) (fo op))) ∧ Aside0 (rflds ((fo op).drop i) x l e = rdF op l0) ∧ Aside0 (x.f6 = [] ∧ x.f7 = []))
 case atStart => exact ⟨0, zc op, l0, 0, rfl, ⟨by omega⟩, HCS, HQ, ⟨rfl⟩, ⟨rfl, rfl⟩⟩
 case round =>
  clear HCS HQ
  obtain ⟨i, x, l, e, rfl, HI, HCS, HQ, HF, HLS⟩ := hrel
  have h5 : (fo op).length ≤ 5 := HO.out.1
  by_cases hlt : i < (fo op).length
  ·obtain ⟨k1, rfl⟩ : ∃ k1, gk = k1 + 1 := ⟨gk - 1, by have h1_ := HI.out; omega⟩
   obtain ⟨A', c', he, hrd⟩ := own_reads_of (d := 0) HQ.out
   have hA := (Value.slice.inj he).1
   clear he
   subst hA
   obtain ⟨ad, rfl, hp⟩ := ReadsOf.at_ hrd (i : Int) (by omega) (by omega)
   obtain ⟨o, ho⟩ : ∃ o, o = (fo op)[i] := ⟨_, rfl⟩
   have e0 : rdOf 0 (fo op) (i : Int) = o := by rw [ho]; simp [rdOf, List.getD_eq_getElem?_getD, hlt]
   have HOR : Aside0 (1 ≤ o ∧ o ≤ 5) := ⟨HO.out.2 o (by rw [ho]; exact List.getElem_mem hlt)⟩
   have HF2 : Aside0 (rflds ((fo op).drop (i + 1)) (setf x o (rnum l e).1) (rnum l e).2.1 (rnum l e).2.2 = rdF op l0) := ⟨by have h1_ := HF.out; rw [List.drop_eq_getElem_cons hlt, ← ho] at h1_; exact h1_⟩
   rw [e0] at hp
   simp only [Int.toNat_natCast] at hp
   clear hrd ho e0 HF
   go_wp2_with (go_at_call 34; (refine (number_any (w.heap.size + 1) l e w _ HCS.out.zr HCS.out.bel HCS.out.rd).mono ?_); rintro en w2 ⟨rfl, h1, h2, h3⟩; have HC2 := Aside0.mk (HCS.out.call h1 h2 h3); have HQ2 := Aside0.mk (h2.own HQ.out (by obtain ⟨A_, c_, hb_⟩ := HCS.out.rd.blk; exact fun q => own_ne HQ.out hb_ (by decide) q.symm) ((Classical.em _).imp id id)); have hc2 := HC2.out.cellf o HOR.out; have z2 := blk_frozen HC2.out.b6 o; clear h1 h2 h3)
   go_roundg k1
   case measure => omega
   case rel => exact ⟨i + 1, _, _, _, by go_num, ⟨by have h1_ := HI.out; omega⟩, ⟨HC2.out.put o HOR.out _⟩, ⟨own_setCell HQ2.out (own_ne HQ2.out HC2.out.b6 (by decide)) _⟩, HF2, ⟨by rw [(setf_ls _ _ _).1, (setf_ls _ _ _).2]; exact HLS.out⟩⟩
  ·have HF2 : Aside0 (rdF op l0 = (x, l, e)) := ⟨by have h1_ := HF.out; rw [List.drop_of_length_le (by omega)] at h1_; exact h1_.symm⟩
   clear HF HQ HI h5
   obtain ⟨n, l1, e1, hn⟩ : ∃ n l1 e1, rlist 1024 l e = (n, l1, e1) := ⟨_, _, _, rfl⟩
   have HN := Aside0.mk hn
   have hn0 : 0 ≤ n ∧ n ≤ 1024 := by have h1_ := rlist_rng 1024 (by decide) l e; rw [hn] at h1_; exact h1_
   clear hn
   obtain ⟨N, rfl⟩ := Int.eq_ofNat_of_zero_le hn0.1
   have hN : N ≤ 1024 := by omega
   clear hn0
   go_wp2_with (go_at_call 35; (refine (list_any (w.heap.size + 1) 1024 (by decide) l e w _ HCS.out.zr HCS.out.bel HCS.out.rd).mono ?_); rw [HN.out]; rintro en w3 ⟨rfl, h1, h2, h3⟩; have HC3 := Aside0.mk (HCS.out.call h1 h2 h3); clear h1 h2 h3)
   have HA : Aside0 (rdA op l0 = ({ x with f6 := [], f7 := (rverts N [] l1 e1).1 }, (rverts N [] l1 e1).2)) := ⟨by unfold rdA; rw [HFL.out, if_neg (by decide), HFV.out, if_pos rfl, HF2.out]; unfold rdV; rw [HN.out, ← HLS.out.1]; rfl⟩
   clear HCS HF2 HN HLS
   go_loopg [13] (N + 1) (fun kq v13 w' => ∃ (m : Nat) (acc : List S62) (l : List Int) (e : Int) (v7 : Value), v13 = .int .i64 m ∧ Aside0 (m + 1 = kq) ∧ Aside0 (CS w w' w.heap.size (w.heap.size + 1) (w.heap.size + 1 + 1) x (.slice none 0 0) v7 l e) ∧ Aside0 (Kd.R k62 62 w' w.heap.size (fun _ => True) v7 acc) ∧ Aside0 (rverts m acc l e = rverts N [] l1 e1) ∧ Aside0 (acc.length + m ≤ 1024))
   case atStart => exact ⟨N, [], l1, e1, _, rfl, ⟨rfl⟩, HC3, ⟨Kd.R_nil _ _ _ _ _⟩, ⟨rfl⟩, ⟨by simpa using hN⟩⟩
   case round =>
    clear HC3
    obtain ⟨m, acc, l, e, v7, rfl, HM, HCS, HR7, HF, HLN⟩ := hrel
    obtain ⟨A7, c7, hv7⟩ := Kd.R_slice HR7.out
    subst hv7
    by_cases hgo : 0 < m ∧ e = 0
    ·obtain ⟨hm, rfl⟩ := hgo
     obtain ⟨m1, rfl⟩ : ∃ m1, m = m1 + 1 := ⟨m - 1, by omega⟩
     obtain ⟨k1, rfl⟩ : ∃ k1, gk = k1 + 1 := ⟨gk - 1, by have h1_ := HM.out; omega⟩
     have HF2 : Aside0 (rverts m1 (acc ++ [vmk (rvs 9 [] l 0).1]) (rvs 9 [] l 0).2.1 (rvs 9 [] l 0).2.2 = rverts N [] l1 e1) := ⟨HF.out⟩
     clear HF hm
     obtain ⟨Ar, cr, hbr, _⟩ := HCS.out.rd
     have r1 : wr.cell? ⟨w.heap.size + 1, 1, none⟩ = some (.int .i64 0) := (blk_cell hbr 1).trans rfl
     clear hbr
     have hm2 : m1 + 1 ≤ 1024 := by have h1_ := HLN.out; omega
     have HLN2 : Aside0 (acc.length ≤ 1024) := ⟨by have h1_ := HLN.out; omega⟩
     have hu60 := Try.underlying60
     have hu62 := Try.underlying62
     obtain ⟨wo, rfl⟩ : ∃ wo : World, wo = wr := ⟨_, rfl⟩
     go_wp2
     have HC4 := Aside0.mk ((HCS.out.alloc (.cells #[.int .i64 0, .int .i64 0, .int .i64 0, .int .i64 0, .int .i64 0, .int .i64 0, .int .i64 0, .int .i64 0, .int .i64 0] 62)).alloc (.cells #[.pointer (some ⟨wo.heap.size, 0, none⟩), .pointer (some ⟨wo.heap.size, 1, none⟩), .pointer (some ⟨wo.heap.size, 2, none⟩), .pointer (some ⟨wo.heap.size, 3, none⟩), .pointer (some ⟨wo.heap.size, 4, none⟩), .pointer (some ⟨wo.heap.size, 5, none⟩), .pointer (some ⟨wo.heap.size, 6, none⟩), .pointer (some ⟨wo.heap.size, 7, none⟩), .pointer (some ⟨wo.heap.size, 8, none⟩)] 76))
     have HRN : Aside0 (Kd.R k62 62 wo w.heap.size (fun k => k < wo.heap.size) (.slice A7 acc.length c7) acc) := ⟨Kd.R_mono (Kd.R_bound HR7.out) (fun _ hk => hk.2.2.1)⟩
     have HR4 := Aside0.mk (Kd.R_alloc (Kd.R_alloc HRN.out (.cells #[.int .i64 0, .int .i64 0, .int .i64 0, .int .i64 0, .int .i64 0, .int .i64 0, .int .i64 0, .int .i64 0, .int .i64 0] 62)) (.cells #[.pointer (some ⟨wo.heap.size, 0, none⟩), .pointer (some ⟨wo.heap.size, 1, none⟩), .pointer (some ⟨wo.heap.size, 2, none⟩), .pointer (some ⟨wo.heap.size, 3, none⟩), .pointer (some ⟨wo.heap.size, 4, none⟩), .pointer (some ⟨wo.heap.size, 5, none⟩), .pointer (some ⟨wo.heap.size, 6, none⟩), .pointer (some ⟨wo.heap.size, 7, none⟩), .pointer (some ⟨wo.heap.size, 8, none⟩)] 76))
     have HV4 := Aside0.mk (blk_alloc (blk_new wo (.cells (vc []) 62)) (.cells #[.pointer (some ⟨wo.heap.size, 0, none⟩), .pointer (some ⟨wo.heap.size, 1, none⟩), .pointer (some ⟨wo.heap.size, 2, none⟩), .pointer (some ⟨wo.heap.size, 3, none⟩), .pointer (some ⟨wo.heap.size, 4, none⟩), .pointer (some ⟨wo.heap.size, 5, none⟩), .pointer (some ⟨wo.heap.size, 6, none⟩), .pointer (some ⟨wo.heap.size, 7, none⟩), .pointer (some ⟨wo.heap.size, 8, none⟩)] 76))
     have HZ : Aside0 (w.heap.size ≤ wo.heap.size) := ⟨HCS.out.bel.size⟩
     have HQ4 : Aside0 (((wo.alloc (.cells #[.int .i64 0, .int .i64 0, .int .i64 0, .int .i64 0, .int .i64 0, .int .i64 0, .int .i64 0, .int .i64 0, .int .i64 0] 62)).alloc (.cells #[.pointer (some ⟨wo.heap.size, 0, none⟩), .pointer (some ⟨wo.heap.size, 1, none⟩), .pointer (some ⟨wo.heap.size, 2, none⟩), .pointer (some ⟨wo.heap.size, 3, none⟩), .pointer (some ⟨wo.heap.size, 4, none⟩), .pointer (some ⟨wo.heap.size, 5, none⟩), .pointer (some ⟨wo.heap.size, 6, none⟩), .pointer (some ⟨wo.heap.size, 7, none⟩), .pointer (some ⟨wo.heap.size, 8, none⟩)] 76)).ownsRow w.heap.size 76 1 (.slice (some ⟨wo.heap.size + 1, 0, none⟩) 9 9) 9 (encs (fun o : Nat => Value.pointer (some ⟨wo.heap.size, o, none⟩)) [0, 1, 2, 3, 4, 5, 6, 7, 8])) := ⟨by
      have h1_ := own_lit_of (enc := fun o : Nat => Value.pointer (some ⟨wo.heap.size, o, none⟩)) (wo.alloc (.cells #[.int .i64 0, .int .i64 0, .int .i64 0, .int .i64 0, .int .i64 0, .int .i64 0, .int .i64 0, .int .i64 0, .int .i64 0] 62)) w.heap.size 76 [0, 1, 2, 3, 4, 5, 6, 7, 8] (by have h2_ := HZ.out; simp; omega) (by decide)
      rw [show (wo.alloc (.cells #[.int .i64 0, .int .i64 0, .int .i64 0, .int .i64 0, .int .i64 0, .int .i64 0, .int .i64 0, .int .i64 0, .int .i64 0] 62)).heap.size = wo.heap.size + 1 from by simp] at h1_
      exact h1_⟩
     clear HCS HR7 HRN
     go_loopg [88] 10 (fun kq v88 w' => ∃ (i : Nat) (L l2 : List Int) (e2 : Int), v88 = .int .i64 i ∧ Aside0 (i + kq = 10) ∧ Aside0 (L.length = i ∧ i ≤ 9) ∧ Aside0 (CS w w' w.heap.size (w.heap.size + 1) (w.heap.size + 1 + 1) x (.slice none 0 0) (.slice A7 acc.length c7) l2 e2) ∧ Aside0 (Kd.R k62 62 w' w.heap.size (fun k => k < wo.heap.size) (.slice A7 acc.length c7) acc) ∧ Aside0 (w'.heap[wo.heap.size]? = some (.cells (vc L) 62 (0, 0))) ∧ Aside0 (w'.ownsRow w.heap.size 76 1 (.slice (some ⟨wo.heap.size + 1, 0, none⟩) 9 9) 9 (encs (fun o : Nat => Value.pointer (some ⟨wo.heap.size, o, none⟩)) [0, 1, 2, 3, 4, 5, 6, 7, 8])) ∧ Aside0 (rvs (9 - i) L l2 e2 = rvs 9 [] l 0))
     case atStart => exact ⟨0, [], l, 0, rfl, ⟨rfl⟩, ⟨rfl, by omega⟩, HC4, HR4, HV4, HQ4, ⟨rfl⟩⟩
     case round =>
      clear HC4 HR4 HV4 HQ4
      obtain ⟨i, L, l2, e2, rfl, HI, HLL, HCS, HR7, HV, HQ, HF⟩ := hrel
      by_cases hlt : i < 9
      ·obtain ⟨k2, rfl⟩ : ∃ k2, gk = k2 + 1 := ⟨gk - 1, by have h1_ := HI.out; omega⟩
       obtain ⟨A', c', he, hrd⟩ := own_reads_of (d := 0) HQ.out
       have hA := (Value.slice.inj he).1
       clear he
       subst hA
       obtain ⟨ad, had, hp⟩ := ReadsOf.at_ hrd (i : Int) (by omega) (by omega)
       obtain rfl := Option.some.inj had
       have e0 : rdOf 0 [0, 1, 2, 3, 4, 5, 6, 7, 8] (i : Int) = i := by
        have h1_ : i = 0 ∨ i = 1 ∨ i = 2 ∨ i = 3 ∨ i = 4 ∨ i = 5 ∨ i = 6 ∨ i = 7 ∨ i = 8 := by omega
        rcases h1_ with rfl | rfl | rfl | rfl | rfl | rfl | rfl | rfl | rfl <;> rfl
       rw [e0] at hp
       simp only [Int.toNat_natCast, add_plain] at hp
       clear e0 hrd had
       have HF3 : Aside0 (rvs (9 - (i + 1)) (L ++ [(rnum l2 e2).1]) (rnum l2 e2).2.1 (rnum l2 e2).2.2 = rvs 9 [] l 0) := ⟨by have h1_ := HF.out; rw [show 9 - i = (9 - (i + 1)) + 1 from by omega] at h1_; exact h1_⟩
       clear HF
       go_wp2_with (go_at_call 34; (refine (number_any (w.heap.size + 1) l2 e2 w _ HCS.out.zr HCS.out.bel HCS.out.rd).mono ?_); rintro en w5 ⟨rfl, h1, h2, h3⟩; have HC5 := Aside0.mk (HCS.out.call h1 h2 h3); have HR5 := Aside0.mk (R_callN HR7.out HCS.out.rd h2 (by decide)); have HQ5 := Aside0.mk (h2.own HQ.out (by obtain ⟨A_, c_, hb_⟩ := HCS.out.rd.blk; exact fun q => own_ne HQ.out hb_ (by decide) q.symm) ((Classical.em _).imp id id)); have HV5 := Aside0.mk (h2.blk HV.out (by obtain ⟨A_, c_, hb_⟩ := HCS.out.rd.blk; exact blk_ne HV.out hb_ (by decide)) (by simp)); have hv5 : w5.cell? ⟨wo.heap.size, i, none⟩ = some (.int .i64 0) := (blk_cell HV5.out i).trans (by have h8_ := vc_at (l := L) (by rw [HLL.out.1]; exact hlt); rw [HLL.out.1] at h8_; exact h8_); have z5 := blk_frozen HV5.out i; clear h1 h2 h3)
       go_roundg k2
       case measure => omega
       case rel => exact ⟨i + 1, L ++ [(rnum l2 e2).1], _, _, by go_num, ⟨by have h1_ := HI.out; omega⟩, ⟨by rw [List.length_append, HLL.out.1]; exact ⟨rfl, by omega⟩⟩, ⟨HC5.out.setv HV5.out (by decide) (by decide) (by decide) HZ.out i _⟩, ⟨Kd.R_far HR5.out (fun k hk => Nat.ne_of_lt hk) _⟩, ⟨blk_put HV5.out i _ (by have h8_ := vc_set (l := L) (by rw [HLL.out.1]; exact hlt) (rnum l2 e2).1; rw [HLL.out.1] at h8_; exact h8_)⟩, ⟨own_setCell HQ5.out (own_ne HQ5.out HV5.out (by decide)) _⟩, HF3⟩
      ·have HI9 : Aside0 (i = 9) := ⟨by have h1_ := HLL.out.2; omega⟩
       obtain ⟨a, b, c, d, e', f, g, i', j, hL⟩ := nine L (by rw [HLL.out.1]; exact HI9.out)
       have HF3 : Aside0 (rvs 9 [] l 0 = (L, l2, e2)) := ⟨by rw [← HF.out, HI9.out]; rfl⟩
       subst hL
       have HVL : Aside0 (vmk [a, b, c, d, e', f, g, i', j] = ⟨a, b, c, ⟨d, e', f, g⟩, i', j⟩) := ⟨rfl⟩
       have HV9 : Aside0 (wr.heap[wo.heap.size]? = some (.cells #[.int .i64 a, .int .i64 b, .int .i64 c, .int .i64 d, .int .i64 e', .int .i64 f, .int .i64 g, .int .i64 i', .int .i64 j] 62 (0, 0))) := ⟨HV.out⟩
       have y0 : wr.cell? ⟨wo.heap.size, 0, none⟩ = some (.int .i64 a) := (blk_cell HV9.out 0).trans rfl
       have y1 : wr.cell? ⟨wo.heap.size, 1, none⟩ = some (.int .i64 b) := (blk_cell HV9.out 1).trans rfl
       have y2 : wr.cell? ⟨wo.heap.size, 2, none⟩ = some (.int .i64 c) := (blk_cell HV9.out 2).trans rfl
       have y3 : wr.cell? ⟨wo.heap.size, 3, none⟩ = some (.int .i64 d) := (blk_cell HV9.out 3).trans rfl
       have y4 : wr.cell? ⟨wo.heap.size, 4, none⟩ = some (.int .i64 e') := (blk_cell HV9.out 4).trans rfl
       have y5 : wr.cell? ⟨wo.heap.size, 5, none⟩ = some (.int .i64 f) := (blk_cell HV9.out 5).trans rfl
       have y6 : wr.cell? ⟨wo.heap.size, 6, none⟩ = some (.int .i64 g) := (blk_cell HV9.out 6).trans rfl
       have y7 : wr.cell? ⟨wo.heap.size, 7, none⟩ = some (.int .i64 i') := (blk_cell HV9.out 7).trans rfl
       have y8 : wr.cell? ⟨wo.heap.size, 8, none⟩ = some (.int .i64 j) := (blk_cell HV9.out 8).trans rfl
       have s7 : wr.cell? ⟨w.heap.size + 1 + 1, 7, none⟩ = some (.slice A7 acc.length c7) := (blk_cell HCS.out.b6 7).trans rfl
       have HR8 := Aside0.mk (show Kd.R k62 62 wr w.heap.size (fun _ => True) (.slice A7 acc.length c7) acc from Kd.R_mono HR7.out (fun _ _ => trivial))
       clear HF HV HI HLL HR7
       go_wp2_with (first | ((with_reducible refine gate_builtin (b := .append) (xs := #[.tmp 98, .tmp 100]) rfl ?_); at_builtin; refine Kd.R_append k62 (w0 := w) w.heap.size rfl (.tmp 98) (.tmp 100) 35 62 (.agg #[.int .i64 0, .int .i64 0, .int .i64 0, .int .i64 0, .int .i64 0, .int .i64 0, .int .i64 0, .int .i64 0, .int .i64 0]) 72 rfl Try.underlying35 info62 rfl (by decide) (by omega) _ acc (⟨a, b, c, ⟨d, e', f, g⟩, i', j⟩ : S62) [.int .i64 a, .int .i64 b, .int .i64 c, .int .i64 d, .int .i64 e', .int .i64 f, .int .i64 g, .int .i64 i', .int .i64 j] (fun _ => True) (fun _ => False) rfl rfl ?aP (fun _ hk => hk.elim) ?aF HR8.out HCS.out.bel HCS.out.bel.size ?aL ?_; (case aP => exact k62_mkM _ _ _ (⟨a, b, c, ⟨d, e', f, g⟩, i', j⟩ : S62)); (case aF => exact (fun _ _ => trivial)); (case aL => have h1_ := HLN2.out; omega); intro v8 w8 ho hb hg hat; obtain ⟨A8, c8, e8⟩ := Kd.R_slice ho; subst e8; rw [show (acc ++ [(⟨a, b, c, ⟨d, e', f, g⟩, i', j⟩ : S62)]).length = acc.length + 1 from by simp] at ho; have hne := HCS.out.rne HR8.out (by decide) (by decide) (by decide); have HC8 := Aside0.mk (HCS.out.grown hg hne.1 hne.2.1 hne.2.2 hb); have HR9 := Aside0.mk ho; have s8 : w8.cell? ⟨w.heap.size + 1 + 1, 7, none⟩ = some (.slice A7 acc.length c7) := (blk_cell HC8.out.b6 7).trans rfl; have z8 := blk_frozen HC8.out.b6 7; clear ho hb hg hat hne))
       go_roundg k1
       case measure => omega
       case rel => exact ⟨m1, acc ++ [(⟨a, b, c, ⟨d, e', f, g⟩, i', j⟩ : S62)], l2, e2, _, by go_num, ⟨by have h1_ := HM.out; omega⟩, ⟨HC8.out.put7 _⟩, ⟨Kd.R_mono (Kd.R_far (p := ⟨w.heap.size + 1 + 1, 7, none⟩) (Kd.R_types HR9.out HC8.out.b6 (by decide)) (fun _ hk => hk.2) _) (fun _ _ => trivial)⟩, ⟨by have h1_ := HF2.out; rw [HF3.out, HVL.out] at h1_; exact h1_⟩, ⟨by have h1_ := HLN.out; simp only [List.length_append, List.length_cons, List.length_nil]; omega⟩⟩
    ·have HF2 : Aside0 (rverts N [] l1 e1 = (acc, l, e)) := ⟨by
      have h1_ := HF.out
      rw [← h1_]
      by_cases he : e = 0
      ·have hm0 : m = 0 := by
        rcases Nat.eq_zero_or_pos m with h | h
        ·exact h
        ·exact absurd ⟨h, he⟩ hgo
       rw [hm0]; rfl
      ·exact rverts_err m acc l he⟩
     have HA2 : Aside0 (rdA op l0 = ({ x with f6 := [], f7 := acc }, l, e)) := ⟨by rw [HA.out, HF2.out]⟩
     clear HF HA HF2
     obtain ⟨y, hy⟩ : ∃ y : S37, y = { x with f6 := [], f7 := acc } := ⟨_, rfl⟩
     have HA : Aside0 (rdA op l0 = (y, l, e)) := ⟨by rw [hy]; exact HA2.out⟩
     have HCS2 : Aside0 (CS w wr w.heap.size (w.heap.size + 1) (w.heap.size + 1 + 1) y (.slice none 0 0) (.slice A7 acc.length c7) l e) := ⟨by rw [hy]; exact HCS.out.same _ _⟩
     have HR6 : Aside0 (Kd.R (Kd.int .i64) 3 wr w.heap.size (fun _ => True) (.slice none 0 0) y.f6) := ⟨by rw [hy]; exact Kd.R_nil _ _ _ _ _⟩
     have HR72 : Aside0 (Kd.R k62 62 wr w.heap.size (fun _ => True) (.slice A7 acc.length c7) y.f7) := ⟨by rw [hy]; exact HR7.out⟩
     clear hy HCS HR7 HA2
     have HCS := HCS2
     have HR7 := HR72
     clear HCS2 HR72
     have hgo2 : m = 0 ∨ (0 < m ∧ e ≠ 0) := by omega
     clear hgo
     rcases hgo2 with rfl | ⟨hm, he⟩
     ·skip
      obtain ⟨Ar, cr, hbr, _⟩ := HCS.out.rd
      have HBR := Aside0.mk hbr
      have r0 : wr.cell? ⟨w.heap.size + 1, 0, none⟩ = some (.slice Ar l.length cr) := (blk_cell hbr 0).trans rfl
      have r1 : wr.cell? ⟨w.heap.size + 1, 1, none⟩ = some (.int .i64 e) := (blk_cell hbr 1).trans rfl
      clear hbr
      cases l with
      | nil =>
       simp only [List.length_nil] at r0
       have k0 : wr.cell? ⟨w.heap.size, 0, none⟩ = some (.int .i64 0) := (blk_cell HCS.out.b4 0).trans rfl
       have k1 : wr.cell? ⟨w.heap.size, 1, none⟩ = some (.int .i64 0) := (blk_cell HCS.out.b4 1).trans rfl
       have k2 : wr.cell? ⟨w.heap.size, 2, none⟩ = some (.int .i64 0) := (blk_cell HCS.out.b4 2).trans rfl
       have k3 : wr.cell? ⟨w.heap.size, 3, none⟩ = some (.int .i64 0) := (blk_cell HCS.out.b4 3).trans rfl
       have k4 : wr.cell? ⟨w.heap.size, 4, none⟩ = some (.int .i64 0) := (blk_cell HCS.out.b4 4).trans rfl
       have k5 : wr.cell? ⟨w.heap.size, 5, none⟩ = some (.int .i64 0) := (blk_cell HCS.out.b4 5).trans rfl
       have k6 : wr.cell? ⟨w.heap.size, 6, none⟩ = some (.slice none 0 0) := (blk_cell HCS.out.b4 6).trans rfl
       have k7 : wr.cell? ⟨w.heap.size, 7, none⟩ = some (.slice none 0 0) := (blk_cell HCS.out.b4 7).trans rfl
       have k8 : wr.cell? ⟨w.heap.size, 8, none⟩ = some (.int .i64 0) := (blk_cell HCS.out.b4 8).trans rfl
       have q0 := blk_frozen HCS.out.b4 0
       have q1 := blk_frozen HCS.out.b4 1
       have q2 := blk_frozen HCS.out.b4 2
       have q3 := blk_frozen HCS.out.b4 3
       have q4 := blk_frozen HCS.out.b4 4
       have q5 := blk_frozen HCS.out.b4 5
       have q6 := blk_frozen HCS.out.b4 6
       have q7 := blk_frozen HCS.out.b4 7
       have q8 := blk_frozen HCS.out.b4 8
       by_cases h0 : e = 0
       ·subst h0
        have x0 : wr.cell? ⟨w.heap.size + 1 + 1, 0, none⟩ = some (.int .i64 y.f0) := (blk_cell HCS.out.b6 0).trans rfl
        have x1 : wr.cell? ⟨w.heap.size + 1 + 1, 1, none⟩ = some (.int .i64 y.f1) := (blk_cell HCS.out.b6 1).trans rfl
        have x2 : wr.cell? ⟨w.heap.size + 1 + 1, 2, none⟩ = some (.int .i64 y.f2) := (blk_cell HCS.out.b6 2).trans rfl
        have x3 : wr.cell? ⟨w.heap.size + 1 + 1, 3, none⟩ = some (.int .i64 y.f3) := (blk_cell HCS.out.b6 3).trans rfl
        have x4 : wr.cell? ⟨w.heap.size + 1 + 1, 4, none⟩ = some (.int .i64 y.f4) := (blk_cell HCS.out.b6 4).trans rfl
        have x5 : wr.cell? ⟨w.heap.size + 1 + 1, 5, none⟩ = some (.int .i64 y.f5) := (blk_cell HCS.out.b6 5).trans rfl
        have x6 : wr.cell? ⟨w.heap.size + 1 + 1, 6, none⟩ = some (.slice none 0 0) := (blk_cell HCS.out.b6 6).trans rfl
        have x7 : wr.cell? ⟨w.heap.size + 1 + 1, 7, none⟩ = some (.slice A7 acc.length c7) := (blk_cell HCS.out.b6 7).trans rfl
        go_wp2
        refine bodyPost_ret (results_cell_row rfl _ _ w.heap.size 39 #[.int .i64 y.f0, .int .i64 y.f1, .int .i64 y.f2, .int .i64 y.f3, .int .i64 y.f4, .int .i64 y.f5, .slice none 0 0, .slice A7 acc.length c7, .int .i64 0] (0, 0) _ rfl (ret9 HCS.out.b4) Try.underlying39 rfl (by kernel_rfl)) rfl ?_
        have hA_ : cmdR op l0 = (y, 0) := by unfold cmdR; rw [HA.out]; exact (congrArg _ (fin_nil _)).trans (itm_ok _)
        rw [hA_]
        exact ⟨.slice none 0 0, .slice A7 acc.length c7, rfl, R_store9 (HR6.out) HCS.out.b4 (by decide), R_store9 (HR7.out) HCS.out.b4 (by decide), below9 HCS.out.bel (Nat.le_refl _)⟩
       ·have n0 : (e == 0) = false := by simpa using h0
        by_cases h5 : e = 5
        ·subst h5
         clear h0 n0
         go_wp2
         refine bodyPost_ret (results_cell_row rfl _ _ w.heap.size 39 #[.int .i64 0, .int .i64 0, .int .i64 0, .int .i64 0, .int .i64 0, .int .i64 0, .slice none 0 0, .slice none 0 0, .int .i64 6] (0, 0) _ rfl (ret9 HCS.out.b4) Try.underlying39 rfl (by kernel_rfl)) rfl ?_
         have hA_ : cmdR op l0 = (zc 0, 6) := by unfold cmdR; rw [HA.out]; exact (congrArg _ (fin_nil _)).trans (itm_5 _)
         rw [hA_]
         exact ⟨(.slice none 0 0), (.slice none 0 0), rfl, R_store9 ((Kd.R_nil _ _ _ _ _)) HCS.out.b4 (by decide), R_store9 ((Kd.R_nil _ _ _ _ _)) HCS.out.b4 (by decide), below9 HCS.out.bel (Nat.le_refl _)⟩
        ·have n5 : (e == 5) = false := by simpa using h5
         have HN := Aside0.mk (And.intro h0 h5)
         clear h0 h5
         go_wp2
         refine bodyPost_ret (results_cell_row rfl _ _ w.heap.size 39 #[.int .i64 0, .int .i64 0, .int .i64 0, .int .i64 0, .int .i64 0, .int .i64 0, .slice none 0 0, .slice none 0 0, .int .i64 e] (0, 0) _ rfl (ret9 HCS.out.b4) Try.underlying39 rfl (by kernel_rfl)) rfl ?_
         have hA_ : cmdR op l0 = (zc 0, e) := by unfold cmdR; rw [HA.out]; exact (congrArg _ (fin_nil _)).trans (itm_e _ HN.out.1 HN.out.2)
         rw [hA_]
         exact ⟨(.slice none 0 0), (.slice none 0 0), rfl, R_store9 ((Kd.R_nil _ _ _ _ _)) HCS.out.b4 (by decide), R_store9 ((Kd.R_nil _ _ _ _ _)) HCS.out.b4 (by decide), below9 HCS.out.bel (Nat.le_refl _)⟩
      | cons y l =>
       have yl : 0 < (y :: l).length := by simp
       have dl : decide (0 < (y :: l).length) = true := decide_eq_true yl
       simp only [List.length_cons] at r0 yl dl
       have HLL : Aside0 (l.length + 1 = (y :: l).length) := ⟨rfl⟩
       by_cases h0 : e = 0
       ·subst h0
        go_wp2_with (go_at_call 21; (refine (fail_any (w.heap.size + 1) (y :: l) 0 6 w _ HCS.out.zr HCS.out.bel HCS.out.rd).mono ?_); rintro en w9 ⟨rfl, h1, h2, h3⟩; have HC9 := Aside0.mk (HCS.out.call h1 h2 h3); skip; obtain ⟨A9, c9, hb9, _⟩ := h1; have r9 : w9.cell? ⟨w.heap.size + 1, 1, none⟩ = some (.int .i64 6) := (blk_cell hb9 1).trans rfl; clear hb9 h2 h3; have k0 : w9.cell? ⟨w.heap.size, 0, none⟩ = some (.int .i64 0) := (blk_cell HC9.out.b4 0).trans rfl; have k1 : w9.cell? ⟨w.heap.size, 1, none⟩ = some (.int .i64 0) := (blk_cell HC9.out.b4 1).trans rfl; have k2 : w9.cell? ⟨w.heap.size, 2, none⟩ = some (.int .i64 0) := (blk_cell HC9.out.b4 2).trans rfl; have k3 : w9.cell? ⟨w.heap.size, 3, none⟩ = some (.int .i64 0) := (blk_cell HC9.out.b4 3).trans rfl; have k4 : w9.cell? ⟨w.heap.size, 4, none⟩ = some (.int .i64 0) := (blk_cell HC9.out.b4 4).trans rfl; have k5 : w9.cell? ⟨w.heap.size, 5, none⟩ = some (.int .i64 0) := (blk_cell HC9.out.b4 5).trans rfl; have k6 : w9.cell? ⟨w.heap.size, 6, none⟩ = some (.slice none 0 0) := (blk_cell HC9.out.b4 6).trans rfl; have k7 : w9.cell? ⟨w.heap.size, 7, none⟩ = some (.slice none 0 0) := (blk_cell HC9.out.b4 7).trans rfl; have k8 : w9.cell? ⟨w.heap.size, 8, none⟩ = some (.int .i64 0) := (blk_cell HC9.out.b4 8).trans rfl; have q0 := blk_frozen HC9.out.b4 0; have q1 := blk_frozen HC9.out.b4 1; have q2 := blk_frozen HC9.out.b4 2; have q3 := blk_frozen HC9.out.b4 3; have q4 := blk_frozen HC9.out.b4 4; have q5 := blk_frozen HC9.out.b4 5; have q6 := blk_frozen HC9.out.b4 6; have q7 := blk_frozen HC9.out.b4 7; have q8 := blk_frozen HC9.out.b4 8)
        go_wp2
        refine bodyPost_ret (results_cell_row rfl _ _ w.heap.size 39 #[.int .i64 0, .int .i64 0, .int .i64 0, .int .i64 0, .int .i64 0, .int .i64 0, .slice none 0 0, .slice none 0 0, .int .i64 6] (0, 0) _ rfl (ret9 HC9.out.b4) Try.underlying39 rfl (by kernel_rfl)) rfl ?_
        have hA_ : cmdR op l0 = (zc 0, 6) := by unfold cmdR; rw [HA.out]; exact (congrArg _ (fin_cons0 _ _)).trans (itm_e _ (by decide) (by decide))
        rw [hA_]
        exact ⟨(.slice none 0 0), (.slice none 0 0), rfl, R_store9 ((Kd.R_nil _ _ _ _ _)) HC9.out.b4 (by decide), R_store9 ((Kd.R_nil _ _ _ _ _)) HC9.out.b4 (by decide), below9 HC9.out.bel (Nat.le_refl _)⟩
       ·have n0 : (e == 0) = false := by simpa using h0
        have HE0 := Aside0.mk h0
        by_cases h5 : e = 5
        ·subst h5
         clear h0 n0
         go_wp2_with (go_at_call 21; (refine (fail_any (w.heap.size + 1) (y :: l) 5 6 w _ HCS.out.zr HCS.out.bel HCS.out.rd).mono ?_); rintro en w9 ⟨rfl, h1, h2, h3⟩; have HC9 := Aside0.mk (HCS.out.call h1 h2 h3); rw [if_neg HE0.out] at h1; obtain ⟨A9, c9, hb9, _⟩ := h1; have r9 : w9.cell? ⟨w.heap.size + 1, 1, none⟩ = some (.int .i64 5) := (blk_cell hb9 1).trans rfl; clear hb9 h2 h3; have k0 : w9.cell? ⟨w.heap.size, 0, none⟩ = some (.int .i64 0) := (blk_cell HC9.out.b4 0).trans rfl; have k1 : w9.cell? ⟨w.heap.size, 1, none⟩ = some (.int .i64 0) := (blk_cell HC9.out.b4 1).trans rfl; have k2 : w9.cell? ⟨w.heap.size, 2, none⟩ = some (.int .i64 0) := (blk_cell HC9.out.b4 2).trans rfl; have k3 : w9.cell? ⟨w.heap.size, 3, none⟩ = some (.int .i64 0) := (blk_cell HC9.out.b4 3).trans rfl; have k4 : w9.cell? ⟨w.heap.size, 4, none⟩ = some (.int .i64 0) := (blk_cell HC9.out.b4 4).trans rfl; have k5 : w9.cell? ⟨w.heap.size, 5, none⟩ = some (.int .i64 0) := (blk_cell HC9.out.b4 5).trans rfl; have k6 : w9.cell? ⟨w.heap.size, 6, none⟩ = some (.slice none 0 0) := (blk_cell HC9.out.b4 6).trans rfl; have k7 : w9.cell? ⟨w.heap.size, 7, none⟩ = some (.slice none 0 0) := (blk_cell HC9.out.b4 7).trans rfl; have k8 : w9.cell? ⟨w.heap.size, 8, none⟩ = some (.int .i64 0) := (blk_cell HC9.out.b4 8).trans rfl; have q0 := blk_frozen HC9.out.b4 0; have q1 := blk_frozen HC9.out.b4 1; have q2 := blk_frozen HC9.out.b4 2; have q3 := blk_frozen HC9.out.b4 3; have q4 := blk_frozen HC9.out.b4 4; have q5 := blk_frozen HC9.out.b4 5; have q6 := blk_frozen HC9.out.b4 6; have q7 := blk_frozen HC9.out.b4 7; have q8 := blk_frozen HC9.out.b4 8)
         go_wp2
         refine bodyPost_ret (results_cell_row rfl _ _ w.heap.size 39 #[.int .i64 0, .int .i64 0, .int .i64 0, .int .i64 0, .int .i64 0, .int .i64 0, .slice none 0 0, .slice none 0 0, .int .i64 6] (0, 0) _ rfl (ret9 HC9.out.b4) Try.underlying39 rfl (by kernel_rfl)) rfl ?_
         have hA_ : cmdR op l0 = (zc 0, 6) := by unfold cmdR; rw [HA.out]; exact (congrArg _ (fin_cons _ _ HE0.out)).trans (itm_5 _)
         rw [hA_]
         exact ⟨(.slice none 0 0), (.slice none 0 0), rfl, R_store9 ((Kd.R_nil _ _ _ _ _)) HC9.out.b4 (by decide), R_store9 ((Kd.R_nil _ _ _ _ _)) HC9.out.b4 (by decide), below9 HC9.out.bel (Nat.le_refl _)⟩
        ·have n5 : (e == 5) = false := by simpa using h5
         have HN := Aside0.mk (And.intro h0 h5)
         clear h0 h5
         go_wp2_with (go_at_call 21; (refine (fail_any (w.heap.size + 1) (y :: l) e 6 w _ HCS.out.zr HCS.out.bel HCS.out.rd).mono ?_); rintro en w9 ⟨rfl, h1, h2, h3⟩; have HC9 := Aside0.mk (HCS.out.call h1 h2 h3); rw [if_neg HE0.out] at h1; obtain ⟨A9, c9, hb9, _⟩ := h1; have r9 : w9.cell? ⟨w.heap.size + 1, 1, none⟩ = some (.int .i64 e) := (blk_cell hb9 1).trans rfl; clear hb9 h2 h3; have k0 : w9.cell? ⟨w.heap.size, 0, none⟩ = some (.int .i64 0) := (blk_cell HC9.out.b4 0).trans rfl; have k1 : w9.cell? ⟨w.heap.size, 1, none⟩ = some (.int .i64 0) := (blk_cell HC9.out.b4 1).trans rfl; have k2 : w9.cell? ⟨w.heap.size, 2, none⟩ = some (.int .i64 0) := (blk_cell HC9.out.b4 2).trans rfl; have k3 : w9.cell? ⟨w.heap.size, 3, none⟩ = some (.int .i64 0) := (blk_cell HC9.out.b4 3).trans rfl; have k4 : w9.cell? ⟨w.heap.size, 4, none⟩ = some (.int .i64 0) := (blk_cell HC9.out.b4 4).trans rfl; have k5 : w9.cell? ⟨w.heap.size, 5, none⟩ = some (.int .i64 0) := (blk_cell HC9.out.b4 5).trans rfl; have k6 : w9.cell? ⟨w.heap.size, 6, none⟩ = some (.slice none 0 0) := (blk_cell HC9.out.b4 6).trans rfl; have k7 : w9.cell? ⟨w.heap.size, 7, none⟩ = some (.slice none 0 0) := (blk_cell HC9.out.b4 7).trans rfl; have k8 : w9.cell? ⟨w.heap.size, 8, none⟩ = some (.int .i64 0) := (blk_cell HC9.out.b4 8).trans rfl; have q0 := blk_frozen HC9.out.b4 0; have q1 := blk_frozen HC9.out.b4 1; have q2 := blk_frozen HC9.out.b4 2; have q3 := blk_frozen HC9.out.b4 3; have q4 := blk_frozen HC9.out.b4 4; have q5 := blk_frozen HC9.out.b4 5; have q6 := blk_frozen HC9.out.b4 6; have q7 := blk_frozen HC9.out.b4 7; have q8 := blk_frozen HC9.out.b4 8)
         go_wp2
         refine bodyPost_ret (results_cell_row rfl _ _ w.heap.size 39 #[.int .i64 0, .int .i64 0, .int .i64 0, .int .i64 0, .int .i64 0, .int .i64 0, .slice none 0 0, .slice none 0 0, .int .i64 e] (0, 0) _ rfl (ret9 HC9.out.b4) Try.underlying39 rfl (by kernel_rfl)) rfl ?_
         have hA_ : cmdR op l0 = (zc 0, e) := by unfold cmdR; rw [HA.out]; exact (congrArg _ (fin_cons _ _ HE0.out)).trans (itm_e _ HN.out.1 HN.out.2)
         rw [hA_]
         exact ⟨(.slice none 0 0), (.slice none 0 0), rfl, R_store9 ((Kd.R_nil _ _ _ _ _)) HC9.out.b4 (by decide), R_store9 ((Kd.R_nil _ _ _ _ _)) HC9.out.b4 (by decide), below9 HC9.out.bel (Nat.le_refl _)⟩
     ·have hm2 : m ≤ 1024 := by have h1_ := HLN.out; omega
      have ne0 : (e == 0) = false := by simpa using he
      have HEE := Aside0.mk he
      clear he
      obtain ⟨Ar, cr, hbr, _⟩ := HCS.out.rd
      have HBR := Aside0.mk hbr
      have r0 : wr.cell? ⟨w.heap.size + 1, 0, none⟩ = some (.slice Ar l.length cr) := (blk_cell hbr 0).trans rfl
      have r1 : wr.cell? ⟨w.heap.size + 1, 1, none⟩ = some (.int .i64 e) := (blk_cell hbr 1).trans rfl
      clear hbr
      cases l with
      | nil =>
       simp only [List.length_nil] at r0
       have k0 : wr.cell? ⟨w.heap.size, 0, none⟩ = some (.int .i64 0) := (blk_cell HCS.out.b4 0).trans rfl
       have k1 : wr.cell? ⟨w.heap.size, 1, none⟩ = some (.int .i64 0) := (blk_cell HCS.out.b4 1).trans rfl
       have k2 : wr.cell? ⟨w.heap.size, 2, none⟩ = some (.int .i64 0) := (blk_cell HCS.out.b4 2).trans rfl
       have k3 : wr.cell? ⟨w.heap.size, 3, none⟩ = some (.int .i64 0) := (blk_cell HCS.out.b4 3).trans rfl
       have k4 : wr.cell? ⟨w.heap.size, 4, none⟩ = some (.int .i64 0) := (blk_cell HCS.out.b4 4).trans rfl
       have k5 : wr.cell? ⟨w.heap.size, 5, none⟩ = some (.int .i64 0) := (blk_cell HCS.out.b4 5).trans rfl
       have k6 : wr.cell? ⟨w.heap.size, 6, none⟩ = some (.slice none 0 0) := (blk_cell HCS.out.b4 6).trans rfl
       have k7 : wr.cell? ⟨w.heap.size, 7, none⟩ = some (.slice none 0 0) := (blk_cell HCS.out.b4 7).trans rfl
       have k8 : wr.cell? ⟨w.heap.size, 8, none⟩ = some (.int .i64 0) := (blk_cell HCS.out.b4 8).trans rfl
       have q0 := blk_frozen HCS.out.b4 0
       have q1 := blk_frozen HCS.out.b4 1
       have q2 := blk_frozen HCS.out.b4 2
       have q3 := blk_frozen HCS.out.b4 3
       have q4 := blk_frozen HCS.out.b4 4
       have q5 := blk_frozen HCS.out.b4 5
       have q6 := blk_frozen HCS.out.b4 6
       have q7 := blk_frozen HCS.out.b4 7
       have q8 := blk_frozen HCS.out.b4 8
       by_cases h0 : e = 0
       ·exact absurd h0 HEE.out
       ·have n0 : (e == 0) = false := by simpa using h0
        by_cases h5 : e = 5
        ·subst h5
         clear h0 n0
         go_wp2
         refine bodyPost_ret (results_cell_row rfl _ _ w.heap.size 39 #[.int .i64 0, .int .i64 0, .int .i64 0, .int .i64 0, .int .i64 0, .int .i64 0, .slice none 0 0, .slice none 0 0, .int .i64 6] (0, 0) _ rfl (ret9 HCS.out.b4) Try.underlying39 rfl (by kernel_rfl)) rfl ?_
         have hA_ : cmdR op l0 = (zc 0, 6) := by unfold cmdR; rw [HA.out]; exact (congrArg _ (fin_nil _)).trans (itm_5 _)
         rw [hA_]
         exact ⟨(.slice none 0 0), (.slice none 0 0), rfl, R_store9 ((Kd.R_nil _ _ _ _ _)) HCS.out.b4 (by decide), R_store9 ((Kd.R_nil _ _ _ _ _)) HCS.out.b4 (by decide), below9 HCS.out.bel (Nat.le_refl _)⟩
        ·have n5 : (e == 5) = false := by simpa using h5
         have HN := Aside0.mk (And.intro h0 h5)
         clear h0 h5
         go_wp2
         refine bodyPost_ret (results_cell_row rfl _ _ w.heap.size 39 #[.int .i64 0, .int .i64 0, .int .i64 0, .int .i64 0, .int .i64 0, .int .i64 0, .slice none 0 0, .slice none 0 0, .int .i64 e] (0, 0) _ rfl (ret9 HCS.out.b4) Try.underlying39 rfl (by kernel_rfl)) rfl ?_
         have hA_ : cmdR op l0 = (zc 0, e) := by unfold cmdR; rw [HA.out]; exact (congrArg _ (fin_nil _)).trans (itm_e _ HN.out.1 HN.out.2)
         rw [hA_]
         exact ⟨(.slice none 0 0), (.slice none 0 0), rfl, R_store9 ((Kd.R_nil _ _ _ _ _)) HCS.out.b4 (by decide), R_store9 ((Kd.R_nil _ _ _ _ _)) HCS.out.b4 (by decide), below9 HCS.out.bel (Nat.le_refl _)⟩
      | cons y l =>
       have yl : 0 < (y :: l).length := by simp
       have dl : decide (0 < (y :: l).length) = true := decide_eq_true yl
       simp only [List.length_cons] at r0 yl dl
       have HLL : Aside0 (l.length + 1 = (y :: l).length) := ⟨rfl⟩
       by_cases h0 : e = 0
       ·exact absurd h0 HEE.out
       ·have n0 : (e == 0) = false := by simpa using h0
        have HE0 := Aside0.mk h0
        by_cases h5 : e = 5
        ·subst h5
         clear h0 n0
         go_wp2_with (go_at_call 21; (refine (fail_any (w.heap.size + 1) (y :: l) 5 6 w _ HCS.out.zr HCS.out.bel HCS.out.rd).mono ?_); rintro en w9 ⟨rfl, h1, h2, h3⟩; have HC9 := Aside0.mk (HCS.out.call h1 h2 h3); rw [if_neg HE0.out] at h1; obtain ⟨A9, c9, hb9, _⟩ := h1; have r9 : w9.cell? ⟨w.heap.size + 1, 1, none⟩ = some (.int .i64 5) := (blk_cell hb9 1).trans rfl; clear hb9 h2 h3; have k0 : w9.cell? ⟨w.heap.size, 0, none⟩ = some (.int .i64 0) := (blk_cell HC9.out.b4 0).trans rfl; have k1 : w9.cell? ⟨w.heap.size, 1, none⟩ = some (.int .i64 0) := (blk_cell HC9.out.b4 1).trans rfl; have k2 : w9.cell? ⟨w.heap.size, 2, none⟩ = some (.int .i64 0) := (blk_cell HC9.out.b4 2).trans rfl; have k3 : w9.cell? ⟨w.heap.size, 3, none⟩ = some (.int .i64 0) := (blk_cell HC9.out.b4 3).trans rfl; have k4 : w9.cell? ⟨w.heap.size, 4, none⟩ = some (.int .i64 0) := (blk_cell HC9.out.b4 4).trans rfl; have k5 : w9.cell? ⟨w.heap.size, 5, none⟩ = some (.int .i64 0) := (blk_cell HC9.out.b4 5).trans rfl; have k6 : w9.cell? ⟨w.heap.size, 6, none⟩ = some (.slice none 0 0) := (blk_cell HC9.out.b4 6).trans rfl; have k7 : w9.cell? ⟨w.heap.size, 7, none⟩ = some (.slice none 0 0) := (blk_cell HC9.out.b4 7).trans rfl; have k8 : w9.cell? ⟨w.heap.size, 8, none⟩ = some (.int .i64 0) := (blk_cell HC9.out.b4 8).trans rfl; have q0 := blk_frozen HC9.out.b4 0; have q1 := blk_frozen HC9.out.b4 1; have q2 := blk_frozen HC9.out.b4 2; have q3 := blk_frozen HC9.out.b4 3; have q4 := blk_frozen HC9.out.b4 4; have q5 := blk_frozen HC9.out.b4 5; have q6 := blk_frozen HC9.out.b4 6; have q7 := blk_frozen HC9.out.b4 7; have q8 := blk_frozen HC9.out.b4 8)
         go_wp2
         refine bodyPost_ret (results_cell_row rfl _ _ w.heap.size 39 #[.int .i64 0, .int .i64 0, .int .i64 0, .int .i64 0, .int .i64 0, .int .i64 0, .slice none 0 0, .slice none 0 0, .int .i64 6] (0, 0) _ rfl (ret9 HC9.out.b4) Try.underlying39 rfl (by kernel_rfl)) rfl ?_
         have hA_ : cmdR op l0 = (zc 0, 6) := by unfold cmdR; rw [HA.out]; exact (congrArg _ (fin_cons _ _ HE0.out)).trans (itm_5 _)
         rw [hA_]
         exact ⟨(.slice none 0 0), (.slice none 0 0), rfl, R_store9 ((Kd.R_nil _ _ _ _ _)) HC9.out.b4 (by decide), R_store9 ((Kd.R_nil _ _ _ _ _)) HC9.out.b4 (by decide), below9 HC9.out.bel (Nat.le_refl _)⟩
        ·have n5 : (e == 5) = false := by simpa using h5
         have HN := Aside0.mk (And.intro h0 h5)
         clear h0 h5
         go_wp2_with (go_at_call 21; (refine (fail_any (w.heap.size + 1) (y :: l) e 6 w _ HCS.out.zr HCS.out.bel HCS.out.rd).mono ?_); rintro en w9 ⟨rfl, h1, h2, h3⟩; have HC9 := Aside0.mk (HCS.out.call h1 h2 h3); rw [if_neg HE0.out] at h1; obtain ⟨A9, c9, hb9, _⟩ := h1; have r9 : w9.cell? ⟨w.heap.size + 1, 1, none⟩ = some (.int .i64 e) := (blk_cell hb9 1).trans rfl; clear hb9 h2 h3; have k0 : w9.cell? ⟨w.heap.size, 0, none⟩ = some (.int .i64 0) := (blk_cell HC9.out.b4 0).trans rfl; have k1 : w9.cell? ⟨w.heap.size, 1, none⟩ = some (.int .i64 0) := (blk_cell HC9.out.b4 1).trans rfl; have k2 : w9.cell? ⟨w.heap.size, 2, none⟩ = some (.int .i64 0) := (blk_cell HC9.out.b4 2).trans rfl; have k3 : w9.cell? ⟨w.heap.size, 3, none⟩ = some (.int .i64 0) := (blk_cell HC9.out.b4 3).trans rfl; have k4 : w9.cell? ⟨w.heap.size, 4, none⟩ = some (.int .i64 0) := (blk_cell HC9.out.b4 4).trans rfl; have k5 : w9.cell? ⟨w.heap.size, 5, none⟩ = some (.int .i64 0) := (blk_cell HC9.out.b4 5).trans rfl; have k6 : w9.cell? ⟨w.heap.size, 6, none⟩ = some (.slice none 0 0) := (blk_cell HC9.out.b4 6).trans rfl; have k7 : w9.cell? ⟨w.heap.size, 7, none⟩ = some (.slice none 0 0) := (blk_cell HC9.out.b4 7).trans rfl; have k8 : w9.cell? ⟨w.heap.size, 8, none⟩ = some (.int .i64 0) := (blk_cell HC9.out.b4 8).trans rfl; have q0 := blk_frozen HC9.out.b4 0; have q1 := blk_frozen HC9.out.b4 1; have q2 := blk_frozen HC9.out.b4 2; have q3 := blk_frozen HC9.out.b4 3; have q4 := blk_frozen HC9.out.b4 4; have q5 := blk_frozen HC9.out.b4 5; have q6 := blk_frozen HC9.out.b4 6; have q7 := blk_frozen HC9.out.b4 7; have q8 := blk_frozen HC9.out.b4 8)
         go_wp2
         refine bodyPost_ret (results_cell_row rfl _ _ w.heap.size 39 #[.int .i64 0, .int .i64 0, .int .i64 0, .int .i64 0, .int .i64 0, .int .i64 0, .slice none 0 0, .slice none 0 0, .int .i64 e] (0, 0) _ rfl (ret9 HC9.out.b4) Try.underlying39 rfl (by kernel_rfl)) rfl ?_
         have hA_ : cmdR op l0 = (zc 0, e) := by unfold cmdR; rw [HA.out]; exact (congrArg _ (fin_cons _ _ HE0.out)).trans (itm_e _ HN.out.1 HN.out.2)
         rw [hA_]
         exact ⟨(.slice none 0 0), (.slice none 0 0), rfl, R_store9 ((Kd.R_nil _ _ _ _ _)) HC9.out.b4 (by decide), R_store9 ((Kd.R_nil _ _ _ _ _)) HC9.out.b4 (by decide), below9 HC9.out.bel (Nat.le_refl _)⟩
theorem cmd_any (op : Int) (hop : 1 ≤ op ∧ op ≤ 19) (A0 : Option Addr) (c0 : Nat) (l0 : List Int) (w : World) (hC : Kd.C (Kd.int .u8) w A0 l0.length l0) (hc : l0.length ≤ c0) (hby : ∀ x ∈ l0, 0 ≤ x ∧ x ≤ 255) :
  Calls Try.prog 22 #[.int .i64 op, .slice A0 l0.length c0] w (CmdPost w (cmdR op l0)) := by
 cases hfl : fl op with
 | false =>
  cases hfv : fv op with
  | false => exact cmd_none op hop hfl hfv A0 c0 l0 w hC hc hby
  | true => exact cmd_verts op hop hfl hfv A0 c0 l0 w hC hc hby
 | true =>
  have hfv : fv op = false := by
   unfold fl at hfl
   unfold fv
   have := of_decide_eq_true hfl
   exact decide_eq_false (by omega)
  exact cmd_list op hop hfl hfv A0 c0 l0 w hC hc hby
end Go.Proofs.Ytpgjkndijdleeaa.PCode
end
section
namespace Go.Proofs.Ytpgjkndijdleeaa.PCode
open Go.RowKit Go.Proofs.YtpgjkndijdleeaaW.PrintWords Go.Proofs.YtpgjkndijdleeaaW.PrintLast Go.Proofs.YtpgjkndijdleeaaW.PrintMore
set_option linter.unusedVariables false
set_option linter.unusedSimpArgs false
structure S39 where
 f0 : S37
 f1 : Int
def z39 : S39 := ⟨z37, (0 : Int)⟩
def k39 : Kd S39 := Kd.iso (Kd.pair k37 (Kd.int .i64)) (fun x : S39 => (x.f0, x.f1))
theorem k39_open {w : World} {x : S39} {cs : List Value} (h : k39.K w x cs) : ∃ A6 c6 A7 c7, cs = [.int .i64 x.f0.f0, .int .i64 x.f0.f1, .int .i64 x.f0.f2, .int .i64 x.f0.f3, .int .i64 x.f0.f4, .int .i64 x.f0.f5, .slice A6 x.f0.f6.length c6, .slice A7 x.f0.f7.length c7, .int .i64 x.f1] ∧ x.f0.f6.length ≤ c6 ∧ (Kd.int .i64).C w A6 x.f0.f6.length x.f0.f6 ∧ x.f0.f7.length ≤ c7 ∧ k62.C w A7 x.f0.f7.length x.f0.f7 := by
 obtain ⟨_, _, rfl, s0, rfl⟩ := h
 obtain ⟨A6, c6, A7, c7, rfl, l6, g6, l7, g7⟩ := k37_open s0
 exact ⟨A6, c6, A7, c7, rfl, l6, g6, l7, g7⟩
theorem k39_openM {w : World} {base : Nat} {ok : Nat → Prop} {x : S39} {cs : List Value} (h : k39.M w base ok x cs) : ∃ v6 v7, cs = [.int .i64 x.f0.f0, .int .i64 x.f0.f1, .int .i64 x.f0.f2, .int .i64 x.f0.f3, .int .i64 x.f0.f4, .int .i64 x.f0.f5, v6, v7, .int .i64 x.f1] ∧ (Kd.int .i64).R 3 w base ok v6 x.f0.f6 ∧ k62.R 62 w base ok v7 x.f0.f7 := by
 obtain ⟨_, _, rfl, s0, rfl⟩ := h
 obtain ⟨v6, v7, rfl, g6, g7⟩ := k37_openM s0
 exact ⟨v6, v7, rfl, g6, g7⟩
theorem k39_mkM (w : World) (base : Nat) (ok : Nat → Prop) (x : S39) {v6 : Value} (g6 : (Kd.int .i64).R 3 w base ok v6 x.f0.f6) {v7 : Value} (g7 : k62.R 62 w base ok v7 x.f0.f7) : k39.M w base ok x [.int .i64 x.f0.f0, .int .i64 x.f0.f1, .int .i64 x.f0.f2, .int .i64 x.f0.f3, .int .i64 x.f0.f4, .int .i64 x.f0.f5, v6, v7, .int .i64 x.f1] := ⟨[.int .i64 x.f0.f0, .int .i64 x.f0.f1, .int .i64 x.f0.f2, .int .i64 x.f0.f3, .int .i64 x.f0.f4, .int .i64 x.f0.f5, v6, v7], [.int .i64 x.f1], rfl, (k37_mkM w base ok x.f0 g6 g7), rfl⟩
def rd_T39 (xs : List S39) (i : Int) : S39 := xs.getD i.toNat z39
theorem at_T39 {w : World} {A : Option Addr} {n : Nat} {xs : List S39} (h : Kd.C k39 w A n xs) (i : Int) (h0 : 0 ≤ i) (h1 : i < n) : ∃ ad A6 c6 A7 c7, A = some ad ∧ w.cell? (ad.add (i.toNat * 9)) = some (.int .i64 (rd_T39 xs i).f0.f0) ∧ w.cell? ⟨(ad.add (i.toNat * 9)).block, (ad.add (i.toNat * 9)).off + 1, none⟩ = some (.int .i64 (rd_T39 xs i).f0.f1) ∧ w.cell? ⟨(ad.add (i.toNat * 9)).block, (ad.add (i.toNat * 9)).off + 2, none⟩ = some (.int .i64 (rd_T39 xs i).f0.f2) ∧ w.cell? ⟨(ad.add (i.toNat * 9)).block, (ad.add (i.toNat * 9)).off + 3, none⟩ = some (.int .i64 (rd_T39 xs i).f0.f3) ∧ w.cell? ⟨(ad.add (i.toNat * 9)).block, (ad.add (i.toNat * 9)).off + 4, none⟩ = some (.int .i64 (rd_T39 xs i).f0.f4) ∧ w.cell? ⟨(ad.add (i.toNat * 9)).block, (ad.add (i.toNat * 9)).off + 5, none⟩ = some (.int .i64 (rd_T39 xs i).f0.f5) ∧ w.cell? ⟨(ad.add (i.toNat * 9)).block, (ad.add (i.toNat * 9)).off + 6, none⟩ = some (.slice A6 (rd_T39 xs i).f0.f6.length c6) ∧ w.cell? ⟨(ad.add (i.toNat * 9)).block, (ad.add (i.toNat * 9)).off + 7, none⟩ = some (.slice A7 (rd_T39 xs i).f0.f7.length c7) ∧ w.cell? ⟨(ad.add (i.toNat * 9)).block, (ad.add (i.toNat * 9)).off + 8, none⟩ = some (.int .i64 (rd_T39 xs i).f1) ∧ (rd_T39 xs i).f0.f6.length ≤ c6 ∧ (Kd.int .i64).C w A6 (rd_T39 xs i).f0.f6.length (rd_T39 xs i).f0.f6 ∧ (rd_T39 xs i).f0.f7.length ≤ c7 ∧ k62.C w A7 (rd_T39 xs i).f0.f7.length (rd_T39 xs i).f0.f7 := by
 obtain ⟨ad, c, e, _, hK, hc0⟩ := Kd.C_get h z39 i h0 h1
 have hc : ∀ j u, c[j]? = some u → w.cell? (ad.add (i.toNat * 9 + j)) = some u := hc0
 obtain ⟨A6, c6, A7, c7, rfl, l6, g6, l7, g7⟩ := k39_open hK
 exact ⟨ad, A6, c6, A7, c7, e, hc 0 _ rfl, by rw [← add_field _ _ 1 (by omega)]; exact hc 1 _ rfl, by rw [← add_field _ _ 2 (by omega)]; exact hc 2 _ rfl, by rw [← add_field _ _ 3 (by omega)]; exact hc 3 _ rfl, by rw [← add_field _ _ 4 (by omega)]; exact hc 4 _ rfl, by rw [← add_field _ _ 5 (by omega)]; exact hc 5 _ rfl, by rw [← add_field _ _ 6 (by omega)]; exact hc 6 _ rfl, by rw [← add_field _ _ 7 (by omega)]; exact hc 7 _ rfl, by rw [← add_field _ _ 8 (by omega)]; exact hc 8 _ rfl, l6, g6, l7, g7⟩
end Go.Proofs.Ytpgjkndijdleeaa.PCode
end
section
namespace Go.Proofs.Ytpgjkndijdleeaa.PCode
open Go.RowKit Go.Proofs.YtpgjkndijdleeaaW.PrintWords Go.Proofs.YtpgjkndijdleeaaW.PrintLast Go.Proofs.YtpgjkndijdleeaaW.PrintMore
attribute [local go_sem] max2_int min2_int max_two min_two max_three min_three max_four min_four   -- for this text's walks alone
set_option linter.unusedVariables false
set_option linter.unusedSimpArgs false
theorem info39 : (Try.prog.info? 39).map (fun i => (i.zero, i.size, i.bytes)) = some (some (.agg #[(.int .i64 0), (.int .i64 0), (.int .i64 0), (.int .i64 0), (.int .i64 0), (.int .i64 0), (.slice none 0 0), (.slice none 0 0), (.int .i64 0)]), 9, 104) := by kernel_rfl
/-- What bytes are read as. -/
def decR : Nat → List Int → List S39
 | 0, _ => []
 | k + 1, [] => []
 | k + 1, x :: l => if (rcl 10 0 0 l).2.2 = 0 then (if ((rcl 10 0 0 l).2.1.length : Int) < (rcl 10 0 0 l).1 then [⟨zc 0, 5⟩] else (if x < 1 ∨ 19 < x then ⟨zc 0, 9⟩ else ⟨(cmdR x ((rcl 10 0 0 l).2.1.take (rcl 10 0 0 l).1.toNat)).1, (cmdR x ((rcl 10 0 0 l).2.1.take (rcl 10 0 0 l).1.toNat)).2⟩) :: decR k ((rcl 10 0 0 l).2.1.drop (rcl 10 0 0 l).1.toNat)) else [⟨zc 0, (rcl 10 0 0 l).2.2⟩]
def bytesB (l : List Int) : Bool := l.all fun x => decide (0 ≤ x ∧ x ≤ 255)
theorem bytesB_iff (l : List Int) : bytesB l = true ↔ ∀ x ∈ l, 0 ≤ x ∧ x ≤ 255 := by simp [bytesB]
def code_Decode.f (l0 : List Int) : Option (List S39) := if l0.length ≤ 1000000000 ∧ bytesB l0 = true then some (decR (l0.length + 1) l0) else none
theorem rcl_len : ∀ (k : Nat) (i u : Int) (l : List Int), (rcl k i u l).2.1.length ≤ l.length ∧ ∀ x ∈ (rcl k i u l).2.1, x ∈ l
 | 0, _, _, l => ⟨Nat.le_refl _, fun _ h => h⟩
 | k + 1, _, _, [] => ⟨Nat.le_refl _, fun _ h => h⟩
 | k + 1, i, u, x :: l => by
  unfold rcl
  split
  ·exact ⟨Nat.le_succ _, fun _ h => List.mem_cons_of_mem _ h⟩
  ·split
   ·exact ⟨Nat.le_succ _, fun _ h => List.mem_cons_of_mem _ h⟩
   ·have h := rcl_len k (i + 1) (Go.bits .or .u64 u (IntKind.u64.wrap (x % 128 * 2 ^ (7 * i).toNat))) l
    exact ⟨Nat.le_succ_of_le h.1, fun y hy => List.mem_cons_of_mem _ (h.2 y hy)⟩
theorem Rd.below {w W W' : World} {gr : Nat} {l : List Int} {e : Int} (h : Rd w W gr l e) (hb : Below W.heap.size W W') : Rd w W' gr l e := by
 obtain ⟨A, c, hr⟩ := h.blk
 exact h.move (hb.block gr (blk_lt hr))
theorem S_call {α : Type} {d : Kd α} {t : Nat} {w W W' : World} {gr : Nat} {v : Value} {xs : List α} {l : List Int} {e : Int} (h : Kd.S d t W w.heap.size (fun _ => True) v xs) (hr : Rd w W gr l e) (hk : KeepBut W W' gr none) (ht : ∀ q, q ∈ t :: d.E → q ≠ 54) : Kd.S d t W' w.heap.size (fun _ => True) v xs := by
 obtain ⟨A, c, hb⟩ := hr.blk
 exact Kd.S_mono (Kd.S_keep (Kd.S_types h hb ht) hk (fun _ hk => hk.2)) (fun _ _ => trivial)
theorem S_putr {α : Type} {d : Kd α} {t : Nat} {w W : World} {gr : Nat} {v : Value} {xs : List α} {l : List Int} {e : Int} (h : Kd.S d t W w.heap.size (fun _ => True) v xs) (hr : Rd w W gr l e) (ht : ∀ q, q ∈ t :: d.E → q ≠ 54) (i : Nat) (u : Value) : Kd.S d t (W.setCell ⟨gr, i, none⟩ u) w.heap.size (fun _ => True) v xs := by
 obtain ⟨A, c, hb⟩ := hr.blk
 exact Kd.S_set h hb ht i u
/-- A reader's bytes, cut. -/
theorem Rd.cut {w W : World} {gr : Nat} {A A' : Option Addr} {c c' : Nat} {l l' : List Int} {e : Int} (hb : W.heap[gr]? = some (.cells #[.slice A l.length c, .int .i64 e] 54 (0, 0))) (hc : l'.length ≤ c') (hC : Kd.C (Kd.int .u8) w A' l'.length l') (hy : ∀ x ∈ l', 0 ≤ x ∧ x ≤ 255) : Rd w (W.setCell ⟨gr, 0, none⟩ (.slice A' l'.length c')) gr l' e :=
 ⟨A', c', blk_put hb 0 _ rfl, hc, hC, hy⟩
set_option maxHeartbeats 8000000 in
set_option maxRecDepth 100000 in
theorem dec_any (A0 : Option Addr) (c0 : Nat) (l0 : List Int) (w : World) (hC : Kd.C (Kd.int .u8) w A0 l0.length l0) (hc : l0.length ≤ c0) (hby : ∀ x ∈ l0, 0 ≤ x ∧ x ≤ 255) (hlen : l0.length ≤ 1000000000) :
  Calls Try.prog 10 #[.slice A0 l0.length c0] w fun e w' => ∃ v0_ : Value, e = .returned (v0_) ∧ Kd.S k39 39 w' w.heap.size (fun _ => True) v0_ (decR (l0.length + 1) l0) ∧ Below w.heap.size w w' := by
 have hu37 := Try.underlying37
 have hu54 := Try.underlying54
 have hu39 := Try.underlying39
 have HIN := Aside0.mk (And.intro hc (And.intro hC hby))
 clear hc hC hby
 go_enter Try.func10, Try.ntmps10
 go_wp2
 have HR0 : Aside0 (Rd w (w.alloc (.cells #[.slice A0 l0.length c0, .int .i64 0] 54)) w.heap.size l0 0) := ⟨⟨A0, c0, blk_new w _, HIN.out.1, HIN.out.2.1, HIN.out.2.2⟩⟩
 have HB0 := Aside0.mk (below_alloc (Below.refl w.heap.size w) (.cells #[.slice A0 l0.length c0, .int .i64 0] 54))
 clear HIN
 go_loopg [3] (l0.length + 1) (fun kq v3 w' => ∃ (l : List Int) (acc : List S39), Aside0 (Rd w w' w.heap.size l 0) ∧ Aside0 (Below w.heap.size w w') ∧ Aside0 (Kd.S k39 39 w' w.heap.size (fun _ => True) v3 acc) ∧ Aside0 (acc ++ decR kq l = decR (l0.length + 1) l0) ∧ Aside0 (l.length < kq) ∧ Aside0 (acc.length + l.length ≤ 1000000000))
 case atStart => exact ⟨l0, [], HR0, HB0, ⟨Kd.S_nil _ _ _ _ _⟩, ⟨rfl⟩, ⟨Nat.lt_succ_self _⟩, ⟨by simpa using hlen⟩⟩
 case round =>
  clear HR0 HB0
  obtain ⟨l, acc, HRd, HB, HS, HF, HK, HLN⟩ := hrel
  obtain ⟨k1, rfl⟩ : ∃ k1, gk = k1 + 1 := ⟨gk - 1, by have h1_ := HK.out; omega⟩
  obtain ⟨A3, c3, e3⟩ := Kd.S_slice HS.out
  subst e3
  obtain ⟨A, c, HG, hlc, hC, hby⟩ := HRd.out
  have h0 : wr.cell? ⟨w.heap.size, 0, none⟩ = some (.slice A l.length c) := (blk_cell HG 0).trans rfl
  have h1 : wr.cell? ⟨w.heap.size, 1, none⟩ = some (.int .i64 0) := (blk_cell HG 1).trans rfl
  have z0 := blk_frozen HG 0
  have z1 := blk_frozen HG 1
  cases l with
  | nil =>
   have HF2 : Aside0 (decR (l0.length + 1) l0 = acc) := ⟨by rw [← HF.out]; simp [decR]⟩
   simp only [List.length_nil] at h0
   go_wp2
   go_ret
   exact ⟨_, rfl, by rw [HF2.out]; exact HS.out, HB.out⟩
  | cons x l =>
   obtain ⟨ad, cs, rfl, hcl, hk, hcell⟩ := Kd.C_get hC 0 0 (by omega) (by simp only [List.length_cons]; omega)
   have hk' : cs = [.int .u8 x] := hk
   subst hk'
   have hx0 : w.cell? (ad.add 0) = some (.int .u8 x) := hcell 0 _ rfl
   have hx := (HB.out.cell (World.block_lt_of_cell? _ _ hx0)).trans hx0
   obtain ⟨A', hrun, hC', hl'⟩ := print_drop_of (P := Try.prog) (Value.int .u8) 0 25 5 .i64 (i := (Try.prog.info? 5).getD default) Try.underlying25 (by kernel_rfl) (by kernel_rfl) (some ad) c (x :: l) 1 (by omega) (by simp only [List.length_cons]; omega) hlc
   have hrun2 : ∀ W, (Instr.slice 25 (.slice (some ad) (l.length + 1) c) (some (.int .i64 1)) none none).run Try.prog W = .ok (.slice A' l.length (c - 1)) W := hrun
   have HC2 : Aside0 (Kd.C (Kd.int .u8) w A' l.length l) := ⟨Kd.C_of_reads (hC' w (Kd.reads_of_C (d := (0 : Int)) hC))⟩
   have hxa : 0 ≤ x := (hby x (by simp)).1
   have hxb : x ≤ 255 := (hby x (by simp)).2
   have HBY : Aside0 (∀ y ∈ l, 0 ≤ y ∧ y ≤ 255) := ⟨fun y hy => hby y (List.mem_cons_of_mem _ hy)⟩
   clear hby
   have HLc : Aside0 (l.length ≤ c - 1) := ⟨hl'⟩
   simp only [List.length_cons] at h0
   have hx1 : wr.cell? ad = some (.int .u8 x) := by rw [Addr.add_zero'] at hx; exact hx
   have HR2 : Aside0 (Rd w (wr.setCell ⟨w.heap.size, 0, none⟩ (.slice A' l.length (c - 1))) w.heap.size l 0) := ⟨Rd.cut HG hl' HC2.out HBY.out⟩
   have HS2 := Aside0.mk (S_putr HS.out HRd.out (by decide) 0 (.slice A' l.length (c - 1)))
   have HB2 := Aside0.mk (below_set (j := 0) (v := .slice A' l.length (c - 1)) HB.out (Nat.le_refl _))
   have wx : wrap64 x = x := by unfold wrap64; omega
   clear hrun hC' hC hcell hx0 hx hl' hlc HG HC2 HBY HLc HS HRd HB
   obtain ⟨u, l2, e2, hr⟩ : ∃ u l2 e2, rcl 10 0 0 l = (u, l2, e2) := ⟨_, _, _, rfl⟩
   have HR := Aside0.mk hr
   have HU : Aside0 (0 ≤ u ∧ u < 18446744073709551616) := ⟨by have h1_ := rcl_rng 10 0 0 l; rw [hr] at h1_; exact h1_⟩
   have HL2 : Aside0 (l2.length ≤ l.length) := ⟨by have h1_ := (rcl_len 10 0 0 l).1; rw [hr] at h1_; exact h1_⟩
   clear hr
   have hll : (l2.length : Int) ≤ 1000000000 := by have h1_ := HL2.out; have h2_ := HLN.out; simp only [List.length_cons] at h2_; omega
   have hwl : IntKind.u64.wrap (l2.length : Int) = (l2.length : Int) := by rw [wrap_u64]; omega
   by_cases he : e2 = 0
   ·subst he
    by_cases hu : (l2.length : Int) < u
    ·have HF2 : Aside0 (decR (l0.length + 1) l0 = acc ++ [⟨zc 0, 5⟩]) := ⟨by rw [← HF.out]; simp only [decR]; rw [HR.out, if_pos rfl, if_pos hu]⟩
     have du : decide ((l2.length : Int) < u) = true := decide_eq_true hu
     clear hu
     go_wp2_with (first | (go_at_call 20; (refine (count_ok w.heap.size l _ HR.out w _ (Nat.le_refl _) HB2.out HR2.out).mono ?_); rintro en w5 ⟨rfl, q1, q2, q3⟩; have HR5 := Aside0.mk q1; have HS5 := Aside0.mk (S_call HS2.out HR2.out q2 (by decide)); have HB5 := Aside0.mk q3; obtain ⟨A5, c5, hb5, hc5, hC5, hy5⟩ := q1; have r5 : w5.cell? ⟨w.heap.size, 1, none⟩ = some (.int .i64 0) := (blk_cell hb5 1).trans rfl; have r50 : w5.cell? ⟨w.heap.size, 0, none⟩ = some (.slice A5 l2.length c5) := (blk_cell hb5 0).trans rfl; skip; clear q2 q3 hb5 hc5 hC5 hy5) | (go_at_call 21; (refine (fail_any w.heap.size l2 0 5 w _ (Nat.le_refl _) HB5.out HR5.out).mono ?_); rintro en w6 ⟨rfl, q1, q2, q3⟩; have HS6 := Aside0.mk (S_call HS5.out HR5.out q2 (by decide)); have HB6 := Aside0.mk q3; obtain ⟨A6, c6, hb6, _⟩ := q1; have r6 : w6.cell? ⟨w.heap.size, 1, none⟩ = some (.int .i64 5) := (blk_cell hb6 1).trans rfl; clear q2 q3 hb6) | ((with_reducible refine gate_builtin (b := .append) (xs := #[.tmp 56, .tmp 62]) rfl ?_); go_loud (at_builtin; refine Kd.S_append k39 (w0 := w) w.heap.size rfl (.tmp 56) (.tmp 62) 30 39 (.agg #[(.int .i64 0), (.int .i64 0), (.int .i64 0), (.int .i64 0), (.int .i64 0), (.int .i64 0), (.slice none 0 0), (.slice none 0 0), (.int .i64 0)]) 104 rfl Try.underlying30 info39 rfl (by decide) (by omega) _ acc (⟨zc 0, 5⟩ : S39) [.int .i64 0, .int .i64 0, .int .i64 0, .int .i64 0, .int .i64 0, .int .i64 0, .slice none 0 0, .slice none 0 0, .int .i64 5] (fun _ => True) (fun _ => False) rfl ?aX ?aP (fun _ hk => hk.elim) (fun _ _ => trivial) ?aO HB6.out HB6.out.size ?aL ?_; (case aX => first | rfl | exact congrArg (fun n => Value.slice (some ⟨n, 0, none⟩) 1 1) (World.size_setCell _ _ _).symm); (case aP => exact k39_mkM _ _ _ (⟨zc 0, 5⟩ : S39) (Kd.R_nil _ _ _ _ _) (Kd.R_nil _ _ _ _ _)); (case aO => exact Kd.S_mono (HS6.out) (fun _ hk => ⟨trivial, fun q => q⟩)); (case aL => have h1_ := HLN.out; omega); intro v8 w8 ho hb hg hat; obtain ⟨A8, c8, e8⟩ := Kd.S_slice ho; subst e8; rw [show (acc ++ [(⟨zc 0, 5⟩ : S39)]).length = acc.length + 1 from by simp] at ho; have HS8 := Aside0.mk ho; have HB8 := Aside0.mk hb; skip; clear ho hb hg hat)))
     go_ret
     exact ⟨_, rfl, by rw [HF2.out]; exact HS8.out, HB8.out⟩
    ·have du : decide ((l2.length : Int) < u) = false := decide_eq_false hu
     have hu' : u ≤ (l2.length : Int) := by omega
     have hu0 : 0 ≤ u := HU.out.1
     by_cases hop : x < 1 ∨ 19 < x
     ·have HF2 : Aside0 ((acc ++ [⟨zc 0, 9⟩]) ++ decR k1 (l2.drop u.toNat) = decR (l0.length + 1) l0) := ⟨by rw [← HF.out]; simp only [decR]; rw [HR.out, if_pos rfl, if_neg hu, if_pos hop]; simp⟩
      clear hu
      have HLD : Aside0 ((l2.drop u.toNat).length ≤ l.length) := ⟨by have h1_ := HL2.out; simp only [List.length_drop]; omega⟩
      by_cases hlo : x < 1
      ·have d1 : decide (x < 1) = true := decide_eq_true hlo
       clear hlo hop
       go_wp2_with (first | (go_at_call 20; (refine (count_ok w.heap.size l _ HR.out w _ (Nat.le_refl _) HB2.out HR2.out).mono ?_); rintro en w5 ⟨rfl, q1, q2, q3⟩; have HR5 := Aside0.mk q1; have HS5 := Aside0.mk (S_call HS2.out HR2.out q2 (by decide)); have HB5 := Aside0.mk q3; obtain ⟨A5, c5, hb5, hc5, hC5, hy5⟩ := q1; have r5 : w5.cell? ⟨w.heap.size, 1, none⟩ = some (.int .i64 0) := (blk_cell hb5 1).trans rfl; have r50 : w5.cell? ⟨w.heap.size, 0, none⟩ = some (.slice A5 l2.length c5) := (blk_cell hb5 0).trans rfl; have z50 := blk_frozen hb5 0; obtain ⟨hrt, hCt, hlt5⟩ := print_take_of (P := Try.prog) (Value.int .u8) 0 25 5 .u64 (i := (Try.prog.info? 5).getD default) Try.underlying25 (by kernel_rfl) (by kernel_rfl) A5 c5 l2 u hu0 hu' hc5; obtain ⟨A5', hrd5, hCd, hld5⟩ := print_drop_of (P := Try.prog) (Value.int .u8) 0 25 5 .u64 (i := (Try.prog.info? 5).getD default) Try.underlying25 (by kernel_rfl) (by kernel_rfl) A5 c5 l2 u hu0 hu' hc5; obtain ⟨b5, hb5e⟩ : ∃ b5, b5 = l2.take u.toNat := ⟨_, rfl⟩; obtain ⟨t5, ht5e⟩ : ∃ t5, t5 = l2.drop u.toNat := ⟨_, rfl⟩; rw [← hb5e] at hrt hCt hlt5; rw [← ht5e] at hrd5 hCd hld5; have HT5 := Aside0.mk (And.intro hb5e ht5e); have HCt := Aside0.mk (Kd.C_of_reads (h1 := fun _ => rfl) (hCt w (Kd.reads_of_C (d := (0 : Int)) hC5))); have HCl := Aside0.mk hlt5; have HY5 : Aside0 ((∀ y ∈ b5, 0 ≤ y ∧ y ≤ 255) ∧ (∀ y ∈ t5, 0 ≤ y ∧ y ≤ 255)) := ⟨⟨fun y hy => hy5 y (by rw [hb5e] at hy; exact List.mem_of_mem_take hy), fun y hy => hy5 y (by rw [ht5e] at hy; exact List.mem_of_mem_drop hy)⟩⟩; have HR7 : Aside0 (Rd w (w5.setCell ⟨w.heap.size, 0, none⟩ (.slice A5' t5.length (c5 - u.toNat))) w.heap.size t5 0) := ⟨Rd.cut hb5 hld5 (Kd.C_of_reads (hCd w (Kd.reads_of_C (d := (0 : Int)) hC5))) HY5.out.2⟩; have HS7 := Aside0.mk (S_putr HS5.out HR5.out (by decide) 0 (.slice A5' t5.length (c5 - u.toNat))); have HB7 := Aside0.mk (below_set (j := 0) (v := .slice A5' t5.length (c5 - u.toNat)) HB5.out (Nat.le_refl _)); clear hCt hlt5 hCd hld5 hb5e ht5e; clear q2 q3 hb5 hc5 hC5 hy5) | ((with_reducible refine gate_builtin (b := .append) (xs := #[.tmp 85, .tmp 87]) rfl ?_); go_loud (at_builtin; refine Kd.S_append k39 (w0 := w) w.heap.size rfl (.tmp 85) (.tmp 87) 30 39 (.agg #[(.int .i64 0), (.int .i64 0), (.int .i64 0), (.int .i64 0), (.int .i64 0), (.int .i64 0), (.slice none 0 0), (.slice none 0 0), (.int .i64 0)]) 104 rfl Try.underlying30 info39 rfl (by decide) (by omega) _ acc (⟨zc 0, 9⟩ : S39) [.int .i64 0, .int .i64 0, .int .i64 0, .int .i64 0, .int .i64 0, .int .i64 0, .slice none 0 0, .slice none 0 0, .int .i64 9] (fun _ => True) (fun _ => False) rfl ?aX ?aP (fun _ hk => hk.elim) (fun _ _ => trivial) ?aO HB7.out HB7.out.size ?aL ?_; (case aX => first | rfl | exact congrArg (fun n => Value.slice (some ⟨n, 0, none⟩) 1 1) (World.size_setCell _ _ _).symm); (case aP => exact k39_mkM _ _ _ (⟨zc 0, 9⟩ : S39) (Kd.R_nil _ _ _ _ _) (Kd.R_nil _ _ _ _ _)); (case aO => exact Kd.S_mono (HS7.out) (fun _ hk => ⟨trivial, fun q => q⟩)); (case aL => have h1_ := HLN.out; omega); intro v8 w8 ho hb hg hat; obtain ⟨A8, c8, e8⟩ := Kd.S_slice ho; subst e8; rw [show (acc ++ [(⟨zc 0, 9⟩ : S39)]).length = acc.length + 1 from by simp] at ho; have HS8 := Aside0.mk ho; have HB8 := Aside0.mk hb; have HR8 := Aside0.mk (show Rd w w8 w.heap.size t5 0 from by obtain ⟨A_, c_, hb_⟩ := HR7.out.blk; exact HR7.out.move (hg.block w.heap.size (blk_lt hb_) (Kd.S_ne HS7.out hb_ (by decide)))); clear ho hb hg hat)))
       go_roundg k1
       case measure => omega
       case rel => exact ⟨t5, _, HR8, HB8, HS8, ⟨by rw [HT5.out.2]; exact HF2.out⟩, ⟨by have h1_ := HLD.out; have h2_ := HK.out; rw [HT5.out.2]; simp only [List.length_cons] at h2_; omega⟩, ⟨by have h1_ := HLD.out; have h2_ := HLN.out; rw [HT5.out.2]; simp only [List.length_cons, List.length_append, List.length_nil] at h2_ ⊢; omega⟩⟩
      ·have d1 : decide (x < 1) = false := decide_eq_false hlo
       have d2 : decide (19 < x) = true := decide_eq_true (by omega)
       clear hlo hop
       go_wp2_with (first | (go_at_call 20; (refine (count_ok w.heap.size l _ HR.out w _ (Nat.le_refl _) HB2.out HR2.out).mono ?_); rintro en w5 ⟨rfl, q1, q2, q3⟩; have HR5 := Aside0.mk q1; have HS5 := Aside0.mk (S_call HS2.out HR2.out q2 (by decide)); have HB5 := Aside0.mk q3; obtain ⟨A5, c5, hb5, hc5, hC5, hy5⟩ := q1; have r5 : w5.cell? ⟨w.heap.size, 1, none⟩ = some (.int .i64 0) := (blk_cell hb5 1).trans rfl; have r50 : w5.cell? ⟨w.heap.size, 0, none⟩ = some (.slice A5 l2.length c5) := (blk_cell hb5 0).trans rfl; have z50 := blk_frozen hb5 0; obtain ⟨hrt, hCt, hlt5⟩ := print_take_of (P := Try.prog) (Value.int .u8) 0 25 5 .u64 (i := (Try.prog.info? 5).getD default) Try.underlying25 (by kernel_rfl) (by kernel_rfl) A5 c5 l2 u hu0 hu' hc5; obtain ⟨A5', hrd5, hCd, hld5⟩ := print_drop_of (P := Try.prog) (Value.int .u8) 0 25 5 .u64 (i := (Try.prog.info? 5).getD default) Try.underlying25 (by kernel_rfl) (by kernel_rfl) A5 c5 l2 u hu0 hu' hc5; obtain ⟨b5, hb5e⟩ : ∃ b5, b5 = l2.take u.toNat := ⟨_, rfl⟩; obtain ⟨t5, ht5e⟩ : ∃ t5, t5 = l2.drop u.toNat := ⟨_, rfl⟩; rw [← hb5e] at hrt hCt hlt5; rw [← ht5e] at hrd5 hCd hld5; have HT5 := Aside0.mk (And.intro hb5e ht5e); have HCt := Aside0.mk (Kd.C_of_reads (h1 := fun _ => rfl) (hCt w (Kd.reads_of_C (d := (0 : Int)) hC5))); have HCl := Aside0.mk hlt5; have HY5 : Aside0 ((∀ y ∈ b5, 0 ≤ y ∧ y ≤ 255) ∧ (∀ y ∈ t5, 0 ≤ y ∧ y ≤ 255)) := ⟨⟨fun y hy => hy5 y (by rw [hb5e] at hy; exact List.mem_of_mem_take hy), fun y hy => hy5 y (by rw [ht5e] at hy; exact List.mem_of_mem_drop hy)⟩⟩; have HR7 : Aside0 (Rd w (w5.setCell ⟨w.heap.size, 0, none⟩ (.slice A5' t5.length (c5 - u.toNat))) w.heap.size t5 0) := ⟨Rd.cut hb5 hld5 (Kd.C_of_reads (hCd w (Kd.reads_of_C (d := (0 : Int)) hC5))) HY5.out.2⟩; have HS7 := Aside0.mk (S_putr HS5.out HR5.out (by decide) 0 (.slice A5' t5.length (c5 - u.toNat))); have HB7 := Aside0.mk (below_set (j := 0) (v := .slice A5' t5.length (c5 - u.toNat)) HB5.out (Nat.le_refl _)); clear hCt hlt5 hCd hld5 hb5e ht5e; clear q2 q3 hb5 hc5 hC5 hy5) | ((with_reducible refine gate_builtin (b := .append) (xs := #[.tmp 85, .tmp 87]) rfl ?_); go_loud (at_builtin; refine Kd.S_append k39 (w0 := w) w.heap.size rfl (.tmp 85) (.tmp 87) 30 39 (.agg #[(.int .i64 0), (.int .i64 0), (.int .i64 0), (.int .i64 0), (.int .i64 0), (.int .i64 0), (.slice none 0 0), (.slice none 0 0), (.int .i64 0)]) 104 rfl Try.underlying30 info39 rfl (by decide) (by omega) _ acc (⟨zc 0, 9⟩ : S39) [.int .i64 0, .int .i64 0, .int .i64 0, .int .i64 0, .int .i64 0, .int .i64 0, .slice none 0 0, .slice none 0 0, .int .i64 9] (fun _ => True) (fun _ => False) rfl ?aX ?aP (fun _ hk => hk.elim) (fun _ _ => trivial) ?aO HB7.out HB7.out.size ?aL ?_; (case aX => first | rfl | exact congrArg (fun n => Value.slice (some ⟨n, 0, none⟩) 1 1) (World.size_setCell _ _ _).symm); (case aP => exact k39_mkM _ _ _ (⟨zc 0, 9⟩ : S39) (Kd.R_nil _ _ _ _ _) (Kd.R_nil _ _ _ _ _)); (case aO => exact Kd.S_mono (HS7.out) (fun _ hk => ⟨trivial, fun q => q⟩)); (case aL => have h1_ := HLN.out; omega); intro v8 w8 ho hb hg hat; obtain ⟨A8, c8, e8⟩ := Kd.S_slice ho; subst e8; rw [show (acc ++ [(⟨zc 0, 9⟩ : S39)]).length = acc.length + 1 from by simp] at ho; have HS8 := Aside0.mk ho; have HB8 := Aside0.mk hb; have HR8 := Aside0.mk (show Rd w w8 w.heap.size t5 0 from by obtain ⟨A_, c_, hb_⟩ := HR7.out.blk; exact HR7.out.move (hg.block w.heap.size (blk_lt hb_) (Kd.S_ne HS7.out hb_ (by decide)))); clear ho hb hg hat)))
       go_roundg k1
       case measure => omega
       case rel => exact ⟨t5, _, HR8, HB8, HS8, ⟨by rw [HT5.out.2]; exact HF2.out⟩, ⟨by have h1_ := HLD.out; have h2_ := HK.out; rw [HT5.out.2]; simp only [List.length_cons] at h2_; omega⟩, ⟨by have h1_ := HLD.out; have h2_ := HLN.out; rw [HT5.out.2]; simp only [List.length_cons, List.length_append, List.length_nil] at h2_ ⊢; omega⟩⟩
     ·have HF2 : Aside0 ((acc ++ [⟨(cmdR x (l2.take u.toNat)).1, (cmdR x (l2.take u.toNat)).2⟩]) ++ decR k1 (l2.drop u.toNat) = decR (l0.length + 1) l0) := ⟨by rw [← HF.out]; simp only [decR]; rw [HR.out, if_pos rfl, if_neg hu, if_neg hop]; simp⟩
      clear hu
      have HLD : Aside0 ((l2.drop u.toNat).length ≤ l.length) := ⟨by have h1_ := HL2.out; simp only [List.length_drop]; omega⟩
      have HOP : Aside0 (1 ≤ x ∧ x ≤ 19) := ⟨by omega⟩
      have d1 : decide (x < 1) = false := decide_eq_false (by omega)
      have d2 : decide (19 < x) = false := decide_eq_false (by omega)
      clear hop
      go_wp2_with (first | (go_at_call 20; (refine (count_ok w.heap.size l _ HR.out w _ (Nat.le_refl _) HB2.out HR2.out).mono ?_); rintro en w5 ⟨rfl, q1, q2, q3⟩; have HR5 := Aside0.mk q1; have HS5 := Aside0.mk (S_call HS2.out HR2.out q2 (by decide)); have HB5 := Aside0.mk q3; obtain ⟨A5, c5, hb5, hc5, hC5, hy5⟩ := q1; have r5 : w5.cell? ⟨w.heap.size, 1, none⟩ = some (.int .i64 0) := (blk_cell hb5 1).trans rfl; have r50 : w5.cell? ⟨w.heap.size, 0, none⟩ = some (.slice A5 l2.length c5) := (blk_cell hb5 0).trans rfl; have z50 := blk_frozen hb5 0; obtain ⟨hrt, hCt, hlt5⟩ := print_take_of (P := Try.prog) (Value.int .u8) 0 25 5 .u64 (i := (Try.prog.info? 5).getD default) Try.underlying25 (by kernel_rfl) (by kernel_rfl) A5 c5 l2 u hu0 hu' hc5; obtain ⟨A5', hrd5, hCd, hld5⟩ := print_drop_of (P := Try.prog) (Value.int .u8) 0 25 5 .u64 (i := (Try.prog.info? 5).getD default) Try.underlying25 (by kernel_rfl) (by kernel_rfl) A5 c5 l2 u hu0 hu' hc5; obtain ⟨b5, hb5e⟩ : ∃ b5, b5 = l2.take u.toNat := ⟨_, rfl⟩; obtain ⟨t5, ht5e⟩ : ∃ t5, t5 = l2.drop u.toNat := ⟨_, rfl⟩; rw [← hb5e] at hrt hCt hlt5; rw [← ht5e] at hrd5 hCd hld5; have HT5 := Aside0.mk (And.intro hb5e ht5e); have HCt := Aside0.mk (Kd.C_of_reads (h1 := fun _ => rfl) (hCt w (Kd.reads_of_C (d := (0 : Int)) hC5))); have HCl := Aside0.mk hlt5; have HY5 : Aside0 ((∀ y ∈ b5, 0 ≤ y ∧ y ≤ 255) ∧ (∀ y ∈ t5, 0 ≤ y ∧ y ≤ 255)) := ⟨⟨fun y hy => hy5 y (by rw [hb5e] at hy; exact List.mem_of_mem_take hy), fun y hy => hy5 y (by rw [ht5e] at hy; exact List.mem_of_mem_drop hy)⟩⟩; have HR7 : Aside0 (Rd w (w5.setCell ⟨w.heap.size, 0, none⟩ (.slice A5' t5.length (c5 - u.toNat))) w.heap.size t5 0) := ⟨Rd.cut hb5 hld5 (Kd.C_of_reads (hCd w (Kd.reads_of_C (d := (0 : Int)) hC5))) HY5.out.2⟩; have HS7 := Aside0.mk (S_putr HS5.out HR5.out (by decide) 0 (.slice A5' t5.length (c5 - u.toNat))); have HB7 := Aside0.mk (below_set (j := 0) (v := .slice A5' t5.length (c5 - u.toNat)) HB5.out (Nat.le_refl _)); clear hCt hlt5 hCd hld5 hb5e ht5e; clear q2 q3 hb5 hc5 hC5 hy5) | (go_at_call 22; (refine (cmd_any x HOP.out A5 c5 b5 _ (Kd.C_below HCt.out HB7.out) HCl.out HY5.out.1).mono ?_); rintro en w9 ⟨v6, v7, rfl, g6, g7, gb⟩; obtain ⟨A6, c6, e6⟩ := Kd.R_slice g6; subst e6; obtain ⟨A7, c7, e7⟩ := Kd.R_slice g7; subst e7; have HR9 := Aside0.mk (HR7.out.below gb); have HSB := Aside0.mk (Kd.S_below (Kd.S_mono (Kd.S_bound HS7.out) (ok' := fun k => k < (w5.setCell ⟨w.heap.size, 0, none⟩ (.slice A5' t5.length (c5 - u.toNat))).heap.size) (fun _ hk => hk.2.2.1)) gb); have HB9 := Aside0.mk (below_step HB7.out gb); have HG6 := Aside0.mk (Kd.R_mono (Kd.R_bound g6) (ok' := fun k => (w5.setCell ⟨w.heap.size, 0, none⟩ (.slice A5' t5.length (c5 - u.toNat))).heap.size ≤ k) (fun _ hk => hk.2.1)); have HG7 := Aside0.mk (Kd.R_mono (Kd.R_bound g7) (ok' := fun k => (w5.setCell ⟨w.heap.size, 0, none⟩ (.slice A5' t5.length (c5 - u.toNat))).heap.size ≤ k) (fun _ hk => hk.2.1)); have HSL := Aside0.mk (Kd.S_lt HS7.out); clear g6 g7 gb) | ((with_reducible refine gate_builtin (b := .append) (xs := #[.tmp 89, .tmp 93]) rfl ?_); at_builtin; refine Kd.S_append k39 (w0 := w) w.heap.size rfl (.tmp 89) (.tmp 93) 30 39 (.agg #[(.int .i64 0), (.int .i64 0), (.int .i64 0), (.int .i64 0), (.int .i64 0), (.int .i64 0), (.slice none 0 0), (.slice none 0 0), (.int .i64 0)]) 104 rfl Try.underlying30 info39 rfl (by decide) (by omega) _ acc (⟨(cmdR x b5).1, (cmdR x b5).2⟩ : S39) [.int .i64 (cmdR x b5).1.f0, .int .i64 (cmdR x b5).1.f1, .int .i64 (cmdR x b5).1.f2, .int .i64 (cmdR x b5).1.f3, .int .i64 (cmdR x b5).1.f4, .int .i64 (cmdR x b5).1.f5, .slice A6 (cmdR x b5).1.f6.length c6, .slice A7 (cmdR x b5).1.f7.length c7, .int .i64 (cmdR x b5).2] (fun _ => True) (fun k => (w5.setCell ⟨w.heap.size, 0, none⟩ (.slice A5' t5.length (c5 - u.toNat))).heap.size ≤ k) rfl rfl ?aP ?aN (fun _ _ => trivial) ?aO HB9.out HB9.out.size ?aL ?_; (case aP => exact k39_mkM _ _ _ (⟨(cmdR x b5).1, (cmdR x b5).2⟩ : S39) (Kd.R_lower HG6.out HB7.out.size) (Kd.R_lower HG7.out HB7.out.size)); (case aN => exact fun k hk => ⟨trivial, fun q => Nat.not_lt.2 hk (HSL.out k q.symm)⟩); (case aO => exact Kd.S_mono HSB.out (fun k hk => ⟨trivial, fun q => Nat.not_lt.2 q hk⟩)); (case aL => have h1_ := HLN.out; omega); intro v8 w8 ho hb hg hat; obtain ⟨A8, c8, e8⟩ := Kd.S_slice ho; subst e8; rw [show (acc ++ [(⟨(cmdR x b5).1, (cmdR x b5).2⟩ : S39)]).length = acc.length + 1 from by simp] at ho; have HS8 := Aside0.mk ho; have HB8 := Aside0.mk hb; have HR8 := Aside0.mk (show Rd w w8 w.heap.size t5 0 from by obtain ⟨A_, c_, hb_⟩ := HR9.out.blk; exact HR9.out.move (hg.block w.heap.size (blk_lt hb_) (Kd.S_ne HSB.out hb_ (by decide)))); clear ho hb hg hat))
      go_roundg k1
      case measure => omega
      case rel => exact ⟨t5, _, HR8, HB8, HS8, ⟨by rw [HT5.out.2, HT5.out.1]; exact HF2.out⟩, ⟨by have h1_ := HLD.out; have h2_ := HK.out; rw [HT5.out.2]; simp only [List.length_cons] at h2_; omega⟩, ⟨by have h1_ := HLD.out; have h2_ := HLN.out; rw [HT5.out.2]; simp only [List.length_cons, List.length_append, List.length_nil] at h2_ ⊢; omega⟩⟩
   ·have HF2 : Aside0 (decR (l0.length + 1) l0 = acc ++ [⟨zc 0, e2⟩]) := ⟨by rw [← HF.out]; simp only [decR]; rw [HR.out, if_neg he]⟩
    have n0 : (e2 == 0) = false := by simpa using he
    have n1 : (e2 != 0) = true := by simpa using he
    clear he
    go_wp2_with (first | (go_at_call 20; (refine (count_ok w.heap.size l _ HR.out w _ (Nat.le_refl _) HB2.out HR2.out).mono ?_); rintro en w5 ⟨rfl, q1, q2, q3⟩; have HR5 := Aside0.mk q1; have HS5 := Aside0.mk (S_call HS2.out HR2.out q2 (by decide)); have HB5 := Aside0.mk q3; obtain ⟨A5, c5, hb5, hc5, hC5, hy5⟩ := q1; have r5 : w5.cell? ⟨w.heap.size, 1, none⟩ = some (.int .i64 e2) := (blk_cell hb5 1).trans rfl; have r50 : w5.cell? ⟨w.heap.size, 0, none⟩ = some (.slice A5 l2.length c5) := (blk_cell hb5 0).trans rfl; skip; clear q2 q3 hb5 hc5 hC5 hy5) | ((with_reducible refine gate_builtin (b := .append) (xs := #[.tmp 56, .tmp 62]) rfl ?_); go_loud (at_builtin; refine Kd.S_append k39 (w0 := w) w.heap.size rfl (.tmp 56) (.tmp 62) 30 39 (.agg #[(.int .i64 0), (.int .i64 0), (.int .i64 0), (.int .i64 0), (.int .i64 0), (.int .i64 0), (.slice none 0 0), (.slice none 0 0), (.int .i64 0)]) 104 rfl Try.underlying30 info39 rfl (by decide) (by omega) _ acc (⟨zc 0, e2⟩ : S39) [.int .i64 0, .int .i64 0, .int .i64 0, .int .i64 0, .int .i64 0, .int .i64 0, .slice none 0 0, .slice none 0 0, .int .i64 e2] (fun _ => True) (fun _ => False) rfl ?aX ?aP (fun _ hk => hk.elim) (fun _ _ => trivial) ?aO HB5.out HB5.out.size ?aL ?_; (case aX => first | rfl | exact congrArg (fun n => Value.slice (some ⟨n, 0, none⟩) 1 1) (World.size_setCell _ _ _).symm); (case aP => exact k39_mkM _ _ _ (⟨zc 0, e2⟩ : S39) (Kd.R_nil _ _ _ _ _) (Kd.R_nil _ _ _ _ _)); (case aO => exact Kd.S_mono (HS5.out) (fun _ hk => ⟨trivial, fun q => q⟩)); (case aL => have h1_ := HLN.out; omega); intro v8 w8 ho hb hg hat; obtain ⟨A8, c8, e8⟩ := Kd.S_slice ho; subst e8; rw [show (acc ++ [(⟨zc 0, e2⟩ : S39)]).length = acc.length + 1 from by simp] at ho; have HS8 := Aside0.mk ho; have HB8 := Aside0.mk hb; skip; clear ho hb hg hat)))
    go_ret
    exact ⟨_, rfl, by rw [HF2.out]; exact HS8.out, HB8.out⟩
theorem code_Decode.calls (A0 : Option Addr) (c0 : Nat) (l0 : List Int) (r : List S39) (w : World) (hr0 : Kd.C (Kd.int .u8) w A0 l0.length l0) (hc0 : l0.length ≤ c0) (h : code_Decode.f l0 = some r) :
  Calls Try.prog 10 #[.slice A0 l0.length c0] w fun e w' => ∃ v0_ : Value, e = .returned (v0_) ∧ Kd.S k39 39 w' w.heap.size (fun _ => True) v0_ r ∧ Below w.heap.size w w' := by
 unfold code_Decode.f at h
 split at h
 ·rename_i hg
  obtain rfl := Option.some.inj h
  exact dec_any A0 c0 l0 w hr0 hc0 ((bytesB_iff _).1 hg.2) hg.1
 ·exact absurd h (by simp)
end Go.Proofs.Ytpgjkndijdleeaa.PCode
end
section
namespace Go.Proofs.Ytpgjkndijdleeaa.PCode
open Go.RowKit Go.Proofs.YtpgjkndijdleeaaW.PrintWords Go.Proofs.YtpgjkndijdleeaaW.PrintLast Go.Proofs.YtpgjkndijdleeaaW.PrintMore
set_option linter.unusedVariables false
set_option linter.unusedSimpArgs false
theorem fo_nodup (op : Int) : (fo op).Nodup := by
 unfold fo
 repeat' (first | refine ite_p (P := fun l : List Nat => l.Nodup) ?_ ?_ | decide)
theorem S37.ext' {x y : S37} (h0 : x.f0 = y.f0) (h : ∀ o, 1 ≤ o ∧ o ≤ 5 → fld x o = fld y o) (h6 : x.f6 = y.f6) (h7 : x.f7 = y.f7) : x = y := by
 have e1 : x.f1 = y.f1 := h 1 (by omega)
 have e2 : x.f2 = y.f2 := h 2 (by omega)
 have e3 : x.f3 = y.f3 := h 3 (by omega)
 have e4 : x.f4 = y.f4 := h 4 (by omega)
 have e5 : x.f5 = y.f5 := h 5 (by omega)
 cases x
 cases y
 simp only at *
 subst h0 e1 e2 e3 e4 e5 h6 h7
 rfl
theorem fold_fld : ∀ (os : List Nat) (x x0 : S37), (∀ o ∈ os, 1 ≤ o ∧ o ≤ 5) → (∀ o', 1 ≤ o' ∧ o' ≤ 5 → fld (os.foldl (fun y o => setf y o (fld x o)) x0) o' = if o' ∈ os then fld x o' else fld x0 o') ∧ (os.foldl (fun y o => setf y o (fld x o)) x0).f0 = x0.f0 ∧ (os.foldl (fun y o => setf y o (fld x o)) x0).f6 = x0.f6 ∧ (os.foldl (fun y o => setf y o (fld x o)) x0).f7 = x0.f7
 | [], x, x0, _ => ⟨fun o' _ => by simp, rfl, rfl, rfl⟩
 | o :: os, x, x0, h => by
  simp only [List.foldl_cons]
  obtain ⟨h1, h2, h3, h4⟩ := fold_fld os x (setf x0 o (fld x o)) (fun o' h' => h o' (List.mem_cons_of_mem _ h'))
  refine ⟨fun o' ho' => ?_, h2.trans (setf_op _ _ _), h3.trans (setf_ls _ _ _).1, h4.trans (setf_ls _ _ _).2⟩
  rw [h1 o' ho', fld_setf _ _ _ _ (h o (by simp)) ho']
  by_cases e : o' = o
  ·subst e
   simp
  ·simp only [List.mem_cons, e, false_or, if_false]
/-- What a command's own fields are, one by one. -/
theorem own_iff {x : S37} (hop : 1 ≤ x.f0 ∧ x.f0 ≤ 19) : ownS x = x ↔ (∀ o, 1 ≤ o ∧ o ≤ 5 → o ∉ fo x.f0 → fld x o = 0) ∧ (fl x.f0 = false → x.f6 = []) ∧ (fv x.f0 = false → x.f7 = []) := by
 have e : ownS x = ⟨x.f0, if 1 ∈ fo x.f0 then x.f1 else 0, if 2 ∈ fo x.f0 then x.f2 else 0, if 3 ∈ fo x.f0 then x.f3 else 0, if 4 ∈ fo x.f0 then x.f4 else 0, if 5 ∈ fo x.f0 then x.f5 else 0, if fl x.f0 = true then x.f6 else [], if fv x.f0 = true then x.f7 else []⟩ := if_pos hop
 have ef : ∀ o, 1 ≤ o ∧ o ≤ 5 → fld (ownS x) o = if o ∈ fo x.f0 then fld x o else 0 := by
  intro o ho
  rw [e]
  have hk : o = 1 ∨ o = 2 ∨ o = 3 ∨ o = 4 ∨ o = 5 := by omega
  rcases hk with rfl | rfl | rfl | rfl | rfl <;> rfl
 constructor
 ·intro h
  refine ⟨fun o ho hn => ?_, fun hf => ?_, fun hf => ?_⟩
  ·have := ef o ho
   rw [h, if_neg hn] at this
   exact this
  ·have := congrArg S37.f6 (h.symm.trans e)
   simp only [hf] at this
   simpa using this
  ·have := congrArg S37.f7 (h.symm.trans e)
   simp only [hf] at this
   simpa using this
 ·rintro ⟨h1, h2, h3⟩
  refine S37.ext' (by rw [e]) (fun o ho => ?_) ?_ ?_
  ·rw [ef o ho]
   split
   ·rfl
   ·rename_i hn
    exact (h1 o ho hn).symm
  ·rw [e]
   simp only
   split
   ·rfl
   ·rename_i hf
    exact (h2 (by simpa using hf)).symm
  ·rw [e]
   simp only
   split
   ·rfl
   ·rename_i hf
    exact (h3 (by simpa using hf)).symm
theorem own_op {x : S37} (hop : 1 ≤ x.f0 ∧ x.f0 ≤ 19) : (ownS x).f0 = x.f0 := by
 have e : ownS x = ⟨x.f0, if 1 ∈ fo x.f0 then x.f1 else 0, if 2 ∈ fo x.f0 then x.f2 else 0, if 3 ∈ fo x.f0 then x.f3 else 0, if 4 ∈ fo x.f0 then x.f4 else 0, if 5 ∈ fo x.f0 then x.f5 else 0, if fl x.f0 = true then x.f6 else [], if fv x.f0 = true then x.f7 else []⟩ := if_pos hop
 rw [e]
theorem own_len (x : S37) : (ownS x).f6.length ≤ x.f6.length ∧ (ownS x).f7.length ≤ x.f7.length := by
 unfold ownS
 split
 ·refine ⟨?_, ?_⟩
  ·simp only
   split
   ·exact Nat.le_refl _
   ·simp
  ·simp only
   split
   ·exact Nat.le_refl _
   ·simp
 ·simp
/-- The numbers of a command are ints. -/
def intsC (x : S37) : Prop := (inI x.f1 ∧ inI x.f2 ∧ inI x.f3 ∧ inI x.f4 ∧ inI x.f5) ∧ (∀ n ∈ x.f6, inI n) ∧ (∀ v ∈ x.f7, ∀ n ∈ vnums v, inI n)
theorem inI_zero : inI 0 := by decide
theorem own_ints {x : S37} (h : intsC x) : intsC (ownS x) := by
 obtain ⟨⟨h1, h2, h3, h4, h5⟩, h6, h7⟩ := h
 unfold ownS
 split
 ·refine ⟨⟨?_, ?_, ?_, ?_, ?_⟩, ?_, ?_⟩
  all_goals simp only
  all_goals split
  all_goals first | assumption | exact inI_zero | simp
 ·exact ⟨⟨inI_zero, inI_zero, inI_zero, inI_zero, inI_zero⟩, by simp, by simp⟩
/-- A command that may be told: its own fields alone, ints, not too long. -/
def okC (x : S37) : Prop := (1 ≤ x.f0 ∧ x.f0 ≤ 19) ∧ ownS x = x ∧ intsC x ∧ x.f6.length ≤ 4096 ∧ x.f7.length ≤ 1024
theorem okC.good {x : S37} (h : okC x) : goodC x := ⟨h.1, h.2.2.1.1, ⟨by have := h.2.2.2.1; omega, h.2.2.1.2.1⟩, ⟨by have := h.2.2.2.2; omega, h.2.2.1.2.2⟩⟩
theorem fl_fv (op : Int) : fl op = true → fv op = false := by
 intro h
 unfold fl at h
 unfold fv
 have := of_decide_eq_true h
 exact decide_eq_false (by omega)
theorem rdF_B {x : S37} (h : okC x) (rest : List Int) : rdF x.f0 (numsB ((fo x.f0).map (fld x)) ++ rest) = ({ x with f6 := [], f7 := [] }, rest, 0) := by
 unfold rdF
 rw [rflds_B (fo x.f0) x (zc x.f0) rest (fld_in h.good)]
 obtain ⟨h1, h2, h3, h4⟩ := fold_fld (fo x.f0) x (zc x.f0) (fo_le x.f0).2
 have ho := (own_iff h.1).1 h.2.1
 congr 1
 refine S37.ext' h2 (fun o ho' => ?_) h3 h4
 rw [h1 o ho']
 have e : fld { x with f6 := [], f7 := [] } o = fld x o := rfl
 rw [e]
 split
 ·rfl
 ·rename_i hn
  rw [ho.1 o ho' hn]
  have hk : o = 1 ∨ o = 2 ∨ o = 3 ∨ o = 4 ∨ o = 5 := by omega
  rcases hk with rfl | rfl | rfl | rfl | rfl <;> rfl
theorem cmdR_B {x : S37} (h : okC x) : cmdR x.f0 (bodyB x) = (x, 0) := by
 have ho := (own_iff h.1).1 h.2.1
 have hr : rdA x.f0 (bodyB x) = (x, [], 0) := by
  unfold rdA bodyB
  cases hfl : fl x.f0 with
  | true =>
   have hfv := fl_fv _ hfl
   have h7 := ho.2.2 hfv
   simp only [hfv, if_true, Bool.false_eq_true, if_false, List.append_nil]
   rw [rdF_B h]
   unfold rdL
   simp only
   rw [rlist_B (by omega) (by have := h.2.2.2.1; omega) (by omega)]
   simp only [Int.toNat_natCast]
   have hm := rmany_B x.f6 [] [] h.2.2.1.2.1
   rw [List.append_nil] at hm
   rw [hm]
   simp only [List.nil_append]
   congr 1
   cases x
   simp only at h7
   rw [h7]
  | false =>
   have h6 := ho.2.1 hfl
   cases hfv : fv x.f0 with
   | true =>
    simp only [if_true, Bool.false_eq_true, if_false, List.append_nil]
    rw [rdF_B h]
    unfold rdV
    simp only
    rw [rlist_B (by omega) (by have := h.2.2.2.2; omega) (by omega)]
    simp only [Int.toNat_natCast]
    have hm := rverts_B x.f7 [] [] h.2.2.1.2.2
    rw [List.append_nil] at hm
    rw [hm]
    simp only [List.nil_append]
    congr 1
    cases x
    simp only at h6
    rw [h6]
   | false =>
    have h7 := ho.2.2 hfv
    simp only [Bool.false_eq_true, if_false]
    rw [List.append_assoc, rdF_B h]
    congr 1
    cases x
    simp only at h6 h7
    rw [h6, h7]
 unfold cmdR
 rw [hr]
 rfl
theorem itm_zero {x c : S37} {e : Int} (h : itm x e = (c, 0)) : e = 0 ∧ x = c := by
 unfold itm at h
 split at h
 ·rename_i he
  exact ⟨he, (Prod.mk.inj h).1⟩
 ·split at h
  ·simp at h
  ·rename_i he _
   exact absurd (Prod.mk.inj h).2 he
theorem itm_bad {x : S37} {e : Int} (h : (itm x e).2 ≠ 0) : (itm x e).1 = zc 0 := by
 unfold itm at *
 split
 ·rename_i he
  rw [if_pos he] at h
  exact absurd rfl h
 ·split <;> rfl
theorem fin_zero {l : List Int} {e : Int} (h : fin l e = 0) : e = 0 ∧ l = [] := by
 unfold fin at h
 split at h
 ·simp at h
 ·rename_i hn
  refine ⟨h, ?_⟩
  cases l with
  | nil => rfl
  | cons a l => exact absurd ⟨h, by simp⟩ hn
theorem cmdR_inv {op : Int} (hop : 1 ≤ op ∧ op ≤ 19) {b : List Int} (hb : ∀ x ∈ b, 0 ≤ x ∧ x ≤ 255) {c : S37} (h : cmdR op b = (c, 0)) : b = bodyB c ∧ c.f0 = op ∧ okC c := by
 unfold cmdR at h
 obtain ⟨he, hc⟩ := itm_zero h
 obtain ⟨he, hl⟩ := fin_zero he
 have hr : rdA op b = (c, [], 0) := Prod.ext hc (Prod.ext hl he)
 clear h he hc hl
 obtain ⟨x, l1, e1, hF⟩ : ∃ x l1 e1, rdF op b = (x, l1, e1) := ⟨_, _, _, rfl⟩
 have key : ∀ x l1, rdF op b = (x, l1, 0) → b = numsB ((fo op).map (fld x)) ++ l1 ∧ (∀ o ∈ fo op, inI (fld x o)) ∧ (∀ o, 1 ≤ o ∧ o ≤ 5 → o ∉ fo op → fld x o = 0) ∧ x.f0 = op ∧ x.f6 = [] ∧ x.f7 = [] ∧ (∀ x ∈ l1, 0 ≤ x ∧ x ≤ 255) := by
  intro x l1 hF
  obtain ⟨_, h1, h2, h3, h4, h5, h6, h7⟩ := rflds_inv (fo op) (zc op) x b l1 0 (fo_le op).2 (fo_nodup op) hb hF
  refine ⟨h1, h2, fun o ho hn => ?_, h4, h5, h6, h7⟩
  rw [h3 o ho hn]
  have hk : o = 1 ∨ o = 2 ∨ o = 3 ∨ o = 4 ∨ o = 5 := by omega
  rcases hk with rfl | rfl | rfl | rfl | rfl <;> rfl
 have ints : ∀ x : S37, (∀ o ∈ fo op, inI (fld x o)) → (∀ o, 1 ≤ o ∧ o ≤ 5 → o ∉ fo op → fld x o = 0) → inI x.f1 ∧ inI x.f2 ∧ inI x.f3 ∧ inI x.f4 ∧ inI x.f5 := by
  intro x h2 h3
  have : ∀ o, 1 ≤ o ∧ o ≤ 5 → inI (fld x o) := fun o ho => by
   by_cases hm : o ∈ fo op
   ·exact h2 o hm
   ·rw [h3 o ho hm]; exact inI_zero
  exact ⟨this 1 (by omega), this 2 (by omega), this 3 (by omega), this 4 (by omega), this 5 (by omega)⟩
 unfold rdA at hr
 cases hfl : fl op with
 | true =>
  have hfv := fl_fv _ hfl
  rw [hfl, if_pos rfl, hF] at hr
  unfold rdL at hr
  simp only at hr
  obtain ⟨n, l2, e2, hn⟩ : ∃ n l2 e2, rlist 4096 l1 e1 = (n, l2, e2) := ⟨_, _, _, rfl⟩
  rw [hn] at hr
  obtain ⟨xs, l3, e3, hm⟩ : ∃ xs l3 e3, rmany n.toNat [] l2 e2 = (xs, l3, e3) := ⟨_, _, _, rfl⟩
  simp only at hr
  rw [hm] at hr
  simp only [Prod.mk.injEq] at hr
  obtain ⟨hc, rfl, rfl⟩ := hr
  have he2 : e2 = 0 := by
   by_cases q : e2 = 0
   ·exact q
   ·have : rmany n.toNat [] l2 e2 = ([], l2, e2) := by
     cases n.toNat with
     | zero => rfl
     | succ m => simp only [rmany]; rw [if_neg q]
    rw [this] at hm
    exact absurd (Prod.mk.inj (Prod.mk.inj hm).2).2 q
  subst he2
  have he1 : e1 = 0 := by
   by_cases q : e1 = 0
   ·exact q
   ·unfold rlist at hn
    rw [if_neg q] at hn
    exact absurd (Prod.mk.inj (Prod.mk.inj hn).2).2 q
  subst he1
  obtain ⟨k1, k2, k3, k4, k5, k6, k7⟩ := key x l1 hF
  obtain ⟨_, hl1, hn0, hn1⟩ := rlist_inv k7 hn
  have hb2 : ∀ x ∈ l2, 0 ≤ x ∧ x ≤ 255 := fun y hy => k7 y (by rw [hl1]; exact List.mem_append_right _ hy)
  obtain ⟨_, ys, hy1, hy2, hy3, hy4, _⟩ := rmany_inv n.toNat [] xs l2 [] 0 hb2 hm
  rw [List.nil_append] at hy1
  subst hy1
  have hN : (xs.length : Int) = n := by omega
  have hfc : ∀ o, fld c o = fld x o := fun o => by rw [← hc]; rfl
  have hc0 : c.f0 = op := by rw [← hc]; exact k4
  have hc6 : c.f6 = xs := by rw [← hc]
  have hc7 : c.f7 = [] := by rw [← hc]; exact k6
  have hop' : 1 ≤ c.f0 ∧ c.f0 ≤ 19 := by rw [hc0]; exact hop
  refine ⟨?_, hc0, hop', ?_, ⟨ints c (fun o ho => by rw [hfc]; exact k2 o ho) (fun o ho hn => by rw [hfc]; exact k3 o ho hn), by rw [hc6]; exact hy4, by rw [hc7]; simp⟩, by rw [hc6]; omega, by rw [hc7]; simp⟩
  ·unfold bodyB
   rw [hc0, hfl, hfv, hc6, hN, k1, hl1, hy3]
   simp only [if_true, Bool.false_eq_true, if_false, List.append_nil]
   congr 2
   exact List.map_congr_left (fun o _ => (hfc o).symm)
  ·rw [own_iff hop']
   rw [hc0]
   exact ⟨fun o ho hn => by rw [hfc]; exact k3 o ho hn, fun q => (by rw [hfl] at q; exact absurd q (by decide)), fun _ => hc7⟩
 | false =>
  rw [hfl, if_neg (by decide)] at hr
  cases hfv : fv op with
  | true =>
   rw [hfv, if_pos rfl, hF] at hr
   unfold rdV at hr
   simp only at hr
   obtain ⟨n, l2, e2, hn⟩ : ∃ n l2 e2, rlist 1024 l1 e1 = (n, l2, e2) := ⟨_, _, _, rfl⟩
   rw [hn] at hr
   obtain ⟨xs, l3, e3, hm⟩ : ∃ xs l3 e3, rverts n.toNat [] l2 e2 = (xs, l3, e3) := ⟨_, _, _, rfl⟩
   simp only at hr
   rw [hm] at hr
   simp only [Prod.mk.injEq] at hr
   obtain ⟨hc, rfl, rfl⟩ := hr
   have he2 : e2 = 0 := by
    by_cases q : e2 = 0
    ·exact q
    ·have : rverts n.toNat [] l2 e2 = ([], l2, e2) := by
      cases n.toNat with
      | zero => rfl
      | succ m => simp only [rverts]; rw [if_neg q]
     rw [this] at hm
     exact absurd (Prod.mk.inj (Prod.mk.inj hm).2).2 q
   subst he2
   have he1 : e1 = 0 := by
    by_cases q : e1 = 0
    ·exact q
    ·unfold rlist at hn
     rw [if_neg q] at hn
     exact absurd (Prod.mk.inj (Prod.mk.inj hn).2).2 q
   subst he1
   obtain ⟨k1, k2, k3, k4, k5, k6, k7⟩ := key x l1 hF
   obtain ⟨_, hl1, hn0, hn1⟩ := rlist_inv k7 hn
   have hb2 : ∀ x ∈ l2, 0 ≤ x ∧ x ≤ 255 := fun y hy => k7 y (by rw [hl1]; exact List.mem_append_right _ hy)
   obtain ⟨_, ys, hy1, hy2, hy3, hy4, _⟩ := rverts_inv n.toNat [] xs l2 [] 0 hb2 hm
   rw [List.nil_append] at hy1
   subst hy1
   have hN : (xs.length : Int) = n := by omega
   have hfc : ∀ o, fld c o = fld x o := fun o => by rw [← hc]; rfl
   have hc0 : c.f0 = op := by rw [← hc]; exact k4
   have hc7 : c.f7 = xs := by rw [← hc]
   have hc6 : c.f6 = [] := by rw [← hc]; exact k5
   have hop' : 1 ≤ c.f0 ∧ c.f0 ≤ 19 := by rw [hc0]; exact hop
   refine ⟨?_, hc0, hop', ?_, ⟨ints c (fun o ho => by rw [hfc]; exact k2 o ho) (fun o ho hn => by rw [hfc]; exact k3 o ho hn), by rw [hc6]; simp, by rw [hc7]; exact hy4⟩, by rw [hc6]; simp, by rw [hc7]; omega⟩
   ·unfold bodyB
    rw [hc0, hfl, hfv, hc7, hN, k1, hl1, hy3]
    simp only [if_true, Bool.false_eq_true, if_false, List.append_nil]
    congr 2
    exact List.map_congr_left (fun o _ => (hfc o).symm)
   ·rw [own_iff hop']
    rw [hc0]
    exact ⟨fun o ho hn => by rw [hfc]; exact k3 o ho hn, fun _ => hc6, fun q => (by rw [hfv] at q; exact absurd q (by decide))⟩
  | false =>
   rw [hfv, if_neg (by decide), hF] at hr
   simp only [Prod.mk.injEq] at hr
   obtain ⟨rfl, rfl, rfl⟩ := hr
   obtain ⟨k1, k2, k3, k4, k5, k6, k7⟩ := key _ _ hF
   have hop' : 1 ≤ x.f0 ∧ x.f0 ≤ 19 := by rw [k4]; exact hop
   refine ⟨?_, k4, hop', ?_, ⟨ints x k2 k3, by rw [k5]; simp, by rw [k6]; simp⟩, by rw [k5]; simp, by rw [k6]; simp⟩
   ·unfold bodyB
    rw [k4, hfl, hfv, k1]
    simp
   ·rw [own_iff hop', k4]
    exact ⟨k3, fun _ => k5, fun _ => k6⟩
/-- A command's bytes. -/
def encC (x : S37) : List Int := x.f0 :: (cnB ((bodyB (ownS x)).length : Int) ++ bodyB (ownS x))
def encL (l : List S37) : List Int := l.flatMap encC
theorem bodyB_len {x : S37} (h6 : x.f6.length ≤ 5000) (h7 : x.f7.length ≤ 1100) : (bodyB x).length ≤ 200000 := by
 have h1 := numsB_len ((fo x.f0).map (fld x))
 have h2 := numsB_len x.f6
 have h3 := numsB_len (x.f7.flatMap vnums)
 have h4 := cn_len 10 (x.f6.length : Int)
 have h5 := cn_len 10 (x.f7.length : Int)
 have h8 := (fo_le x.f0).1
 have h9 := len_vnums x.f7
 simp only [List.length_map] at h1
 unfold bodyB cnB
 simp only [List.length_append]
 split <;> split <;> simp only [List.length_append, List.length_nil] <;> omega
theorem decR_bad : ∀ (k : Nat) (b : List Int), ∀ it ∈ decR k b, it.f1 ≠ 0 → it.f0 = zc 0
 | 0, b, it, h, _ => by simp [decR] at h
 | k + 1, [], it, h, _ => by simp [decR] at h
 | k + 1, x :: l, it, h, hn => by
  simp only [decR] at h
  split at h
  ·split at h
   ·rw [List.mem_singleton.1 h]
   ·rcases List.mem_cons.1 h with h | h
    ·rw [h] at hn ⊢
     split at hn
     ·rename_i hx
      rw [if_pos hx]
     ·rename_i hx
      rw [if_neg hx]
      exact itm_bad hn
    ·exact decR_bad k _ it h hn
  ·rw [List.mem_singleton.1 h]
theorem decR_len : ∀ (k : Nat) (b : List Int), (decR k b).length ≤ b.length
 | 0, b => by simp [decR]
 | k + 1, [] => by simp [decR]
 | k + 1, x :: l => by
  simp only [decR]
  have hl := (rcl_len 10 0 0 l).1
  split
  ·split
   ·simp
   ·simp only [List.length_cons]
    have := decR_len k ((rcl 10 0 0 l).2.1.drop (rcl 10 0 0 l).1.toNat)
    simp only [List.length_drop] at this
    omega
  ·simp
theorem decR_ok : ∀ (k : Nat) (b : List Int), (∀ x ∈ b, 0 ≤ x ∧ x ≤ 255) → ∀ it ∈ decR k b, it.f1 = 0 → okC it.f0
 | 0, b, _, it, h, _ => by simp [decR] at h
 | k + 1, [], _, it, h, _ => by simp [decR] at h
 | k + 1, x :: l, hb, it, h, hz => by
  have hb1 : ∀ y ∈ (rcl 10 0 0 l).2.1, 0 ≤ y ∧ y ≤ 255 := fun y hy => hb y (List.mem_cons_of_mem _ ((rcl_len 10 0 0 l).2 y hy))
  simp only [decR] at h
  split at h
  ·split at h
   ·rw [List.mem_singleton.1 h] at hz
    simp at hz
   ·rcases List.mem_cons.1 h with h | h
    ·rw [h] at hz ⊢
     split at hz
     ·simp at hz
     ·rename_i hx
      rw [if_neg hx]
      exact (cmdR_inv (op := x) (by omega) (fun y hy => hb1 y (List.mem_of_mem_take hy)) (Prod.ext rfl hz)).2.2
    ·exact decR_ok k _ (fun y hy => hb1 y (List.mem_of_mem_drop hy)) it h hz
  ·rename_i he
   rw [List.mem_singleton.1 h] at hz
   exact absurd hz he
end Go.Proofs.Ytpgjkndijdleeaa.PCode
end
section
namespace Go.Proofs.Ytpgjkndijdleeaa.PCode
open Go.RowKit Go.Proofs.YtpgjkndijdleeaaW.PrintWords Go.Proofs.YtpgjkndijdleeaaW.PrintLast Go.Proofs.YtpgjkndijdleeaaW.PrintMore
attribute [local go_sem] max2_int min2_int max_two min_two max_three min_three max_four min_four   -- for this text's walks alone
set_option linter.unusedVariables false
set_option linter.unusedSimpArgs false
mutual
def code_Encode.l0 : Nat → List Int → List (S37) → Int → Int → Option (List Int × Int)
 | 0, _, _, _, _ => none
 | k + 1, x4, x8, x9, x10 => if x10 < x9 then (if 0 ≤ x10 then (if x10 < (x8.length : Int) then ((cmd_Own.f ((rd_T37 x8 x10).f0) ((rd_T37 x8 x10).f1) ((rd_T37 x8 x10).f2) ((rd_T37 x8 x10).f3) ((rd_T37 x8 x10).f4) ((rd_T37 x8 x10).f5) ((rd_T37 x8 x10).f6) ((rd_T37 x8 x10).f7)).bind fun bt116 => (if bt116.1 = 0 then (some (([] : List Int), 9)) else (if (bt116.2.2.2.2.2.2.1.length : Int) > 4096 then (code_Encode.j1 k x4 x8 x9 x10 true bt116.1 bt116.2.1 bt116.2.2.1 bt116.2.2.2.1 bt116.2.2.2.2.1 bt116.2.2.2.2.2.1 bt116.2.2.2.2.2.2.1 bt116.2.2.2.2.2.2.2) else (code_Encode.j1 k x4 x8 x9 x10 (decide ((bt116.2.2.2.2.2.2.2.length : Int) > 1024)) bt116.1 bt116.2.1 bt116.2.2.1 bt116.2.2.2.1 bt116.2.2.2.2.1 bt116.2.2.2.2.2.1 bt116.2.2.2.2.2.2.1 bt116.2.2.2.2.2.2.2)))) else (none)) else (none)) else (some (x4, 0))
def code_Encode.j1 : Nat → List Int → List (S37) → Int → Int → Bool → Int → Int → Int → Int → Int → Int → List Int → List (S62) → Option (List Int × Int)
 | 0, _, _, _, _, _, _, _, _, _, _, _, _, _ => none
 | k + 1, x4, x8, x9, x10, x20, x116000, x116001, x116002, x116003, x116004, x116005, x116006, x116007 => if x20 = true then (some (([] : List Int), 4)) else ((code_body.f x116000 x116001 x116002 x116003 x116004 x116005 x116006 x116007).bind fun t128 => (if x4.length < 140737488355328 then ((code_count.f k (x4 ++ [(x116000) % 256]) (IntKind.u64.wrap ((t128.length : Int)))).bind fun t134 => (if t134.length + t128.length < 140737488355328 then (code_Encode.l0 k (t134 ++ t128) x8 x9 (wrap64 (x10 + 1))) else (none))) else (none)))
end
def code_Encode.f (k : Nat) (l0 : List (S37)) : Option (List Int × Int) := code_Encode.l0 k ([] : List Int) l0 (l0.length : Int) 0
set_option maxHeartbeats 8000000 in
set_option maxRecDepth 100000 in
theorem code_Encode.calls (k : Nat) (A0 : Option Addr) (c0 : Nat) (l0 : List (S37)) (r1 : List Int) (r2 : Int) (w : World) (hr0 : Kd.C k37 w A0 l0.length l0) (hc0 : l0.length ≤ c0) (h : code_Encode.f k l0 = some (r1, r2)) :
  Calls Try.prog 8 #[.slice A0 l0.length c0] w fun e w' => ∃ v0_ : Value, e = .returned (.tuple #[v0_, .int .i64 r2]) ∧ Kd.R (Kd.int .u8) 5 w' w.heap.size (fun _ => True) v0_ r1 ∧ Below w.heap.size w w' := by
 have hu37 := Try.underlying37
 have HR0 := Aside0.mk hr0
 have HC0 := Aside0.mk hc0
 clear hr0 hc0
 have HB := Aside0.mk (Below.refl w.heap.size w)
 have H : (code_Encode.l0 k ([] : List Int) l0 (l0.length : Int) 0) = some (r1, r2) := h
 clear h
 have H' := Aside0.mk H
 clear H
 go_enter Try.func8, Try.ntmps8
 go_wp2
 go_loopg [4, 10] k (fun kq v4 v10 w' => ∃ (x4_1 : List Int) (x10_1 : Int), v10 = .int .i64 x10_1 ∧ Aside0 (code_Encode.l0 kq x4_1 l0 (l0.length : Int) x10_1 = some (r1, r2)) ∧ Aside0 (kq ≤ k) ∧ Aside0 (Kd.R (Kd.int .u8) 5 w' w.heap.size (fun _ => True) v4 x4_1) ∧ Aside0 (Below w.heap.size w w'))
 case atStart => exact ⟨(([] : List Int)), (0), (by first | rfl | (simp; done) | (simp [*]; done)), H', ⟨Nat.le_refl _⟩, ⟨by first | exact Kd.R_nil _ _ _ _ _ | exact Kd.N_nil _ _ _ _ _ | exact Kd.V_nil _ _ _ _ _ | exact Kd.Q_nil _ _ _ _ _ | exact Kd.S_nil _ _ _ _ _⟩, ⟨by repeat (first | (with_reducible first | exact HB.out | apply below_alloc | apply pw_below_drewN | apply below_drew1) | exact HB.out)⟩⟩
 case round =>
  clear H'
  obtain ⟨x4_1, x10_1, rfl, HA, HK1, HO_4, HB⟩ := hrel
  cases gk with
  | zero => exact absurd HA.out (by simp [code_Encode.l0])
  | succ k1 =>
   have H := HA.out
   clear HA
   simp only [code_Encode.l0] at H
   by_cases c2 : x10_1 < (l0.length : Int)
   ·rw [if_pos c2] at H
    have c2b0 : decide (x10_1 < (l0.length : Int)) = true := decide_eq_true c2
    clear c2
    by_cases c3 : 0 ≤ x10_1
    ·rw [if_pos c3] at H
     have c3b0 : decide (0 ≤ x10_1) = true := decide_eq_true c3
     clear c3
     by_cases c4 : x10_1 < (l0.length : Int)
     ·rw [if_pos c4] at H
      have c4b0 : decide (x10_1 < (l0.length : Int)) = true := decide_eq_true c4
      clear c4
      replace H := Option.bind_eq_some_iff.mp H
      obtain ⟨⟨t116, t117, t118, t119, t120, t121, t122, t125⟩, A50, H⟩ := H
      replace H : (if t116 = 0 then (some (([] : List Int), 9)) else (if (t122.length : Int) > 4096 then (code_Encode.j1 k1 x4_1 l0 (l0.length : Int) x10_1 true t116 t117 t118 t119 t120 t121 t122 t125) else (code_Encode.j1 k1 x4_1 l0 (l0.length : Int) x10_1 (decide ((t125.length : Int) > 1024)) t116 t117 t118 t119 t120 t121 t122 t125))) = some (r1, r2) := H
      have A5 := Aside0.mk A50
      clear A50
      by_cases c6 : t116 = 0
      ·rw [if_pos c6] at H
       have c6b0 : (t116 == 0) = true := beq_iff_eq.mpr c6
       have c6b1 : (t116 != 0) = false := bne_eq_false_iff_eq.mpr c6
       clear c6
       simp only [Option.some.injEq, Prod.mk.injEq] at H
       obtain ⟨rfl, rfl⟩ := H
       have p114 : 0 ≤ (x10_1 : Int) := of_decide_eq_true (by first | (with_reducible assumption) | assumption)
       have q114 : x10_1 < (l0.length : Int) := of_decide_eq_true (by first | (with_reducible assumption) | assumption)
       obtain ⟨ad114, A114_6, c114_6, A114_7, c114_7, e114, hx114_0, hx114_1, hx114_2, hx114_3, hx114_4, hx114_5, hx114_6, hx114_7, hl114_6, hi114_6, hl114_7, hi114_7⟩ := at_T37 HR0.out x10_1 p114 q114
       cases e114
       replace hx114_0 := (HB.out.cell (World.block_lt_of_cell? w _ hx114_0)).trans hx114_0
       replace hx114_1 := (HB.out.cell (World.block_lt_of_cell? w _ hx114_1)).trans hx114_1
       replace hx114_2 := (HB.out.cell (World.block_lt_of_cell? w _ hx114_2)).trans hx114_2
       replace hx114_3 := (HB.out.cell (World.block_lt_of_cell? w _ hx114_3)).trans hx114_3
       replace hx114_4 := (HB.out.cell (World.block_lt_of_cell? w _ hx114_4)).trans hx114_4
       replace hx114_5 := (HB.out.cell (World.block_lt_of_cell? w _ hx114_5)).trans hx114_5
       replace hx114_6 := (HB.out.cell (World.block_lt_of_cell? w _ hx114_6)).trans hx114_6
       replace hx114_7 := (HB.out.cell (World.block_lt_of_cell? w _ hx114_7)).trans hx114_7
       have HR114_6 := Aside0.mk hi114_6
       have HC114_6 := Aside0.mk hl114_6
       clear hi114_6 hl114_6
       have HR114_7 := Aside0.mk hi114_7
       have HC114_7 := Aside0.mk hl114_7
       clear hi114_7 hl114_7
       replace p114 := eq_true p114
       replace q114 := eq_true q114
       go_wp2_with (first | ((with_reducible refine gate_dst (N := 6) rfl ?_); (try (refine gate_guard (by rfl) ?_; dsimp only)); refine box_event ?hg (N := 6) ?hd (cs := #[.int .i64 0, .int .i64 0, .int .i64 0, .int .i64 0, .int .i64 0, .int .i64 0, .slice none 0 0, .slice none 0 0]) (t := 37) ?hr ?_; (case hd => rfl); (case hg => rfl); (case hr => first | (go_simp; done) | (go_simp; rfl)); intro gb115 hg w7 hbox hb; have n0_ := Aside0.mk (Kd.R_below (by (with_reducible repeat (first | apply Kd.R_alloc | apply Kd.R_drewN | apply Kd.R_drew)); exact HO_4.out) hb); have n1_ := Aside0.mk (below_step (by repeat (first | (with_reducible first | exact HB.out | apply below_alloc | apply pw_below_drewN | apply below_drew1) | exact HB.out)) hb); have n2_ := Aside0.mk (hbox); have n3_ := Aside0.mk ((by rw [hg]; exact (below_size (by repeat (first | (with_reducible first | exact HB.out | apply below_alloc | apply pw_below_drewN | apply below_drew1) | exact HB.out))) : w.heap.size ≤ gb115)); have n4_ := Aside0.mk ((by rw [hg]; exact (below_size (by repeat (first | (with_reducible first | exact HB.out | apply below_alloc | apply pw_below_drewN | apply below_drew1) | exact HB.out))) : w.heap.size ≤ gb115)); clear HO_4; clear HB; have HO_4 := n0_; have HB := n1_; have BK115 := n2_; have GW115 := n3_; have GE115 := n4_; clear n0_ n1_ n2_ n3_ n4_; clear hb hbox hg; have hcz8_0 : w7.cell? ⟨gb115, 0, none⟩ = some (.int .i64 0) := (blk_cell BK115.out 0).trans rfl; have hcz8_1 : w7.cell? ⟨gb115, 1, none⟩ = some (.int .i64 0) := (blk_cell BK115.out 1).trans rfl; have hcz8_2 : w7.cell? ⟨gb115, 2, none⟩ = some (.int .i64 0) := (blk_cell BK115.out 2).trans rfl; have hcz8_3 : w7.cell? ⟨gb115, 3, none⟩ = some (.int .i64 0) := (blk_cell BK115.out 3).trans rfl; have hcz8_4 : w7.cell? ⟨gb115, 4, none⟩ = some (.int .i64 0) := (blk_cell BK115.out 4).trans rfl; have hcz8_5 : w7.cell? ⟨gb115, 5, none⟩ = some (.int .i64 0) := (blk_cell BK115.out 5).trans rfl; have hcz8_6 : w7.cell? ⟨gb115, 6, none⟩ = some (.slice none 0 0) := (blk_cell BK115.out 6).trans rfl; have hcz8_7 : w7.cell? ⟨gb115, 7, none⟩ = some (.slice none 0 0) := (blk_cell BK115.out 7).trans rfl; have hfz8_0 := blk_frozen BK115.out 0; have hfz8_1 := blk_frozen BK115.out 1; have hfz8_2 := blk_frozen BK115.out 2; have hfz8_3 := blk_frozen BK115.out 3; have hfz8_4 := blk_frozen BK115.out 4; have hfz8_5 := blk_frozen BK115.out 5; have hfz8_6 := blk_frozen BK115.out 6; have hfz8_7 := blk_frozen BK115.out 7) | ((with_reducible refine gate_callee (f := 17) rfl ?_); refine goesL_ (some 15) rfl rfl Try.func17 (by kernel_rfl) rfl #[.agg #[.int .i64 ((rd_T37 l0 x10_1).f0), .int .i64 ((rd_T37 l0 x10_1).f1), .int .i64 ((rd_T37 l0 x10_1).f2), .int .i64 ((rd_T37 l0 x10_1).f3), .int .i64 ((rd_T37 l0 x10_1).f4), .int .i64 ((rd_T37 l0 x10_1).f5), .slice A114_6 ((rd_T37 l0 x10_1).f6).length c114_6, .slice A114_7 ((rd_T37 l0 x10_1).f7).length c114_7]] rfl (by (try simp only [List.map_toArray, List.map_cons, List.map_nil]); first | done | rfl | (simp only [List.length_drop, List.length_take]; rfl)) ?_; (with_reducible refine (cmd_Own.calls ((rd_T37 l0 x10_1).f0) ((rd_T37 l0 x10_1).f1) ((rd_T37 l0 x10_1).f2) ((rd_T37 l0 x10_1).f3) ((rd_T37 l0 x10_1).f4) ((rd_T37 l0 x10_1).f5) _ _ ((rd_T37 l0 x10_1).f6) _ _ ((rd_T37 l0 x10_1).f7) t116 t117 t118 t119 t120 t121 t122 t125 _ ?side1 ?side2 ?side3 ?side4 A5.out).mono ?_); (case side1 => exact Kd.C_below HR114_6.out (by repeat (first | (with_reducible first | exact HB.out | apply below_alloc | apply pw_below_drewN | apply below_drew1 | refine below_set ?_ GE115.out) | exact HB.out))); (case side2 => exact HC114_6.out); (case side3 => exact Kd.C_below HR114_7.out (by repeat (first | (with_reducible first | exact HB.out | apply below_alloc | apply pw_below_drewN | apply below_drew1 | refine below_set ?_ GE115.out) | exact HB.out))); (case side4 => exact HC114_7.out); rintro e w9 ⟨v123, v126, rfl, ho0, ho1, hb⟩; refine ⟨_, rfl, ?_⟩; have n0_ := Aside0.mk (Kd.R_below (by (with_reducible repeat (first | apply Kd.R_alloc | apply Kd.R_drewN | apply Kd.R_drew)); exact (Kd.R_mono (Kd.R_far (p := ⟨gb115, 7, none⟩) (Kd.R_far (p := ⟨gb115, 6, none⟩) (Kd.R_far (p := ⟨gb115, 5, none⟩) (Kd.R_far (p := ⟨gb115, 4, none⟩) (Kd.R_far (p := ⟨gb115, 3, none⟩) (Kd.R_far (p := ⟨gb115, 2, none⟩) (Kd.R_far (p := ⟨gb115, 1, none⟩) (Kd.R_far (p := ⟨gb115, 0, none⟩) (Kd.R_types HO_4.out BK115.out (by decide)) (fun _ hk => hk.2) (.int .i64 ((rd_T37 l0 x10_1).f0))) (fun _ hk => hk.2) (.int .i64 ((rd_T37 l0 x10_1).f1))) (fun _ hk => hk.2) (.int .i64 ((rd_T37 l0 x10_1).f2))) (fun _ hk => hk.2) (.int .i64 ((rd_T37 l0 x10_1).f3))) (fun _ hk => hk.2) (.int .i64 ((rd_T37 l0 x10_1).f4))) (fun _ hk => hk.2) (.int .i64 ((rd_T37 l0 x10_1).f5))) (fun _ hk => hk.2) (.slice A114_6 ((rd_T37 l0 x10_1).f6).length c114_6)) (fun _ hk => hk.2) (.slice A114_7 ((rd_T37 l0 x10_1).f7).length c114_7)) (fun _ h_ => h_.1))) hb); have n1_ := Aside0.mk (Kd.R_lower ho0 (below_size (by repeat (first | (with_reducible first | exact HB.out | apply below_alloc | apply pw_below_drewN | apply below_drew1 | refine below_set ?_ GE115.out) | exact HB.out)))); have n2_ := Aside0.mk (Kd.R_lower ho1 (below_size (by repeat (first | (with_reducible first | exact HB.out | apply below_alloc | apply pw_below_drewN | apply below_drew1 | refine below_set ?_ GE115.out) | exact HB.out)))); have n3_ := Aside0.mk (blk_below (g := gb115) (o := .cells #[.int .i64 ((rd_T37 l0 x10_1).f0), .int .i64 ((rd_T37 l0 x10_1).f1), .int .i64 ((rd_T37 l0 x10_1).f2), .int .i64 ((rd_T37 l0 x10_1).f3), .int .i64 ((rd_T37 l0 x10_1).f4), .int .i64 ((rd_T37 l0 x10_1).f5), .slice A114_6 ((rd_T37 l0 x10_1).f6).length c114_6, .slice A114_7 ((rd_T37 l0 x10_1).f7).length c114_7] 37 (0, 0)) (by (with_reducible repeat (first | refine blk_drewN ?_ _ | refine blk_drew ?_ | refine blk_alloc ?_ _)); refine blk_put (cs := #[.int .i64 ((rd_T37 l0 x10_1).f0), .int .i64 ((rd_T37 l0 x10_1).f1), .int .i64 ((rd_T37 l0 x10_1).f2), .int .i64 ((rd_T37 l0 x10_1).f3), .int .i64 ((rd_T37 l0 x10_1).f4), .int .i64 ((rd_T37 l0 x10_1).f5), .slice A114_6 ((rd_T37 l0 x10_1).f6).length c114_6, .slice none 0 0]) ?_ 7 _ rfl; (with_reducible repeat (first | refine blk_drewN ?_ _ | refine blk_drew ?_ | refine blk_alloc ?_ _)); refine blk_put (cs := #[.int .i64 ((rd_T37 l0 x10_1).f0), .int .i64 ((rd_T37 l0 x10_1).f1), .int .i64 ((rd_T37 l0 x10_1).f2), .int .i64 ((rd_T37 l0 x10_1).f3), .int .i64 ((rd_T37 l0 x10_1).f4), .int .i64 ((rd_T37 l0 x10_1).f5), .slice none 0 0, .slice none 0 0]) ?_ 6 _ rfl; (with_reducible repeat (first | refine blk_drewN ?_ _ | refine blk_drew ?_ | refine blk_alloc ?_ _)); refine blk_put (cs := #[.int .i64 ((rd_T37 l0 x10_1).f0), .int .i64 ((rd_T37 l0 x10_1).f1), .int .i64 ((rd_T37 l0 x10_1).f2), .int .i64 ((rd_T37 l0 x10_1).f3), .int .i64 ((rd_T37 l0 x10_1).f4), .int .i64 0, .slice none 0 0, .slice none 0 0]) ?_ 5 _ rfl; (with_reducible repeat (first | refine blk_drewN ?_ _ | refine blk_drew ?_ | refine blk_alloc ?_ _)); refine blk_put (cs := #[.int .i64 ((rd_T37 l0 x10_1).f0), .int .i64 ((rd_T37 l0 x10_1).f1), .int .i64 ((rd_T37 l0 x10_1).f2), .int .i64 ((rd_T37 l0 x10_1).f3), .int .i64 0, .int .i64 0, .slice none 0 0, .slice none 0 0]) ?_ 4 _ rfl; (with_reducible repeat (first | refine blk_drewN ?_ _ | refine blk_drew ?_ | refine blk_alloc ?_ _)); refine blk_put (cs := #[.int .i64 ((rd_T37 l0 x10_1).f0), .int .i64 ((rd_T37 l0 x10_1).f1), .int .i64 ((rd_T37 l0 x10_1).f2), .int .i64 0, .int .i64 0, .int .i64 0, .slice none 0 0, .slice none 0 0]) ?_ 3 _ rfl; (with_reducible repeat (first | refine blk_drewN ?_ _ | refine blk_drew ?_ | refine blk_alloc ?_ _)); refine blk_put (cs := #[.int .i64 ((rd_T37 l0 x10_1).f0), .int .i64 ((rd_T37 l0 x10_1).f1), .int .i64 0, .int .i64 0, .int .i64 0, .int .i64 0, .slice none 0 0, .slice none 0 0]) ?_ 2 _ rfl; (with_reducible repeat (first | refine blk_drewN ?_ _ | refine blk_drew ?_ | refine blk_alloc ?_ _)); refine blk_put (cs := #[.int .i64 ((rd_T37 l0 x10_1).f0), .int .i64 0, .int .i64 0, .int .i64 0, .int .i64 0, .int .i64 0, .slice none 0 0, .slice none 0 0]) ?_ 1 _ rfl; (with_reducible repeat (first | refine blk_drewN ?_ _ | refine blk_drew ?_ | refine blk_alloc ?_ _)); refine blk_put (cs := #[.int .i64 0, .int .i64 0, .int .i64 0, .int .i64 0, .int .i64 0, .int .i64 0, .slice none 0 0, .slice none 0 0]) ?_ 0 _ rfl; (with_reducible repeat (first | refine blk_drewN ?_ _ | refine blk_drew ?_ | refine blk_alloc ?_ _)); exact BK115.out) hb); have n4_ := Aside0.mk (below_step (by repeat (first | (with_reducible first | exact HB.out | apply below_alloc | apply pw_below_drewN | apply below_drew1 | refine below_set ?_ GE115.out) | exact HB.out)) hb); clear HO_4; clear BK115; clear HB; have HO_4 := n0_; have HO124 := n1_; have HO127 := n2_; have BK115 := n3_; have HB := n4_; clear n0_ n1_ n2_ n3_ n4_; (try clear hb); (try clear hb2); (try clear hk); (try clear hi); (try clear ho0); (try clear ho1); have hcz10_0 : w9.cell? ⟨gb115, 0, none⟩ = some (.int .i64 ((rd_T37 l0 x10_1).f0)) := (blk_cell BK115.out 0).trans rfl; have hcz10_1 : w9.cell? ⟨gb115, 1, none⟩ = some (.int .i64 ((rd_T37 l0 x10_1).f1)) := (blk_cell BK115.out 1).trans rfl; have hcz10_2 : w9.cell? ⟨gb115, 2, none⟩ = some (.int .i64 ((rd_T37 l0 x10_1).f2)) := (blk_cell BK115.out 2).trans rfl; have hcz10_3 : w9.cell? ⟨gb115, 3, none⟩ = some (.int .i64 ((rd_T37 l0 x10_1).f3)) := (blk_cell BK115.out 3).trans rfl; have hcz10_4 : w9.cell? ⟨gb115, 4, none⟩ = some (.int .i64 ((rd_T37 l0 x10_1).f4)) := (blk_cell BK115.out 4).trans rfl; have hcz10_5 : w9.cell? ⟨gb115, 5, none⟩ = some (.int .i64 ((rd_T37 l0 x10_1).f5)) := (blk_cell BK115.out 5).trans rfl; have hcz10_6 : w9.cell? ⟨gb115, 6, none⟩ = some (.slice A114_6 ((rd_T37 l0 x10_1).f6).length c114_6) := (blk_cell BK115.out 6).trans rfl; have hcz10_7 : w9.cell? ⟨gb115, 7, none⟩ = some (.slice A114_7 ((rd_T37 l0 x10_1).f7).length c114_7) := (blk_cell BK115.out 7).trans rfl; have hfz10_0 := blk_frozen BK115.out 0; have hfz10_1 := blk_frozen BK115.out 1; have hfz10_2 := blk_frozen BK115.out 2; have hfz10_3 := blk_frozen BK115.out 3; have hfz10_4 := blk_frozen BK115.out 4; have hfz10_5 := blk_frozen BK115.out 5; have hfz10_6 := blk_frozen BK115.out 6; have hfz10_7 := blk_frozen BK115.out 7; obtain ⟨Ao11, co11, eo11⟩ := Kd.R_slice HO124.out; subst eo11; obtain ⟨Ao12, co12, eo12⟩ := Kd.R_slice HO127.out; subst eo12))
       go_ret2
       exact ⟨_, by first | rfl | (simp [errW_none, errW_some] <;> rfl) | (simp [*, errW_none, errW_some] <;> rfl), by first | exact Kd.R_nil _ _ _ _ _ | exact Kd.N_nil _ _ _ _ _ | exact Kd.V_nil _ _ _ _ _ | exact Kd.Q_nil _ _ _ _ _ | exact Kd.S_nil _ _ _ _ _, by repeat (first | (with_reducible first | exact HB.out | apply below_alloc | apply pw_below_drewN | apply below_drew1 | refine below_set ?_ GE115.out) | exact HB.out)⟩
      ·rw [if_neg c6] at H
       have c6b0 : (t116 == 0) = false := beq_eq_false_iff_ne.mpr c6
       have c6b1 : (t116 != 0) = true := bne_iff_ne.mpr c6
       have HC13 := Aside0.mk H
       clear H
       have p114 : 0 ≤ (x10_1 : Int) := of_decide_eq_true (by first | (with_reducible assumption) | assumption)
       have q114 : x10_1 < (l0.length : Int) := of_decide_eq_true (by first | (with_reducible assumption) | assumption)
       obtain ⟨ad114, A114_6, c114_6, A114_7, c114_7, e114, hx114_0, hx114_1, hx114_2, hx114_3, hx114_4, hx114_5, hx114_6, hx114_7, hl114_6, hi114_6, hl114_7, hi114_7⟩ := at_T37 HR0.out x10_1 p114 q114
       cases e114
       replace hx114_0 := (HB.out.cell (World.block_lt_of_cell? w _ hx114_0)).trans hx114_0
       replace hx114_1 := (HB.out.cell (World.block_lt_of_cell? w _ hx114_1)).trans hx114_1
       replace hx114_2 := (HB.out.cell (World.block_lt_of_cell? w _ hx114_2)).trans hx114_2
       replace hx114_3 := (HB.out.cell (World.block_lt_of_cell? w _ hx114_3)).trans hx114_3
       replace hx114_4 := (HB.out.cell (World.block_lt_of_cell? w _ hx114_4)).trans hx114_4
       replace hx114_5 := (HB.out.cell (World.block_lt_of_cell? w _ hx114_5)).trans hx114_5
       replace hx114_6 := (HB.out.cell (World.block_lt_of_cell? w _ hx114_6)).trans hx114_6
       replace hx114_7 := (HB.out.cell (World.block_lt_of_cell? w _ hx114_7)).trans hx114_7
       have HR114_6 := Aside0.mk hi114_6
       have HC114_6 := Aside0.mk hl114_6
       clear hi114_6 hl114_6
       have HR114_7 := Aside0.mk hi114_7
       have HC114_7 := Aside0.mk hl114_7
       clear hi114_7 hl114_7
       replace p114 := eq_true p114
       replace q114 := eq_true q114
       go_upto_region 8 with (first | ((with_reducible refine gate_dst (N := 6) rfl ?_); (try (refine gate_guard (by rfl) ?_; dsimp only)); refine box_event ?hg (N := 6) ?hd (cs := #[.int .i64 0, .int .i64 0, .int .i64 0, .int .i64 0, .int .i64 0, .int .i64 0, .slice none 0 0, .slice none 0 0]) (t := 37) ?hr ?_; (case hd => rfl); (case hg => rfl); (case hr => first | (go_simp; done) | (go_simp; rfl)); intro gb115 hg w14 hbox hb; have n0_ := Aside0.mk (Kd.R_below (by (with_reducible repeat (first | apply Kd.R_alloc | apply Kd.R_drewN | apply Kd.R_drew)); exact HO_4.out) hb); have n1_ := Aside0.mk (below_step (by repeat (first | (with_reducible first | exact HB.out | apply below_alloc | apply pw_below_drewN | apply below_drew1) | exact HB.out)) hb); have n2_ := Aside0.mk (hbox); have n3_ := Aside0.mk ((by rw [hg]; exact (below_size (by repeat (first | (with_reducible first | exact HB.out | apply below_alloc | apply pw_below_drewN | apply below_drew1) | exact HB.out))) : w.heap.size ≤ gb115)); have n4_ := Aside0.mk ((by rw [hg]; exact (below_size (by repeat (first | (with_reducible first | exact HB.out | apply below_alloc | apply pw_below_drewN | apply below_drew1) | exact HB.out))) : w.heap.size ≤ gb115)); clear HO_4; clear HB; have HO_4 := n0_; have HB := n1_; have BK115 := n2_; have GW115 := n3_; have GE115 := n4_; clear n0_ n1_ n2_ n3_ n4_; clear hb hbox hg; have hcz15_0 : w14.cell? ⟨gb115, 0, none⟩ = some (.int .i64 0) := (blk_cell BK115.out 0).trans rfl; have hcz15_1 : w14.cell? ⟨gb115, 1, none⟩ = some (.int .i64 0) := (blk_cell BK115.out 1).trans rfl; have hcz15_2 : w14.cell? ⟨gb115, 2, none⟩ = some (.int .i64 0) := (blk_cell BK115.out 2).trans rfl; have hcz15_3 : w14.cell? ⟨gb115, 3, none⟩ = some (.int .i64 0) := (blk_cell BK115.out 3).trans rfl; have hcz15_4 : w14.cell? ⟨gb115, 4, none⟩ = some (.int .i64 0) := (blk_cell BK115.out 4).trans rfl; have hcz15_5 : w14.cell? ⟨gb115, 5, none⟩ = some (.int .i64 0) := (blk_cell BK115.out 5).trans rfl; have hcz15_6 : w14.cell? ⟨gb115, 6, none⟩ = some (.slice none 0 0) := (blk_cell BK115.out 6).trans rfl; have hcz15_7 : w14.cell? ⟨gb115, 7, none⟩ = some (.slice none 0 0) := (blk_cell BK115.out 7).trans rfl; have hfz15_0 := blk_frozen BK115.out 0; have hfz15_1 := blk_frozen BK115.out 1; have hfz15_2 := blk_frozen BK115.out 2; have hfz15_3 := blk_frozen BK115.out 3; have hfz15_4 := blk_frozen BK115.out 4; have hfz15_5 := blk_frozen BK115.out 5; have hfz15_6 := blk_frozen BK115.out 6; have hfz15_7 := blk_frozen BK115.out 7) | ((with_reducible refine gate_callee (f := 17) rfl ?_); refine goesL_ (some 15) rfl rfl Try.func17 (by kernel_rfl) rfl #[.agg #[.int .i64 ((rd_T37 l0 x10_1).f0), .int .i64 ((rd_T37 l0 x10_1).f1), .int .i64 ((rd_T37 l0 x10_1).f2), .int .i64 ((rd_T37 l0 x10_1).f3), .int .i64 ((rd_T37 l0 x10_1).f4), .int .i64 ((rd_T37 l0 x10_1).f5), .slice A114_6 ((rd_T37 l0 x10_1).f6).length c114_6, .slice A114_7 ((rd_T37 l0 x10_1).f7).length c114_7]] rfl (by (try simp only [List.map_toArray, List.map_cons, List.map_nil]); first | done | rfl | (simp only [List.length_drop, List.length_take]; rfl)) ?_; (with_reducible refine (cmd_Own.calls ((rd_T37 l0 x10_1).f0) ((rd_T37 l0 x10_1).f1) ((rd_T37 l0 x10_1).f2) ((rd_T37 l0 x10_1).f3) ((rd_T37 l0 x10_1).f4) ((rd_T37 l0 x10_1).f5) _ _ ((rd_T37 l0 x10_1).f6) _ _ ((rd_T37 l0 x10_1).f7) t116 t117 t118 t119 t120 t121 t122 t125 _ ?side1 ?side2 ?side3 ?side4 A5.out).mono ?_); (case side1 => exact Kd.C_below HR114_6.out (by repeat (first | (with_reducible first | exact HB.out | apply below_alloc | apply pw_below_drewN | apply below_drew1 | refine below_set ?_ GE115.out) | exact HB.out))); (case side2 => exact HC114_6.out); (case side3 => exact Kd.C_below HR114_7.out (by repeat (first | (with_reducible first | exact HB.out | apply below_alloc | apply pw_below_drewN | apply below_drew1 | refine below_set ?_ GE115.out) | exact HB.out))); (case side4 => exact HC114_7.out); rintro e w16 ⟨v123, v126, rfl, ho0, ho1, hb⟩; refine ⟨_, rfl, ?_⟩; have n0_ := Aside0.mk (Kd.R_below (by (with_reducible repeat (first | apply Kd.R_alloc | apply Kd.R_drewN | apply Kd.R_drew)); exact (Kd.R_mono (Kd.R_far (p := ⟨gb115, 7, none⟩) (Kd.R_far (p := ⟨gb115, 6, none⟩) (Kd.R_far (p := ⟨gb115, 5, none⟩) (Kd.R_far (p := ⟨gb115, 4, none⟩) (Kd.R_far (p := ⟨gb115, 3, none⟩) (Kd.R_far (p := ⟨gb115, 2, none⟩) (Kd.R_far (p := ⟨gb115, 1, none⟩) (Kd.R_far (p := ⟨gb115, 0, none⟩) (Kd.R_types HO_4.out BK115.out (by decide)) (fun _ hk => hk.2) (.int .i64 ((rd_T37 l0 x10_1).f0))) (fun _ hk => hk.2) (.int .i64 ((rd_T37 l0 x10_1).f1))) (fun _ hk => hk.2) (.int .i64 ((rd_T37 l0 x10_1).f2))) (fun _ hk => hk.2) (.int .i64 ((rd_T37 l0 x10_1).f3))) (fun _ hk => hk.2) (.int .i64 ((rd_T37 l0 x10_1).f4))) (fun _ hk => hk.2) (.int .i64 ((rd_T37 l0 x10_1).f5))) (fun _ hk => hk.2) (.slice A114_6 ((rd_T37 l0 x10_1).f6).length c114_6)) (fun _ hk => hk.2) (.slice A114_7 ((rd_T37 l0 x10_1).f7).length c114_7)) (fun _ h_ => h_.1))) hb); have n1_ := Aside0.mk (Kd.R_lower ho0 (below_size (by repeat (first | (with_reducible first | exact HB.out | apply below_alloc | apply pw_below_drewN | apply below_drew1 | refine below_set ?_ GE115.out) | exact HB.out)))); have n2_ := Aside0.mk (Kd.R_lower ho1 (below_size (by repeat (first | (with_reducible first | exact HB.out | apply below_alloc | apply pw_below_drewN | apply below_drew1 | refine below_set ?_ GE115.out) | exact HB.out)))); have n3_ := Aside0.mk (blk_below (g := gb115) (o := .cells #[.int .i64 ((rd_T37 l0 x10_1).f0), .int .i64 ((rd_T37 l0 x10_1).f1), .int .i64 ((rd_T37 l0 x10_1).f2), .int .i64 ((rd_T37 l0 x10_1).f3), .int .i64 ((rd_T37 l0 x10_1).f4), .int .i64 ((rd_T37 l0 x10_1).f5), .slice A114_6 ((rd_T37 l0 x10_1).f6).length c114_6, .slice A114_7 ((rd_T37 l0 x10_1).f7).length c114_7] 37 (0, 0)) (by (with_reducible repeat (first | refine blk_drewN ?_ _ | refine blk_drew ?_ | refine blk_alloc ?_ _)); refine blk_put (cs := #[.int .i64 ((rd_T37 l0 x10_1).f0), .int .i64 ((rd_T37 l0 x10_1).f1), .int .i64 ((rd_T37 l0 x10_1).f2), .int .i64 ((rd_T37 l0 x10_1).f3), .int .i64 ((rd_T37 l0 x10_1).f4), .int .i64 ((rd_T37 l0 x10_1).f5), .slice A114_6 ((rd_T37 l0 x10_1).f6).length c114_6, .slice none 0 0]) ?_ 7 _ rfl; (with_reducible repeat (first | refine blk_drewN ?_ _ | refine blk_drew ?_ | refine blk_alloc ?_ _)); refine blk_put (cs := #[.int .i64 ((rd_T37 l0 x10_1).f0), .int .i64 ((rd_T37 l0 x10_1).f1), .int .i64 ((rd_T37 l0 x10_1).f2), .int .i64 ((rd_T37 l0 x10_1).f3), .int .i64 ((rd_T37 l0 x10_1).f4), .int .i64 ((rd_T37 l0 x10_1).f5), .slice none 0 0, .slice none 0 0]) ?_ 6 _ rfl; (with_reducible repeat (first | refine blk_drewN ?_ _ | refine blk_drew ?_ | refine blk_alloc ?_ _)); refine blk_put (cs := #[.int .i64 ((rd_T37 l0 x10_1).f0), .int .i64 ((rd_T37 l0 x10_1).f1), .int .i64 ((rd_T37 l0 x10_1).f2), .int .i64 ((rd_T37 l0 x10_1).f3), .int .i64 ((rd_T37 l0 x10_1).f4), .int .i64 0, .slice none 0 0, .slice none 0 0]) ?_ 5 _ rfl; (with_reducible repeat (first | refine blk_drewN ?_ _ | refine blk_drew ?_ | refine blk_alloc ?_ _)); refine blk_put (cs := #[.int .i64 ((rd_T37 l0 x10_1).f0), .int .i64 ((rd_T37 l0 x10_1).f1), .int .i64 ((rd_T37 l0 x10_1).f2), .int .i64 ((rd_T37 l0 x10_1).f3), .int .i64 0, .int .i64 0, .slice none 0 0, .slice none 0 0]) ?_ 4 _ rfl; (with_reducible repeat (first | refine blk_drewN ?_ _ | refine blk_drew ?_ | refine blk_alloc ?_ _)); refine blk_put (cs := #[.int .i64 ((rd_T37 l0 x10_1).f0), .int .i64 ((rd_T37 l0 x10_1).f1), .int .i64 ((rd_T37 l0 x10_1).f2), .int .i64 0, .int .i64 0, .int .i64 0, .slice none 0 0, .slice none 0 0]) ?_ 3 _ rfl; (with_reducible repeat (first | refine blk_drewN ?_ _ | refine blk_drew ?_ | refine blk_alloc ?_ _)); refine blk_put (cs := #[.int .i64 ((rd_T37 l0 x10_1).f0), .int .i64 ((rd_T37 l0 x10_1).f1), .int .i64 0, .int .i64 0, .int .i64 0, .int .i64 0, .slice none 0 0, .slice none 0 0]) ?_ 2 _ rfl; (with_reducible repeat (first | refine blk_drewN ?_ _ | refine blk_drew ?_ | refine blk_alloc ?_ _)); refine blk_put (cs := #[.int .i64 ((rd_T37 l0 x10_1).f0), .int .i64 0, .int .i64 0, .int .i64 0, .int .i64 0, .int .i64 0, .slice none 0 0, .slice none 0 0]) ?_ 1 _ rfl; (with_reducible repeat (first | refine blk_drewN ?_ _ | refine blk_drew ?_ | refine blk_alloc ?_ _)); refine blk_put (cs := #[.int .i64 0, .int .i64 0, .int .i64 0, .int .i64 0, .int .i64 0, .int .i64 0, .slice none 0 0, .slice none 0 0]) ?_ 0 _ rfl; (with_reducible repeat (first | refine blk_drewN ?_ _ | refine blk_drew ?_ | refine blk_alloc ?_ _)); exact BK115.out) hb); have n4_ := Aside0.mk (below_step (by repeat (first | (with_reducible first | exact HB.out | apply below_alloc | apply pw_below_drewN | apply below_drew1 | refine below_set ?_ GE115.out) | exact HB.out)) hb); clear HO_4; clear BK115; clear HB; have HO_4 := n0_; have HO124 := n1_; have HO127 := n2_; have BK115 := n3_; have HB := n4_; clear n0_ n1_ n2_ n3_ n4_; (try clear hb); (try clear hb2); (try clear hk); (try clear hi); (try clear ho0); (try clear ho1); have hcz17_0 : w16.cell? ⟨gb115, 0, none⟩ = some (.int .i64 ((rd_T37 l0 x10_1).f0)) := (blk_cell BK115.out 0).trans rfl; have hcz17_1 : w16.cell? ⟨gb115, 1, none⟩ = some (.int .i64 ((rd_T37 l0 x10_1).f1)) := (blk_cell BK115.out 1).trans rfl; have hcz17_2 : w16.cell? ⟨gb115, 2, none⟩ = some (.int .i64 ((rd_T37 l0 x10_1).f2)) := (blk_cell BK115.out 2).trans rfl; have hcz17_3 : w16.cell? ⟨gb115, 3, none⟩ = some (.int .i64 ((rd_T37 l0 x10_1).f3)) := (blk_cell BK115.out 3).trans rfl; have hcz17_4 : w16.cell? ⟨gb115, 4, none⟩ = some (.int .i64 ((rd_T37 l0 x10_1).f4)) := (blk_cell BK115.out 4).trans rfl; have hcz17_5 : w16.cell? ⟨gb115, 5, none⟩ = some (.int .i64 ((rd_T37 l0 x10_1).f5)) := (blk_cell BK115.out 5).trans rfl; have hcz17_6 : w16.cell? ⟨gb115, 6, none⟩ = some (.slice A114_6 ((rd_T37 l0 x10_1).f6).length c114_6) := (blk_cell BK115.out 6).trans rfl; have hcz17_7 : w16.cell? ⟨gb115, 7, none⟩ = some (.slice A114_7 ((rd_T37 l0 x10_1).f7).length c114_7) := (blk_cell BK115.out 7).trans rfl; have hfz17_0 := blk_frozen BK115.out 0; have hfz17_1 := blk_frozen BK115.out 1; have hfz17_2 := blk_frozen BK115.out 2; have hfz17_3 := blk_frozen BK115.out 3; have hfz17_4 := blk_frozen BK115.out 4; have hfz17_5 := blk_frozen BK115.out 5; have hfz17_6 := blk_frozen BK115.out 6; have hfz17_7 := blk_frozen BK115.out 7; obtain ⟨Ao18, co18, eo18⟩ := Kd.R_slice HO124.out; subst eo18; obtain ⟨Ao19, co19, eo19⟩ := Kd.R_slice HO127.out; subst eo19))
       (try simp only [Act.put, List.setIfInBounds_toArray, List.set_cons_zero, List.set_cons_succ])
       go_cut [20] (fun v20 wc => ∃ (kq : Nat) (x20_12 : Bool), v20 = .bool x20_12 ∧ Aside0 (code_Encode.j1 kq x4_1 l0 (l0.length : Int) x10_1 x20_12 t116 t117 t118 t119 t120 t121 t122 t125 = some (r1, r2)) ∧ Aside0 (kq ≤ k1) ∧ Aside0 (Kd.R (Kd.int .u8) 5 wc w.heap.size (fun _ => True) u4 x4_1) ∧ Aside0 (Kd.R (Kd.int .i64) 3 wc w.heap.size (fun _ => True) (.slice Ao18 t122.length co18) t122) ∧ Aside0 (Kd.R k62 62 wc w.heap.size (fun _ => True) (.slice Ao19 t125.length co19) t125) ∧ Aside0 (wc.heap[gb115]? = some (.cells #[.int .i64 t116, .int .i64 t117, .int .i64 t118, .int .i64 t119, .int .i64 t120, .int .i64 t121, (.slice Ao18 t122.length co18), (.slice Ao19 t125.length co19)] 37 (0, 0))) ∧ Aside0 (Below w.heap.size w wc))
       case first =>
        have H := HC13.out
        clear HC13
        by_cases c20 : (t122.length : Int) > 4096
        ·rw [if_pos c20] at H
         have c20b0 : decide (4096 < (t122.length : Int)) = true := decide_eq_true c20
         have c20b1 : decide (4096 < t122.length) = true := decide_eq_true (by omega)
         clear c20
         (first | rw [c20b0] | (simp only [i64_w, i32_w]; rw [c20b0]) | skip)
         have H' := Aside0.mk H
         clear H
         have hcz21_0 : w16.cell? ⟨gb115, 0, none⟩ = some (.int .i64 ((rd_T37 l0 x10_1).f0)) := (blk_cell BK115.out 0).trans rfl
         have hcz21_1 : w16.cell? ⟨gb115, 1, none⟩ = some (.int .i64 ((rd_T37 l0 x10_1).f1)) := (blk_cell BK115.out 1).trans rfl
         have hcz21_2 : w16.cell? ⟨gb115, 2, none⟩ = some (.int .i64 ((rd_T37 l0 x10_1).f2)) := (blk_cell BK115.out 2).trans rfl
         have hcz21_3 : w16.cell? ⟨gb115, 3, none⟩ = some (.int .i64 ((rd_T37 l0 x10_1).f3)) := (blk_cell BK115.out 3).trans rfl
         have hcz21_4 : w16.cell? ⟨gb115, 4, none⟩ = some (.int .i64 ((rd_T37 l0 x10_1).f4)) := (blk_cell BK115.out 4).trans rfl
         have hcz21_5 : w16.cell? ⟨gb115, 5, none⟩ = some (.int .i64 ((rd_T37 l0 x10_1).f5)) := (blk_cell BK115.out 5).trans rfl
         have hcz21_6 : w16.cell? ⟨gb115, 6, none⟩ = some (.slice A114_6 ((rd_T37 l0 x10_1).f6).length c114_6) := (blk_cell BK115.out 6).trans rfl
         have hcz21_7 : w16.cell? ⟨gb115, 7, none⟩ = some (.slice A114_7 ((rd_T37 l0 x10_1).f7).length c114_7) := (blk_cell BK115.out 7).trans rfl
         have hfz21_0 := blk_frozen BK115.out 0
         have hfz21_1 := blk_frozen BK115.out 1
         have hfz21_2 := blk_frozen BK115.out 2
         have hfz21_3 := blk_frozen BK115.out 3
         have hfz21_4 := blk_frozen BK115.out 4
         have hfz21_5 := blk_frozen BK115.out 5
         have hfz21_6 := blk_frozen BK115.out 6
         have hfz21_7 := blk_frozen BK115.out 7
         go_wp2
         go_meet
         case rel => exact ⟨_, (true), (by first | rfl | (simp; done) | (simp [*]; done)), H', ⟨by have := HK1.out; first | omega | exact Nat.le_refl _⟩, ⟨by (with_reducible repeat (first | apply Kd.R_alloc | apply Kd.R_drewN | apply Kd.R_drew)); exact Kd.R_mono (Kd.R_far (p := ⟨gb115, 7, none⟩) (Kd.R_far (p := ⟨gb115, 6, none⟩) (Kd.R_far (p := ⟨gb115, 5, none⟩) (Kd.R_far (p := ⟨gb115, 4, none⟩) (Kd.R_far (p := ⟨gb115, 3, none⟩) (Kd.R_far (p := ⟨gb115, 2, none⟩) (Kd.R_far (p := ⟨gb115, 1, none⟩) (Kd.R_far (p := ⟨gb115, 0, none⟩) (Kd.R_types HO_4.out BK115.out (by decide)) (fun _ hk => hk.2) (.int .i64 t116)) (fun _ hk => hk.2) (.int .i64 t117)) (fun _ hk => hk.2) (.int .i64 t118)) (fun _ hk => hk.2) (.int .i64 t119)) (fun _ hk => hk.2) (.int .i64 t120)) (fun _ hk => hk.2) (.int .i64 t121)) (fun _ hk => hk.2) (.slice Ao18 t122.length co18)) (fun _ hk => hk.2) (.slice Ao19 t125.length co19)) (fun _ hk => trivial)⟩, ⟨by (with_reducible repeat (first | apply Kd.R_alloc | apply Kd.R_drewN | apply Kd.R_drew)); exact Kd.R_mono (Kd.R_far (p := ⟨gb115, 7, none⟩) (Kd.R_far (p := ⟨gb115, 6, none⟩) (Kd.R_far (p := ⟨gb115, 5, none⟩) (Kd.R_far (p := ⟨gb115, 4, none⟩) (Kd.R_far (p := ⟨gb115, 3, none⟩) (Kd.R_far (p := ⟨gb115, 2, none⟩) (Kd.R_far (p := ⟨gb115, 1, none⟩) (Kd.R_far (p := ⟨gb115, 0, none⟩) (Kd.R_types HO124.out BK115.out (by decide)) (fun _ hk => hk.2) (.int .i64 t116)) (fun _ hk => hk.2) (.int .i64 t117)) (fun _ hk => hk.2) (.int .i64 t118)) (fun _ hk => hk.2) (.int .i64 t119)) (fun _ hk => hk.2) (.int .i64 t120)) (fun _ hk => hk.2) (.int .i64 t121)) (fun _ hk => hk.2) (.slice Ao18 t122.length co18)) (fun _ hk => hk.2) (.slice Ao19 t125.length co19)) (fun _ hk => trivial)⟩, ⟨by (with_reducible repeat (first | apply Kd.R_alloc | apply Kd.R_drewN | apply Kd.R_drew)); exact Kd.R_mono (Kd.R_far (p := ⟨gb115, 7, none⟩) (Kd.R_far (p := ⟨gb115, 6, none⟩) (Kd.R_far (p := ⟨gb115, 5, none⟩) (Kd.R_far (p := ⟨gb115, 4, none⟩) (Kd.R_far (p := ⟨gb115, 3, none⟩) (Kd.R_far (p := ⟨gb115, 2, none⟩) (Kd.R_far (p := ⟨gb115, 1, none⟩) (Kd.R_far (p := ⟨gb115, 0, none⟩) (Kd.R_types HO127.out BK115.out (by decide)) (fun _ hk => hk.2) (.int .i64 t116)) (fun _ hk => hk.2) (.int .i64 t117)) (fun _ hk => hk.2) (.int .i64 t118)) (fun _ hk => hk.2) (.int .i64 t119)) (fun _ hk => hk.2) (.int .i64 t120)) (fun _ hk => hk.2) (.int .i64 t121)) (fun _ hk => hk.2) (.slice Ao18 t122.length co18)) (fun _ hk => hk.2) (.slice Ao19 t125.length co19)) (fun _ hk => trivial)⟩, ⟨by (with_reducible repeat (first | refine blk_drewN ?_ _ | refine blk_drew ?_ | refine blk_alloc ?_ _)); refine blk_put (cs := #[.int .i64 t116, .int .i64 t117, .int .i64 t118, .int .i64 t119, .int .i64 t120, .int .i64 t121, .slice Ao18 t122.length co18, .slice A114_7 ((rd_T37 l0 x10_1).f7).length c114_7]) ?_ 7 _ rfl; (with_reducible repeat (first | refine blk_drewN ?_ _ | refine blk_drew ?_ | refine blk_alloc ?_ _)); refine blk_put (cs := #[.int .i64 t116, .int .i64 t117, .int .i64 t118, .int .i64 t119, .int .i64 t120, .int .i64 t121, .slice A114_6 ((rd_T37 l0 x10_1).f6).length c114_6, .slice A114_7 ((rd_T37 l0 x10_1).f7).length c114_7]) ?_ 6 _ rfl; (with_reducible repeat (first | refine blk_drewN ?_ _ | refine blk_drew ?_ | refine blk_alloc ?_ _)); refine blk_put (cs := #[.int .i64 t116, .int .i64 t117, .int .i64 t118, .int .i64 t119, .int .i64 t120, .int .i64 ((rd_T37 l0 x10_1).f5), .slice A114_6 ((rd_T37 l0 x10_1).f6).length c114_6, .slice A114_7 ((rd_T37 l0 x10_1).f7).length c114_7]) ?_ 5 _ rfl; (with_reducible repeat (first | refine blk_drewN ?_ _ | refine blk_drew ?_ | refine blk_alloc ?_ _)); refine blk_put (cs := #[.int .i64 t116, .int .i64 t117, .int .i64 t118, .int .i64 t119, .int .i64 ((rd_T37 l0 x10_1).f4), .int .i64 ((rd_T37 l0 x10_1).f5), .slice A114_6 ((rd_T37 l0 x10_1).f6).length c114_6, .slice A114_7 ((rd_T37 l0 x10_1).f7).length c114_7]) ?_ 4 _ rfl; (with_reducible repeat (first | refine blk_drewN ?_ _ | refine blk_drew ?_ | refine blk_alloc ?_ _)); refine blk_put (cs := #[.int .i64 t116, .int .i64 t117, .int .i64 t118, .int .i64 ((rd_T37 l0 x10_1).f3), .int .i64 ((rd_T37 l0 x10_1).f4), .int .i64 ((rd_T37 l0 x10_1).f5), .slice A114_6 ((rd_T37 l0 x10_1).f6).length c114_6, .slice A114_7 ((rd_T37 l0 x10_1).f7).length c114_7]) ?_ 3 _ rfl; (with_reducible repeat (first | refine blk_drewN ?_ _ | refine blk_drew ?_ | refine blk_alloc ?_ _)); refine blk_put (cs := #[.int .i64 t116, .int .i64 t117, .int .i64 ((rd_T37 l0 x10_1).f2), .int .i64 ((rd_T37 l0 x10_1).f3), .int .i64 ((rd_T37 l0 x10_1).f4), .int .i64 ((rd_T37 l0 x10_1).f5), .slice A114_6 ((rd_T37 l0 x10_1).f6).length c114_6, .slice A114_7 ((rd_T37 l0 x10_1).f7).length c114_7]) ?_ 2 _ rfl; (with_reducible repeat (first | refine blk_drewN ?_ _ | refine blk_drew ?_ | refine blk_alloc ?_ _)); refine blk_put (cs := #[.int .i64 t116, .int .i64 ((rd_T37 l0 x10_1).f1), .int .i64 ((rd_T37 l0 x10_1).f2), .int .i64 ((rd_T37 l0 x10_1).f3), .int .i64 ((rd_T37 l0 x10_1).f4), .int .i64 ((rd_T37 l0 x10_1).f5), .slice A114_6 ((rd_T37 l0 x10_1).f6).length c114_6, .slice A114_7 ((rd_T37 l0 x10_1).f7).length c114_7]) ?_ 1 _ rfl; (with_reducible repeat (first | refine blk_drewN ?_ _ | refine blk_drew ?_ | refine blk_alloc ?_ _)); refine blk_put (cs := #[.int .i64 ((rd_T37 l0 x10_1).f0), .int .i64 ((rd_T37 l0 x10_1).f1), .int .i64 ((rd_T37 l0 x10_1).f2), .int .i64 ((rd_T37 l0 x10_1).f3), .int .i64 ((rd_T37 l0 x10_1).f4), .int .i64 ((rd_T37 l0 x10_1).f5), .slice A114_6 ((rd_T37 l0 x10_1).f6).length c114_6, .slice A114_7 ((rd_T37 l0 x10_1).f7).length c114_7]) ?_ 0 _ rfl; (with_reducible repeat (first | refine blk_drewN ?_ _ | refine blk_drew ?_ | refine blk_alloc ?_ _)); exact BK115.out⟩, ⟨by repeat (first | (with_reducible first | exact HB.out | apply below_alloc | apply pw_below_drewN | apply below_drew1 | refine below_set ?_ GE115.out) | exact HB.out)⟩⟩
        ·rw [if_neg c20] at H
         have c20b0 : decide (4096 < (t122.length : Int)) = false := decide_eq_false c20
         have c20b1 : decide (4096 < t122.length) = false := decide_eq_false (by omega)
         clear c20
         (first | rw [c20b0] | (simp only [i64_w, i32_w]; rw [c20b0]) | skip)
         have H' := Aside0.mk H
         clear H
         have hcz22_0 : w16.cell? ⟨gb115, 0, none⟩ = some (.int .i64 ((rd_T37 l0 x10_1).f0)) := (blk_cell BK115.out 0).trans rfl
         have hcz22_1 : w16.cell? ⟨gb115, 1, none⟩ = some (.int .i64 ((rd_T37 l0 x10_1).f1)) := (blk_cell BK115.out 1).trans rfl
         have hcz22_2 : w16.cell? ⟨gb115, 2, none⟩ = some (.int .i64 ((rd_T37 l0 x10_1).f2)) := (blk_cell BK115.out 2).trans rfl
         have hcz22_3 : w16.cell? ⟨gb115, 3, none⟩ = some (.int .i64 ((rd_T37 l0 x10_1).f3)) := (blk_cell BK115.out 3).trans rfl
         have hcz22_4 : w16.cell? ⟨gb115, 4, none⟩ = some (.int .i64 ((rd_T37 l0 x10_1).f4)) := (blk_cell BK115.out 4).trans rfl
         have hcz22_5 : w16.cell? ⟨gb115, 5, none⟩ = some (.int .i64 ((rd_T37 l0 x10_1).f5)) := (blk_cell BK115.out 5).trans rfl
         have hcz22_6 : w16.cell? ⟨gb115, 6, none⟩ = some (.slice A114_6 ((rd_T37 l0 x10_1).f6).length c114_6) := (blk_cell BK115.out 6).trans rfl
         have hcz22_7 : w16.cell? ⟨gb115, 7, none⟩ = some (.slice A114_7 ((rd_T37 l0 x10_1).f7).length c114_7) := (blk_cell BK115.out 7).trans rfl
         have hfz22_0 := blk_frozen BK115.out 0
         have hfz22_1 := blk_frozen BK115.out 1
         have hfz22_2 := blk_frozen BK115.out 2
         have hfz22_3 := blk_frozen BK115.out 3
         have hfz22_4 := blk_frozen BK115.out 4
         have hfz22_5 := blk_frozen BK115.out 5
         have hfz22_6 := blk_frozen BK115.out 6
         have hfz22_7 := blk_frozen BK115.out 7
         go_wp2
         go_meet
         case rel => exact ⟨_, (decide ((t125.length : Int) > 1024)), (by first | rfl | (simp; done) | (simp [*]; done)), H', ⟨by have := HK1.out; first | omega | exact Nat.le_refl _⟩, ⟨by (with_reducible repeat (first | apply Kd.R_alloc | apply Kd.R_drewN | apply Kd.R_drew)); exact Kd.R_mono (Kd.R_far (p := ⟨gb115, 7, none⟩) (Kd.R_far (p := ⟨gb115, 6, none⟩) (Kd.R_far (p := ⟨gb115, 5, none⟩) (Kd.R_far (p := ⟨gb115, 4, none⟩) (Kd.R_far (p := ⟨gb115, 3, none⟩) (Kd.R_far (p := ⟨gb115, 2, none⟩) (Kd.R_far (p := ⟨gb115, 1, none⟩) (Kd.R_far (p := ⟨gb115, 0, none⟩) (Kd.R_types HO_4.out BK115.out (by decide)) (fun _ hk => hk.2) (.int .i64 t116)) (fun _ hk => hk.2) (.int .i64 t117)) (fun _ hk => hk.2) (.int .i64 t118)) (fun _ hk => hk.2) (.int .i64 t119)) (fun _ hk => hk.2) (.int .i64 t120)) (fun _ hk => hk.2) (.int .i64 t121)) (fun _ hk => hk.2) (.slice Ao18 t122.length co18)) (fun _ hk => hk.2) (.slice Ao19 t125.length co19)) (fun _ hk => trivial)⟩, ⟨by (with_reducible repeat (first | apply Kd.R_alloc | apply Kd.R_drewN | apply Kd.R_drew)); exact Kd.R_mono (Kd.R_far (p := ⟨gb115, 7, none⟩) (Kd.R_far (p := ⟨gb115, 6, none⟩) (Kd.R_far (p := ⟨gb115, 5, none⟩) (Kd.R_far (p := ⟨gb115, 4, none⟩) (Kd.R_far (p := ⟨gb115, 3, none⟩) (Kd.R_far (p := ⟨gb115, 2, none⟩) (Kd.R_far (p := ⟨gb115, 1, none⟩) (Kd.R_far (p := ⟨gb115, 0, none⟩) (Kd.R_types HO124.out BK115.out (by decide)) (fun _ hk => hk.2) (.int .i64 t116)) (fun _ hk => hk.2) (.int .i64 t117)) (fun _ hk => hk.2) (.int .i64 t118)) (fun _ hk => hk.2) (.int .i64 t119)) (fun _ hk => hk.2) (.int .i64 t120)) (fun _ hk => hk.2) (.int .i64 t121)) (fun _ hk => hk.2) (.slice Ao18 t122.length co18)) (fun _ hk => hk.2) (.slice Ao19 t125.length co19)) (fun _ hk => trivial)⟩, ⟨by (with_reducible repeat (first | apply Kd.R_alloc | apply Kd.R_drewN | apply Kd.R_drew)); exact Kd.R_mono (Kd.R_far (p := ⟨gb115, 7, none⟩) (Kd.R_far (p := ⟨gb115, 6, none⟩) (Kd.R_far (p := ⟨gb115, 5, none⟩) (Kd.R_far (p := ⟨gb115, 4, none⟩) (Kd.R_far (p := ⟨gb115, 3, none⟩) (Kd.R_far (p := ⟨gb115, 2, none⟩) (Kd.R_far (p := ⟨gb115, 1, none⟩) (Kd.R_far (p := ⟨gb115, 0, none⟩) (Kd.R_types HO127.out BK115.out (by decide)) (fun _ hk => hk.2) (.int .i64 t116)) (fun _ hk => hk.2) (.int .i64 t117)) (fun _ hk => hk.2) (.int .i64 t118)) (fun _ hk => hk.2) (.int .i64 t119)) (fun _ hk => hk.2) (.int .i64 t120)) (fun _ hk => hk.2) (.int .i64 t121)) (fun _ hk => hk.2) (.slice Ao18 t122.length co18)) (fun _ hk => hk.2) (.slice Ao19 t125.length co19)) (fun _ hk => trivial)⟩, ⟨by (with_reducible repeat (first | refine blk_drewN ?_ _ | refine blk_drew ?_ | refine blk_alloc ?_ _)); refine blk_put (cs := #[.int .i64 t116, .int .i64 t117, .int .i64 t118, .int .i64 t119, .int .i64 t120, .int .i64 t121, .slice Ao18 t122.length co18, .slice A114_7 ((rd_T37 l0 x10_1).f7).length c114_7]) ?_ 7 _ rfl; (with_reducible repeat (first | refine blk_drewN ?_ _ | refine blk_drew ?_ | refine blk_alloc ?_ _)); refine blk_put (cs := #[.int .i64 t116, .int .i64 t117, .int .i64 t118, .int .i64 t119, .int .i64 t120, .int .i64 t121, .slice A114_6 ((rd_T37 l0 x10_1).f6).length c114_6, .slice A114_7 ((rd_T37 l0 x10_1).f7).length c114_7]) ?_ 6 _ rfl; (with_reducible repeat (first | refine blk_drewN ?_ _ | refine blk_drew ?_ | refine blk_alloc ?_ _)); refine blk_put (cs := #[.int .i64 t116, .int .i64 t117, .int .i64 t118, .int .i64 t119, .int .i64 t120, .int .i64 ((rd_T37 l0 x10_1).f5), .slice A114_6 ((rd_T37 l0 x10_1).f6).length c114_6, .slice A114_7 ((rd_T37 l0 x10_1).f7).length c114_7]) ?_ 5 _ rfl; (with_reducible repeat (first | refine blk_drewN ?_ _ | refine blk_drew ?_ | refine blk_alloc ?_ _)); refine blk_put (cs := #[.int .i64 t116, .int .i64 t117, .int .i64 t118, .int .i64 t119, .int .i64 ((rd_T37 l0 x10_1).f4), .int .i64 ((rd_T37 l0 x10_1).f5), .slice A114_6 ((rd_T37 l0 x10_1).f6).length c114_6, .slice A114_7 ((rd_T37 l0 x10_1).f7).length c114_7]) ?_ 4 _ rfl; (with_reducible repeat (first | refine blk_drewN ?_ _ | refine blk_drew ?_ | refine blk_alloc ?_ _)); refine blk_put (cs := #[.int .i64 t116, .int .i64 t117, .int .i64 t118, .int .i64 ((rd_T37 l0 x10_1).f3), .int .i64 ((rd_T37 l0 x10_1).f4), .int .i64 ((rd_T37 l0 x10_1).f5), .slice A114_6 ((rd_T37 l0 x10_1).f6).length c114_6, .slice A114_7 ((rd_T37 l0 x10_1).f7).length c114_7]) ?_ 3 _ rfl; (with_reducible repeat (first | refine blk_drewN ?_ _ | refine blk_drew ?_ | refine blk_alloc ?_ _)); refine blk_put (cs := #[.int .i64 t116, .int .i64 t117, .int .i64 ((rd_T37 l0 x10_1).f2), .int .i64 ((rd_T37 l0 x10_1).f3), .int .i64 ((rd_T37 l0 x10_1).f4), .int .i64 ((rd_T37 l0 x10_1).f5), .slice A114_6 ((rd_T37 l0 x10_1).f6).length c114_6, .slice A114_7 ((rd_T37 l0 x10_1).f7).length c114_7]) ?_ 2 _ rfl; (with_reducible repeat (first | refine blk_drewN ?_ _ | refine blk_drew ?_ | refine blk_alloc ?_ _)); refine blk_put (cs := #[.int .i64 t116, .int .i64 ((rd_T37 l0 x10_1).f1), .int .i64 ((rd_T37 l0 x10_1).f2), .int .i64 ((rd_T37 l0 x10_1).f3), .int .i64 ((rd_T37 l0 x10_1).f4), .int .i64 ((rd_T37 l0 x10_1).f5), .slice A114_6 ((rd_T37 l0 x10_1).f6).length c114_6, .slice A114_7 ((rd_T37 l0 x10_1).f7).length c114_7]) ?_ 1 _ rfl; (with_reducible repeat (first | refine blk_drewN ?_ _ | refine blk_drew ?_ | refine blk_alloc ?_ _)); refine blk_put (cs := #[.int .i64 ((rd_T37 l0 x10_1).f0), .int .i64 ((rd_T37 l0 x10_1).f1), .int .i64 ((rd_T37 l0 x10_1).f2), .int .i64 ((rd_T37 l0 x10_1).f3), .int .i64 ((rd_T37 l0 x10_1).f4), .int .i64 ((rd_T37 l0 x10_1).f5), .slice A114_6 ((rd_T37 l0 x10_1).f6).length c114_6, .slice A114_7 ((rd_T37 l0 x10_1).f7).length c114_7]) ?_ 0 _ rfl; (with_reducible repeat (first | refine blk_drewN ?_ _ | refine blk_drew ?_ | refine blk_alloc ?_ _)); exact BK115.out⟩, ⟨by repeat (first | (with_reducible first | exact HB.out | apply below_alloc | apply pw_below_drewN | apply below_drew1 | refine below_set ?_ GE115.out) | exact HB.out)⟩⟩
       case rest =>
        clear HC13
        try clear c1
        try clear p1
        try clear q1
        try clear hx1
        try clear c2
        try clear c2b0
        try clear p2
        try clear c3
        try clear c3b0
        try clear c4
        try clear c4b0
        try clear c6
        try clear c6b0
        try clear c6b1
        try clear c8
        try clear c11
        try clear p11
        try clear q11
        try clear hx11
        try clear c17
        try clear c20
        try clear c20b0
        try clear c20b1
        try clear hcz10_0
        try clear hcz10_1
        try clear hcz10_2
        try clear hcz10_3
        try clear hcz10_4
        try clear hcz10_5
        try clear hcz10_6
        try clear hcz10_7
        try clear hcz15_0
        try clear hcz15_1
        try clear hcz15_2
        try clear hcz15_3
        try clear hcz15_4
        try clear hcz15_5
        try clear hcz15_6
        try clear hcz15_7
        try clear hcz17_0
        try clear hcz17_1
        try clear hcz17_2
        try clear hcz17_3
        try clear hcz17_4
        try clear hcz17_5
        try clear hcz17_6
        try clear hcz17_7
        try clear hcz21_0
        try clear hcz21_1
        try clear hcz21_2
        try clear hcz21_3
        try clear hcz21_4
        try clear hcz21_5
        try clear hcz21_6
        try clear hcz21_7
        try clear hcz22_0
        try clear hcz22_1
        try clear hcz22_2
        try clear hcz22_3
        try clear hcz22_4
        try clear hcz22_5
        try clear hcz22_6
        try clear hcz22_7
        try clear hcz8_0
        try clear hcz8_1
        try clear hcz8_2
        try clear hcz8_3
        try clear hcz8_4
        try clear hcz8_5
        try clear hcz8_6
        try clear hcz8_7
        try clear hfz10_0
        try clear hfz10_1
        try clear hfz10_2
        try clear hfz10_3
        try clear hfz10_4
        try clear hfz10_5
        try clear hfz10_6
        try clear hfz10_7
        try clear hfz15_0
        try clear hfz15_1
        try clear hfz15_2
        try clear hfz15_3
        try clear hfz15_4
        try clear hfz15_5
        try clear hfz15_6
        try clear hfz15_7
        try clear hfz17_0
        try clear hfz17_1
        try clear hfz17_2
        try clear hfz17_3
        try clear hfz17_4
        try clear hfz17_5
        try clear hfz17_6
        try clear hfz17_7
        try clear hfz21_0
        try clear hfz21_1
        try clear hfz21_2
        try clear hfz21_3
        try clear hfz21_4
        try clear hfz21_5
        try clear hfz21_6
        try clear hfz21_7
        try clear hfz22_0
        try clear hfz22_1
        try clear hfz22_2
        try clear hfz22_3
        try clear hfz22_4
        try clear hfz22_5
        try clear hfz22_6
        try clear hfz22_7
        try clear hfz8_0
        try clear hfz8_1
        try clear hfz8_2
        try clear hfz8_3
        try clear hfz8_4
        try clear hfz8_5
        try clear hfz8_6
        try clear hfz8_7
        try clear hx114_0
        try clear hx114_1
        try clear hx114_2
        try clear hx114_3
        try clear hx114_4
        try clear hx114_5
        try clear hx114_6
        try clear hx114_7
        try clear p114
        try clear q114
        obtain ⟨kq, x20_12, rfl, HA, HJ12, HO_4, HO_116006, HO_116007, BK115, HB⟩ := hcut
        cases kq with
        | zero => exact absurd HA.out (by simp [code_Encode.j1])
        | succ kj12 =>
         have H := HA.out
         clear HA
         simp only [code_Encode.j1] at H
         by_cases c23 : x20_12 = true
         ·subst c23
          have H1 : (some (([] : List Int), 4)) = some (r1, r2) := by rw [if_pos rfl] at H; exact H
          clear H
          have H := H1
          clear H1
          simp only [Option.some.injEq, Prod.mk.injEq] at H
          obtain ⟨rfl, rfl⟩ := H
          go_wp2
          go_ret2
          exact ⟨_, by first | rfl | (simp [errW_none, errW_some] <;> rfl) | (simp [*, errW_none, errW_some] <;> rfl), by first | exact Kd.R_nil _ _ _ _ _ | exact Kd.N_nil _ _ _ _ _ | exact Kd.V_nil _ _ _ _ _ | exact Kd.Q_nil _ _ _ _ _ | exact Kd.S_nil _ _ _ _ _, by repeat (first | (with_reducible first | exact HB.out | apply below_alloc | apply pw_below_drewN | apply below_drew1 | refine below_set ?_ GE115.out) | exact HB.out)⟩
         ·replace c23 := Bool.eq_false_iff.mpr c23
          subst c23
          have H1 : ((code_body.f t116 t117 t118 t119 t120 t121 t122 t125).bind fun t128 => (if x4_1.length < 140737488355328 then ((code_count.f kj12 (x4_1 ++ [(t116) % 256]) (IntKind.u64.wrap ((t128.length : Int)))).bind fun t134 => (if t134.length + t128.length < 140737488355328 then (code_Encode.l0 kj12 (t134 ++ t128) l0 (l0.length : Int) (wrap64 (x10_1 + 1))) else (none))) else (none))) = some (r1, r2) := by rw [if_neg (show ¬ (false = true) by decide)] at H; exact H
          clear H
          have H := H1
          clear H1
          replace H := Option.bind_eq_some_iff.mp H
          obtain ⟨t128, A240, H⟩ := H
          replace H : (if x4_1.length < 140737488355328 then ((code_count.f kj12 (x4_1 ++ [(t116) % 256]) (IntKind.u64.wrap ((t128.length : Int)))).bind fun t134 => (if t134.length + t128.length < 140737488355328 then (code_Encode.l0 kj12 (t134 ++ t128) l0 (l0.length : Int) (wrap64 (x10_1 + 1))) else (none))) else (none)) = some (r1, r2) := H
          have A24 := Aside0.mk A240
          clear A240
          by_cases c25 : x4_1.length < 140737488355328
          ·rw [if_pos c25] at H
           have LMc25 := Aside0.mk c25
           clear c25
           obtain ⟨y131, hy131⟩ : ∃ y_ : List Int, y_ = (x4_1 ++ [(t116) % 256]) := ⟨_, rfl⟩
           replace H : ((code_count.f kj12 y131 (IntKind.u64.wrap ((t128.length : Int)))).bind fun t134 => (if t134.length + t128.length < 140737488355328 then (code_Encode.l0 kj12 (t134 ++ t128) l0 (l0.length : Int) (wrap64 (x10_1 + 1))) else (none))) = some (r1, r2) := by first | (rw [hy131]; with_reducible exact H) | (have H2_ := (Option.bind_some _ _).symm.trans H; rw [hy131]; with_reducible exact H2_) | (have H2_ := (Option.bind_some _ _).symm.trans H; with_reducible exact H2_) | with_reducible exact H | (rw [hy131]; exact H) | exact H
           have Ny131 := Aside0.mk hy131
           clear hy131
           replace H := Option.bind_eq_some_iff.mp H
           obtain ⟨t134, A260, H⟩ := H
           replace H : (if t134.length + t128.length < 140737488355328 then (code_Encode.l0 kj12 (t134 ++ t128) l0 (l0.length : Int) (wrap64 (x10_1 + 1))) else (none)) = some (r1, r2) := H
           have A26 := Aside0.mk A260
           clear A260
           by_cases c27 : t134.length + t128.length < 140737488355328
           ·rw [if_pos c27] at H
            have LMc27 := Aside0.mk c27
            clear c27
            obtain ⟨y137, hy137⟩ : ∃ y_ : List Int, y_ = (t134 ++ t128) := ⟨_, rfl⟩
            replace H : (code_Encode.l0 kj12 y137 l0 (l0.length : Int) (wrap64 (x10_1 + 1))) = some (r1, r2) := by first | (rw [hy137]; with_reducible exact H) | (have H2_ := (Option.bind_some _ _).symm.trans H; rw [hy137]; with_reducible exact H2_) | (have H2_ := (Option.bind_some _ _).symm.trans H; with_reducible exact H2_) | with_reducible exact H | (rw [hy137]; exact H) | exact H
            have Ny137 := Aside0.mk hy137
            clear hy137
            have H' := Aside0.mk H
            clear H
            have hcz28_0 : wc.cell? ⟨gb115, 0, none⟩ = some (.int .i64 t116) := (blk_cell BK115.out 0).trans rfl
            have hcz28_1 : wc.cell? ⟨gb115, 1, none⟩ = some (.int .i64 t117) := (blk_cell BK115.out 1).trans rfl
            have hcz28_2 : wc.cell? ⟨gb115, 2, none⟩ = some (.int .i64 t118) := (blk_cell BK115.out 2).trans rfl
            have hcz28_3 : wc.cell? ⟨gb115, 3, none⟩ = some (.int .i64 t119) := (blk_cell BK115.out 3).trans rfl
            have hcz28_4 : wc.cell? ⟨gb115, 4, none⟩ = some (.int .i64 t120) := (blk_cell BK115.out 4).trans rfl
            have hcz28_5 : wc.cell? ⟨gb115, 5, none⟩ = some (.int .i64 t121) := (blk_cell BK115.out 5).trans rfl
            have hcz28_6 : wc.cell? ⟨gb115, 6, none⟩ = some (.slice Ao18 t122.length co18) := (blk_cell BK115.out 6).trans rfl
            have hcz28_7 : wc.cell? ⟨gb115, 7, none⟩ = some (.slice Ao19 t125.length co19) := (blk_cell BK115.out 7).trans rfl
            have hfz28_0 := blk_frozen BK115.out 0
            have hfz28_1 := blk_frozen BK115.out 1
            have hfz28_2 := blk_frozen BK115.out 2
            have hfz28_3 := blk_frozen BK115.out 3
            have hfz28_4 := blk_frozen BK115.out 4
            have hfz28_5 := blk_frozen BK115.out 5
            have hfz28_6 := blk_frozen BK115.out 6
            have hfz28_7 := blk_frozen BK115.out 7
            go_wp2_with (first | ((with_reducible refine gate_callee (f := 18) rfl ?_); refine goesL_ (some 32) rfl rfl Try.func18 (by kernel_rfl) rfl #[.agg #[.int .i64 t116, .int .i64 t117, .int .i64 t118, .int .i64 t119, .int .i64 t120, .int .i64 t121, .slice Ao18 t122.length co18, .slice Ao19 t125.length co19]] rfl (by (try simp only [List.map_toArray, List.map_cons, List.map_nil]); first | done | rfl | (simp only [List.length_drop, List.length_take]; rfl)) ?_; (with_reducible refine (code_body.calls t116 t117 t118 t119 t120 t121 _ _ t122 _ _ t125 t128 _ ?side1 ?side2 ?side3 ?side4 A24.out).mono ?_); (case side1 => repeat (first | exact (Kd.R_reads' HO_116006.out).2.2 | (with_reducible refine Kd.C_alloc ?_ _) | (with_reducible refine Kd.C_drewN ?_ _) | (with_reducible refine Kd.C_drew ?_))); (case side2 => exact (Kd.R_reads' HO_116006.out).2.1); (case side3 => repeat (first | exact (Kd.R_reads' HO_116007.out).2.2 | (with_reducible refine Kd.C_alloc ?_ _) | (with_reducible refine Kd.C_drewN ?_ _) | (with_reducible refine Kd.C_drew ?_))); (case side4 => exact (Kd.R_reads' HO_116007.out).2.1); rintro e w29 ⟨v129, rfl, ho0, hb⟩; refine ⟨_, rfl, ?_⟩; have n0_ := Aside0.mk (Kd.R_elder' (by (with_reducible repeat (first | apply Kd.R_alloc | apply Kd.R_drewN | apply Kd.R_drew)); exact HO_4.out) (Kd.R_base ho0) hb); have n1_ := Aside0.mk (Kd.R_below (by (with_reducible repeat (first | apply Kd.R_alloc | apply Kd.R_drewN | apply Kd.R_drew)); exact HO_116006.out) hb); have n2_ := Aside0.mk (Kd.R_below (by (with_reducible repeat (first | apply Kd.R_alloc | apply Kd.R_drewN | apply Kd.R_drew)); exact HO_116007.out) hb); have n3_ := Aside0.mk (Kd.R_lower (Kd.R_new' ho0 (Kd.R_lt (by (with_reducible repeat (first | apply Kd.R_alloc | apply Kd.R_drewN | apply Kd.R_drew)); exact HO_4.out))) (below_size (by repeat (first | (with_reducible first | exact HB.out | apply below_alloc | apply pw_below_drewN | apply below_drew1 | refine below_set ?_ GE115.out) | exact HB.out)))); have n4_ := Aside0.mk (blk_below (g := gb115) (o := .cells #[.int .i64 t116, .int .i64 t117, .int .i64 t118, .int .i64 t119, .int .i64 t120, .int .i64 t121, .slice Ao18 t122.length co18, .slice Ao19 t125.length co19] 37 (0, 0)) (by (with_reducible repeat (first | refine blk_drewN ?_ _ | refine blk_drew ?_ | refine blk_alloc ?_ _)); exact BK115.out) hb); have n5_ := Aside0.mk (below_step (by repeat (first | (with_reducible first | exact HB.out | apply below_alloc | apply pw_below_drewN | apply below_drew1 | refine below_set ?_ GE115.out) | exact HB.out)) hb); clear HO_4; clear HO_116006; clear HO_116007; clear BK115; clear HB; have HO_4 := n0_; have HO_116006 := n1_; have HO_116007 := n2_; have HO130 := n3_; have BK115 := n4_; have HB := n5_; clear n0_ n1_ n2_ n3_ n4_ n5_; (try clear hb); (try clear hb2); (try clear hk); (try clear hi); (try clear ho0); have hcz30_0 : w29.cell? ⟨gb115, 0, none⟩ = some (.int .i64 t116) := (blk_cell BK115.out 0).trans rfl; have hcz30_1 : w29.cell? ⟨gb115, 1, none⟩ = some (.int .i64 t117) := (blk_cell BK115.out 1).trans rfl; have hcz30_2 : w29.cell? ⟨gb115, 2, none⟩ = some (.int .i64 t118) := (blk_cell BK115.out 2).trans rfl; have hcz30_3 : w29.cell? ⟨gb115, 3, none⟩ = some (.int .i64 t119) := (blk_cell BK115.out 3).trans rfl; have hcz30_4 : w29.cell? ⟨gb115, 4, none⟩ = some (.int .i64 t120) := (blk_cell BK115.out 4).trans rfl; have hcz30_5 : w29.cell? ⟨gb115, 5, none⟩ = some (.int .i64 t121) := (blk_cell BK115.out 5).trans rfl; have hcz30_6 : w29.cell? ⟨gb115, 6, none⟩ = some (.slice Ao18 t122.length co18) := (blk_cell BK115.out 6).trans rfl; have hcz30_7 : w29.cell? ⟨gb115, 7, none⟩ = some (.slice Ao19 t125.length co19) := (blk_cell BK115.out 7).trans rfl; have hfz30_0 := blk_frozen BK115.out 0; have hfz30_1 := blk_frozen BK115.out 1; have hfz30_2 := blk_frozen BK115.out 2; have hfz30_3 := blk_frozen BK115.out 3; have hfz30_4 := blk_frozen BK115.out 4; have hfz30_5 := blk_frozen BK115.out 5; have hfz30_6 := blk_frozen BK115.out 6; have hfz30_7 := blk_frozen BK115.out 7) | ((with_reducible refine gate_builtin (b := .append) (xs := #[.tmp 33, .tmp 37]) rfl ?_); (try (refine gate_guard (by rfl) ?_; dsimp only)); at_builtin; refine Kd.R_append (Kd.int .u8) (w0 := w) w.heap.size rfl (.tmp 33) (.tmp 37) 25 5 (.int .u8 0) 1 rfl Try.underlying25 info5 rfl (by decide) (by omega) u4 x4_1 ((t116) % 256) [.int .u8 ((t116) % 256)] (fun k_ => some k_ ≠ (v129 : Value).ownBlock) (fun _ => False) rfl rfl ?aP (fun _ hk => hk.elim) ?aF ?aO ?aB ?aS ?aL ?_; (case aP => exact rfl); (case aB => exact (by repeat (first | (with_reducible first | exact HB.out | apply below_alloc | apply pw_below_drewN | apply below_drew1 | refine below_set ?_ GE115.out) | exact HB.out))); (case aF => exact (fun k_ hk => Kd.fresh' (Kd.R_lt (by (with_reducible repeat (first | apply Kd.R_alloc | apply Kd.R_drewN | apply Kd.R_drew)); exact HO130.out)) k_ hk)); (case aO => exact (by (with_reducible repeat (first | apply Kd.R_alloc | apply Kd.R_drewN | apply Kd.R_drew)); exact Kd.R_mono HO_4.out (fun _ hk => hk.2))); (case aS => exact (below_size (by repeat (first | (with_reducible first | exact HB.out | apply below_alloc | apply pw_below_drewN | apply below_drew1 | refine below_set ?_ GE115.out) | exact HB.out)))); (case aL => have := LMc25.out; omega); intro v132 w31 ho hb hg hat; rw [← Ny131.out] at ho; have n0_ := Aside0.mk (Kd.R_over' (by (with_reducible repeat (first | apply Kd.R_alloc | apply Kd.R_drewN | apply Kd.R_drew)); exact HO_116006.out) (Kd.R_typed (by (with_reducible repeat (first | apply Kd.R_alloc | apply Kd.R_drewN | apply Kd.R_drew)); exact HO_4.out)) (by decide) hg); have n1_ := Aside0.mk (Kd.R_over' (by (with_reducible repeat (first | apply Kd.R_alloc | apply Kd.R_drewN | apply Kd.R_drew)); exact HO_116007.out) (Kd.R_typed (by (with_reducible repeat (first | apply Kd.R_alloc | apply Kd.R_drewN | apply Kd.R_drew)); exact HO_4.out)) (by decide) hg); have n2_ := Aside0.mk (blk_grown (g := gb115) (o := .cells #[.int .i64 t116, .int .i64 t117, .int .i64 t118, .int .i64 t119, .int .i64 t120, .int .i64 t121, .slice Ao18 t122.length co18, .slice Ao19 t125.length co19] 37 (0, 0)) (by (with_reducible repeat (first | refine blk_drewN ?_ _ | refine blk_drew ?_ | refine blk_alloc ?_ _)); exact BK115.out) hg (Kd.R_ne HO_4.out BK115.out (by decide))); have n3_ := Aside0.mk (Kd.R_after (ok := (fun _ => True)) (by (with_reducible repeat (first | apply Kd.R_alloc | apply Kd.R_drewN | apply Kd.R_drew)); exact HO130.out) hg hat); have n4_ := Aside0.mk (hb); have n5_ := Aside0.mk (ho); clear HO_116006; clear HO_116007; clear BK115; clear HO130; clear HB; clear HO_4; have HO_116006 := n0_; have HO_116007 := n1_; have BK115 := n2_; have HO130 := n3_; have HB := n4_; have HO133 := n5_; clear n0_ n1_ n2_ n3_ n4_ n5_; clear ho hb hg hat; obtain ⟨Ao32, co32, eo32⟩ := Kd.R_slice HO130.out; subst eo32; obtain ⟨Ao33, co33, eo33⟩ := Kd.R_slice HO133.out; subst eo33) | ((with_reducible refine gate_callee (f := 19) rfl ?_); refine goesL_ (some 42) rfl rfl Try.func19 (by kernel_rfl) rfl #[.slice Ao33 y131.length co33, .int .u64 (IntKind.u64.wrap ((t128.length : Int)))] rfl (by (try simp only [List.map_toArray, List.map_cons, List.map_nil]); first | done | rfl | (simp only [List.length_drop, List.length_take]; rfl)) ?_; (with_reducible refine (code_count.calls kj12 (fun k_ => some k_ = (.slice Ao33 y131.length co33 : Value).ownBlock) (.slice Ao33 y131.length co33) y131 (IntKind.u64.wrap ((t128.length : Int))) t134 w _ ?side1 ?side2 A26.out).mono ?_); (case side1 => repeat (first | (with_reducible first | exact HB.out | apply below_alloc | apply pw_below_drewN | apply below_drew1 | refine below_set ?_ GE115.out) | exact HB.out)); (case side2 => exact Kd.R_tight rfl HO133.out); rintro e w34 ⟨v135, rfl, ho0, hb, hkp⟩; refine ⟨_, rfl, ?_⟩; have n0_ := Aside0.mk (Kd.R_mono (ok' := fun k_ => True) (Kd.R_keptB ((Kd.R_apart' HO_116006.out (Kd.R_typed HO133.out) (by decide))) hkp (fun k_ hk_ hs_ => (hk_.2) hs_)) (fun k_ hk_ => trivial)); have n1_ := Aside0.mk (Kd.R_mono (ok' := fun k_ => True) (Kd.R_keptB ((Kd.R_apart' HO_116007.out (Kd.R_typed HO133.out) (by decide))) hkp (fun k_ hk_ hs_ => (hk_.2) hs_)) (fun k_ hk_ => trivial)); have n2_ := Aside0.mk (blk_kept (by (with_reducible repeat (first | refine blk_drewN ?_ _ | refine blk_drew ?_ | refine blk_alloc ?_ _)); exact BK115.out) hkp (fun hs_ => (fun e_ => (Kd.R_ne HO133.out BK115.out (by decide)) e_) hs_)); have n3_ := Aside0.mk (Kd.R_mono (ok' := fun k_ => some k_ ≠ (v135 : Value).ownBlock) (Kd.R_keptB (HO130.out) hkp (fun k_ hk_ hs_ => (hk_.2) hs_)) (fun k_ hk_ => fun e_ => Or.elim (ho0.1 k_ e_.symm) (fun hs_ => hk_.2.1 hs_) (fun hn_ => Nat.not_le.2 hk_.2.2 hn_))); have n4_ := Aside0.mk (Kd.R_mono (ok' := fun k_ => some k_ ≠ (.slice Ao32 t128.length co32 : Value).ownBlock) ho0 (fun k_ hk_ => Or.elim hk_ (fun hs_ => fun e_ => (((HO130.out).1 k_ e_.symm).2) hs_) (fun hn_ => (Kd.fresh' (Kd.R_lt (by (with_reducible repeat (first | apply Kd.R_alloc | apply Kd.R_drewN | apply Kd.R_drew)); exact HO130.out)) k_ hn_)))); have n5_ := Aside0.mk (hb); clear HO_116006; clear HO_116007; clear BK115; clear HO130; clear HB; clear HO133; have HO_116006 := n0_; have HO_116007 := n1_; have BK115 := n2_; have HO130 := n3_; have HO136 := n4_; have HB := n5_; clear n0_ n1_ n2_ n3_ n4_ n5_; (try clear hb); (try clear hkp); (try clear ho0)) | ((with_reducible refine gate_builtin (b := .append) (xs := #[.tmp 42, .tmp 43]) rfl ?_); (try (refine gate_guard (by rfl) ?_; dsimp only)); at_builtin; refine Kd.R_append_rows (Kd.int .u8) (w0 := w) w.heap.size rfl (.tmp 42) (.tmp 43) 25 5 (.int .u8 0) 1 rfl Try.underlying25 info5 rfl (by decide) (by omega) v135 t134 t128 _ _ _ (fun k_ => some k_ ≠ (.slice Ao32 t128.length co32 : Value).ownBlock) (fun _ => False) rfl rfl ?aO ?aR (fun _ _ h => h) (fun _ h => h.elim) ?aF ?aB ?aS ?aL ?_; (case aR => repeat (first | exact (Kd.R_reads' HO130.out).2.2 | (with_reducible refine Kd.C_alloc ?_ _) | (with_reducible refine Kd.C_drewN ?_ _) | (with_reducible refine Kd.C_drew ?_))); (case aB => exact (by repeat (first | (with_reducible first | exact HB.out | apply below_alloc | apply pw_below_drewN | apply below_drew1 | refine below_set ?_ GE115.out) | exact HB.out))); (case aF => exact (fun k_ hk => Kd.fresh' (Kd.R_lt (by (with_reducible repeat (first | apply Kd.R_alloc | apply Kd.R_drewN | apply Kd.R_drew)); exact HO130.out)) k_ hk)); (case aO => exact (by (with_reducible repeat (first | apply Kd.R_alloc | apply Kd.R_drewN | apply Kd.R_drew)); exact HO136.out)); (case aS => exact (below_size (by repeat (first | (with_reducible first | exact HB.out | apply below_alloc | apply pw_below_drewN | apply below_drew1 | refine below_set ?_ GE115.out) | exact HB.out)))); (case aL => have := LMc27.out; omega); intro v138 w35 ho hb hg hat; rw [← Ny137.out] at ho; have n0_ := Aside0.mk (Kd.R_over' (by (with_reducible repeat (first | apply Kd.R_alloc | apply Kd.R_drewN | apply Kd.R_drew)); exact HO_116006.out) (Kd.R_typed (by (with_reducible repeat (first | apply Kd.R_alloc | apply Kd.R_drewN | apply Kd.R_drew)); exact HO136.out)) (by decide) hg); have n1_ := Aside0.mk (Kd.R_over' (by (with_reducible repeat (first | apply Kd.R_alloc | apply Kd.R_drewN | apply Kd.R_drew)); exact HO_116007.out) (Kd.R_typed (by (with_reducible repeat (first | apply Kd.R_alloc | apply Kd.R_drewN | apply Kd.R_drew)); exact HO136.out)) (by decide) hg); have n2_ := Aside0.mk (blk_grown (g := gb115) (o := .cells #[.int .i64 t116, .int .i64 t117, .int .i64 t118, .int .i64 t119, .int .i64 t120, .int .i64 t121, .slice Ao18 t122.length co18, .slice Ao19 t125.length co19] 37 (0, 0)) (by (with_reducible repeat (first | refine blk_drewN ?_ _ | refine blk_drew ?_ | refine blk_alloc ?_ _)); exact BK115.out) hg (Kd.R_ne HO136.out BK115.out (by decide))); have n3_ := Aside0.mk (Kd.R_after (ok := (fun _ => True)) (by (with_reducible repeat (first | apply Kd.R_alloc | apply Kd.R_drewN | apply Kd.R_drew)); exact Kd.R_mono HO130.out (fun _ hk => ⟨trivial, hk⟩)) hg hat); have n4_ := Aside0.mk (hb); have n5_ := Aside0.mk (ho); clear HO_116006; clear HO_116007; clear BK115; clear HO130; clear HB; clear HO136; have HO_116006 := n0_; have HO_116007 := n1_; have BK115 := n2_; have HO130 := n3_; have HB := n4_; have HO139 := n5_; clear n0_ n1_ n2_ n3_ n4_ n5_; clear ho hb hg hat))
            go_roundg kj12
            case measure => have := HK1.out; have := HJ12.out; omega
            case rel => exact ⟨(y137), (wrap64 (x10_1 + 1)), (by first | rfl | (simp; done) | (simp [*]; done)), H', ⟨by have := HK1.out; have := HJ12.out; omega⟩, ⟨by (with_reducible repeat (first | apply Kd.R_alloc | apply Kd.R_drewN | apply Kd.R_drew)); exact Kd.R_mono HO139.out (fun _ hk => trivial)⟩, ⟨by repeat (first | (with_reducible first | exact HB.out | apply below_alloc | apply pw_below_drewN | apply below_drew1 | refine below_set ?_ GE115.out) | exact HB.out)⟩⟩
           ·rw [if_neg c27] at H
            exact absurd H (by simp)
          ·rw [if_neg c25] at H
           exact absurd H (by simp)
     ·rw [if_neg c4] at H
      exact absurd H (by simp)
    ·rw [if_neg c3] at H
     exact absurd H (by simp)
   ·rw [if_neg c2] at H
    have c2b0 : decide (x10_1 < (l0.length : Int)) = false := decide_eq_false c2
    clear c2
    simp only [Option.some.injEq, Prod.mk.injEq] at H
    obtain ⟨rfl, rfl⟩ := H
    go_wp2
    go_ret2
    exact ⟨_, by first | rfl | (simp [errW_none, errW_some] <;> rfl) | (simp [*, errW_none, errW_some] <;> rfl), by (with_reducible repeat (first | apply Kd.R_alloc | apply Kd.R_drewN | apply Kd.R_drew)); exact HO_4.out, by repeat (first | (with_reducible first | exact HB.out | apply below_alloc | apply pw_below_drewN | apply below_drew1) | exact HB.out)⟩
end Go.Proofs.Ytpgjkndijdleeaa.PCode
end
section
namespace Go.Proofs.Ytpgjkndijdleeaa.PCode
open Go.RowKit Go.Proofs.YtpgjkndijdleeaaW.PrintWords Go.Proofs.YtpgjkndijdleeaaW.PrintLast Go.Proofs.YtpgjkndijdleeaaW.PrintMore
attribute [local go_sem] max2_int min2_int max_two min_two max_three min_three max_four min_four   -- for this text's walks alone
set_option linter.unusedVariables false
set_option linter.unusedSimpArgs false
def temperalaw21_awake.f (k : Nat)  : Option (Bool) := (code_Encode.f k (([(⟨11, 0, 1, 0, 0, 0, ([] : List Int), ([] : List (S62))⟩ : S37)] : List (S37)))).bind fun bt150 => ((code_Decode.f (([11, 1, 2, 99] : List Int))).bind fun t157 => (if bt150.2 = 0 then ((temperaref21_Bytes.f k bt150.1 (([11, 1, 2] : List Int))).bind fun t163 => (if t163 = true then (if (t157.length : Int) = 2 then (if 0 < (t157.length : Int) then (if ((rd_T39 t157 0).f0.f2) = 1 then (if ((rd_T39 t157 0).f1) = 0 then (if 1 < (t157.length : Int) then (some (((rd_T39 t157 1).f1) == 5)) else (none)) else (some false)) else (some false)) else (none)) else (some false)) else (some false))) else (some false)))
set_option maxHeartbeats 8000000 in
set_option maxRecDepth 100000 in
theorem temperalaw21_awake.calls (k : Nat)  (r : Bool) (w : World) (h : temperalaw21_awake.f k  = some r) :
  Calls Try.prog 7 #[] w fun e w' => e = .returned (.bool r) ∧ Below w.heap.size w w' := by
 have hu37 := Try.underlying37
 have HB := Aside0.mk (Below.refl w.heap.size w)
 have H : ((code_Encode.f k (([(⟨11, 0, 1, 0, 0, 0, ([] : List Int), ([] : List (S62))⟩ : S37)] : List (S37)))).bind fun bt150 => ((code_Decode.f (([11, 1, 2, 99] : List Int))).bind fun t157 => (if bt150.2 = 0 then ((temperaref21_Bytes.f k bt150.1 (([11, 1, 2] : List Int))).bind fun t163 => (if t163 = true then (if (t157.length : Int) = 2 then (if 0 < (t157.length : Int) then (if ((rd_T39 t157 0).f0.f2) = 1 then (if ((rd_T39 t157 0).f1) = 0 then (if 1 < (t157.length : Int) then (some (((rd_T39 t157 1).f1) == 5)) else (none)) else (some false)) else (some false)) else (none)) else (some false)) else (some false))) else (some false)))) = some r := h
 clear h
 obtain ⟨y147, hy147⟩ : ∃ y_ : List (S37), y_ = (([(⟨11, 0, 1, 0, 0, 0, ([] : List Int), ([] : List (S62))⟩ : S37)] : List (S37))) := ⟨_, rfl⟩
 replace H : ((code_Encode.f k y147).bind fun bt150 => ((code_Decode.f (([11, 1, 2, 99] : List Int))).bind fun t157 => (if bt150.2 = 0 then ((temperaref21_Bytes.f k bt150.1 (([11, 1, 2] : List Int))).bind fun t163 => (if t163 = true then (if (t157.length : Int) = 2 then (if 0 < (t157.length : Int) then (if ((rd_T39 t157 0).f0.f2) = 1 then (if ((rd_T39 t157 0).f1) = 0 then (if 1 < (t157.length : Int) then (some (((rd_T39 t157 1).f1) == 5)) else (none)) else (some false)) else (some false)) else (none)) else (some false)) else (some false))) else (some false)))) = some r := by first | (rw [hy147]; with_reducible exact H) | (have H2_ := (Option.bind_some _ _).symm.trans H; rw [hy147]; with_reducible exact H2_) | (have H2_ := (Option.bind_some _ _).symm.trans H; with_reducible exact H2_) | with_reducible exact H | (rw [hy147]; exact H) | exact H
 have Ny147 := Aside0.mk hy147
 clear hy147
 replace H := Option.bind_eq_some_iff.mp H
 obtain ⟨⟨t150, t151⟩, A10, H⟩ := H
 replace H : ((code_Decode.f (([11, 1, 2, 99] : List Int))).bind fun t157 => (if t151 = 0 then ((temperaref21_Bytes.f k t150 (([11, 1, 2] : List Int))).bind fun t163 => (if t163 = true then (if (t157.length : Int) = 2 then (if 0 < (t157.length : Int) then (if ((rd_T39 t157 0).f0.f2) = 1 then (if ((rd_T39 t157 0).f1) = 0 then (if 1 < (t157.length : Int) then (some (((rd_T39 t157 1).f1) == 5)) else (none)) else (some false)) else (some false)) else (none)) else (some false)) else (some false))) else (some false))) = some r := H
 have A1 := Aside0.mk A10
 clear A10
 obtain ⟨y154, hy154⟩ : ∃ y_ : List Int, y_ = (([11, 1, 2, 99] : List Int)) := ⟨_, rfl⟩
 replace H : ((code_Decode.f y154).bind fun t157 => (if t151 = 0 then ((temperaref21_Bytes.f k t150 (([11, 1, 2] : List Int))).bind fun t163 => (if t163 = true then (if (t157.length : Int) = 2 then (if 0 < (t157.length : Int) then (if ((rd_T39 t157 0).f0.f2) = 1 then (if ((rd_T39 t157 0).f1) = 0 then (if 1 < (t157.length : Int) then (some (((rd_T39 t157 1).f1) == 5)) else (none)) else (some false)) else (some false)) else (none)) else (some false)) else (some false))) else (some false))) = some r := by first | (rw [hy154]; with_reducible exact H) | (have H2_ := (Option.bind_some _ _).symm.trans H; rw [hy154]; with_reducible exact H2_) | (have H2_ := (Option.bind_some _ _).symm.trans H; with_reducible exact H2_) | with_reducible exact H | (rw [hy154]; exact H) | exact H
 have Ny154 := Aside0.mk hy154
 clear hy154
 replace H := Option.bind_eq_some_iff.mp H
 obtain ⟨t157, A20, H⟩ := H
 replace H : (if t151 = 0 then ((temperaref21_Bytes.f k t150 (([11, 1, 2] : List Int))).bind fun t163 => (if t163 = true then (if (t157.length : Int) = 2 then (if 0 < (t157.length : Int) then (if ((rd_T39 t157 0).f0.f2) = 1 then (if ((rd_T39 t157 0).f1) = 0 then (if 1 < (t157.length : Int) then (some (((rd_T39 t157 1).f1) == 5)) else (none)) else (some false)) else (some false)) else (none)) else (some false)) else (some false))) else (some false)) = some r := H
 have A2 := Aside0.mk A20
 clear A20
 by_cases c3 : t151 = 0
 ·rw [if_pos c3] at H
  have c3b0 : (t151 == 0) = true := beq_iff_eq.mpr c3
  have c3b1 : (t151 != 0) = false := bne_eq_false_iff_eq.mpr c3
  clear c3
  obtain ⟨y160, hy160⟩ : ∃ y_ : List Int, y_ = (([11, 1, 2] : List Int)) := ⟨_, rfl⟩
  replace H : ((temperaref21_Bytes.f k t150 y160).bind fun t163 => (if t163 = true then (if (t157.length : Int) = 2 then (if 0 < (t157.length : Int) then (if ((rd_T39 t157 0).f0.f2) = 1 then (if ((rd_T39 t157 0).f1) = 0 then (if 1 < (t157.length : Int) then (some (((rd_T39 t157 1).f1) == 5)) else (none)) else (some false)) else (some false)) else (none)) else (some false)) else (some false))) = some r := by first | (rw [hy160]; with_reducible exact H) | (have H2_ := (Option.bind_some _ _).symm.trans H; rw [hy160]; with_reducible exact H2_) | (have H2_ := (Option.bind_some _ _).symm.trans H; with_reducible exact H2_) | with_reducible exact H | (rw [hy160]; exact H) | exact H
  have Ny160 := Aside0.mk hy160
  clear hy160
  replace H := Option.bind_eq_some_iff.mp H
  obtain ⟨t163, A40, H⟩ := H
  replace H : (if t163 = true then (if (t157.length : Int) = 2 then (if 0 < (t157.length : Int) then (if ((rd_T39 t157 0).f0.f2) = 1 then (if ((rd_T39 t157 0).f1) = 0 then (if 1 < (t157.length : Int) then (some (((rd_T39 t157 1).f1) == 5)) else (none)) else (some false)) else (some false)) else (none)) else (some false)) else (some false)) = some r := H
  have A4 := Aside0.mk A40
  clear A40
  by_cases c5 : t163 = true
  ·subst c5
   have H1 : (if (t157.length : Int) = 2 then (if 0 < (t157.length : Int) then (if ((rd_T39 t157 0).f0.f2) = 1 then (if ((rd_T39 t157 0).f1) = 0 then (if 1 < (t157.length : Int) then (some (((rd_T39 t157 1).f1) == 5)) else (none)) else (some false)) else (some false)) else (none)) else (some false)) = some r := by rw [if_pos rfl] at H; exact H
   clear H
   have H := H1
   clear H1
   by_cases c6 : (t157.length : Int) = 2
   ·rw [if_pos c6] at H
    have c6b0 : ((t157.length : Int) == 2) = true := beq_iff_eq.mpr c6
    have c6b1 : ((t157.length : Int) != 2) = false := bne_eq_false_iff_eq.mpr c6
    clear c6
    by_cases c7 : 0 < (t157.length : Int)
    ·rw [if_pos c7] at H
     have c7b0 : decide (0 < (t157.length : Int)) = true := decide_eq_true c7
     have c7b1 : decide (0 < t157.length) = true := decide_eq_true (by omega)
     clear c7
     by_cases c8 : ((rd_T39 t157 0).f0.f2) = 1
     ·rw [if_pos c8] at H
      have c8b0 : (((rd_T39 t157 0).f0.f2) == 1) = true := beq_iff_eq.mpr c8
      have c8b1 : (((rd_T39 t157 0).f0.f2) != 1) = false := bne_eq_false_iff_eq.mpr c8
      clear c8
      by_cases c9 : ((rd_T39 t157 0).f1) = 0
      ·rw [if_pos c9] at H
       have c9b0 : (((rd_T39 t157 0).f1) == 0) = true := beq_iff_eq.mpr c9
       have c9b1 : (((rd_T39 t157 0).f1) != 0) = false := bne_eq_false_iff_eq.mpr c9
       clear c9
       by_cases c10 : 1 < (t157.length : Int)
       ·rw [if_pos c10] at H
        have c10b0 : decide (1 < (t157.length : Int)) = true := decide_eq_true c10
        have c10b1 : decide (1 < t157.length) = true := decide_eq_true (by omega)
        clear c10
        obtain rfl := Option.some.inj H
        go_enter Try.func7, Try.ntmps7
        go_wp2_with (first | ((with_reducible refine gate_dst (N := 6) rfl ?_); (try (refine gate_guard (by rfl) ?_; dsimp only)); refine Kd.S_lit k37 _ 37 ?hg (N := 6) ?hd (xs := ([(⟨11, 0, 1, 0, 0, 0, ([] : List Int), ([] : List (S62))⟩ : S37)] : List (S37))) (inner := [.int .i64 11, .int .i64 0, .int .i64 1, .int .i64 0, .int .i64 0, .int .i64 0, .slice none 0 0, .slice none 0 0]) (ok := fun _ => True) (okp := fun _ => True) ?hr ?hp (fun _ hk => hk) trivial (Below.refl _ _) (Nat.le_refl _) (by simp) ?_; (case hd => rfl); (case hg => rfl); (case hr => first | (go_simp; done) | (go_simp; rfl)); (case hp => exact (Reps.c8 (show Kd.M k37 _ _ _ (⟨11, 0, 1, 0, 0, 0, ([] : List Int), ([] : List (S62))⟩ : S37) [.int .i64 11, .int .i64 0, .int .i64 1, .int .i64 0, .int .i64 0, .int .i64 0, .slice none 0 0, .slice none 0 0] from (k37_mkM _ _ _ (⟨11, 0, 1, 0, 0, 0, ([] : List Int), ([] : List (S62))⟩ : S37) (Kd.R_nil _ _ _ _ _) (Kd.R_nil _ _ _ _ _))) (Reps.none _ _))); intro v148 w11 ho12 hb hg_ hnew_; clear hg_ hnew_; (first | rw [← Ny147.out] at ho12 | (simp only [Int.reduceToNat] at ho12; rw [← Ny147.out] at ho12)); have n0_ := Aside0.mk (Kd.S_lower ho12 (below_size (by repeat (first | (with_reducible first | exact HB.out | apply below_alloc | apply pw_below_drewN | apply below_drew1) | exact HB.out)))); have n1_ := Aside0.mk (below_step (by repeat (first | (with_reducible first | exact HB.out | apply below_alloc | apply pw_below_drewN | apply below_drew1) | exact HB.out)) hb); clear HB; have HO149 := n0_; have HB := n1_; clear n0_ n1_; clear hb ho12; obtain ⟨Ao13, co13, eo13⟩ := Kd.S_slice HO149.out; subst eo13) | ((with_reducible refine gate_callee (f := 8) rfl ?_); refine goesL_ (some 7) rfl rfl Try.func8 (by kernel_rfl) rfl #[.slice Ao13 y147.length co13] rfl (by (try simp only [List.map_toArray, List.map_cons, List.map_nil]); first | done | rfl | (simp only [List.length_drop, List.length_take]; rfl)) ?_; (with_reducible refine (code_Encode.calls k _ _ y147 t150 t151 _ ?side1 ?side2 A1.out).mono ?_); (case side1 => repeat (first | exact (Kd.S_reads' HO149.out).2.2 | (with_reducible refine Kd.C_alloc ?_ _) | (with_reducible refine Kd.C_drewN ?_ _) | (with_reducible refine Kd.C_drew ?_))); (case side2 => exact (Kd.S_reads' HO149.out).2.1); rintro e w14 ⟨v152, rfl, ho0, hb⟩; refine ⟨_, rfl, ?_⟩; have n0_ := Aside0.mk (Kd.S_below (by (with_reducible repeat (first | apply Kd.S_alloc | apply Kd.S_drewN | apply Kd.S_drew)); exact HO149.out) hb); have n1_ := Aside0.mk (Kd.R_lower ho0 (below_size (by repeat (first | (with_reducible first | exact HB.out | apply below_alloc | apply pw_below_drewN | apply below_drew1) | exact HB.out)))); have n2_ := Aside0.mk (below_step (by repeat (first | (with_reducible first | exact HB.out | apply below_alloc | apply pw_below_drewN | apply below_drew1) | exact HB.out)) hb); clear HO149; clear HB; have HO149 := n0_; have HO153 := n1_; have HB := n2_; clear n0_ n1_ n2_; (try clear hb); (try clear hb2); (try clear hk); (try clear hi); (try clear ho0)) | ((with_reducible refine gate_dst (N := 10) rfl ?_); (try (refine gate_guard (by rfl) ?_; dsimp only)); refine Kd.R_lit (Kd.int .u8) _ 5 ?hg (N := 10) ?hd (xs := ([11, 1, 2, 99] : List Int)) (inner := [.int .u8 11, .int .u8 1, .int .u8 2, .int .u8 99]) (ok := fun _ => True) (okp := fun _ => True) ?hr ?hp (fun _ hk => hk) trivial (Below.refl _ _) (Nat.le_refl _) (by simp) ?_; (case hd => rfl); (case hg => rfl); (case hr => first | (go_simp; done) | (go_simp; rfl)); (case hp => exact (Reps.one (show Kd.M (Kd.int .u8) _ _ _ 11 [.int .u8 11] from rfl) (Reps.one (show Kd.M (Kd.int .u8) _ _ _ 1 [.int .u8 1] from rfl) (Reps.one (show Kd.M (Kd.int .u8) _ _ _ 2 [.int .u8 2] from rfl) (Reps.one (show Kd.M (Kd.int .u8) _ _ _ 99 [.int .u8 99] from rfl) (Reps.none _ _)))))); intro v155 w15 ho16 hb hg_ hnew_; clear hg_ hnew_; (first | rw [← Ny154.out] at ho16 | (simp only [Int.reduceToNat] at ho16; rw [← Ny154.out] at ho16)); have n0_ := Aside0.mk (Kd.S_below (by (with_reducible repeat (first | apply Kd.S_alloc | apply Kd.S_drewN | apply Kd.S_drew)); exact HO149.out) hb); have n1_ := Aside0.mk (Kd.R_elder' (by (with_reducible repeat (first | apply Kd.R_alloc | apply Kd.R_drewN | apply Kd.R_drew)); exact HO153.out) (Kd.R_base ho16) hb); have n2_ := Aside0.mk (Kd.R_lower (Kd.R_new' ho16 (Kd.R_lt (by (with_reducible repeat (first | apply Kd.R_alloc | apply Kd.R_drewN | apply Kd.R_drew)); exact HO153.out))) (below_size (by repeat (first | (with_reducible first | exact HB.out | apply below_alloc | apply pw_below_drewN | apply below_drew1) | exact HB.out)))); have n3_ := Aside0.mk (below_step (by repeat (first | (with_reducible first | exact HB.out | apply below_alloc | apply pw_below_drewN | apply below_drew1) | exact HB.out)) hb); clear HO149; clear HO153; clear HB; have HO149 := n0_; have HO153 := n1_; have HO156 := n2_; have HB := n3_; clear n0_ n1_ n2_ n3_; clear hb ho16; obtain ⟨Ao17, co17, eo17⟩ := Kd.R_slice HO156.out; subst eo17) | ((with_reducible refine gate_callee (f := 10) rfl ?_); refine goesL_ (some 11) rfl rfl Try.func10 (by kernel_rfl) rfl #[.slice Ao17 y154.length co17] rfl (by (try simp only [List.map_toArray, List.map_cons, List.map_nil]); first | done | rfl | (simp only [List.length_drop, List.length_take]; rfl)) ?_; (with_reducible refine (code_Decode.calls _ _ y154 t157 _ ?side1 ?side2 A2.out).mono ?_); (case side1 => repeat (first | exact (Kd.R_reads' HO156.out).2.2 | (with_reducible refine Kd.C_alloc ?_ _) | (with_reducible refine Kd.C_drewN ?_ _) | (with_reducible refine Kd.C_drew ?_))); (case side2 => exact (Kd.R_reads' HO156.out).2.1); rintro e w18 ⟨v158, rfl, ho0, hb⟩; refine ⟨_, rfl, ?_⟩; have n0_ := Aside0.mk (Kd.S_below (by (with_reducible repeat (first | apply Kd.S_alloc | apply Kd.S_drewN | apply Kd.S_drew)); exact HO149.out) hb); have n1_ := Aside0.mk (Kd.R_below (by (with_reducible repeat (first | apply Kd.R_alloc | apply Kd.R_drewN | apply Kd.R_drew)); exact HO153.out) hb); have n2_ := Aside0.mk (Kd.R_below (by (with_reducible repeat (first | apply Kd.R_alloc | apply Kd.R_drewN | apply Kd.R_drew)); exact HO156.out) hb); have n3_ := Aside0.mk (Kd.S_lower ho0 (below_size (by repeat (first | (with_reducible first | exact HB.out | apply below_alloc | apply pw_below_drewN | apply below_drew1) | exact HB.out)))); have n4_ := Aside0.mk (below_step (by repeat (first | (with_reducible first | exact HB.out | apply below_alloc | apply pw_below_drewN | apply below_drew1) | exact HB.out)) hb); clear HO149; clear HO153; clear HO156; clear HB; have HO149 := n0_; have HO153 := n1_; have HO156 := n2_; have HO159 := n3_; have HB := n4_; clear n0_ n1_ n2_ n3_ n4_; (try clear hb); (try clear hb2); (try clear hk); (try clear hi); (try clear ho0)) | ((with_reducible refine gate_dst (N := 16) rfl ?_); (try (refine gate_guard (by rfl) ?_; dsimp only)); refine Kd.R_lit (Kd.int .u8) _ 5 ?hg (N := 16) ?hd (xs := ([11, 1, 2] : List Int)) (inner := [.int .u8 11, .int .u8 1, .int .u8 2]) (ok := fun _ => True) (okp := fun _ => True) ?hr ?hp (fun _ hk => hk) trivial (Below.refl _ _) (Nat.le_refl _) (by simp) ?_; (case hd => rfl); (case hg => rfl); (case hr => first | (go_simp; done) | (go_simp; rfl)); (case hp => exact (Reps.one (show Kd.M (Kd.int .u8) _ _ _ 11 [.int .u8 11] from rfl) (Reps.one (show Kd.M (Kd.int .u8) _ _ _ 1 [.int .u8 1] from rfl) (Reps.one (show Kd.M (Kd.int .u8) _ _ _ 2 [.int .u8 2] from rfl) (Reps.none _ _))))); intro v161 w19 ho20 hb hg_ hnew_; clear hg_ hnew_; (first | rw [← Ny160.out] at ho20 | (simp only [Int.reduceToNat] at ho20; rw [← Ny160.out] at ho20)); have n0_ := Aside0.mk (Kd.S_below (by (with_reducible repeat (first | apply Kd.S_alloc | apply Kd.S_drewN | apply Kd.S_drew)); exact HO149.out) hb); have n1_ := Aside0.mk (Kd.R_elder' (by (with_reducible repeat (first | apply Kd.R_alloc | apply Kd.R_drewN | apply Kd.R_drew)); exact HO153.out) (Kd.R_base ho20) hb); have n2_ := Aside0.mk (Kd.R_elder' (by (with_reducible repeat (first | apply Kd.R_alloc | apply Kd.R_drewN | apply Kd.R_drew)); exact HO156.out) (Kd.R_base ho20) hb); have n3_ := Aside0.mk (Kd.S_below (by (with_reducible repeat (first | apply Kd.S_alloc | apply Kd.S_drewN | apply Kd.S_drew)); exact HO159.out) hb); have n4_ := Aside0.mk (Kd.R_lower (Kd.R_new' (Kd.R_new' ho20 (Kd.R_lt (by (with_reducible repeat (first | apply Kd.R_alloc | apply Kd.R_drewN | apply Kd.R_drew)); exact HO153.out))) (Kd.R_lt (by (with_reducible repeat (first | apply Kd.R_alloc | apply Kd.R_drewN | apply Kd.R_drew)); exact HO156.out))) (below_size (by repeat (first | (with_reducible first | exact HB.out | apply below_alloc | apply pw_below_drewN | apply below_drew1) | exact HB.out)))); have n5_ := Aside0.mk (below_step (by repeat (first | (with_reducible first | exact HB.out | apply below_alloc | apply pw_below_drewN | apply below_drew1) | exact HB.out)) hb); clear HO149; clear HO153; clear HO156; clear HO159; clear HB; have HO149 := n0_; have HO153 := n1_; have HO156 := n2_; have HO159 := n3_; have HO162 := n4_; have HB := n5_; clear n0_ n1_ n2_ n3_ n4_ n5_; clear hb ho20; obtain ⟨Ao21, co21, eo21⟩ := Kd.R_slice HO153.out; subst eo21; obtain ⟨Ao22, co22, eo22⟩ := Kd.R_slice HO162.out; subst eo22) | (go_at_call 11; (with_reducible refine (temperaref21_Bytes.calls k _ _ t150 _ _ y160 true _ ?side1 ?side2 ?side3 ?side4 A4.out).mono ?_); (case side1 => repeat (first | exact (Kd.R_reads' HO153.out).2.2 | (with_reducible refine Kd.C_alloc ?_ _) | (with_reducible refine Kd.C_drewN ?_ _) | (with_reducible refine Kd.C_drew ?_))); (case side2 => exact (Kd.R_reads' HO153.out).2.1); (case side3 => repeat (first | exact (Kd.R_reads' HO162.out).2.2 | (with_reducible refine Kd.C_alloc ?_ _) | (with_reducible refine Kd.C_drewN ?_ _) | (with_reducible refine Kd.C_drew ?_))); (case side4 => exact (Kd.R_reads' HO162.out).2.1); rintro e w' ⟨rfl, ⟨nd, rfl⟩⟩; obtain ⟨Ao23, co23, eo23⟩ := Kd.S_slice HO159.out; subst eo23; have p164 : 0 ≤ (0 : Int) := (by omega); have q164 : 0 < (t157.length : Int) := of_decide_eq_true (by first | (with_reducible assumption) | assumption); obtain ⟨ad164, A164_6, c164_6, A164_7, c164_7, e164, hx164_0, hx164_1, hx164_2, hx164_3, hx164_4, hx164_5, hx164_6, hx164_7, hx164_8, hl164_6, hi164_6, hl164_7, hi164_7⟩ := at_T39 (Kd.S_reads' HO159.out).2.2 0 p164 q164; cases e164; obtain ⟨ce164, hce164, hMe164, hcc164⟩ := Kd.S_get HO159.out z39 0 p164 (by first | exact q164 | exact of_decide_eq_true (by first | (with_reducible assumption) | assumption) | (have e_ := (Kd.S_reads' HO159.out).1; omega)); obtain ⟨ve164_6, ve164_7, rfl, ge164_6, ge164_7⟩ := k39_openM hMe164; have hv164_6 := hcc164 6 _ rfl; rw [add_field _ _ 6 (by omega)] at hv164_6; replace hv164_6 := Option.some.inj (hv164_6.symm.trans hx164_6); rw [hv164_6] at ge164_6; have HL164_6 := Aside0.mk (show Kd.R (Kd.int .i64) 3 _ _ _ _ ((rd_T39 t157 0).f0.f6) from ge164_6); clear hv164_6 ge164_6; have hv164_7 := hcc164 7 _ rfl; rw [add_field _ _ 7 (by omega)] at hv164_7; replace hv164_7 := Option.some.inj (hv164_7.symm.trans hx164_7); rw [hv164_7] at ge164_7; have HL164_7 := Aside0.mk (show Kd.R k62 62 _ _ _ _ ((rd_T39 t157 0).f0.f7) from ge164_7); clear hv164_7 ge164_7; clear hcc164 hce164; have qi164 : (0 < t157.length) = True := eq_true (by omega); (try rw [show ((0 : Int)).toNat = 0 from rfl] at hx164_0); (try rw [show 0 * 9 = 0 from rfl] at hx164_0); (try rw [Addr.add_zero'] at hx164_0); (try rw [show ((0 : Int)).toNat = 0 from rfl] at hx164_1); (try rw [show 0 * 9 = 0 from rfl] at hx164_1); (try rw [Addr.add_zero'] at hx164_1); (try rw [show ((0 : Int)).toNat = 0 from rfl] at hx164_2); (try rw [show 0 * 9 = 0 from rfl] at hx164_2); (try rw [Addr.add_zero'] at hx164_2); (try rw [show ((0 : Int)).toNat = 0 from rfl] at hx164_3); (try rw [show 0 * 9 = 0 from rfl] at hx164_3); (try rw [Addr.add_zero'] at hx164_3); (try rw [show ((0 : Int)).toNat = 0 from rfl] at hx164_4); (try rw [show 0 * 9 = 0 from rfl] at hx164_4); (try rw [Addr.add_zero'] at hx164_4); (try rw [show ((0 : Int)).toNat = 0 from rfl] at hx164_5); (try rw [show 0 * 9 = 0 from rfl] at hx164_5); (try rw [Addr.add_zero'] at hx164_5); (try rw [show ((0 : Int)).toNat = 0 from rfl] at hx164_6); (try rw [show 0 * 9 = 0 from rfl] at hx164_6); (try rw [Addr.add_zero'] at hx164_6); (try rw [show ((0 : Int)).toNat = 0 from rfl] at hx164_7); (try rw [show 0 * 9 = 0 from rfl] at hx164_7); (try rw [Addr.add_zero'] at hx164_7); (try rw [show ((0 : Int)).toNat = 0 from rfl] at hx164_8); (try rw [show 0 * 9 = 0 from rfl] at hx164_8); (try rw [Addr.add_zero'] at hx164_8); have HR164_6 := Aside0.mk hi164_6; have HC164_6 := Aside0.mk hl164_6; clear hi164_6 hl164_6; have HR164_7 := Aside0.mk hi164_7; have HC164_7 := Aside0.mk hl164_7; clear hi164_7 hl164_7; replace p164 := eq_true p164; replace q164 := eq_true q164; have p165 : 0 ≤ (0 : Int) := (by omega); have q165 : 0 < (t157.length : Int) := of_decide_eq_true (by first | (with_reducible assumption) | assumption); obtain ⟨ad165, A165_6, c165_6, A165_7, c165_7, e165, hx165_0, hx165_1, hx165_2, hx165_3, hx165_4, hx165_5, hx165_6, hx165_7, hx165_8, hl165_6, hi165_6, hl165_7, hi165_7⟩ := at_T39 (Kd.S_reads' HO159.out).2.2 0 p165 q165; obtain rfl : ad164 = ad165 := (by injection e165); obtain ⟨ce165, hce165, hMe165, hcc165⟩ := Kd.S_get HO159.out z39 0 p165 (by first | exact q165 | exact of_decide_eq_true (by first | (with_reducible assumption) | assumption) | (have e_ := (Kd.S_reads' HO159.out).1; omega)); obtain ⟨ve165_6, ve165_7, rfl, ge165_6, ge165_7⟩ := k39_openM hMe165; have hv165_6 := hcc165 6 _ rfl; rw [add_field _ _ 6 (by omega)] at hv165_6; replace hv165_6 := Option.some.inj (hv165_6.symm.trans hx165_6); rw [hv165_6] at ge165_6; have HL165_6 := Aside0.mk (show Kd.R (Kd.int .i64) 3 _ _ _ _ ((rd_T39 t157 0).f0.f6) from ge165_6); clear hv165_6 ge165_6; have hv165_7 := hcc165 7 _ rfl; rw [add_field _ _ 7 (by omega)] at hv165_7; replace hv165_7 := Option.some.inj (hv165_7.symm.trans hx165_7); rw [hv165_7] at ge165_7; have HL165_7 := Aside0.mk (show Kd.R k62 62 _ _ _ _ ((rd_T39 t157 0).f0.f7) from ge165_7); clear hv165_7 ge165_7; clear hcc165 hce165; have qi165 : (0 < t157.length) = True := eq_true (by omega); (try rw [show ((0 : Int)).toNat = 0 from rfl] at hx165_0); (try rw [show 0 * 9 = 0 from rfl] at hx165_0); (try rw [Addr.add_zero'] at hx165_0); (try rw [show ((0 : Int)).toNat = 0 from rfl] at hx165_1); (try rw [show 0 * 9 = 0 from rfl] at hx165_1); (try rw [Addr.add_zero'] at hx165_1); (try rw [show ((0 : Int)).toNat = 0 from rfl] at hx165_2); (try rw [show 0 * 9 = 0 from rfl] at hx165_2); (try rw [Addr.add_zero'] at hx165_2); (try rw [show ((0 : Int)).toNat = 0 from rfl] at hx165_3); (try rw [show 0 * 9 = 0 from rfl] at hx165_3); (try rw [Addr.add_zero'] at hx165_3); (try rw [show ((0 : Int)).toNat = 0 from rfl] at hx165_4); (try rw [show 0 * 9 = 0 from rfl] at hx165_4); (try rw [Addr.add_zero'] at hx165_4); (try rw [show ((0 : Int)).toNat = 0 from rfl] at hx165_5); (try rw [show 0 * 9 = 0 from rfl] at hx165_5); (try rw [Addr.add_zero'] at hx165_5); (try rw [show ((0 : Int)).toNat = 0 from rfl] at hx165_6); (try rw [show 0 * 9 = 0 from rfl] at hx165_6); (try rw [Addr.add_zero'] at hx165_6); (try rw [show ((0 : Int)).toNat = 0 from rfl] at hx165_7); (try rw [show 0 * 9 = 0 from rfl] at hx165_7); (try rw [Addr.add_zero'] at hx165_7); (try rw [show ((0 : Int)).toNat = 0 from rfl] at hx165_8); (try rw [show 0 * 9 = 0 from rfl] at hx165_8); (try rw [Addr.add_zero'] at hx165_8); have HR165_6 := Aside0.mk hi165_6; have HC165_6 := Aside0.mk hl165_6; clear hi165_6 hl165_6; have HR165_7 := Aside0.mk hi165_7; have HC165_7 := Aside0.mk hl165_7; clear hi165_7 hl165_7; replace p165 := eq_true p165; replace q165 := eq_true q165; have ea_ := Option.some.inj (hx164_6.symm.trans hx165_6); injection ea_ with ea_ en_ ec_; subst ea_; subst ec_; clear en_; have ea_ := Option.some.inj (hx164_7.symm.trans hx165_7); injection ea_ with ea_ en_ ec_; subst ea_; subst ec_; clear en_; have p166 : 0 ≤ (1 : Int) := (by omega); have q166 : 1 < (t157.length : Int) := of_decide_eq_true (by first | (with_reducible assumption) | assumption); obtain ⟨ad166, A166_6, c166_6, A166_7, c166_7, e166, hx166_0, hx166_1, hx166_2, hx166_3, hx166_4, hx166_5, hx166_6, hx166_7, hx166_8, hl166_6, hi166_6, hl166_7, hi166_7⟩ := at_T39 (Kd.S_reads' HO159.out).2.2 1 p166 q166; obtain rfl : ad164 = ad166 := (by injection e166); obtain ⟨ce166, hce166, hMe166, hcc166⟩ := Kd.S_get HO159.out z39 1 p166 (by first | exact q166 | exact of_decide_eq_true (by first | (with_reducible assumption) | assumption) | (have e_ := (Kd.S_reads' HO159.out).1; omega)); obtain ⟨ve166_6, ve166_7, rfl, ge166_6, ge166_7⟩ := k39_openM hMe166; have hv166_6 := hcc166 6 _ rfl; rw [add_field _ _ 6 (by omega)] at hv166_6; replace hv166_6 := Option.some.inj (hv166_6.symm.trans hx166_6); rw [hv166_6] at ge166_6; have HL166_6 := Aside0.mk (show Kd.R (Kd.int .i64) 3 _ _ _ _ ((rd_T39 t157 1).f0.f6) from ge166_6); clear hv166_6 ge166_6; have hv166_7 := hcc166 7 _ rfl; rw [add_field _ _ 7 (by omega)] at hv166_7; replace hv166_7 := Option.some.inj (hv166_7.symm.trans hx166_7); rw [hv166_7] at ge166_7; have HL166_7 := Aside0.mk (show Kd.R k62 62 _ _ _ _ ((rd_T39 t157 1).f0.f7) from ge166_7); clear hv166_7 ge166_7; clear hcc166 hce166; (try simp only [show (1 : Int).toNat = 1 from rfl, Nat.reduceMul, Nat.reduceEqDiff, Go.Addr.add, ↓reduceIte] at hx166_0); (try simp only [show (1 : Int).toNat = 1 from rfl, Nat.reduceMul, Nat.reduceEqDiff, Go.Addr.add, ↓reduceIte] at hx166_1); (try simp only [show (1 : Int).toNat = 1 from rfl, Nat.reduceMul, Nat.reduceEqDiff, Go.Addr.add, ↓reduceIte] at hx166_2); (try simp only [show (1 : Int).toNat = 1 from rfl, Nat.reduceMul, Nat.reduceEqDiff, Go.Addr.add, ↓reduceIte] at hx166_3); (try simp only [show (1 : Int).toNat = 1 from rfl, Nat.reduceMul, Nat.reduceEqDiff, Go.Addr.add, ↓reduceIte] at hx166_4); (try simp only [show (1 : Int).toNat = 1 from rfl, Nat.reduceMul, Nat.reduceEqDiff, Go.Addr.add, ↓reduceIte] at hx166_5); (try simp only [show (1 : Int).toNat = 1 from rfl, Nat.reduceMul, Nat.reduceEqDiff, Go.Addr.add, ↓reduceIte] at hx166_6); (try simp only [show (1 : Int).toNat = 1 from rfl, Nat.reduceMul, Nat.reduceEqDiff, Go.Addr.add, ↓reduceIte] at hx166_7); (try simp only [show (1 : Int).toNat = 1 from rfl, Nat.reduceMul, Nat.reduceEqDiff, Go.Addr.add, ↓reduceIte] at hx166_8); have qi166 : (1 < t157.length) = True := eq_true (by omega); (try rw [show ((1 : Int)).toNat = 1 from rfl] at hx166_0); (try rw [show 1 * 9 = 9 from rfl] at hx166_0); (try rw [show ((1 : Int)).toNat = 1 from rfl] at hx166_1); (try rw [show 1 * 9 = 9 from rfl] at hx166_1); (try rw [show ((1 : Int)).toNat = 1 from rfl] at hx166_2); (try rw [show 1 * 9 = 9 from rfl] at hx166_2); (try rw [show ((1 : Int)).toNat = 1 from rfl] at hx166_3); (try rw [show 1 * 9 = 9 from rfl] at hx166_3); (try rw [show ((1 : Int)).toNat = 1 from rfl] at hx166_4); (try rw [show 1 * 9 = 9 from rfl] at hx166_4); (try rw [show ((1 : Int)).toNat = 1 from rfl] at hx166_5); (try rw [show 1 * 9 = 9 from rfl] at hx166_5); (try rw [show ((1 : Int)).toNat = 1 from rfl] at hx166_6); (try rw [show 1 * 9 = 9 from rfl] at hx166_6); (try rw [show ((1 : Int)).toNat = 1 from rfl] at hx166_7); (try rw [show 1 * 9 = 9 from rfl] at hx166_7); (try rw [show ((1 : Int)).toNat = 1 from rfl] at hx166_8); (try rw [show 1 * 9 = 9 from rfl] at hx166_8); have HR166_6 := Aside0.mk hi166_6; have HC166_6 := Aside0.mk hl166_6; clear hi166_6 hl166_6; have HR166_7 := Aside0.mk hi166_7; have HC166_7 := Aside0.mk hl166_7; clear hi166_7 hl166_7; replace p166 := eq_true p166; replace q166 := eq_true q166))
        go_ret
        exact ⟨by first | rfl | (simp [errW_none, errW_some] <;> rfl) | (simp [*, errW_none, errW_some] <;> rfl), by repeat (first | (with_reducible first | exact HB.out | apply below_alloc | apply pw_below_drewN | apply below_drew1) | exact HB.out)⟩
       ·rw [if_neg c10] at H
        exact absurd H (by simp)
      ·rw [if_neg c9] at H
       have c9b0 : (((rd_T39 t157 0).f1) == 0) = false := beq_eq_false_iff_ne.mpr c9
       have c9b1 : (((rd_T39 t157 0).f1) != 0) = true := bne_iff_ne.mpr c9
       obtain rfl := Option.some.inj H
       go_enter Try.func7, Try.ntmps7
       go_wp2_with (first | ((with_reducible refine gate_dst (N := 6) rfl ?_); (try (refine gate_guard (by rfl) ?_; dsimp only)); refine Kd.S_lit k37 _ 37 ?hg (N := 6) ?hd (xs := ([(⟨11, 0, 1, 0, 0, 0, ([] : List Int), ([] : List (S62))⟩ : S37)] : List (S37))) (inner := [.int .i64 11, .int .i64 0, .int .i64 1, .int .i64 0, .int .i64 0, .int .i64 0, .slice none 0 0, .slice none 0 0]) (ok := fun _ => True) (okp := fun _ => True) ?hr ?hp (fun _ hk => hk) trivial (Below.refl _ _) (Nat.le_refl _) (by simp) ?_; (case hd => rfl); (case hg => rfl); (case hr => first | (go_simp; done) | (go_simp; rfl)); (case hp => exact (Reps.c8 (show Kd.M k37 _ _ _ (⟨11, 0, 1, 0, 0, 0, ([] : List Int), ([] : List (S62))⟩ : S37) [.int .i64 11, .int .i64 0, .int .i64 1, .int .i64 0, .int .i64 0, .int .i64 0, .slice none 0 0, .slice none 0 0] from (k37_mkM _ _ _ (⟨11, 0, 1, 0, 0, 0, ([] : List Int), ([] : List (S62))⟩ : S37) (Kd.R_nil _ _ _ _ _) (Kd.R_nil _ _ _ _ _))) (Reps.none _ _))); intro v148 w24 ho25 hb hg_ hnew_; clear hg_ hnew_; (first | rw [← Ny147.out] at ho25 | (simp only [Int.reduceToNat] at ho25; rw [← Ny147.out] at ho25)); have n0_ := Aside0.mk (Kd.S_lower ho25 (below_size (by repeat (first | (with_reducible first | exact HB.out | apply below_alloc | apply pw_below_drewN | apply below_drew1) | exact HB.out)))); have n1_ := Aside0.mk (below_step (by repeat (first | (with_reducible first | exact HB.out | apply below_alloc | apply pw_below_drewN | apply below_drew1) | exact HB.out)) hb); clear HB; have HO149 := n0_; have HB := n1_; clear n0_ n1_; clear hb ho25; obtain ⟨Ao26, co26, eo26⟩ := Kd.S_slice HO149.out; subst eo26) | ((with_reducible refine gate_callee (f := 8) rfl ?_); refine goesL_ (some 7) rfl rfl Try.func8 (by kernel_rfl) rfl #[.slice Ao26 y147.length co26] rfl (by (try simp only [List.map_toArray, List.map_cons, List.map_nil]); first | done | rfl | (simp only [List.length_drop, List.length_take]; rfl)) ?_; (with_reducible refine (code_Encode.calls k _ _ y147 t150 t151 _ ?side1 ?side2 A1.out).mono ?_); (case side1 => repeat (first | exact (Kd.S_reads' HO149.out).2.2 | (with_reducible refine Kd.C_alloc ?_ _) | (with_reducible refine Kd.C_drewN ?_ _) | (with_reducible refine Kd.C_drew ?_))); (case side2 => exact (Kd.S_reads' HO149.out).2.1); rintro e w27 ⟨v152, rfl, ho0, hb⟩; refine ⟨_, rfl, ?_⟩; have n0_ := Aside0.mk (Kd.S_below (by (with_reducible repeat (first | apply Kd.S_alloc | apply Kd.S_drewN | apply Kd.S_drew)); exact HO149.out) hb); have n1_ := Aside0.mk (Kd.R_lower ho0 (below_size (by repeat (first | (with_reducible first | exact HB.out | apply below_alloc | apply pw_below_drewN | apply below_drew1) | exact HB.out)))); have n2_ := Aside0.mk (below_step (by repeat (first | (with_reducible first | exact HB.out | apply below_alloc | apply pw_below_drewN | apply below_drew1) | exact HB.out)) hb); clear HO149; clear HB; have HO149 := n0_; have HO153 := n1_; have HB := n2_; clear n0_ n1_ n2_; (try clear hb); (try clear hb2); (try clear hk); (try clear hi); (try clear ho0)) | ((with_reducible refine gate_dst (N := 10) rfl ?_); (try (refine gate_guard (by rfl) ?_; dsimp only)); refine Kd.R_lit (Kd.int .u8) _ 5 ?hg (N := 10) ?hd (xs := ([11, 1, 2, 99] : List Int)) (inner := [.int .u8 11, .int .u8 1, .int .u8 2, .int .u8 99]) (ok := fun _ => True) (okp := fun _ => True) ?hr ?hp (fun _ hk => hk) trivial (Below.refl _ _) (Nat.le_refl _) (by simp) ?_; (case hd => rfl); (case hg => rfl); (case hr => first | (go_simp; done) | (go_simp; rfl)); (case hp => exact (Reps.one (show Kd.M (Kd.int .u8) _ _ _ 11 [.int .u8 11] from rfl) (Reps.one (show Kd.M (Kd.int .u8) _ _ _ 1 [.int .u8 1] from rfl) (Reps.one (show Kd.M (Kd.int .u8) _ _ _ 2 [.int .u8 2] from rfl) (Reps.one (show Kd.M (Kd.int .u8) _ _ _ 99 [.int .u8 99] from rfl) (Reps.none _ _)))))); intro v155 w28 ho29 hb hg_ hnew_; clear hg_ hnew_; (first | rw [← Ny154.out] at ho29 | (simp only [Int.reduceToNat] at ho29; rw [← Ny154.out] at ho29)); have n0_ := Aside0.mk (Kd.S_below (by (with_reducible repeat (first | apply Kd.S_alloc | apply Kd.S_drewN | apply Kd.S_drew)); exact HO149.out) hb); have n1_ := Aside0.mk (Kd.R_elder' (by (with_reducible repeat (first | apply Kd.R_alloc | apply Kd.R_drewN | apply Kd.R_drew)); exact HO153.out) (Kd.R_base ho29) hb); have n2_ := Aside0.mk (Kd.R_lower (Kd.R_new' ho29 (Kd.R_lt (by (with_reducible repeat (first | apply Kd.R_alloc | apply Kd.R_drewN | apply Kd.R_drew)); exact HO153.out))) (below_size (by repeat (first | (with_reducible first | exact HB.out | apply below_alloc | apply pw_below_drewN | apply below_drew1) | exact HB.out)))); have n3_ := Aside0.mk (below_step (by repeat (first | (with_reducible first | exact HB.out | apply below_alloc | apply pw_below_drewN | apply below_drew1) | exact HB.out)) hb); clear HO149; clear HO153; clear HB; have HO149 := n0_; have HO153 := n1_; have HO156 := n2_; have HB := n3_; clear n0_ n1_ n2_ n3_; clear hb ho29; obtain ⟨Ao30, co30, eo30⟩ := Kd.R_slice HO156.out; subst eo30) | ((with_reducible refine gate_callee (f := 10) rfl ?_); refine goesL_ (some 11) rfl rfl Try.func10 (by kernel_rfl) rfl #[.slice Ao30 y154.length co30] rfl (by (try simp only [List.map_toArray, List.map_cons, List.map_nil]); first | done | rfl | (simp only [List.length_drop, List.length_take]; rfl)) ?_; (with_reducible refine (code_Decode.calls _ _ y154 t157 _ ?side1 ?side2 A2.out).mono ?_); (case side1 => repeat (first | exact (Kd.R_reads' HO156.out).2.2 | (with_reducible refine Kd.C_alloc ?_ _) | (with_reducible refine Kd.C_drewN ?_ _) | (with_reducible refine Kd.C_drew ?_))); (case side2 => exact (Kd.R_reads' HO156.out).2.1); rintro e w31 ⟨v158, rfl, ho0, hb⟩; refine ⟨_, rfl, ?_⟩; have n0_ := Aside0.mk (Kd.S_below (by (with_reducible repeat (first | apply Kd.S_alloc | apply Kd.S_drewN | apply Kd.S_drew)); exact HO149.out) hb); have n1_ := Aside0.mk (Kd.R_below (by (with_reducible repeat (first | apply Kd.R_alloc | apply Kd.R_drewN | apply Kd.R_drew)); exact HO153.out) hb); have n2_ := Aside0.mk (Kd.R_below (by (with_reducible repeat (first | apply Kd.R_alloc | apply Kd.R_drewN | apply Kd.R_drew)); exact HO156.out) hb); have n3_ := Aside0.mk (Kd.S_lower ho0 (below_size (by repeat (first | (with_reducible first | exact HB.out | apply below_alloc | apply pw_below_drewN | apply below_drew1) | exact HB.out)))); have n4_ := Aside0.mk (below_step (by repeat (first | (with_reducible first | exact HB.out | apply below_alloc | apply pw_below_drewN | apply below_drew1) | exact HB.out)) hb); clear HO149; clear HO153; clear HO156; clear HB; have HO149 := n0_; have HO153 := n1_; have HO156 := n2_; have HO159 := n3_; have HB := n4_; clear n0_ n1_ n2_ n3_ n4_; (try clear hb); (try clear hb2); (try clear hk); (try clear hi); (try clear ho0)) | ((with_reducible refine gate_dst (N := 16) rfl ?_); (try (refine gate_guard (by rfl) ?_; dsimp only)); refine Kd.R_lit (Kd.int .u8) _ 5 ?hg (N := 16) ?hd (xs := ([11, 1, 2] : List Int)) (inner := [.int .u8 11, .int .u8 1, .int .u8 2]) (ok := fun _ => True) (okp := fun _ => True) ?hr ?hp (fun _ hk => hk) trivial (Below.refl _ _) (Nat.le_refl _) (by simp) ?_; (case hd => rfl); (case hg => rfl); (case hr => first | (go_simp; done) | (go_simp; rfl)); (case hp => exact (Reps.one (show Kd.M (Kd.int .u8) _ _ _ 11 [.int .u8 11] from rfl) (Reps.one (show Kd.M (Kd.int .u8) _ _ _ 1 [.int .u8 1] from rfl) (Reps.one (show Kd.M (Kd.int .u8) _ _ _ 2 [.int .u8 2] from rfl) (Reps.none _ _))))); intro v161 w32 ho33 hb hg_ hnew_; clear hg_ hnew_; (first | rw [← Ny160.out] at ho33 | (simp only [Int.reduceToNat] at ho33; rw [← Ny160.out] at ho33)); have n0_ := Aside0.mk (Kd.S_below (by (with_reducible repeat (first | apply Kd.S_alloc | apply Kd.S_drewN | apply Kd.S_drew)); exact HO149.out) hb); have n1_ := Aside0.mk (Kd.R_elder' (by (with_reducible repeat (first | apply Kd.R_alloc | apply Kd.R_drewN | apply Kd.R_drew)); exact HO153.out) (Kd.R_base ho33) hb); have n2_ := Aside0.mk (Kd.R_elder' (by (with_reducible repeat (first | apply Kd.R_alloc | apply Kd.R_drewN | apply Kd.R_drew)); exact HO156.out) (Kd.R_base ho33) hb); have n3_ := Aside0.mk (Kd.S_below (by (with_reducible repeat (first | apply Kd.S_alloc | apply Kd.S_drewN | apply Kd.S_drew)); exact HO159.out) hb); have n4_ := Aside0.mk (Kd.R_lower (Kd.R_new' (Kd.R_new' ho33 (Kd.R_lt (by (with_reducible repeat (first | apply Kd.R_alloc | apply Kd.R_drewN | apply Kd.R_drew)); exact HO153.out))) (Kd.R_lt (by (with_reducible repeat (first | apply Kd.R_alloc | apply Kd.R_drewN | apply Kd.R_drew)); exact HO156.out))) (below_size (by repeat (first | (with_reducible first | exact HB.out | apply below_alloc | apply pw_below_drewN | apply below_drew1) | exact HB.out)))); have n5_ := Aside0.mk (below_step (by repeat (first | (with_reducible first | exact HB.out | apply below_alloc | apply pw_below_drewN | apply below_drew1) | exact HB.out)) hb); clear HO149; clear HO153; clear HO156; clear HO159; clear HB; have HO149 := n0_; have HO153 := n1_; have HO156 := n2_; have HO159 := n3_; have HO162 := n4_; have HB := n5_; clear n0_ n1_ n2_ n3_ n4_ n5_; clear hb ho33; obtain ⟨Ao34, co34, eo34⟩ := Kd.R_slice HO153.out; subst eo34; obtain ⟨Ao35, co35, eo35⟩ := Kd.R_slice HO162.out; subst eo35) | (go_at_call 11; (with_reducible refine (temperaref21_Bytes.calls k _ _ t150 _ _ y160 true _ ?side1 ?side2 ?side3 ?side4 A4.out).mono ?_); (case side1 => repeat (first | exact (Kd.R_reads' HO153.out).2.2 | (with_reducible refine Kd.C_alloc ?_ _) | (with_reducible refine Kd.C_drewN ?_ _) | (with_reducible refine Kd.C_drew ?_))); (case side2 => exact (Kd.R_reads' HO153.out).2.1); (case side3 => repeat (first | exact (Kd.R_reads' HO162.out).2.2 | (with_reducible refine Kd.C_alloc ?_ _) | (with_reducible refine Kd.C_drewN ?_ _) | (with_reducible refine Kd.C_drew ?_))); (case side4 => exact (Kd.R_reads' HO162.out).2.1); rintro e w' ⟨rfl, ⟨nd, rfl⟩⟩; obtain ⟨Ao36, co36, eo36⟩ := Kd.S_slice HO159.out; subst eo36; have p164 : 0 ≤ (0 : Int) := (by omega); have q164 : 0 < (t157.length : Int) := of_decide_eq_true (by first | (with_reducible assumption) | assumption); obtain ⟨ad164, A164_6, c164_6, A164_7, c164_7, e164, hx164_0, hx164_1, hx164_2, hx164_3, hx164_4, hx164_5, hx164_6, hx164_7, hx164_8, hl164_6, hi164_6, hl164_7, hi164_7⟩ := at_T39 (Kd.S_reads' HO159.out).2.2 0 p164 q164; cases e164; obtain ⟨ce164, hce164, hMe164, hcc164⟩ := Kd.S_get HO159.out z39 0 p164 (by first | exact q164 | exact of_decide_eq_true (by first | (with_reducible assumption) | assumption) | (have e_ := (Kd.S_reads' HO159.out).1; omega)); obtain ⟨ve164_6, ve164_7, rfl, ge164_6, ge164_7⟩ := k39_openM hMe164; have hv164_6 := hcc164 6 _ rfl; rw [add_field _ _ 6 (by omega)] at hv164_6; replace hv164_6 := Option.some.inj (hv164_6.symm.trans hx164_6); rw [hv164_6] at ge164_6; have HL164_6 := Aside0.mk (show Kd.R (Kd.int .i64) 3 _ _ _ _ ((rd_T39 t157 0).f0.f6) from ge164_6); clear hv164_6 ge164_6; have hv164_7 := hcc164 7 _ rfl; rw [add_field _ _ 7 (by omega)] at hv164_7; replace hv164_7 := Option.some.inj (hv164_7.symm.trans hx164_7); rw [hv164_7] at ge164_7; have HL164_7 := Aside0.mk (show Kd.R k62 62 _ _ _ _ ((rd_T39 t157 0).f0.f7) from ge164_7); clear hv164_7 ge164_7; clear hcc164 hce164; have qi164 : (0 < t157.length) = True := eq_true (by omega); (try rw [show ((0 : Int)).toNat = 0 from rfl] at hx164_0); (try rw [show 0 * 9 = 0 from rfl] at hx164_0); (try rw [Addr.add_zero'] at hx164_0); (try rw [show ((0 : Int)).toNat = 0 from rfl] at hx164_1); (try rw [show 0 * 9 = 0 from rfl] at hx164_1); (try rw [Addr.add_zero'] at hx164_1); (try rw [show ((0 : Int)).toNat = 0 from rfl] at hx164_2); (try rw [show 0 * 9 = 0 from rfl] at hx164_2); (try rw [Addr.add_zero'] at hx164_2); (try rw [show ((0 : Int)).toNat = 0 from rfl] at hx164_3); (try rw [show 0 * 9 = 0 from rfl] at hx164_3); (try rw [Addr.add_zero'] at hx164_3); (try rw [show ((0 : Int)).toNat = 0 from rfl] at hx164_4); (try rw [show 0 * 9 = 0 from rfl] at hx164_4); (try rw [Addr.add_zero'] at hx164_4); (try rw [show ((0 : Int)).toNat = 0 from rfl] at hx164_5); (try rw [show 0 * 9 = 0 from rfl] at hx164_5); (try rw [Addr.add_zero'] at hx164_5); (try rw [show ((0 : Int)).toNat = 0 from rfl] at hx164_6); (try rw [show 0 * 9 = 0 from rfl] at hx164_6); (try rw [Addr.add_zero'] at hx164_6); (try rw [show ((0 : Int)).toNat = 0 from rfl] at hx164_7); (try rw [show 0 * 9 = 0 from rfl] at hx164_7); (try rw [Addr.add_zero'] at hx164_7); (try rw [show ((0 : Int)).toNat = 0 from rfl] at hx164_8); (try rw [show 0 * 9 = 0 from rfl] at hx164_8); (try rw [Addr.add_zero'] at hx164_8); have HR164_6 := Aside0.mk hi164_6; have HC164_6 := Aside0.mk hl164_6; clear hi164_6 hl164_6; have HR164_7 := Aside0.mk hi164_7; have HC164_7 := Aside0.mk hl164_7; clear hi164_7 hl164_7; replace p164 := eq_true p164; replace q164 := eq_true q164; have p165 : 0 ≤ (0 : Int) := (by omega); have q165 : 0 < (t157.length : Int) := of_decide_eq_true (by first | (with_reducible assumption) | assumption); obtain ⟨ad165, A165_6, c165_6, A165_7, c165_7, e165, hx165_0, hx165_1, hx165_2, hx165_3, hx165_4, hx165_5, hx165_6, hx165_7, hx165_8, hl165_6, hi165_6, hl165_7, hi165_7⟩ := at_T39 (Kd.S_reads' HO159.out).2.2 0 p165 q165; obtain rfl : ad164 = ad165 := (by injection e165); obtain ⟨ce165, hce165, hMe165, hcc165⟩ := Kd.S_get HO159.out z39 0 p165 (by first | exact q165 | exact of_decide_eq_true (by first | (with_reducible assumption) | assumption) | (have e_ := (Kd.S_reads' HO159.out).1; omega)); obtain ⟨ve165_6, ve165_7, rfl, ge165_6, ge165_7⟩ := k39_openM hMe165; have hv165_6 := hcc165 6 _ rfl; rw [add_field _ _ 6 (by omega)] at hv165_6; replace hv165_6 := Option.some.inj (hv165_6.symm.trans hx165_6); rw [hv165_6] at ge165_6; have HL165_6 := Aside0.mk (show Kd.R (Kd.int .i64) 3 _ _ _ _ ((rd_T39 t157 0).f0.f6) from ge165_6); clear hv165_6 ge165_6; have hv165_7 := hcc165 7 _ rfl; rw [add_field _ _ 7 (by omega)] at hv165_7; replace hv165_7 := Option.some.inj (hv165_7.symm.trans hx165_7); rw [hv165_7] at ge165_7; have HL165_7 := Aside0.mk (show Kd.R k62 62 _ _ _ _ ((rd_T39 t157 0).f0.f7) from ge165_7); clear hv165_7 ge165_7; clear hcc165 hce165; have qi165 : (0 < t157.length) = True := eq_true (by omega); (try rw [show ((0 : Int)).toNat = 0 from rfl] at hx165_0); (try rw [show 0 * 9 = 0 from rfl] at hx165_0); (try rw [Addr.add_zero'] at hx165_0); (try rw [show ((0 : Int)).toNat = 0 from rfl] at hx165_1); (try rw [show 0 * 9 = 0 from rfl] at hx165_1); (try rw [Addr.add_zero'] at hx165_1); (try rw [show ((0 : Int)).toNat = 0 from rfl] at hx165_2); (try rw [show 0 * 9 = 0 from rfl] at hx165_2); (try rw [Addr.add_zero'] at hx165_2); (try rw [show ((0 : Int)).toNat = 0 from rfl] at hx165_3); (try rw [show 0 * 9 = 0 from rfl] at hx165_3); (try rw [Addr.add_zero'] at hx165_3); (try rw [show ((0 : Int)).toNat = 0 from rfl] at hx165_4); (try rw [show 0 * 9 = 0 from rfl] at hx165_4); (try rw [Addr.add_zero'] at hx165_4); (try rw [show ((0 : Int)).toNat = 0 from rfl] at hx165_5); (try rw [show 0 * 9 = 0 from rfl] at hx165_5); (try rw [Addr.add_zero'] at hx165_5); (try rw [show ((0 : Int)).toNat = 0 from rfl] at hx165_6); (try rw [show 0 * 9 = 0 from rfl] at hx165_6); (try rw [Addr.add_zero'] at hx165_6); (try rw [show ((0 : Int)).toNat = 0 from rfl] at hx165_7); (try rw [show 0 * 9 = 0 from rfl] at hx165_7); (try rw [Addr.add_zero'] at hx165_7); (try rw [show ((0 : Int)).toNat = 0 from rfl] at hx165_8); (try rw [show 0 * 9 = 0 from rfl] at hx165_8); (try rw [Addr.add_zero'] at hx165_8); have HR165_6 := Aside0.mk hi165_6; have HC165_6 := Aside0.mk hl165_6; clear hi165_6 hl165_6; have HR165_7 := Aside0.mk hi165_7; have HC165_7 := Aside0.mk hl165_7; clear hi165_7 hl165_7; replace p165 := eq_true p165; replace q165 := eq_true q165; have ea_ := Option.some.inj (hx164_6.symm.trans hx165_6); injection ea_ with ea_ en_ ec_; subst ea_; subst ec_; clear en_; have ea_ := Option.some.inj (hx164_7.symm.trans hx165_7); injection ea_ with ea_ en_ ec_; subst ea_; subst ec_; clear en_))
       go_ret
       exact ⟨by first | rfl | (simp [errW_none, errW_some] <;> rfl) | (simp [*, errW_none, errW_some] <;> rfl), by repeat (first | (with_reducible first | exact HB.out | apply below_alloc | apply pw_below_drewN | apply below_drew1) | exact HB.out)⟩
     ·rw [if_neg c8] at H
      have c8b0 : (((rd_T39 t157 0).f0.f2) == 1) = false := beq_eq_false_iff_ne.mpr c8
      have c8b1 : (((rd_T39 t157 0).f0.f2) != 1) = true := bne_iff_ne.mpr c8
      obtain rfl := Option.some.inj H
      go_enter Try.func7, Try.ntmps7
      go_wp2_with (first | ((with_reducible refine gate_dst (N := 6) rfl ?_); (try (refine gate_guard (by rfl) ?_; dsimp only)); refine Kd.S_lit k37 _ 37 ?hg (N := 6) ?hd (xs := ([(⟨11, 0, 1, 0, 0, 0, ([] : List Int), ([] : List (S62))⟩ : S37)] : List (S37))) (inner := [.int .i64 11, .int .i64 0, .int .i64 1, .int .i64 0, .int .i64 0, .int .i64 0, .slice none 0 0, .slice none 0 0]) (ok := fun _ => True) (okp := fun _ => True) ?hr ?hp (fun _ hk => hk) trivial (Below.refl _ _) (Nat.le_refl _) (by simp) ?_; (case hd => rfl); (case hg => rfl); (case hr => first | (go_simp; done) | (go_simp; rfl)); (case hp => exact (Reps.c8 (show Kd.M k37 _ _ _ (⟨11, 0, 1, 0, 0, 0, ([] : List Int), ([] : List (S62))⟩ : S37) [.int .i64 11, .int .i64 0, .int .i64 1, .int .i64 0, .int .i64 0, .int .i64 0, .slice none 0 0, .slice none 0 0] from (k37_mkM _ _ _ (⟨11, 0, 1, 0, 0, 0, ([] : List Int), ([] : List (S62))⟩ : S37) (Kd.R_nil _ _ _ _ _) (Kd.R_nil _ _ _ _ _))) (Reps.none _ _))); intro v148 w37 ho38 hb hg_ hnew_; clear hg_ hnew_; (first | rw [← Ny147.out] at ho38 | (simp only [Int.reduceToNat] at ho38; rw [← Ny147.out] at ho38)); have n0_ := Aside0.mk (Kd.S_lower ho38 (below_size (by repeat (first | (with_reducible first | exact HB.out | apply below_alloc | apply pw_below_drewN | apply below_drew1) | exact HB.out)))); have n1_ := Aside0.mk (below_step (by repeat (first | (with_reducible first | exact HB.out | apply below_alloc | apply pw_below_drewN | apply below_drew1) | exact HB.out)) hb); clear HB; have HO149 := n0_; have HB := n1_; clear n0_ n1_; clear hb ho38; obtain ⟨Ao39, co39, eo39⟩ := Kd.S_slice HO149.out; subst eo39) | ((with_reducible refine gate_callee (f := 8) rfl ?_); refine goesL_ (some 7) rfl rfl Try.func8 (by kernel_rfl) rfl #[.slice Ao39 y147.length co39] rfl (by (try simp only [List.map_toArray, List.map_cons, List.map_nil]); first | done | rfl | (simp only [List.length_drop, List.length_take]; rfl)) ?_; (with_reducible refine (code_Encode.calls k _ _ y147 t150 t151 _ ?side1 ?side2 A1.out).mono ?_); (case side1 => repeat (first | exact (Kd.S_reads' HO149.out).2.2 | (with_reducible refine Kd.C_alloc ?_ _) | (with_reducible refine Kd.C_drewN ?_ _) | (with_reducible refine Kd.C_drew ?_))); (case side2 => exact (Kd.S_reads' HO149.out).2.1); rintro e w40 ⟨v152, rfl, ho0, hb⟩; refine ⟨_, rfl, ?_⟩; have n0_ := Aside0.mk (Kd.S_below (by (with_reducible repeat (first | apply Kd.S_alloc | apply Kd.S_drewN | apply Kd.S_drew)); exact HO149.out) hb); have n1_ := Aside0.mk (Kd.R_lower ho0 (below_size (by repeat (first | (with_reducible first | exact HB.out | apply below_alloc | apply pw_below_drewN | apply below_drew1) | exact HB.out)))); have n2_ := Aside0.mk (below_step (by repeat (first | (with_reducible first | exact HB.out | apply below_alloc | apply pw_below_drewN | apply below_drew1) | exact HB.out)) hb); clear HO149; clear HB; have HO149 := n0_; have HO153 := n1_; have HB := n2_; clear n0_ n1_ n2_; (try clear hb); (try clear hb2); (try clear hk); (try clear hi); (try clear ho0)) | ((with_reducible refine gate_dst (N := 10) rfl ?_); (try (refine gate_guard (by rfl) ?_; dsimp only)); refine Kd.R_lit (Kd.int .u8) _ 5 ?hg (N := 10) ?hd (xs := ([11, 1, 2, 99] : List Int)) (inner := [.int .u8 11, .int .u8 1, .int .u8 2, .int .u8 99]) (ok := fun _ => True) (okp := fun _ => True) ?hr ?hp (fun _ hk => hk) trivial (Below.refl _ _) (Nat.le_refl _) (by simp) ?_; (case hd => rfl); (case hg => rfl); (case hr => first | (go_simp; done) | (go_simp; rfl)); (case hp => exact (Reps.one (show Kd.M (Kd.int .u8) _ _ _ 11 [.int .u8 11] from rfl) (Reps.one (show Kd.M (Kd.int .u8) _ _ _ 1 [.int .u8 1] from rfl) (Reps.one (show Kd.M (Kd.int .u8) _ _ _ 2 [.int .u8 2] from rfl) (Reps.one (show Kd.M (Kd.int .u8) _ _ _ 99 [.int .u8 99] from rfl) (Reps.none _ _)))))); intro v155 w41 ho42 hb hg_ hnew_; clear hg_ hnew_; (first | rw [← Ny154.out] at ho42 | (simp only [Int.reduceToNat] at ho42; rw [← Ny154.out] at ho42)); have n0_ := Aside0.mk (Kd.S_below (by (with_reducible repeat (first | apply Kd.S_alloc | apply Kd.S_drewN | apply Kd.S_drew)); exact HO149.out) hb); have n1_ := Aside0.mk (Kd.R_elder' (by (with_reducible repeat (first | apply Kd.R_alloc | apply Kd.R_drewN | apply Kd.R_drew)); exact HO153.out) (Kd.R_base ho42) hb); have n2_ := Aside0.mk (Kd.R_lower (Kd.R_new' ho42 (Kd.R_lt (by (with_reducible repeat (first | apply Kd.R_alloc | apply Kd.R_drewN | apply Kd.R_drew)); exact HO153.out))) (below_size (by repeat (first | (with_reducible first | exact HB.out | apply below_alloc | apply pw_below_drewN | apply below_drew1) | exact HB.out)))); have n3_ := Aside0.mk (below_step (by repeat (first | (with_reducible first | exact HB.out | apply below_alloc | apply pw_below_drewN | apply below_drew1) | exact HB.out)) hb); clear HO149; clear HO153; clear HB; have HO149 := n0_; have HO153 := n1_; have HO156 := n2_; have HB := n3_; clear n0_ n1_ n2_ n3_; clear hb ho42; obtain ⟨Ao43, co43, eo43⟩ := Kd.R_slice HO156.out; subst eo43) | ((with_reducible refine gate_callee (f := 10) rfl ?_); refine goesL_ (some 11) rfl rfl Try.func10 (by kernel_rfl) rfl #[.slice Ao43 y154.length co43] rfl (by (try simp only [List.map_toArray, List.map_cons, List.map_nil]); first | done | rfl | (simp only [List.length_drop, List.length_take]; rfl)) ?_; (with_reducible refine (code_Decode.calls _ _ y154 t157 _ ?side1 ?side2 A2.out).mono ?_); (case side1 => repeat (first | exact (Kd.R_reads' HO156.out).2.2 | (with_reducible refine Kd.C_alloc ?_ _) | (with_reducible refine Kd.C_drewN ?_ _) | (with_reducible refine Kd.C_drew ?_))); (case side2 => exact (Kd.R_reads' HO156.out).2.1); rintro e w44 ⟨v158, rfl, ho0, hb⟩; refine ⟨_, rfl, ?_⟩; have n0_ := Aside0.mk (Kd.S_below (by (with_reducible repeat (first | apply Kd.S_alloc | apply Kd.S_drewN | apply Kd.S_drew)); exact HO149.out) hb); have n1_ := Aside0.mk (Kd.R_below (by (with_reducible repeat (first | apply Kd.R_alloc | apply Kd.R_drewN | apply Kd.R_drew)); exact HO153.out) hb); have n2_ := Aside0.mk (Kd.R_below (by (with_reducible repeat (first | apply Kd.R_alloc | apply Kd.R_drewN | apply Kd.R_drew)); exact HO156.out) hb); have n3_ := Aside0.mk (Kd.S_lower ho0 (below_size (by repeat (first | (with_reducible first | exact HB.out | apply below_alloc | apply pw_below_drewN | apply below_drew1) | exact HB.out)))); have n4_ := Aside0.mk (below_step (by repeat (first | (with_reducible first | exact HB.out | apply below_alloc | apply pw_below_drewN | apply below_drew1) | exact HB.out)) hb); clear HO149; clear HO153; clear HO156; clear HB; have HO149 := n0_; have HO153 := n1_; have HO156 := n2_; have HO159 := n3_; have HB := n4_; clear n0_ n1_ n2_ n3_ n4_; (try clear hb); (try clear hb2); (try clear hk); (try clear hi); (try clear ho0)) | ((with_reducible refine gate_dst (N := 16) rfl ?_); (try (refine gate_guard (by rfl) ?_; dsimp only)); refine Kd.R_lit (Kd.int .u8) _ 5 ?hg (N := 16) ?hd (xs := ([11, 1, 2] : List Int)) (inner := [.int .u8 11, .int .u8 1, .int .u8 2]) (ok := fun _ => True) (okp := fun _ => True) ?hr ?hp (fun _ hk => hk) trivial (Below.refl _ _) (Nat.le_refl _) (by simp) ?_; (case hd => rfl); (case hg => rfl); (case hr => first | (go_simp; done) | (go_simp; rfl)); (case hp => exact (Reps.one (show Kd.M (Kd.int .u8) _ _ _ 11 [.int .u8 11] from rfl) (Reps.one (show Kd.M (Kd.int .u8) _ _ _ 1 [.int .u8 1] from rfl) (Reps.one (show Kd.M (Kd.int .u8) _ _ _ 2 [.int .u8 2] from rfl) (Reps.none _ _))))); intro v161 w45 ho46 hb hg_ hnew_; clear hg_ hnew_; (first | rw [← Ny160.out] at ho46 | (simp only [Int.reduceToNat] at ho46; rw [← Ny160.out] at ho46)); have n0_ := Aside0.mk (Kd.S_below (by (with_reducible repeat (first | apply Kd.S_alloc | apply Kd.S_drewN | apply Kd.S_drew)); exact HO149.out) hb); have n1_ := Aside0.mk (Kd.R_elder' (by (with_reducible repeat (first | apply Kd.R_alloc | apply Kd.R_drewN | apply Kd.R_drew)); exact HO153.out) (Kd.R_base ho46) hb); have n2_ := Aside0.mk (Kd.R_elder' (by (with_reducible repeat (first | apply Kd.R_alloc | apply Kd.R_drewN | apply Kd.R_drew)); exact HO156.out) (Kd.R_base ho46) hb); have n3_ := Aside0.mk (Kd.S_below (by (with_reducible repeat (first | apply Kd.S_alloc | apply Kd.S_drewN | apply Kd.S_drew)); exact HO159.out) hb); have n4_ := Aside0.mk (Kd.R_lower (Kd.R_new' (Kd.R_new' ho46 (Kd.R_lt (by (with_reducible repeat (first | apply Kd.R_alloc | apply Kd.R_drewN | apply Kd.R_drew)); exact HO153.out))) (Kd.R_lt (by (with_reducible repeat (first | apply Kd.R_alloc | apply Kd.R_drewN | apply Kd.R_drew)); exact HO156.out))) (below_size (by repeat (first | (with_reducible first | exact HB.out | apply below_alloc | apply pw_below_drewN | apply below_drew1) | exact HB.out)))); have n5_ := Aside0.mk (below_step (by repeat (first | (with_reducible first | exact HB.out | apply below_alloc | apply pw_below_drewN | apply below_drew1) | exact HB.out)) hb); clear HO149; clear HO153; clear HO156; clear HO159; clear HB; have HO149 := n0_; have HO153 := n1_; have HO156 := n2_; have HO159 := n3_; have HO162 := n4_; have HB := n5_; clear n0_ n1_ n2_ n3_ n4_ n5_; clear hb ho46; obtain ⟨Ao47, co47, eo47⟩ := Kd.R_slice HO153.out; subst eo47; obtain ⟨Ao48, co48, eo48⟩ := Kd.R_slice HO162.out; subst eo48) | (go_at_call 11; (with_reducible refine (temperaref21_Bytes.calls k _ _ t150 _ _ y160 true _ ?side1 ?side2 ?side3 ?side4 A4.out).mono ?_); (case side1 => repeat (first | exact (Kd.R_reads' HO153.out).2.2 | (with_reducible refine Kd.C_alloc ?_ _) | (with_reducible refine Kd.C_drewN ?_ _) | (with_reducible refine Kd.C_drew ?_))); (case side2 => exact (Kd.R_reads' HO153.out).2.1); (case side3 => repeat (first | exact (Kd.R_reads' HO162.out).2.2 | (with_reducible refine Kd.C_alloc ?_ _) | (with_reducible refine Kd.C_drewN ?_ _) | (with_reducible refine Kd.C_drew ?_))); (case side4 => exact (Kd.R_reads' HO162.out).2.1); rintro e w' ⟨rfl, ⟨nd, rfl⟩⟩; obtain ⟨Ao49, co49, eo49⟩ := Kd.S_slice HO159.out; subst eo49; have p164 : 0 ≤ (0 : Int) := (by omega); have q164 : 0 < (t157.length : Int) := of_decide_eq_true (by first | (with_reducible assumption) | assumption); obtain ⟨ad164, A164_6, c164_6, A164_7, c164_7, e164, hx164_0, hx164_1, hx164_2, hx164_3, hx164_4, hx164_5, hx164_6, hx164_7, hx164_8, hl164_6, hi164_6, hl164_7, hi164_7⟩ := at_T39 (Kd.S_reads' HO159.out).2.2 0 p164 q164; cases e164; obtain ⟨ce164, hce164, hMe164, hcc164⟩ := Kd.S_get HO159.out z39 0 p164 (by first | exact q164 | exact of_decide_eq_true (by first | (with_reducible assumption) | assumption) | (have e_ := (Kd.S_reads' HO159.out).1; omega)); obtain ⟨ve164_6, ve164_7, rfl, ge164_6, ge164_7⟩ := k39_openM hMe164; have hv164_6 := hcc164 6 _ rfl; rw [add_field _ _ 6 (by omega)] at hv164_6; replace hv164_6 := Option.some.inj (hv164_6.symm.trans hx164_6); rw [hv164_6] at ge164_6; have HL164_6 := Aside0.mk (show Kd.R (Kd.int .i64) 3 _ _ _ _ ((rd_T39 t157 0).f0.f6) from ge164_6); clear hv164_6 ge164_6; have hv164_7 := hcc164 7 _ rfl; rw [add_field _ _ 7 (by omega)] at hv164_7; replace hv164_7 := Option.some.inj (hv164_7.symm.trans hx164_7); rw [hv164_7] at ge164_7; have HL164_7 := Aside0.mk (show Kd.R k62 62 _ _ _ _ ((rd_T39 t157 0).f0.f7) from ge164_7); clear hv164_7 ge164_7; clear hcc164 hce164; have qi164 : (0 < t157.length) = True := eq_true (by omega); (try rw [show ((0 : Int)).toNat = 0 from rfl] at hx164_0); (try rw [show 0 * 9 = 0 from rfl] at hx164_0); (try rw [Addr.add_zero'] at hx164_0); (try rw [show ((0 : Int)).toNat = 0 from rfl] at hx164_1); (try rw [show 0 * 9 = 0 from rfl] at hx164_1); (try rw [Addr.add_zero'] at hx164_1); (try rw [show ((0 : Int)).toNat = 0 from rfl] at hx164_2); (try rw [show 0 * 9 = 0 from rfl] at hx164_2); (try rw [Addr.add_zero'] at hx164_2); (try rw [show ((0 : Int)).toNat = 0 from rfl] at hx164_3); (try rw [show 0 * 9 = 0 from rfl] at hx164_3); (try rw [Addr.add_zero'] at hx164_3); (try rw [show ((0 : Int)).toNat = 0 from rfl] at hx164_4); (try rw [show 0 * 9 = 0 from rfl] at hx164_4); (try rw [Addr.add_zero'] at hx164_4); (try rw [show ((0 : Int)).toNat = 0 from rfl] at hx164_5); (try rw [show 0 * 9 = 0 from rfl] at hx164_5); (try rw [Addr.add_zero'] at hx164_5); (try rw [show ((0 : Int)).toNat = 0 from rfl] at hx164_6); (try rw [show 0 * 9 = 0 from rfl] at hx164_6); (try rw [Addr.add_zero'] at hx164_6); (try rw [show ((0 : Int)).toNat = 0 from rfl] at hx164_7); (try rw [show 0 * 9 = 0 from rfl] at hx164_7); (try rw [Addr.add_zero'] at hx164_7); (try rw [show ((0 : Int)).toNat = 0 from rfl] at hx164_8); (try rw [show 0 * 9 = 0 from rfl] at hx164_8); (try rw [Addr.add_zero'] at hx164_8); have HR164_6 := Aside0.mk hi164_6; have HC164_6 := Aside0.mk hl164_6; clear hi164_6 hl164_6; have HR164_7 := Aside0.mk hi164_7; have HC164_7 := Aside0.mk hl164_7; clear hi164_7 hl164_7; replace p164 := eq_true p164; replace q164 := eq_true q164))
      go_ret
      exact ⟨by first | rfl | (simp [errW_none, errW_some] <;> rfl) | (simp [*, errW_none, errW_some] <;> rfl), by repeat (first | (with_reducible first | exact HB.out | apply below_alloc | apply pw_below_drewN | apply below_drew1) | exact HB.out)⟩
    ·rw [if_neg c7] at H
     exact absurd H (by simp)
   ·rw [if_neg c6] at H
    have c6b0 : ((t157.length : Int) == 2) = false := beq_eq_false_iff_ne.mpr c6
    have c6b1 : ((t157.length : Int) != 2) = true := bne_iff_ne.mpr c6
    obtain rfl := Option.some.inj H
    go_enter Try.func7, Try.ntmps7
    go_wp2_with (first | ((with_reducible refine gate_dst (N := 6) rfl ?_); (try (refine gate_guard (by rfl) ?_; dsimp only)); refine Kd.S_lit k37 _ 37 ?hg (N := 6) ?hd (xs := ([(⟨11, 0, 1, 0, 0, 0, ([] : List Int), ([] : List (S62))⟩ : S37)] : List (S37))) (inner := [.int .i64 11, .int .i64 0, .int .i64 1, .int .i64 0, .int .i64 0, .int .i64 0, .slice none 0 0, .slice none 0 0]) (ok := fun _ => True) (okp := fun _ => True) ?hr ?hp (fun _ hk => hk) trivial (Below.refl _ _) (Nat.le_refl _) (by simp) ?_; (case hd => rfl); (case hg => rfl); (case hr => first | (go_simp; done) | (go_simp; rfl)); (case hp => exact (Reps.c8 (show Kd.M k37 _ _ _ (⟨11, 0, 1, 0, 0, 0, ([] : List Int), ([] : List (S62))⟩ : S37) [.int .i64 11, .int .i64 0, .int .i64 1, .int .i64 0, .int .i64 0, .int .i64 0, .slice none 0 0, .slice none 0 0] from (k37_mkM _ _ _ (⟨11, 0, 1, 0, 0, 0, ([] : List Int), ([] : List (S62))⟩ : S37) (Kd.R_nil _ _ _ _ _) (Kd.R_nil _ _ _ _ _))) (Reps.none _ _))); intro v148 w50 ho51 hb hg_ hnew_; clear hg_ hnew_; (first | rw [← Ny147.out] at ho51 | (simp only [Int.reduceToNat] at ho51; rw [← Ny147.out] at ho51)); have n0_ := Aside0.mk (Kd.S_lower ho51 (below_size (by repeat (first | (with_reducible first | exact HB.out | apply below_alloc | apply pw_below_drewN | apply below_drew1) | exact HB.out)))); have n1_ := Aside0.mk (below_step (by repeat (first | (with_reducible first | exact HB.out | apply below_alloc | apply pw_below_drewN | apply below_drew1) | exact HB.out)) hb); clear HB; have HO149 := n0_; have HB := n1_; clear n0_ n1_; clear hb ho51; obtain ⟨Ao52, co52, eo52⟩ := Kd.S_slice HO149.out; subst eo52) | ((with_reducible refine gate_callee (f := 8) rfl ?_); refine goesL_ (some 7) rfl rfl Try.func8 (by kernel_rfl) rfl #[.slice Ao52 y147.length co52] rfl (by (try simp only [List.map_toArray, List.map_cons, List.map_nil]); first | done | rfl | (simp only [List.length_drop, List.length_take]; rfl)) ?_; (with_reducible refine (code_Encode.calls k _ _ y147 t150 t151 _ ?side1 ?side2 A1.out).mono ?_); (case side1 => repeat (first | exact (Kd.S_reads' HO149.out).2.2 | (with_reducible refine Kd.C_alloc ?_ _) | (with_reducible refine Kd.C_drewN ?_ _) | (with_reducible refine Kd.C_drew ?_))); (case side2 => exact (Kd.S_reads' HO149.out).2.1); rintro e w53 ⟨v152, rfl, ho0, hb⟩; refine ⟨_, rfl, ?_⟩; have n0_ := Aside0.mk (Kd.S_below (by (with_reducible repeat (first | apply Kd.S_alloc | apply Kd.S_drewN | apply Kd.S_drew)); exact HO149.out) hb); have n1_ := Aside0.mk (Kd.R_lower ho0 (below_size (by repeat (first | (with_reducible first | exact HB.out | apply below_alloc | apply pw_below_drewN | apply below_drew1) | exact HB.out)))); have n2_ := Aside0.mk (below_step (by repeat (first | (with_reducible first | exact HB.out | apply below_alloc | apply pw_below_drewN | apply below_drew1) | exact HB.out)) hb); clear HO149; clear HB; have HO149 := n0_; have HO153 := n1_; have HB := n2_; clear n0_ n1_ n2_; (try clear hb); (try clear hb2); (try clear hk); (try clear hi); (try clear ho0)) | ((with_reducible refine gate_dst (N := 10) rfl ?_); (try (refine gate_guard (by rfl) ?_; dsimp only)); refine Kd.R_lit (Kd.int .u8) _ 5 ?hg (N := 10) ?hd (xs := ([11, 1, 2, 99] : List Int)) (inner := [.int .u8 11, .int .u8 1, .int .u8 2, .int .u8 99]) (ok := fun _ => True) (okp := fun _ => True) ?hr ?hp (fun _ hk => hk) trivial (Below.refl _ _) (Nat.le_refl _) (by simp) ?_; (case hd => rfl); (case hg => rfl); (case hr => first | (go_simp; done) | (go_simp; rfl)); (case hp => exact (Reps.one (show Kd.M (Kd.int .u8) _ _ _ 11 [.int .u8 11] from rfl) (Reps.one (show Kd.M (Kd.int .u8) _ _ _ 1 [.int .u8 1] from rfl) (Reps.one (show Kd.M (Kd.int .u8) _ _ _ 2 [.int .u8 2] from rfl) (Reps.one (show Kd.M (Kd.int .u8) _ _ _ 99 [.int .u8 99] from rfl) (Reps.none _ _)))))); intro v155 w54 ho55 hb hg_ hnew_; clear hg_ hnew_; (first | rw [← Ny154.out] at ho55 | (simp only [Int.reduceToNat] at ho55; rw [← Ny154.out] at ho55)); have n0_ := Aside0.mk (Kd.S_below (by (with_reducible repeat (first | apply Kd.S_alloc | apply Kd.S_drewN | apply Kd.S_drew)); exact HO149.out) hb); have n1_ := Aside0.mk (Kd.R_elder' (by (with_reducible repeat (first | apply Kd.R_alloc | apply Kd.R_drewN | apply Kd.R_drew)); exact HO153.out) (Kd.R_base ho55) hb); have n2_ := Aside0.mk (Kd.R_lower (Kd.R_new' ho55 (Kd.R_lt (by (with_reducible repeat (first | apply Kd.R_alloc | apply Kd.R_drewN | apply Kd.R_drew)); exact HO153.out))) (below_size (by repeat (first | (with_reducible first | exact HB.out | apply below_alloc | apply pw_below_drewN | apply below_drew1) | exact HB.out)))); have n3_ := Aside0.mk (below_step (by repeat (first | (with_reducible first | exact HB.out | apply below_alloc | apply pw_below_drewN | apply below_drew1) | exact HB.out)) hb); clear HO149; clear HO153; clear HB; have HO149 := n0_; have HO153 := n1_; have HO156 := n2_; have HB := n3_; clear n0_ n1_ n2_ n3_; clear hb ho55; obtain ⟨Ao56, co56, eo56⟩ := Kd.R_slice HO156.out; subst eo56) | ((with_reducible refine gate_callee (f := 10) rfl ?_); refine goesL_ (some 11) rfl rfl Try.func10 (by kernel_rfl) rfl #[.slice Ao56 y154.length co56] rfl (by (try simp only [List.map_toArray, List.map_cons, List.map_nil]); first | done | rfl | (simp only [List.length_drop, List.length_take]; rfl)) ?_; (with_reducible refine (code_Decode.calls _ _ y154 t157 _ ?side1 ?side2 A2.out).mono ?_); (case side1 => repeat (first | exact (Kd.R_reads' HO156.out).2.2 | (with_reducible refine Kd.C_alloc ?_ _) | (with_reducible refine Kd.C_drewN ?_ _) | (with_reducible refine Kd.C_drew ?_))); (case side2 => exact (Kd.R_reads' HO156.out).2.1); rintro e w57 ⟨v158, rfl, ho0, hb⟩; refine ⟨_, rfl, ?_⟩; have n0_ := Aside0.mk (Kd.S_below (by (with_reducible repeat (first | apply Kd.S_alloc | apply Kd.S_drewN | apply Kd.S_drew)); exact HO149.out) hb); have n1_ := Aside0.mk (Kd.R_below (by (with_reducible repeat (first | apply Kd.R_alloc | apply Kd.R_drewN | apply Kd.R_drew)); exact HO153.out) hb); have n2_ := Aside0.mk (Kd.R_below (by (with_reducible repeat (first | apply Kd.R_alloc | apply Kd.R_drewN | apply Kd.R_drew)); exact HO156.out) hb); have n3_ := Aside0.mk (Kd.S_lower ho0 (below_size (by repeat (first | (with_reducible first | exact HB.out | apply below_alloc | apply pw_below_drewN | apply below_drew1) | exact HB.out)))); have n4_ := Aside0.mk (below_step (by repeat (first | (with_reducible first | exact HB.out | apply below_alloc | apply pw_below_drewN | apply below_drew1) | exact HB.out)) hb); clear HO149; clear HO153; clear HO156; clear HB; have HO149 := n0_; have HO153 := n1_; have HO156 := n2_; have HO159 := n3_; have HB := n4_; clear n0_ n1_ n2_ n3_ n4_; (try clear hb); (try clear hb2); (try clear hk); (try clear hi); (try clear ho0)) | ((with_reducible refine gate_dst (N := 16) rfl ?_); (try (refine gate_guard (by rfl) ?_; dsimp only)); refine Kd.R_lit (Kd.int .u8) _ 5 ?hg (N := 16) ?hd (xs := ([11, 1, 2] : List Int)) (inner := [.int .u8 11, .int .u8 1, .int .u8 2]) (ok := fun _ => True) (okp := fun _ => True) ?hr ?hp (fun _ hk => hk) trivial (Below.refl _ _) (Nat.le_refl _) (by simp) ?_; (case hd => rfl); (case hg => rfl); (case hr => first | (go_simp; done) | (go_simp; rfl)); (case hp => exact (Reps.one (show Kd.M (Kd.int .u8) _ _ _ 11 [.int .u8 11] from rfl) (Reps.one (show Kd.M (Kd.int .u8) _ _ _ 1 [.int .u8 1] from rfl) (Reps.one (show Kd.M (Kd.int .u8) _ _ _ 2 [.int .u8 2] from rfl) (Reps.none _ _))))); intro v161 w58 ho59 hb hg_ hnew_; clear hg_ hnew_; (first | rw [← Ny160.out] at ho59 | (simp only [Int.reduceToNat] at ho59; rw [← Ny160.out] at ho59)); have n0_ := Aside0.mk (Kd.S_below (by (with_reducible repeat (first | apply Kd.S_alloc | apply Kd.S_drewN | apply Kd.S_drew)); exact HO149.out) hb); have n1_ := Aside0.mk (Kd.R_elder' (by (with_reducible repeat (first | apply Kd.R_alloc | apply Kd.R_drewN | apply Kd.R_drew)); exact HO153.out) (Kd.R_base ho59) hb); have n2_ := Aside0.mk (Kd.R_elder' (by (with_reducible repeat (first | apply Kd.R_alloc | apply Kd.R_drewN | apply Kd.R_drew)); exact HO156.out) (Kd.R_base ho59) hb); have n3_ := Aside0.mk (Kd.S_below (by (with_reducible repeat (first | apply Kd.S_alloc | apply Kd.S_drewN | apply Kd.S_drew)); exact HO159.out) hb); have n4_ := Aside0.mk (Kd.R_lower (Kd.R_new' (Kd.R_new' ho59 (Kd.R_lt (by (with_reducible repeat (first | apply Kd.R_alloc | apply Kd.R_drewN | apply Kd.R_drew)); exact HO153.out))) (Kd.R_lt (by (with_reducible repeat (first | apply Kd.R_alloc | apply Kd.R_drewN | apply Kd.R_drew)); exact HO156.out))) (below_size (by repeat (first | (with_reducible first | exact HB.out | apply below_alloc | apply pw_below_drewN | apply below_drew1) | exact HB.out)))); have n5_ := Aside0.mk (below_step (by repeat (first | (with_reducible first | exact HB.out | apply below_alloc | apply pw_below_drewN | apply below_drew1) | exact HB.out)) hb); clear HO149; clear HO153; clear HO156; clear HO159; clear HB; have HO149 := n0_; have HO153 := n1_; have HO156 := n2_; have HO159 := n3_; have HO162 := n4_; have HB := n5_; clear n0_ n1_ n2_ n3_ n4_ n5_; clear hb ho59; obtain ⟨Ao60, co60, eo60⟩ := Kd.R_slice HO153.out; subst eo60; obtain ⟨Ao61, co61, eo61⟩ := Kd.R_slice HO162.out; subst eo61) | (go_at_call 11; (with_reducible refine (temperaref21_Bytes.calls k _ _ t150 _ _ y160 true _ ?side1 ?side2 ?side3 ?side4 A4.out).mono ?_); (case side1 => repeat (first | exact (Kd.R_reads' HO153.out).2.2 | (with_reducible refine Kd.C_alloc ?_ _) | (with_reducible refine Kd.C_drewN ?_ _) | (with_reducible refine Kd.C_drew ?_))); (case side2 => exact (Kd.R_reads' HO153.out).2.1); (case side3 => repeat (first | exact (Kd.R_reads' HO162.out).2.2 | (with_reducible refine Kd.C_alloc ?_ _) | (with_reducible refine Kd.C_drewN ?_ _) | (with_reducible refine Kd.C_drew ?_))); (case side4 => exact (Kd.R_reads' HO162.out).2.1); rintro e w' ⟨rfl, ⟨nd, rfl⟩⟩; obtain ⟨Ao62, co62, eo62⟩ := Kd.S_slice HO159.out; subst eo62))
    go_ret
    exact ⟨by first | rfl | (simp [errW_none, errW_some] <;> rfl) | (simp [*, errW_none, errW_some] <;> rfl), by repeat (first | (with_reducible first | exact HB.out | apply below_alloc | apply pw_below_drewN | apply below_drew1) | exact HB.out)⟩
  ·replace c5 := Bool.eq_false_iff.mpr c5
   subst c5
   have H1 : (some false) = some r := by rw [if_neg (show ¬ (false = true) by decide)] at H; exact H
   clear H
   have H := H1
   clear H1
   obtain rfl := Option.some.inj H
   go_enter Try.func7, Try.ntmps7
   go_wp2_with (first | ((with_reducible refine gate_dst (N := 6) rfl ?_); (try (refine gate_guard (by rfl) ?_; dsimp only)); refine Kd.S_lit k37 _ 37 ?hg (N := 6) ?hd (xs := ([(⟨11, 0, 1, 0, 0, 0, ([] : List Int), ([] : List (S62))⟩ : S37)] : List (S37))) (inner := [.int .i64 11, .int .i64 0, .int .i64 1, .int .i64 0, .int .i64 0, .int .i64 0, .slice none 0 0, .slice none 0 0]) (ok := fun _ => True) (okp := fun _ => True) ?hr ?hp (fun _ hk => hk) trivial (Below.refl _ _) (Nat.le_refl _) (by simp) ?_; (case hd => rfl); (case hg => rfl); (case hr => first | (go_simp; done) | (go_simp; rfl)); (case hp => exact (Reps.c8 (show Kd.M k37 _ _ _ (⟨11, 0, 1, 0, 0, 0, ([] : List Int), ([] : List (S62))⟩ : S37) [.int .i64 11, .int .i64 0, .int .i64 1, .int .i64 0, .int .i64 0, .int .i64 0, .slice none 0 0, .slice none 0 0] from (k37_mkM _ _ _ (⟨11, 0, 1, 0, 0, 0, ([] : List Int), ([] : List (S62))⟩ : S37) (Kd.R_nil _ _ _ _ _) (Kd.R_nil _ _ _ _ _))) (Reps.none _ _))); intro v148 w63 ho64 hb hg_ hnew_; clear hg_ hnew_; (first | rw [← Ny147.out] at ho64 | (simp only [Int.reduceToNat] at ho64; rw [← Ny147.out] at ho64)); have n0_ := Aside0.mk (Kd.S_lower ho64 (below_size (by repeat (first | (with_reducible first | exact HB.out | apply below_alloc | apply pw_below_drewN | apply below_drew1) | exact HB.out)))); have n1_ := Aside0.mk (below_step (by repeat (first | (with_reducible first | exact HB.out | apply below_alloc | apply pw_below_drewN | apply below_drew1) | exact HB.out)) hb); clear HB; have HO149 := n0_; have HB := n1_; clear n0_ n1_; clear hb ho64; obtain ⟨Ao65, co65, eo65⟩ := Kd.S_slice HO149.out; subst eo65) | ((with_reducible refine gate_callee (f := 8) rfl ?_); refine goesL_ (some 7) rfl rfl Try.func8 (by kernel_rfl) rfl #[.slice Ao65 y147.length co65] rfl (by (try simp only [List.map_toArray, List.map_cons, List.map_nil]); first | done | rfl | (simp only [List.length_drop, List.length_take]; rfl)) ?_; (with_reducible refine (code_Encode.calls k _ _ y147 t150 t151 _ ?side1 ?side2 A1.out).mono ?_); (case side1 => repeat (first | exact (Kd.S_reads' HO149.out).2.2 | (with_reducible refine Kd.C_alloc ?_ _) | (with_reducible refine Kd.C_drewN ?_ _) | (with_reducible refine Kd.C_drew ?_))); (case side2 => exact (Kd.S_reads' HO149.out).2.1); rintro e w66 ⟨v152, rfl, ho0, hb⟩; refine ⟨_, rfl, ?_⟩; have n0_ := Aside0.mk (Kd.S_below (by (with_reducible repeat (first | apply Kd.S_alloc | apply Kd.S_drewN | apply Kd.S_drew)); exact HO149.out) hb); have n1_ := Aside0.mk (Kd.R_lower ho0 (below_size (by repeat (first | (with_reducible first | exact HB.out | apply below_alloc | apply pw_below_drewN | apply below_drew1) | exact HB.out)))); have n2_ := Aside0.mk (below_step (by repeat (first | (with_reducible first | exact HB.out | apply below_alloc | apply pw_below_drewN | apply below_drew1) | exact HB.out)) hb); clear HO149; clear HB; have HO149 := n0_; have HO153 := n1_; have HB := n2_; clear n0_ n1_ n2_; (try clear hb); (try clear hb2); (try clear hk); (try clear hi); (try clear ho0)) | ((with_reducible refine gate_dst (N := 10) rfl ?_); (try (refine gate_guard (by rfl) ?_; dsimp only)); refine Kd.R_lit (Kd.int .u8) _ 5 ?hg (N := 10) ?hd (xs := ([11, 1, 2, 99] : List Int)) (inner := [.int .u8 11, .int .u8 1, .int .u8 2, .int .u8 99]) (ok := fun _ => True) (okp := fun _ => True) ?hr ?hp (fun _ hk => hk) trivial (Below.refl _ _) (Nat.le_refl _) (by simp) ?_; (case hd => rfl); (case hg => rfl); (case hr => first | (go_simp; done) | (go_simp; rfl)); (case hp => exact (Reps.one (show Kd.M (Kd.int .u8) _ _ _ 11 [.int .u8 11] from rfl) (Reps.one (show Kd.M (Kd.int .u8) _ _ _ 1 [.int .u8 1] from rfl) (Reps.one (show Kd.M (Kd.int .u8) _ _ _ 2 [.int .u8 2] from rfl) (Reps.one (show Kd.M (Kd.int .u8) _ _ _ 99 [.int .u8 99] from rfl) (Reps.none _ _)))))); intro v155 w67 ho68 hb hg_ hnew_; clear hg_ hnew_; (first | rw [← Ny154.out] at ho68 | (simp only [Int.reduceToNat] at ho68; rw [← Ny154.out] at ho68)); have n0_ := Aside0.mk (Kd.S_below (by (with_reducible repeat (first | apply Kd.S_alloc | apply Kd.S_drewN | apply Kd.S_drew)); exact HO149.out) hb); have n1_ := Aside0.mk (Kd.R_elder' (by (with_reducible repeat (first | apply Kd.R_alloc | apply Kd.R_drewN | apply Kd.R_drew)); exact HO153.out) (Kd.R_base ho68) hb); have n2_ := Aside0.mk (Kd.R_lower (Kd.R_new' ho68 (Kd.R_lt (by (with_reducible repeat (first | apply Kd.R_alloc | apply Kd.R_drewN | apply Kd.R_drew)); exact HO153.out))) (below_size (by repeat (first | (with_reducible first | exact HB.out | apply below_alloc | apply pw_below_drewN | apply below_drew1) | exact HB.out)))); have n3_ := Aside0.mk (below_step (by repeat (first | (with_reducible first | exact HB.out | apply below_alloc | apply pw_below_drewN | apply below_drew1) | exact HB.out)) hb); clear HO149; clear HO153; clear HB; have HO149 := n0_; have HO153 := n1_; have HO156 := n2_; have HB := n3_; clear n0_ n1_ n2_ n3_; clear hb ho68; obtain ⟨Ao69, co69, eo69⟩ := Kd.R_slice HO156.out; subst eo69) | ((with_reducible refine gate_callee (f := 10) rfl ?_); refine goesL_ (some 11) rfl rfl Try.func10 (by kernel_rfl) rfl #[.slice Ao69 y154.length co69] rfl (by (try simp only [List.map_toArray, List.map_cons, List.map_nil]); first | done | rfl | (simp only [List.length_drop, List.length_take]; rfl)) ?_; (with_reducible refine (code_Decode.calls _ _ y154 t157 _ ?side1 ?side2 A2.out).mono ?_); (case side1 => repeat (first | exact (Kd.R_reads' HO156.out).2.2 | (with_reducible refine Kd.C_alloc ?_ _) | (with_reducible refine Kd.C_drewN ?_ _) | (with_reducible refine Kd.C_drew ?_))); (case side2 => exact (Kd.R_reads' HO156.out).2.1); rintro e w70 ⟨v158, rfl, ho0, hb⟩; refine ⟨_, rfl, ?_⟩; have n0_ := Aside0.mk (Kd.S_below (by (with_reducible repeat (first | apply Kd.S_alloc | apply Kd.S_drewN | apply Kd.S_drew)); exact HO149.out) hb); have n1_ := Aside0.mk (Kd.R_below (by (with_reducible repeat (first | apply Kd.R_alloc | apply Kd.R_drewN | apply Kd.R_drew)); exact HO153.out) hb); have n2_ := Aside0.mk (Kd.R_below (by (with_reducible repeat (first | apply Kd.R_alloc | apply Kd.R_drewN | apply Kd.R_drew)); exact HO156.out) hb); have n3_ := Aside0.mk (Kd.S_lower ho0 (below_size (by repeat (first | (with_reducible first | exact HB.out | apply below_alloc | apply pw_below_drewN | apply below_drew1) | exact HB.out)))); have n4_ := Aside0.mk (below_step (by repeat (first | (with_reducible first | exact HB.out | apply below_alloc | apply pw_below_drewN | apply below_drew1) | exact HB.out)) hb); clear HO149; clear HO153; clear HO156; clear HB; have HO149 := n0_; have HO153 := n1_; have HO156 := n2_; have HO159 := n3_; have HB := n4_; clear n0_ n1_ n2_ n3_ n4_; (try clear hb); (try clear hb2); (try clear hk); (try clear hi); (try clear ho0)) | ((with_reducible refine gate_dst (N := 16) rfl ?_); (try (refine gate_guard (by rfl) ?_; dsimp only)); refine Kd.R_lit (Kd.int .u8) _ 5 ?hg (N := 16) ?hd (xs := ([11, 1, 2] : List Int)) (inner := [.int .u8 11, .int .u8 1, .int .u8 2]) (ok := fun _ => True) (okp := fun _ => True) ?hr ?hp (fun _ hk => hk) trivial (Below.refl _ _) (Nat.le_refl _) (by simp) ?_; (case hd => rfl); (case hg => rfl); (case hr => first | (go_simp; done) | (go_simp; rfl)); (case hp => exact (Reps.one (show Kd.M (Kd.int .u8) _ _ _ 11 [.int .u8 11] from rfl) (Reps.one (show Kd.M (Kd.int .u8) _ _ _ 1 [.int .u8 1] from rfl) (Reps.one (show Kd.M (Kd.int .u8) _ _ _ 2 [.int .u8 2] from rfl) (Reps.none _ _))))); intro v161 w71 ho72 hb hg_ hnew_; clear hg_ hnew_; (first | rw [← Ny160.out] at ho72 | (simp only [Int.reduceToNat] at ho72; rw [← Ny160.out] at ho72)); have n0_ := Aside0.mk (Kd.S_below (by (with_reducible repeat (first | apply Kd.S_alloc | apply Kd.S_drewN | apply Kd.S_drew)); exact HO149.out) hb); have n1_ := Aside0.mk (Kd.R_elder' (by (with_reducible repeat (first | apply Kd.R_alloc | apply Kd.R_drewN | apply Kd.R_drew)); exact HO153.out) (Kd.R_base ho72) hb); have n2_ := Aside0.mk (Kd.R_elder' (by (with_reducible repeat (first | apply Kd.R_alloc | apply Kd.R_drewN | apply Kd.R_drew)); exact HO156.out) (Kd.R_base ho72) hb); have n3_ := Aside0.mk (Kd.S_below (by (with_reducible repeat (first | apply Kd.S_alloc | apply Kd.S_drewN | apply Kd.S_drew)); exact HO159.out) hb); have n4_ := Aside0.mk (Kd.R_lower (Kd.R_new' (Kd.R_new' ho72 (Kd.R_lt (by (with_reducible repeat (first | apply Kd.R_alloc | apply Kd.R_drewN | apply Kd.R_drew)); exact HO153.out))) (Kd.R_lt (by (with_reducible repeat (first | apply Kd.R_alloc | apply Kd.R_drewN | apply Kd.R_drew)); exact HO156.out))) (below_size (by repeat (first | (with_reducible first | exact HB.out | apply below_alloc | apply pw_below_drewN | apply below_drew1) | exact HB.out)))); have n5_ := Aside0.mk (below_step (by repeat (first | (with_reducible first | exact HB.out | apply below_alloc | apply pw_below_drewN | apply below_drew1) | exact HB.out)) hb); clear HO149; clear HO153; clear HO156; clear HO159; clear HB; have HO149 := n0_; have HO153 := n1_; have HO156 := n2_; have HO159 := n3_; have HO162 := n4_; have HB := n5_; clear n0_ n1_ n2_ n3_ n4_ n5_; clear hb ho72; obtain ⟨Ao73, co73, eo73⟩ := Kd.R_slice HO153.out; subst eo73; obtain ⟨Ao74, co74, eo74⟩ := Kd.R_slice HO162.out; subst eo74) | (go_at_call 11; (with_reducible refine (temperaref21_Bytes.calls k _ _ t150 _ _ y160 false _ ?side1 ?side2 ?side3 ?side4 A4.out).mono ?_); (case side1 => repeat (first | exact (Kd.R_reads' HO153.out).2.2 | (with_reducible refine Kd.C_alloc ?_ _) | (with_reducible refine Kd.C_drewN ?_ _) | (with_reducible refine Kd.C_drew ?_))); (case side2 => exact (Kd.R_reads' HO153.out).2.1); (case side3 => repeat (first | exact (Kd.R_reads' HO162.out).2.2 | (with_reducible refine Kd.C_alloc ?_ _) | (with_reducible refine Kd.C_drewN ?_ _) | (with_reducible refine Kd.C_drew ?_))); (case side4 => exact (Kd.R_reads' HO162.out).2.1); rintro e w' ⟨rfl, ⟨nd, rfl⟩⟩))
   go_ret
   exact ⟨by first | rfl | (simp [errW_none, errW_some] <;> rfl) | (simp [*, errW_none, errW_some] <;> rfl), by repeat (first | (with_reducible first | exact HB.out | apply below_alloc | apply pw_below_drewN | apply below_drew1) | exact HB.out)⟩
 ·rw [if_neg c3] at H
  have c3b0 : (t151 == 0) = false := beq_eq_false_iff_ne.mpr c3
  have c3b1 : (t151 != 0) = true := bne_iff_ne.mpr c3
  obtain rfl := Option.some.inj H
  go_enter Try.func7, Try.ntmps7
  go_wp2_with (first | ((with_reducible refine gate_dst (N := 6) rfl ?_); (try (refine gate_guard (by rfl) ?_; dsimp only)); refine Kd.S_lit k37 _ 37 ?hg (N := 6) ?hd (xs := ([(⟨11, 0, 1, 0, 0, 0, ([] : List Int), ([] : List (S62))⟩ : S37)] : List (S37))) (inner := [.int .i64 11, .int .i64 0, .int .i64 1, .int .i64 0, .int .i64 0, .int .i64 0, .slice none 0 0, .slice none 0 0]) (ok := fun _ => True) (okp := fun _ => True) ?hr ?hp (fun _ hk => hk) trivial (Below.refl _ _) (Nat.le_refl _) (by simp) ?_; (case hd => rfl); (case hg => rfl); (case hr => first | (go_simp; done) | (go_simp; rfl)); (case hp => exact (Reps.c8 (show Kd.M k37 _ _ _ (⟨11, 0, 1, 0, 0, 0, ([] : List Int), ([] : List (S62))⟩ : S37) [.int .i64 11, .int .i64 0, .int .i64 1, .int .i64 0, .int .i64 0, .int .i64 0, .slice none 0 0, .slice none 0 0] from (k37_mkM _ _ _ (⟨11, 0, 1, 0, 0, 0, ([] : List Int), ([] : List (S62))⟩ : S37) (Kd.R_nil _ _ _ _ _) (Kd.R_nil _ _ _ _ _))) (Reps.none _ _))); intro v148 w75 ho76 hb hg_ hnew_; clear hg_ hnew_; (first | rw [← Ny147.out] at ho76 | (simp only [Int.reduceToNat] at ho76; rw [← Ny147.out] at ho76)); have n0_ := Aside0.mk (Kd.S_lower ho76 (below_size (by repeat (first | (with_reducible first | exact HB.out | apply below_alloc | apply pw_below_drewN | apply below_drew1) | exact HB.out)))); have n1_ := Aside0.mk (below_step (by repeat (first | (with_reducible first | exact HB.out | apply below_alloc | apply pw_below_drewN | apply below_drew1) | exact HB.out)) hb); clear HB; have HO149 := n0_; have HB := n1_; clear n0_ n1_; clear hb ho76; obtain ⟨Ao77, co77, eo77⟩ := Kd.S_slice HO149.out; subst eo77) | ((with_reducible refine gate_callee (f := 8) rfl ?_); refine goesL_ (some 7) rfl rfl Try.func8 (by kernel_rfl) rfl #[.slice Ao77 y147.length co77] rfl (by (try simp only [List.map_toArray, List.map_cons, List.map_nil]); first | done | rfl | (simp only [List.length_drop, List.length_take]; rfl)) ?_; (with_reducible refine (code_Encode.calls k _ _ y147 t150 t151 _ ?side1 ?side2 A1.out).mono ?_); (case side1 => repeat (first | exact (Kd.S_reads' HO149.out).2.2 | (with_reducible refine Kd.C_alloc ?_ _) | (with_reducible refine Kd.C_drewN ?_ _) | (with_reducible refine Kd.C_drew ?_))); (case side2 => exact (Kd.S_reads' HO149.out).2.1); rintro e w78 ⟨v152, rfl, ho0, hb⟩; refine ⟨_, rfl, ?_⟩; have n0_ := Aside0.mk (Kd.S_below (by (with_reducible repeat (first | apply Kd.S_alloc | apply Kd.S_drewN | apply Kd.S_drew)); exact HO149.out) hb); have n1_ := Aside0.mk (Kd.R_lower ho0 (below_size (by repeat (first | (with_reducible first | exact HB.out | apply below_alloc | apply pw_below_drewN | apply below_drew1) | exact HB.out)))); have n2_ := Aside0.mk (below_step (by repeat (first | (with_reducible first | exact HB.out | apply below_alloc | apply pw_below_drewN | apply below_drew1) | exact HB.out)) hb); clear HO149; clear HB; have HO149 := n0_; have HO153 := n1_; have HB := n2_; clear n0_ n1_ n2_; (try clear hb); (try clear hb2); (try clear hk); (try clear hi); (try clear ho0)) | ((with_reducible refine gate_dst (N := 10) rfl ?_); (try (refine gate_guard (by rfl) ?_; dsimp only)); refine Kd.R_lit (Kd.int .u8) _ 5 ?hg (N := 10) ?hd (xs := ([11, 1, 2, 99] : List Int)) (inner := [.int .u8 11, .int .u8 1, .int .u8 2, .int .u8 99]) (ok := fun _ => True) (okp := fun _ => True) ?hr ?hp (fun _ hk => hk) trivial (Below.refl _ _) (Nat.le_refl _) (by simp) ?_; (case hd => rfl); (case hg => rfl); (case hr => first | (go_simp; done) | (go_simp; rfl)); (case hp => exact (Reps.one (show Kd.M (Kd.int .u8) _ _ _ 11 [.int .u8 11] from rfl) (Reps.one (show Kd.M (Kd.int .u8) _ _ _ 1 [.int .u8 1] from rfl) (Reps.one (show Kd.M (Kd.int .u8) _ _ _ 2 [.int .u8 2] from rfl) (Reps.one (show Kd.M (Kd.int .u8) _ _ _ 99 [.int .u8 99] from rfl) (Reps.none _ _)))))); intro v155 w79 ho80 hb hg_ hnew_; clear hg_ hnew_; (first | rw [← Ny154.out] at ho80 | (simp only [Int.reduceToNat] at ho80; rw [← Ny154.out] at ho80)); have n0_ := Aside0.mk (Kd.S_below (by (with_reducible repeat (first | apply Kd.S_alloc | apply Kd.S_drewN | apply Kd.S_drew)); exact HO149.out) hb); have n1_ := Aside0.mk (Kd.R_elder' (by (with_reducible repeat (first | apply Kd.R_alloc | apply Kd.R_drewN | apply Kd.R_drew)); exact HO153.out) (Kd.R_base ho80) hb); have n2_ := Aside0.mk (Kd.R_lower (Kd.R_new' ho80 (Kd.R_lt (by (with_reducible repeat (first | apply Kd.R_alloc | apply Kd.R_drewN | apply Kd.R_drew)); exact HO153.out))) (below_size (by repeat (first | (with_reducible first | exact HB.out | apply below_alloc | apply pw_below_drewN | apply below_drew1) | exact HB.out)))); have n3_ := Aside0.mk (below_step (by repeat (first | (with_reducible first | exact HB.out | apply below_alloc | apply pw_below_drewN | apply below_drew1) | exact HB.out)) hb); clear HO149; clear HO153; clear HB; have HO149 := n0_; have HO153 := n1_; have HO156 := n2_; have HB := n3_; clear n0_ n1_ n2_ n3_; clear hb ho80; obtain ⟨Ao81, co81, eo81⟩ := Kd.R_slice HO156.out; subst eo81) | ((with_reducible refine gate_callee (f := 10) rfl ?_); refine goesL_ (some 11) rfl rfl Try.func10 (by kernel_rfl) rfl #[.slice Ao81 y154.length co81] rfl (by (try simp only [List.map_toArray, List.map_cons, List.map_nil]); first | done | rfl | (simp only [List.length_drop, List.length_take]; rfl)) ?_; (with_reducible refine (code_Decode.calls _ _ y154 t157 _ ?side1 ?side2 A2.out).mono ?_); (case side1 => repeat (first | exact (Kd.R_reads' HO156.out).2.2 | (with_reducible refine Kd.C_alloc ?_ _) | (with_reducible refine Kd.C_drewN ?_ _) | (with_reducible refine Kd.C_drew ?_))); (case side2 => exact (Kd.R_reads' HO156.out).2.1); rintro e w82 ⟨v158, rfl, ho0, hb⟩; refine ⟨_, rfl, ?_⟩; have n0_ := Aside0.mk (Kd.S_below (by (with_reducible repeat (first | apply Kd.S_alloc | apply Kd.S_drewN | apply Kd.S_drew)); exact HO149.out) hb); have n1_ := Aside0.mk (Kd.R_below (by (with_reducible repeat (first | apply Kd.R_alloc | apply Kd.R_drewN | apply Kd.R_drew)); exact HO153.out) hb); have n2_ := Aside0.mk (Kd.R_below (by (with_reducible repeat (first | apply Kd.R_alloc | apply Kd.R_drewN | apply Kd.R_drew)); exact HO156.out) hb); have n3_ := Aside0.mk (Kd.S_lower ho0 (below_size (by repeat (first | (with_reducible first | exact HB.out | apply below_alloc | apply pw_below_drewN | apply below_drew1) | exact HB.out)))); have n4_ := Aside0.mk (below_step (by repeat (first | (with_reducible first | exact HB.out | apply below_alloc | apply pw_below_drewN | apply below_drew1) | exact HB.out)) hb); clear HO149; clear HO153; clear HO156; clear HB; have HO149 := n0_; have HO153 := n1_; have HO156 := n2_; have HO159 := n3_; have HB := n4_; clear n0_ n1_ n2_ n3_ n4_; (try clear hb); (try clear hb2); (try clear hk); (try clear hi); (try clear ho0)))
  go_ret
  exact ⟨by first | rfl | (simp [errW_none, errW_some] <;> rfl) | (simp [*, errW_none, errW_some] <;> rfl), by repeat (first | (with_reducible first | exact HB.out | apply below_alloc | apply pw_below_drewN | apply below_drew1) | exact HB.out)⟩
end Go.Proofs.Ytpgjkndijdleeaa.PCode
end
section
namespace Go.Proofs.Ytpgjkndijdleeaa.PCode
open Go.RowKit Go.Proofs.YtpgjkndijdleeaaW.PrintWords Go.Proofs.YtpgjkndijdleeaaW.PrintLast Go.Proofs.YtpgjkndijdleeaaW.PrintMore
set_option linter.unusedVariables false
set_option linter.unusedSimpArgs false
theorem w1 (i : Nat) (h : i ≤ 1000000000000) : wrap64 ((i : Int) + 1) = ((i + 1 : Nat) : Int) := by unfold wrap64; omega
theorem rdT37 (l : List S37) (i : Nat) (h : i < l.length) : rd_T37 l (i : Int) = l[i] := by simp [rd_T37, List.getD_eq_getElem?_getD, h]
theorem rdT39 (l : List S39) (i : Nat) (h : i < l.length) : rd_T39 l (i : Int) = l[i] := by simp [rd_T39, List.getD_eq_getElem?_getD, h]
theorem rdI (l : List Int) (i : Nat) (h : i < l.length) : rd l (i : Int) = l[i] := by simp [rd, List.getD_eq_getElem?_getD, h]
/-- One round more. -/
theorem Ev.up {α : Type} {g : Nat → Option α} {r : α} (h : Ev (fun k => g (k + 1)) r) : Ev g r := Ev.step (fun _ => rfl) h
theorem Ev.val {α : Type} {g : Nat → Option α} {r : α} (h : ∀ k, g k = some r) : Ev g r := ⟨0, fun k _ => h k⟩
theorem Ev.from {α : Type} {g : Nat → Option α} {r : α} (K : Nat) (h : ∀ j, g (K + j) = some r) : Ev g r := ⟨K, fun k hk => by have := h (k - K); rwa [show K + (k - K) = k from by omega] at this⟩
def lightC (x : S37) : Prop := x.f6.length ≤ 5000 ∧ x.f7.length ≤ 1100
instance (x : S37) : Decidable (lightC x) := by unfold lightC; infer_instance
def bigC (x : S37) : Prop := 4096 < (ownS x).f6.length ∨ 1024 < (ownS x).f7.length
instance (x : S37) : Decidable (bigC x) := by unfold bigC; infer_instance
/-- May commands be told? -/
def chk : List S37 → Int
 | [] => 0
 | x :: l => if x.f0 < 1 ∨ 19 < x.f0 then 9 else if bigC x then 4 else chk l
theorem chk_zero : ∀ (l : List S37), chk l = 0 → ∀ x ∈ l, (1 ≤ x.f0 ∧ x.f0 ≤ 19) ∧ ¬ bigC x
 | [], _, x, hx => by simp at hx
 | y :: l, h, x, hx => by
  simp only [chk] at h
  split at h
  ·simp at h
  ·split at h
   ·simp at h
   ·rename_i h1 h2
    rcases List.mem_cons.1 hx with rfl | hx
    ·exact ⟨by omega, h2⟩
    ·exact chk_zero l h x hx
theorem good_own {x : S37} (hop : 1 ≤ x.f0 ∧ x.f0 ≤ 19) (hi : intsC x) (hl : lightC x) : goodC (ownS x) := by
 have h1 := own_ints hi
 have h2 := own_len x
 refine ⟨by rw [own_op hop]; exact hop, h1.1, ⟨Nat.le_trans h2.1 hl.1, h1.2.1⟩, ⟨Nat.le_trans h2.2 hl.2, h1.2.2⟩⟩
/-- What Encode answers, from some bytes on. -/
def encA : List Int → List S37 → List Int × Int
 | acc, [] => (acc, 0)
 | acc, x :: l => if x.f0 < 1 ∨ 19 < x.f0 then ([], 9) else if bigC x then ([], 4) else encA (acc ++ encC x) l
theorem encA_ok : ∀ (l : List S37) (acc : List Int), chk l = 0 → encA acc l = (acc ++ encL l, 0)
 | [], acc, _ => by simp [encA, encL]
 | x :: l, acc, h => by
  have hx := chk_zero (x :: l) h x (by simp)
  simp only [chk] at h
  rw [if_neg (by omega), if_neg hx.2] at h
  simp only [encA]
  rw [if_neg (by omega), if_neg hx.2, encA_ok l _ h]
  simp [encL]
theorem encode_l0 (l : List S37) (hl : l.length ≤ 100000) (hg : ∀ x ∈ l, intsC x ∧ lightC x) : ∀ (d i : Nat) (acc : List Int), i + d = l.length → acc.length + d * 300000 ≤ 100000000000 → Ev (fun k => code_Encode.l0 k acc l (l.length : Int) (i : Int)) (encA acc (l.drop i))
 | 0, i, acc, h, _ => by
  refine Ev.up ?_
  refine Ev.val (fun k => ?_)
  simp only [code_Encode.l0]
  rw [if_neg (by omega), List.drop_of_length_le (by omega)]
  rfl
 | d + 1, i, acc, h, ha => by
  have hlt : i < l.length := by omega
  have hx := hg l[i] (List.getElem_mem hlt)
  have hol := own_len l[i]
  have hcm : cmd_Own.f l[i].f0 l[i].f1 l[i].f2 l[i].f3 l[i].f4 l[i].f5 l[i].f6 l[i].f7 = some (tp (ownS l[i])) := if_pos hx.2
  refine Ev.up ?_
  rw [List.drop_eq_getElem_cons hlt]
  simp only [encA]
  by_cases ho : l[i].f0 < 1 ∨ 19 < l[i].f0
  ·rw [if_pos ho]
   refine Ev.val (fun k => ?_)
   simp only [code_Encode.l0]
   rw [if_pos (by omega), if_pos (by omega), if_pos (by omega), rdT37 l i hlt, hcm]
   have e : ownS l[i] = ⟨0, 0, 0, 0, 0, 0, [], []⟩ := if_neg (by omega)
   simp only [tp, Option.bind_some, e, if_true]
  ·have hop : 1 ≤ l[i].f0 ∧ l[i].f0 ≤ 19 := by omega
   have hf0 := own_op hop
   rw [if_neg ho]
   by_cases hb : bigC l[i]
   ·rw [if_pos hb]
    refine Ev.congr (f := fun k => code_Encode.j1 k acc l (l.length : Int) (i : Int) true (ownS l[i]).f0 (ownS l[i]).f1 (ownS l[i]).f2 (ownS l[i]).f3 (ownS l[i]).f4 (ownS l[i]).f5 (ownS l[i]).f6 (ownS l[i]).f7) (fun k => ?_) ?_
    ·simp only [code_Encode.l0]
     rw [if_pos (by omega), if_pos (by omega), if_pos (by omega), rdT37 l i hlt, hcm]
     simp only [tp, Option.bind_some]
     rw [if_neg (by omega)]
     by_cases h6 : ((ownS l[i]).f6.length : Int) > 4096
     ·rw [if_pos h6]
     ·rw [if_neg h6, decide_eq_true (show ((ownS l[i]).f7.length : Int) > 1024 from by rcases hb with hb | hb <;> omega)]
    ·refine Ev.up (Ev.val (fun k => ?_))
     simp only [code_Encode.j1, if_true]
   ·rw [if_neg hb]
    have h6 : ¬ 4096 < (ownS l[i]).f6.length := fun q => hb (.inl q)
    have h7 : ¬ 1024 < (ownS l[i]).f7.length := fun q => hb (.inr q)
    refine Ev.congr (f := fun k => code_Encode.j1 k acc l (l.length : Int) (i : Int) false (ownS l[i]).f0 (ownS l[i]).f1 (ownS l[i]).f2 (ownS l[i]).f3 (ownS l[i]).f4 (ownS l[i]).f5 (ownS l[i]).f6 (ownS l[i]).f7) (fun k => ?_) ?_
    ·simp only [code_Encode.l0]
     rw [if_pos (by omega), if_pos (by omega), if_pos (by omega), rdT37 l i hlt, hcm]
     simp only [tp, Option.bind_some]
     rw [if_neg (by omega), if_neg (by omega), decide_eq_false (show ¬ ((ownS l[i]).f7.length : Int) > 1024 from by omega)]
    ·have hbl := bodyB_len (x := ownS l[i]) (by omega) (by omega)
     have hcl := cn_len 10 ((bodyB (ownS l[i])).length : Int)
     have hgd := good_own hop hx.1 hx.2
     have ih := encode_l0 l hl hg d (i + 1) (acc ++ encC l[i]) (by omega) (by simp only [encC, List.length_append, List.length_cons, cnB]; omega)
     refine Ev.up ?_
     refine Ev.congr (f := fun k => ((code_count.f k (acc ++ [(ownS l[i]).f0 % 256]) ((bodyB (ownS l[i])).length : Int))).bind fun t134 => (if t134.length + (bodyB (ownS l[i])).length < 140737488355328 then (code_Encode.l0 k (t134 ++ bodyB (ownS l[i])) l (l.length : Int) ((i + 1 : Nat) : Int)) else (none))) (fun k => ?_) ?_
     ·simp only [code_Encode.j1, Bool.false_eq_true, if_false]
      have hbf : code_body.f (ownS l[i]).f0 (ownS l[i]).f1 (ownS l[i]).f2 (ownS l[i]).f3 (ownS l[i]).f4 (ownS l[i]).f5 (ownS l[i]).f6 (ownS l[i]).f7 = some (bodyB (ownS l[i])) := if_pos hgd
      rw [hbf]
      simp only [Option.bind_some]
      rw [if_pos (by omega), show IntKind.u64.wrap ((bodyB (ownS l[i])).length : Int) = ((bodyB (ownS l[i])).length : Int) from by rw [wrap_u64]; omega, w1 i (by omega)]
     ·refine Ev.bind (a := (acc ++ [(ownS l[i]).f0 % 256]) ++ cnB ((bodyB (ownS l[i])).length : Int)) ?_ ?_
      ·exact Ev.from 10 (fun j => count_is (by omega) (by omega) _ j (by simp only [List.length_append, List.length_cons, List.length_nil]; omega))
      ·refine Ev.congr (f := fun k => code_Encode.l0 k (acc ++ encC l[i]) l (l.length : Int) ((i + 1 : Nat) : Int)) (fun k => ?_) ih
       rw [if_pos (by simp only [List.length_append, List.length_cons, List.length_nil, cnB]; omega)]
       congr 1
       unfold encC
       rw [show (ownS l[i]).f0 % 256 = l[i].f0 from by rw [hf0]; omega]
       simp
theorem encode_is (l : List S37) (hl : l.length ≤ 100000) (hg : ∀ x ∈ l, intsC x ∧ lightC x) : Ev (fun k => code_Encode.f k l) (encA [] l) := by
 have := encode_l0 l hl hg l.length 0 [] (by omega) (by simp only [List.length_nil]; omega)
 exact this
theorem bytes_l0 (l : List Int) (hl : l.length ≤ 100000000000) : ∀ (d i : Nat), i + d = l.length → Ev (fun k => temperaref21_Bytes.l0 k l l (i : Int)) true
 | 0, i, h => by
  refine Ev.up (Ev.val (fun k => ?_))
  simp only [temperaref21_Bytes.l0]
  rw [if_neg (by omega)]
 | d + 1, i, h => by
  refine Ev.up (Ev.congr (f := fun k => temperaref21_Bytes.l0 k l l ((i + 1 : Nat) : Int)) (fun k => ?_) (bytes_l0 l hl d (i + 1) (by omega)))
  simp only [temperaref21_Bytes.l0]
  rw [if_pos (by omega), if_pos (by omega), if_pos (by omega), if_pos trivial, w1 i (by omega)]
theorem bytes_is (l : List Int) (hl : l.length ≤ 100000000000) : Ev (fun k => temperaref21_Bytes.f k l l) true := by
 refine Ev.congr (f := fun k => temperaref21_Bytes.l0 k l l 0) (fun k => ?_) (bytes_l0 l hl l.length 0 (by omega))
 unfold temperaref21_Bytes.f
 rw [if_pos rfl]
theorem same_l1 (op h a b c d : Int) (l6 : List Int) (l7 : List S62) (hl : l7.length ≤ 1100) (n : Nat) : ∀ (k i : Nat), i ≤ l7.length → l7.length - i = n → n < k → temperaref20_Same.l1 k (i : Int) op h a b c d l6 l7 op h a b c d l6 l7 = some true := by
 induction n with
 | zero =>
  intro k i h1 h2 hk
  obtain ⟨k, rfl⟩ : ∃ m, k = m + 1 := ⟨k - 1, by omega⟩
  simp only [temperaref20_Same.l1]
  rw [if_neg (by omega)]
 | succ n ih =>
  intro k i h1 h2 hk
  obtain ⟨k, rfl⟩ : ∃ m, k = m + 1 := ⟨k - 1, by omega⟩
  simp only [temperaref20_Same.l1]
  rw [if_pos (by omega), if_pos (by omega), if_pos (by omega), if_neg (by simp), w1 i (by omega)]
  exact ih k (i + 1) (by omega) (by omega) (by omega)
theorem same_l0 (op h a b c d : Int) (l6 : List Int) (l7 : List S62) (hl : l6.length ≤ 5000) (hl7 : l7.length ≤ 1100) (n : Nat) : ∀ (k i : Nat), i ≤ l6.length → l6.length - i = n → n + 1200 < k → temperaref20_Same.l0 k (i : Int) op h a b c d l6 l7 op h a b c d l6 l7 = some true := by
 induction n with
 | zero =>
  intro k i h1 h2 hk
  obtain ⟨k, rfl⟩ : ∃ m, k = m + 1 := ⟨k - 1, by omega⟩
  simp only [temperaref20_Same.l0]
  rw [if_neg (by omega)]
  exact same_l1 op h a b c d l6 l7 hl7 l7.length k 0 (by omega) (by omega) (by omega)
 | succ n ih =>
  intro k i h1 h2 hk
  obtain ⟨k, rfl⟩ : ∃ m, k = m + 1 := ⟨k - 1, by omega⟩
  simp only [temperaref20_Same.l0]
  rw [if_pos (by omega), if_pos (by omega), if_pos (by omega), if_pos trivial, w1 i (by omega)]
  exact ih k (i + 1) (by omega) (by omega) (by omega)
theorem same_is (x : S37) (hl6 : x.f6.length ≤ 5000) (hl7 : x.f7.length ≤ 1100) : Ev (fun k => temperaref20_Same.f k x.f0 x.f1 x.f2 x.f3 x.f4 x.f5 x.f6 x.f7 x.f0 x.f1 x.f2 x.f3 x.f4 x.f5 x.f6 x.f7) true := by
 refine Ev.from 6301 (fun j => ?_)
 unfold temperaref20_Same.f
 simp only [if_true]
 have e : ((x.f7.length : Int) != (x.f7.length : Int)) = false := by simp
 rw [e, show 6301 + j = (6300 + j) + 1 from by omega]
 simp only [temperaref20_Same.j0, Bool.false_eq_true, if_false]
 exact same_l0 _ _ _ _ _ _ _ _ hl6 hl7 x.f6.length (6300 + j) 0 (by omega) (by omega) (by omega)
theorem decode_is (b : List Int) (hl : b.length ≤ 1000000000) (hb : ∀ x ∈ b, 0 ≤ x ∧ x ≤ 255) : code_Decode.f b = some (decR (b.length + 1) b) := if_pos ⟨hl, (bytesB_iff b).2 hb⟩
theorem awake_is : Ev (fun k => temperalaw21_awake.f k) true := by
 have hx : intsC (⟨11, 0, 1, 0, 0, 0, [], []⟩ : S37) ∧ lightC (⟨11, 0, 1, 0, 0, 0, [], []⟩ : S37) := ⟨⟨by decide, by simp, by simp⟩, by decide⟩
 have h1 := encode_is [⟨11, 0, 1, 0, 0, 0, [], []⟩] (by decide) (by intro x h; rw [List.mem_singleton.1 h]; exact hx)
 have h2 : chk [⟨11, 0, 1, 0, 0, 0, [], []⟩] = 0 := rfl
 have h3 : encL [⟨11, 0, 1, 0, 0, 0, [], []⟩] = [11, 1, 2] := rfl
 rw [encA_ok _ _ h2, List.nil_append, h3] at h1
 have h4 : decR 5 [11, 1, 2, 99] = [⟨⟨11, 0, 1, 0, 0, 0, [], []⟩, 0⟩, ⟨zc 0, 5⟩] := by
  have a1 : rcl 10 0 0 [1, 2, 99] = (1, [2, 99], 0) := rcl_cnB (u := 1) (by decide) (by decide) [2, 99]
  have a2 : cmdR 11 [2] = (⟨11, 0, 1, 0, 0, 0, [], []⟩, 0) := cmdR_B (x := ⟨11, 0, 1, 0, 0, 0, [], []⟩) ⟨by decide, rfl, hx.1, by decide, by decide⟩
  have a3 : rcl 10 0 0 [] = (0, [], 5) := rfl
  simp only [decR]
  rw [a1]
  simp only [if_true]
  rw [if_neg (by decide), if_neg (by decide)]
  show (⟨(cmdR 11 [2]).1, (cmdR 11 [2]).2⟩ : S39) :: decR 4 [99] = _
  rw [a2]
  simp only [decR]
  rw [a3]
  rfl
 have h5 : code_Decode.f [11, 1, 2, 99] = some [⟨⟨11, 0, 1, 0, 0, 0, [], []⟩, 0⟩, ⟨zc 0, 5⟩] := by
  rw [decode_is _ (by decide) (by decide)]
  exact congrArg some h4
 refine Ev.bind h1 ?_
 simp only [h5, Option.bind_some, if_true]
 refine Ev.bind (bytes_is [11, 1, 2] (by decide)) ?_
 exact Ev.val (fun k => rfl)
end Go.Proofs.Ytpgjkndijdleeaa.PCode
end
