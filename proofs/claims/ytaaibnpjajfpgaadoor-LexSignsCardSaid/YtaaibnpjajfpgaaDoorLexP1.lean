/- Plain laws: the reference's First against the model's decoding. -/
import Derived.Test.YtaaibnpjajfpgaaDoorLexN
import Derived.Lib.ValidAsc
import Derived.Lib.DecodeN
import Derived.Lib.RuneCountTail
namespace Go.Proofs.YtaaibnpjajfpgaaDoor.PLex
open Go.RowKit Go.Proofs.YtaaibnpjajfpgaaDoorW.PrintWords Go.Proofs.YtaaibnpjajfpgaaDoorW.PrintLast Go.Proofs.YtaaibnpjajfpgaaDoorW.PrintMore
set_option linter.unusedVariables false
set_option linter.unusedSimpArgs false




theorem Ev.up {α : Type} {g : Nat → Option α} {r : α} (h : Ev (fun k => g (k + 1)) r) : Ev g r := Ev.step (fun _ => rfl) h
theorem Ev.val {α : Type} {g : Nat → Option α} {r : α} (h : ∀ k, g k = some r) : Ev g r := ⟨0, fun k _ => h k⟩
theorem Ev.from {α : Type} {g : Nat → Option α} {r : α} (K : Nat) (h : ∀ j, g (K + j) = some r) : Ev g r := ⟨K, fun k hk => by have := h (k - K); rwa [show K + (k - K) = k from by omega] at this⟩
theorem w1 (i : Nat) (h : i ≤ 1000000000000) : wrap64 ((i : Int) + 1) = ((i + 1 : Nat) : Int) := by unfold wrap64; omega
theorem wid (x : Int) (h : -9223372036854775808 ≤ x) (h2 : x ≤ 9223372036854775807) : wrap64 x = x := by unfold wrap64; omega

/-- The i-th byte. -/
def B (t : ByteArray) (i : Nat) : Nat := (t.get! i).toNat
theorem B_lt (t : ByteArray) (i : Nat) : B t i < 256 := UInt8.toNat_lt _
theorem bt_B (t : ByteArray) (i : Nat) (h : i < t.size) : bt t (i : Int) = (B t i : Int) := by
  have : (i : Int).toNat = i := by omega
  unfold bt B
  simp only [this]
  rw [dif_pos h]
  congr 2
  simp [ByteArray.get!, h]
  rfl
theorem take_B (t : ByteArray) : ∀ n, n ≤ t.size → (t.data.toList.take n).map UInt8.toNat = (List.range n).map (B t)
  | 0, _ => by simp
  | n + 1, h => by
    have h' : n < t.data.toList.length := by rw [← Lib.size_eq]; omega
    rw [List.take_succ_eq_append_getElem h', List.map_append, take_B t n (by omega), List.range_succ, List.map_append]
    congr 1
    simp only [List.map_cons, List.map_nil, List.cons.injEq, and_true]
    unfold B
    rw [← Lib.getD_get!']
    rw [List.getD_eq_getElem?_getD, List.getElem?_eq_getElem h']
    rfl
/-- Two ways to say that a row of numbers spells the first n bytes. -/
theorem spells (t : ByteArray) (n : Nat) (h : n ≤ t.size) (L : List Nat) (hL : ∀ x ∈ L, x < 256) : ((strOfNums (L.map fun (x : Nat) => (x : Int))).toList = (t.extract 0 n).toList) ↔ L = (List.range n).map (B t) := by
  rw [ByteArray.toList_eq, ByteArray.toList_eq, Lib.extract_from_zero, ← take_B t n h, strOfNums_data, List.map_map]
  constructor
  · intro e
    rw [← e, List.map_map]
    have : ∀ x ∈ L, (UInt8.toNat ∘ ((fun n : Int => UInt8.ofNat n.toNat) ∘ fun (x : Nat) => (x : Int))) x = id x := fun x hx => by
      have := hL x hx
      simp
      omega
    rw [List.map_congr_left this, List.map_id]
  · intro e
    rw [e, List.map_map]
    have : ∀ b ∈ t.data.toList.take n, (((fun n : Int => UInt8.ofNat n.toNat) ∘ fun (x : Nat) => (x : Int)) ∘ UInt8.toNat) b = id b := fun b _ => by simp
    rw [List.map_congr_left this, List.map_id]
/-- What the reference's First answers, in numbers: the lead byte's class m, the number c. -/
theorem lay_is (c : Nat) (hc : c ≤ 1114111) : temperaref04_Lay.f (c : Int) = some ((if c < 128 then [c] else if c < 2048 then [192 + c / 64, 128 + c % 64] else if c < 65536 then [224 + c / 4096, 128 + c / 64 % 64, 128 + c % 64] else [240 + c / 262144, 128 + c / 4096 % 64, 128 + c / 64 % 64, 128 + c % 64]).map fun (x : Nat) => (x : Int)) := by
  have e1 : Int.tdiv (c : Int) 64 = ((c / 64 : Nat) : Int) := by rw [Int.tdiv_eq_ediv_of_nonneg (by omega)]; omega
  have e2 : Int.tdiv (c : Int) 4096 = ((c / 4096 : Nat) : Int) := by rw [Int.tdiv_eq_ediv_of_nonneg (by omega)]; omega
  have e3 : Int.tdiv (c : Int) 262144 = ((c / 262144 : Nat) : Int) := by rw [Int.tdiv_eq_ediv_of_nonneg (by omega)]; omega
  have m1 : Int.tmod (c : Int) 64 = ((c % 64 : Nat) : Int) := by rw [Int.tmod_eq_emod_of_nonneg (by omega)]; omega
  have m2 : Int.tmod ((c / 64 : Nat) : Int) 64 = ((c / 64 % 64 : Nat) : Int) := by rw [Int.tmod_eq_emod_of_nonneg (by omega)]; omega
  have m3 : Int.tmod ((c / 4096 : Nat) : Int) 64 = ((c / 4096 % 64 : Nat) : Int) := by rw [Int.tmod_eq_emod_of_nonneg (by omega)]; omega
  unfold temperaref04_Lay.f
  rw [e1, e2, e3, m1, wid (((c / 64 : Nat) : Int)) (by omega) (by omega), wid (((c / 4096 : Nat) : Int)) (by omega) (by omega), wid (((c / 262144 : Nat) : Int)) (by omega) (by omega), m2, m3]
  repeat' split
  all_goals first | (exfalso; omega) | skip
  all_goals simp only [List.map_cons, List.map_nil, Option.some.injEq, List.cons.injEq, and_true]
  all_goals (repeat' apply And.intro)
  all_goals first | omega | (rw [wid _ (by omega) (by omega)]; omega)
theorem sign_is (c : Int) : temperaref04_Sign.f c = some (decide (0 ≤ c ∧ c ≤ 1114111 ∧ (c < 55296 ∨ 57343 < c))) := by
  unfold temperaref04_Sign.f
  repeat' split
  all_goals (refine congrArg some ?_; first | (rw [eq_comm, decide_eq_true_eq]; omega) | (rw [eq_comm, decide_eq_false_iff_not]; omega) | (refine decide_eq_decide.mpr ?_; omega))
def layN (c : Nat) : List Nat := if c < 128 then [c] else if c < 2048 then [192 + c / 64, 128 + c % 64] else if c < 65536 then [224 + c / 4096, 128 + c / 64 % 64, 128 + c % 64] else [240 + c / 262144, 128 + c / 4096 % 64, 128 + c / 64 % 64, 128 + c % 64]
theorem layN_lt (c : Nat) (hc : c ≤ 1114111) : ∀ x ∈ layN c, x < 256 := by
  unfold layN
  repeat' split
  all_goals (intro x hx; simp only [List.mem_cons, List.mem_nil_iff, or_false] at hx; omega)
/-- c is a sign, and it is spelt by the row. -/
def okN (c : Int) (row : List Nat) : Prop := (0 ≤ c ∧ c ≤ 1114111 ∧ (c < 55296 ∨ 57343 < c)) ∧ layN c.toNat = row
instance (c : Int) (row : List Nat) : Decidable (okN c row) := by unfold okN; infer_instance
/-- The loop's end. -/
theorem fin_is (t : ByteArray) (n : Nat) (hn : n ≤ t.size) (h4 : n ≤ 4) (c : Int) (k : Nat) : temperaref04_First.l0 (k + 1) t (n : Int) c (n : Int) = some (if okN c ((List.range n).map (B t)) then (c, (n : Int)) else (0, 0)) := by
  simp only [temperaref04_First.l0]
  rw [if_neg (by omega), sign_is]
  simp only [Option.bind_some]
  by_cases hs : 0 ≤ c ∧ c ≤ 1114111 ∧ (c < 55296 ∨ 57343 < c)
  · rw [if_pos (decide_eq_true hs)]
    have hl := lay_is c.toNat (by omega)
    rw [show ((c.toNat : Nat) : Int) = c by omega] at hl
    rw [hl]
    simp only [Option.bind_some]
    rw [if_pos (by omega), if_pos (by omega)]
    have hsp := spells t n hn (layN c.toNat) (layN_lt c.toNat (by omega))
    unfold layN at hsp
    rw [show ((n : Int)).toNat = n by omega]
    by_cases he : layN c.toNat = (List.range n).map (B t)
    · rw [if_pos (hsp.mpr (by unfold layN at he; exact he)), if_pos ⟨hs, he⟩]
    · rw [if_neg (fun q => he (by unfold layN; exact hsp.mp q)), if_neg (fun q => he q.2)]
  · rw [if_neg (by rw [decide_eq_false hs]; decide), if_neg (fun q => hs q.1)]

/-- What First answers out of the decoding. -/
def conv (p : Nat × Nat) : Int × Int := if p.1 = 65533 ∧ p.2 = 1 then (0, 0) else ((p.1 : Int), (p.2 : Int))
set_option maxRecDepth 100000
theorem ok1 (b0 : Nat) (h : b0 < 192) : okN (b0 : Int) [b0] ↔ b0 < 128 := by
  unfold okN layN
  rw [show ((b0 : Nat) : Int).toNat = b0 by omega]
  repeat' split
  all_goals simp
  all_goals omega
theorem ok2 (b0 b1 : Nat) (h0 : 192 ≤ b0) (h : b0 < 224) (h1 : b1 < 256) : okN (((b0 : Int) - 192) * 64 + b1 - 128) [b0, b1] ↔ (b1 / 64 = 2 ∧ 128 ≤ b0 % 32 * 64 + b1 % 64) := by
  unfold okN layN
  generalize hc : (((b0 : Int) - 192) * 64 + b1 - 128) = c
  repeat' split
  all_goals simp
  all_goals omega
set_option maxHeartbeats 4000000 in
theorem ok3 (b0 b1 b2 : Nat) (h0 : 224 ≤ b0) (h : b0 < 240) (h1 : b1 < 256) (h2 : b2 < 256) : okN ((((b0 : Int) - 224) * 64 + b1 - 128) * 64 + b2 - 128) [b0, b1, b2] ↔ (b1 / 64 = 2 ∧ b2 / 64 = 2 ∧ 2048 ≤ b0 % 16 * 4096 + b1 % 64 * 64 + b2 % 64 ∧ (b0 % 16 * 4096 + b1 % 64 * 64 + b2 % 64 < 55296 ∨ 57344 ≤ b0 % 16 * 4096 + b1 % 64 * 64 + b2 % 64)) := by
  unfold okN layN
  generalize hc : ((((b0 : Int) - 224) * 64 + b1 - 128) * 64 + b2 - 128) = c
  repeat' split
  all_goals simp
  all_goals omega
set_option maxHeartbeats 8000000 in
theorem ok4 (b0 b1 b2 b3 : Nat) (h0 : 240 ≤ b0) (h : b0 < 256) (h1 : b1 < 256) (h2 : b2 < 256) (h3 : b3 < 256) : okN (((((b0 : Int) - 240) * 64 + b1 - 128) * 64 + b2 - 128) * 64 + b3 - 128) [b0, b1, b2, b3] ↔ (b0 / 8 = 30 ∧ b1 / 64 = 2 ∧ b2 / 64 = 2 ∧ b3 / 64 = 2 ∧ 65536 ≤ b0 % 8 * 262144 + b1 % 64 * 4096 + b2 % 64 * 64 + b3 % 64 ∧ b0 % 8 * 262144 + b1 % 64 * 4096 + b2 % 64 * 64 + b3 % 64 ≤ 1114111) := by
  unfold okN layN
  generalize hc : (((((b0 : Int) - 240) * 64 + b1 - 128) * 64 + b2 - 128) * 64 + b3 - 128) = c
  repeat' split
  all_goals simp
  all_goals omega
theorem l0_step (t : ByteArray) (n i : Nat) (c : Int) (k : Nat) (hi : i < n) (hn : n ≤ t.size) (h4 : n ≤ 4) (h1 : -1000000000 ≤ c) (h2 : c ≤ 1000000000) :
    temperaref04_First.l0 (k + 1) t (n : Int) c (i : Int) = temperaref04_First.l0 k t (n : Int) (c * 64 + (B t i : Int) - 128) ((i + 1 : Nat) : Int) := by
  have hb := B_lt t i
  rw [temperaref04_First.l0, if_pos (by omega), if_pos (by omega), if_pos (by omega), bt_B t i (by omega), w1 i (by omega), wid (c * 64) (by omega) (by omega), wid (B t i : Int) (by omega) (by omega), wid (c * 64 + (B t i : Int)) (by omega) (by omega), wid (c * 64 + (B t i : Int) - 128) (by omega) (by omega)]
theorem fin_ev (t : ByteArray) (n : Nat) (hn : n ≤ t.size) (h4 : n ≤ 4) (c : Int) : Ev (fun k => temperaref04_First.l0 k t (n : Int) c (n : Int)) (if okN c ((List.range n).map (B t)) then (c, (n : Int)) else (0, 0)) :=
  Ev.up (Ev.val (fun k => fin_is t n hn h4 c k))
theorem step_ev (t : ByteArray) (n i : Nat) (c : Int) (hi : i < n) (hn : n ≤ t.size) (h4 : n ≤ 4) (h1 : -1000000000 ≤ c) (h2 : c ≤ 1000000000) {r : Int × Int}
    (h : Ev (fun k => temperaref04_First.l0 k t (n : Int) (c * 64 + (B t i : Int) - 128) ((i + 1 : Nat) : Int)) r) : Ev (fun k => temperaref04_First.l0 k t (n : Int) c (i : Int)) r :=
  Ev.step (fun k => l0_step t n i c k hi hn h4 h1 h2) h
theorem j0_short (t : ByteArray) (n : Nat) (c : Int) (h : t.size < n) : Ev (fun k => temperaref04_First.j0 k t (n : Int) c) (0, 0) :=
  Ev.up (Ev.val (fun k => by rw [temperaref04_First.j0, if_pos (by omega)]))
theorem j0_long (t : ByteArray) (n : Nat) (c : Int) (h : n ≤ t.size) {r : Int × Int} (he : Ev (fun k => temperaref04_First.l0 k t (n : Int) c ((1 : Nat) : Int)) r) : Ev (fun k => temperaref04_First.j0 k t (n : Int) c) r :=
  Ev.step (fun k => by rw [temperaref04_First.j0, if_neg (by omega)]; rfl) he
theorem conv_bad : conv (65533, 1) = (0, 0) := rfl
theorem conv_ok (c n : Nat) (h : ¬ (c = 65533 ∧ n = 1)) : conv (c, n) = ((c : Int), (n : Int)) := by unfold conv; rw [if_neg h]
theorem closes {g : Nat → Option (Int × Int)} {c : Int} {n : Nat} {row : List Nat} {P : Prop} {p : Nat × Nat} (hf : Ev g (if okN c row then (c, (n : Int)) else (0, 0))) (ho : okN c row ↔ P) (hy : P → (p.1 : Int) = c ∧ p.2 = n ∧ ¬ (p.1 = 65533 ∧ p.2 = 1)) (hn : ¬ P → p = (65533, 1)) : Ev g (conv p) := by
  by_cases h : P
  · obtain ⟨e1, e2, e3⟩ := hy h
    rw [if_pos (ho.mpr h)] at hf
    unfold conv
    rw [if_neg e3, e1, e2]
    exact hf
  · rw [hn h]
    rw [if_neg (fun q => h (ho.mp q))] at hf
    exact hf
theorem dec4 (n b0 b1 b2 b3 : Nat) (hn : 4 ≤ n) (h0 : 240 ≤ b0) : Lib.decodeN n b0 b1 b2 b3 = if b0 / 8 = 30 ∧ b1 / 64 = 2 ∧ b2 / 64 = 2 ∧ b3 / 64 = 2 ∧ 65536 ≤ b0 % 8 * 262144 + b1 % 64 * 4096 + b2 % 64 * 64 + b3 % 64 ∧ b0 % 8 * 262144 + b1 % 64 * 4096 + b2 % 64 * 64 + b3 % 64 ≤ 1114111 then (b0 % 8 * 262144 + b1 % 64 * 4096 + b2 % 64 * 64 + b3 % 64, 4) else (65533, 1) := by
  unfold Lib.decodeN
  rw [if_neg (show ¬ b0 < 128 by omega), if_neg (fun z => by have := z.1; omega), if_neg (fun z => by have := z.1; omega)]
  generalize b0 % 8 * 262144 + b1 % 64 * 4096 + b2 % 64 * 64 + b3 % 64 = v
  by_cases q : b0 / 8 = 30 ∧ b1 / 64 = 2 ∧ b2 / 64 = 2 ∧ b3 / 64 = 2
  · obtain ⟨q1, q2, q3, q4⟩ := q
    rw [if_pos ⟨q1, ⟨by omega, q2⟩, ⟨by omega, q3⟩, ⟨by omega, q4⟩⟩]
    by_cases z : 65536 ≤ v ∧ v ≤ 1114111
    · rw [if_pos ⟨z.1, by omega⟩, if_pos ⟨q1, q2, q3, q4, z.1, z.2⟩]
    · rw [if_neg (fun y => z ⟨y.1, by have := y.1; have := y.2; omega⟩), if_neg (fun y => z y.2.2.2.2)]
  · rw [if_neg (fun y => q ⟨y.1, y.2.1.2, y.2.2.1.2, y.2.2.2.2⟩), if_neg (fun y => q ⟨y.1, y.2.1, y.2.2.1, y.2.2.2.1⟩)]
theorem dec3 (n b0 b1 b2 b3 : Nat) (hn : 3 ≤ n) (h0 : 224 ≤ b0) (h : b0 < 240) : Lib.decodeN n b0 b1 b2 b3 = if b1 / 64 = 2 ∧ b2 / 64 = 2 ∧ 2048 ≤ b0 % 16 * 4096 + b1 % 64 * 64 + b2 % 64 ∧ (b0 % 16 * 4096 + b1 % 64 * 64 + b2 % 64 < 55296 ∨ 57344 ≤ b0 % 16 * 4096 + b1 % 64 * 64 + b2 % 64) then (b0 % 16 * 4096 + b1 % 64 * 64 + b2 % 64, 3) else (65533, 1) := by
  have hv : b0 % 16 * 4096 + b1 % 64 * 64 + b2 % 64 ≤ 1114111 := by omega
  unfold Lib.decodeN
  rw [if_neg (show ¬ b0 < 128 by omega), if_neg (fun z => by have := z.1; omega)]
  by_cases q : b1 / 64 = 2 ∧ b2 / 64 = 2
  · obtain ⟨q1, q2⟩ := q
    rw [if_pos ⟨by omega, ⟨by omega, q1⟩, ⟨by omega, q2⟩⟩]
    revert hv
    generalize b0 % 16 * 4096 + b1 % 64 * 64 + b2 % 64 = v
    intro hv
    by_cases z : 2048 ≤ v ∧ (v < 55296 ∨ 57344 ≤ v)
    · have c1 : v ≥ 2048 ∧ (v < 55296 ∨ (57344 ≤ v ∧ v ≤ 1114111)) := by omega
      have c2 : b1 / 64 = 2 ∧ b2 / 64 = 2 ∧ 2048 ≤ v ∧ (v < 55296 ∨ 57344 ≤ v) := by omega
      rw [if_pos c1, if_pos c2]
    · have c1 : ¬ (v ≥ 2048 ∧ (v < 55296 ∨ (57344 ≤ v ∧ v ≤ 1114111))) := by omega
      have c2 : ¬ (b1 / 64 = 2 ∧ b2 / 64 = 2 ∧ 2048 ≤ v ∧ (v < 55296 ∨ 57344 ≤ v)) := by omega
      rw [if_neg c1, if_neg c2]
  · rw [if_neg (fun y => q ⟨y.2.1.2, y.2.2.2⟩), if_neg (fun z => by have := z.1; omega), if_neg (fun y => q ⟨y.1, y.2.1⟩)]
theorem dec2 (n b0 b1 b2 b3 : Nat) (hn : 2 ≤ n) (h0 : 192 ≤ b0) (h : b0 < 224) : Lib.decodeN n b0 b1 b2 b3 = if b1 / 64 = 2 ∧ 128 ≤ b0 % 32 * 64 + b1 % 64 then (b0 % 32 * 64 + b1 % 64, 2) else (65533, 1) := by
  unfold Lib.decodeN
  rw [if_neg (show ¬ b0 < 128 by omega)]
  generalize b0 % 32 * 64 + b1 % 64 = v
  by_cases q1 : b1 / 64 = 2
  · rw [if_pos ⟨by omega, by omega, q1⟩]
    by_cases z : 128 ≤ v
    · rw [if_pos z, if_pos ⟨q1, z⟩]
    · rw [if_neg z, if_neg (fun y => z y.2)]
  · rw [if_neg (fun y => q1 y.2.2), if_neg (fun z => by have := z.1; omega), if_neg (fun z => by have := z.1; omega), if_neg (fun y => q1 y.1)]
theorem dec1 (n b0 b1 b2 b3 : Nat) (h : b0 < 192) : Lib.decodeN n b0 b1 b2 b3 = if b0 < 128 then (b0, 1) else (65533, 1) := by
  unfold Lib.decodeN
  repeat' split
  all_goals first | rfl | (exfalso; omega)
theorem decS (n b0 b1 b2 b3 : Nat) (h : n < (if 240 ≤ b0 then 4 else if 224 ≤ b0 then 3 else if 192 ≤ b0 then 2 else 1)) (hn : 1 ≤ n) : Lib.decodeN n b0 b1 b2 b3 = (65533, 1) := by
  have h' : (240 ≤ b0 ∧ n < 4) ∨ (224 ≤ b0 ∧ b0 < 240 ∧ n < 3) ∨ (192 ≤ b0 ∧ b0 < 224 ∧ n < 2) := by
    repeat' split at h
    all_goals omega
  clear h
  unfold Lib.decodeN
  rw [if_neg (by omega), if_neg (fun y => by have h1 := y.1; have h2 := y.2.1; omega), if_neg (fun y => by have h1 := y.1; have h2 := y.2.2.1; omega), if_neg (fun y => by have h1 := y.1; have h2 := y.2.2.2.1; omega)]
set_option maxHeartbeats 4000000 in
/-- The reference's First is the model's decoding. -/
theorem first_is (t : ByteArray) (h : 0 < t.size) : Ev (fun k => temperaref04_First.f k t) (conv (Utf8.decode t 0)) := by
  have g0 := B_lt t 0
  have g1 := B_lt t 1
  have g2 := B_lt t 2
  have g3 := B_lt t 3
  have hd : Utf8.decode t 0 = Lib.decodeN t.size (B t 0) (B t 1) (B t 2) (B t 3) := Lib.decode_at t 0
  rw [hd]
  have hb0 : bt t 0 = (B t 0 : Int) := bt_B t 0 h
  have r1 : (List.range 1).map (B t) = [B t 0] := rfl
  have r2 : (List.range 2).map (B t) = [B t 0, B t 1] := rfl
  have r3 : (List.range 3).map (B t) = [B t 0, B t 1, B t 2] := rfl
  have r4 : (List.range 4).map (B t) = [B t 0, B t 1, B t 2, B t 3] := rfl
  generalize hB0 : B t 0 = b0 at *
  generalize hB1 : B t 1 = b1 at *
  generalize hB2 : B t 2 = b2 at *
  generalize hB3 : B t 3 = b3 at *
  unfold temperaref04_First.f
  simp only [hb0]
  rw [wid (b0 : Int) (by omega) (by omega)]
  by_cases c240 : 240 ≤ b0
  · refine Ev.congr (f := fun k => temperaref04_First.j0 k t ((4 : Nat) : Int) ((b0 : Int) - 240)) (fun k => ?_) ?_
    · rw [if_neg (by omega), if_pos (by omega), if_pos (by omega), wid _ (by omega) (by omega)]; rfl
    by_cases hs : t.size < 4
    · rw [decS _ _ _ _ _ (by rw [if_pos c240]; exact hs) h]
      exact j0_short t 4 _ hs
    · refine j0_long t 4 _ (by omega) (step_ev t 4 1 _ (by omega) (by omega) (by omega) (by omega) (by omega) (step_ev t 4 2 _ (by omega) (by omega) (by omega) (by omega) (by omega) (step_ev t 4 3 _ (by omega) (by omega) (by omega) (by omega) (by omega) ?_)))
      have hf := fin_ev t 4 (by omega) (by omega) (((((b0 : Int) - 240) * 64 + b1 - 128) * 64 + b2 - 128) * 64 + b3 - 128)
      rw [r4] at hf
      simp only [hB1, hB2, hB3]
      rw [dec4 _ _ _ _ _ (by omega) c240]
      exact closes hf (ok4 b0 b1 b2 b3 c240 g0 g1 g2 g3) (fun q => by rw [if_pos q]; exact ⟨by show ((_ : Nat) : Int) = _; omega, rfl, fun z => by have := z.2; simp at this⟩) (fun q => if_neg q)
  · by_cases c224 : 224 ≤ b0
    · refine Ev.congr (f := fun k => temperaref04_First.j0 k t ((3 : Nat) : Int) ((b0 : Int) - 224)) (fun k => ?_) ?_
      · rw [if_neg (by omega), if_pos (by omega), if_neg (by omega), if_pos (by omega), wid _ (by omega) (by omega)]; rfl
      by_cases hs : t.size < 3
      · rw [decS _ _ _ _ _ (by rw [if_neg c240, if_pos c224]; exact hs) h]
        exact j0_short t 3 _ hs
      · refine j0_long t 3 _ (by omega) (step_ev t 3 1 _ (by omega) (by omega) (by omega) (by omega) (by omega) (step_ev t 3 2 _ (by omega) (by omega) (by omega) (by omega) (by omega) ?_))
        have hf := fin_ev t 3 (by omega) (by omega) ((((b0 : Int) - 224) * 64 + b1 - 128) * 64 + b2 - 128)
        rw [r3] at hf
        simp only [hB1, hB2]
        rw [dec3 _ _ _ _ _ (by omega) c224 (by omega)]
        exact closes hf (ok3 b0 b1 b2 c224 (by omega) g1 g2) (fun q => by rw [if_pos q]; exact ⟨by show ((_ : Nat) : Int) = _; omega, rfl, fun z => by have := z.2; simp at this⟩) (fun q => if_neg q)
    · by_cases c192 : 192 ≤ b0
      · refine Ev.congr (f := fun k => temperaref04_First.j0 k t ((2 : Nat) : Int) ((b0 : Int) - 192)) (fun k => ?_) ?_
        · rw [if_neg (by omega), if_pos (by omega), if_neg (by omega), if_neg (by omega), if_pos (by omega), wid _ (by omega) (by omega)]; rfl
        by_cases hs : t.size < 2
        · rw [decS _ _ _ _ _ (by rw [if_neg c240, if_neg c224, if_pos c192]; exact hs) h]
          exact j0_short t 2 _ hs
        · refine j0_long t 2 _ (by omega) (step_ev t 2 1 _ (by omega) (by omega) (by omega) (by omega) (by omega) ?_)
          have hf := fin_ev t 2 (by omega) (by omega) (((b0 : Int) - 192) * 64 + b1 - 128)
          rw [r2] at hf
          simp only [hB1]
          rw [dec2 _ _ _ _ _ (by omega) c192 (by omega)]
          exact closes hf (ok2 b0 b1 c192 (by omega) g1) (fun q => by rw [if_pos q]; exact ⟨by show ((_ : Nat) : Int) = _; omega, rfl, fun z => by have := z.2; simp at this⟩) (fun q => if_neg q)
      · refine Ev.congr (f := fun k => temperaref04_First.j0 k t ((1 : Nat) : Int) (b0 : Int)) (fun k => ?_) ?_
        · rw [if_neg (by omega), if_pos (by omega), if_neg (by omega), if_neg (by omega), if_neg (by omega)]; rfl
        refine j0_long t 1 _ (by omega) ?_
        have hf := fin_ev t 1 (by omega) (by omega) (b0 : Int)
        rw [r1] at hf
        rw [dec1 _ _ _ _ _ (by omega)]
        exact closes hf (ok1 b0 (by omega)) (fun q => by rw [if_pos q]; exact ⟨rfl, rfl, fun z => by have := z.1; simp at this; omega⟩) (fun q => if_neg q)
end Go.Proofs.YtaaibnpjajfpgaaDoor.PLex
