/-
  Bits in octets: what the printed functions reckon.
-/
import Derived.Test.YteaacjabcfopgaaGreatHe
set_option linter.unusedVariables false
set_option linter.unusedSimpArgs false
namespace Go.Proofs.YteaacjabcfopgaaGreat.Run
open Go Go.Proofs.YteaacjabcfopgaaGreat.Am.G Go.RowKit Go.Proofs Go.Proofs.YteaacjabcfopgaaGreat.PQ Go.Proofs.YteaacjabcfopgaaGreatW.PrintWords Go.Proofs.YteaacjabcfopgaaGreatW.PrintLast Go.Proofs.YteaacjabcfopgaaGreatW.PrintMore
def bit (x : Nat → Nat) (i : Nat) : Bool := (x (i / 8)).testBit (i % 8)
def setb (v j : Nat) (on : Bool) : Nat := if on then (v &&& (255 ^^^ 2 ^ j)) ||| 2 ^ j else v &&& (255 ^^^ 2 ^ j)
def wb (x : Nat → Nat) (i : Nat) (on : Bool) : Nat → Nat := fun q => if q = i / 8 then setb (x q) (i % 8) on else x q
def Oct8 (x : Nat → Nat) : Prop := ∀ i, x i < 256
def tabHas : Bool := (List.range 256).all fun v => (List.range 8).all fun j => (Go.bits .and .u8 (shr .u8 (Int.ofNat v) (Int.ofNat j)) 1 == 1) == v.testBit j
theorem tabHas_ok : tabHas = true := by as_aux_lemma => kernel_rfl
def tabWith : Bool := (List.range 256).all fun v => (List.range 8).all fun j => (Go.bits .andNot .u8 (Int.ofNat v) (shl .u8 1 (Int.ofNat j)) == Int.ofNat (setb v j false)) && (Go.bits .or .u8 (Int.ofNat v) (shl .u8 1 (Int.ofNat j)) == Int.ofNat (v ||| 2 ^ j)) && Nat.blt (setb v j false) 256 && Nat.blt (setb v j true) 256 && (List.range 8).all fun i => ((setb v j false).testBit i == (if i = j then false else v.testBit i)) && ((setb v j true).testBit i == (if i = j then true else v.testBit i))
theorem tabWith_ok : tabWith = true := by as_aux_lemma => kernel_rfl
theorem all_at {n : Nat} {p : Nat → Bool} (h : (List.range n).all p = true) {v : Nat} (hv : v < n) : p v = true := List.all_eq_true.1 h v (List.mem_range.2 hv)
theorem has_byte {v j : Nat} (hv : v < 256) (hj : j < 8) : (Go.bits .and .u8 (shr .u8 (v : Int) (j : Int)) 1 == 1) = v.testBit j := by
  have := all_at (all_at tabHas_ok hv) hj
  exact beq_iff_eq.1 this
theorem with_byte {v j : Nat} (hv : v < 256) (hj : j < 8) : Go.bits .andNot .u8 (v : Int) (shl .u8 1 (j : Int)) = (setb v j false : Nat) ∧ Go.bits .or .u8 (v : Int) (shl .u8 1 (j : Int)) = (v ||| 2 ^ j : Nat) ∧ setb v j false < 256 ∧ setb v j true < 256 ∧ ∀ i < 8, (setb v j false).testBit i = (if i = j then false else v.testBit i) ∧ (setb v j true).testBit i = (if i = j then true else v.testBit i) := by
  have := all_at (all_at tabWith_ok hv) hj
  simp only [Bool.and_eq_true, beq_iff_eq] at this
  obtain ⟨⟨⟨⟨a, b⟩, c⟩, d⟩, e⟩ := this
  refine ⟨a, b, Nat.le_of_ble_eq_true c, Nat.le_of_ble_eq_true d, fun i hi => ?_⟩
  have h1 := all_at e hi
  simp only [Bool.and_eq_true, beq_iff_eq] at h1
  exact h1
theorem wb_oct {x : Nat → Nat} (hx : Oct8 x) (i : Nat) (on : Bool) : Oct8 (wb x i on) := fun q => by
  unfold wb
  split
  · cases on
    · exact (with_byte (hx q) (Nat.mod_lt i (by decide))).2.2.1
    · exact (with_byte (hx q) (Nat.mod_lt i (by decide))).2.2.2.1
  · exact hx q
theorem bit_wb {x : Nat → Nat} (hx : Oct8 x) (i k : Nat) (on : Bool) : bit (wb x i on) k = if k = i then on else bit x k := by
  unfold bit wb
  by_cases hq : k / 8 = i / 8
  · rw [if_pos hq]
    obtain ⟨-, -, -, -, h⟩ := with_byte (hx (k / 8)) (Nat.mod_lt i (by decide : 8 > 0))
    have h' := h (k % 8) (Nat.mod_lt k (by decide))
    have : (k % 8 = i % 8) = (k = i) := propext ⟨fun e => by omega, fun e => by rw [e]⟩
    cases on
    · rw [h'.1]; simp only [this]
    · rw [h'.2]; simp only [this]
  · rw [if_neg hq, if_neg (fun e => hq (by rw [e]))]
theorem oct_map (x : Nat → Nat) : oct x = (List.range 128).map fun i => ((x i : Nat) : Int) := by as_aux_lemma => kernel_rfl
theorem rd_oct (x : Nat → Nat) (q : Nat) (hq : q < 128) : rd (oct x) (q : Int) = (x q : Int) := by
  unfold rd
  rw [oct_map, List.getD_eq_getElem?_getD, List.getElem?_map, List.getElem?_range (by simpa using hq)]
  rfl
theorem quo8 (i : Nat) (hi : i < 1024) : wrap64 (Int.tdiv (i : Int) 8) = ((i / 8 : Nat) : Int) := by
  rw [Int.tdiv_eq_ediv_of_nonneg (by omega)]
  unfold wrap64
  omega
theorem rem8 (i : Nat) : Int.tmod (i : Int) 8 = ((i % 8 : Nat) : Int) := by
  rw [Int.tmod_eq_emod_of_nonneg (by omega)]
  omega
theorem has_f {x : Nat → Nat} (hx : Oct8 x) (i : Nat) (hi : i < 1024) : octets_Has.f (oct x) (i : Int) = some (bit x i) := by
  unfold octets_Has.f
  rw [if_pos (by omega), quo8 i hi, rem8, oct_len, if_pos (by omega), if_pos (by omega), if_pos (by omega), rd_oct x _ (by omega), has_byte (hx _) (Nat.mod_lt i (by decide))]
  rfl
theorem with_f {x : Nat → Nat} (hx : Oct8 x) (i : Nat) (hi : i < 1024) (on : Bool) : octets_With.f 1 (oct x) (i : Int) on = some (oct (wb x i on), 0) := by
  obtain ⟨h1, h2, h3, h4, h5⟩ := with_byte (hx (i / 8)) (Nat.mod_lt i (by decide : 8 > 0))
  have hset : ∀ (l : List Int) (n : Nat) (v : Int), l = (List.range 128).map (fun k => ((x k : Nat) : Int)) → n < 128 → l.set n v = (List.range 128).map fun k => if k = n then v else ((x k : Nat) : Int) := by
    intro l n v hl hn
    subst hl
    apply List.ext_getElem?
    intro k
    by_cases hk : k < 128
    · rw [List.getElem?_set, List.getElem?_map, List.getElem?_map, List.getElem?_range (by simpa using hk)]
      by_cases e : n = k
      · subst e; simp [hn]
      · simp [e, Ne.symm e]
    · rw [List.getElem?_eq_none (by simp; omega), List.getElem?_eq_none (by simp; omega)]
  unfold octets_With.f
  rw [if_neg (by omega), quo8 i hi, oct_len]
  have : decide (((i / 8 : Nat) : Int) ≥ ((128 : Nat) : Int)) = false := decide_eq_false (by omega)
  rw [this]
  show octets_With.j0 (0 + 1) _ _ _ _ _ = _
  rw [octets_With.j0, if_neg (by decide), if_pos (by simp [oct_len]), quo8 i hi, rem8]
  simp only [List.nil_append, Option.bind_some, Int.toNat_natCast]
  rw [if_pos (by omega), oct_len, if_pos (by omega), if_pos (by omega), rd_oct x _ (by omega), h1]
  have e1 : (oct x).set (i / 8) ((setb (x (i / 8)) (i % 8) false : Nat) : Int) = oct (wb x i false) := by
    rw [hset _ _ _ (oct_map x) (by omega), oct_map]
    refine List.map_congr_left fun k _ => ?_
    unfold wb
    by_cases e : k = i / 8
    · rw [if_pos e, if_pos e, e]
    · rw [if_neg e, if_neg e]
  cases on with
  | false =>
    rw [if_neg (by decide), e1]
  | true =>
    rw [if_pos rfl, e1, rd_oct _ _ (by omega)]
    have e2 : wb x i false (i / 8) = setb (x (i / 8)) (i % 8) false := by unfold wb; rw [if_pos rfl]
    obtain ⟨-, g2, -⟩ := with_byte (v := setb (x (i / 8)) (i % 8) false) h3 (Nat.mod_lt i (by decide : 8 > 0))
    rw [e2, g2, ← e1, List.set_set, hset _ _ _ (oct_map x) (by omega), oct_map]
    refine congrArg (fun l => some (l, (0 : Int))) (List.map_congr_left fun k _ => ?_)
    unfold wb
    by_cases e : k = i / 8
    · rw [if_pos e, if_pos e, e]; rfl
    · rw [if_neg e, if_neg e]
theorem mn_1024 {n : Int} (hn : n ≤ 1024) : mn n (wrap64 (8 * ((128 : Nat) : Int))) = n := by
  have : wrap64 (8 * ((128 : Nat) : Int)) = 1024 := by unfold wrap64; omega
  rw [this]
  unfold mn
  split <;> omega
theorem free_l {x : Nat → Nat} (hx : Oct8 x) (n r : Nat) (hn : n ≤ 1024) (hr : r < n) (hb : bit x r = false) : ∀ (m i k : Nat), i + m = r → m < k → (∀ j, i ≤ j → j < r → bit x j = true) → octets_Free.l0 k (oct x) (n : Int) (i : Int) = some ((r : Int), true)
  | 0, i, k + 1, hi, _, _ => by
    have : i = r := by omega
    subst this
    rw [octets_Free.l0, oct_len, mn_1024 (by omega), if_pos (by omega), has_f hx i (by omega), hb]
    rfl
  | m + 1, i, k + 1, hi, hk, hall => by
    rw [octets_Free.l0, oct_len, mn_1024 (by omega), if_pos (by omega), has_f hx i (by omega), hall i (Nat.le_refl _) (by omega)]
    have e : wrap64 ((i : Int) + 1) = ((i + 1 : Nat) : Int) := by unfold wrap64; omega
    simp only [Option.bind_some, if_true, e]
    exact free_l hx n r hn hr hb m (i + 1) k (by omega) (by omega) fun j h1 h2 => hall j (by omega) h2
theorem full_l {x : Nat → Nat} (hx : Oct8 x) (n : Nat) (hn : n ≤ 1024) : ∀ (m i k : Nat), i + m = n → m < k → (∀ j, i ≤ j → j < n → bit x j = true) → octets_Free.l0 k (oct x) (n : Int) (i : Int) = some (0, false)
  | 0, i, k + 1, hi, _, _ => by
    rw [octets_Free.l0, oct_len, mn_1024 (by omega), if_neg (by omega)]
  | m + 1, i, k + 1, hi, hk, hall => by
    rw [octets_Free.l0, oct_len, mn_1024 (by omega), if_pos (by omega), has_f hx i (by omega), hall i (Nat.le_refl _) (by omega)]
    have e : wrap64 ((i : Int) + 1) = ((i + 1 : Nat) : Int) := by unfold wrap64; omega
    simp only [Option.bind_some, if_true, e]
    exact full_l hx n hn m (i + 1) k (by omega) (by omega) fun j h1 h2 => hall j (by omega) h2
theorem mx_00 : mx 0 0 = ((0 : Nat) : Int) := by unfold mx; simp
theorem free_f {x : Nat → Nat} (hx : Oct8 x) {n r : Nat} (hn : n ≤ 1024) (hr : r < n) (hb : bit x r = false) (hall : ∀ j, j < r → bit x j = true) : octets_Free.f 1025 (oct x) 0 (n : Int) = some ((r : Int), true) := by
  unfold octets_Free.f
  rw [mx_00]
  exact free_l hx n r hn hr hb r 0 1025 (by omega) (by omega) fun j _ h => hall j h
theorem full_f {x : Nat → Nat} (hx : Oct8 x) {n : Nat} (hn : n ≤ 1024) (hall : ∀ j, j < n → bit x j = true) : octets_Free.f 1025 (oct x) 0 (n : Int) = some (0, false) := by
  unfold octets_Free.f
  rw [mx_00]
  exact full_l hx n hn n 0 1025 (by omega) (by omega) fun j _ h => hall j h
def cnt (x : Nat → Nat) : Nat → Nat → Nat
  | _, 0 => 0
  | i, m + 1 => (if bit x i then 1 else 0) + cnt x (i + 1) m
theorem cnt_succ (x : Nat → Nat) (i m : Nat) : cnt x i (m + 1) = (if bit x i then 1 else 0) + cnt x (i + 1) m := rfl
theorem cnt_le (x : Nat → Nat) : ∀ (m i : Nat), cnt x i m ≤ m
  | 0, _ => Nat.le_refl _
  | m + 1, i => by
    have := cnt_le x m (i + 1)
    rw [cnt_succ]
    split <;> omega
theorem count_l {x : Nat → Nat} (hx : Oct8 x) (n : Nat) (hn : n ≤ 1024) : ∀ (m i k a : Nat), i + m = n → m < k → a ≤ i → octets_Count.l0 k (oct x) (a : Int) (n : Int) (i : Int) = some ((a + cnt x i m : Nat) : Int)
  | 0, i, k + 1, a, hi, _, _ => by
    rw [octets_Count.l0, if_neg (by omega)]
    rfl
  | m + 1, i, k + 1, a, hi, hk, ha => by
    rw [octets_Count.l0, if_pos (by omega), has_f hx i (by omega)]
    have e : wrap64 ((i : Int) + 1) = ((i + 1 : Nat) : Int) := by unfold wrap64; omega
    have ea : wrap64 ((a : Int) + 1) = ((a + 1 : Nat) : Int) := by unfold wrap64; omega
    simp only [Option.bind_some, e, ea]
    cases hb : bit x i with
    | true =>
      rw [if_pos rfl, count_l hx n hn m (i + 1) k (a + 1) (by omega) (by omega) (by omega)]
      rw [cnt_succ, hb, if_pos rfl]
      congr 2
      omega
    | false =>
      rw [if_neg (by decide), count_l hx n hn m (i + 1) k a (by omega) (by omega) (by omega)]
      rw [cnt_succ, hb, if_neg (by decide), Nat.zero_add]
theorem count_f {x : Nat → Nat} (hx : Oct8 x) {n : Nat} (hn : n ≤ 1024) : octets_Count.f 1025 (oct x) (n : Int) = some ((cnt x 0 n : Nat) : Int) := by
  unfold octets_Count.f
  rw [oct_len, mn_1024 (by omega)]
  have : mx 0 (n : Int) = (n : Int) := by unfold mx; split <;> omega
  rw [this]
  have := count_l hx n hn n 0 1025 0 (by omega) (by omega) (by omega)
  simpa using this
end Go.Proofs.YteaacjabcfopgaaGreat.Run
