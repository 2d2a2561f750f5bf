/-
  Bits in octets, maps as sets of things, Begin; what the rows of the law stand for.
-/
import Derived.Test.YteaacjabcfopgaaGreatHa
import Derived.KernelRfl
import Derived.Tactics2
import Derived.Deep.LoopGhost
import Derived.Laws.MakeOwn
set_option linter.unusedVariables false
set_option linter.unusedSimpArgs false
section
namespace Go.Proofs.YteaacjabcfopgaaGreat.Run
open Go Go.Proofs.YteaacjabcfopgaaGreat.Am Go.Proofs.YteaacjabcfopgaaGreat.Am.G Go.RowKit Go.Proofs Go.Proofs.YteaacjabcfopgaaGreat.PQ
set_option maxRecDepth 1000000
set_option maxHeartbeats 4000000
set_option linter.unusedVariables false
noncomputable section
def HB0 : H := ⟨ofPairs [(0, j0), (1, .map [] 298), (2, j1), (5, j2), (7, j3), (9, j4), (11, j5), (13, .map [] 29), (14, .map [] 29), (15, j6), (16, j7), (17, lB [.ptr 16 0, i64 2] false), (22, j8), (23, lB [.ptr 22 0, i64 2] false), (28, j9), (29, lB [.ptr 28 0, i64 2] false), (34, j10), (35, lB [.ptr 34 0, i64 2] false), (38, j11), (39, j12), (1082, .map [] 0), (1083, j13), (6299, .map [] 0), (6300, j14), (6532, j15)], 6533⟩
end
end Go.Proofs.YteaacjabcfopgaaGreat.Run
end
section
set_option linter.unusedVariables false
set_option linter.unusedSimpArgs false
namespace Go.Proofs.YteaacjabcfopgaaGreat.Run
open Go Go.Proofs.YteaacjabcfopgaaGreat.Am.G Go.RowKit Go.Proofs Go.Proofs.YteaacjabcfopgaaGreat.PQ Go.Proofs.YteaacjabcfopgaaGreatW.PrintWords Go.Proofs.YteaacjabcfopgaaGreatW.PrintLast Go.Proofs.YteaacjabcfopgaaGreatW.PrintMore
def bit (x : Nat → Nat) (i : Nat) : Bool := (x (i / 8)).testBit (i % 8)
def setb (v j : Nat) (on : Bool) : Nat := if on then (v &&& (255 ^^^ 2 ^ j)) ||| 2 ^ j else v &&& (255 ^^^ 2 ^ j)
def wb (x : Nat → Nat) (i : Nat) (on : Bool) : Nat → Nat := fun q => if q = i / 8 then setb (x q) (i % 8) on else x q
def Oct8 (x : Nat → Nat) : Prop := ∀ i, x i < 256
def tabHas : Bool := (List.range 256).all fun v => (List.range 8).all fun j => (Go.bits .and .u8 (shr .u8 (Int.ofNat v) (Int.ofNat j)) 1 == 1) == v.testBit j
theorem tabHas_ok : tabHas = true := by as_aux_lemma => kernel_rfl
def tabWith : Bool := (List.range 256).all fun v => (List.range 8).all fun j => (Go.bits .andNot .u8 (Int.ofNat v) (shl .u8 1 (Int.ofNat j)) == Int.ofNat (setb v j false)) && (Go.bits .or .u8 (Int.ofNat v) (shl .u8 1 (Int.ofNat j)) == Int.ofNat (v ||| 2 ^ j)) && Nat.blt (setb v j false) 256 && Nat.blt (setb v j true) 256 && (List.range 8).all fun i => ((setb v j false).testBit i == (if i = j then false else v.testBit i)) && ((setb v j true).testBit i == (if i = j then true else v.testBit i))
theorem tabWith_ok : tabWith = true := by as_aux_lemma => kernel_rfl
theorem all_at {n : Nat} {p : Nat → Bool} (h : (List.range n).all p = true) {v : Nat} (hv : v < n) : p v = true := List.all_eq_true.1 h v (List.mem_range.2 hv)
theorem has_byte {v j : Nat} (hv : v < 256) (hj : j < 8) : (Go.bits .and .u8 (shr .u8 (v : Int) (j : Int)) 1 == 1) = v.testBit j := by
  have := all_at (all_at tabHas_ok hv) hj
  exact beq_iff_eq.1 this
theorem with_byte {v j : Nat} (hv : v < 256) (hj : j < 8) : Go.bits .andNot .u8 (v : Int) (shl .u8 1 (j : Int)) = (setb v j false : Nat) ∧ Go.bits .or .u8 (v : Int) (shl .u8 1 (j : Int)) = (v ||| 2 ^ j : Nat) ∧ setb v j false < 256 ∧ setb v j true < 256 ∧ ∀ i < 8, (setb v j false).testBit i = (if i = j then false else v.testBit i) ∧ (setb v j true).testBit i = (if i = j then true else v.testBit i) := by
  have := all_at (all_at tabWith_ok hv) hj
  simp only [Bool.and_eq_true, beq_iff_eq] at this
  obtain ⟨⟨⟨⟨a, b⟩, c⟩, d⟩, e⟩ := this
  refine ⟨a, b, Nat.le_of_ble_eq_true c, Nat.le_of_ble_eq_true d, fun i hi => ?_⟩
  have h1 := all_at e hi
  simp only [Bool.and_eq_true, beq_iff_eq] at h1
  exact h1
theorem wb_oct {x : Nat → Nat} (hx : Oct8 x) (i : Nat) (on : Bool) : Oct8 (wb x i on) := fun q => by
  unfold wb
  split
  · cases on
    · exact (with_byte (hx q) (Nat.mod_lt i (by decide))).2.2.1
    · exact (with_byte (hx q) (Nat.mod_lt i (by decide))).2.2.2.1
  · exact hx q
theorem bit_wb {x : Nat → Nat} (hx : Oct8 x) (i k : Nat) (on : Bool) : bit (wb x i on) k = if k = i then on else bit x k := by
  unfold bit wb
  by_cases hq : k / 8 = i / 8
  · rw [if_pos hq]
    obtain ⟨-, -, -, -, h⟩ := with_byte (hx (k / 8)) (Nat.mod_lt i (by decide : 8 > 0))
    have h' := h (k % 8) (Nat.mod_lt k (by decide))
    have : (k % 8 = i % 8) = (k = i) := propext ⟨fun e => by omega, fun e => by rw [e]⟩
    cases on
    · rw [h'.1]; simp only [this]
    · rw [h'.2]; simp only [this]
  · rw [if_neg hq, if_neg (fun e => hq (by rw [e]))]
theorem oct_map (x : Nat → Nat) : oct x = (List.range 128).map fun i => ((x i : Nat) : Int) := by as_aux_lemma => kernel_rfl
theorem rd_oct (x : Nat → Nat) (q : Nat) (hq : q < 128) : rd (oct x) (q : Int) = (x q : Int) := by
  unfold rd
  rw [oct_map, List.getD_eq_getElem?_getD, List.getElem?_map, List.getElem?_range (by simpa using hq)]
  rfl
theorem quo8 (i : Nat) (hi : i < 1024) : wrap64 (Int.tdiv (i : Int) 8) = ((i / 8 : Nat) : Int) := by
  rw [Int.tdiv_eq_ediv_of_nonneg (by omega)]
  unfold wrap64
  omega
theorem rem8 (i : Nat) : Int.tmod (i : Int) 8 = ((i % 8 : Nat) : Int) := by
  rw [Int.tmod_eq_emod_of_nonneg (by omega)]
  omega
theorem has_f {x : Nat → Nat} (hx : Oct8 x) (i : Nat) (hi : i < 1024) : octets_Has.f (oct x) (i : Int) = some (bit x i) := by
  unfold octets_Has.f
  rw [if_pos (by omega), quo8 i hi, rem8, oct_len, if_pos (by omega), if_pos (by omega), if_pos (by omega), rd_oct x _ (by omega), has_byte (hx _) (Nat.mod_lt i (by decide))]
  rfl
theorem with_f {x : Nat → Nat} (hx : Oct8 x) (i : Nat) (hi : i < 1024) (on : Bool) : octets_With.f 1 (oct x) (i : Int) on = some (oct (wb x i on), 0) := by
  obtain ⟨h1, h2, h3, h4, h5⟩ := with_byte (hx (i / 8)) (Nat.mod_lt i (by decide : 8 > 0))
  have hset : ∀ (l : List Int) (n : Nat) (v : Int), l = (List.range 128).map (fun k => ((x k : Nat) : Int)) → n < 128 → l.set n v = (List.range 128).map fun k => if k = n then v else ((x k : Nat) : Int) := by
    intro l n v hl hn
    subst hl
    apply List.ext_getElem?
    intro k
    by_cases hk : k < 128
    · rw [List.getElem?_set, List.getElem?_map, List.getElem?_map, List.getElem?_range (by simpa using hk)]
      by_cases e : n = k
      · subst e; simp [hn]
      · simp [e, Ne.symm e]
    · rw [List.getElem?_eq_none (by simp; omega), List.getElem?_eq_none (by simp; omega)]
  unfold octets_With.f
  rw [if_neg (by omega), quo8 i hi, oct_len]
  have : decide (((i / 8 : Nat) : Int) ≥ ((128 : Nat) : Int)) = false := decide_eq_false (by omega)
  rw [this]
  show octets_With.j0 (0 + 1) _ _ _ _ _ = _
  rw [octets_With.j0, if_neg (by decide), if_pos (by simp [oct_len]), quo8 i hi, rem8]
  simp only [List.nil_append, Option.bind_some, Int.toNat_natCast]
  rw [if_pos (by omega), oct_len, if_pos (by omega), if_pos (by omega), rd_oct x _ (by omega), h1]
  have e1 : (oct x).set (i / 8) ((setb (x (i / 8)) (i % 8) false : Nat) : Int) = oct (wb x i false) := by
    rw [hset _ _ _ (oct_map x) (by omega), oct_map]
    refine List.map_congr_left fun k _ => ?_
    unfold wb
    by_cases e : k = i / 8
    · rw [if_pos e, if_pos e, e]
    · rw [if_neg e, if_neg e]
  cases on with
  | false =>
    rw [if_neg (by decide), e1]
  | true =>
    rw [if_pos rfl, e1, rd_oct _ _ (by omega)]
    have e2 : wb x i false (i / 8) = setb (x (i / 8)) (i % 8) false := by unfold wb; rw [if_pos rfl]
    obtain ⟨-, g2, -⟩ := with_byte (v := setb (x (i / 8)) (i % 8) false) h3 (Nat.mod_lt i (by decide : 8 > 0))
    rw [e2, g2, ← e1, List.set_set, hset _ _ _ (oct_map x) (by omega), oct_map]
    refine congrArg (fun l => some (l, (0 : Int))) (List.map_congr_left fun k _ => ?_)
    unfold wb
    by_cases e : k = i / 8
    · rw [if_pos e, if_pos e, e]; rfl
    · rw [if_neg e, if_neg e]
theorem mn_1024 {n : Int} (hn : n ≤ 1024) : mn n (wrap64 (8 * ((128 : Nat) : Int))) = n := by
  have : wrap64 (8 * ((128 : Nat) : Int)) = 1024 := by unfold wrap64; omega
  rw [this]
  unfold mn
  split <;> omega
theorem free_l {x : Nat → Nat} (hx : Oct8 x) (n r : Nat) (hn : n ≤ 1024) (hr : r < n) (hb : bit x r = false) : ∀ (m i k : Nat), i + m = r → m < k → (∀ j, i ≤ j → j < r → bit x j = true) → octets_Free.l0 k (oct x) (n : Int) (i : Int) = some ((r : Int), true)
  | 0, i, k + 1, hi, _, _ => by
    have : i = r := by omega
    subst this
    rw [octets_Free.l0, oct_len, mn_1024 (by omega), if_pos (by omega), has_f hx i (by omega), hb]
    rfl
  | m + 1, i, k + 1, hi, hk, hall => by
    rw [octets_Free.l0, oct_len, mn_1024 (by omega), if_pos (by omega), has_f hx i (by omega), hall i (Nat.le_refl _) (by omega)]
    have e : wrap64 ((i : Int) + 1) = ((i + 1 : Nat) : Int) := by unfold wrap64; omega
    simp only [Option.bind_some, if_true, e]
    exact free_l hx n r hn hr hb m (i + 1) k (by omega) (by omega) fun j h1 h2 => hall j (by omega) h2
theorem full_l {x : Nat → Nat} (hx : Oct8 x) (n : Nat) (hn : n ≤ 1024) : ∀ (m i k : Nat), i + m = n → m < k → (∀ j, i ≤ j → j < n → bit x j = true) → octets_Free.l0 k (oct x) (n : Int) (i : Int) = some (0, false)
  | 0, i, k + 1, hi, _, _ => by
    rw [octets_Free.l0, oct_len, mn_1024 (by omega), if_neg (by omega)]
  | m + 1, i, k + 1, hi, hk, hall => by
    rw [octets_Free.l0, oct_len, mn_1024 (by omega), if_pos (by omega), has_f hx i (by omega), hall i (Nat.le_refl _) (by omega)]
    have e : wrap64 ((i : Int) + 1) = ((i + 1 : Nat) : Int) := by unfold wrap64; omega
    simp only [Option.bind_some, if_true, e]
    exact full_l hx n hn m (i + 1) k (by omega) (by omega) fun j h1 h2 => hall j (by omega) h2
theorem mx_00 : mx 0 0 = ((0 : Nat) : Int) := by unfold mx; simp
theorem free_f {x : Nat → Nat} (hx : Oct8 x) {n r : Nat} (hn : n ≤ 1024) (hr : r < n) (hb : bit x r = false) (hall : ∀ j, j < r → bit x j = true) : octets_Free.f 1025 (oct x) 0 (n : Int) = some ((r : Int), true) := by
  unfold octets_Free.f
  rw [mx_00]
  exact free_l hx n r hn hr hb r 0 1025 (by omega) (by omega) fun j _ h => hall j h
theorem full_f {x : Nat → Nat} (hx : Oct8 x) {n : Nat} (hn : n ≤ 1024) (hall : ∀ j, j < n → bit x j = true) : octets_Free.f 1025 (oct x) 0 (n : Int) = some (0, false) := by
  unfold octets_Free.f
  rw [mx_00]
  exact full_l hx n hn n 0 1025 (by omega) (by omega) fun j _ h => hall j h
end Go.Proofs.YteaacjabcfopgaaGreat.Run
end
section
set_option linter.unusedVariables false
set_option linter.unusedSimpArgs false
namespace Go.Proofs.YteaacjabcfopgaaGreat.Run
open Go Go.Proofs.YteaacjabcfopgaaGreat.Am Go.Proofs.YteaacjabcfopgaaGreat.Am.G Go.RowKit Go.Proofs Go.Proofs.YteaacjabcfopgaaGreat.PQ
def updT (t : Nat → Bool) (i : Nat) (b : Bool) : Nat → Bool := fun j => if j = i then b else t j
def cntT (t : Nat → Bool) : Nat → Nat
  | 0 => 0
  | n + 1 => (if t n then 1 else 0) + cntT t n
def Ret2 (S : World → Prop) (n z : Int) (e : Ending) (w' : World) : Prop := e = .returned (.tuple #[.int .i64 n, .int .i64 z]) ∧ S w'
def Ret1 (S : World → Prop) (z : Int) (e : Ending) (w' : World) : Prop := e = .returned (.int .i64 z) ∧ S w'
structure Ops (mv : Value) (k : Nat) (S : (Nat → Bool) → World → Prop) : Prop where
  take : ∀ t w r, S t w → r < k → t r = false → (∀ j, j < r → t j = true) → Calls Tryz.prog 10 #[mv] w (Ret2 (S (updT t r true)) r 0)
  full : ∀ t w, S t w → (∀ j, j < k → t j = true) → Calls Tryz.prog 10 #[mv] w (Ret2 (S t) 0 27)
  give : ∀ t w i, S t w → i < k → t i = true → Calls Tryz.prog 11 #[mv, .int .i64 (i : Nat)] w (Ret1 (S (updT t i false)) 0)
  giveF : ∀ t w i, S t w → i < k → t i = false → Calls Tryz.prog 11 #[mv, .int .i64 (i : Nat)] w (Ret1 (S t) 9)
  giveO : ∀ t w (i : Int), S t w → (i < 0 ∨ (k : Int) ≤ i) → Calls Tryz.prog 11 #[mv, .int .i64 i] w (Ret1 (S t) 1)
  free : ∀ t w, S t w → Calls Tryz.prog 19 #[mv] w (Ret2 (S t) ((k : Int) - (cntT t k : Nat)) 0)
  below : ∀ t w w', S t w → Below w.heap.size w w' → S t w'
theorem minB0 (k : Nat) : minB (k : Int) 0 = ((min k 1024 : Nat) : Int) := by unfold minB; split <;> omega
section
variable {w0 : World} {Φ : Phi} {jv : Value} {first : Int} {k mb : Nat}
def S1 (w0 : World) (Φ : Phi) (B : (Nat → Nat) → H) (k : Nat) (t : Nat → Bool) (w : World) : Prop := ∃ x, Oct8 x ∧ (∀ j, j < k → bit x j = t j) ∧ At w0 Φ (B x) w
def S2 (w0 : World) (Φ : Phi) (D : (Nat → Nat) → (Nat → Nat) → H) (k : Nat) (t : Nat → Bool) (w : World) : Prop := ∃ x y, Oct8 x ∧ Oct8 y ∧ (∀ j, j < 1024 → bit x j = t j) ∧ (∀ j, j < k - 1024 → bit y j = t (1024 + j)) ∧ At w0 Φ (D x y) w
end
end Go.Proofs.YteaacjabcfopgaaGreat.Run
end
section
set_option linter.unusedVariables false
set_option linter.unusedSimpArgs false
namespace Go.Proofs.YteaacjabcfopgaaGreat.Run
open Go Go.Proofs.YteaacjabcfopgaaGreat.Am Go.Proofs.YteaacjabcfopgaaGreat.Am.G Go.RowKit Go.Proofs Go.Proofs.YteaacjabcfopgaaGreat.PQ
set_option maxRecDepth 100000
theorem m8_id {x : Nat → Nat} (hx : Oct8 x) : m8 x = x := funext fun i => Nat.mod_eq_of_lt (hx i)
theorem At.adopt {w0 : World} {Φ : Phi} {h : H} {w : World} (hA : At w0 Φ h w) {b : Blk} {o : Obj} {N : Nat} (hb : ∀ φ', Φ.le φ' → RB φ' ⟨w.heap.size, 0, N⟩ b o) :
    ∃ Φ', Φ.le Φ' ∧ Φ' h.next = some ⟨w.heap.size, 0, N⟩ ∧ (∀ i, h.next + 1 ≤ i → Φ' i = none) ∧ At w0 Φ' (h.new b) (w.alloc o) := by
  obtain ⟨φ, hle, hR⟩ := hA
  have hle2 : φ.le (φ.add h.next ⟨w.heap.size, 0, N⟩) := Phi.le_add hR.none_at
  have hn := hR.new (b := b) (o := o) (p := ⟨w.heap.size, 0, N⟩) rfl (hb _ (Phi.le_trans hle hle2))
  refine ⟨φ.add h.next ⟨w.heap.size, 0, N⟩, Phi.le_trans hle hle2, Phi.add_at _ _ _, fun i hi => (hn.fresh i hi).1, _, Phi.le_refl _, hn.rebase (Phi.le_refl _)⟩
theorem At.leave {w0 : World} {Φ : Phi} {h : H} {w : World} (hA : At w0 Φ h w) (b : Blk) : At w0 Φ (h.new b) w := by
  obtain ⟨φ, hle, hR⟩ := hA
  exact ⟨φ, hle, RH.keep hR b (fun x hx => by cases hx)⟩
noncomputable def bmOf (first k : Int) : Blk := .cells 3 (T.ofList [.ptr 6300 0, .int .i64 first, .int .i64 k]) false
theorem bm_rb {φ : Phi} {pJ : PB} {b : Nat} {first k : Int} (hJ : φ 6300 = some pJ) : RB φ ⟨b, 0, 3⟩ (bmOf first k) (.cells #[.pointer (some (pJ.addr 0)), .int .i64 first, .int .i64 k] 69) := by
  refine ⟨_, _, 0, 0, rfl, rfl, Nat.le_refl 3, fun i hi => by omega, fun _ => rfl, fun i av hg hi => ?_⟩
  have hg' := T.get_ofList hg
  match i, hi with
  | 0, _ => cases hg'; exact ⟨_, rfl, .ptr hJ, rfl⟩
  | 1, _ => cases hg'; exact ⟨_, rfl, .int _ _, rfl⟩
  | 2, _ => cases hg'; exact ⟨_, rfl, .int _ _, rfl⟩
theorem mapAt_of {w0 : World} {Φ : Phi} {pJ : PB} {h : H} {id mb : Nat} {first k : Int} (hg : h.h.get id = some (bmOf first k)) (hJ : Φ 6300 = some pJ) (hM : Φ id = some ⟨mb, 0, 3⟩) : MapAt w0 Φ h mb (.pointer (some (pJ.addr 0))) first k := by
  intro w hA
  obtain ⟨φ, hle, hR⟩ := hA
  have hl : h.load id 0 3 = some [.ptr 6300 0, .int .i64 first, .int .i64 k] := by
    unfold H.load
    rw [hg]
    rfl
  obtain ⟨vs, v1, v2, v3, v4, v5⟩ := hR.load hl (hle _ _ hM)
  cases v2 with
  | cons a1 a2 =>
  cases a2 with
  | cons a2 a3 =>
  cases a3 with
  | cons a3 a4 =>
  cases a4
  cases a2
  cases a3
  cases a1 with
  | ptr hJ2 =>
  have := hle _ _ hJ
  rw [this] at hJ2
  cases hJ2
  exact ⟨v4 0 (by decide), v4 1 (by decide), v4 2 (by decide), (hR.own _ _ (hle _ _ hM)).2⟩
theorem okBm (n : Nat) (hn : 6300 < n) (first k : Int) : OkB n (bmOf first k) := .cells fun i av g => by
  have g' := T.get_ofList g
  match i with
  | 0 => cases g'; exact Nat.ble_eq_true_of_le hn
  | 1 => cases g'; rfl
  | 2 => cases g'; rfl
  | i + 3 => simp at g'
end Go.Proofs.YteaacjabcfopgaaGreat.Run
end
section
set_option linter.unusedVariables false
set_option linter.unusedSimpArgs false
namespace Go.Proofs.YteaacjabcfopgaaGreat.Run
open Go Go.Proofs.YteaacjabcfopgaaGreat.Am Go.Proofs.YteaacjabcfopgaaGreat.Am.G Go.RowKit Go.Proofs Go.Proofs.YteaacjabcfopgaaGreat.PQ
set_option maxRecDepth 100000
noncomputable section
def zr : Nat → Nat := fun _ => 0
theorem zr_oct : Oct8 zr := fun _ => (by decide : 0 < 256)
theorem bit_zr (i : Nat) : bit zr i = false := Nat.zero_testBit _
structure FullK (w0 : World) (mv : Value) (k : Nat) (S : (Nat → Bool) → World → Prop) (P : Nat → World → Prop) : Prop where
  ops : Ops mv k S
  step : ∀ i w, P i w → i < k → Calls Tryz.prog 10 #[mv] w (Ret2 (P (i + 1)) i 0)
  fin : ∀ w, P k w → S (fun _ => true) w
  base : ∀ t w, S t w → Below w0.heap.size w0 w
end
end Go.Proofs.YteaacjabcfopgaaGreat.Run
end
section
set_option linter.unusedVariables false
set_option linter.unusedSimpArgs false
namespace Go.Proofs.YteaacjabcfopgaaGreat.Run
open Go Go.Proofs.YteaacjabcfopgaaGreat.Am Go.Proofs.YteaacjabcfopgaaGreat.Am.G Go.RowKit Go.Proofs Go.Proofs.YteaacjabcfopgaaGreat.PQ Go.Proofs.YteaacjabcfopgaaGreatW.PrintWords Go.Proofs.YteaacjabcfopgaaGreatW.PrintLast Go.Proofs.YteaacjabcfopgaaGreatW.PrintMore
theorem mod_f {a n : Int} (h1 : 0 < n) (h2 : n ≤ 4611686018427387904) : ashlarlaw12_mod.f a n = some (a % n) := by
  unfold ashlarlaw12_mod.f
  rw [if_neg (by omega)]
  have hn := Int.emod_nonneg a (show n ≠ 0 by omega)
  have hl := Int.emod_lt_of_pos a h1
  rw [Int.tmod_eq_emod]
  by_cases h0 : 0 ≤ a ∨ n ∣ a
  · rw [if_pos h0]
    show (if a % n - 0 < 0 then _ else some (a % n - 0)) = _
    rw [Int.sub_zero, if_neg (by omega)]
  · rw [if_neg h0]
    have hab : (n.natAbs : Int) = n := by omega
    rw [hab]
    by_cases h3 : a % n - n < 0
    · rw [if_pos h3]
      have : wrap64 (a % n - n + n) = a % n := by unfold wrap64; omega
      rw [this]
    · omega
end Go.Proofs.YteaacjabcfopgaaGreat.Run
end
section
namespace Go.Proofs.YteaacjabcfopgaaGreat.Run
open Go Go.Proofs.YteaacjabcfopgaaGreat.Am Go.Proofs.YteaacjabcfopgaaGreat.Am.G Go.RowKit Go.Proofs Go.Proofs.YteaacjabcfopgaaGreat.PQ
set_option maxRecDepth 100000
noncomputable section
theorem one_at {α : Type} (x : α) : ∀ (f k : Nat), k + 1 < 2 ^ f → (T.one f k (some x)).get k = some x
  | 0, k, h => by
    have : (2 : Nat) ^ 0 = 1 := rfl
    omega
  | f + 1, k, h => by
    rw [T.one_succ]
    have hp : 2 ^ (f + 1) = 2 ^ f * 2 := Nat.pow_succ 2 f
    by_cases h0 : k = 0
    · rw [if_pos h0, T.get_n, if_pos h0]
    · rw [if_neg h0]
      by_cases h1 : k % 2 = 1
      · rw [if_pos h1, T.get_n, if_neg h0, if_pos h1]
        exact one_at x f (k / 2) (by omega)
      · rw [if_neg h1, T.get_n, if_neg h0, if_neg h1]
        exact one_at x f (k / 2 - 1) (by omega)
theorem one_ne {α : Type} (x : Option α) : ∀ (f k j : Nat), j ≠ k → (T.one f k x).get j = none
  | 0, k, j, _ => by rw [T.one_zero]; exact T.get_e j
  | f + 1, k, j, h => by
    rw [T.one_succ]
    by_cases h0 : k = 0
    · rw [if_pos h0, T.get_n, if_neg (by omega)]
      split <;> exact T.get_e _
    · rw [if_neg h0]
      by_cases h1 : k % 2 = 1
      · rw [if_pos h1, T.get_n]
        by_cases j0 : j = 0
        · rw [if_pos j0]
        · rw [if_neg j0]
          by_cases j1 : j % 2 = 1
          · rw [if_pos j1]; exact one_ne x f (k / 2) (j / 2) (by omega)
          · rw [if_neg j1]; exact T.get_e _
      · rw [if_neg h1, T.get_n]
        by_cases j0 : j = 0
        · rw [if_pos j0]
        · rw [if_neg j0]
          by_cases j1 : j % 2 = 1
          · rw [if_pos j1]; exact T.get_e _
          · rw [if_neg j1]; exact one_ne x f (k / 2 - 1) (j / 2 - 1) (by omega)
theorem put_at {α : Type} (x : α) : ∀ (t : T α) (k : Nat), k < 1099511627775 → (t.put k x).get k = some x
  | .e, k, h => by
    show (T.set .e k (some x)).get k = _
    rw [T.set_e]
    exact one_at x 40 k (by have : (2 : Nat) ^ 40 = 1099511627776 := by decide
                            omega)
  | .n l v r, k, h => by
    show (T.set (.n l v r) k (some x)).get k = _
    rw [T.set_n]
    by_cases h0 : k = 0
    · rw [if_pos h0, T.get_n, if_pos h0]
    · rw [if_neg h0]
      by_cases h1 : k % 2 = 1
      · rw [if_pos h1, T.get_n, if_neg h0, if_pos h1]
        exact put_at x l (k / 2) (by omega)
      · rw [if_neg h1, T.get_n, if_neg h0, if_neg h1]
        exact put_at x r (k / 2 - 1) (by omega)
theorem put_ne {α : Type} (x : α) : ∀ (t : T α) (k j : Nat), j ≠ k → (t.put k x).get j = t.get j
  | .e, k, j, h => by
    show (T.set .e k (some x)).get j = _
    rw [T.set_e, one_ne _ _ _ _ h, T.get_e]
  | .n l v r, k, j, h => by
    show (T.set (.n l v r) k (some x)).get j = _
    rw [T.set_n]
    by_cases h0 : k = 0
    · have hj : ¬ j = 0 := by omega
      rw [if_pos h0, T.get_n, T.get_n, if_neg hj, if_neg hj]
    · rw [if_neg h0]
      by_cases h1 : k % 2 = 1
      · rw [if_pos h1, T.get_n, T.get_n]
        by_cases j0 : j = 0
        · rw [if_pos j0, if_pos j0]
        · rw [if_neg j0, if_neg j0]
          by_cases j1 : j % 2 = 1
          · rw [if_pos j1, if_pos j1]; exact put_ne x l (k / 2) (j / 2) (by omega)
          · rw [if_neg j1, if_neg j1]
      · rw [if_neg h1, T.get_n, T.get_n]
        by_cases j0 : j = 0
        · rw [if_pos j0, if_pos j0]
        · rw [if_neg j0, if_neg j0]
          by_cases j1 : j % 2 = 1
          · rw [if_pos j1, if_pos j1]
          · rw [if_neg j1, if_neg j1]; exact put_ne x r (k / 2 - 1) (j / 2 - 1) (by omega)
theorem from_low {α : Type} : ∀ (l : List α) (i : Nat) (t : T α) (k : Nat), k < i → (T.ofListFrom i l t).get k = t.get k
  | [], _, _, _, _ => rfl
  | x :: l, i, t, k, h => by
    show (T.ofListFrom (Nat.succ i) l (t.put i x)).get k = _
    rw [from_low l (Nat.succ i) (t.put i x) k (by omega), put_ne x t i k (by omega)]
theorem from_get {α : Type} : ∀ (l : List α) (i : Nat) (t : T α) (m : Nat) (y : α), i + l.length ≤ 1099511627775 → l[m]? = some y → (T.ofListFrom i l t).get (i + m) = some y
  | [], _, _, _, _, _, h => by simp at h
  | x :: l, i, t, 0, y, hl, h => by
    show (T.ofListFrom (Nat.succ i) l (t.put i x)).get i = _
    rw [from_low l (Nat.succ i) (t.put i x) i (by omega), put_at x t i (by simp only [List.length_cons] at hl; omega)]
    simpa using h
  | x :: l, i, t, m + 1, y, hl, h => by
    show (T.ofListFrom (Nat.succ i) l (t.put i x)).get (i + (m + 1)) = _
    have e : i + (m + 1) = Nat.succ i + m := by omega
    rw [e]
    exact from_get l (Nat.succ i) (t.put i x) m y (by simp only [List.length_cons] at hl; omega) (by simpa using h)
theorem ofList_at {α : Type} {l : List α} {k : Nat} {y : α} (hl : l.length ≤ 1099511627775) (h : l[k]? = some y) : (T.ofList l).get k = some y := by
  have := from_get l 0 .e k y (by omega) h
  rwa [Nat.zero_add] at this
def btOf (k : Nat) (t : Nat → Bool) : Blk := .cells k (T.ofList ((List.range k).map fun j => .bool (t j))) false
theorem bt_get {k : Nat} {t : Nat → Bool} {i : Nat} {av : AV} (h : (T.ofList ((List.range k).map fun j => AV.bool (t j))).get i = some av) : i < k ∧ av = .bool (t i) := by
  have h' := T.get_ofList h
  rw [List.getElem?_map, Option.map_eq_some_iff] at h'
  obtain ⟨j, h1, h2⟩ := h'
  obtain ⟨h3, h4⟩ := List.getElem?_eq_some_iff.1 h1
  have h5 : i < k := by simpa using h3
  have h6 : j = i := by rw [← h4]; simp
  subst h6
  exact ⟨h5, h2.symm⟩
theorem okBt (n k : Nat) (t : Nat → Bool) : OkB n (btOf k t) := .cells fun i av g => by rw [(bt_get g).2]; rfl
theorem bt_rb {φ : Phi} {b k : Nat} : RB φ ⟨b, 0, k⟩ (btOf k fun _ => false) (.cells (Array.replicate k (.bool false)) 4) := by
  refine ⟨_, _, 0, 0, rfl, by simp, by simp, fun i hi => by omega, fun _ => rfl, fun i av hg hi => ?_⟩
  obtain ⟨h1, rfl⟩ := bt_get hg
  exact ⟨.bool false, by simp [h1], .bool _, rfl⟩
def RowAt (w0 : World) (Φ : Phi) (h : H) (tb k : Nat) (t : Nat → Bool) : Prop := ∀ w, At w0 Φ h w → (∀ j, j < k → w.cell? ⟨tb, j, none⟩ = some (.bool (t j))) ∧ (∀ j, j < k → w.frozen? ⟨tb, j, none⟩ = false) ∧ tb < w.heap.size ∧ w0.heap.size ≤ tb
theorem rowAt_of {w0 : World} {Φ : Phi} {h : H} {id tb k : Nat} {t : Nat → Bool} (hk : k ≤ 4096) (hg : h.h.get id = some (btOf k t)) (hM : Φ id = some ⟨tb, 0, k⟩) : RowAt w0 Φ h tb k t := by
  intro w hA
  obtain ⟨φ, hle, hR⟩ := hA
  obtain ⟨o, h1, a, e, lo, hi, rfl, h2, h3, h4, h5, h6⟩ := hR.blk id _ _ hg (hle _ _ hM)
  have hat : ∀ j, j < k → (T.ofList ((List.range k).map fun j => AV.bool (t j))).get j = some (.bool (t j)) := fun j hj => ofList_at (by simp; omega) (by rw [List.getElem?_map, List.getElem?_range (by simpa using hj)]; rfl)
  have h1' : w.heap[tb]? = some (.cells a e (lo, hi)) := h1
  refine ⟨fun j hj => ?_, fun j hj => ?_, (hR.own _ _ (hle _ _ hM)).2, (hR.own _ _ (hle _ _ hM)).1⟩
  · obtain ⟨v, x, y, z⟩ := h6 j _ (hat j hj) hj
    cases y
    unfold World.cell?
    simp only [h1']
    have : (⟨tb, 0, k⟩ : PB).sh + j = j := Nat.zero_add j
    rw [this] at x
    exact x
  · have := h4 j hj
    unfold World.frozen?
    simp only [h1']
    simp
    omega
theorem At.setBool {w0 : World} {Φ : Phi} {h h' : H} {w : World} {id tb k n : Nat} {t : Nat → Bool} (hk : k ≤ 4096) (hA : At w0 Φ h w) (hg : h.h.get id = some (btOf k t)) (hM : Φ id = some ⟨tb, 0, k⟩) (hn : n < k) (b : Bool) (hh : h.upd id (btOf k (updT t n b)) = h') : At w0 Φ h' (w.setCell ⟨tb, n, none⟩ (.bool b)) := by
  obtain ⟨φ, hle, hR⟩ := hA
  have hp := hle _ _ hM
  obtain ⟨o, h1, a, e, lo, hi, rfl, h2, h3, h4, h5, h6⟩ := hR.blk id _ _ hg hp
  have hs := set_at h1 n (.bool b)
  have ead : (⟨tb, 0, k⟩ : PB).addr n = ⟨tb, n, none⟩ := by unfold PB.addr; simp
  rw [ead] at hs
  rw [← hh]
  refine ⟨φ, hle, hR.upd hg hp (One.set w ⟨tb, n, none⟩ (.bool b)) hs ⟨_, e, lo, hi, rfl, by simpa using h2, h3, h4, h5, fun i av hget hi' => ?_⟩⟩
  obtain ⟨h7, rfl⟩ := bt_get hget
  have hat : (T.ofList ((List.range k).map fun j => AV.bool (t j))).get i = some (.bool (t i)) := ofList_at (by simp; omega) (by rw [List.getElem?_map, List.getElem?_range (by simpa using h7)]; rfl)
  obtain ⟨v, x, y, z⟩ := h6 i _ hat hi'
  have e0 : ∀ q, (⟨tb, 0, k⟩ : PB).sh + q = q := fun q => Nat.zero_add q
  have h2' : a.size = k := h2
  rw [e0] at x ⊢
  rw [e0]
  unfold updT
  by_cases hin : i = n
  · subst hin
    rw [if_pos rfl]
    exact ⟨.bool b, by rw [Array.getElem?_setIfInBounds_self_of_lt (by omega)], .bool _, rfl⟩
  · rw [if_neg hin]
    exact ⟨v, by rw [Array.getElem?_setIfInBounds_ne (by omega)]; exact x, y, z⟩
end
end Go.Proofs.YteaacjabcfopgaaGreat.Run
end
section
namespace Go.Proofs.YteaacjabcfopgaaGreat.Run
open Go Go.Proofs.YteaacjabcfopgaaGreat.Am Go.Proofs.YteaacjabcfopgaaGreat.Am.G Go.RowKit Go.Proofs Go.Proofs.YteaacjabcfopgaaGreat.PQ
set_option maxRecDepth 100000
noncomputable section
structure OnceK (w0 : World) (mv : Value) (tb k : Nat) (Q : (Nat → Bool) → World → Prop) (S : (Nat → Bool) → (Nat → Bool) → World → Prop) : Prop where
  takeQ : ∀ t w r, Q t w → r < k → t r = false → (∀ j, j < r → t j = true) → Calls Tryz.prog 10 #[mv] w (Ret2 (S (updT t r true) t) r 0)
  fullQ : ∀ t w, Q t w → (∀ j, j < k → t j = true) → Calls Tryz.prog 10 #[mv] w (Ret2 (S t t) 0 27)
  ops : ∀ u, Ops mv k fun t w => S t u w
  row : ∀ t u w, S t u w → (∀ j, j < k → w.cell? ⟨tb, j, none⟩ = some (.bool (u j))) ∧ (∀ j, j < k → w.frozen? ⟨tb, j, none⟩ = false) ∧ tb < w.heap.size ∧ w0.heap.size ≤ tb
  put : ∀ t u w n b, S t u w → n < k → S t (updT u n b) (w.setCell ⟨tb, n, none⟩ (.bool b))
  head : ∀ t u w, S t u w → (∀ j, j < k → t j = u j) → Q u w
  rowQ : ∀ u w, Q u w → Below w0.heap.size w0 w
  base : ∀ t u w, S t u w → Below w0.heap.size w0 w
end
end Go.Proofs.YteaacjabcfopgaaGreat.Run
end
section
namespace Go.Proofs.YteaacjabcfopgaaGreat.Run
open Go Go.Proofs.YteaacjabcfopgaaGreat.Am Go.Proofs.YteaacjabcfopgaaGreat.Am.G Go.RowKit Go.Proofs Go.Proofs.YteaacjabcfopgaaGreat.PQ Go.Proofs.YteaacjabcfopgaaGreatW.PrintWords Go.Proofs.YteaacjabcfopgaaGreatW.PrintLast Go.Proofs.YteaacjabcfopgaaGreatW.PrintMore
theorem first_free (t : Nat → Bool) : ∀ k, (∀ j, j < k → t j = true) ∨ ∃ r, r < k ∧ t r = false ∧ ∀ j, j < r → t j = true
  | 0 => .inl fun j hj => absurd hj (by omega)
  | k + 1 => by
    rcases first_free t k with h | ⟨r, h1, h2, h3⟩
    · cases hk : t k with
      | true =>
        refine .inl fun j hj => ?_
        by_cases e : j = k
        · rw [e]; exact hk
        · exact h j (by omega)
      | false => exact .inr ⟨k, by omega, hk, h⟩
    · exact .inr ⟨r, by omega, h2, h3⟩
def allT (t : Nat → Bool) : Nat → Bool
  | 0 => true
  | n + 1 => allT t n && t n
theorem info4 : (Tryz.prog.info? 4).map (fun i => (i.zero, i.size, i.bytes)) = some (some (.bool false), 1, 1) := by kernel_rfl
theorem made_bools (k : Nat) : madeCells (Value.bool false).cells (k * 1) = Array.replicate k (.bool false) := by
  apply Array.ext
  · simp [madeCells]
  · intro i h1 h2
    have : (Value.bool false).cells = #[.bool false] := rfl
    simp [madeCells, this, Nat.mod_one]
theorem make_bools (k : Nat) (hk : k ≤ 4096) (w : World) : (Instr.makeSlice 36 (.int .i64 (k : Int)) (.int .i64 (k : Int))).run Tryz.prog w = .ok (.slice (some ⟨w.heap.size, 0, none⟩) k k) (w.alloc (.cells (Array.replicate k (.bool false)) 4)) := by
  obtain ⟨i, hi, hz⟩ := Option.map_eq_some_iff.1 info4
  simp only [Prod.mk.injEq] at hz
  obtain ⟨z1, z2, z3⟩ := hz
  have := run_make (P := Tryz.prog) w 36 4 i (.bool false) Tryz.underlying36 hi z1 .i64 .i64 (k : Int) (k : Int) (by omega) (Int.le_refl _) (by rw [z3]; omega) (by omega)
  rw [z2] at this
  simp only [Int.toNat_natCast] at this
  rw [made_bools] at this
  exact this
end Go.Proofs.YteaacjabcfopgaaGreat.Run
end
