/-
  The sum of octets: what the call does.
-/
import Derived.Test.YteaacjabcfopgaaGreatProg
import Derived.WalkKit
import Derived.Below
import Derived.ProofKit
import Derived.Deep.LoopGhost
import Derived.Tactics2
set_option linter.unusedVariables false
set_option linter.unusedSimpArgs false
namespace Go.Proofs.YteaacjabcfopgaaGreat.Run
open Go.RowKit
structure Asd (p : Prop) : Prop where
  out : p
def crcT : List Int := [0, 274646895, 549293790, 820201905, 1098587580, 1361435347, 1640403810, 1905808397, 2197175160, 2460548119, 2722870694, 2987750089, 3280807620, 3553878443, 3811616794, 4084100981]
def at0 (l : List Int) (i : Int) : Int := l.getD i.toNat 0
def crcN (c : Int) : Int := Go.bits .xor .u32 (at0 crcT (Go.bits .and .u32 c 15)) (c / 16)
def crcS (c x : Int) : Int := crcN (crcN (Go.bits .xor .u32 c (x % 4294967296)))
def crcZ (seed : Int) (l : List Int) : Int := Go.bits .xor .u32 IntKind.u32.max (l.foldl crcS (Go.bits .xor .u32 IntKind.u32.max seed))
def crcCells : Array Value := #[.int .u32 0, .int .u32 274646895, .int .u32 549293790, .int .u32 820201905, .int .u32 1098587580, .int .u32 1361435347, .int .u32 1640403810, .int .u32 1905808397, .int .u32 2197175160, .int .u32 2460548119, .int .u32 2722870694, .int .u32 2987750089, .int .u32 3280807620, .int .u32 3553878443, .int .u32 3811616794, .int .u32 4084100981]
theorem bits_toNat (op : BinOp) (c d : Int) (n : Nat) (h : (match op with | .and => BitVec.ofInt 32 c &&& BitVec.ofInt 32 d | .or => BitVec.ofInt 32 c ||| BitVec.ofInt 32 d | .xor => BitVec.ofInt 32 c ^^^ BitVec.ofInt 32 d | _ => BitVec.ofInt 32 c &&& ~~~BitVec.ofInt 32 d).toNat = n) : Go.bits op .u32 c d = (n : Int) := by
  subst h
  unfold Go.bits
  generalize hv : (match op with | .and => BitVec.ofInt 32 c &&& BitVec.ofInt 32 d | .or => BitVec.ofInt 32 c ||| BitVec.ofInt 32 d | .xor => BitVec.ofInt 32 c ^^^ BitVec.ofInt 32 d | _ => BitVec.ofInt 32 c &&& ~~~BitVec.ofInt 32 d) = v
  have hlt := v.isLt
  show IntKind.u32.wrap ((match op with | .and => BitVec.ofInt 32 c &&& BitVec.ofInt 32 d | .or => BitVec.ofInt 32 c ||| BitVec.ofInt 32 d | .xor => BitVec.ofInt 32 c ^^^ BitVec.ofInt 32 d | _ => BitVec.ofInt 32 c &&& ~~~BitVec.ofInt 32 d).toNat : Int) = _
  rw [hv]
  unfold IntKind.wrap
  have h2 : (2 : Int) ^ IntKind.u32.bits = 4294967296 := by decide
  have h3 : IntKind.u32.signed = false := rfl
  simp only [h2, h3, Bool.false_and, Bool.false_eq_true, if_false]
  omega
theorem and15 (c : Int) : 0 ≤ Go.bits .and .u32 c 15 ∧ Go.bits .and .u32 c 15 < 16 := by
  rw [bits_toNat .and c 15 _ rfl]
  have : (BitVec.ofInt 32 c &&& BitVec.ofInt 32 15).toNat ≤ 15 := by
    rw [BitVec.toNat_and]
    exact Nat.and_le_right
  have h : ((BitVec.ofInt 32 c &&& BitVec.ofInt 32 15).toNat : Int) ≤ 15 := by omega
  exact ⟨by omega, by show ((BitVec.ofInt 32 c &&& BitVec.ofInt 32 15).toNat : Int) < 16; omega⟩
set_option maxHeartbeats 8000000 in
set_option maxRecDepth 100000 in
theorem crc_calls (seed : Int) (A0 : Option Addr) (c0 : Nat) (l0 : List Int) (w : World) (hr0 : ∀ i : Nat, i < l0.length → ∃ ad, A0 = some ad ∧ w.cell? (ad.add i) = some (.int .u8 (at0 l0 i)) ∧ ad.block < w.heap.size) (hlen : l0.length ≤ 1099511627776) :
    Calls Tryz.prog 95 #[.int .u32 seed, .slice A0 l0.length c0] w fun e w' => e = .returned (.int .u32 (crcZ seed l0)) ∧ Below w.heap.size w w' := by
  have HR0 := Asd.mk hr0
  have HL := Asd.mk hlen
  clear hr0 hlen
  go_enter Tryz.func95, Tryz.ntmps95
  go_wp2
  obtain ⟨W1, hW⟩ : ∃ W1, W1 = w.alloc (Obj.cells crcCells 202) := ⟨_, rfl⟩
  have HBW : Asd (Below w.heap.size w W1) := ⟨by rw [hW]; exact (Below.refl _ w).alloc (Nat.le_refl _) _⟩
  have HT : Asd (∀ n : Nat, n < 16 → W1.cell? { block := w.heap.size, off := n } = some (.int .u32 (at0 crcT n))) := ⟨fun n hn => by
    have h1 : (w.alloc (Obj.cells crcCells 202)).heap[w.heap.size]? = some (Obj.cells crcCells 202) := by
      show (w.heap.push _)[w.heap.size]? = _
      simp
    rw [hW]
    unfold World.cell?
    simp only [h1]
    show crcCells[n]? = _
    match n, hn with
    | 0, _ | 1, _ | 2, _ | 3, _ | 4, _ | 5, _ | 6, _ | 7, _ | 8, _ | 9, _ | 10, _ | 11, _ | 12, _ | 13, _ | 14, _ | 15, _ => rfl
    | n + 16, h => omega⟩
  have HS : ∃ s0, Asd (s0 = bits BinOp.xor IntKind.u32 IntKind.u32.max seed) := ⟨_, ⟨rfl⟩⟩
  obtain ⟨s0, HS⟩ := HS
  rw [← HS.out]
  unfold crcCells at hW
  rw [← hW]
  clear hW
  go_loopg [6, 14] l0.length (fun kq v6 v14 w' => ∃ (c : Int) (i : Nat), v6 = .int .u32 c ∧ v14 = .int .i64 (i : Int) ∧ Asd (i + kq = l0.length) ∧ Asd ((l0.take i).foldl crcS s0 = c) ∧ w' = W1)
  case atStart => exact ⟨s0, 0, rfl, rfl, ⟨by simp⟩, ⟨by simp⟩, rfl⟩
  case round =>
    obtain ⟨c, i, rfl, rfl, HI, HC, rfl⟩ := hrel
    by_cases hi : i < l0.length
    · have p9 : decide ((i : Int) < (l0.length : Int)) = true := decide_eq_true (by omega)
      have p141 : 0 ≤ (i : Int) := by omega
      have q141 : (i : Int) < (l0.length : Int) := by omega
      obtain ⟨ad141, e141, hx141_0, hblk⟩ := HR0.out i hi
      cases e141
      replace hx141_0 := (HBW.out.cell (p := ad141.add i) (by unfold Addr.add; split <;> exact hblk)).trans hx141_0
      replace p141 := eq_true p141
      replace q141 := eq_true q141
      cases gk with
      | zero => exact absurd HI.out (by omega)
      | succ k2 =>
      obtain ⟨c1, hc1⟩ : ∃ c1 : Int, bits BinOp.xor IntKind.u32 c (at0 l0 ↑i % 4294967296) = c1 := ⟨_, rfl⟩
      have HC1 := Asd.mk hc1
      have b1 := (and15 c1).1
      have b2 := (and15 c1).2
      have hx1 := HT.out (bits .and .u32 c1 15).toNat (by omega)
      rw [Int.toNat_of_nonneg b1] at hx1
      have b1d : decide (0 ≤ bits .and .u32 c1 15) = true := decide_eq_true b1
      have b2d : decide (bits .and .u32 c1 15 < 16) = true := decide_eq_true b2
      replace b1 := eq_true b1
      replace b2 := eq_true b2
      obtain ⟨c2, hc2⟩ : ∃ c2 : Int, bits BinOp.xor IntKind.u32 (at0 crcT (bits BinOp.and IntKind.u32 c1 15)) (c1 / 16) = c2 := ⟨_, rfl⟩
      have HC2 := Asd.mk hc2
      have d1 := (and15 c2).1
      have d2 := (and15 c2).2
      have hx2 := HT.out (bits .and .u32 c2 15).toNat (by omega)
      rw [Int.toNat_of_nonneg d1] at hx2
      have d1d : decide (0 ≤ bits .and .u32 c2 15) = true := decide_eq_true d1
      have d2d : decide (bits .and .u32 c2 15 < 16) = true := decide_eq_true d2
      replace d1 := eq_true d1
      replace d2 := eq_true d2
      go_wp2
      have hwr : wrap64 ((i : Int) + 1) = ((i + 1 : Nat) : Int) := by have := HL.out; unfold wrap64; omega
      go_roundg k2
      case measure => have := HI.out; omega
      case rel =>
        refine ⟨_, i + 1, rfl, by rw [hwr], ⟨by have := HI.out; omega⟩, ⟨?_⟩, rfl⟩
        have ht : l0.take (i + 1) = l0.take i ++ [at0 l0 i] := by
          rw [List.take_add_one, List.getElem?_eq_getElem hi]
          unfold at0
          simp [List.getD, hi]
        rw [ht, List.foldl_append, HC.out]
        show crcS c (at0 l0 i) = _
        unfold crcS
        rw [HC1.out]
        show crcN (bits BinOp.xor IntKind.u32 (at0 crcT (bits BinOp.and IntKind.u32 c1 15)) (c1 / 16)) = _
        rw [HC2.out]
        rfl
    · have p9 : decide ((i : Int) < (l0.length : Int)) = false := decide_eq_false (by omega)
      go_wp2
      go_ret
      refine ⟨?_, HBW.out⟩
      have : i = l0.length := by have := HI.out; omega
      subst this
      rw [← HC.out, List.take_length]
      show Ending.returned (.int .u32 (bits BinOp.xor IntKind.u32 IntKind.u32.max (l0.foldl crcS s0))) = _
      unfold crcZ
      rw [← HS.out]
end Go.Proofs.YteaacjabcfopgaaGreat.Run
