/-
  The plain law, part 3: the reference's sum, bit by bit, is the program's, nibble by nibble; the reference's sealed blocks are the program's.
-/
import Derived.Test.YtfjfollomgjlbaaGreatSp2
import Derived.Test.YtfjfollomgjlbaaGreatPd
set_option linter.unusedVariables false
set_option linter.unusedSimpArgs false
namespace Go.Proofs.YtfjfollomgjlbaaGreat.PQ
open Go.RowKit Go.Proofs.YtfjfollomgjlbaaGreatW.PrintWords Go.Proofs.YtfjfollomgjlbaaGreatW.PrintLast Go.Proofs.YtfjfollomgjlbaaGreatW.PrintMore
open Go.Proofs.YtfjfollomgjlbaaGreat.Am (putL getL crcF crcL crcB crcN tabN)
open Go.Proofs.YtfjfollomgjlbaaGreat.Run (putF_ok getF_ok putL_length rd_at)
theorem shr1 (c : Nat) : c >>> 1 = c / 2 := by rw [Nat.shiftRight_eq_div_pow]
def bitN (c : Nat) : Nat := (c >>> 1) ^^^ (if c.testBit 0 = true then 2197175160 else 0)
theorem bitN_xor (a b : Nat) : bitN (a ^^^ b) = bitN a ^^^ bitN b := by
  unfold bitN
  rw [Nat.shiftRight_xor_distrib, Nat.testBit_xor]
  cases a.testBit 0 <;> cases b.testBit 0 <;> simp
  · rw [Nat.xor_assoc]
  · rw [Nat.xor_assoc, Nat.xor_assoc, Nat.xor_comm 2197175160 (b >>> 1)]
  · rw [Nat.xor_assoc, Nat.xor_comm 2197175160, Nat.xor_assoc, Nat.xor_self, Nat.xor_zero]
theorem bitN_even (h n : Nat) : bitN (h <<< (n + 1)) = h <<< n := by
  unfold bitN
  have h1 : (h <<< (n + 1)).testBit 0 = false := by rw [Nat.testBit_shiftLeft]; simp
  rw [h1, if_neg (by decide), Nat.xor_zero, Nat.shiftLeft_succ, shr1]
  omega
theorem nib_small : ∀ l, l < 16 → bitN (bitN (bitN (bitN l))) = tabN l := by decide
theorem nib_split (c : Nat) : c = ((c >>> 4) <<< 4) ^^^ (c &&& 15) := by
  apply Nat.eq_of_testBit_eq
  intro i
  rw [Nat.testBit_xor, Nat.testBit_shiftLeft, Nat.testBit_shiftRight, Nat.testBit_and]
  have h15 : Nat.testBit 15 i = decide (i < 4) := Nat.testBit_two_pow_sub_one 4 i
  rw [h15]
  by_cases hi : i < 4
  · simp [hi, show ¬ 4 ≤ i by omega]
  · simp [hi, show 4 ≤ i by omega, show 4 + (i - 4) = i by omega]
theorem nib_eq (c : Nat) : bitN (bitN (bitN (bitN c))) = crcN c := by
  have h : c &&& 15 < 16 := by
    have : c &&& 15 ≤ 15 := Nat.and_le_right
    omega
  have e : crcN c = tabN (c &&& 15) ^^^ (c >>> 4) := rfl
  rw [e]
  conv => lhs; rw [nib_split c]
  rw [bitN_xor, bitN_xor, bitN_xor, bitN_xor, bitN_even, bitN_even, bitN_even, bitN_even, nib_small _ h, Nat.shiftLeft_zero, Nat.xor_comm]
theorem bitN_lt {c : Nat} (h : c < 4294967296) : bitN c < 4294967296 := by
  unfold bitN
  refine Am.xor_lt _ _ ?_ (by split <;> decide)
  rw [shr1]
  omega
def bitsN : Nat → Nat → Nat
  | 0, c => c
  | n + 1, c => bitsN n (bitN c)
theorem bits8N (c : Nat) : bitsN 8 c = crcN (crcN c) := by rw [← nib_eq (crcN c), ← nib_eq c]; rfl
theorem rcrc_l1 (l : List Nat) (i : Nat) {r : Int} : ∀ (m j c : Nat), j + m = 8 → c < 4294967296 → Ev (fun k => ashlarref01_Crc.l0 k (O l) ((bitsN m c : Nat) : Int) (wrap64 ((i : Int) + 1))) r → Ev (fun k => ashlarref01_Crc.l1 k (O l) (c : Int) (i : Int) (j : Int)) r
  | 0, j, c, hj, hc, h => by
    refine Ev.head ?_
    simp only [ashlarref01_Crc.l1]
    exact Ev.neg (by omega) h
  | m + 1, j, c, hj, hc, h => by
    refine Ev.head ?_
    simp only [ashlarref01_Crc.l1]
    have e1 : Int.tdiv (c : Int) (2 : Int) % (4294967296 : Int) = ((c >>> 1 : Nat) : Int) := by
      rw [Int.tdiv_eq_ediv_of_nonneg (by omega), shr1]; omega
    have e2 : Int.tmod (c : Int) 2 = ((c % 2 : Nat) : Int) := by
      rw [Int.tmod_eq_emod_of_nonneg (by omega)]; omega
    have e3 : c.testBit 0 = decide (c % 2 = 1) := by rw [Nat.testBit_zero]
    rw [e1, e2, w64 ((j : Int) + 1) (by omega) (by omega)]
    refine Ev.pos (by omega) ?_
    by_cases ho : c % 2 = 1
    · refine Ev.pos (by omega) ?_
      have hb : Go.bits .xor .u32 ((c >>> 1 : Nat) : Int) 2197175160 = ((bitN c : Nat) : Int) := by
        have := Am.xor_nat (c >>> 1) 2197175160 (by rw [shr1]; omega) (by decide)
        refine this.trans ?_
        unfold bitN
        rw [e3, decide_eq_true ho, if_pos rfl]
        rfl
      rw [hb]
      exact rcrc_l1 l i m (j + 1) (bitN c) (by omega) (bitN_lt hc) h
    · refine Ev.neg (by omega) ?_
      have hb : c >>> 1 = bitN c := by
        unfold bitN
        rw [e3, decide_eq_false ho, if_neg (by decide), Nat.xor_zero]
      rw [hb]
      exact rcrc_l1 l i m (j + 1) (bitN c) (by omega) (bitN_lt hc) h
theorem rcrc_l0 (l : List Nat) (hl : ∀ x ∈ l, x < 256) (hn : l.length ≤ 1000) : ∀ (m i c : Nat), i + m = l.length → c < 4294967296 → Ev (fun k => ashlarref01_Crc.l0 k (O l) (c : Int) (i : Int)) ((4294967295 - crcL (l.drop i) c : Nat) : Int)
  | 0, i, c, hi, hc => by
    refine Ev.head ?_
    simp only [ashlarref01_Crc.l0]
    refine Ev.neg (by rw [O_len]; omega) (Ev.val ?_)
    rw [List.drop_eq_nil_of_le (by omega)]
    have h := (Am.not_nat c hc).1
    have hx : Go.bits .xor .u32 (c : Int) 4294967295 = Go.bits .xor .u32 IntKind.u32.max (c : Int) := by
      have h1 := Am.xor_nat c 4294967295 hc (by decide)
      have h2 := Am.xor_nat 4294967295 c (by decide) hc
      have hm : IntKind.u32.max = ((4294967295 : Nat) : Int) := by decide
      rw [hm, h2]
      refine h1.trans ?_
      exact congrArg (fun n : Nat => (n : Int)) (Nat.xor_comm c 4294967295)
    rw [hx, h]
    rfl
  | m + 1, i, c, hi, hc => by
    have hlt : i < l.length := by omega
    refine Ev.head ?_
    simp only [ashlarref01_Crc.l0]
    refine Ev.pos (by rw [O_len]; omega) (Ev.pos (by omega) ?_)
    rw [rd_at l i hlt]
    have hx := hl _ (List.getElem_mem hlt)
    have e : ((l[i] : Nat) : Int) % (4294967296 : Int) = ((l[i] : Nat) : Int) := by omega
    rw [e, Am.xor_nat c l[i] hc (by omega)]
    have hc2 := Am.xor_lt c l[i] hc (by omega)
    refine rcrc_l1 l i 8 0 _ rfl hc2 ?_
    rw [bits8N, w64 ((i : Int) + 1) (by omega) (by omega)]
    have := rcrc_l0 l hl hn m (i + 1) (crcB c l[i]) (by omega) (Am.crcB_ok c l[i] hc hx).2
    rw [List.drop_eq_getElem_cons hlt]
    exact this
theorem ev_rcrc (l : List Nat) (hl : ∀ x ∈ l, x < 256) (hn : l.length ≤ 1000) : Ev (fun k => ashlarref01_Crc.f k 0 (O l)) ((crcF 0 l : Nat) : Int) := by
  unfold ashlarref01_Crc.f
  have e : Go.bits .xor .u32 0 4294967295 = ((4294967295 : Nat) : Int) := Am.xor_nat 0 4294967295 (by decide) (by decide)
  rw [e]
  exact rcrc_l0 l hl hn l.length 0 4294967295 (by omega) (by decide)
theorem ev_rput (b : List Nat) (n x : Nat) (h1 : 1 ≤ n) (h8 : n ≤ 8) (hx : x < 256 ^ n) (hx2 : x < 18446744073709551616) (hb : b.length ≤ 1000) : Ev (fun k => ashlarref11_put.f k (O b) (x : Int) (n : Int)) (O (b ++ putL x n)) := by
  unfold ashlarref11_put.f
  rw [u64w _ (by omega) (by omega)]
  refine Ev.bind (refPut h1 h8 hx) ?_
  rw [← putL_leb, O_app]
  exact Ev.pos (by simp only [O_len, putL_length]; omega) (Ev.val rfl)
theorem ev_rseal : ∀ (m : Nat) (b : List Nat), b.length + m = 124 → (∀ x ∈ b, x < 256) → Ev (fun k => ashlarref11_seal.f k (O b)) (O (sealN b))
  | 0, b, h, hb => by
    unfold ashlarref11_seal.f
    refine Ev.head ?_
    unfold ashlarref11_seal.l0
    refine Ev.neg (by rw [O_len]; omega) ?_
    have hc := crc_lt _ hb
    refine Ev.bind (ev_rcrc b hb (by omega)) ?_
    rw [w64 _ (by omega) (by omega)]
    refine Ev.bind (ev_rput b 4 _ (by decide) (by decide) (by simpa using hc) (by omega) (by omega)) (Ev.val ?_)
    have : pad b = b := by unfold pad; rw [show 124 - b.length = 0 by omega]; simp
    unfold sealN
    rw [this]
  | m + 1, b, h, hb => by
    unfold ashlarref11_seal.f
    refine Ev.head ?_
    unfold ashlarref11_seal.l0
    refine Ev.pos (by rw [O_len]; omega) (Ev.pos (by rw [O_len]; omega) ?_)
    have ih := ev_rseal m (b ++ [0]) (by simp; omega) (app_lt hb (by intro x hx; simp at hx; omega))
    unfold ashlarref11_seal.f at ih
    have : pad (b ++ [0]) = pad b := by
      unfold pad
      rw [List.append_assoc, show 124 - b.length = (124 - (b ++ [0]).length) + 1 by simp; omega, List.replicate_succ]
      rfl
    unfold sealN at ih ⊢
    rw [this, O_app b] at ih
    exact ih
end Go.Proofs.YtfjfollomgjlbaaGreat.PQ
