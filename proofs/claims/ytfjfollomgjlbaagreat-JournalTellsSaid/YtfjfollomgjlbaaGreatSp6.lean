/-
  The plain law, part 6: numbers that stand in octets, the program's and the reference's way; a block's own octets.
-/
import Derived.Test.YtfjfollomgjlbaaGreatSp4
import Derived.Test.YtfjfollomgjlbaaGreatPc
import Derived.Test.YtfjfollomgjlbaaGreatPe
import Derived.Lib.Bytes
set_option linter.unusedVariables false
set_option linter.unusedSimpArgs false
namespace Go.Proofs.YtfjfollomgjlbaaGreat.PQ
open Go.RowKit Go.Proofs.YtfjfollomgjlbaaGreatW.PrintWords Go.Proofs.YtfjfollomgjlbaaGreatW.PrintLast Go.Proofs.YtfjfollomgjlbaaGreatW.PrintMore
open Go.Proofs.YtfjfollomgjlbaaGreat.Am (putL getL crcF crcL crcB crcN tabN)
open Go.Proofs.YtfjfollomgjlbaaGreat.Run (putF_ok getF_ok putL_length rd_at bits64 ofInt64 getL_snoc)
theorem getL_lt : ∀ l : List Nat, (∀ x ∈ l, x < 256) → getL l < 256 ^ l.length
  | [], _ => by decide
  | x :: l, h => by
    have h1 := h x List.mem_cons_self
    have h2 := getL_lt l (fun y hy => h y (List.mem_cons_of_mem _ hy))
    show x + 256 * getL l < 256 ^ (l.length + 1)
    rw [Nat.pow_succ]
    omega
theorem getL_putL : ∀ n x, x < 256 ^ n → getL (putL x n) = x
  | 0, x, h => by simp at h; subst h; rfl
  | n + 1, x, h => by
    show x % 256 + 256 * getL (putL (x >>> 8) n) = x
    have h8 : x >>> 8 = x / 256 := by rw [Nat.shiftRight_eq_div_pow]
    rw [h8, getL_putL n _ (by rw [Nat.pow_succ] at h; omega)]
    omega
noncomputable def numN (l : List Nat) (k n : Nat) : Nat := getL ((l.drop k).take n)
theorem numN_lt (l : List Nat) (hb : ∀ x ∈ l, x < 256) (k n : Nat) : numN l k n < 256 ^ n := by
  have h := getL_lt ((l.drop k).take n) (fun x hx => hb x (List.mem_of_mem_drop (List.mem_of_mem_take hx)))
  have h2 : ((l.drop k).take n).length ≤ n := by rw [List.length_take]; omega
  exact Nat.lt_of_lt_of_le h (Nat.pow_le_pow_right (by decide) h2)
theorem and63 (x : Nat) (h : x < 18446744073709551616) : Go.bits .and .u64 (x : Int) 9223372036854775807 = ((x % 9223372036854775808 : Nat) : Int) := by
  refine bits64 .and _ _ _ ?_
  show (BitVec.ofInt 64 (x : Int) &&& BitVec.ofInt 64 9223372036854775807).toNat = _
  have e : (BitVec.ofInt 64 9223372036854775807).toNat = 2 ^ 63 - 1 := by decide
  rw [BitVec.toNat_and, ofInt64 x h, e, Nat.and_two_pow_sub_one_eq_mod]
theorem ev_num (l : List Nat) (hb : ∀ x ∈ l, x < 256) (hl : l.length ≤ 1000000000000000) (k n : Nat) (h1 : 1 ≤ n) (h8 : n ≤ 8) (hk : k + n ≤ l.length) :
    Ev (fun f => journal_number.f f (O l) (k : Int) (n : Int)) ((numN l k n % 9223372036854775808 : Nat) : Int) := by
  unfold journal_number.f
  have hlt : numN l k n < 18446744073709551616 := by
    have h := numN_lt l hb k n
    have h2 : 256 ^ n ≤ 256 ^ 8 := Nat.pow_le_pow_right (by decide) h8
    have e : (256 : Nat) ^ 8 = 18446744073709551616 := by decide
    omega
  refine Ev.bind (Ev.of (fun f => octets_Get.mono _ _ _ f) (getF_ok l k n hb (by omega) h1 h8 hk)) (Ev.val ?_)
  show wrap64 (Go.bits .and .u64 ((numN l k n : Nat) : Int) 9223372036854775807) = _
  rw [and63 _ hlt, w64 _ (by omega) (by omega)]
theorem ev_num_out (l : List Nat) (hl : l.length ≤ 1000000000000000) (k n : Nat) (h1 : 1 ≤ n) (h8 : n ≤ 8) (hk : ¬ k + n ≤ l.length) (_hk : k ≤ 1000) :
    Ev (fun f => journal_number.f f (O l) (k : Int) (n : Int)) 0 := by
  unfold journal_number.f
  refine Ev.bind (a := (0, 1)) ?_ (Ev.val (by
    show wrap64 (Go.bits .and .u64 ((0 : Nat) : Int) 9223372036854775807) = 0
    rw [and63 0 (by decide), w64 _ (by omega) (by omega)]
    rfl))
  unfold octets_Get.f
  refine Ev.neg (by omega) (Ev.neg (by omega) (Ev.neg (by omega) ?_))
  rw [O_len, w64 _ (by omega) (by omega), decide_eq_true (by omega : (k : Int) > (l.length : Int) - (n : Int))]
  refine Ev.head ?_
  simp only [octets_Get.j0]
  exact Ev.pos trivial (Ev.val rfl)
theorem rget_l0 (l : List Nat) (k : Nat) (hb : ∀ x ∈ l, x < 256) (hl : l.length ≤ 1000000000000000) : ∀ (m acc : Nat), k + m ≤ l.length → m ≤ 8 → acc < 256 ^ (8 - m) →
    Ev (fun f => ashlarref01_Get.l0 f (O l) (k : Int) (acc : Int) ((m : Int) - 1)) (((getL ((l.drop k).take m) + 256 ^ m * acc : Nat) : Int), 0)
  | 0, acc, _, _, _ => by
    refine Ev.head ?_
    simp only [ashlarref01_Get.l0]
    refine Ev.neg (by omega) (Ev.val ?_)
    simp [getL]
  | m + 1, acc, hk, hm, ha => by
    refine Ev.head ?_
    simp only [ashlarref01_Get.l0]
    have e0 : ((m + 1 : Nat) : Int) - 1 = (m : Int) := by omega
    rw [e0, w64 ((k : Int) + (m : Int)) (by omega) (by omega), w64 ((m : Int) - 1) (by omega) (by omega)]
    refine Ev.pos (by omega) (Ev.pos (by omega) (Ev.pos (by rw [O_len]; omega) ?_))
    have hlt : k + m < l.length := by omega
    have e1 : rd (O l) ((k : Int) + (m : Int)) = ((l[k + m]'hlt : Nat) : Int) := by
      rw [show (k : Int) + (m : Int) = ((k + m : Nat) : Int) by omega]
      exact rd_at l (k + m) hlt
    have hbb : l[k + m]'hlt < 256 := hb _ (List.getElem_mem hlt)
    rw [e1]
    generalize hbe : l[k + m]'hlt = b at hbb ⊢
    have hpow : 256 ^ (8 - (m + 1)) ≤ 256 ^ 7 := Nat.pow_le_pow_right (by decide) (by omega)
    have h7 : (256 : Nat) ^ 7 = 72057594037927936 := by decide
    rw [u64w ((acc : Int) * 256) (by omega) (by omega), u64w (b : Int) (by omega) (by omega), u64w _ (by omega) (by omega)]
    have e2 : (acc : Int) * 256 + (b : Int) = ((acc * 256 + b : Nat) : Int) := by omega
    rw [e2]
    have hpow2 : 256 ^ (8 - m) = 256 ^ (8 - (m + 1)) * 256 := by
      have : 8 - m = (8 - (m + 1)) + 1 := by omega
      rw [this, Nat.pow_succ]
    have ih := rget_l0 l k hb hl m (acc * 256 + b) (by omega) (by omega) (by rw [hpow2]; omega)
    have e3 : (l.drop k).take (m + 1) = (l.drop k).take m ++ [b] := by
      rw [List.take_add_one, List.getElem?_drop, List.getElem?_eq_getElem hlt, hbe]
      rfl
    have e4 : ((l.drop k).take m).length = m := by rw [List.length_take, List.length_drop]; omega
    have e5 : 256 ^ m * (acc * 256 + b) = 256 ^ m * b + 256 ^ m * 256 * acc := by
      rw [Nat.mul_add, Nat.mul_assoc, Nat.mul_comm 256 acc]
      omega
    have e6 : getL ((l.drop k).take (m + 1)) + 256 ^ (m + 1) * acc = getL ((l.drop k).take m) + 256 ^ m * (acc * 256 + b) := by
      rw [e3, getL_snoc, e4, e5, Nat.pow_succ]
      omega
    rw [e6]
    exact ih
theorem ev_rget (l : List Nat) (hb : ∀ x ∈ l, x < 256) (hl : l.length ≤ 1000000000000000) (k n : Nat) (h1 : 1 ≤ n) (h8 : n ≤ 8) (hk : k + n ≤ l.length) :
    Ev (fun f => ashlarref01_Get.f f (O l) (k : Int) (n : Int)) (((numN l k n : Nat) : Int), 0) := by
  unfold ashlarref01_Get.f
  refine Ev.neg (by omega) (Ev.neg (by omega) (Ev.neg (by omega) (Ev.neg (by rw [O_len]; omega) ?_)))
  rw [O_len, w64 _ (by omega) (by omega), decide_eq_false (by omega : ¬ (l.length : Int) - (k : Int) < (n : Int))]
  refine Ev.head ?_
  simp only [ashlarref01_Get.j0]
  rw [w64 ((n : Int) - 1) (by omega) (by omega)]
  refine Ev.neg (by decide) ?_
  have := rget_l0 l k hb hl n 0 hk h8 (Nat.pos_of_ne_zero (by simp))
  simpa [numN] using this
theorem ev_rget_out (l : List Nat) (hl : l.length ≤ 1000000000000000) (k n : Nat) (h1 : 1 ≤ n) (h8 : n ≤ 8) (hk : ¬ k + n ≤ l.length) (hk1 : k ≤ 1000) :
    Ev (fun f => ashlarref01_Get.f f (O l) (k : Int) (n : Int)) (0, 1) := by
  unfold ashlarref01_Get.f
  have bad : Ev (fun f => ashlarref01_Get.j0 f (O l) (k : Int) (n : Int) true) (0, 1) := by
    refine Ev.head ?_
    simp only [ashlarref01_Get.j0]
    exact Ev.pos trivial (Ev.val rfl)
  refine Ev.neg (by omega) (Ev.neg (by omega) (Ev.neg (by omega) ?_))
  by_cases h : (k : Int) > ((O l).length : Int)
  · exact Ev.pos h bad
  refine Ev.neg h ?_
  rw [O_len] at h ⊢
  rw [w64 _ (by omega) (by omega), decide_eq_true (by omega : (l.length : Int) - (k : Int) < (n : Int))]
  exact bad
theorem ev_rnum (l : List Nat) (hb : ∀ x ∈ l, x < 256) (hl : l.length ≤ 1000000000000000) (k n : Nat) (h1 : 1 ≤ n) (h8 : n ≤ 8) (hk : k + n ≤ l.length) :
    Ev (fun f => ashlarref11_number.f f (O l) (k : Int) (n : Int)) (if numN l k n > 4611686018427387904 then -1 else ((numN l k n : Nat) : Int)) := by
  unfold ashlarref11_number.f
  refine Ev.bind (ev_rget l hb hl k n h1 h8 hk) (Ev.pos rfl ?_)
  by_cases h : numN l k n > 4611686018427387904
  · rw [if_pos h]
    exact Ev.pos (by show ((numN l k n : Nat) : Int) > 4611686018427387904; omega) (Ev.val rfl)
  · rw [if_neg h]
    refine Ev.neg (by show ¬ ((numN l k n : Nat) : Int) > 4611686018427387904; omega) (Ev.val ?_)
    exact w64 _ (by omega) (by omega)
theorem ev_rnum_out (l : List Nat) (hl : l.length ≤ 1000000000000000) (k n : Nat) (h1 : 1 ≤ n) (h8 : n ≤ 8) (hk : ¬ k + n ≤ l.length) (hk1 : k ≤ 1000) :
    Ev (fun f => ashlarref11_number.f f (O l) (k : Int) (n : Int)) (-1) := by
  unfold ashlarref11_number.f
  exact Ev.bind (ev_rget_out l hl k n h1 h8 hk hk1) (Ev.neg (by decide) (Ev.val rfl))
theorem str_inj {a b : List Nat} (ha : ∀ x ∈ a, x < 256) (hb : ∀ x ∈ b, x < 256) (h : (strOfNums (O a)).toList = (strOfNums (O b)).toList) : a = b := by
  rw [Lib.strOfNums_toList, Lib.strOfNums_toList] at h
  have e : ∀ l : List Nat, Lib.bytesOf (O l) = l.map UInt8.ofNat := fun l => by
    unfold Lib.bytesOf O
    rw [List.map_map]
    rfl
  have h3 : a.map UInt8.ofNat = b.map UInt8.ofNat := by rw [← e, ← e]; exact h
  clear h
  induction a generalizing b with
  | nil => cases b with
    | nil => rfl
    | cons => cases h3
  | cons x a ih => cases b with
    | nil => cases h3
    | cons y b =>
      simp only [List.map_cons, List.cons.injEq] at h3
      have hx := ha x List.mem_cons_self
      have hy := hb y List.mem_cons_self
      have h4 := congrArg UInt8.toNat h3.1
      rw [UInt8.toNat_ofNat', UInt8.toNat_ofNat', Nat.mod_eq_of_lt hx, Nat.mod_eq_of_lt hy] at h4
      rw [h4, ih (fun z hz => ha z (List.mem_cons_of_mem _ hz)) (fun z hz => hb z (List.mem_cons_of_mem _ hz)) h3.2]
end Go.Proofs.YtfjfollomgjlbaaGreat.PQ
