/-
  The printed functions answer as the machine reckons: numbers as octets, and back; the difference of rows of octets.
-/
import Derived.Test.YteaacjabcfopgaaGreatOc
set_option linter.unusedVariables false
set_option linter.unusedSimpArgs false
namespace Go.Proofs.YteaacjabcfopgaaGreat.Run
open Go Go.Proofs.YteaacjabcfopgaaGreat.Am Go.RowKit Go.Proofs Go.Proofs.YteaacjabcfopgaaGreat.PQ Go.Proofs.YteaacjabcfopgaaGreatW.PrintWords Go.Proofs.YteaacjabcfopgaaGreatW.PrintMore
theorem w64 (n : Int) (h0 : -9223372036854775808 ≤ n) (h : n < 9223372036854775808) : wrap64 n = n := by unfold wrap64; omega
theorem shr_nat (x i : Nat) (hi : i ≤ 64) : shr .u64 (x : Int) (i : Int) = ((x >>> i : Nat) : Int) := by
  unfold shr
  have : min (i : Int).toNat IntKind.u64.bits = i := by
    show min (i : Int).toNat 64 = i
    omega
  rw [this, Nat.shiftRight_eq_div_pow]
  exact_mod_cast rfl
theorem put_l0 (x : Nat) : ∀ (m i k : Nat) (pre : List Int), pre.length = i → i + m ≤ 8 → m < k → octets_Put.l0 k (x : Int) (pre ++ List.replicate m 0) ((i + m : Nat) : Int) (i : Int) = some (pre ++ (putL (x >>> (8 * i)) m).map Int.ofNat, 0)
  | 0, i, k + 1, pre, hp, hi, hk => by
    unfold octets_Put.l0
    rw [if_neg (by omega)]
    simp [putL]
  | m + 1, i, k + 1, pre, hp, hi, hk => by
    unfold octets_Put.l0
    rw [w64 (8 * (i : Int)) (by omega) (by omega), w64 ((i : Int) + 1) (by omega) (by omega)]
    rw [if_pos (by omega), if_pos (by omega), if_pos (by omega), if_pos (by simp [hp]; omega)]
    have e1 : (8 * (i : Int)) = ((8 * i : Nat) : Int) := by omega
    rw [e1, shr_nat x (8 * i) (by omega)]
    have e2 : ((x >>> (8 * i) : Nat) : Int) % 256 = Int.ofNat ((x >>> (8 * i)) % 256) := by
      show _ = (((x >>> (8 * i)) % 256 : Nat) : Int)
      omega
    rw [e2]
    have e3 : (pre ++ List.replicate (m + 1) (0 : Int)).set (i : Int).toNat (Int.ofNat ((x >>> (8 * i)) % 256)) = (pre ++ [Int.ofNat ((x >>> (8 * i)) % 256)]) ++ List.replicate m 0 := by
      have : (i : Int).toNat = pre.length := by omega
      rw [this, List.replicate_succ, List.set_append_right _ _ (Nat.le_refl _)]
      simp
    rw [e3]
    have ih := put_l0 x m (i + 1) k (pre ++ [Int.ofNat ((x >>> (8 * i)) % 256)]) (by simp [hp]) (by omega) (by omega)
    have e4 : ((i + 1 + m : Nat) : Int) = ((i + (m + 1) : Nat) : Int) := by omega
    have e5 : ((i + 1 : Nat) : Int) = (i : Int) + 1 := by omega
    rw [e4, e5] at ih
    rw [ih]
    have e6 : x >>> (8 * (i + 1)) = (x >>> (8 * i)) >>> 8 := by rw [← Nat.shiftRight_add]; congr 1
    rw [e6]
    show some (_, (0 : Int)) = some (pre ++ (Nat.mod (x >>> (8 * i)) 256 :: putL (Nat.shiftRight (x >>> (8 * i)) 8) m).map Int.ofNat, 0)
    rw [List.map_cons, List.append_assoc]
    rfl
theorem putF_ok (x n : Nat) (h1 : 1 ≤ n) (h8 : n ≤ 8) (hx : x >>> (8 * n) = 0) : octets_Put.f 12 (x : Int) (n : Int) = some ((putL x n).map Int.ofNat, 0) := by
  have hj : octets_Put.j0 12 (x : Int) (n : Int) false = some ((putL x n).map Int.ofNat, 0) := by
    show octets_Put.j0 (11 + 1) _ _ _ = _
    rw [octets_Put.j0, if_neg (by decide), if_pos (by omega), if_pos (by omega)]
    simp only [Option.bind_some, List.length_replicate]
    have e : (n : Int).toNat = n := by omega
    rw [e]
    have := put_l0 x n 0 11 [] rfl (by omega) (by omega)
    simpa using this
  unfold octets_Put.f
  rw [if_neg (by omega), if_neg (by omega)]
  by_cases h : n < 8
  · rw [if_pos (by omega), w64 _ (by omega) (by omega), if_pos (by omega)]
    have e1 : (8 * (n : Int)) = ((8 * n : Nat) : Int) := by omega
    rw [e1, shr_nat x (8 * n) (by omega), hx]
    exact hj
  · rw [if_neg (by omega)]
    exact hj
theorem okTup_mk {h h' : H} {l : List Nat} {v : AV} (e : okTup (mkRow h l) = some (v, h')) : v = .tup [(mkRow h l).1, .int .i64 (Int.ofNat 0)] ∧ h' = (mkRow h l).2 := by
  cases e; exact ⟨rfl, rfl⟩
theorem putL_length : ∀ (x n : Nat), (putL x n).length = n
  | _, 0 => rfl
  | x, n + 1 => congrArg Nat.succ (putL_length (Nat.shiftRight x 8) n)
theorem put_ok : OrcOk Tryz.prog 75 oPut := by
  intro w0 φ h h' w args args' v hR ha ho
  unfold oPut at ho
  split at ho
  · rename_i x n
    cases ha with
    | cons h1 h2 =>
    cases h1
    cases h2 with
    | cons h2 h3 =>
    cases h2
    cases h3
    unfold putO at ho
    split at ho
    · rename_i x
      split at ho
      · rename_i n
        cases hc : (Nat.ble 1 n && Nat.ble n 8 && Nat.beq (Nat.shiftRight x (Nat.mul 8 n)) 0) with
        | false => rw [hc] at ho; cases ho
        | true =>
          rw [hc] at ho
          obtain ⟨rfl, rfl⟩ := okTup_mk ho
          obtain ⟨c1, c3⟩ := ands hc
          obtain ⟨c1, c2⟩ := ands c1
          have c1 := Nat.le_of_ble_eq_true c1
          have c2 := Nat.le_of_ble_eq_true c2
          have c3 := Nat.eq_of_beq_eq_true c3
          have hf := putF_ok x n c1 c2 c3
          refine (octets_Put.calls 12 (x : Int) (n : Int) _ _ w hf).mono fun e w' hh => ?_
          obtain ⟨v0, rfl, hr, hb⟩ := hh
          obtain ⟨ψ, p1, p2, p3⟩ := row_ok hR hb (by rw [putL_length]; exact c1) hr
          exact ⟨ψ, _, p1, rfl, p2, .tup (.cons p3 (.cons (.int _ _) .nil))⟩
      · cases ho
    · cases ho
  · cases ho
theorem bits64 (op : BinOp) (c d : Int) (n : Nat) (h : (match op with | .and => BitVec.ofInt 64 c &&& BitVec.ofInt 64 d | .or => BitVec.ofInt 64 c ||| BitVec.ofInt 64 d | .xor => BitVec.ofInt 64 c ^^^ BitVec.ofInt 64 d | _ => BitVec.ofInt 64 c &&& ~~~BitVec.ofInt 64 d).toNat = n) : Go.bits op .u64 c d = (n : Int) := by
  subst h
  unfold Go.bits
  generalize hv : (match op with | .and => BitVec.ofInt 64 c &&& BitVec.ofInt 64 d | .or => BitVec.ofInt 64 c ||| BitVec.ofInt 64 d | .xor => BitVec.ofInt 64 c ^^^ BitVec.ofInt 64 d | _ => BitVec.ofInt 64 c &&& ~~~BitVec.ofInt 64 d) = v
  have hlt := v.isLt
  show IntKind.u64.wrap ((match op with | .and => BitVec.ofInt 64 c &&& BitVec.ofInt 64 d | .or => BitVec.ofInt 64 c ||| BitVec.ofInt 64 d | .xor => BitVec.ofInt 64 c ^^^ BitVec.ofInt 64 d | _ => BitVec.ofInt 64 c &&& ~~~BitVec.ofInt 64 d).toNat : Int) = _
  rw [hv]
  unfold IntKind.wrap
  have h2 : (2 : Int) ^ IntKind.u64.bits = 18446744073709551616 := by decide
  have h3 : IntKind.u64.signed = false := rfl
  simp only [h2, h3, Bool.false_and, Bool.false_eq_true, if_false]
  omega
theorem ofInt64 (c : Nat) (h : c < 18446744073709551616) : (BitVec.ofInt 64 (c : Int)).toNat = c := by
  rw [BitVec.toNat_ofInt]
  have : ((c : Int) % ((2 ^ 64 : Nat) : Int)).toNat = c := by
    have e : ((2 ^ 64 : Nat) : Int) = 18446744073709551616 := by decide
    rw [e]
    omega
  exact this
theorem or64 (a b : Nat) (h : a * 256 + b < 18446744073709551616) (hb : b < 256) : Go.bits .or .u64 ((a * 256 : Nat) : Int) (b : Int) = ((a * 256 + b : Nat) : Int) := by
  refine bits64 .or _ _ _ ?_
  show (BitVec.ofInt 64 ((a * 256 : Nat) : Int) ||| BitVec.ofInt 64 (b : Int)).toNat = _
  rw [BitVec.toNat_or, ofInt64 (a * 256) (Nat.lt_of_le_of_lt (Nat.le_add_right _ _) h), ofInt64 b (Nat.lt_of_lt_of_le hb (by decide))]
  have := Nat.shiftLeft_add_eq_or_of_lt (i := 8) (b := b) (by omega) a
  rw [Nat.shiftLeft_eq] at this
  exact this.symm
theorem wrapu (n : Int) (h0 : 0 ≤ n) (h : n < 18446744073709551616) : IntKind.u64.wrap n = n := by
  unfold IntKind.wrap
  have h2 : (2 : Int) ^ IntKind.u64.bits = 18446744073709551616 := by decide
  have h3 : IntKind.u64.signed = false := rfl
  simp only [h2, h3, Bool.false_and, Bool.false_eq_true, if_false]
  omega
theorem getL_snoc : ∀ (l : List Nat) (b : Nat), getL (l ++ [b]) = getL l + 256 ^ l.length * b
  | [], b => by
    show b + 256 * 0 = 0 + 1 * b
    omega
  | x :: l, b => by
    show x + 256 * getL (l ++ [b]) = (x + 256 * getL l) + 256 ^ (l.length + 1) * b
    rw [getL_snoc l b, Nat.mul_add, Nat.pow_succ]
    have : 256 * (256 ^ l.length * b) = 256 ^ l.length * 256 * b := by
      rw [← Nat.mul_assoc, Nat.mul_comm 256]
    omega
theorem get_l0 (l : List Nat) (k : Nat) (hb : ∀ x ∈ l, x < 256) (hl : l.length ≤ 1152921504606846976) : ∀ (m acc f : Nat), k + m ≤ l.length → m ≤ 8 → acc < 256 ^ (8 - m) → m < f →
    octets_Get.l0 f (l.map Int.ofNat) (k : Int) (acc : Int) ((m : Int) - 1) = some (((getL ((l.drop k).take m) + 256 ^ m * acc : Nat) : Int), 0)
  | 0, acc, f + 1, _, _, _, _ => by
    unfold octets_Get.l0
    rw [if_neg (by omega)]
    simp [getL]
  | m + 1, acc, f + 1, hk, hm, ha, hf => by
    unfold octets_Get.l0
    have e0 : ((m + 1 : Nat) : Int) - 1 = (m : Int) := by omega
    rw [e0, w64 ((k : Int) + (m : Int)) (by omega) (by omega), w64 ((m : Int) - 1) (by omega) (by omega)]
    rw [if_pos (by omega), if_pos (by omega), if_pos (by simp; omega)]
    have hlt : k + m < l.length := by omega
    have e1 : rd (l.map Int.ofNat) ((k : Int) + (m : Int)) = ((l[k + m]'hlt : Nat) : Int) := by
      unfold rd
      have : ((k : Int) + (m : Int)).toNat = k + m := by omega
      rw [this, List.getD_eq_getElem?_getD, List.getElem?_map, List.getElem?_eq_getElem hlt]
      rfl
    have hbb : l[k + m]'hlt < 256 := hb _ (List.getElem_mem hlt)
    rw [e1]
    generalize hbe : l[k + m]'hlt = b at hbb ⊢
    have hpow : 256 ^ (8 - (m + 1)) ≤ 256 ^ 7 := Nat.pow_le_pow_right (by decide) (by omega)
    have h7 : (256 : Nat) ^ 7 = 72057594037927936 := by decide
    rw [wrapu _ (by omega) (by omega), wrapu _ (by omega) (by omega)]
    have e2 : (acc : Int) * 256 = ((acc * 256 : Nat) : Int) := by omega
    rw [e2, or64 acc b (by omega) hbb]
    have hpow2 : 256 ^ (8 - m) = 256 ^ (8 - (m + 1)) * 256 := by
      have : 8 - m = (8 - (m + 1)) + 1 := by omega
      rw [this, Nat.pow_succ]
    rw [get_l0 l k hb hl m (acc * 256 + b) f (by omega) (by omega) (by rw [hpow2]; omega) (by omega)]
    have e3 : (l.drop k).take (m + 1) = (l.drop k).take m ++ [b] := by
      rw [List.take_add_one, List.getElem?_drop, List.getElem?_eq_getElem hlt, hbe]
      rfl
    rw [e3, getL_snoc]
    have e4 : ((l.drop k).take m).length = m := by rw [List.length_take, List.length_drop]; omega
    rw [e4, Nat.pow_succ]
    have e5 : 256 ^ m * (acc * 256 + b) = 256 ^ m * b + 256 ^ m * 256 * acc := by
      rw [Nat.mul_add, Nat.mul_assoc, Nat.mul_comm 256 acc]
      omega
    congr 3
    omega
theorem getF_ok (l : List Nat) (k n : Nat) (hb : ∀ x ∈ l, x < 256) (hl : l.length ≤ 1152921504606846976) (h1 : 1 ≤ n) (h8 : n ≤ 8) (hk : k + n ≤ l.length) :
    octets_Get.f 12 (l.map Int.ofNat) (k : Int) (n : Int) = some (((getL ((l.drop k).take n) : Nat) : Int), 0) := by
  have hj : octets_Get.j0 12 (l.map Int.ofNat) (k : Int) (n : Int) false = some (((getL ((l.drop k).take n) : Nat) : Int), 0) := by
    show octets_Get.j0 (11 + 1) _ _ _ _ = _
    rw [octets_Get.j0, if_neg (by decide), w64 _ (by omega) (by omega)]
    have := get_l0 l k hb hl n 0 11 hk h8 (Nat.pos_of_ne_zero (by simp)) (by omega)
    simpa using this
  unfold octets_Get.f
  rw [if_neg (by omega), if_neg (by omega), if_neg (by omega), List.length_map, w64 _ (by omega) (by omega)]
  have : decide ((k : Int) > (l.length : Int) - (n : Int)) = false := decide_eq_false (by omega)
  rw [this]
  exact hj
theorem cells_C {w : World} {A0 : Option Addr} {l : List Nat} (hl : l.length ≤ 9223372036854775807) (h : ∀ i : Nat, i < l.length → ∃ ad, A0 = some ad ∧ w.cell? (ad.add i) = some (.int .u8 (Go.Proofs.YteaacjabcfopgaaGreat.Am.at0 (l.map Int.ofNat) i)) ∧ ad.block < w.heap.size) :
    (Kd.int .u8).C w A0 (l.map Int.ofNat).length (l.map Int.ofNat) := by
  refine ⟨rfl, by simpa using hl, fun h0 => ?_⟩
  obtain ⟨ad, rfl, _⟩ := h 0 (by simpa using h0)
  refine ⟨ad, rfl, fun j p hp => ⟨[.int .u8 p], rfl, rfl, fun i u hu => ?_⟩⟩
  cases i with
  | succ i => cases hu
  | zero =>
    cases hu
    have hj : j < l.length := by
      have := (List.getElem?_eq_some_iff.1 hp).1
      simpa using this
    obtain ⟨ad2, e, h2, _⟩ := h j hj
    cases e
    have e1 : Go.Proofs.YteaacjabcfopgaaGreat.Am.at0 (l.map Int.ofNat) (j : Int) = p := by
      unfold Go.Proofs.YteaacjabcfopgaaGreat.Am.at0
      have : (j : Int).toNat = j := by omega
      rw [this, List.getD_eq_getElem?_getD, hp]
      rfl
    rw [e1] at h2
    have hs : (Kd.int IntKind.u8).sz = 1 := rfl
    rw [hs, Nat.mul_one, Nat.add_zero]
    exact h2
theorem get_ok : OrcOk Tryz.prog 110 oGet := by
  intro w0 φ h h' w args args' v hR ha ho
  unfold oGet at ho
  split at ho
  · rename_i b k n
    cases ha with
    | cons h1 h2 =>
    cases h2 with
    | cons h2 h3 =>
    cases h2
    cases h3 with
    | cons h3 h4 =>
    cases h3
    cases h4
    unfold gettO at ho
    split at ho
    · rename_i l hl
      split at ho
      · rename_i k
        split at ho
        · rename_i n
          cases hc : (Nat.ble 1 n && Nat.ble n 8 && Nat.ble (Nat.add k n) l.length && Nat.ble l.length 1048576) with
          | false => rw [hc] at ho; cases ho
          | true =>
            rw [hc] at ho
            cases ho
            obtain ⟨c1, c4⟩ := ands hc
            obtain ⟨c1, c3⟩ := ands c1
            obtain ⟨c1, c2⟩ := ands c1
            have c1 := Nat.le_of_ble_eq_true c1
            have c2 := Nat.le_of_ble_eq_true c2
            have c3 : k + n ≤ l.length := Nat.le_of_ble_eq_true c3
            have c4 := Nat.le_of_ble_eq_true c4
            obtain ⟨A0, c0, rfl, e1, e2, e3⟩ := bytesS_ok hR h1 hl
            have hlen : (l.map Int.ofNat).length = l.length := by simp
            have hf := getF_ok l k n e2 (Nat.le_trans c4 (by decide)) c1 c2 c3
            have := octets_Get.calls 12 A0 c0 (l.map Int.ofNat) (k : Int) (n : Int) _ _ w (cells_C (Nat.le_trans c4 (by decide)) e3) (by rw [hlen]; exact e1) hf
            rw [hlen] at this
            refine this.mono fun e w' hh => ?_
            obtain ⟨rfl, hd⟩ := hh
            exact ⟨φ, _, Phi.le_refl φ, rfl, hR.below (hd.below), .tup (.cons (.int _ _) (.cons (.int _ _) .nil))⟩
        · cases ho
      · cases ho
    · cases ho
  · cases ho
theorem bits8 (c d : Int) (n : Nat) (h : (BitVec.ofInt 8 c ^^^ BitVec.ofInt 8 d).toNat = n) : Go.bits .xor .u8 c d = (n : Int) := by
  subst h
  unfold Go.bits
  have hlt := (BitVec.ofInt 8 c ^^^ BitVec.ofInt 8 d).isLt
  show IntKind.u8.wrap ((BitVec.ofInt 8 c ^^^ BitVec.ofInt 8 d).toNat : Int) = _
  unfold IntKind.wrap
  have h2 : (2 : Int) ^ IntKind.u8.bits = 256 := by decide
  have h3 : IntKind.u8.signed = false := rfl
  simp only [h2, h3, Bool.false_and, Bool.false_eq_true, if_false]
  omega
theorem ofInt8 (c : Nat) (h : c < 256) : (BitVec.ofInt 8 (c : Int)).toNat = c := by
  rw [BitVec.toNat_ofInt]
  have : ((c : Int) % ((2 ^ 8 : Nat) : Int)).toNat = c := by
    have e : ((2 ^ 8 : Nat) : Int) = 256 := by decide
    rw [e]
    omega
  exact this
theorem xor8 (a b : Nat) (ha : a < 256) (hb : b < 256) : Go.bits .xor .u8 (a : Int) (b : Int) = ((Nat.xor a b : Nat) : Int) := by
  refine bits8 _ _ _ ?_
  rw [BitVec.toNat_xor, ofInt8 a ha, ofInt8 b hb]
  rfl
theorem rd_at (l : List Nat) (i : Nat) (h : i < l.length) : rd (l.map Int.ofNat) (i : Int) = ((l[i]'h : Nat) : Int) := by
  unfold rd
  have : (i : Int).toNat = i := by omega
  rw [this, List.getD_eq_getElem?_getD, List.getElem?_map, List.getElem?_eq_getElem h]
  rfl
theorem xor_l0 (l m : List Nat) (hl : ∀ x ∈ l, x < 256) (hm : ∀ x ∈ m, x < 256) (he : l.length = m.length) (hb : l.length ≤ 1152921504606846976) : ∀ (r i k : Nat) (pre : List Int), pre.length = i → i + r = l.length → r < k →
    octets_Xor.l0 k (l.map Int.ofNat) (m.map Int.ofNat) (pre ++ List.replicate r 0) (l.length : Int) (i : Int) = some (pre ++ (xorL (l.drop i) (m.drop i)).map Int.ofNat, 0)
  | 0, i, k + 1, pre, hp, hi, hk => by
    unfold octets_Xor.l0
    rw [if_neg (by omega)]
    have h1 : l.drop i = [] := List.drop_eq_nil_of_le (by omega)
    rw [h1]
    simp [xorL]
  | r + 1, i, k + 1, pre, hp, hi, hk => by
    unfold octets_Xor.l0
    have h1 : i < l.length := by omega
    have h2 : i < m.length := by omega
    rw [w64 ((i : Int) + 1) (by omega) (by omega), rd_at l i h1, rd_at m i h2, xor8 _ _ (hl _ (List.getElem_mem h1)) (hm _ (List.getElem_mem h2))]
    rw [if_pos (by omega), if_pos (by omega), if_pos (by simp; omega), if_pos (by simp; omega), if_pos (by simp [hp]; omega)]
    have e3 : ∀ z : Int, (pre ++ List.replicate (r + 1) (0 : Int)).set (i : Int).toNat z = (pre ++ [z]) ++ List.replicate r 0 := fun z => by
      have : (i : Int).toNat = pre.length := by omega
      rw [this, List.replicate_succ, List.set_append_right _ _ (Nat.le_refl _)]
      simp
    rw [e3]
    have ih := xor_l0 l m hl hm he hb r (i + 1) k (pre ++ [((Nat.xor (l[i]'h1) (m[i]'h2) : Nat) : Int)]) (by simp [hp]) (by omega) (by omega)
    have e5 : ((i + 1 : Nat) : Int) = (i : Int) + 1 := by omega
    rw [e5] at ih
    rw [ih, List.drop_eq_getElem_cons h1, List.drop_eq_getElem_cons h2]
    show some (_, (0 : Int)) = some (pre ++ (Nat.xor (l[i]'h1) (m[i]'h2) :: xorL (l.drop (i + 1)) (m.drop (i + 1))).map Int.ofNat, 0)
    rw [List.map_cons, List.append_assoc]
    rfl
theorem xorL_length : ∀ {l m : List Nat}, l.length = m.length → (xorL l m).length = l.length
  | [], _, _ => by unfold xorL; rfl
  | _ :: _, [], h => by cases h
  | _ :: l, _ :: m, h => congrArg Nat.succ (xorL_length (Nat.succ.inj h))
theorem xorF_ok (l m : List Nat) (hl : ∀ x ∈ l, x < 256) (hm : ∀ x ∈ m, x < 256) (he : l.length = m.length) (hb : l.length ≤ 1048576) : octets_Xor.f 1048580 (l.map Int.ofNat) (m.map Int.ofNat) = some ((xorL l m).map Int.ofNat, 0) := by
  unfold octets_Xor.f
  simp only [List.length_map]
  rw [if_pos (by omega), if_pos (by omega), if_pos (by omega)]
  have e : (l.length : Int).toNat = l.length := by omega
  simp only [Option.bind_some, List.length_replicate, e]
  have := xor_l0 l m hl hm he (Nat.le_trans hb (by decide)) l.length 0 1048580 [] rfl (by omega) (by omega)
  simpa using this
theorem xor_ok : OrcOk Tryz.prog 120 oXor := by
  intro w0 φ h h' w args args' v hR ha ho
  unfold oXor at ho
  split at ho
  · rename_i a b
    cases ha with
    | cons h1 h2 =>
    cases h2 with
    | cons h2 h3 =>
    cases h3
    unfold xorO at ho
    split at ho
    · rename_i l hl
      split at ho
      · rename_i m hm
        cases hc : (Nat.beq l.length m.length && Nat.ble 1 l.length && Nat.ble l.length 1048576) with
        | false => rw [hc] at ho; cases ho
        | true =>
          rw [hc] at ho
          obtain ⟨rfl, rfl⟩ := okTup_mk ho
          obtain ⟨c1, c3⟩ := ands hc
          obtain ⟨c1, c2⟩ := ands c1
          have c1 := Nat.eq_of_beq_eq_true c1
          have c2 := Nat.le_of_ble_eq_true c2
          have c3 := Nat.le_of_ble_eq_true c3
          obtain ⟨A0, c0, rfl, e1, e2, e3⟩ := bytesS_ok hR h1 hl
          obtain ⟨A1, d0, rfl, f1, f2, f3⟩ := bytesS_ok hR h2 hm
          have hlen : (l.map Int.ofNat).length = l.length := by simp
          have hlen2 : (m.map Int.ofNat).length = m.length := by simp
          have hf := xorF_ok l m e2 f2 c1 c3
          have := octets_Xor.calls 1048580 A0 c0 (l.map Int.ofNat) A1 d0 (m.map Int.ofNat) _ _ w (cells_C (Nat.le_trans c3 (by decide)) e3) (by rw [hlen]; exact e1) (cells_C (by rw [← c1]; exact Nat.le_trans c3 (by decide)) f3) (by rw [hlen2]; exact f1) hf
          rw [hlen, hlen2] at this
          refine this.mono fun e w' hh => ?_
          obtain ⟨v0, rfl, hr, hb⟩ := hh
          obtain ⟨ψ, p1, p2, p3⟩ := row_ok hR hb (by rw [xorL_length c1]; exact c2) hr
          exact ⟨ψ, _, p1, rfl, p2, .tup (.cons p3 (.cons (.int _ _) .nil))⟩
      · cases ho
    · cases ho
  · cases ho
end Go.Proofs.YteaacjabcfopgaaGreat.Run
