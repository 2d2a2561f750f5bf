/-
  The plain law, part 1: numbers as octets, and back.
-/
import Derived.Test.YtjgjcfeifhaanaaGreatPs
import Derived.Test.YtjgjcfeifhaanaaGreatOc2
import Derived.Lib.Bytes
set_option linter.unusedVariables false
namespace Go.Proofs.YtjgjcfeifhaanaaGreat.PQ
open Go.RowKit Go.Proofs.YtjgjcfeifhaanaaGreatW.PrintWords Go.Proofs.YtjgjcfeifhaanaaGreatW.PrintLast Go.Proofs.YtjgjcfeifhaanaaGreatW.PrintMore
open Go.Proofs.YtjgjcfeifhaanaaGreat.Am (putL getL)
open Go.Proofs.YtjgjcfeifhaanaaGreat.Run (putF_ok getF_ok putL_length rd_at getL_snoc)
theorem Ev.head {α : Type} {g : Nat → Option α} {r : α} (h : Ev (fun k => g (k + 1)) r) : Ev g r := Ev.step (f := fun k => g (k + 1)) (fun _ => rfl) h
theorem Ev.pos {α : Type} {f g : Nat → Option α} {r : α} {c : Prop} [Decidable c] (hc : c) (h : Ev f r) : Ev (fun k => if c then f k else g k) r := by
  simp only [if_pos hc]; exact h
theorem Ev.neg {α : Type} {f g : Nat → Option α} {r : α} {c : Prop} [Decidable c] (hc : ¬ c) (h : Ev g r) : Ev (fun k => if c then f k else g k) r := by
  simp only [if_neg hc]; exact h
theorem Ev.val {α : Type} {r q : α} (h : q = r) : Ev (fun _ => some q) r := by subst h; exact Ev.now _
theorem Ev.same {α : Type} {g : Nat → Option α} {r q : α} (hg : ∀ k, LeO (g k) (g (k + 1))) {k : Nat} (h : g k = some q) (h2 : Ev g r) : q = r := by
  obtain ⟨K, hK⟩ := h2
  obtain ⟨L, hL⟩ := Ev.of hg h
  have h1 := hK (max K L) (Nat.le_max_left _ _)
  have h2 := hL (max K L) (Nat.le_max_right _ _)
  rw [h1] at h2
  exact (Option.some.inj h2).symm
def leb : Nat → Nat → List Int
  | 0, _ => []
  | n + 1, x => ((x % 256 : Nat) : Int) :: leb n (x / 256)
theorem w64 (n : Int) (h0 : -9223372036854775808 ≤ n) (h : n < 9223372036854775808) : wrap64 n = n := by unfold wrap64; omega
theorem u64w (n : Int) (h0 : 0 ≤ n) (h : n < 18446744073709551616) : IntKind.u64.wrap n = n := by
  unfold IntKind.wrap
  have h2 : (2 : Int) ^ IntKind.u64.bits = 18446744073709551616 := by decide
  have h3 : IntKind.u64.signed = false := rfl
  simp only [h2, h3, Bool.false_and, Bool.false_eq_true, if_false]
  omega
theorem refPut_l0 (n : Nat) (hn : n ≤ 8) : ∀ (m i x : Nat) (acc : List Int), i + m = n → acc.length = i → x < 256 ^ m → x < 18446744073709551616 →
    Ev (fun k => ashlarref01_Put.l0 k (x : Int) (n : Int) acc (i : Int)) (acc ++ leb m x, 0)
  | 0, i, x, acc, hi, ha, hx, _ => by
    have h0 : x = 0 := by simp at hx; exact hx
    subst h0
    refine Ev.head ?_
    simp only [ashlarref01_Put.l0]
    refine Ev.neg (by omega) (Ev.neg (by decide) (Ev.val ?_))
    simp [leb]
  | m + 1, i, x, acc, hi, ha, hx, hx2 => by
    refine Ev.head ?_
    simp only [ashlarref01_Put.l0]
    refine Ev.pos (by omega) (Ev.pos (by omega) ?_)
    have e1 : Int.tdiv (x : Int) 256 = ((x / 256 : Nat) : Int) := by
      rw [Int.tdiv_eq_ediv_of_nonneg (by omega)]; omega
    have e2 : Int.tmod (x : Int) 256 % 256 = ((x % 256 : Nat) : Int) := by
      rw [Int.tmod_eq_emod_of_nonneg (by omega)]; omega
    rw [e1, e2, u64w _ (by omega) (by omega), w64 ((i : Int) + 1) (by omega) (by omega)]
    have := refPut_l0 n hn m (i + 1) (x / 256) (acc ++ [((x % 256 : Nat) : Int)]) (by omega) (by simp [ha]) (by rw [Nat.pow_succ] at hx; omega) (by omega)
    rw [List.append_assoc] at this
    exact this
theorem refPut {n x : Nat} (h1 : 1 ≤ n) (hn : n ≤ 8) (hx : x < 256 ^ n) : Ev (fun k => ashlarref01_Put.f k (x : Int) (n : Int)) (leb n x, 0) := by
  have h2 : x < 18446744073709551616 := by
    have : 256 ^ n ≤ 256 ^ 8 := Nat.pow_le_pow_right (by decide) hn
    have e : (256 : Nat) ^ 8 = 18446744073709551616 := by decide
    omega
  unfold ashlarref01_Put.f
  refine Ev.neg (by omega) ?_
  rw [show decide ((n : Int) > 8) = false from decide_eq_false (by omega)]
  refine Ev.head ?_
  simp only [ashlarref01_Put.j0]
  exact Ev.neg (by simp) (refPut_l0 n hn n 0 x [] (by omega) rfl hx h2)
abbrev O (l : List Nat) : List Int := l.map Int.ofNat
theorem O_app (a b : List Nat) : O (a ++ b) = O a ++ O b := List.map_append
theorem O_len (a : List Nat) : (O a).length = a.length := List.length_map _
theorem O_rep (n : Nat) : O (List.replicate n 0) = List.replicate n 0 := List.map_replicate
theorem putL_leb : ∀ n x, O (putL x n) = leb n x
  | 0, _ => rfl
  | n + 1, x => by
    show Int.ofNat (x % 256) :: O (putL (x >>> 8) n) = _
    rw [putL_leb n, Nat.shiftRight_eq_div_pow]
    rfl
theorem ev_put {n x : Nat} (h1 : 1 ≤ n) (h8 : n ≤ 8) (hx : x < 256 ^ n) : Ev (fun k => octets_Put.f k (x : Int) (n : Int)) (O (putL x n), 0) :=
  Ev.of (fun k => octets_Put.mono _ _ k) (putF_ok x n h1 h8 (by
    rw [Nat.shiftRight_eq_div_pow, Nat.div_eq_of_lt]
    rw [Nat.pow_mul]
    exact hx))
theorem nat_of {a : Int} (h : 0 ≤ a) : ∃ n : Nat, a = (n : Int) := ⟨a.toNat, by omega⟩
theorem getL_lt : ∀ l : List Nat, (∀ x ∈ l, x < 256) → getL l < 256 ^ l.length
  | [], _ => by decide
  | x :: l, h => by
    have h1 := h x List.mem_cons_self
    have h2 := getL_lt l (fun y hy => h y (List.mem_cons_of_mem _ hy))
    show x + 256 * getL l < 256 ^ (l.length + 1)
    rw [Nat.pow_succ]
    omega
noncomputable def numN (l : List Nat) (k n : Nat) : Nat := getL ((l.drop k).take n)
theorem numN_lt (l : List Nat) (hb : ∀ x ∈ l, x < 256) (k n : Nat) : numN l k n < 256 ^ n := by
  have h := getL_lt ((l.drop k).take n) (fun x hx => hb x (List.mem_of_mem_drop (List.mem_of_mem_take hx)))
  have h2 : ((l.drop k).take n).length ≤ n := by rw [List.length_take]; omega
  exact Nat.lt_of_lt_of_le h (Nat.pow_le_pow_right (by decide) h2)
theorem rget_l0 (l : List Nat) (k : Nat) (hb : ∀ x ∈ l, x < 256) (hl : l.length ≤ 1000000000000000) : ∀ (m acc : Nat), k + m ≤ l.length → m ≤ 8 → acc < 256 ^ (8 - m) →
    Ev (fun f => ashlarref01_Get.l0 f (O l) (k : Int) (acc : Int) ((m : Int) - 1)) (((getL ((l.drop k).take m) + 256 ^ m * acc : Nat) : Int), 0)
  | 0, acc, _, _, _ => by
    refine Ev.head ?_
    simp only [ashlarref01_Get.l0]
    refine Ev.neg (by omega) (Ev.val ?_)
    simp [getL]
  | m + 1, acc, hk, hm, ha => by
    refine Ev.head ?_
    simp only [ashlarref01_Get.l0]
    have e0 : ((m + 1 : Nat) : Int) - 1 = (m : Int) := by omega
    rw [e0, w64 ((k : Int) + (m : Int)) (by omega) (by omega), w64 ((m : Int) - 1) (by omega) (by omega)]
    refine Ev.pos (by omega) (Ev.pos (by omega) (Ev.pos (by rw [O_len]; omega) ?_))
    have hlt : k + m < l.length := by omega
    have e1 : rd (O l) ((k : Int) + (m : Int)) = ((l[k + m]'hlt : Nat) : Int) := by
      rw [show (k : Int) + (m : Int) = ((k + m : Nat) : Int) by omega]
      exact rd_at l (k + m) hlt
    have hbb : l[k + m]'hlt < 256 := hb _ (List.getElem_mem hlt)
    rw [e1]
    generalize hbe : l[k + m]'hlt = b at hbb ⊢
    have hpow : 256 ^ (8 - (m + 1)) ≤ 256 ^ 7 := Nat.pow_le_pow_right (by decide) (by omega)
    have h7 : (256 : Nat) ^ 7 = 72057594037927936 := by decide
    rw [u64w ((acc : Int) * 256) (by omega) (by omega), u64w (b : Int) (by omega) (by omega), u64w _ (by omega) (by omega)]
    have e2 : (acc : Int) * 256 + (b : Int) = ((acc * 256 + b : Nat) : Int) := by omega
    rw [e2]
    have hpow2 : 256 ^ (8 - m) = 256 ^ (8 - (m + 1)) * 256 := by
      have : 8 - m = (8 - (m + 1)) + 1 := by omega
      rw [this, Nat.pow_succ]
    have ih := rget_l0 l k hb hl m (acc * 256 + b) (by omega) (by omega) (by rw [hpow2]; omega)
    have e3 : (l.drop k).take (m + 1) = (l.drop k).take m ++ [b] := by
      rw [List.take_add_one, List.getElem?_drop, List.getElem?_eq_getElem hlt, hbe]
      rfl
    have e4 : ((l.drop k).take m).length = m := by rw [List.length_take, List.length_drop]; omega
    have e5 : 256 ^ m * (acc * 256 + b) = 256 ^ m * b + 256 ^ m * 256 * acc := by
      rw [Nat.mul_add, Nat.mul_assoc, Nat.mul_comm 256 acc]
      omega
    have e6 : getL ((l.drop k).take (m + 1)) + 256 ^ (m + 1) * acc = getL ((l.drop k).take m) + 256 ^ m * (acc * 256 + b) := by
      rw [e3, getL_snoc, e4, e5, Nat.pow_succ]
      omega
    rw [e6]
    exact ih
theorem ev_rget (l : List Nat) (hb : ∀ x ∈ l, x < 256) (hl : l.length ≤ 1000000000000000) (k n : Nat) (h1 : 1 ≤ n) (h8 : n ≤ 8) (hk : k + n ≤ l.length) :
    Ev (fun f => ashlarref01_Get.f f (O l) (k : Int) (n : Int)) (((numN l k n : Nat) : Int), 0) := by
  unfold ashlarref01_Get.f
  refine Ev.neg (by omega) (Ev.neg (by omega) (Ev.neg (by omega) (Ev.neg (by rw [O_len]; omega) ?_)))
  rw [O_len, w64 _ (by omega) (by omega), decide_eq_false (by omega : ¬ (l.length : Int) - (k : Int) < (n : Int))]
  refine Ev.head ?_
  simp only [ashlarref01_Get.j0]
  rw [w64 ((n : Int) - 1) (by omega) (by omega)]
  refine Ev.neg (by decide) ?_
  have := rget_l0 l k hb hl n 0 hk h8 (Nat.pos_of_ne_zero (by simp))
  simpa [numN] using this
theorem octs_of {l : List Int} (h : ∀ x ∈ l, (Lit.int .u8 x).wf = true) : ∃ b : List Nat, l = O b ∧ (∀ x ∈ b, x < 256) ∧ b.length = l.length := by
  refine ⟨l.map Int.toNat, ?_, ?_, by simp⟩
  · induction l with
    | nil => rfl
    | cons x l ih =>
      have h1 := h x List.mem_cons_self
      simp only [Lit.wf, Bool.and_eq_true, decide_eq_true_eq] at h1
      have h2 : IntKind.u8.min = 0 := by decide
      simp only [O, List.map_cons, List.cons.injEq]
      exact ⟨by show x = ((x.toNat : Nat) : Int); omega, ih (fun y hy => h y (List.mem_cons_of_mem _ hy))⟩
  · intro x hx
    obtain ⟨y, hy, rfl⟩ := List.mem_map.1 hx
    have h1 := h y hy
    simp only [Lit.wf, Bool.and_eq_true, decide_eq_true_eq] at h1
    have h2 : IntKind.u8.min = 0 := by decide
    have h3 : IntKind.u8.max = 255 := by decide
    omega
end Go.Proofs.YtjgjcfeifhaanaaGreat.PQ
