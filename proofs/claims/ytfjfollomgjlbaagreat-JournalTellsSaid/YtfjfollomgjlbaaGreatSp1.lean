/-
  The plain law, part 1: numbers as octets, the lowest one first, and the references' way to them.
-/
import Derived.Test.YtfjfollomgjlbaaGreatPd0
set_option linter.unusedVariables false
set_option linter.unusedSimpArgs false
namespace Go.Proofs.YtfjfollomgjlbaaGreat.PQ
open Go.RowKit Go.Proofs.YtfjfollomgjlbaaGreatW.PrintWords Go.Proofs.YtfjfollomgjlbaaGreatW.PrintLast Go.Proofs.YtfjfollomgjlbaaGreatW.PrintMore
theorem Ev.head {α : Type} {g : Nat → Option α} {r : α} (h : Ev (fun k => g (k + 1)) r) : Ev g r := Ev.step (f := fun k => g (k + 1)) (fun _ => rfl) h
theorem Ev.pos {α : Type} {f g : Nat → Option α} {r : α} {c : Prop} [Decidable c] (hc : c) (h : Ev f r) : Ev (fun k => if c then f k else g k) r := by
  simp only [if_pos hc]; exact h
theorem Ev.neg {α : Type} {f g : Nat → Option α} {r : α} {c : Prop} [Decidable c] (hc : ¬ c) (h : Ev g r) : Ev (fun k => if c then f k else g k) r := by
  simp only [if_neg hc]; exact h
theorem Ev.val {α : Type} {r q : α} (h : q = r) : Ev (fun _ => some q) r := by subst h; exact Ev.now _
theorem Ev.same {α : Type} {g : Nat → Option α} {r q : α} (hg : ∀ k, LeO (g k) (g (k + 1))) {k : Nat} (h : g k = some q) (h2 : Ev g r) : q = r := by
  obtain ⟨K, hK⟩ := h2
  obtain ⟨L, hL⟩ := Ev.of hg h
  have h1 := hK (max K L) (Nat.le_max_left _ _)
  have h2 := hL (max K L) (Nat.le_max_right _ _)
  rw [h1] at h2
  exact (Option.some.inj h2).symm
def leb : Nat → Nat → List Int
  | 0, _ => []
  | n + 1, x => ((x % 256 : Nat) : Int) :: leb n (x / 256)
theorem leb_length : ∀ n x, (leb n x).length = n
  | 0, _ => rfl
  | n + 1, x => by rw [leb, List.length_cons, leb_length n]
theorem w64 (n : Int) (h0 : -9223372036854775808 ≤ n) (h : n < 9223372036854775808) : wrap64 n = n := by unfold wrap64; omega
theorem u64w (n : Int) (h0 : 0 ≤ n) (h : n < 18446744073709551616) : IntKind.u64.wrap n = n := by
  unfold IntKind.wrap
  have h2 : (2 : Int) ^ IntKind.u64.bits = 18446744073709551616 := by decide
  have h3 : IntKind.u64.signed = false := rfl
  simp only [h2, h3, Bool.false_and, Bool.false_eq_true, if_false]
  omega
theorem refPut_l0 (n : Nat) (hn : n ≤ 8) : ∀ (m i x : Nat) (acc : List Int), i + m = n → acc.length = i → x < 256 ^ m → x < 18446744073709551616 →
    Ev (fun k => ashlarref01_Put.l0 k (x : Int) (n : Int) acc (i : Int)) (acc ++ leb m x, 0)
  | 0, i, x, acc, hi, ha, hx, _ => by
    have h0 : x = 0 := by simp at hx; exact hx
    subst h0
    refine Ev.head ?_
    simp only [ashlarref01_Put.l0]
    refine Ev.neg (by omega) (Ev.neg (by decide) (Ev.val ?_))
    simp [leb]
  | m + 1, i, x, acc, hi, ha, hx, hx2 => by
    refine Ev.head ?_
    simp only [ashlarref01_Put.l0]
    refine Ev.pos (by omega) (Ev.pos (by omega) ?_)
    have e1 : Int.tdiv (x : Int) 256 = ((x / 256 : Nat) : Int) := by
      rw [Int.tdiv_eq_ediv_of_nonneg (by omega)]; omega
    have e2 : Int.tmod (x : Int) 256 % 256 = ((x % 256 : Nat) : Int) := by
      rw [Int.tmod_eq_emod_of_nonneg (by omega)]; omega
    rw [e1, e2, u64w _ (by omega) (by omega), w64 ((i : Int) + 1) (by omega) (by omega)]
    have := refPut_l0 n hn m (i + 1) (x / 256) (acc ++ [((x % 256 : Nat) : Int)]) (by omega) (by simp [ha]) (by rw [Nat.pow_succ] at hx; omega) (by omega)
    rw [List.append_assoc] at this
    exact this
theorem refPut {n x : Nat} (h1 : 1 ≤ n) (hn : n ≤ 8) (hx : x < 256 ^ n) : Ev (fun k => ashlarref01_Put.f k (x : Int) (n : Int)) (leb n x, 0) := by
  have h2 : x < 18446744073709551616 := by
    have : 256 ^ n ≤ 256 ^ 8 := Nat.pow_le_pow_right (by decide) hn
    have e : (256 : Nat) ^ 8 = 18446744073709551616 := by decide
    omega
  unfold ashlarref01_Put.f
  refine Ev.neg (by omega) ?_
  rw [show decide ((n : Int) > 8) = false from decide_eq_false (by omega)]
  refine Ev.head ?_
  simp only [ashlarref01_Put.j0]
  exact Ev.neg (by simp) (refPut_l0 n hn n 0 x [] (by omega) rfl hx h2)
theorem pos8 (k : Nat) (a : Int) : ∀ t e, ashlarref01_Put.f k (IntKind.u64.wrap a) 8 = some (t, e) → 0 < t.length := by
  intro t e h
  obtain ⟨x, hx, hlt⟩ : ∃ x : Nat, IntKind.u64.wrap a = (x : Int) ∧ x < 18446744073709551616 := by
    have h2 : (2 : Int) ^ IntKind.u64.bits = 18446744073709551616 := by decide
    have h3 : IntKind.u64.signed = false := rfl
    refine ⟨(IntKind.u64.wrap a).toNat, ?_, ?_⟩ <;>
    · unfold IntKind.wrap
      simp only [h2, h3, Bool.false_and, Bool.false_eq_true, if_false]
      omega
  rw [hx] at h
  have e2 := Ev.same (fun k => ashlarref01_Put.mono _ _ k) h (refPut (n := 8) (x := x) (by decide) (by decide) (by simpa using hlt))
  have : t = leb 8 x := (Prod.mk.inj e2).1
  rw [this, leb_length]
  decide
end Go.Proofs.YtfjfollomgjlbaaGreat.PQ
