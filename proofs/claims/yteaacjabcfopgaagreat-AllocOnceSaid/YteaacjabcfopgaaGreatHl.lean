/-
  The law AllocFull answers true.
-/
import Derived.Test.YteaacjabcfopgaaGreatHk
import Derived.Tactics2
import Derived.Deep.LoopGhost
set_option linter.unusedVariables false
set_option linter.unusedSimpArgs false
namespace Go.Proofs.YteaacjabcfopgaaGreat.Run
open Go Go.Proofs.YteaacjabcfopgaaGreat.Am Go.Proofs.YteaacjabcfopgaaGreat.Am.G Go.RowKit Go.Proofs Go.Proofs.YteaacjabcfopgaaGreat.PQ Go.Proofs.YteaacjabcfopgaaGreatW.PrintWords Go.Proofs.YteaacjabcfopgaaGreatW.PrintLast Go.Proofs.YteaacjabcfopgaaGreatW.PrintMore
theorem mod_f {a n : Int} (h1 : 0 < n) (h2 : n ≤ 4611686018427387904) : ashlarlaw12_mod.f a n = some (a % n) := by
  unfold ashlarlaw12_mod.f
  rw [if_neg (by omega)]
  have hn := Int.emod_nonneg a (show n ≠ 0 by omega)
  have hl := Int.emod_lt_of_pos a h1
  rw [Int.tmod_eq_emod]
  by_cases h0 : 0 ≤ a ∨ n ∣ a
  · rw [if_pos h0]
    show (if a % n - 0 < 0 then _ else some (a % n - 0)) = _
    rw [Int.sub_zero, if_neg (by omega)]
  · rw [if_neg h0]
    have hab : (n.natAbs : Int) = n := by omega
    rw [hab]
    by_cases h3 : a % n - n < 0
    · rw [if_pos h3]
      have : wrap64 (a % n - n + n) = a % n := by unfold wrap64; omega
      rw [this]
    · omega
theorem upd_at (t : Nat → Bool) (i : Nat) (b : Bool) : updT t i b i = b := by unfold updT; rw [if_pos rfl]
theorem upd_ne {i j : Nat} {b : Bool} (h : j ≠ i) : updT (fun _ => true) i b j = true := by unfold updT; rw [if_neg h]
theorem cnt_all (i : Nat) : ∀ n, n ≤ i → cntT (updT (fun _ => true) i false) n = n
  | 0, _ => rfl
  | n + 1, h => by
    rw [cntT_succ, cnt_all i n (by omega), upd_ne (by omega), if_pos rfl]
    omega
theorem cnt_but (i : Nat) : ∀ m, cntT (updT (fun _ => true) i false) (i + 1 + m) = i + m
  | 0 => by
    show cntT _ (i + 1) = i
    rw [cntT_succ, upd_at, cnt_all i i (Nat.le_refl _), if_neg (by decide), Nat.zero_add]
  | m + 1 => by
    rw [← Nat.add_assoc, cntT_succ, cnt_but i m, upd_ne (by omega), if_pos rfl]
    omega
theorem cnt_one (n g : Nat) (hg : g < n) (_h : 1 ≤ n) : (n : Int) - ((cntT (updT (fun _ => true) g false) n : Nat) : Int) = 1 := by
  have := cnt_but g (n - g - 1)
  have e : g + 1 + (n - g - 1) = n := by omega
  rw [e] at this
  rw [this]
  omega
set_option maxHeartbeats 8000000 in
set_option maxRecDepth 100000 in
theorem full_law (count give : Int) (w : World) : Calls Tryz.prog 5 #[.int .i64 count, .int .i64 give] w fun e w' => e = .returned (.bool true) ∧ Below w.heap.size w w' := by
  obtain ⟨k, hk1, hk2, hkc⟩ : ∃ k : Nat, 1 ≤ k ∧ k ≤ 1100 ∧ count % 1100 = (k : Int) - 1 := ⟨(count % 1100 + 1).toNat, by omega, by omega, by omega⟩
  have hm : ashlarlaw12_mod.f count 1100 = some ((k : Int) - 1) := by rw [mod_f (by omega) (by omega), hkc]
  obtain ⟨g, hg1, hgc⟩ : ∃ g : Nat, g < k ∧ give % (k : Int) = (g : Int) := by
    have h1 := Int.emod_nonneg give (show (k : Int) ≠ 0 by omega)
    have h2 := Int.emod_lt_of_pos give (show (0 : Int) < k by omega)
    exact ⟨(give % (k : Int)).toNat, by omega, by omega⟩
  have hmg : ashlarlaw12_mod.f give (k : Int) = some (g : Int) := by rw [mod_f (by omega) (by omega), hgc]
  have HM := Aside0.mk hm
  have HMG := Aside0.mk hmg
  clear hm hmg hkc hgc
  have e1 : (1 : Int) + ((k : Int) - 1) = (k : Int) := by omega
  go_enter Tryz.func5, Tryz.ntmps5
  go_wp2_with (first
    | (go_at_call 6; refine (ashlarlaw12_mod.calls count 1100 ((k : Int) - 1) _ HM.out).mono ?_; rintro e w1 hh; obtain ⟨rfl, ⟨⟨nd, rfl⟩⟩⟩ := hh)
    | (go_at_call 7; refine (begin_at _).mono ?_; rintro e w2 hh; obtain ⟨Φ, pJ, db, dof, rfl, hA, hJ, h0, hD⟩ := hh)
    | (go_at_call 8; refine (lives_calls _).mono ?_; rintro e w3 hh; obtain ⟨rfl, hB3⟩ := hh; have hA3 := hA.below hB3; have hD3 := hD _ hA3)
    | (go_at_call 9; refine (open_full hA3 hJ h0 hk1 (by omega)).mono ?_; rintro e w4 hh; obtain ⟨mb, S, P, rfl, hF, hP0⟩ := hh))
  clear hA hA3 hD3 hD hB3 e1 HM
  go_loopw [9] (fun v wr => ∃ n : Nat, n ≤ k ∧ v = .int .i64 (n : Int) ∧ P n wr) (fun v _ => k - (intOf v).toNat)
  case atStart => exact ⟨0, Nat.zero_le _, rfl, hP0⟩
  case round =>
    obtain ⟨n, hn, rfl, hP⟩ := hrel
    by_cases hlt : n < k
    · have hlt' : (n : Int) < (k : Int) := by omega
      go_wp2_with (go_at_call 10; refine (hF.step n _ hP hlt).mono ?_; rintro e w5 hh; obtain ⟨rfl, hP'⟩ := hh)
      go_roundw
      case rel => exact ⟨n + 1, by omega, by go_num, hP'⟩
      case measure => simp [intOf]; omega
    · have hne : n = k := by omega
      subst hne
      have hS := hF.fin _ hP
      have hlt : decide ((n : Int) < (n : Int)) = false := decide_eq_false (by omega)
      clear hP hP0
      go_wp2_with (first
        | (go_at_call 10; refine (hF.ops.full _ _ hS (fun _ _ => rfl)).mono ?_; rintro e w5 hh; obtain ⟨rfl, hS1⟩ := hh; clear hS)
        | (go_at_call 6; refine (ashlarlaw12_mod.calls give (n : Int) (g : Int) _ HMG.out).mono ?_; rintro e w6 hh; obtain ⟨rfl, hD6⟩ := hh; have hS2 := hF.ops.below _ _ _ hS1 (Drawn0.below hD6); clear hS1 hD6)
        | (go_at_call 11; refine (hF.ops.give _ _ g hS2 hg1 rfl).mono ?_; rintro e w7 hh; obtain ⟨rfl, hS3⟩ := hh; clear hS2)
        | (go_at_call 19; refine (hF.ops.free _ _ hS3).mono ?_; rintro e w8 hh; rw [cnt_one n g hg1 hk1] at hh; obtain ⟨rfl, hS4⟩ := hh; clear hS3)
        | (go_at_call 10; refine (hF.ops.take _ _ g hS4 hg1 (upd_at _ _ _) (fun j hj => upd_ne (Nat.ne_of_lt hj))).mono ?_; rintro e w9 hh; obtain ⟨rfl, hS5⟩ := hh; clear hS4)
        | (go_at_call 11; refine (hF.ops.giveO _ _ (n : Int) hS5 (.inr (Int.le_refl _))).mono ?_; rintro e w10 hh; obtain ⟨rfl, hS6⟩ := hh; clear hS5)
        | (go_at_call 11; refine (hF.ops.giveO _ _ (-1) hS6 (.inl (by decide))).mono ?_; rintro e w11 hh; obtain ⟨rfl, hS7⟩ := hh; clear hS6))
      go_ret
      refine ⟨rfl, ?_⟩
      exact (Drawn0.below ⟨⟨nd, rfl⟩⟩ : Below w.heap.size w (w.drewN nd)).trans (hF.base _ _ hS7)
end Go.Proofs.YteaacjabcfopgaaGreat.Run
