/-
  The law AllocOnce answers true.
-/
import Derived.Test.YteaacjabcfopgaaGreatHn
import Derived.Laws.MakeOwn
import Derived.KernelRfl
namespace Go.Proofs.YteaacjabcfopgaaGreat.Run
open Go Go.Proofs.YteaacjabcfopgaaGreat.Am Go.Proofs.YteaacjabcfopgaaGreat.Am.G Go.RowKit Go.Proofs Go.Proofs.YteaacjabcfopgaaGreat.PQ Go.Proofs.YteaacjabcfopgaaGreatW.PrintWords Go.Proofs.YteaacjabcfopgaaGreatW.PrintLast Go.Proofs.YteaacjabcfopgaaGreatW.PrintMore
theorem first_free (t : Nat → Bool) : ∀ k, (∀ j, j < k → t j = true) ∨ ∃ r, r < k ∧ t r = false ∧ ∀ j, j < r → t j = true
  | 0 => .inl fun j hj => absurd hj (by omega)
  | k + 1 => by
    rcases first_free t k with h | ⟨r, h1, h2, h3⟩
    · cases hk : t k with
      | true =>
        refine .inl fun j hj => ?_
        by_cases e : j = k
        · rw [e]; exact hk
        · exact h j (by omega)
      | false => exact .inr ⟨k, by omega, hk, h⟩
    · exact .inr ⟨r, by omega, h2, h3⟩
/-- Are the first n taken? -/
def allT (t : Nat → Bool) : Nat → Bool
  | 0 => true
  | n + 1 => allT t n && t n
theorem allT_succ (t : Nat → Bool) (n : Nat) : allT t (n + 1) = (allT t n && t n) := rfl
theorem allT_true (t : Nat → Bool) : ∀ n, (∀ j, j < n → t j = true) → allT t n = true
  | 0, _ => rfl
  | n + 1, h => by rw [allT_succ, allT_true t n (fun j hj => h j (by omega)), h n (by omega)]; rfl
theorem allT_false (t : Nat → Bool) : ∀ n r, r < n → t r = false → allT t n = false
  | n + 1, r, h, hr => by
    rw [allT_succ]
    by_cases e : r = n
    · rw [← e, hr, Bool.and_false]
    · rw [allT_false t n r (by omega) hr, Bool.false_and]
theorem upd_same {u : Nat → Bool} {g k : Nat} (h : u g = false) : ∀ j, j < k → u j = updT u g false j := fun j _ => by
  unfold updT
  by_cases e : j = g
  · rw [if_pos e, e, h]
  · rw [if_neg e]
theorem info4 : (Tryz.prog.info? 4).map (fun i => (i.zero, i.size, i.bytes)) = some (some (.bool false), 1, 1) := by kernel_rfl
theorem made_bools (k : Nat) : madeCells (Value.bool false).cells (k * 1) = Array.replicate k (.bool false) := by
  apply Array.ext
  · simp [madeCells]
  · intro i h1 h2
    have : (Value.bool false).cells = #[.bool false] := rfl
    simp [madeCells, this, Nat.mod_one]
theorem make_bools (k : Nat) (hk : k ≤ 4096) (w : World) : (Instr.makeSlice 36 (.int .i64 (k : Int)) (.int .i64 (k : Int))).run Tryz.prog w = .ok (.slice (some ⟨w.heap.size, 0, none⟩) k k) (w.alloc (.cells (Array.replicate k (.bool false)) 4)) := by
  obtain ⟨i, hi, hz⟩ := Option.map_eq_some_iff.1 info4
  simp only [Prod.mk.injEq] at hz
  obtain ⟨z1, z2, z3⟩ := hz
  have := run_make (P := Tryz.prog) w 36 4 i (.bool false) Tryz.underlying36 hi z1 .i64 .i64 (k : Int) (k : Int) (by omega) (Int.le_refl _) (by rw [z3]; omega) (by omega)
  rw [z2] at this
  simp only [Int.toNat_natCast] at this
  rw [made_bools] at this
  exact this
set_option maxHeartbeats 16000000 in
set_option maxRecDepth 100000 in
theorem once_law (count : Int) (a : Option Addr) (len cap : Nat) (zs : List Int) (w : World) (hrow : ∀ i : Nat, i < len → ∃ x, a = some x ∧ w.cell? (x.add i) = some (.int .i64 (zs.getD i 0)) ∧ x.block < w.heap.size) (hlen : len ≤ 17592186044416) :
    Calls Tryz.prog 3 #[.int .i64 count, .slice a len cap] w fun e w' => e = .returned (.bool true) ∧ Below w.heap.size w w' := by
  obtain ⟨k, hk1, hk2, hkc⟩ : ∃ k : Nat, 1 ≤ k ∧ k ≤ 60 ∧ count % 60 = (k : Int) - 1 := ⟨(count % 60 + 1).toNat, by omega, by omega, by omega⟩
  have hm : ashlarlaw12_mod.f count 60 = some ((k : Int) - 1) := by rw [mod_f (by omega) (by omega), hkc]
  have HM := Aside0.mk hm
  have HROW := Aside0.mk hrow
  clear hm hkc hrow
  have e1 : (1 : Int) + ((k : Int) - 1) = (k : Int) := by omega
  have hmk := make_bools k (by omega)
  go_enter Tryz.func3, Tryz.ntmps3
  go_wp2_with (first
    | (go_at_call 6; refine (ashlarlaw12_mod.calls count 60 ((k : Int) - 1) _ HM.out).mono ?_; rintro e w1 hh; obtain ⟨rfl, ⟨⟨nd, rfl⟩⟩⟩ := hh)
    | (go_at_call 7; refine (begin_at _).mono ?_; rintro e w2 hh; obtain ⟨Φ, pJ, db, dof, rfl, hA, hJ, h0, hD⟩ := hh)
    | (go_at_call 8; refine (lives_calls _).mono ?_; rintro e w3 hh; obtain ⟨rfl, hB3⟩ := hh; have hA3 := hA.below hB3; have hD3 := hD _ hA3)
    | (go_at_call 9; refine (open_once hA3 hJ h0 hk1 (by omega)).mono ?_; rintro e w4 hh; obtain ⟨mb, Q, S, rfl, hF, hQ0⟩ := hh))
  clear hmk hA hA3 hD3 hD hB3 e1 HM h0 hJ
  generalize (w4.alloc (Obj.cells (Array.replicate k (Value.bool false)) 4)) = w5 at hQ0 ⊢
  generalize w4.heap.size = tb at hF ⊢
  clear w4 w3 w2
  go_loopw [10] (fun v wr => ∃ (n : Nat) (t : Nat → Bool), n ≤ 300 ∧ v = .int .i64 (n : Int) ∧ Q t wr) (fun v _ => 300 - (intOf v).toNat)
  case atStart => exact ⟨0, _, by omega, rfl, hQ0⟩
  case round =>
    obtain ⟨n, t, hn, rfl, hQ⟩ := hrel
    clear hQ0
    by_cases hc : (n : Int) < 2 * (k : Int) + (len : Int) ∧ n < 300
    · have q1 : (n : Int) < 2 * (k : Int) + (len : Int) := hc.1
      have q2 : (n : Int) < 300 := by omega
      rcases first_free t k with hall | ⟨r, hr1, hr2, hr3⟩
      · go_wp2_with (go_at_call 10; refine (hF.fullQ t _ hQ hall).mono ?_; rintro e w6 hh; obtain ⟨rfl, hS⟩ := hh)
        obtain ⟨hc1, hc2, hc3, hc4⟩ := hF.row _ _ _ hS
        have HC1 := Aside0.mk hc1
        have HALL := Aside0.mk hall
        clear hc1 hc2 hall hQ
        go_loop [13, 14] (fun a b => ∃ j : Nat, j ≤ k ∧ b = .int .i64 (j : Int) ∧ a = .bool true) (fun _ b => k - (intOf b).toNat)
        case atStart => exact ⟨0, by omega, rfl, rfl⟩
        case round =>
          obtain ⟨j, hj, rfl, rfl⟩ := hrel
          by_cases hjk : j < k
          · have hcj := HC1.out j hjk
            rw [HALL.out j hjk] at hcj
            have hjk' : (j : Int) < (k : Int) := by omega
            go_wp2
            go_round
            case rel => exact ⟨j + 1, by omega, by go_num, rfl⟩
            case measure => simp [intOf]; omega
          · have hje : j = k := by omega
            subst hje
            by_cases hl : n < len
            · have hl1 : (n : Int) < (len : Int) := by omega
              obtain ⟨xa, hxa, hcell, hblk⟩ := HROW.out n hl
              subst hxa
              have hB0 := (Drawn0.below ⟨⟨nd, rfl⟩⟩ : Below w.heap.size w (w.drewN nd)).trans (hF.base _ _ _ hS)
              replace hcell := (hB0.cell (p := xa.add n) (by unfold Addr.add; split <;> exact hblk)).trans hcell
              obtain ⟨g, hg1, hgc⟩ : ∃ g : Nat, g < j ∧ (zs.getD n 0) % (j : Int) = (g : Int) := by
                have h1 := Int.emod_nonneg (zs.getD n 0) (show (j : Int) ≠ 0 by omega)
                have h2 := Int.emod_lt_of_pos (zs.getD n 0) (show (0 : Int) < j by omega)
                exact ⟨((zs.getD n 0) % (j : Int)).toNat, by omega, by omega⟩
              have hmg : ashlarlaw12_mod.f (zs.getD n 0) (j : Int) = some (g : Int) := by rw [mod_f (by omega) (by omega), hgc]
              have HMG := Aside0.mk hmg
              clear hmg hgc hB0 hblk
              generalize zs.getD n 0 = zg at hcell HMG
              have hg2 : (g : Int) < (j : Int) := by omega
              go_wp2_with (go_at_call 6; refine (ashlarlaw12_mod.calls zg (j : Int) (g : Int) _ HMG.out).mono ?_; rintro e w7 hh; obtain ⟨rfl, hD7⟩ := hh; have hS7 := (hF.ops t).below _ _ _ hS (Drawn0.below hD7))
              have hu : t g = true := HALL.out g hg1
              have hcg := (hF.row _ _ _ hS7).1 g hg1
              rw [hu] at hcg
              go_region_with (go_at_call 11; refine ((hF.ops t).give t _ g (by first | (with_reducible exact hS7) | exact (hF.ops t).below _ _ _ hS7 (Drawn0.below ⟨⟨_, rfl⟩⟩)) hg1 hu).mono ?_; rintro e w8 hh; obtain ⟨rfl, hS8⟩ := hh; have hc8 := (hF.row _ _ _ hS8).1 g hg1; rw [hu] at hc8)
              all_goals
                have hf8 := (hF.row _ _ _ hS8).2.1 g hg1
                go_wp2
                go_roundw
                case rel => exact ⟨n + 1, updT t g false, by omega, by go_num, hF.head _ _ _ (hF.put _ _ _ g false (by first | (with_reducible exact hS8) | exact (hF.ops t).below _ _ _ hS8 (Drawn0.below ⟨⟨_, rfl⟩⟩)) hg1) (fun _ _ => rfl)⟩
                case measure => simp [intOf]; omega
            · have hl1 : ¬ (n : Int) < (len : Int) := by omega
              go_wp2
              go_roundw
              case rel => exact ⟨n + 1, t, by omega, by go_num, hF.head _ _ _ hS (fun _ _ => rfl)⟩
              case measure => simp [intOf]; omega
      · go_wp2_with (go_at_call 10; refine (hF.takeQ t _ r hQ hr1 hr2 hr3).mono ?_; rintro e w6 hh; obtain ⟨rfl, hS⟩ := hh)
        obtain ⟨hc1, hc2, hc3, hc4⟩ := hF.row _ _ _ hS
        have HC1 := Aside0.mk hc1
        have hcr := hc1 r hr1
        rw [hr2] at hcr
        have hfr := hc2 r hr1
        have hall := allT_false t k r hr1 hr2
        have HALL := Aside0.mk hall
        have HR2 := Aside0.mk hr2
        have HR3 := Aside0.mk hr3
        clear hc1 hc2 hall hQ hr2 hr3
        go_loop [13, 14] (fun a b => ∃ j : Nat, j ≤ k ∧ b = .int .i64 (j : Int) ∧ a = .bool (allT t j)) (fun _ b => k - (intOf b).toNat)
        case atStart => exact ⟨0, by omega, rfl, rfl⟩
        case round =>
          obtain ⟨j, hj, rfl, rfl⟩ := hrel
          by_cases hjk : j < k
          · have hcj := HC1.out j hjk
            have hjk' : (j : Int) < (k : Int) := by omega
            have hsu := allT_succ t j
            cases hb : allT t j with
            | true =>
              rw [hb, Bool.true_and] at hsu
              have HSU := Aside0.mk hsu
              clear hsu hb
              go_wp2
              go_round
              case rel => exact ⟨j + 1, by omega, by go_num, by rw [HSU.out]⟩
              case measure => simp [intOf]; omega
            | false =>
              rw [hb, Bool.false_and] at hsu
              have HSU := Aside0.mk hsu
              clear hsu hb
              go_wp2
              go_round
              case rel => exact ⟨j + 1, by omega, by go_num, by rw [HSU.out]⟩
              case measure => simp [intOf]; omega
          · obtain rfl : k = j := by omega
            have hjk' : ¬ (k : Int) < (k : Int) := by omega
            rw [HALL.out]
            have hr0 : ¬ (r : Int) < 0 := by omega
            have hr4 : ¬ (r : Int) ≥ (k : Int) := by omega
            have hr5 : (r : Int) < (k : Int) := by omega
            have hr6 : (0 : Int) ≤ (r : Int) := by omega
            have hS2 := hF.put _ _ _ r true hS hr1
            generalize updT t r true = u at hS hS2
            by_cases hl : n < len
            · have hl1 : (n : Int) < (len : Int) := by omega
              obtain ⟨xa, hxa, hcell, hblk⟩ := HROW.out n hl
              subst hxa
              have hB0 := (Drawn0.below ⟨⟨nd, rfl⟩⟩ : Below w.heap.size w (w.drewN nd)).trans (hF.base _ _ _ hS2)
              replace hcell := (hB0.cell (p := xa.add n) (by unfold Addr.add; split <;> exact hblk)).trans hcell
              obtain ⟨g, hg1, hgc⟩ : ∃ g : Nat, g < k ∧ (zs.getD n 0) % (k : Int) = (g : Int) := by
                have h1 := Int.emod_nonneg (zs.getD n 0) (show (k : Int) ≠ 0 by omega)
                have h2 := Int.emod_lt_of_pos (zs.getD n 0) (show (0 : Int) < k by omega)
                exact ⟨((zs.getD n 0) % (k : Int)).toNat, by omega, by omega⟩
              have hmg : ashlarlaw12_mod.f (zs.getD n 0) (k : Int) = some (g : Int) := by rw [mod_f (by omega) (by omega), hgc]
              have HMG := Aside0.mk hmg
              clear hmg hgc hB0 hblk
              generalize zs.getD n 0 = zg at hcell HMG
              have hg2 : (g : Int) < (k : Int) := by omega
              go_wp2_with (go_at_call 6; refine (ashlarlaw12_mod.calls zg (k : Int) (g : Int) _ HMG.out).mono ?_; rintro e w7 hh; obtain ⟨rfl, hD7⟩ := hh; have hS7 := (hF.ops u).below _ _ _ hS2 (Drawn0.below hD7))
              clear hS2 hS hD7 hcr hfr hcell
              have hcg := (hF.row _ _ _ hS7).1 g hg1
              cases hu : u g with
              | true =>
                rw [hu] at hcg
                go_region_with (go_at_call 11; refine ((hF.ops u).give u _ g (by first | (with_reducible exact hS7) | exact (hF.ops u).below _ _ _ hS7 (Drawn0.below ⟨⟨_, rfl⟩⟩)) hg1 hu).mono ?_; rintro e w8 hh; obtain ⟨rfl, hS8⟩ := hh; have hc8 := (hF.row _ _ _ hS8).1 g hg1; rw [hu] at hc8)
                all_goals
                  have hf8 := (hF.row _ _ _ hS8).2.1 g hg1
                  go_wp2
                  go_roundw
                  case rel => exact ⟨n + 1, updT u g false, by omega, by go_num, hF.head _ _ _ (hF.put _ _ _ g false (by first | (with_reducible exact hS8) | exact (hF.ops u).below _ _ _ hS8 (Drawn0.below ⟨⟨_, rfl⟩⟩)) hg1) (fun _ _ => rfl)⟩
                  case measure => simp [intOf]; omega
              | false =>
                rw [hu] at hcg
                go_region_with (go_at_call 11; refine ((hF.ops u).giveF u _ g (by first | (with_reducible exact hS7) | exact (hF.ops u).below _ _ _ hS7 (Drawn0.below ⟨⟨_, rfl⟩⟩)) hg1 hu).mono ?_; rintro e w8 hh; obtain ⟨rfl, hS8⟩ := hh; have hc8 := (hF.row _ _ _ hS8).1 g hg1; rw [hu] at hc8)
                all_goals
                  have hf8 := (hF.row _ _ _ hS8).2.1 g hg1
                  go_wp2
                  go_roundw
                  case rel => exact ⟨n + 1, updT u g false, by omega, by go_num, hF.head _ _ _ (hF.put _ _ _ g false (by first | (with_reducible exact hS8) | exact (hF.ops u).below _ _ _ hS8 (Drawn0.below ⟨⟨_, rfl⟩⟩)) hg1) (upd_same hu)⟩
                  case measure => simp [intOf]; omega
            · have hl1 : ¬ (n : Int) < (len : Int) := by omega
              go_wp2
              go_roundw
              case rel => exact ⟨n + 1, u, by omega, by go_num, hF.head _ _ _ hS2 (fun _ _ => rfl)⟩
              case measure => simp [intOf]; omega
    · have hend := hF.rowQ _ _ hQ
      by_cases q1 : (n : Int) < 2 * (k : Int) + (len : Int)
      · have q2 : ¬ (n : Int) < 300 := by omega
        go_wp2
        go_ret
        exact ⟨rfl, (Drawn0.below ⟨⟨nd, rfl⟩⟩ : Below w.heap.size w (w.drewN nd)).trans hend⟩
      · go_wp2
        go_ret
        exact ⟨rfl, (Drawn0.below ⟨⟨nd, rfl⟩⟩ : Below w.heap.size w (w.drewN nd)).trans hend⟩
end Go.Proofs.YteaacjabcfopgaaGreat.Run
