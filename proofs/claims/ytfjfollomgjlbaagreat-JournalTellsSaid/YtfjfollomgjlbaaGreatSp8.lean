/-
  The plain law, part 8: JournalTells.
-/
import Derived.Test.YtfjfollomgjlbaaGreatSp7
import Derived.Test.YtfjfollomgjlbaaGreatPi
set_option linter.unusedVariables false
set_option linter.unusedSimpArgs false
namespace Go.Proofs.YtfjfollomgjlbaaGreat.PQ
open Go.RowKit Go.Proofs.YtfjfollomgjlbaaGreatW.PrintWords Go.Proofs.YtfjfollomgjlbaaGreatW.PrintLast Go.Proofs.YtfjfollomgjlbaaGreatW.PrintMore
theorem tells_all (b : List Nat) (hb : ∀ x ∈ b, x < 256) (hl : b.length ≤ 1000000000000000) : ∃ (H M : Int × Int × Int) (D : Int × List Int × Int × Int), D.2.1.length ≤ 24 ∧
    Ev (fun k => journal_ReadHead.f k (O b)) H ∧ Ev (fun k => ashlarref11_ReadHead.f k (O b)) H ∧ Ev (fun k => journal_ReadMark.f k (O b)) M ∧ Ev (fun k => ashlarref11_ReadMark.f k (O b)) M ∧
    Ev (fun k => journal_ReadDesc.f k (O b)) D ∧ Ev (fun k => ashlarref11_ReadDesc.f k (O b)) D := by
  by_cases h : b.length = 128
  · have n1 := ev_num b hb hl 4 8 (by decide) (by decide) (by omega)
    have r1 := ev_rnum b hb hl 4 8 (by decide) (by decide) (by omega)
    have n2 := four_num b hb hl 12 (by omega)
    have r2 := four_rnum b hb hl 12 (by omega)
    have n3 := four_num b hb hl 16 (by omega)
    have r3 := four_rnum b hb hl 16 (by omega)
    have p1 := ev_readHead b n1 n2
    have q1 := ev_rreadHead b r1 r2
    have p2 := ev_readMark b n1 n2
    have q2 := ev_rreadMark b r1 r2
    have p3 := ev_readDesc b n1 n3 n2 (by omega) (fun i => ((numN b (20 + 4 * i) 4 : Nat) : Int)) (fun i hi => four_num b hb hl (20 + 4 * i) (by omega))
    have q3 := ev_rreadDesc b r1 r3 r2 (fun i => ((numN b (20 + 4 * i) 4 : Nat) : Int)) (fun i hi => four_rnum b hb hl (20 + 4 * i) (by omega))
    rw [readHead_seq hb] at p1
    rw [readMark_seq hb] at p2
    rw [readDesc_seq hb] at p3
    rw [if_neg (by omega)] at q2
    rw [if_neg (by omega)] at q3
    refine ⟨_, _, _, ?_, p1, q1, p2, q2, p3, q3⟩
    unfold readDescS
    split
    · split
      · show (tgs _ _).length ≤ 24
        rw [tgs_len]; omega
      · exact Nat.zero_le _
    · exact Nat.zero_le _
  · obtain ⟨s, _, n1⟩ := num_any b hb hl 4 8 (by decide) (by decide) (by decide)
    obtain ⟨a, a0, n2⟩ := num_any b hb hl 12 4 (by decide) (by decide) (by decide)
    obtain ⟨c, _, n3⟩ := num_any b hb hl 16 4 (by decide) (by decide) (by decide)
    obtain ⟨rs, r1⟩ := rnum_any b hb hl 4 8 (by decide) (by decide) (by decide)
    obtain ⟨ra, r2⟩ := rnum_any b hb hl 12 4 (by decide) (by decide) (by decide)
    obtain ⟨rc, r3⟩ := rnum_any b hb hl 16 4 (by decide) (by decide) (by decide)
    obtain ⟨tg, ht⟩ : ∃ tg : Nat → Int, ∀ i, i < 24 → Ev (fun f => journal_number.f f (O b) ((20 + 4 * i : Nat) : Int) 4) (tg i) := by
      have : ∀ i, ∃ v : Int, i < 24 → Ev (fun f => journal_number.f f (O b) ((20 + 4 * i : Nat) : Int) 4) v := fun i => by
        by_cases hi : i < 24
        · obtain ⟨v, _, hv⟩ := num_any b hb hl (20 + 4 * i) 4 (by decide) (by decide) (by omega)
          exact ⟨v, fun _ => hv⟩
        · exact ⟨0, fun h => absurd h hi⟩
      exact ⟨fun i => Classical.choose (this i), fun i => Classical.choose_spec (this i)⟩
    obtain ⟨tr, hr⟩ : ∃ tg : Nat → Int, ∀ i, i < 24 → Ev (fun f => ashlarref11_number.f f (O b) ((20 + 4 * i : Nat) : Int) 4) (tg i) := by
      have : ∀ i, ∃ v : Int, i < 24 → Ev (fun f => ashlarref11_number.f f (O b) ((20 + 4 * i : Nat) : Int) 4) v := fun i => by
        by_cases hi : i < 24
        · obtain ⟨v, hv⟩ := rnum_any b hb hl (20 + 4 * i) 4 (by decide) (by decide) (by omega)
          exact ⟨v, fun _ => hv⟩
        · exact ⟨0, fun h => absurd h hi⟩
      exact ⟨fun i => Classical.choose (this i), fun i => Classical.choose_spec (this i)⟩
    have p1 := ev_readHead b n1 n2
    have q1 := ev_rreadHead b r1 r2
    have p2 := ev_readMark b n1 n2
    have q2 := ev_rreadMark b r1 r2
    have p3 := ev_readDesc b n1 n3 n2 a0 tg (fun i hi => ht i (by omega))
    have q3 := ev_rreadDesc b r1 r3 r2 tr (fun i hi => hr i (by omega))
    rw [readHead_len hb h] at p1 q1
    rw [readMark_len hb h] at p2 q2
    rw [readDesc_len hb h] at p3 q3
    rw [ite_self] at q2 q3
    exact ⟨_, _, _, Nat.zero_le _, p1, q1, p2, q2, p3, q3⟩
theorem journalTells_pure : ashlarlaw11_JournalTells.Pure := by
  intro l0 _ hl hw
  obtain ⟨b, rfl, hb, hlen⟩ := octs_of hw
  rw [O_len] at hl hlen
  obtain ⟨H, M, D, hD, p1, q1, p2, q2, p3, q3⟩ := tells_all b hb (by omega)
  refine Ev.rounds (g := fun k => ashlarlaw11_JournalTells.f k (O b)) ?_
  unfold ashlarlaw11_JournalTells.f
  refine Ev.bind (Ev.now _) (Ev.pos (by simp only [List.length_nil, O_len]; omega) (Ev.bind (Ev.now _) ?_))
  rw [show ([] : List Int) ++ O b = O b from rfl]
  refine Ev.bind p1 (Ev.bind q1 (Ev.bind p3 (Ev.bind q3 (Ev.bind p2 (Ev.bind q2 (Ev.bind (Ev.now _) ?_))))))
  refine Ev.pos (by first | rfl | trivial) (Ev.pos (by first | rfl | trivial) (Ev.pos (by first | rfl | trivial) (Ev.pos (by first | rfl | trivial) (Ev.pos (by first | rfl | trivial) (Ev.bind (ev_unlike _ (by omega)) ?_)))))
  exact Ev.pos (by first | rfl | trivial) (Ev.pos (by first | rfl | trivial) (Ev.pos (by first | rfl | trivial) (Ev.pos (by first | rfl | trivial) (Ev.pos (by first | rfl | trivial) (Ev.pos (by first | rfl | trivial) (Ev.val (by simp)))))))
end Go.Proofs.YtfjfollomgjlbaaGreat.PQ
