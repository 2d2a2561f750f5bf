/-
  The plain law, part 5: JournalCodes.
-/
import Derived.Test.YtfjfollomgjlbaaGreatSp4
import Derived.Test.YtfjfollomgjlbaaGreatPh
set_option linter.unusedVariables false
set_option linter.unusedSimpArgs false
namespace Go.Proofs.YtfjfollomgjlbaaGreat.PQ
open Go.RowKit Go.Proofs.YtfjfollomgjlbaaGreatW.PrintWords Go.Proofs.YtfjfollomgjlbaaGreatW.PrintLast Go.Proofs.YtfjfollomgjlbaaGreatW.PrintMore
theorem wf_u32 {a : Int} (h : (Lit.int .u32 a).wf = true) : 0 ≤ a ∧ a < 4294967296 := by
  simp only [Lit.wf, Bool.and_eq_true, decide_eq_true_eq] at h
  have h1 : IntKind.u32.min = 0 := by decide
  have h2 : IntKind.u32.max = 4294967295 := by decide
  omega
theorem journalCodes_pure : ashlarlaw11_JournalCodes.Pure := by
  intro a0 a1 l2 a3 _ _ _ hl _ h3
  obtain ⟨h30, h31⟩ := wf_u32 h3
  refine Ev.rounds (g := fun k => ashlarlaw11_JournalCodes.f k a0 a1 l2 a3) ?_
  unfold ashlarlaw11_JournalCodes.f
  refine Ev.bind (ev_head a0 a1) (Ev.bind (ev_rhead a0 a1) (Ev.bind (Ev.now _) ?_))
  refine Ev.pos (by simp only [List.length_nil]; omega) ?_
  refine Ev.bind (ev_desc a0 l2 a3 h30 h31) (Ev.bind (ev_rdesc a0 l2 a3 h30 h31) ?_)
  refine Ev.bind (ev_mark a0 a3 h30 h31) (Ev.bind (ev_rmark a0 a3 h30 h31) (Ev.bind (Ev.now _) ?_))
  exact Ev.pos rfl (Ev.pos rfl (Ev.pos rfl (Ev.pos rfl (Ev.pos rfl (Ev.pos rfl (Ev.val (by simp)))))))
end Go.Proofs.YtfjfollomgjlbaaGreat.PQ
