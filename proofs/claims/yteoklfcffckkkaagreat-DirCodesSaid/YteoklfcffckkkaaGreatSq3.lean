/-
  The plain law, part 3: DirCodes.
-/
import Derived.Test.YteoklfcffckkkaaGreatSq2
import Derived.Test.YteoklfcffckkkaaGreatPh
set_option linter.unusedVariables false
namespace Go.Proofs.YteoklfcffckkkaaGreat.PQ
open Go.RowKit Go.Proofs.YteoklfcffckkkaaGreatW.PrintWords Go.Proofs.YteoklfcffckkkaaGreatW.PrintLast Go.Proofs.YteoklfcffckkkaaGreatW.PrintMore
theorem dirCodes_pure (a : Int) (s : ByteArray) (l : List Int) (hs : s.size ≤ 140737488351232) (hl : l.length * 1 ≤ 140737488351232) (hw : ∀ x ∈ l, (Lit.int .u8 x).wf = true) : ∃ k, ashlarlaw15_DirCodes.f k a s l = some true := by
  obtain ⟨b, rfl, hb, _⟩ := octs_of hw
  rw [O_len] at hl
  refine Ev.rounds (g := fun k => ashlarlaw15_DirCodes.f k a s (O b)) ?_
  unfold ashlarlaw15_DirCodes.f
  refine Ev.bind (Ev.now _) (Ev.pos (by simp only [List.length_nil, O_len]; omega) (Ev.bind (Ev.now _) ?_))
  rw [show ([] : List Int) ++ O b = O b from rfl]
  refine Ev.bind (ev_enc a s hs) (Ev.bind (ev_renc a s hs) (Ev.bind (ev_dec b hb) (Ev.bind (ev_rdec b hb) (Ev.bind (Ev.now _) ?_))))
  exact Ev.pos rfl (Ev.pos rfl (Ev.pos rfl (Ev.pos (by simp) (Ev.pos (by simp) (Ev.pos rfl (Ev.val (by simp)))))))
theorem dirCodes_walk (a : Int) (s : ByteArray) (A1 : Option Addr) (c1 : Nat) (l : List Int) (w : World) (hs : s.size ≤ 140737488351232) (hl : l.length * 1 ≤ 140737488351232) (hw : ∀ x ∈ l, (Lit.int .u8 x).wf = true) (hr : Kd.C (Kd.int .u8) w A1 l.length l) (hc : l.length ≤ c1) :
    Calls Tryz.prog 3 #[.agg #[.int .i64 a, .string s], .slice A1 l.length c1] w fun e w' => e = .returned (.bool true) ∧ Below w.heap.size w w' := by
  obtain ⟨k, h⟩ := dirCodes_pure a s l hs hl hw
  exact ashlarlaw15_DirCodes.calls k a s A1 c1 l true w hr hc h rfl
end Go.Proofs.YteoklfcffckkkaaGreat.PQ
