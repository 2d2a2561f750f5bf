/-
  The plain law, part 4: InodeCodes.
-/
import Derived.Test.YtjgjcfeifhaanaaGreatSr3
import Derived.Test.YtjgjcfeifhaanaaGreatPh
set_option linter.unusedVariables false
namespace Go.Proofs.YtjgjcfeifhaanaaGreat.PQ
open Go.RowKit Go.Proofs.YtjgjcfeifhaanaaGreatW.PrintWords Go.Proofs.YtjgjcfeifhaanaaGreatW.PrintLast Go.Proofs.YtjgjcfeifhaanaaGreatW.PrintMore
open Go.Proofs.YtjgjcfeifhaanaaGreat.Am (putL getL lo64 hi64)
open Go.Proofs.YtjgjcfeifhaanaaGreat.Run (putF_ok getF_ok putL_length rd_at getL_snoc)
theorem inodeCodes_pure (a0 : Int) (a1 : Int) (a2 : Int) (a3 : Int) (a4 : Int) (a5 : Int) (a6 : Int) (a7 : Int) (a8 : Int) (a9 : Int) (a10 : Int) (a11 : Int) (a12 : Int) (l : List Int) (hfit : fits13 a0 a1 a2 a3 a4 a5 a6 a7 a8 a9 a10 a11 a12 = true) (hl : l.length * 1 ≤ 140737488351232) (hw : ∀ x ∈ l, (Lit.int .u8 x).wf = true) : ∃ k, ashlarlaw13_InodeCodes.f k a0 a1 a2 a3 a4 a5 a6 a7 a8 a9 a10 a11 a12 l = some true := by
  obtain ⟨b, rfl, hb, _⟩ := octs_of hw
  rw [O_len] at hl
  refine Ev.rounds (g := fun k => ashlarlaw13_InodeCodes.f k a0 a1 a2 a3 a4 a5 a6 a7 a8 a9 a10 a11 a12 (O b)) ?_
  unfold ashlarlaw13_InodeCodes.f
  refine Ev.bind (Ev.now _) (Ev.pos (by simp only [List.length_nil, O_len]; omega) (Ev.bind (Ev.now _) ?_))
  rw [show ([] : List Int) ++ O b = O b from rfl]
  refine Ev.bind (ev_enc a0 a1 a2 a3 a4 a5 a6 a7 a8 a9 a10 a11 a12 hfit) (Ev.bind (ev_renc a0 a1 a2 a3 a4 a5 a6 a7 a8 a9 a10 a11 a12 hfit) (Ev.bind (ev_dec b hb) (Ev.bind (ev_rdec b hb) (Ev.bind (Ev.now _) ?_))))
  exact Ev.pos rfl (Ev.pos rfl (Ev.pos rfl (Ev.pos (by simp) (Ev.pos rfl (Ev.val (by simp))))))
theorem inodeCodes_walk (a0 : Int) (a1 : Int) (a2 : Int) (a3 : Int) (a4 : Int) (a5 : Int) (a6 : Int) (a7 : Int) (a8 : Int) (a9 : Int) (a10 : Int) (a11 : Int) (a12 : Int) (A1 : Option Addr) (c1 : Nat) (l : List Int) (w : World) (hfit : fits13 a0 a1 a2 a3 a4 a5 a6 a7 a8 a9 a10 a11 a12 = true) (hl : l.length * 1 ≤ 140737488351232) (hw : ∀ x ∈ l, (Lit.int .u8 x).wf = true) (hr : Kd.C (Kd.int .u8) w A1 l.length l) (hc : l.length ≤ c1) :
    Calls Tryz.prog 3 #[.agg #[.int .i64 a0, .int .i64 a1, .int .i64 a2, .int .i64 a3, .int .i64 a4, .int .i64 a5, .int .i64 a6, .int .i64 a7, .int .i64 a8, .int .i64 a9, .int .i64 a10, .int .i64 a11, .int .i64 a12], .slice A1 l.length c1] w fun e w' => e = .returned (.bool true) ∧ Below w.heap.size w w' := by
  obtain ⟨k, h⟩ := inodeCodes_pure a0 a1 a2 a3 a4 a5 a6 a7 a8 a9 a10 a11 a12 l hfit hl hw
  exact ashlarlaw13_InodeCodes.calls k a0 a1 a2 a3 a4 a5 a6 a7 a8 a9 a10 a11 a12 A1 c1 l true w hr hc h rfl
end Go.Proofs.YtjgjcfeifhaanaaGreat.PQ
