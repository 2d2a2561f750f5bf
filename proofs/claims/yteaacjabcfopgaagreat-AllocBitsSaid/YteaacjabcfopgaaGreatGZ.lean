/-
  What Begin answers, and leaves; that lives answers true.
-/
import Derived.Test.YteaacjabcfopgaaGreatGS0
import Derived.Test.YteaacjabcfopgaaGreatGS1
import Derived.Test.YteaacjabcfopgaaGreatGS2
import Derived.Test.YteaacjabcfopgaaGreatGS3
import Derived.Test.YteaacjabcfopgaaGreatGS4
import Derived.Test.YteaacjabcfopgaaGreatGS5
import Derived.Test.YteaacjabcfopgaaGreatGS6
import Derived.Test.YteaacjabcfopgaaGreatGS7
import Derived.Test.YteaacjabcfopgaaGreatGS8
import Derived.Test.YteaacjabcfopgaaGreatOc3
import Derived.Test.YteaacjabcfopgaaGreatGR
namespace Go.Proofs.YteaacjabcfopgaaGreat.Am.G
open Go Go.Proofs.YteaacjabcfopgaaGreat Go.Proofs.YteaacjabcfopgaaGreat.Am Go.RowKit Go.Proofs Go.Proofs.YteaacjabcfopgaaGreat.Run
set_option maxRecDepth 1000000
set_option maxHeartbeats 400000000
set_option linter.unusedVariables false
noncomputable section
theorem bare1_right : Right Tryz.prog ⟨{ mkC Tryz.prog with mb := true }, .e⟩ := ⟨⟨⟨(mkC_enters Tryz.prog).ty.ty, (mkC_enters Tryz.prog).ty.fs⟩, (mkC_enters Tryz.prog).fs⟩, (fun g o h => by rw [T.get_e] at h; cases h), Tryz.checked.mixed⟩
theorem x1_right : Right Tryz.prog X1 := (((bare1_right.with (.inl crc_ok)).with (.inl xor_ok)).with (.inl put_ok)).with (.inl get_ok)
theorem begin_leads : Leads Tryz.prog X0 S0 (.done (.ptr 6532 0) H0) :=
  (Leads.part x0_right seg0).trans ((Leads.part x0_right seg1).trans ((Leads.part x0_right seg2).trans ((Leads.part x0_right seg3).trans ((Leads.part x0_right seg4).trans ((Leads.part x0_right seg5).trans ((Leads.part x0_right seg6).trans ((Leads.part x0_right seg7).trans (Leads.partD x0_right seg8))))))))
theorem hR0 (w : World) : RH ⟨⟨w, fun _ => none⟩, []⟩ (fun _ => none) ⟨.e, 0⟩ w := ⟨fun i b p _ h => (by cases h), fun i j b1 b2 p1 p2 _ _ h => (by cases h), fun i p h => (by cases h), fun i _ => ⟨rfl, T.get_e i⟩, Below.refl _ _, fun i h => (by cases h), Phi.le_refl _⟩
theorem begin_calls (w : World) : Calls Tryz.prog 7 #[.int .i64 14] w (Ret w (fun _ => none) (.ptr 6532 0) H0) :=
  RH.calls (args' := [.int .i64 14]) x0_right (by as_aux_lemma => kernel_rfl) (hR0 w) (.cons (.int _ _) .nil) begin_leads
def oBegin : Orc := fun h a =>
  match h with
  | ⟨.e, 0⟩ => (match a with
    | .int .i64 (.ofNat 14) :: [] => some (.ptr 6532 0, H0)
    | _ => none)
  | _ => none
theorem begin_ok : OrcOk Tryz.prog 7 oBegin := by
  intro w0 φ h h' w args args' v hR ha ho
  unfold oBegin at ho
  split at ho
  · split at ho
    · cases ho
      cases ha with
      | cons h1 h2 =>
      cases h1
      cases h2
      have hn : ∀ i, φ i = none := fun i => (hR.fresh i (Nat.zero_le _)).1
      refine (begin_calls w).mono fun e w' hh => ?_
      obtain ⟨ψ, v', _, rfl, hv, hR'⟩ := hh
      refine ⟨ψ, v', fun i p e => (by rw [hn i] at e; cases e), rfl, ⟨hR'.blk, hR'.inj, fun id p e => ⟨Nat.le_trans hR.bel.size (hR'.own id p e).1, (hR'.own id p e).2⟩, hR'.fresh, hR.bel.trans (hR'.bel.mono hR.bel.size), fun id hi => absurd (hR.rsv id hi).2 (Nat.not_lt_zero _), fun i p e => ?_⟩, hv⟩
      have := hR.up i p e
      rw [hn i] at this
      cases this
    · cases ho
  · cases ho
def X2 : M := X0.with 7 oBegin
theorem x2_right : Right Tryz.prog X2 := x0_right.with (.inl begin_ok)
theorem lives_calls (w : World) : Calls Tryz.prog 8 #[] w fun e w' => e = .returned (.bool true) ∧ Below w.heap.size w w' :=
  Ends.yes (args' := []) x2_right (by as_aux_lemma => kernel_rfl) .nil (Ends.run x2_right (n := 3000) (by as_aux_lemma => kernel_rfl)) w
end
end Go.Proofs.YteaacjabcfopgaaGreat.Am.G
