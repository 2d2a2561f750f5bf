/-
  The whole run.
-/
import Derived.Test.YteoklfcffckkkaaGreatGS0
import Derived.Test.YteoklfcffckkkaaGreatGS1
import Derived.Test.YteoklfcffckkkaaGreatGS2
import Derived.Test.YteoklfcffckkkaaGreatGS3
import Derived.Test.YteoklfcffckkkaaGreatGS4
import Derived.Test.YteoklfcffckkkaaGreatGS5
import Derived.Test.YteoklfcffckkkaaGreatGS6
import Derived.Test.YteoklfcffckkkaaGreatGS7
import Derived.Test.YteoklfcffckkkaaGreatGS8
import Derived.Test.YteoklfcffckkkaaGreatGS9
import Derived.Test.YteoklfcffckkkaaGreatGS10
import Derived.Test.YteoklfcffckkkaaGreatGS11
set_option linter.unusedVariables false
set_option linter.unusedSimpArgs false
namespace Go.Proofs.YteoklfcffckkkaaGreat.Am.G
open Go Go.Proofs.YteoklfcffckkkaaGreat.Am Go.RowKit Go.Proofs
set_option maxRecDepth 1000000
set_option maxHeartbeats 400000000
noncomputable section
theorem lives_true (h0 : Right Tryz.prog X0) (w : World) : Calls Tryz.prog 9 #[] w fun e w' => e = .returned (.bool true) ∧ Below w.heap.size w w' := by
  refine Leads.true (X := X0) h0 (by as_aux_lemma => kernel_rfl) ?_ w
  obtain ⟨hh, e⟩ := Leads.last h0 seg11
  refine ⟨hh, ?_⟩
  show Leads Tryz.prog X0 S0 _
  exact (Leads.part h0 seg0).trans ((Leads.part h0 seg1).trans ((Leads.part h0 seg2).trans ((Leads.part h0 seg3).trans ((Leads.part h0 seg4).trans ((Leads.part h0 seg5).trans ((Leads.part h0 seg6).trans ((Leads.part h0 seg7).trans ((Leads.part h0 seg8).trans ((Leads.part h0 seg9).trans ((Leads.part h0 seg10).trans (e)))))))))))
end
end Go.Proofs.YteoklfcffckkkaaGreat.Am.G
