/-
  The whole run.
-/
import Derived.Test.YtjgjcfeifhaanaaGreatGS0
import Derived.Test.YtjgjcfeifhaanaaGreatGS1
import Derived.Test.YtjgjcfeifhaanaaGreatGS2
import Derived.Test.YtjgjcfeifhaanaaGreatGS3
import Derived.Test.YtjgjcfeifhaanaaGreatGS4
import Derived.Test.YtjgjcfeifhaanaaGreatGS5
import Derived.Test.YtjgjcfeifhaanaaGreatGS6
import Derived.Test.YtjgjcfeifhaanaaGreatGS7
import Derived.Test.YtjgjcfeifhaanaaGreatGS8
import Derived.Test.YtjgjcfeifhaanaaGreatGS9
import Derived.Test.YtjgjcfeifhaanaaGreatGS10
set_option linter.unusedVariables false
set_option linter.unusedSimpArgs false
namespace Go.Proofs.YtjgjcfeifhaanaaGreat.Am.G
open Go Go.Proofs.YtjgjcfeifhaanaaGreat.Am Go.RowKit Go.Proofs
set_option maxRecDepth 1000000
set_option maxHeartbeats 400000000
noncomputable section
theorem lives_true (h0 : Right Tryz.prog X0) (w : World) : Calls Tryz.prog 9 #[] w fun e w' => e = .returned (.bool true) ∧ Below w.heap.size w w' := by
  refine Leads.true (X := X0) h0 (by as_aux_lemma => kernel_rfl) ?_ w
  obtain ⟨hh, e⟩ := Leads.last h0 seg10
  refine ⟨hh, ?_⟩
  show Leads Tryz.prog X0 S0 _
  exact (Leads.part h0 seg0).trans ((Leads.part h0 seg1).trans ((Leads.part h0 seg2).trans ((Leads.part h0 seg3).trans ((Leads.part h0 seg4).trans ((Leads.part h0 seg5).trans ((Leads.part h0 seg6).trans ((Leads.part h0 seg7).trans ((Leads.part h0 seg8).trans ((Leads.part h0 seg9).trans (e))))))))))
end
end Go.Proofs.YtjgjcfeifhaanaaGreat.Am.G
