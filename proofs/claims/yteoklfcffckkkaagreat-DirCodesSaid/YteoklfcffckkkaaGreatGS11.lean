/-
  A part of the run.
-/
import Derived.Test.YteoklfcffckkkaaGreatGD
import Derived.KernelRfl
set_option linter.unusedVariables false
set_option linter.unusedSimpArgs false
namespace Go.Proofs.YteoklfcffckkkaaGreat.Am.G
open Go Go.Proofs.YteoklfcffckkkaaGreat.Am Go.RowKit Go.Proofs
set_option maxRecDepth 1000000
set_option maxHeartbeats 400000000
noncomputable section
theorem seg11 : doneV (.bool true) (runF X0 519 S11) = true := by as_aux_lemma => kernel_rfl
end
end Go.Proofs.YteoklfcffckkkaaGreat.Am.G
