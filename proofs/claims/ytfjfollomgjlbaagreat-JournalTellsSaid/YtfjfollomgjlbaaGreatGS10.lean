/-
  A part of the run.
-/
import Derived.Test.YtfjfollomgjlbaaGreatGD
import Derived.KernelRfl
set_option linter.unusedVariables false
set_option linter.unusedSimpArgs false
namespace Go.Proofs.YtfjfollomgjlbaaGreat.Am.G
open Go Go.Proofs.YtfjfollomgjlbaaGreat.Am Go.RowKit Go.Proofs
set_option maxRecDepth 1000000
set_option maxHeartbeats 400000000
noncomputable section
theorem seg10 : doneV (.bool true) (runF X0 8975 S10) = true := by as_aux_lemma => kernel_rfl
end
end Go.Proofs.YtfjfollomgjlbaaGreat.Am.G
