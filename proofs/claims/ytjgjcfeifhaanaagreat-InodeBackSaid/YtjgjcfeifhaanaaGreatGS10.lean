/-
  A part of the run.
-/
import Derived.Test.YtjgjcfeifhaanaaGreatGD
import Derived.KernelRfl
set_option linter.unusedVariables false
set_option linter.unusedSimpArgs false
namespace Go.Proofs.YtjgjcfeifhaanaaGreat.Am.G
open Go Go.Proofs.YtjgjcfeifhaanaaGreat.Am Go.RowKit Go.Proofs
set_option maxRecDepth 1000000
set_option maxHeartbeats 400000000
noncomputable section
theorem seg10 : doneV (.bool true) (runF X0 10468 S10) = true := by as_aux_lemma => kernel_rfl
end
end Go.Proofs.YtjgjcfeifhaanaaGreat.Am.G
