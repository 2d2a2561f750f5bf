/-
  A part of the run.
-/
import Derived.Test.YtfjfollomgjlbaaGreatGD
import Derived.KernelRfl
set_option linter.unusedVariables false
set_option linter.unusedSimpArgs false
namespace Go.Proofs.YtfjfollomgjlbaaGreat.Am.G
open Go Go.Proofs.YtfjfollomgjlbaaGreat.Am Go.RowKit Go.Proofs
set_option maxRecDepth 1000000
set_option maxHeartbeats 400000000
noncomputable section
theorem seg0 : gcS [0, 1, 2, 5, 7, 9, 11, 13, 15, 16, 17, 18, 19, 24, 25, 30, 31, 36, 37, 42, 43, 46, 47, 48, 1057, 1064, 1065, 1066, 1067] (runF X0 12000 S0) = S1 := by as_aux_lemma => kernel_rfl
end
end Go.Proofs.YtfjfollomgjlbaaGreat.Am.G
