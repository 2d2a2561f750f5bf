/-
  A part of the run.
-/
import Derived.Test.YteoklfcffckkkaaGreatGD
import Derived.KernelRfl
set_option linter.unusedVariables false
set_option linter.unusedSimpArgs false
namespace Go.Proofs.YteoklfcffckkkaaGreat.Am.G
open Go Go.Proofs.YteoklfcffckkkaaGreat.Am Go.RowKit Go.Proofs
set_option maxRecDepth 1000000
set_option maxHeartbeats 400000000
noncomputable section
theorem seg10 : gcS [0, 1, 2, 5, 7, 9, 11, 13, 14, 15, 16, 17, 22, 23, 28, 29, 34, 35, 38, 39, 2226, 2227, 7443, 7444, 7676, 7677, 7693, 7698, 7714, 7734, 7739, 8652, 9097, 9418, 9419, 9420, 9421, 9459, 9460, 9461, 9462, 9463] (runF X0 12000 S10) = S11 := by as_aux_lemma => kernel_rfl
end
end Go.Proofs.YteoklfcffckkkaaGreat.Am.G
