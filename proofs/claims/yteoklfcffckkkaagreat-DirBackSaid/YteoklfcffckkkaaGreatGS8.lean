/-
  A part of the run.
-/
import Derived.Test.YteoklfcffckkkaaGreatGD
import Derived.KernelRfl
set_option linter.unusedVariables false
set_option linter.unusedSimpArgs false
namespace Go.Proofs.YteoklfcffckkkaaGreat.Am.G
open Go Go.Proofs.YteoklfcffckkkaaGreat.Am Go.RowKit Go.Proofs
set_option maxRecDepth 1000000
set_option maxHeartbeats 400000000
noncomputable section
theorem seg8 : gcS [0, 1, 2, 5, 7, 9, 11, 13, 14, 15, 16, 17, 22, 23, 28, 29, 34, 35, 38, 39, 2226, 2227, 7443, 7444, 7456, 7484, 7491, 7492, 7500, 7501, 7526, 7528, 7531, 7539, 7543, 7546, 7548, 7555, 7557] (runF X0 12000 S8) = S9 := by as_aux_lemma => kernel_rfl
end
end Go.Proofs.YteoklfcffckkkaaGreat.Am.G
