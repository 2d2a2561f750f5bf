/-
  A part of the run.
-/
import Derived.Test.YteoklfcffckkkaaGreatGD
import Derived.KernelRfl
set_option linter.unusedVariables false
set_option linter.unusedSimpArgs false
namespace Go.Proofs.YteoklfcffckkkaaGreat.Am.G
open Go Go.Proofs.YteoklfcffckkkaaGreat.Am Go.RowKit Go.Proofs
set_option maxRecDepth 1000000
set_option maxHeartbeats 400000000
noncomputable section
theorem seg7 : gcS [0, 1, 2, 5, 7, 9, 11, 13, 14, 15, 16, 17, 22, 23, 28, 29, 34, 35, 38, 39, 2226, 2227, 2228, 2229, 6809, 6813, 6814] (runF X0 12000 S7) = S8 := by as_aux_lemma => kernel_rfl
end
end Go.Proofs.YteoklfcffckkkaaGreat.Am.G
