/-
  A part of the run.
-/
import Derived.Test.YteoklfcffckkkaaGreatGD
import Derived.KernelRfl
set_option linter.unusedVariables false
set_option linter.unusedSimpArgs false
namespace Go.Proofs.YteoklfcffckkkaaGreat.Am.G
open Go Go.Proofs.YteoklfcffckkkaaGreat.Am Go.RowKit Go.Proofs
set_option maxRecDepth 1000000
set_option maxHeartbeats 400000000
noncomputable section
theorem seg9 : gcS [0, 1, 2, 5, 7, 9, 11, 13, 14, 15, 16, 17, 22, 23, 28, 29, 34, 35, 38, 39, 2226, 2227, 7443, 7444, 7676, 7677, 7693, 7698, 7714, 7734, 7739, 7775, 7818, 7820, 7821, 7828, 7832, 7991, 7992, 7993, 8222, 8229, 8230, 8238, 8239, 8266, 8331, 8335, 8338, 8340, 8347] (runF X0 12000 S9) = S10 := by as_aux_lemma => kernel_rfl
end
end Go.Proofs.YteoklfcffckkkaaGreat.Am.G
