/-
  A part of the run.
-/
import Derived.Test.YteaacjabcfopgaaGreatGD
import Derived.KernelRfl
namespace Go.Proofs.YteaacjabcfopgaaGreat.Am.G
open Go Go.Proofs.YteaacjabcfopgaaGreat Go.Proofs.YteaacjabcfopgaaGreat.Am Go.RowKit Go.Proofs
set_option maxRecDepth 1000000
set_option maxHeartbeats 400000000
set_option linter.unusedVariables false
noncomputable section
theorem seg2 : gcS [0, 1, 2, 5, 7, 9, 11, 13, 14, 15, 16, 17, 22, 23, 28, 29, 34, 35, 38, 39, 1082, 1083, 1084, 1085, 2535, 2539, 2540, 2585, 2586, 2587] (runF X0 12000 S2) = S3 := by as_aux_lemma => kernel_rfl
end
end Go.Proofs.YteaacjabcfopgaaGreat.Am.G
