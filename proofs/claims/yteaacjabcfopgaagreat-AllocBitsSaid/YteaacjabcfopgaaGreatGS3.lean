/-
  A part of the run.
-/
import Derived.Test.YteaacjabcfopgaaGreatGD
import Derived.KernelRfl
namespace Go.Proofs.YteaacjabcfopgaaGreat.Am.G
open Go Go.Proofs.YteaacjabcfopgaaGreat Go.Proofs.YteaacjabcfopgaaGreat.Am Go.RowKit Go.Proofs
set_option maxRecDepth 1000000
set_option maxHeartbeats 400000000
set_option linter.unusedVariables false
noncomputable section
theorem seg3 : gcS [0, 1, 2, 5, 7, 9, 11, 13, 14, 15, 16, 17, 22, 23, 28, 29, 34, 35, 38, 39, 1082, 1083, 1084, 1085, 3280, 3281, 3285, 3286, 3294, 3295, 3320, 3386, 3390, 3393, 3394] (runF X0 12000 S3) = S4 := by as_aux_lemma => kernel_rfl
end
end Go.Proofs.YteaacjabcfopgaaGreat.Am.G
