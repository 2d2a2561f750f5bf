/-
  A part of the run.
-/
import Derived.Test.YteaacjabcfopgaaGreatGD
import Derived.KernelRfl
namespace Go.Proofs.YteaacjabcfopgaaGreat.Am.G
open Go Go.Proofs.YteaacjabcfopgaaGreat Go.Proofs.YteaacjabcfopgaaGreat.Am Go.RowKit Go.Proofs
set_option maxRecDepth 1000000
set_option maxHeartbeats 400000000
set_option linter.unusedVariables false
noncomputable section
theorem seg4 : gcS [0, 1, 2, 5, 7, 9, 11, 13, 14, 15, 16, 17, 22, 23, 28, 29, 34, 35, 38, 39, 1082, 1083, 1084, 1085, 3991, 3995, 3996, 4068, 4069, 4095, 4160, 4161, 4162, 4163] (runF X0 12000 S4) = S5 := by as_aux_lemma => kernel_rfl
end
end Go.Proofs.YteaacjabcfopgaaGreat.Am.G
