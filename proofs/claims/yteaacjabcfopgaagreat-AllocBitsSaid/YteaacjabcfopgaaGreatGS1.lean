/-
  A part of the run.
-/
import Derived.Test.YteaacjabcfopgaaGreatGD
import Derived.KernelRfl
namespace Go.Proofs.YteaacjabcfopgaaGreat.Am.G
open Go Go.Proofs.YteaacjabcfopgaaGreat Go.Proofs.YteaacjabcfopgaaGreat.Am Go.RowKit Go.Proofs
set_option maxRecDepth 1000000
set_option maxHeartbeats 400000000
set_option linter.unusedVariables false
noncomputable section
theorem seg1 : gcS [0, 1, 2, 5, 7, 9, 11, 13, 14, 15, 16, 17, 22, 23, 28, 29, 34, 35, 38, 39, 1082, 1083, 1084, 1085, 1763, 1767, 1768, 1799, 1827, 1830] (runF X0 12000 S1) = S2 := by as_aux_lemma => kernel_rfl
end
end Go.Proofs.YteaacjabcfopgaaGreat.Am.G
