/-
  A part of the run.
-/
import Derived.Test.YtiafljgjhocodaaGreatGD
import Derived.KernelRfl
namespace Go.Proofs.YtiafljgjhocodaaGreat.Am.G
open Go Go.Proofs.YtiafljgjhocodaaGreat Go.Proofs.YtiafljgjhocodaaGreat.Am Go.RowKit Go.Proofs
set_option maxRecDepth 1000000
set_option maxHeartbeats 400000000
set_option linter.unusedVariables false
noncomputable section
theorem seg9 : gcS [0, 1, 2, 5, 7, 9, 11, 13, 14, 15, 16, 17, 22, 23, 28, 29, 34, 35, 38, 39, 1082, 1083, 6299, 6300, 6532, 6533, 6534, 6535, 6538, 6540, 6542, 6544, 6546, 6547, 6548, 6549, 6550, 6555, 6556, 6561, 6562, 6567, 6568, 6571, 6572, 7615, 7616, 7617, 7618, 8146, 8150, 8151, 8159, 8160, 8185, 8270] (runF X0 12000 S9) = S10 := by as_aux_lemma => kernel_rfl
end
end Go.Proofs.YtiafljgjhocodaaGreat.Am.G
