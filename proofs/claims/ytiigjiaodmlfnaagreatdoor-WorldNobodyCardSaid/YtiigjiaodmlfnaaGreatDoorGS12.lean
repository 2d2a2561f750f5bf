/-
  A part of the run.
-/
import Derived.Test.YtiigjiaodmlfnaaGreatDoorGD
import Derived.KernelRfl
namespace Go.Proofs.YtiigjiaodmlfnaaGreatDoor.Am.G
open Go Go.Proofs.YtiigjiaodmlfnaaGreatDoor Go.Proofs.YtiigjiaodmlfnaaGreatDoor.Am Go.RowKit Go.Proofs
set_option maxRecDepth 1000000
set_option maxHeartbeats 400000000
set_option linter.unusedVariables false
noncomputable section
theorem seg12 : gcS [0, 3, 5, 6, 7, 8, 11, 13, 15, 17, 19, 20, 21, 22, 23, 28, 29, 34, 35, 40, 41, 44, 45, 7761, 7762, 7763, 7764, 7765, 7996, 8001, 8018, 8039, 8044, 8213, 8214, 8584, 8623, 8624, 8625, 8626, 8627, 8639, 8642, 8645, 8647, 8650, 8651, 8652, 8653, 8654, 8655] (runF X0 72 S12) = S13 := by as_aux_lemma => kernel_rfl
end
end Go.Proofs.YtiigjiaodmlfnaaGreatDoor.Am.G
