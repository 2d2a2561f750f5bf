/-
  A part of the run.
-/
import Derived.Test.YtiigjiaodmlfnaaGreatDoorGD
import Derived.KernelRfl
namespace Go.Proofs.YtiigjiaodmlfnaaGreatDoor.Am.G
open Go Go.Proofs.YtiigjiaodmlfnaaGreatDoor Go.Proofs.YtiigjiaodmlfnaaGreatDoor.Am Go.RowKit Go.Proofs
set_option maxRecDepth 1000000
set_option maxHeartbeats 400000000
set_option linter.unusedVariables false
noncomputable section
theorem seg0 : gcS [0, 3, 4, 5, 6, 7, 8, 11, 13, 15, 17, 19, 20, 21, 22, 23, 28, 29, 34, 35, 40, 41, 44, 45, 46, 1066, 1070, 1071, 1072] (runF X0 12000 S0) = S1 := by as_aux_lemma => kernel_rfl
end
end Go.Proofs.YtiigjiaodmlfnaaGreatDoor.Am.G
