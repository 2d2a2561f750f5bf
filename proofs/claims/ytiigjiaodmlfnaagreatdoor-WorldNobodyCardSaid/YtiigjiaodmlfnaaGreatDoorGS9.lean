/-
  A part of the run.
-/
import Derived.Test.YtiigjiaodmlfnaaGreatDoorGD
import Derived.KernelRfl
namespace Go.Proofs.YtiigjiaodmlfnaaGreatDoor.Am.G
open Go Go.Proofs.YtiigjiaodmlfnaaGreatDoor Go.Proofs.YtiigjiaodmlfnaaGreatDoor.Am Go.RowKit Go.Proofs
set_option maxRecDepth 1000000
set_option maxHeartbeats 400000000
set_option linter.unusedVariables false
noncomputable section
theorem seg9 : gcS [0, 3, 5, 6, 7, 8, 11, 13, 15, 17, 19, 20, 21, 22, 23, 28, 29, 34, 35, 40, 41, 44, 45, 7761, 7762, 7763, 7764, 7765, 7996, 8001, 8018, 8039, 8044, 8213, 8214, 8215, 8216, 8217, 8218, 8277, 8278, 8279, 8280, 8281, 8402, 8404, 8410, 8411, 8412, 8413, 8414, 8415, 8416, 8417, 8418, 8419, 8420, 8424, 8425, 8427, 8428, 8437, 8438, 8439] (runF X0 12000 S9) = S10 := by as_aux_lemma => kernel_rfl
end
end Go.Proofs.YtiigjiaodmlfnaaGreatDoor.Am.G
