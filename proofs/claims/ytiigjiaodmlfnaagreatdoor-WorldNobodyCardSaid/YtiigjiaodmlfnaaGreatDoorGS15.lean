/-
  A part of the run.
-/
import Derived.Test.YtiigjiaodmlfnaaGreatDoorGD
import Derived.KernelRfl
namespace Go.Proofs.YtiigjiaodmlfnaaGreatDoor.Am.G
open Go Go.Proofs.YtiigjiaodmlfnaaGreatDoor Go.Proofs.YtiigjiaodmlfnaaGreatDoor.Am Go.RowKit Go.Proofs
set_option maxRecDepth 1000000
set_option maxHeartbeats 400000000
set_option linter.unusedVariables false
noncomputable section
theorem seg15 : gcS [0, 3, 5, 6, 7, 8, 11, 13, 15, 17, 8623, 9551, 9555, 9566, 9567, 9568, 9569, 9766, 9767, 9768, 9769, 9770, 9775, 9776, 9781, 9782, 9787, 9788, 9791, 9792, 9991, 9998, 9999, 10004, 10005, 10006, 10007, 10008, 10049, 10103, 10150, 10164, 10170, 10193, 10198, 10202, 10203, 10206, 10248] (runF X0 10167 S15) = S16 := by as_aux_lemma => kernel_rfl
end
end Go.Proofs.YtiigjiaodmlfnaaGreatDoor.Am.G
