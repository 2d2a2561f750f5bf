/-
  The end of the run.
-/
import Derived.Test.YtiigjiaodmlfnaaGreatDoorGD
import Derived.KernelRfl
namespace Go.Proofs.YtiigjiaodmlfnaaGreatDoor.Am.G
open Go Go.Proofs.YtiigjiaodmlfnaaGreatDoor Go.Proofs.YtiigjiaodmlfnaaGreatDoor.Am Go.RowKit Go.Proofs
set_option maxRecDepth 1000000
set_option maxHeartbeats 400000000
set_option linter.unusedVariables false
noncomputable section
theorem seg17 : doneT (runF X0 7229 S17) = true := by as_aux_lemma => kernel_rfl
end
end Go.Proofs.YtiigjiaodmlfnaaGreatDoor.Am.G
