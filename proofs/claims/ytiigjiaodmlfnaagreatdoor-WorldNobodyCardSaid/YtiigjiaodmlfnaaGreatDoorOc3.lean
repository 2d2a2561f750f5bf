/-
  The machine's four oracles are right.
-/
import Derived.Test.YtiigjiaodmlfnaaGreatDoorOc2
import Derived.Test.YtiigjiaodmlfnaaGreatDoorNmOk
import Derived.Test.YtiigjiaodmlfnaaGreatDoorNaN
import Derived.Test.YtiigjiaodmlfnaaGreatDoorGD
import Derived.Eval
import Derived.Test.YtiigjiaodmlfnaaGreatDoorChecked
set_option linter.unusedVariables false
set_option linter.unusedSimpArgs false
namespace Go.Proofs.YtiigjiaodmlfnaaGreatDoor.Run
open Go Go.Proofs.YtiigjiaodmlfnaaGreatDoor.Am Go.RowKit Go.Proofs
theorem bare_right : Right Tryz.prog ⟨mkC Tryz.prog, .e⟩ := ⟨mkC_enters Tryz.prog, (fun g o h => by rw [T.get_e] at h; cases h), Tryz.checked.mixed⟩
theorem x0_right : Right Tryz.prog Go.Proofs.YtiigjiaodmlfnaaGreatDoor.Am.G.X0 := ((((((bare_right.with (.inl crc_ok)).with (.inl xor_ok)).with (.inl put_ok)).with (.inl get_ok)).with (.inl name_ok)).with (.inl nan_ok)).with (.inl index_ok)
end Go.Proofs.YtiigjiaodmlfnaaGreatDoor.Run
