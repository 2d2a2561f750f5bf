/-
  The machine's four oracles are right.
-/
import Derived.Test.YteoklfcffckkkaaGreatOc2
import Derived.Test.YteoklfcffckkkaaGreatNmOk
import Derived.Test.YteoklfcffckkkaaGreatGD
import Derived.Eval
import Derived.Test.YteoklfcffckkkaaGreatChecked
set_option linter.unusedVariables false
set_option linter.unusedSimpArgs false
namespace Go.Proofs.YteoklfcffckkkaaGreat.Run
open Go Go.Proofs.YteoklfcffckkkaaGreat.Am Go.RowKit Go.Proofs
theorem bare_right : Right Tryz.prog ⟨mkC Tryz.prog, .e⟩ := ⟨mkC_enters Tryz.prog, (fun g o h => by rw [T.get_e] at h; cases h), Tryz.checked.mixed⟩
theorem x0_right : Right Tryz.prog Go.Proofs.YteoklfcffckkkaaGreat.Am.G.X0 := ((((bare_right.with (.inl crc_ok)).with (.inl xor_ok)).with (.inl put_ok)).with (.inl get_ok)).with (.inl name_ok)
end Go.Proofs.YteoklfcffckkkaaGreat.Run
