/-
  The machine's four oracles are right.
-/
import Derived.Test.YteaacjabcfopgaaGreatOc2
import Derived.Test.YteaacjabcfopgaaGreatGD
import Derived.Eval
import Derived.Test.YteaacjabcfopgaaGreatChecked
set_option linter.unusedVariables false
set_option linter.unusedSimpArgs false
namespace Go.Proofs.YteaacjabcfopgaaGreat.Run
open Go Go.Proofs.YteaacjabcfopgaaGreat.Am Go.RowKit Go.Proofs
theorem bare_right : Right Tryz.prog ⟨mkC Tryz.prog, .e⟩ := ⟨mkC_enters Tryz.prog, (fun g o h => by rw [T.get_e] at h; cases h), Tryz.checked.mixed⟩
theorem x0_right : Right Tryz.prog Go.Proofs.YteaacjabcfopgaaGreat.Am.G.X0 := (((bare_right.with (.inl crc_ok)).with (.inl xor_ok)).with (.inl put_ok)).with (.inl get_ok)
end Go.Proofs.YteaacjabcfopgaaGreat.Run
