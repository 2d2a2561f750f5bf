/-
  The run of lives, the journal's: it answers true, whatever the world; what was there is as it was.
-/
import Derived.Test.YteoklfcffckkkaaGreatOc3
import Derived.Test.YteoklfcffckkkaaGreatGZ
set_option linter.unusedVariables false
set_option linter.unusedSimpArgs false
namespace Go.Proofs.YteoklfcffckkkaaGreat.Run
open Go Go.Proofs.YteoklfcffckkkaaGreat.Am Go.RowKit Go.Proofs
theorem lives_calls (w : World) : Calls Tryz.prog 9 #[] w fun e w' => e = .returned (.bool true) ∧ Below w.heap.size w w' := Go.Proofs.YteoklfcffckkkaaGreat.Am.G.lives_true x0_right w
end Go.Proofs.YteoklfcffckkkaaGreat.Run
