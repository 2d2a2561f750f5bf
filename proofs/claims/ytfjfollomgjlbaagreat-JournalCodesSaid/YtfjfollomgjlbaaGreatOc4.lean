/-
  The run of lives, the journal's: it answers true, whatever the world; what was there is as it was.
-/
import Derived.Test.YtfjfollomgjlbaaGreatOc3
import Derived.Test.YtfjfollomgjlbaaGreatGZ
set_option linter.unusedVariables false
set_option linter.unusedSimpArgs false
namespace Go.Proofs.YtfjfollomgjlbaaGreat.Run
open Go Go.Proofs.YtfjfollomgjlbaaGreat.Am Go.RowKit Go.Proofs
theorem lives_calls (w : World) : Calls Tryz.prog 13 #[] w fun e w' => e = .returned (.bool true) ∧ Below w.heap.size w w' := Go.Proofs.YtfjfollomgjlbaaGreat.Am.G.lives_true x0_right w
end Go.Proofs.YtfjfollomgjlbaaGreat.Run
