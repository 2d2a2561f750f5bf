/-
  The run of lives, the journal's: it answers true, whatever the world; what was there is as it was.
-/
import Derived.Test.YtjgjcfeifhaanaaGreatOc3
import Derived.Test.YtjgjcfeifhaanaaGreatGZ
set_option linter.unusedVariables false
set_option linter.unusedSimpArgs false
namespace Go.Proofs.YtjgjcfeifhaanaaGreat.Run
open Go Go.Proofs.YtjgjcfeifhaanaaGreat.Am Go.RowKit Go.Proofs
theorem lives_calls (w : World) : Calls Tryz.prog 9 #[] w fun e w' => e = .returned (.bool true) ∧ Below w.heap.size w w' := Go.Proofs.YtjgjcfeifhaanaaGreat.Am.G.lives_true x0_right w
end Go.Proofs.YtjgjcfeifhaanaaGreat.Run
