/-
  What the number of things is between these bounds, and where the map begins.
-/
import Derived.Test.YtiafljgjhocodaaGreatGD
import Derived.KernelRfl
namespace Go.Proofs.YtiafljgjhocodaaGreat.Am.G
open Go Go.Proofs.YtiafljgjhocodaaGreat Go.Proofs.YtiafljgjhocodaaGreat.Am Go.RowKit Go.Proofs
set_option maxRecDepth 1000000
set_option maxHeartbeats 400000000
set_option linter.unusedVariables false
noncomputable section
theorem cls0 (h0 : Right Tryz.prog X0) : Ends Tryz.prog X0 (setS 1 (mkA 1 1024) S17) (.bool true) :=
  Ends.splitRun h0 (k := 0) (lo := lo64) (hi := hi64) (by as_aux_lemma => kernel_rfl) [(lo64, -1), (0, 0), (1, 1), (2, 2), (3, 3), (4, 4), (5, 5), (6, 6), (7, 7), (8, 8), (9, 9), (10, 10), (11, 11), (12, 12), (13, 13), (14, 41), (42, hi64)] (by as_aux_lemma => kernel_rfl) (n := 2000) (by as_aux_lemma => kernel_rfl)
end
end Go.Proofs.YtiafljgjhocodaaGreat.Am.G
