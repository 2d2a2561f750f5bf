/-
  A part of the run.
-/
import Derived.Test.YtfjfollomgjlbaaGreatGD
import Derived.KernelRfl
set_option linter.unusedVariables false
set_option linter.unusedSimpArgs false
namespace Go.Proofs.YtfjfollomgjlbaaGreat.Am.G
open Go Go.Proofs.YtfjfollomgjlbaaGreat.Am Go.RowKit Go.Proofs
set_option maxRecDepth 1000000
set_option maxHeartbeats 400000000
noncomputable section
theorem seg9 : gcS [0, 1, 2, 5, 7, 9, 11, 13, 15, 16, 17, 18, 19, 24, 25, 30, 31, 36, 37, 42, 43, 46, 47, 1460, 1461, 6706, 6707, 6942, 6990, 6992, 6993, 7000, 7602, 7605, 7908, 7909, 7910, 7917, 7918, 7919, 7920, 7921, 7926, 7927, 7932, 7933, 7938, 7939, 7944, 7945, 7948, 7949, 8167, 8256, 8257, 8261, 8265] (runF X0 12000 S9) = S10 := by as_aux_lemma => kernel_rfl
end
end Go.Proofs.YtfjfollomgjlbaaGreat.Am.G
