/-
  A part of the run.
-/
import Derived.Test.YtfjfollomgjlbaaGreatGD
import Derived.KernelRfl
set_option linter.unusedVariables false
set_option linter.unusedSimpArgs false
namespace Go.Proofs.YtfjfollomgjlbaaGreat.Am.G
open Go Go.Proofs.YtfjfollomgjlbaaGreat.Am Go.RowKit Go.Proofs
set_option maxRecDepth 1000000
set_option maxHeartbeats 400000000
noncomputable section
theorem seg8 : gcS [0, 1, 2, 5, 7, 9, 11, 13, 15, 16, 17, 18, 19, 24, 25, 30, 31, 36, 37, 42, 43, 46, 47, 1460, 1461, 6706, 6707, 6942, 6990, 6992, 6993, 7000, 7008, 7010, 7011, 7018, 7022, 7179, 7180, 7181, 7182, 7186, 7187, 7195, 7196, 7223, 7289, 7290, 7291, 7292] (runF X0 12000 S8) = S9 := by as_aux_lemma => kernel_rfl
end
end Go.Proofs.YtfjfollomgjlbaaGreat.Am.G
