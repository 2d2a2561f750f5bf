/-
  What the calls of Read and Write answer, and leave.
-/
import Derived.Test.YteaacjabcfopgaaGreatGA
import Derived.KernelRfl
namespace Go.Proofs.YteaacjabcfopgaaGreat.Am.G
open Go Go.Proofs.YteaacjabcfopgaaGreat Go.Proofs.YteaacjabcfopgaaGreat.Am Go.RowKit Go.Proofs
set_option maxRecDepth 1000000
set_option maxHeartbeats 400000000
set_option linter.unusedVariables false
noncomputable section
end
end Go.Proofs.YteaacjabcfopgaaGreat.Am.G
