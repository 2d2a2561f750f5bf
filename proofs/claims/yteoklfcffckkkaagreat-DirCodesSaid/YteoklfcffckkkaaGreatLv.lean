/-
  Printed by a program of this session's own out of the program's form: plain functions, and proofs that the calls do what these say.
-/
import Derived.Test.YteoklfcffckkkaaGreatBase
import Derived.Test.YteoklfcffckkkaaGreatOc4
namespace Go.Proofs.YteoklfcffckkkaaGreat.PQ
open Go.RowKit Go.Proofs.YteoklfcffckkkaaGreatW.PrintWords Go.Proofs.YteoklfcffckkkaaGreatW.PrintLast Go.Proofs.YteoklfcffckkkaaGreatW.PrintMore
attribute [local go_sem] max2_int min2_int max_two min_two max_three min_three max_four min_four   
set_option linter.unusedVariables false
set_option linter.unusedSimpArgs false
def ashlarlaw15_lives.f : Option Bool := some true
theorem ashlarlaw15_lives.calls (r : Bool) (w : World) (h : ashlarlaw15_lives.f = some r) :
    Calls Tryz.prog 9 #[] w fun e w' => e = .returned (.bool r) ∧ Below w.heap.size w w' := by
  cases h
  exact Run.lives_calls w
end Go.Proofs.YteoklfcffckkkaaGreat.PQ
