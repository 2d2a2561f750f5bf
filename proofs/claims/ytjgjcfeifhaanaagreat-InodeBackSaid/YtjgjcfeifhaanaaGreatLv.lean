/-
  Printed by a program of this session's own out of the program's form: plain functions, and proofs that the calls do what these say.
-/
import Derived.Test.YtjgjcfeifhaanaaGreatBase
import Derived.Test.YtjgjcfeifhaanaaGreatOc4
namespace Go.Proofs.YtjgjcfeifhaanaaGreat.PQ
open Go.RowKit Go.Proofs.YtjgjcfeifhaanaaGreatW.PrintWords Go.Proofs.YtjgjcfeifhaanaaGreatW.PrintLast Go.Proofs.YtjgjcfeifhaanaaGreatW.PrintMore
attribute [local go_sem] max2_int min2_int max_two min_two max_three min_three max_four min_four   
set_option linter.unusedVariables false
set_option linter.unusedSimpArgs false
def ashlarlaw13_lives.f : Option Bool := some true
theorem ashlarlaw13_lives.calls (r : Bool) (w : World) (h : ashlarlaw13_lives.f = some r) :
    Calls Tryz.prog 9 #[] w fun e w' => e = .returned (.bool r) ∧ Below w.heap.size w w' := by
  cases h
  exact Run.lives_calls w
end Go.Proofs.YtjgjcfeifhaanaaGreat.PQ
