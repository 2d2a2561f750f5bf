/-
  Printed by a program of this session's own out of the program's form: plain functions, and proofs that the calls do what these say.
-/
import Derived.Test.YteoklfcffckkkaaGreatBase
namespace Go.Proofs.YteoklfcffckkkaaGreat.PQ
open Go.RowKit Go.Proofs.YteoklfcffckkkaaGreatW.PrintWords Go.Proofs.YteoklfcffckkkaaGreatW.PrintLast Go.Proofs.YteoklfcffckkkaaGreatW.PrintMore
attribute [local go_sem] max2_int min2_int max_two min_two max_three min_three max_four min_four   
set_option linter.unusedVariables false
set_option linter.unusedSimpArgs false
theorem midlen {l : List Int} {n : Nat} (h : n ≤ l.length) : (List.drop (Int.toNat 5) (List.take n l)).length = n - 5 := by
  simp only [List.length_drop, List.length_take, Int.reduceToNat]
  omega
end Go.Proofs.YteoklfcffckkkaaGreat.PQ
