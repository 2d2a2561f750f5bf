/-
  What math.NaN answers: one cell.
-/
import Derived.Test.YtiigjiaodmlfnaaGreatDoorOc
import Derived.Laws.Externs
import Derived.KernelRfl
set_option linter.unusedVariables false
set_option linter.unusedSimpArgs false
namespace Go.Proofs.YtiigjiaodmlfnaaGreatDoor.Run
open Go Go.Proofs.YtiigjiaodmlfnaaGreatDoor.Am Go.RowKit Go.Proofs Go.Proofs.YtiigjiaodmlfnaaGreatDoor.PQ
theorem frombits_runs (args : Array Value) (w : World) : (callFunc 261 args).run Tryz.prog w = ((Extern.MathFloatBits.float64frombits args).run Tryz.prog w).andThen fun v w' => .ok (.value v) w' :=
  run_callFunc_extern Tryz.func261 (by kernel_rfl) (by kernel_rfl) (by kernel_rfl) (by kernel_rfl) args w
theorem frombits_val (n : Int) (w : World) : ((Extern.MathFloatBits.float64frombits #[.int .u64 n]).run Tryz.prog w).andThen (fun v w' => .ok (.value v) w') = .ok (Next.value (.float .f64 n.toNat)) w := rfl
set_option maxRecDepth 1000000 in
theorem nan_calls (w : World) : Calls Tryz.prog 199 #[] w fun e w' => ∃ v : Value, e = .returned v ∧ v.oneCell' = true ∧ Below w.heap.size w w' := by
  go_enter Tryz.func199, Tryz.ntmps199
  go_wp2
  rw [frombits_runs, frombits_val, Oper.upon_value]
  generalize Int.toNat 9221120237041090561 = nn
  go_wp2
  go_ret
  exact ⟨_, rfl, rfl, by repeat (first | (with_reducible first | exact Below.refl _ _ | apply below_alloc | apply pw_below_drewN | apply below_drew1))⟩
theorem nan_ok : OrcOk Tryz.prog 199 oOne := by
  intro w0 φ h h' w args args' v hR ha ho
  unfold oOne at ho
  split at ho
  · cases ha
    cases ho
    refine (nan_calls w).mono fun e w' hh => ?_
    obtain ⟨v, rfl, h1, hb⟩ := hh
    exact ⟨φ, _, Phi.le_refl φ, rfl, hR.below hb, .sgl h1⟩
  · cases ho
end Go.Proofs.YtiigjiaodmlfnaaGreatDoor.Run
