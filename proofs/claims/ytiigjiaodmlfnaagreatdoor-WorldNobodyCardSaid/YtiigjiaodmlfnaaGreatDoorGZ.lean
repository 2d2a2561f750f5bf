/-
  The whole run.
-/
import Derived.Test.YtiigjiaodmlfnaaGreatDoorGS0
import Derived.Test.YtiigjiaodmlfnaaGreatDoorGS1
import Derived.Test.YtiigjiaodmlfnaaGreatDoorGS2
import Derived.Test.YtiigjiaodmlfnaaGreatDoorGS3
import Derived.Test.YtiigjiaodmlfnaaGreatDoorGS4
import Derived.Test.YtiigjiaodmlfnaaGreatDoorGS5
import Derived.Test.YtiigjiaodmlfnaaGreatDoorGS6
import Derived.Test.YtiigjiaodmlfnaaGreatDoorGS7
import Derived.Test.YtiigjiaodmlfnaaGreatDoorGS8
import Derived.Test.YtiigjiaodmlfnaaGreatDoorGS9
import Derived.Test.YtiigjiaodmlfnaaGreatDoorGS10
import Derived.Test.YtiigjiaodmlfnaaGreatDoorGS11
import Derived.Test.YtiigjiaodmlfnaaGreatDoorGS12
import Derived.Test.YtiigjiaodmlfnaaGreatDoorGS13
import Derived.Test.YtiigjiaodmlfnaaGreatDoorGS14
import Derived.Test.YtiigjiaodmlfnaaGreatDoorGS15
import Derived.Test.YtiigjiaodmlfnaaGreatDoorGS16
import Derived.Test.YtiigjiaodmlfnaaGreatDoorGS17
namespace Go.Proofs.YtiigjiaodmlfnaaGreatDoor.Am.G
open Go Go.Proofs.YtiigjiaodmlfnaaGreatDoor Go.Proofs.YtiigjiaodmlfnaaGreatDoor.Am Go.RowKit Go.Proofs
set_option maxRecDepth 1000000
set_option maxHeartbeats 400000000
set_option linter.unusedVariables false
noncomputable section
theorem law_true (h0 : Right Tryz.prog X0) {args' : List Value} (ha : RL (fun _ => none) [.agg [.one, .one, .one, .one, .one, .one, .one, .one]] args') (w : World) : Calls Tryz.prog 3 args'.toArray w fun e w' => e = .returned (.bool true) ∧ Below w.heap.size w w' := by
  refine Ends.yes (X := X0) h0 (g := 3) (args := [.agg [.one, .one, .one, .one, .one, .one, .one, .one]]) (by as_aux_lemma => kernel_rfl) ha ?_ w
  show Ends Tryz.prog X0 S0 _
  exact (Ends.after (Leads.part h0 seg0) (Ends.after (Leads.part h0 seg1) (Ends.after (Leads.part h0 seg2) (Ends.after (Leads.part h0 seg3) (Ends.after (Leads.part h0 seg4) (Ends.after (Leads.part h0 seg5) (Ends.after (Leads.part h0 seg6) (Ends.after (Leads.part h0 seg7) (Ends.after (Leads.part h0 seg8) (Ends.after (Leads.part h0 seg9) (Ends.after (Leads.part h0 seg10) (Ends.after (seg11 h0) (Ends.after (Leads.part h0 seg12) (Ends.after (seg13 h0) (Ends.after (Leads.part h0 seg14) (Ends.after (Leads.part h0 seg15) (Ends.after (seg16 h0) (Ends.run h0 seg17))))))))))))))))))
end
end Go.Proofs.YtiigjiaodmlfnaaGreatDoor.Am.G
