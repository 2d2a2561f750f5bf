/-
  The whole run.
-/
import Derived.Test.YtiafljgjhocodaaGreatGS0
import Derived.Test.YtiafljgjhocodaaGreatGS1
import Derived.Test.YtiafljgjhocodaaGreatGS2
import Derived.Test.YtiafljgjhocodaaGreatGS3
import Derived.Test.YtiafljgjhocodaaGreatGS4
import Derived.Test.YtiafljgjhocodaaGreatGS5
import Derived.Test.YtiafljgjhocodaaGreatGS6
import Derived.Test.YtiafljgjhocodaaGreatGS7
import Derived.Test.YtiafljgjhocodaaGreatGS8
import Derived.Test.YtiafljgjhocodaaGreatGS9
import Derived.Test.YtiafljgjhocodaaGreatGS10
import Derived.Test.YtiafljgjhocodaaGreatGS11
import Derived.Test.YtiafljgjhocodaaGreatGS12
import Derived.Test.YtiafljgjhocodaaGreatGS13
import Derived.Test.YtiafljgjhocodaaGreatGS14
import Derived.Test.YtiafljgjhocodaaGreatGS15
import Derived.Test.YtiafljgjhocodaaGreatGS16
import Derived.Test.YtiafljgjhocodaaGreatGC0
import Derived.Test.YtiafljgjhocodaaGreatGC1
import Derived.Test.YtiafljgjhocodaaGreatGC2
import Derived.Test.YtiafljgjhocodaaGreatGC3
import Derived.DataShut
namespace Go.Proofs.YtiafljgjhocodaaGreat.Am.G
open Go Go.Proofs.YtiafljgjhocodaaGreat Go.Proofs.YtiafljgjhocodaaGreat.Am Go.RowKit Go.Proofs
set_option maxRecDepth 1000000
set_option maxHeartbeats 400000000
set_option linter.unusedVariables false
noncomputable section
theorem low (h0 : Right Tryz.prog X0) : Ends Tryz.prog X0 (setS 1 (mkA lo64 0) S17) (.bool true) := Ends.run h0 (n := 2000) (by as_aux_lemma => kernel_rfl)
theorem high (h0 : Right Tryz.prog X0) : Ends Tryz.prog X0 (setS 1 (mkA 4097 hi64) S17) (.bool true) := Ends.run h0 (n := 2000) (by as_aux_lemma => kernel_rfl)
theorem parts (h0 : Right Tryz.prog X0) : Ends Tryz.prog X0 S17 (.bool true) := by
  refine Ends.split (k := 1) (lo := lo64) (hi := hi64) (by as_aux_lemma => kernel_rfl) [(lo64, 0), (1, 1024), (1025, 2048), (2049, 3072), (3073, 4096), (4097, hi64)] (cov_ok (by as_aux_lemma => kernel_rfl)) fun c hc => ?_
  simp only [List.mem_cons, List.not_mem_nil, or_false] at hc
  rcases hc with rfl | rfl | rfl | rfl | rfl | rfl
  · exact low h0
  · exact cls0 h0
  · exact cls1 h0
  · exact cls2 h0
  · exact cls3 h0
  · exact high h0
theorem fits64 (a : Int) (h : (Lit.int .i64 a).wf = true) : lo64 ≤ a ∧ a ≤ hi64 := by
  have := (Lit.wf_int_iff .i64 a).1 h
  have h1 : IntKind.i64.min = lo64 := by decide
  have h2 : IntKind.i64.max = hi64 := by decide
  omega
theorem law_true (h0 : Right Tryz.prog X0) (a b c : Int) (ha : (Lit.int .i64 a).wf = true) (hb : (Lit.int .i64 b).wf = true) (w : World) : Calls Tryz.prog 3 #[.int .i64 a, .int .i64 b, .int .i64 c] w fun e w' => e = .returned (.bool true) ∧ Below w.heap.size w w' := by
  have h1 := fits64 a ha
  have h2 := fits64 b hb
  refine Ends.yes (X := X0) h0 (g := 3) (args := [.rng lo64 hi64, .rng lo64 hi64, .unk]) (args' := [.int .i64 a, .int .i64 b, .int .i64 c]) (by as_aux_lemma => kernel_rfl) (.cons (.rng h1.1 h1.2) (.cons (.rng h2.1 h2.2) (.cons (.unk _) .nil))) ?_ w
  show Ends Tryz.prog X0 S0 _
  exact (Ends.after (Leads.part h0 seg0) (Ends.after (Leads.part h0 seg1) (Ends.after (Leads.part h0 seg2) (Ends.after (Leads.part h0 seg3) (Ends.after (Leads.part h0 seg4) (Ends.after (Leads.part h0 seg5) (Ends.after (Leads.part h0 seg6) (Ends.after (Leads.part h0 seg7) (Ends.after (Leads.part h0 seg8) (Ends.after (Leads.part h0 seg9) (Ends.after (Leads.part h0 seg10) (Ends.after (Leads.part h0 seg11) (Ends.after (Leads.part h0 seg12) (Ends.after (Leads.part h0 seg13) (Ends.after (Leads.part h0 seg14) (Ends.after (Leads.part h0 seg15) (Ends.after (Leads.part h0 seg16) (parts h0))))))))))))))))))
end
end Go.Proofs.YtiafljgjhocodaaGreat.Am.G
