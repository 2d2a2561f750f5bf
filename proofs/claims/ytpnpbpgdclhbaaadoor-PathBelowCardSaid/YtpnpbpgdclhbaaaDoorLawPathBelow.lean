/-
  The statement PathBelow of package path: the Go function ashlarlaw14.PathBelow returns true for every input, its arguments as they were; the row and its tied card. Conditions: the two tables of unicode/utf8 that the row lists start as the program's text lays them (the card ties this).
-/
import Derived.Test.YtpnpbpgdclhbaaaDoorL6
import Derived.Test.YtpnpbpgdclhbaaaDoorO1
import Derived.Test.YtpnpbpgdclhbaaaDoorCards
import Derived.Test.YtpnpbpgdclhbaaaDoorTie
import Derived.WalkKit
import Derived.ProofKit
import Derived.OpenShut
import Derived.ShutString
import Derived.ChangeOld
import Derived.Below
import Derived.SizedLaws
import Derived.LaidMore
import Derived.Lay
import Derived.Carry
import Derived.SevenTiedAt
import Derived.Stop.Joined
namespace Go.Proofs.YtpnpbpgdclhbaaaDoor.pathBelow
open Go.ChangeShapes Go.WideShapes Go.ChangeAt Go.RowKit
open Go.ChangeMaps (open_string shut_string)
open Go.Proofs.YtpnpbpgdclhbaaaDoorW.PrintWords
theorem own : ownKnob Tryd.prog.godebug = none := by kernel_rfl
set_option maxRecDepth 100000 in
theorem lifted (os : Os) (started : os.Started) (H : Type) (enc : TypeId × Value → H) :
    ReturnsInHanded {} Tryd.checked os 8 .any (fun w args => (Rows.pathBelowSpec.pre enc Tryd.prog Tryd.f8 Rows.pathBelowRow.domain false w args ∧ laidMetH Tryd.prog Rows.pathBelowRow.laid w) ∧ sizedMet enc Tryd.prog Tryd.f8 (OpenSpec.ofChange Rows.pathBelowSpec) false w args)
      (Rows.pathBelowSpec.post enc Tryd.prog Tryd.f8 false true false false) := by
  refine returnsInHanded_of_change_and (C := Tryd.checked) (X := fun w _ => laidMetH Tryd.prog Rows.pathBelowRow.laid w) (fun _ _ _ hh h => h.of_heap hh) own started (by kernel_rfl) Tryd.func8
    (ChangeSpec.witness_shaped (enc := enc) (C := Tryd.checked) (os := os) (X := fun w _ => laidMetH Tryd.prog Rows.pathBelowRow.laid w) false (World.laidAll Tryd.prog os Rows.pathBelowRow.laid) #[.slice none 0 0, .slice none 0 0, .slice none 0 0] 8 (World.laidAll_os _ _ _)
      (World.shaped_of_ZipB (by kernel_rfl) (by kernel_rfl)) (by kernel_rfl) (by kernel_rfl) (by kernel_rfl)
      (by rw [MakeChecks.laidMetH_plain _ _ _ (by kernel_rfl)]; exact laidMet_laidAll _ (by kernel_rfl) (by kernel_rfl))) ?_
  intro W base args ds gs before hval0 hW hcnd hsz0 _ _
  have hsz : (DataW.weightsEach Tryd.prog (Tryd.f8.params.toList ++ Rows.pathBelowSpec.plain.varTypes Tryd.prog) (ds ++ gs)).all (· ≤ reachBytes) = true := hsz0
  have hval : ∀ (j : Nat) t v, Tryd.f8.params[j]? = some t → args[j]? = some v → Value.okWide Tryd.prog W .any base t v := hval0
  have hW' := hW
  obtain ⟨p, q, hA0, hV, rfl, hfz, hnd⟩ := hW
  have hA : DataW.TrodAll enc Tryd.prog W 0 (fun _ => true) true Tryd.f8.params.toList args.toList ds p := hA0
  rw [Tryd.params8] at hA hval hsz
  obtain ⟨v0, vs0, d0, ds0, p0, q0, hargs, rfl, rfl, h0, r0⟩ := trodAll_cons hA
  obtain ⟨v1, vs1, d1, ds1, p1, q1, hargs1, rfl, rfl, h1, r1⟩ := trodAll_cons r0
  obtain ⟨v2, vs2, d2, ds2, p2, q2, hargs2, rfl, rfl, h2, r2⟩ := trodAll_cons r1
  obtain ⟨rfl, rfl, rfl⟩ := trodAll_nil r2
  subst hargs1
  subst hargs2
  obtain rfl : args = #[v0, v1, v2] := by cases args; simp_all
  obtain ⟨rfl, rfl⟩ := trodVars_none hV
  have t0 := h0
  obtain ⟨A0, c0, l0, rfl, le0, y0, big0, small0⟩ := PQ.open_names (hval 0 26 v0 rfl rfl) h0 (fun n hn => by simpa using List.all_eq_true.1 hsz n (DataW.weights_mem_each (j := 0) (t := 26) rfl rfl n hn))
  have t1 := h1
  obtain ⟨A1, c1, l1, rfl, le1, y1, big1, small1⟩ := PQ.open_names (hval 1 26 v1 rfl rfl) h1 (fun n hn => by simpa using List.all_eq_true.1 hsz n (DataW.weights_mem_each (j := 1) (t := 26) rfl rfl n hn))
  have t2 := h2
  obtain ⟨A2, c2, l2, rfl, le2, y2, big2, small2⟩ := PQ.open_names (hval 2 26 v2 rfl rfl) h2 (fun n hn => by simpa using List.all_eq_true.1 hsz n (DataW.weights_mem_each (j := 2) (t := 26) rfl rfl n hn))
  simp only [List.append_nil] at hW'
  have lt0 : ∀ x ∈ p0, x.block < W.heap.size := fun x hx => by simpa using hW'.lt x (by simp [hx])
  have args0 : ∀ (W' : World), Below W.heap.size W W' → DataW.Trod enc Tryd.prog W' 0 (fun b => decide (b < W.heap.size)) true 26 (.slice A0 l0.length c0) d0 p0 :=
    fun W' hn => Below.trod PQ.laidOut (by kernel_rfl) (of_decide_eq_true (by kernel_rfl)) t0 hn lt0
  have lt1 : ∀ x ∈ p1, x.block < W.heap.size := fun x hx => by simpa using hW'.lt x (by simp [hx])
  have args1 : ∀ (W' : World), Below W.heap.size W W' → DataW.Trod enc Tryd.prog W' 0 (fun b => decide (b < W.heap.size)) true 26 (.slice A1 l1.length c1) d1 p1 :=
    fun W' hn => Below.trod PQ.laidOut (by kernel_rfl) (of_decide_eq_true (by kernel_rfl)) t1 hn lt1
  have lt2 : ∀ x ∈ p2, x.block < W.heap.size := fun x hx => by simpa using hW'.lt x (by simp [hx])
  have args2 : ∀ (W' : World), Below W.heap.size W W' → DataW.Trod enc Tryd.prog W' 0 (fun b => decide (b < W.heap.size)) true 26 (.slice A2 l2.length c2) d2 p2 :=
    fun W' hn => Below.trod PQ.laidOut (by kernel_rfl) (of_decide_eq_true (by kernel_rfl)) t2 hn lt2
  clear hA0 hval0 hsz0 hsz
  obtain ⟨k, hk⟩ := PQ.pathBelow_pure l0 l1 l2 big0 big1 big2
  refine (PQ.ashlarlaw14_PathBelow.calls k A0 c0 l0 A1 c1 l1 A2 c2 l2 true W y0 le0 y1 le1 y2 le2 hk).mono fun e W' ⟨he, bel⟩ => ?_
  subst he
  exact ⟨_, rfl, _, _, _, [], _, [], hW', trodAll_mk1 (shut_bool Tryd.underlying4 _), (trodAll_cons_mk (args0 _ bel) (trodAll_cons_mk (args1 _ bel) (trodAll_cons_mk (args2 _ bel) trodAll_mk0))), rfl, bel.frame _, fun h => by cases h⟩
theorem said : Rows.PathBelowSaid :=
  OpenClaim.holds_of_wide 8 Tryd.f8 rfl rfl rfl rfl rfl rfl rfl ⟨rfl, rfl, rfl, rfl, rfl⟩ rfl rfl rfl rfl rfl (by kernel_rfl) Tryd.func8 (by kernel_rfl)
    (of_decide_eq_true (by kernel_rfl)) (by unfold Func.isWrapper; first | (rw [if_pos (by decide +kernel)]; kernel_rfl) | (rw [if_neg (by decide +kernel)]; exact ⟨rfl, rfl⟩))
    (fun os started H enc _ => lifted os started H enc)
theorem plain (f : FuncId) (fn : Func) (hf : Tryd.pinned.checked.prog.funcNamed "ashlar/ashlarlaw14.PathBelow" = some f) (hfn : Tryd.pinned.checked.prog.funcs[f]? = some fn) :
    false = Tryd.pinned.checked.prog.looks [] ∧ ∀ (j : Nat) t, fn.params[j]? = some t → Tryd.pinned.checked.prog.wantsStandIn t = false := by
  obtain rfl : f = 8 := Option.some.inj ((show Tryd.prog.funcNamed "ashlar/ashlarlaw14.PathBelow" = some 8 by kernel_rfl).symm.trans hf) |>.symm
  obtain rfl : fn = Tryd.f8 := (Option.some.inj (Tryd.func8.symm.trans hfn)).symm
  refine ⟨by kernel_rfl, fun j t ht => ?_⟩
  rw [Tryd.params8] at ht
  have hm : t ∈ [26, 26, 26] := by simpa using Array.mem_of_getElem? ht
  have hall : ([26, 26, 26].all fun u => !Tryd.prog.wantsStandIn u) = true := by kernel_rfl
  exact (show Tryd.prog.wantsStandIn t = false by simpa using List.all_eq_true.1 hall t hm)
end Go.Proofs.YtpnpbpgdclhbaaaDoor.pathBelow
namespace Go.Proofs.YtpnpbpgdclhbaaaDoor
/-- The tied card of the statement. -/
theorem pathBelow_card : Rows.PathBelowCardSaid :=
  Claim7.holds_tied_plain_at .later [] _ _ _ _ pathBelow.said (fun _ h => by cases h) (by kernel_rfl) (fun _ h => by cases h) pathBelow_row_tie rfl ⟨rfl, rfl⟩ (by kernel_rfl) rfl pathBelow.plain (by kernel_rfl)
#print axioms pathBelow_card
end Go.Proofs.YtpnpbpgdclhbaaaDoor
