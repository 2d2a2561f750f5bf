/-
  The statement WorldNobody of package world: the Go function ashlarlaw17.WorldNobody returns true for every input, its arguments as they were; the row and its tied card. Conditions: the two tables of unicode/utf8 that the row lists start as the program's text lays them (the card ties this).
-/
import Derived.Test.YtiigjiaodmlfnaaGreatDoorGZ
import Derived.Test.YtiigjiaodmlfnaaGreatDoorOc3
import Derived.Test.YtiigjiaodmlfnaaGreatDoorCards
import Derived.Test.YtiigjiaodmlfnaaGreatDoorTie
import Derived.WalkKit
import Derived.ProofKit
import Derived.OpenShut
import Derived.ShutString
import Derived.ChangeOld
import Derived.Below
import Derived.SizedLaws
import Derived.LaidMore
import Derived.Lay
import Derived.SevenTiedAt
import Derived.Stop.Joined
set_option linter.unusedVariables false
set_option linter.unusedSimpArgs false
namespace Go.Proofs.YtiigjiaodmlfnaaGreatDoor.worldNobody
open Go.ChangeShapes Go.WideShapes Go.ChangeAt Go.RowKit Go.Proofs.YtiigjiaodmlfnaaGreatDoor.Am
open Go.ChangeMaps (open_string shut_string)
theorem own : ownKnob Tryz.prog.godebug = none := by kernel_rfl
theorem laidOut : laidOutB Tryz.prog = true := by kernel_rfl
set_option maxRecDepth 100000 in
theorem step_open {H : Type} {enc : TypeId × Value → H} {w : World} {base : Nat} {spare : Nat → Bool} {held : Bool} {fuel : Nat} {cs : List Value} {x : DataW H × List MemPlace} (h : DataW.trod enc Tryz.prog w base spare held fuel 24 cs = some x) :
    RL (fun _ => none) [.one, .one, .one, .one, .one, .one, .one, .one] cs ∧ ∀ v ∈ cs, v.oneCell' = true := by
  obtain ⟨xs, m, rfl, rfl, hl, hn, hf⟩ := DataW.trod_struct Tryz.underlying24 h
  have hl : cs.length = 8 := hl.trans (by kernel_rfl)
  have e3 : Tryz.prog.cellsOf 3 = 1 := by kernel_rfl
  have e9 : Tryz.prog.cellsOf 9 = 1 := by kernel_rfl
  have e22 : Tryz.prog.cellsOf 22 = 1 := by kernel_rfl
  have o3 : ∀ {c : Value} {y : DataW H × List MemPlace} {k : Nat}, DataW.trod enc Tryz.prog w base spare held k 3 [c] = some y → c.oneCell' = true := by
    intro c y k h
    obtain ⟨n, h1, _⟩ := DataW.trod_int Tryz.underlying3 h
    simp only [List.cons.injEq, and_true] at h1
    rw [h1]; rfl
  have o9 : ∀ {c : Value} {y : DataW H × List MemPlace} {k : Nat}, DataW.trod enc Tryz.prog w base spare held k 9 [c] = some y → c.oneCell' = true := by
    intro c y k h
    obtain ⟨n, h1, _⟩ := DataW.trod_string Tryz.underlying9 h
    simp only [List.cons.injEq, and_true] at h1
    rw [h1]; rfl
  have o22 : ∀ {c : Value} {y : DataW H × List MemPlace} {k : Nat}, DataW.trod enc Tryz.prog w base spare held k 22 [c] = some y → c.oneCell' = true := by
    intro c y k h
    rcases DataW.trod_slice Tryz.underlying22 h with ⟨h1, _⟩ | ⟨a, len, cap, _, _, _, _, h1, _⟩ <;>
    · simp only [List.cons.injEq, and_true] at h1
      rw [h1]; rfl
  match cs, hl with
  | [c0, c1, c2, c3, c4, c5, c6, c7], _ =>
  have hn8 : xs.length = 8 := hn
  clear hn
  match xs, hn8 with
  | [z0, z1, z2, z3, z4, z5, z6, z7], _ =>
  have f0 : DataW.trod enc Tryz.prog w base spare held m 3 (([c0, c1, c2, c3, c4, c5, c6, c7].drop 0).take (Tryz.prog.cellsOf 3)) = some z0 := hf 0 _ rfl
  rw [e3] at f0
  have f1 : DataW.trod enc Tryz.prog w base spare held m 9 (([c0, c1, c2, c3, c4, c5, c6, c7].drop 1).take (Tryz.prog.cellsOf 9)) = some z1 := hf 1 _ rfl
  rw [e9] at f1
  have f2 : DataW.trod enc Tryz.prog w base spare held m 9 (([c0, c1, c2, c3, c4, c5, c6, c7].drop 2).take (Tryz.prog.cellsOf 9)) = some z2 := hf 2 _ rfl
  rw [e9] at f2
  have f3 : DataW.trod enc Tryz.prog w base spare held m 3 (([c0, c1, c2, c3, c4, c5, c6, c7].drop 3).take (Tryz.prog.cellsOf 3)) = some z3 := hf 3 _ rfl
  rw [e3] at f3
  have f4 : DataW.trod enc Tryz.prog w base spare held m 3 (([c0, c1, c2, c3, c4, c5, c6, c7].drop 4).take (Tryz.prog.cellsOf 3)) = some z4 := hf 4 _ rfl
  rw [e3] at f4
  have f5 : DataW.trod enc Tryz.prog w base spare held m 3 (([c0, c1, c2, c3, c4, c5, c6, c7].drop 5).take (Tryz.prog.cellsOf 3)) = some z5 := hf 5 _ rfl
  rw [e3] at f5
  have f6 : DataW.trod enc Tryz.prog w base spare held m 9 (([c0, c1, c2, c3, c4, c5, c6, c7].drop 6).take (Tryz.prog.cellsOf 9)) = some z6 := hf 6 _ rfl
  rw [e9] at f6
  have f7 : DataW.trod enc Tryz.prog w base spare held m 22 (([c0, c1, c2, c3, c4, c5, c6, c7].drop 7).take (Tryz.prog.cellsOf 22)) = some z7 := hf 7 _ rfl
  rw [e22] at f7
  refine ⟨.cons (.sgl (o3 f0)) (.cons (.sgl (o9 f1)) (.cons (.sgl (o9 f2)) (.cons (.sgl (o3 f3)) (.cons (.sgl (o3 f4)) (.cons (.sgl (o3 f5)) (.cons (.sgl (o9 f6)) (.cons (.sgl (o22 f7)) (.nil)))))))), ?_⟩
  intro v hv
  simp only [List.mem_cons, List.not_mem_nil, or_false] at hv
  rcases hv with rfl | rfl | rfl | rfl | rfl | rfl | rfl | rfl
  · exact o3 f0
  · exact o9 f1
  · exact o9 f2
  · exact o3 f3
  · exact o3 f4
  · exact o3 f5
  · exact o9 f6
  · exact o22 f7
set_option maxRecDepth 100000 in
theorem lifted (os : Os) (started : os.Started) (H : Type) (enc : TypeId × Value → H) :
    ReturnsInHanded {} Tryz.checked os 3 .any (fun w args => (Rows.worldNobodySpec.pre enc Tryz.prog Tryz.f3 Rows.worldNobodyRow.domain false w args ∧ laidMetH Tryz.prog Rows.worldNobodyRow.laid w) ∧ sizedMet enc Tryz.prog Tryz.f3 (OpenSpec.ofChange Rows.worldNobodySpec) false w args)
      (Rows.worldNobodySpec.post enc Tryz.prog Tryz.f3 false true false false) := by
  refine returnsInHanded_of_change_and (C := Tryz.checked) (X := fun w _ => laidMetH Tryz.prog Rows.worldNobodyRow.laid w) (fun _ _ _ hh h => h.of_heap hh) own started (by kernel_rfl) Tryz.func3
    (ChangeSpec.witness_shaped (enc := enc) (C := Tryz.checked) (os := os) (X := fun w _ => laidMetH Tryz.prog Rows.worldNobodyRow.laid w) false (World.laidAll Tryz.prog os Rows.worldNobodyRow.laid) #[.agg #[.int .i64 0, .string ByteArray.empty, .string ByteArray.empty, .int .i64 0, .int .i64 0, .int .i64 0, .string ByteArray.empty, .slice none 0 0]] 8 (World.laidAll_os _ _ _)
      (World.shaped_of_ZipB (by kernel_rfl) (by kernel_rfl)) (by kernel_rfl) (by kernel_rfl) (by kernel_rfl)
      (by rw [MakeChecks.laidMetH_plain _ _ _ (by kernel_rfl)]; exact laidMet_laidAll _ (by kernel_rfl) (by kernel_rfl))) ?_
  intro W base args ds gs before hval0 hW hcnd hsz0 _ _
  have hsz : (DataW.weightsEach Tryz.prog (Tryz.f3.params.toList ++ Rows.worldNobodySpec.plain.varTypes Tryz.prog) (ds ++ gs)).all (· ≤ reachBytes) = true := hsz0
  have hval : ∀ (j : Nat) t v, Tryz.f3.params[j]? = some t → args[j]? = some v → Value.okWide Tryz.prog W .any base t v := hval0
  have hW' := hW
  obtain ⟨p, q, hA0, hV, rfl, hfz, hnd⟩ := hW
  have hA : DataW.TrodAll enc Tryz.prog W 0 (fun _ => true) true Tryz.f3.params.toList args.toList ds p := hA0
  rw [Tryz.params3] at hA hval hsz
  obtain ⟨v0, vs0, d0, ds0, p0, q0, hargs, rfl, rfl, h0, r0⟩ := trodAll_cons hA
  obtain ⟨rfl, rfl, rfl⟩ := trodAll_nil r0
  obtain rfl : args = #[v0] := by cases args; simp_all
  obtain ⟨rfl, rfl⟩ := trodVars_none hV
  have k0 := h0
  have lt0 : ∀ x ∈ p0, x.block < W.heap.size := by obtain ⟨m, hm⟩ := k0; exact DataW.trod_lt m _ _ _ hm
  obtain ⟨vs, rfl, _⟩ := okWide_struct Tryz.underlying24 (hval 0 24 v0 rfl rfl)
  obtain ⟨fu, hfu⟩ := h0
  obtain ⟨hrl, hone⟩ := step_open hfu
  clear hA0 hval0 hsz0 hsz
  have hargs_ : RL (fun _ => none) [.agg [.one, .one, .one, .one, .one, .one, .one, .one]] [.agg vs] := .cons (.agg (a' := vs.toList) hrl hone) .nil
  refine (Am.G.law_true Run.x0_right hargs_ W).mono fun e W' ⟨he, bel⟩ => ?_
  subst he
  exact ⟨_, rfl, _, _, _, [], _, [], hW', trodAll_mk1 (shut_bool Tryz.underlying4 _), (trodAll_cons_mk (Below.trod laidOut (by kernel_rfl) (of_decide_eq_true (by kernel_rfl)) k0 bel lt0) trodAll_mk0), rfl, bel.frame _, fun h => by cases h⟩
theorem k10 : (Rows.worldNobodyRow.inPlace == Tryz.pinned.checked.prog.inPlace 3) = true := by kernel_rfl
theorem k11 : (Rows.worldNobodyRow.unfollowed == Tryz.pinned.checked.prog.unfollowed 3) = true := by kernel_rfl
theorem k12 : (Rows.worldNobodyRow.recurses == Tryz.pinned.checked.prog.recurses 3) = true := by kernel_rfl
theorem k13 : (Rows.worldNobodyRow.named == Tryz.pinned.checked.prog.varsNamed 3) = true := by kernel_rfl
theorem closed : joinedFacts Tryz.pinned.checked.prog 3 Tryz.f3 Rows.worldNobodySpec Rows.worldNobodyRow = true := by
  unfold joinedFacts
  rw [k10, k11, k12, k13]
  as_aux_lemma => kernel_rfl
theorem said : Rows.WorldNobodySaid :=
  OpenClaim.holds_of_wide 3 Tryz.f3 rfl rfl rfl rfl rfl rfl rfl ⟨rfl, rfl, rfl, rfl, rfl⟩ rfl rfl rfl rfl rfl (by as_aux_lemma => kernel_rfl) Tryz.func3 closed
    (of_decide_eq_true (by kernel_rfl)) (by unfold Func.isWrapper; first | (rw [if_pos (by decide +kernel)]; kernel_rfl) | (rw [if_neg (by decide +kernel)]; exact ⟨rfl, rfl⟩))
    (fun os started H enc _ => lifted os started H enc)
theorem plain (f : FuncId) (fn : Func) (hf : Tryz.pinned.checked.prog.funcNamed "ashlar/ashlarlaw17.WorldNobody" = some f) (hfn : Tryz.pinned.checked.prog.funcs[f]? = some fn) :
    false = Tryz.pinned.checked.prog.looks [] ∧ ∀ (j : Nat) t, fn.params[j]? = some t → Tryz.pinned.checked.prog.wantsStandIn t = false := by
  obtain rfl : f = 3 := Option.some.inj ((show Tryz.prog.funcNamed "ashlar/ashlarlaw17.WorldNobody" = some 3 by kernel_rfl).symm.trans hf) |>.symm
  obtain rfl : fn = Tryz.f3 := (Option.some.inj (Tryz.func3.symm.trans hfn)).symm
  refine ⟨by kernel_rfl, fun j t ht => ?_⟩
  rw [Tryz.params3] at ht
  have hm : t ∈ [24] := by simpa using Array.mem_of_getElem? ht
  have hall : ([24].all fun u => !Tryz.prog.wantsStandIn u) = true := by kernel_rfl
  exact (show Tryz.prog.wantsStandIn t = false by simpa using List.all_eq_true.1 hall t hm)
end Go.Proofs.YtiigjiaodmlfnaaGreatDoor.worldNobody
namespace Go.Proofs.YtiigjiaodmlfnaaGreatDoor
theorem goes_none {P : Program} (h : P.funcs.toList.any Func.goes = false) (f : FuncId) : P.goes f = false := by
  have h1 : P.funcs.any Func.goes = false := by rw [← Array.any_toList]; exact h
  have h2 : ∀ g : Nat, (P.funcs[g]?).any Func.goes = false := fun g => by
    cases hg : P.funcs[g]? with
    | none => rfl
    | some fn =>
      have hm : fn ∈ P.funcs.toList := by
        rw [← Array.getElem?_toList] at hg
        exact List.mem_of_getElem? hg
      cases hb : fn.goes with
      | false => simpa using hb
      | true => rw [List.any_eq_true.2 ⟨fn, hm, hb⟩] at h; cases h
  unfold Program.goes
  rw [h1, Bool.and_false, Bool.or_false]
  rw [List.any_eq_false]
  intro (g : Nat) _
  have h3 := h2 g
  rw [h3]
  exact Bool.false_ne_true
theorem goes_row {P : Program} {c : OpenClaim} (h : P.funcs.toList.any Func.goes = false) (hs : c.start = .entering) : false = c.goesBy P := by
  unfold OpenClaim.goesBy Program.goesAt Program.goesFrom
  rw [hs]
  cases P.funcNamed c.func with
  | none => rfl
  | some f => show false = (P.goes f || false); rw [goes_none h f]; rfl
theorem no_goes : Tryz.pinned.checked.prog.funcs.toList.any Func.goes = false := by kernel_rfl
theorem worldNobody_card : Rows.WorldNobodyCardSaid :=
  Claim7.holds_tied_plain_at .later [] _ _ _ _ worldNobody.said (fun _ h => by cases h) (by kernel_rfl) (fun _ h => by cases h) worldNobody_row_tie rfl ⟨rfl, rfl⟩ (by kernel_rfl) rfl worldNobody.plain (goes_row no_goes rfl)
end Go.Proofs.YtiigjiaodmlfnaaGreatDoor
