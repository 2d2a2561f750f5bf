/-
  What the machine's runs of Read and Write say of the calls.
-/
import Derived.Test.YteaacjabcfopgaaGreatHa
set_option linter.unusedVariables false
set_option linter.unusedSimpArgs false
namespace Go.Proofs.YteaacjabcfopgaaGreat.Run
open Go Go.Proofs.YteaacjabcfopgaaGreat.Am Go.Proofs.YteaacjabcfopgaaGreat.Am.G Go.RowKit Go.Proofs Go.Proofs.YteaacjabcfopgaaGreatW.PrintWords Go.Proofs.YteaacjabcfopgaaGreatW.PrintLast Go.Proofs.YteaacjabcfopgaaGreatW.PrintMore
set_option maxRecDepth 10000 in
theorem rowX_len (x : Nat → Nat) : (rowX x).length = 128 := rfl
theorem bc_get : ∀ (l : List Nat) (i n : Nat), l[i]? = some n → (byteCells l)[i]? = some (.int .u8 (Int.ofNat n))
  | [], _, _, h => by simp at h
  | y :: _, 0, n, h => by simp at h; subst h; rfl
  | _ :: l, i + 1, n, h => bc_get l i n h
theorem x1_has17 : (X1.C.fs.get 17).isSome = true := by as_aux_lemma => kernel_rfl
theorem x1_has13 : (X1.C.fs.get 13).isSome = true := by as_aux_lemma => kernel_rfl
theorem x0_has17 : (X0.C.fs.get 17).isSome = true := by as_aux_lemma => kernel_rfl
theorem row_of {w0 : Base} {φ : Phi} {h : H} {w : World} {l : List Nat} {id off : Nat} {v : Value} (hR : RH w0 φ h w) (hl : h.load id off l.length = some (byteCells l)) (hb : l.length ≤ 9223372036854775807) (hv : RV φ (.slice id off l.length (.own 1)) v) :
    ∃ (A : Addr) (c : Nat), v = .slice (some A) l.length c ∧ l.length ≤ c ∧ Kd.C (Kd.int .u8) w (some A) l.length (l.map Int.ofNat) := by
  cases hv with
  | slice hp hlc hc =>
  rename_i c p
  obtain ⟨vs, v1, v2, v3, v4, v5⟩ := hR.load hl hp
  refine ⟨p.addr off, c, rfl, hlc, ?_⟩
  have := cells_C (w := w) (A0 := some (p.addr off)) (l := l) hb fun i hi => ⟨p.addr off, rfl, ?_, (hR.own id p hp).2⟩
  · rwa [List.length_map] at this
  · obtain ⟨n, hn⟩ : ∃ n, l[i]? = some n := ⟨l[i], List.getElem?_eq_getElem hi⟩
    obtain ⟨u, h1, h2⟩ := v2.get i _ (bc_get l i n hn)
    cases h2
    rw [addr_add, v4 i hi, h1]
    unfold Go.Proofs.YteaacjabcfopgaaGreat.Am.at0
    simp [hn, List.getD]
theorem reads_of {w0 : World} {Φ : Phi} {pJ : PB} {X : M} (hX : Right Tryz.prog X) (hs : (X.C.fs.get 17).isSome = true) {h h1 h' : H} {b : Int} {id n : Nat} {ids : List Nat} {x : Nat → Nat} (hJ : Φ 6300 = some pJ)
    (hrun : gcD ids (runF X n (startH (X.C.fs.get 17) 17 [.ptr 6300 0, .int .i64 b] h)) = .done (.tup [.slice id 0 128 (.own 1), .int .i64 0]) h1)
    (hl : h1.load id 0 128 = some (byteCells (rowX x))) (h0 : ∀ i, h'.next ≤ i → Φ i = none) (hsub : ∀ i bl, h'.h.get i = some bl → h1.h.get i = some bl ∧ i < h'.next ∧ OkB h'.next bl) :
    Reads w0 Φ (.pointer (some (pJ.addr 0))) h b x h' := by
  intro w ⟨φ, hle, hR⟩
  refine (RH.calls (args' := [.pointer (some (pJ.addr 0)), .int .i64 b]) hX hs hR (.cons (.ptr (hle _ _ hJ)) (.cons (.int _ _) .nil)) (Leads.partD hX hrun)).mono fun e w' hh => ?_
  obtain ⟨ψ, v', hle2, rfl, hv, hR'⟩ := hh
  cases hv with
  | tup ha =>
  cases ha with
  | cons a1 a2 =>
  cases a2 with
  | cons a2 a3 =>
  cases a3
  cases a2
  obtain ⟨A, c, rfl, hc, hC⟩ := row_of (l := rowX x) hR' (by rw [rowX_len]; exact hl) (by rw [rowX_len]; omega) (by rw [rowX_len]; exact a1)
  rw [rowX_len] at hc hC
  refine ⟨A, c, by rw [rowX_len], hc, hC, ψ.to h'.next, ?_, (hR'.rebase (Phi.le_trans hle hle2)).reset hsub h0⟩
  intro i p e
  have hi : i < h'.next := by
    by_cases hi : i < h'.next
    · exact hi
    · rw [h0 i (by omega)] at e; cases e
  rw [Phi.to_at hi]
  exact hle2 _ _ (hle _ _ e)
theorem writes_of {w0 : World} {Φ : Phi} {pJ : PB} {h hw h1 h' : H} {b : Int} {n : Nat} {ids : List Nat} {y : Nat → Nat} (hJ : Φ 6300 = some pJ)
    (hw_ : h.new (rB y false) = hw)
    (hrun : gcD ids (runF X1 n (startH (X1.C.fs.get 13) 13 [.ptr 6300 0, .int .i64 b, .slice h.next 0 128 (.own 1)] hw)) = .done (.int .i64 0) h1)
    (h0 : ∀ i, h'.next ≤ i → Φ i = none) (hsub : ∀ i bl, h'.h.get i = some bl → h1.h.get i = some bl ∧ i < h'.next ∧ OkB h'.next bl) :
    Writes w0 Φ (.pointer (some (pJ.addr 0))) h b y h' := by
  intro w1 w v ⟨φ, hle, hR⟩ hb hv
  obtain ⟨ψ0, p1, p2, p3⟩ := row_ok (l := rowX y) hR hb (by rw [rowX_len]; omega) hv
  have e1 : mkRow h (rowX y) = (.slice h.next 0 128 (.own 1), hw) := by rw [← hw_]; unfold mkRow rB; rw [rowX_len]
  rw [e1] at p2 p3
  refine (RH.calls (args' := [.pointer (some (pJ.addr 0)), .int .i64 b, v]) x1_right x1_has13 p2 (.cons (.ptr (p1 _ _ (hle _ _ hJ))) (.cons (.int _ _) (.cons p3 .nil))) (Leads.partD x1_right hrun)).mono fun e w' hh => ?_
  obtain ⟨ψ, v', hle2, rfl, hv, hR'⟩ := hh
  cases hv
  refine ⟨rfl, ψ.to h'.next, ?_, (hR'.rebase (Phi.le_trans hle (Phi.le_trans p1 hle2))).reset hsub h0⟩
  intro i p e
  have hi : i < h'.next := by
    by_cases hi : i < h'.next
    · exact hi
    · rw [h0 i (by omega)] at e; cases e
  rw [Phi.to_at hi]
  exact hle2 _ _ (p1 _ _ (hle _ _ e))
end Go.Proofs.YteaacjabcfopgaaGreat.Run
