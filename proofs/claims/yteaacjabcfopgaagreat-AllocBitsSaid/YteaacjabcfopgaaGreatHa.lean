/-
  What the map's functions do over the machine's heap: bits, set, Take, Give, Has, Open, walked once each.
-/
import Derived.Test.YteaacjabcfopgaaGreatGZ
import Derived.Test.YteaacjabcfopgaaGreatPw
import Derived.Deep.QuietTactic
import Derived.BigQuiet
import Derived.BigRegion
import Derived.StillTailTactics
import Derived.LoopN
set_option linter.unusedVariables false
set_option linter.unusedSimpArgs false
section
set_option linter.unusedVariables false
set_option linter.unusedSimpArgs false
namespace Go.Proofs.YteaacjabcfopgaaGreat.Run
open Go Go.Proofs.YteaacjabcfopgaaGreat.Am Go.Proofs.YteaacjabcfopgaaGreat.Am.G Go.RowKit Go.Proofs Go.Proofs.YteaacjabcfopgaaGreatW.PrintWords Go.Proofs.YteaacjabcfopgaaGreatW.PrintLast Go.Proofs.YteaacjabcfopgaaGreatW.PrintMore
def At (w0 : World) (Φ : Phi) (h : H) (w : World) : Prop := ∃ φ, Φ.le φ ∧ RH ⟨⟨w0, Φ⟩, []⟩ φ h w
theorem At.drew {w0 : World} {Φ : Phi} {h : H} {w : World} (hA : At w0 Φ h w) (n : Nat) : At w0 Φ h (w.drewN n) := let ⟨φ, a, b⟩ := hA; ⟨φ, a, b.below (Drawn0.below ⟨⟨n, rfl⟩⟩)⟩
theorem At.below {w0 : World} {Φ : Phi} {h : H} {w w' : World} (hA : At w0 Φ h w) (hb : Below w.heap.size w w') : At w0 Φ h w' := let ⟨φ, a, b⟩ := hA; ⟨φ, a, b.below hb⟩
theorem At.base {w0 : World} {Φ : Phi} {h : H} {w : World} (hA : At w0 Φ h w) : Below w0.heap.size w0 w := let ⟨_, _, b⟩ := hA; b.bel
def oct (x : Nat → Nat) : List Int := (rowX x).map Int.ofNat
set_option maxRecDepth 10000 in
theorem oct_len (x : Nat → Nat) : (oct x).length = 128 := rfl
def RdPost (w0 : World) (Φ : Phi) (h' : H) (x : Nat → Nat) (e : Ending) (w' : World) : Prop :=
  ∃ (A : Addr) (c : Nat), e = .returned (.tuple #[.slice (some A) 128 c, .int .i64 0]) ∧ 128 ≤ c ∧ Kd.C (Kd.int .u8) w' (some A) 128 (oct x) ∧ At w0 Φ h' w'
def Reads (w0 : World) (Φ : Phi) (jv : Value) (h : H) (b : Int) (x : Nat → Nat) (h' : H) : Prop := ∀ w, At w0 Φ h w → Calls Tryz.prog 17 #[jv, .int .i64 b] w (RdPost w0 Φ h' x)
def WrPost (w0 : World) (Φ : Phi) (h' : H) (e : Ending) (w' : World) : Prop := e = .returned (.int .i64 0) ∧ At w0 Φ h' w'
def Writes (w0 : World) (Φ : Phi) (jv : Value) (h : H) (b : Int) (y : Nat → Nat) (h' : H) : Prop := ∀ (w1 w : World) (v : Value), At w0 Φ h w1 → Below w1.heap.size w1 w → Kd.R (Kd.int .u8) 5 w w1.heap.size (fun _ => True) v (oct y) → Calls Tryz.prog 13 #[jv, .int .i64 b, v] w (WrPost w0 Φ h')
def MapAt (w0 : World) (Φ : Phi) (h : H) (mb : Nat) (jv : Value) (first k : Int) : Prop := ∀ w, At w0 Φ h w → w.cell? ⟨mb, 0, none⟩ = some jv ∧ w.cell? ⟨mb, 1, none⟩ = some (.int .i64 first) ∧ w.cell? ⟨mb, 2, none⟩ = some (.int .i64 k) ∧ mb < w.heap.size
def BitsPost (w0 : World) (Φ : Phi) (h' : H) (x : Nat → Nat) (n : Int) (e : Ending) (w' : World) : Prop :=
  ∃ (A : Addr) (c : Nat), e = .returned (.tuple #[.slice (some A) 128 c, .int .i64 n, .int .i64 0]) ∧ 128 ≤ c ∧ Kd.C (Kd.int .u8) w' (some A) 128 (oct x) ∧ At w0 Φ h' w'
theorem i64_in_ (n : Int) (h : -9223372036854775808 ≤ n ∧ n ≤ 9223372036854775807) : IntKind.i64.wrap n = n := by
  unfold IntKind.wrap
  have h2 : (2 : Int) ^ IntKind.i64.bits = 18446744073709551616 := by decide
  have h4 : (2 : Int) ^ (IntKind.i64.bits - 1) = 9223372036854775808 := by decide
  have h3 : IntKind.i64.signed = true := rfl
  simp only [h2, h3, h4, Bool.true_and, decide_eq_true_eq]
  split <;> omega
def minB (k i : Int) : Int := if k - i * 1024 < 1024 then k - i * 1024 else 1024
set_option maxHeartbeats 4000000 in
set_option maxRecDepth 100000 in
theorem bits_calls {w0 : World} {Φ : Phi} {jv : Value} {h h' : H} {first k i : Int} {x : Nat → Nat} {mb : Nat} (hr : Reads w0 Φ jv h (first + i) x h') (hm : MapAt w0 Φ h mb jv first k) (hm' : MapAt w0 Φ h' mb jv first k)
    (hi : 0 ≤ i) (hi2 : i ≤ 4) (hf : 0 ≤ first) (hf2 : first ≤ 10) (hk : 1 ≤ k) (hk2 : k ≤ 4096) (w : World) (hA : At w0 Φ h w) :
    Calls Tryz.prog 26 #[.pointer (some ⟨mb, 0, none⟩), .int .i64 i] w (BitsPost w0 Φ h' x (minB k i)) := by
  obtain ⟨c0, c1, c2, hlt⟩ := hm w hA
  have hs : -9223372036854775808 ≤ first + i ∧ first + i ≤ 9223372036854775807 := by omega
  go_enter Tryz.func26, Tryz.ntmps26
  go_wp2
  go_region_with (go_at_call 17; (try rw [i64_in_ _ hs]); refine (hr _ (by first | exact hA | exact hA.drew _ | exact (hA.drew _).drew _)).mono ?_; rintro e w' hh; obtain ⟨A, c, rfl, hc, hC, hA'⟩ := hh)
  all_goals
    obtain ⟨-, -, c2', hlt'⟩ := hm' _ hA'
    have hs2 : -9223372036854775808 ≤ i * 1024 ∧ i * 1024 ≤ 9223372036854775807 := by omega
    have hs3 : -9223372036854775808 ≤ k - i * 1024 ∧ k - i * 1024 ≤ 9223372036854775807 := by omega
    have e2 : IntKind.i64.wrap (i * 1024) = i * 1024 := i64_in_ _ hs2
    have e3 : IntKind.i64.wrap (k - i * 1024) = k - i * 1024 := i64_in_ _ hs3
    go_wp2
    go_quiet (fail)
    go_wp2
    all_goals
      go_ret3
      refine ⟨A, c, ?_, hc, by first | exact hC | exact Kd.C_drewN hC _, by first | exact hA' | exact hA'.drew _⟩
      unfold minB
      have e4 : IntKind.i64.wrap (k - i * 1024) = k - i * 1024 := i64_in_ _ (by omega)
      by_cases hq : k - i * 1024 < 1024
      · rw [if_pos hq]; first | rfl | (exfalso; omega)
      · rw [if_neg hq]; first | rfl | (exfalso; omega) | (have hz : k - i * 1024 = 1024 := by omega); simp only [hz]; rfl
end Go.Proofs.YteaacjabcfopgaaGreat.Run
end
section
set_option linter.unusedVariables false
set_option linter.unusedSimpArgs false
namespace Go.Proofs.YteaacjabcfopgaaGreat.Run
open Go Go.Proofs.YteaacjabcfopgaaGreat.Am Go.Proofs.YteaacjabcfopgaaGreat.Am.G Go.RowKit Go.Proofs Go.Proofs.YteaacjabcfopgaaGreatW.PrintWords Go.Proofs.YteaacjabcfopgaaGreatW.PrintLast Go.Proofs.YteaacjabcfopgaaGreatW.PrintMore
set_option maxRecDepth 10000 in
theorem rowX_len (x : Nat → Nat) : (rowX x).length = 128 := rfl
theorem bc_get : ∀ (l : List Nat) (i n : Nat), l[i]? = some n → (byteCells l)[i]? = some (.int .u8 (Int.ofNat n))
  | [], _, _, h => by simp at h
  | y :: _, 0, n, h => by simp at h; subst h; rfl
  | _ :: l, i + 1, n, h => bc_get l i n h
theorem x1_has17 : (X1.C.fs.get 17).isSome = true := by as_aux_lemma => kernel_rfl
theorem x1_has13 : (X1.C.fs.get 13).isSome = true := by as_aux_lemma => kernel_rfl
theorem x0_has17 : (X0.C.fs.get 17).isSome = true := by as_aux_lemma => kernel_rfl
theorem row_of {w0 : Base} {φ : Phi} {h : H} {w : World} {l : List Nat} {id off : Nat} {v : Value} (hR : RH w0 φ h w) (hl : h.load id off l.length = some (byteCells l)) (hb : l.length ≤ 9223372036854775807) (hv : RV φ (.slice id off l.length (.own 1)) v) :
    ∃ (A : Addr) (c : Nat), v = .slice (some A) l.length c ∧ l.length ≤ c ∧ Kd.C (Kd.int .u8) w (some A) l.length (l.map Int.ofNat) := by
  cases hv with
  | slice hp hlc hc =>
  rename_i c p
  obtain ⟨vs, v1, v2, v3, v4, v5⟩ := hR.load hl hp
  refine ⟨p.addr off, c, rfl, hlc, ?_⟩
  have := cells_C (w := w) (A0 := some (p.addr off)) (l := l) hb fun i hi => ⟨p.addr off, rfl, ?_, (hR.own id p hp).2⟩
  · rwa [List.length_map] at this
  · obtain ⟨n, hn⟩ : ∃ n, l[i]? = some n := ⟨l[i], List.getElem?_eq_getElem hi⟩
    obtain ⟨u, h1, h2⟩ := v2.get i _ (bc_get l i n hn)
    cases h2
    rw [addr_add, v4 i hi, h1]
    unfold Go.Proofs.YteaacjabcfopgaaGreat.Am.at0
    simp [hn, List.getD]
theorem reads_of {w0 : World} {Φ : Phi} {pJ : PB} {X : M} (hX : Right Tryz.prog X) (hs : (X.C.fs.get 17).isSome = true) {h h1 h' : H} {b : Int} {id n : Nat} {ids : List Nat} {x : Nat → Nat} (hJ : Φ 6300 = some pJ)
    (hrun : gcD ids (runF X n (startH (X.C.fs.get 17) 17 [.ptr 6300 0, .int .i64 b] h)) = .done (.tup [.slice id 0 128 (.own 1), .int .i64 0]) h1)
    (hl : h1.load id 0 128 = some (byteCells (rowX x))) (h0 : ∀ i, h'.next ≤ i → Φ i = none) (hsub : ∀ i bl, h'.h.get i = some bl → h1.h.get i = some bl ∧ i < h'.next ∧ OkB h'.next bl) :
    Reads w0 Φ (.pointer (some (pJ.addr 0))) h b x h' := by
  intro w ⟨φ, hle, hR⟩
  refine (RH.calls (args' := [.pointer (some (pJ.addr 0)), .int .i64 b]) hX hs hR (.cons (.ptr (hle _ _ hJ)) (.cons (.int _ _) .nil)) (Leads.partD hX hrun)).mono fun e w' hh => ?_
  obtain ⟨ψ, v', hle2, rfl, hv, hR'⟩ := hh
  cases hv with
  | tup ha =>
  cases ha with
  | cons a1 a2 =>
  cases a2 with
  | cons a2 a3 =>
  cases a3
  cases a2
  obtain ⟨A, c, rfl, hc, hC⟩ := row_of (l := rowX x) hR' (by rw [rowX_len]; exact hl) (by rw [rowX_len]; omega) (by rw [rowX_len]; exact a1)
  rw [rowX_len] at hc hC
  refine ⟨A, c, by rw [rowX_len], hc, hC, ψ.to h'.next, ?_, (hR'.rebase (Phi.le_trans hle hle2)).reset hsub h0⟩
  intro i p e
  have hi : i < h'.next := by
    by_cases hi : i < h'.next
    · exact hi
    · rw [h0 i (by omega)] at e; cases e
  rw [Phi.to_at hi]
  exact hle2 _ _ (hle _ _ e)
theorem writes_of {w0 : World} {Φ : Phi} {pJ : PB} {h hw h1 h' : H} {b : Int} {n : Nat} {ids : List Nat} {y : Nat → Nat} (hJ : Φ 6300 = some pJ)
    (hw_ : h.new (rB y false) = hw)
    (hrun : gcD ids (runF X1 n (startH (X1.C.fs.get 13) 13 [.ptr 6300 0, .int .i64 b, .slice h.next 0 128 (.own 1)] hw)) = .done (.int .i64 0) h1)
    (h0 : ∀ i, h'.next ≤ i → Φ i = none) (hsub : ∀ i bl, h'.h.get i = some bl → h1.h.get i = some bl ∧ i < h'.next ∧ OkB h'.next bl) :
    Writes w0 Φ (.pointer (some (pJ.addr 0))) h b y h' := by
  intro w1 w v ⟨φ, hle, hR⟩ hb hv
  obtain ⟨ψ0, p1, p2, p3⟩ := row_ok (l := rowX y) hR hb (by rw [rowX_len]; omega) hv
  have e1 : mkRow h (rowX y) = (.slice h.next 0 128 (.own 1), hw) := by rw [← hw_]; unfold mkRow rB; rw [rowX_len]
  rw [e1] at p2 p3
  refine (RH.calls (args' := [.pointer (some (pJ.addr 0)), .int .i64 b, v]) x1_right x1_has13 p2 (.cons (.ptr (p1 _ _ (hle _ _ hJ))) (.cons (.int _ _) (.cons p3 .nil))) (Leads.partD x1_right hrun)).mono fun e w' hh => ?_
  obtain ⟨ψ, v', hle2, rfl, hv, hR'⟩ := hh
  cases hv
  refine ⟨rfl, ψ.to h'.next, ?_, (hR'.rebase (Phi.le_trans hle (Phi.le_trans p1 hle2))).reset hsub h0⟩
  intro i p e
  have hi : i < h'.next := by
    by_cases hi : i < h'.next
    · exact hi
    · rw [h0 i (by omega)] at e; cases e
  rw [Phi.to_at hi]
  exact hle2 _ _ (p1 _ _ (hle _ _ e))
end Go.Proofs.YteaacjabcfopgaaGreat.Run
end
section
set_option linter.unusedVariables false
set_option linter.unusedSimpArgs false
namespace Go.Proofs.YteaacjabcfopgaaGreat.Run
open Go Go.Proofs.YteaacjabcfopgaaGreat.Am Go.Proofs.YteaacjabcfopgaaGreat.Am.G Go.RowKit Go.Proofs Go.Proofs.YteaacjabcfopgaaGreat.PQ Go.Proofs.YteaacjabcfopgaaGreatW.PrintWords Go.Proofs.YteaacjabcfopgaaGreatW.PrintLast Go.Proofs.YteaacjabcfopgaaGreatW.PrintMore
set_option maxHeartbeats 4000000 in
set_option maxRecDepth 100000 in
theorem set_calls {w0 : World} {Φ : Phi} {jv : Value} {h h1 h2 : H} {first k i : Int} {x y : Nat → Nat} {mb kk : Nat} {on : Bool} (hr : Reads w0 Φ jv h (first + i / 1024) x h1) (hwr : Writes w0 Φ jv h1 (first + i / 1024) y h2)
    (hm : MapAt w0 Φ h mb jv first k) (hm1 : MapAt w0 Φ h1 mb jv first k) (hy : octets_With.f kk (oct x) (i % 1024) on = some (oct y, 0))
    (hi : 0 ≤ i) (hi2 : i ≤ 4096) (hf : 0 ≤ first) (hf2 : first ≤ 10) (hk : 1 ≤ k) (hk2 : k ≤ 4096) (w : World) (hA : At w0 Φ h w) :
    Calls Tryz.prog 28 #[.pointer (some ⟨mb, 0, none⟩), .int .i64 i, .bool on] w (WrPost w0 Φ h2) := by
  have hq0 : 0 ≤ i / 1024 := by omega
  have hq1 : i / 1024 ≤ 4 := by omega
  have hr0 : 0 ≤ i % 1024 := by omega
  have HY := Aside0.mk hy
  clear hy
  go_enter Tryz.func28, Tryz.ntmps28
  go_wp2_with (first
    | (go_at_call 26; refine (bits_calls hr hm hm1 hq0 hq1 hf hf2 hk hk2 _ hA).mono ?_; rintro e w1 hh; obtain ⟨A, c, rfl, hc, hC, hA1⟩ := hh)
    | (go_at_call 56; refine (octets_With.calls kk (some A) c (oct x) (i % 1024) on (oct y) 0 _ hC hc HY.out).mono ?_; rintro e w2 hh; obtain ⟨v0, rfl, hR, hB⟩ := hh))
  obtain ⟨d0, d1, -, hlt⟩ := hm1 _ (hA1.below hB)
  clear hr HY hm hm1 hA hC hc
  have hs : -9223372036854775808 ≤ first + i / 1024 ∧ first + i / 1024 ≤ 9223372036854775807 := by omega
  have hB2 := below_drew1 hB
  have hR2 := Kd.R_drew hR
  go_still_tail 12, (by kernel_rfl)
  change wpList _ _ _ _ _ w2.drew
  generalize w2.drew = w2_ at hB2 hR2 ⊢
  go_wp2_with (go_at_call 13; refine (hwr w1 _ v0 hA1 hB2 hR2).mono ?_; rintro e w3 hh; obtain ⟨rfl, hA3⟩ := hh)
  go_ret
  exact ⟨rfl, hA3⟩
end Go.Proofs.YteaacjabcfopgaaGreat.Run
end
section
set_option linter.unusedVariables false
set_option linter.unusedSimpArgs false
namespace Go.Proofs.YteaacjabcfopgaaGreat.Run
open Go Go.Proofs.YteaacjabcfopgaaGreat.Am Go.Proofs.YteaacjabcfopgaaGreat.Am.G Go.RowKit Go.Proofs Go.Proofs.YteaacjabcfopgaaGreat.PQ Go.Proofs.YteaacjabcfopgaaGreatW.PrintWords Go.Proofs.YteaacjabcfopgaaGreatW.PrintLast Go.Proofs.YteaacjabcfopgaaGreatW.PrintMore
def HasPost (w0 : World) (Φ : Phi) (h' : H) (r : Bool) (z : Int) (e : Ending) (w' : World) : Prop := e = .returned (.tuple #[.bool r, .int .i64 z]) ∧ At w0 Φ h' w'
def ErrPost (w0 : World) (Φ : Phi) (h' : H) (z : Int) (e : Ending) (w' : World) : Prop := e = .returned (.int .i64 z) ∧ At w0 Φ h' w'
set_option maxHeartbeats 4000000 in
set_option maxRecDepth 100000 in
theorem has_calls {w0 : World} {Φ : Phi} {jv : Value} {h h1 : H} {first k i : Int} {x : Nat → Nat} {mb : Nat} {r : Bool} (hr : Reads w0 Φ jv h (first + i / 1024) x h1)
    (hm : MapAt w0 Φ h mb jv first k) (hm1 : MapAt w0 Φ h1 mb jv first k) (hb : octets_Has.f (oct x) (i % 1024) = some r)
    (hi : 0 ≤ i) (hi2 : i < k) (hf : 0 ≤ first) (hf2 : first ≤ 10) (hk2 : k ≤ 4096) (w : World) (hA : At w0 Φ h w) :
    Calls Tryz.prog 29 #[.pointer (some ⟨mb, 0, none⟩), .int .i64 i] w (HasPost w0 Φ h1 r 0) := by
  have hq0 : 0 ≤ i / 1024 := by omega
  have hq1 : i / 1024 ≤ 4 := by omega
  have hr0 : 0 ≤ i % 1024 := by omega
  have g0 : decide (i < 0) = false := decide_eq_false (by omega)
  have g1 : decide (i ≥ k) = false := decide_eq_false (by omega)
  have g2 : decide (k ≤ i) = false := decide_eq_false (by omega)
  have HY := Aside0.mk hb
  clear hb
  obtain ⟨-, -, c2, hlt⟩ := hm w hA
  go_enter Tryz.func29, Tryz.ntmps29
  go_wp2_with (first
    | (go_at_call 26; refine (bits_calls hr hm hm1 hq0 hq1 hf hf2 (by omega) hk2 _ hA).mono ?_; rintro e w1 hh; obtain ⟨A, c, rfl, hc, hC, hA1⟩ := hh)
    | (go_at_call 55; refine (octets_Has.calls (some A) c (oct x) (i % 1024) r _ hC hc HY.out).mono ?_; rintro e w2 hh; obtain ⟨rfl, ⟨⟨nd, rfl⟩⟩⟩ := hh))
  go_ret2
  exact ⟨rfl, hA1.drew _⟩
set_option maxHeartbeats 4000000 in
set_option maxRecDepth 100000 in
theorem give_free {w0 : World} {Φ : Phi} {jv : Value} {h h1 : H} {first k i : Int} {x : Nat → Nat} {mb : Nat} (hr : Reads w0 Φ jv h (first + i / 1024) x h1)
    (hm : MapAt w0 Φ h mb jv first k) (hm1 : MapAt w0 Φ h1 mb jv first k) (hb : octets_Has.f (oct x) (i % 1024) = some false)
    (hi : 0 ≤ i) (hi2 : i < k) (hf : 0 ≤ first) (hf2 : first ≤ 10) (hk2 : k ≤ 4096) (w : World) (hA : At w0 Φ h w) :
    Calls Tryz.prog 11 #[.pointer (some ⟨mb, 0, none⟩), .int .i64 i] w (ErrPost w0 Φ h1 9) := by
  go_enter Tryz.func11, Tryz.ntmps11
  go_wp2_with (go_at_call 29; refine (has_calls hr hm hm1 hb hi hi2 hf hf2 hk2 _ hA).mono ?_; rintro e w1 hh; obtain ⟨rfl, hA1⟩ := hh)
  go_ret
  exact ⟨rfl, hA1⟩
set_option maxHeartbeats 4000000 in
set_option maxRecDepth 100000 in
theorem give_calls {w0 : World} {Φ : Phi} {jv : Value} {h h1 h2 h3 : H} {first k i : Int} {x y : Nat → Nat} {mb kk : Nat} (hr : Reads w0 Φ jv h (first + i / 1024) x h1) (hr2 : Reads w0 Φ jv h1 (first + i / 1024) x h2) (hwr : Writes w0 Φ jv h2 (first + i / 1024) y h3)
    (hm : MapAt w0 Φ h mb jv first k) (hm1 : MapAt w0 Φ h1 mb jv first k) (hm2 : MapAt w0 Φ h2 mb jv first k) (hb : octets_Has.f (oct x) (i % 1024) = some true) (hy : octets_With.f kk (oct x) (i % 1024) false = some (oct y, 0))
    (hi : 0 ≤ i) (hi2 : i < k) (hf : 0 ≤ first) (hf2 : first ≤ 10) (hk2 : k ≤ 4096) (w : World) (hA : At w0 Φ h w) :
    Calls Tryz.prog 11 #[.pointer (some ⟨mb, 0, none⟩), .int .i64 i] w (ErrPost w0 Φ h3 0) := by
  go_enter Tryz.func11, Tryz.ntmps11
  go_wp2_with (first
    | (go_at_call 29; refine (has_calls hr hm hm1 hb hi hi2 hf hf2 hk2 _ hA).mono ?_; rintro e w1 hh; obtain ⟨rfl, hA1⟩ := hh)
    | (go_at_call 28; refine (set_calls hr2 hwr hm1 hm2 hy hi (by omega) hf hf2 (by omega) hk2 _ hA1).mono ?_; rintro e w2 hh; obtain ⟨rfl, hA2⟩ := hh))
  go_ret
  exact ⟨rfl, hA2⟩
end Go.Proofs.YteaacjabcfopgaaGreat.Run
end
section
set_option linter.unusedVariables false
set_option linter.unusedSimpArgs false
namespace Go.Proofs.YteaacjabcfopgaaGreat.Run
open Go Go.Proofs.YteaacjabcfopgaaGreat.Am Go.Proofs.YteaacjabcfopgaaGreat.Am.G Go.RowKit Go.Proofs Go.Proofs.YteaacjabcfopgaaGreat.PQ Go.Proofs.YteaacjabcfopgaaGreatW.PrintWords Go.Proofs.YteaacjabcfopgaaGreatW.PrintLast Go.Proofs.YteaacjabcfopgaaGreatW.PrintMore
def TakePost (w0 : World) (Φ : Phi) (h' : H) (n z : Int) (e : Ending) (w' : World) : Prop := e = .returned (.tuple #[.int .i64 n, .int .i64 z]) ∧ At w0 Φ h' w'
theorem blocks_f {k nb : Int} (hk : 1 ≤ k) (hk2 : k ≤ 4096) (h1 : 1024 * (nb - 1) < k) (h2 : k ≤ 1024 * nb) : alloc_Blocks.f k = some nb := by
  unfold alloc_Blocks.f
  have e1 : mx k 0 = k := by unfold mx; split <;> omega
  rw [e1]
  have e2 : wrap64 (k + 1024) = k + 1024 := by unfold wrap64; omega
  have e3 : wrap64 (k + 1024 - 1) = k + 1023 := by unfold wrap64; omega
  rw [e2, e3, Int.tdiv_eq_ediv_of_nonneg (by omega)]
  have e4 : (k + 1023) / 1024 = nb := by omega
  rw [e4]
  have e5 : wrap64 nb = nb := by unfold wrap64; omega
  rw [e5]
set_option maxHeartbeats 4000000 in
set_option maxRecDepth 100000 in
theorem take_first {w0 : World} {Φ : Phi} {jv : Value} {h h1 h2 h3 : H} {first k r nb : Int} {x y : Nat → Nat} {mb kk kf : Nat} (hr : Reads w0 Φ jv h first x h1) (hr2 : Reads w0 Φ jv h1 first x h2) (hwr : Writes w0 Φ jv h2 first y h3)
    (hm : MapAt w0 Φ h mb jv first k) (hm1 : MapAt w0 Φ h1 mb jv first k) (hm2 : MapAt w0 Φ h2 mb jv first k) (hfr : octets_Free.f kf (oct x) 0 (minB k 0) = some (r, true)) (hy : octets_With.f kk (oct x) r true = some (oct y, 0))
    (hr0 : 0 ≤ r) (hr1 : r < 1024) (hf : 0 ≤ first) (hf2 : first ≤ 10) (hk : 1 ≤ k) (hk2 : k ≤ 4096) (hnb : alloc_Blocks.f k = some nb) (hnb0 : 0 < nb) (w : World) (hA : At w0 Φ h w) :
    Calls Tryz.prog 10 #[.pointer (some ⟨mb, 0, none⟩)] w (TakePost w0 Φ h3 r 0) := by
  obtain ⟨-, -, c2, hlt⟩ := hm w hA
  have g0 : decide (0 < nb) = true := decide_eq_true hnb0
  have eq0 : r / 1024 = 0 := by omega
  have er : r % 1024 = r := by omega
  have HNB := Aside0.mk hnb
  have HFR := Aside0.mk hfr
  clear hnb hfr
  have hrA : Reads w0 Φ jv h1 (first + r / 1024) x h2 := by rw [eq0, Int.add_zero]; exact hr2
  have hwA : Writes w0 Φ jv h2 (first + r / 1024) y h3 := by rw [eq0, Int.add_zero]; exact hwr
  have hr0' : Reads w0 Φ jv h (first + 0) x h1 := by rw [Int.add_zero]; exact hr
  have hyA : octets_With.f kk (oct x) (r % 1024) true = some (oct y, 0) := by rw [er]; exact hy
  have HY := Aside0.mk hyA
  clear hyA hy eq0 er
  go_enter Tryz.func10, Tryz.ntmps10
  go_wp2_with (go_at_call 12; refine (alloc_Blocks.calls k nb _ HNB.out).mono ?_; rintro e w1 ⟨rfl, hB⟩)
  refine wp_loop_rounds 1 ?_
  rw [rounds_succ]
  have hA1 := hA.below hB
  go_wp2_with (first
    | (go_at_call 26; refine (bits_calls hr0' hm hm1 (by omega) (by omega) hf hf2 hk hk2 _ hA1).mono ?_; rintro e w2 hh; obtain ⟨A, c, rfl, hc, hC, hA2⟩ := hh)
    | (go_at_call 27; refine (octets_Free.calls kf (some A) c (oct x) 0 (minB k 0) r true _ hC hc HFR.out).mono ?_; rintro e w3 hh; obtain ⟨rfl, hB3⟩ := hh)
    | (go_at_call 28; refine (set_calls hrA hwA hm1 hm2 HY.out hr0 (by omega) hf hf2 hk hk2 _ (hA2.below hB3)).mono ?_; rintro e w4 hh; obtain ⟨rfl, hA4⟩ := hh))
  go_ret2
  exact ⟨rfl, hA4⟩
set_option maxHeartbeats 4000000 in
set_option maxRecDepth 100000 in
theorem take_none1 {w0 : World} {Φ : Phi} {jv : Value} {h h1 : H} {first k : Int} {x : Nat → Nat} {mb kf : Nat} (hr : Reads w0 Φ jv h first x h1)
    (hm : MapAt w0 Φ h mb jv first k) (hm1 : MapAt w0 Φ h1 mb jv first k) (hfr : octets_Free.f kf (oct x) 0 (minB k 0) = some (0, false))
    (hf : 0 ≤ first) (hf2 : first ≤ 10) (hk : 1 ≤ k) (hk2 : k ≤ 4096) (hnb : alloc_Blocks.f k = some 1) (w : World) (hA : At w0 Φ h w) :
    Calls Tryz.prog 10 #[.pointer (some ⟨mb, 0, none⟩)] w (TakePost w0 Φ h1 0 27) := by
  obtain ⟨-, -, c2, hlt⟩ := hm w hA
  have HNB := Aside0.mk hnb
  have HFR := Aside0.mk hfr
  clear hnb hfr
  have hr0' : Reads w0 Φ jv h (first + 0) x h1 := by rw [Int.add_zero]; exact hr
  go_enter Tryz.func10, Tryz.ntmps10
  go_wp2_with (go_at_call 12; refine (alloc_Blocks.calls k 1 _ HNB.out).mono ?_; rintro e w1 ⟨rfl, hB⟩)
  refine wp_loop_rounds 2 ?_
  rw [rounds_succ]
  have hA1 := hA.below hB
  go_wp2_with (first
    | (go_at_call 26; refine (bits_calls hr0' hm hm1 (by omega) (by omega) hf hf2 hk hk2 _ hA1).mono ?_; rintro e w2 hh; obtain ⟨A, c, rfl, hc, hC, hA2⟩ := hh)
    | (go_at_call 27; refine (octets_Free.calls kf (some A) c (oct x) 0 (minB k 0) 0 false _ hC hc HFR.out).mono ?_; rintro e w3 hh; obtain ⟨rfl, hB3⟩ := hh))
  rw [rounds_succ]
  go_wp2
  go_ret2
  exact ⟨rfl, hA2.below hB3⟩
end Go.Proofs.YteaacjabcfopgaaGreat.Run
end
section
set_option linter.unusedVariables false
set_option linter.unusedSimpArgs false
namespace Go.Proofs.YteaacjabcfopgaaGreat.Run
open Go Go.Proofs.YteaacjabcfopgaaGreat.Am Go.Proofs.YteaacjabcfopgaaGreat.Am.G Go.RowKit Go.Proofs Go.Proofs.YteaacjabcfopgaaGreat.PQ Go.Proofs.YteaacjabcfopgaaGreatW.PrintWords Go.Proofs.YteaacjabcfopgaaGreatW.PrintLast Go.Proofs.YteaacjabcfopgaaGreatW.PrintMore
def OpenPost (w0 : World) (Φ : Phi) (h' : H) (jv : Value) (first k : Int) (e : Ending) (w' : World) : Prop := ∃ w2, At w0 Φ h' w2 ∧ w' = w2.alloc (.cells #[jv, .int .i64 first, .int .i64 k] 69) ∧ e = .returned (.tuple #[.pointer (some ⟨w2.heap.size, 0, none⟩), .int .i64 0])
set_option maxHeartbeats 4000000 in
set_option maxRecDepth 100000 in
theorem open1 {w0 : World} {Φ : Phi} {ja : Addr} {h h1 : H} {first k : Int} {x : Nat → Nat} (hr : Reads w0 Φ (.pointer (some ja)) h first x h1)
    (hf : 0 ≤ first) (hf2 : first ≤ 10) (hk : 1 ≤ k) (hk2 : k ≤ 4096) (hnb : alloc_Blocks.f k = some 1) (w : World) (hA : At w0 Φ h w) :
    Calls Tryz.prog 9 #[.pointer (some ja), .int .i64 first, .int .i64 k] w (OpenPost w0 Φ h1 (.pointer (some ja)) first k) := by
  have HNB := Aside0.mk hnb
  clear hnb
  have g1 : decide (k < 1) = false := decide_eq_false (by omega)
  have g2 : decide (k > 4096) = false := decide_eq_false (by omega)
  have g2' : decide (4096 < k) = false := decide_eq_false (by omega)
  have g3 : decide (first < 0) = false := decide_eq_false (by omega)
  have hr0' : Reads w0 Φ (.pointer (some ja)) h (first + 0) x h1 := by rw [Int.add_zero]; exact hr
  go_enter Tryz.func9, Tryz.ntmps9
  go_wp2_with (go_at_call 12; refine (alloc_Blocks.calls k 1 _ HNB.out).mono ?_; rintro e w1 ⟨rfl, hB⟩)
  refine wp_loop_rounds 2 ?_
  rw [rounds_succ]
  have hA1 := hA.below hB
  go_wp2_with (go_at_call 17; refine (hr _ hA1).mono ?_; rintro e w2 hh; obtain ⟨A, c, rfl, hc, hC, hA2⟩ := hh)
  rw [rounds_succ]
  go_wp2
  go_ret2
  exact ⟨_, hA2, rfl, rfl⟩
set_option maxHeartbeats 4000000 in
set_option maxRecDepth 100000 in
theorem open2 {w0 : World} {Φ : Phi} {ja : Addr} {h h1 h2 : H} {first k : Int} {x x2 : Nat → Nat} (hr : Reads w0 Φ (.pointer (some ja)) h first x h1) (hr2 : Reads w0 Φ (.pointer (some ja)) h1 (first + 1) x2 h2)
    (hf : 0 ≤ first) (hf2 : first ≤ 10) (hk : 1 ≤ k) (hk2 : k ≤ 4096) (hnb : alloc_Blocks.f k = some 2) (w : World) (hA : At w0 Φ h w) :
    Calls Tryz.prog 9 #[.pointer (some ja), .int .i64 first, .int .i64 k] w (OpenPost w0 Φ h2 (.pointer (some ja)) first k) := by
  have HNB := Aside0.mk hnb
  clear hnb
  have g1 : decide (k < 1) = false := decide_eq_false (by omega)
  have g2 : decide (k > 4096) = false := decide_eq_false (by omega)
  have g2' : decide (4096 < k) = false := decide_eq_false (by omega)
  have g3 : decide (first < 0) = false := decide_eq_false (by omega)
  go_enter Tryz.func9, Tryz.ntmps9
  go_wp2_with (go_at_call 12; refine (alloc_Blocks.calls k 2 _ HNB.out).mono ?_; rintro e w1 ⟨rfl, hB⟩)
  refine wp_loop_rounds 3 ?_
  rw [rounds_succ]
  have hA1 := hA.below hB
  go_wp2_with (go_at_call 17; refine (hr _ hA1).mono ?_; rintro e w2 hh; obtain ⟨A, c, rfl, hc, hC, hA2⟩ := hh)
  rw [rounds_succ]
  go_wp2_with (go_at_call 17; refine (hr2 _ hA2).mono ?_; rintro e w3 hh; obtain ⟨A2, c_, rfl, hc_, hC_, hA3⟩ := hh)
  rw [rounds_succ]
  go_wp2
  go_ret2
  exact ⟨_, hA3, rfl, rfl⟩
end Go.Proofs.YteaacjabcfopgaaGreat.Run
end
