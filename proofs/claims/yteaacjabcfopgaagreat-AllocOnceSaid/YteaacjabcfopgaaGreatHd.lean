/-
  The calls of alloc.Map: whether a thing is taken; a thing is given back.
-/
import Derived.Test.YteaacjabcfopgaaGreatHc
set_option linter.unusedVariables false
set_option linter.unusedSimpArgs false
namespace Go.Proofs.YteaacjabcfopgaaGreat.Run
open Go Go.Proofs.YteaacjabcfopgaaGreat.Am Go.Proofs.YteaacjabcfopgaaGreat.Am.G Go.RowKit Go.Proofs Go.Proofs.YteaacjabcfopgaaGreat.PQ Go.Proofs.YteaacjabcfopgaaGreatW.PrintWords Go.Proofs.YteaacjabcfopgaaGreatW.PrintLast Go.Proofs.YteaacjabcfopgaaGreatW.PrintMore
def HasPost (w0 : World) (Φ : Phi) (h' : H) (r : Bool) (z : Int) (e : Ending) (w' : World) : Prop := e = .returned (.tuple #[.bool r, .int .i64 z]) ∧ At w0 Φ h' w'
def ErrPost (w0 : World) (Φ : Phi) (h' : H) (z : Int) (e : Ending) (w' : World) : Prop := e = .returned (.int .i64 z) ∧ At w0 Φ h' w'
set_option maxHeartbeats 4000000 in
set_option maxRecDepth 100000 in
theorem has_calls {w0 : World} {Φ : Phi} {jv : Value} {h h1 : H} {first k i : Int} {x : Nat → Nat} {mb : Nat} {r : Bool} (hr : Reads w0 Φ jv h (first + i / 1024) x h1)
    (hm : MapAt w0 Φ h mb jv first k) (hm1 : MapAt w0 Φ h1 mb jv first k) (hb : octets_Has.f (oct x) (i % 1024) = some r)
    (hi : 0 ≤ i) (hi2 : i < k) (hf : 0 ≤ first) (hf2 : first ≤ 10) (hk2 : k ≤ 4096) (w : World) (hA : At w0 Φ h w) :
    Calls Tryz.prog 29 #[.pointer (some ⟨mb, 0, none⟩), .int .i64 i] w (HasPost w0 Φ h1 r 0) := by
  have hq0 : 0 ≤ i / 1024 := by omega
  have hq1 : i / 1024 ≤ 4 := by omega
  have hr0 : 0 ≤ i % 1024 := by omega
  have g0 : decide (i < 0) = false := decide_eq_false (by omega)
  have g1 : decide (i ≥ k) = false := decide_eq_false (by omega)
  have g2 : decide (k ≤ i) = false := decide_eq_false (by omega)
  have HY := Aside0.mk hb
  clear hb
  obtain ⟨-, -, c2, hlt⟩ := hm w hA
  go_enter Tryz.func29, Tryz.ntmps29
  go_wp2_with (first
    | (go_at_call 26; refine (bits_calls hr hm hm1 hq0 hq1 hf hf2 (by omega) hk2 _ hA).mono ?_; rintro e w1 hh; obtain ⟨A, c, rfl, hc, hC, hA1⟩ := hh)
    | (go_at_call 55; refine (octets_Has.calls (some A) c (oct x) (i % 1024) r _ hC hc HY.out).mono ?_; rintro e w2 hh; obtain ⟨rfl, ⟨⟨nd, rfl⟩⟩⟩ := hh))
  go_ret2
  exact ⟨rfl, hA1.drew _⟩
set_option maxHeartbeats 4000000 in
set_option maxRecDepth 100000 in
theorem has_out {w0 : World} {Φ : Phi} {jv : Value} {h : H} {first k i : Int} {mb : Nat} (hm : MapAt w0 Φ h mb jv first k) (hi : i < 0 ∨ k ≤ i) (w : World) (hA : At w0 Φ h w) :
    Calls Tryz.prog 29 #[.pointer (some ⟨mb, 0, none⟩), .int .i64 i] w (HasPost w0 Φ h false 1) := by
  obtain ⟨-, -, c2, hlt⟩ := hm w hA
  by_cases g : i < 0
  · have g0 : decide (i < 0) = true := decide_eq_true g
    go_enter Tryz.func29, Tryz.ntmps29
    go_wp2
    go_ret2
    exact ⟨rfl, hA⟩
  · have g0 : decide (i < 0) = false := decide_eq_false g
    have g1 : decide (i ≥ k) = true := decide_eq_true (by omega)
    have g2 : decide (k ≤ i) = true := decide_eq_true (by omega)
    go_enter Tryz.func29, Tryz.ntmps29
    go_wp2
    go_ret2
    exact ⟨rfl, hA⟩
set_option maxHeartbeats 4000000 in
set_option maxRecDepth 100000 in
theorem give_out {w0 : World} {Φ : Phi} {jv : Value} {h : H} {first k i : Int} {mb : Nat} (hm : MapAt w0 Φ h mb jv first k) (hi : i < 0 ∨ k ≤ i) (w : World) (hA : At w0 Φ h w) :
    Calls Tryz.prog 11 #[.pointer (some ⟨mb, 0, none⟩), .int .i64 i] w (ErrPost w0 Φ h 1) := by
  go_enter Tryz.func11, Tryz.ntmps11
  go_wp2_with (go_at_call 29; refine (has_out hm hi _ hA).mono ?_; rintro e w1 hh; obtain ⟨rfl, hA1⟩ := hh)
  go_ret
  exact ⟨rfl, hA1⟩
set_option maxHeartbeats 4000000 in
set_option maxRecDepth 100000 in
theorem give_free {w0 : World} {Φ : Phi} {jv : Value} {h h1 : H} {first k i : Int} {x : Nat → Nat} {mb : Nat} (hr : Reads w0 Φ jv h (first + i / 1024) x h1)
    (hm : MapAt w0 Φ h mb jv first k) (hm1 : MapAt w0 Φ h1 mb jv first k) (hb : octets_Has.f (oct x) (i % 1024) = some false)
    (hi : 0 ≤ i) (hi2 : i < k) (hf : 0 ≤ first) (hf2 : first ≤ 10) (hk2 : k ≤ 4096) (w : World) (hA : At w0 Φ h w) :
    Calls Tryz.prog 11 #[.pointer (some ⟨mb, 0, none⟩), .int .i64 i] w (ErrPost w0 Φ h1 9) := by
  go_enter Tryz.func11, Tryz.ntmps11
  go_wp2_with (go_at_call 29; refine (has_calls hr hm hm1 hb hi hi2 hf hf2 hk2 _ hA).mono ?_; rintro e w1 hh; obtain ⟨rfl, hA1⟩ := hh)
  go_ret
  exact ⟨rfl, hA1⟩
set_option maxHeartbeats 4000000 in
set_option maxRecDepth 100000 in
theorem give_calls {w0 : World} {Φ : Phi} {jv : Value} {h h1 h2 h3 : H} {first k i : Int} {x y : Nat → Nat} {mb kk : Nat} (hr : Reads w0 Φ jv h (first + i / 1024) x h1) (hr2 : Reads w0 Φ jv h1 (first + i / 1024) x h2) (hwr : Writes w0 Φ jv h2 (first + i / 1024) y h3)
    (hm : MapAt w0 Φ h mb jv first k) (hm1 : MapAt w0 Φ h1 mb jv first k) (hm2 : MapAt w0 Φ h2 mb jv first k) (hb : octets_Has.f (oct x) (i % 1024) = some true) (hy : octets_With.f kk (oct x) (i % 1024) false = some (oct y, 0))
    (hi : 0 ≤ i) (hi2 : i < k) (hf : 0 ≤ first) (hf2 : first ≤ 10) (hk2 : k ≤ 4096) (w : World) (hA : At w0 Φ h w) :
    Calls Tryz.prog 11 #[.pointer (some ⟨mb, 0, none⟩), .int .i64 i] w (ErrPost w0 Φ h3 0) := by
  go_enter Tryz.func11, Tryz.ntmps11
  go_wp2_with (first
    | (go_at_call 29; refine (has_calls hr hm hm1 hb hi hi2 hf hf2 hk2 _ hA).mono ?_; rintro e w1 hh; obtain ⟨rfl, hA1⟩ := hh)
    | (go_at_call 28; refine (set_calls hr2 hwr hm1 hm2 hy hi (by omega) hf hf2 (by omega) hk2 _ hA1).mono ?_; rintro e w2 hh; obtain ⟨rfl, hA2⟩ := hh))
  go_ret
  exact ⟨rfl, hA2⟩
end Go.Proofs.YteaacjabcfopgaaGreat.Run
