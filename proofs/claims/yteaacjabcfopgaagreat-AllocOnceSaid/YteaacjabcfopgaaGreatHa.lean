/-
  Worlds in which the machine's heap stands: what a call leaves of them.
-/
import Derived.Test.YteaacjabcfopgaaGreatGZ
import Derived.Test.YteaacjabcfopgaaGreatPw
import Derived.Deep.QuietTactic
import Derived.BigQuiet
import Derived.BigRegion
set_option linter.unusedVariables false
set_option linter.unusedSimpArgs false
namespace Go.Proofs.YteaacjabcfopgaaGreat.Run
open Go Go.Proofs.YteaacjabcfopgaaGreat.Am Go.Proofs.YteaacjabcfopgaaGreat.Am.G Go.RowKit Go.Proofs Go.Proofs.YteaacjabcfopgaaGreatW.PrintWords Go.Proofs.YteaacjabcfopgaaGreatW.PrintLast Go.Proofs.YteaacjabcfopgaaGreatW.PrintMore
def At (w0 : World) (Φ : Phi) (h : H) (w : World) : Prop := ∃ φ, Φ.le φ ∧ RH ⟨⟨w0, Φ⟩, []⟩ φ h w
theorem At.drew {w0 : World} {Φ : Phi} {h : H} {w : World} (hA : At w0 Φ h w) (n : Nat) : At w0 Φ h (w.drewN n) := let ⟨φ, a, b⟩ := hA; ⟨φ, a, b.below (Drawn0.below ⟨⟨n, rfl⟩⟩)⟩
theorem At.drew1 {w0 : World} {Φ : Phi} {h : H} {w : World} (hA : At w0 Φ h w) : At w0 Φ h w.drew := hA.drew 1
theorem At.below {w0 : World} {Φ : Phi} {h : H} {w w' : World} (hA : At w0 Φ h w) (hb : Below w.heap.size w w') : At w0 Φ h w' := let ⟨φ, a, b⟩ := hA; ⟨φ, a, b.below hb⟩
theorem At.base {w0 : World} {Φ : Phi} {h : H} {w : World} (hA : At w0 Φ h w) : Below w0.heap.size w0 w := let ⟨_, _, b⟩ := hA; b.bel
def oct (x : Nat → Nat) : List Int := (rowX x).map Int.ofNat
set_option maxRecDepth 10000 in
theorem oct_len (x : Nat → Nat) : (oct x).length = 128 := rfl
def RdPost (w0 : World) (Φ : Phi) (h' : H) (x : Nat → Nat) (e : Ending) (w' : World) : Prop :=
  ∃ (A : Addr) (c : Nat), e = .returned (.tuple #[.slice (some A) 128 c, .int .i64 0]) ∧ 128 ≤ c ∧ Kd.C (Kd.int .u8) w' (some A) 128 (oct x) ∧ At w0 Φ h' w'
def Reads (w0 : World) (Φ : Phi) (jv : Value) (h : H) (b : Int) (x : Nat → Nat) (h' : H) : Prop := ∀ w, At w0 Φ h w → Calls Tryz.prog 17 #[jv, .int .i64 b] w (RdPost w0 Φ h' x)
def WrPost (w0 : World) (Φ : Phi) (h' : H) (e : Ending) (w' : World) : Prop := e = .returned (.int .i64 0) ∧ At w0 Φ h' w'
def Writes (w0 : World) (Φ : Phi) (jv : Value) (h : H) (b : Int) (y : Nat → Nat) (h' : H) : Prop := ∀ (w1 w : World) (v : Value), At w0 Φ h w1 → Below w1.heap.size w1 w → Kd.R (Kd.int .u8) 5 w w1.heap.size (fun _ => True) v (oct y) → Calls Tryz.prog 13 #[jv, .int .i64 b, v] w (WrPost w0 Φ h')
def MapAt (w0 : World) (Φ : Phi) (h : H) (mb : Nat) (jv : Value) (first k : Int) : Prop := ∀ w, At w0 Φ h w → w.cell? ⟨mb, 0, none⟩ = some jv ∧ w.cell? ⟨mb, 1, none⟩ = some (.int .i64 first) ∧ w.cell? ⟨mb, 2, none⟩ = some (.int .i64 k) ∧ mb < w.heap.size
def BitsPost (w0 : World) (Φ : Phi) (h' : H) (x : Nat → Nat) (n : Int) (e : Ending) (w' : World) : Prop :=
  ∃ (A : Addr) (c : Nat), e = .returned (.tuple #[.slice (some A) 128 c, .int .i64 n, .int .i64 0]) ∧ 128 ≤ c ∧ Kd.C (Kd.int .u8) w' (some A) 128 (oct x) ∧ At w0 Φ h' w'
theorem i64_in_ (n : Int) (h : -9223372036854775808 ≤ n ∧ n ≤ 9223372036854775807) : IntKind.i64.wrap n = n := by
  unfold IntKind.wrap
  have h2 : (2 : Int) ^ IntKind.i64.bits = 18446744073709551616 := by decide
  have h4 : (2 : Int) ^ (IntKind.i64.bits - 1) = 9223372036854775808 := by decide
  have h3 : IntKind.i64.signed = true := rfl
  simp only [h2, h3, h4, Bool.true_and, decide_eq_true_eq]
  split <;> omega
def minB (k i : Int) : Int := if k - i * 1024 < 1024 then k - i * 1024 else 1024
set_option maxHeartbeats 4000000 in
set_option maxRecDepth 100000 in
theorem bits_calls {w0 : World} {Φ : Phi} {jv : Value} {h h' : H} {first k i : Int} {x : Nat → Nat} {mb : Nat} (hr : Reads w0 Φ jv h (first + i) x h') (hm : MapAt w0 Φ h mb jv first k) (hm' : MapAt w0 Φ h' mb jv first k)
    (hi : 0 ≤ i) (hi2 : i ≤ 4) (hf : 0 ≤ first) (hf2 : first ≤ 10) (hk : 1 ≤ k) (hk2 : k ≤ 4096) (w : World) (hA : At w0 Φ h w) :
    Calls Tryz.prog 26 #[.pointer (some ⟨mb, 0, none⟩), .int .i64 i] w (BitsPost w0 Φ h' x (minB k i)) := by
  obtain ⟨c0, c1, c2, hlt⟩ := hm w hA
  have hs : -9223372036854775808 ≤ first + i ∧ first + i ≤ 9223372036854775807 := by omega
  go_enter Tryz.func26, Tryz.ntmps26
  go_wp2
  go_region_with (go_at_call 17; (try rw [i64_in_ _ hs]); refine (hr _ (by first | exact hA | exact hA.drew _ | exact (hA.drew _).drew _)).mono ?_; rintro e w' hh; obtain ⟨A, c, rfl, hc, hC, hA'⟩ := hh)
  all_goals
    obtain ⟨-, -, c2', hlt'⟩ := hm' _ hA'
    have hs2 : -9223372036854775808 ≤ i * 1024 ∧ i * 1024 ≤ 9223372036854775807 := by omega
    have hs3 : -9223372036854775808 ≤ k - i * 1024 ∧ k - i * 1024 ≤ 9223372036854775807 := by omega
    have e2 : IntKind.i64.wrap (i * 1024) = i * 1024 := i64_in_ _ hs2
    have e3 : IntKind.i64.wrap (k - i * 1024) = k - i * 1024 := i64_in_ _ hs3
    go_wp2
    go_quiet (fail)
    go_wp2
    all_goals
      go_ret3
      refine ⟨A, c, ?_, hc, by first | exact hC | exact Kd.C_drewN hC _, by first | exact hA' | exact hA'.drew _⟩
      unfold minB
      have e4 : IntKind.i64.wrap (k - i * 1024) = k - i * 1024 := i64_in_ _ (by omega)
      by_cases hq : k - i * 1024 < 1024
      · rw [if_pos hq]; first | rfl | (exfalso; omega)
      · rw [if_neg hq]; first | rfl | (exfalso; omega) | (have hz : k - i * 1024 = 1024 := by omega); simp only [hz]; rfl
end Go.Proofs.YteaacjabcfopgaaGreat.Run
