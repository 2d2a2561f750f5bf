/-
  The calls of alloc.Map: a bit is set; a thing is asked for; a thing is taken, and given back.
-/
import Derived.Test.YteaacjabcfopgaaGreatHb
import Derived.StillTailTactics
set_option linter.unusedVariables false
set_option linter.unusedSimpArgs false
namespace Go.Proofs.YteaacjabcfopgaaGreat.Run
open Go Go.Proofs.YteaacjabcfopgaaGreat.Am Go.Proofs.YteaacjabcfopgaaGreat.Am.G Go.RowKit Go.Proofs Go.Proofs.YteaacjabcfopgaaGreat.PQ Go.Proofs.YteaacjabcfopgaaGreatW.PrintWords Go.Proofs.YteaacjabcfopgaaGreatW.PrintLast Go.Proofs.YteaacjabcfopgaaGreatW.PrintMore
set_option maxHeartbeats 4000000 in
set_option maxRecDepth 100000 in
theorem set_calls {w0 : World} {Φ : Phi} {jv : Value} {h h1 h2 : H} {first k i : Int} {x y : Nat → Nat} {mb kk : Nat} {on : Bool} (hr : Reads w0 Φ jv h (first + i / 1024) x h1) (hwr : Writes w0 Φ jv h1 (first + i / 1024) y h2)
    (hm : MapAt w0 Φ h mb jv first k) (hm1 : MapAt w0 Φ h1 mb jv first k) (hy : octets_With.f kk (oct x) (i % 1024) on = some (oct y, 0))
    (hi : 0 ≤ i) (hi2 : i ≤ 4096) (hf : 0 ≤ first) (hf2 : first ≤ 10) (hk : 1 ≤ k) (hk2 : k ≤ 4096) (w : World) (hA : At w0 Φ h w) :
    Calls Tryz.prog 28 #[.pointer (some ⟨mb, 0, none⟩), .int .i64 i, .bool on] w (WrPost w0 Φ h2) := by
  have hq0 : 0 ≤ i / 1024 := by omega
  have hq1 : i / 1024 ≤ 4 := by omega
  have hr0 : 0 ≤ i % 1024 := by omega
  have HY := Aside0.mk hy
  clear hy
  go_enter Tryz.func28, Tryz.ntmps28
  go_wp2_with (first
    | (go_at_call 26; refine (bits_calls hr hm hm1 hq0 hq1 hf hf2 hk hk2 _ hA).mono ?_; rintro e w1 hh; obtain ⟨A, c, rfl, hc, hC, hA1⟩ := hh)
    | (go_at_call 56; refine (octets_With.calls kk (some A) c (oct x) (i % 1024) on (oct y) 0 _ hC hc HY.out).mono ?_; rintro e w2 hh; obtain ⟨v0, rfl, hR, hB⟩ := hh))
  obtain ⟨d0, d1, -, hlt⟩ := hm1 _ (hA1.below hB)
  clear hr HY hm hm1 hA hC hc
  have hs : -9223372036854775808 ≤ first + i / 1024 ∧ first + i / 1024 ≤ 9223372036854775807 := by omega
  have hB2 := below_drew1 hB
  have hR2 := Kd.R_drew hR
  go_still_tail 12, (by kernel_rfl)
  change wpList _ _ _ _ _ w2.drew
  generalize w2.drew = w2_ at hB2 hR2 ⊢
  go_wp2_with (go_at_call 13; refine (hwr w1 _ v0 hA1 hB2 hR2).mono ?_; rintro e w3 hh; obtain ⟨rfl, hA3⟩ := hh)
  go_ret
  exact ⟨rfl, hA3⟩
end Go.Proofs.YteaacjabcfopgaaGreat.Run
