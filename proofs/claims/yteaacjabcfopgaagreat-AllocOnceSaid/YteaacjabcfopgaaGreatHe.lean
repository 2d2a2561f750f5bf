/-
  The calls of alloc.Map: a thing is taken.
-/
import Derived.Test.YteaacjabcfopgaaGreatHd
import Derived.LoopN
set_option linter.unusedVariables false
set_option linter.unusedSimpArgs false
namespace Go.Proofs.YteaacjabcfopgaaGreat.Run
open Go Go.Proofs.YteaacjabcfopgaaGreat.Am Go.Proofs.YteaacjabcfopgaaGreat.Am.G Go.RowKit Go.Proofs Go.Proofs.YteaacjabcfopgaaGreat.PQ Go.Proofs.YteaacjabcfopgaaGreatW.PrintWords Go.Proofs.YteaacjabcfopgaaGreatW.PrintLast Go.Proofs.YteaacjabcfopgaaGreatW.PrintMore
def TakePost (w0 : World) (Φ : Phi) (h' : H) (n z : Int) (e : Ending) (w' : World) : Prop := e = .returned (.tuple #[.int .i64 n, .int .i64 z]) ∧ At w0 Φ h' w'
theorem blocks_f {k nb : Int} (hk : 1 ≤ k) (hk2 : k ≤ 4096) (h1 : 1024 * (nb - 1) < k) (h2 : k ≤ 1024 * nb) : alloc_Blocks.f k = some nb := by
  unfold alloc_Blocks.f
  have e1 : mx k 0 = k := by unfold mx; split <;> omega
  rw [e1]
  have e2 : wrap64 (k + 1024) = k + 1024 := by unfold wrap64; omega
  have e3 : wrap64 (k + 1024 - 1) = k + 1023 := by unfold wrap64; omega
  rw [e2, e3, Int.tdiv_eq_ediv_of_nonneg (by omega)]
  have e4 : (k + 1023) / 1024 = nb := by omega
  rw [e4]
  have e5 : wrap64 nb = nb := by unfold wrap64; omega
  rw [e5]
set_option maxHeartbeats 4000000 in
set_option maxRecDepth 100000 in
theorem take_first {w0 : World} {Φ : Phi} {jv : Value} {h h1 h2 h3 : H} {first k r nb : Int} {x y : Nat → Nat} {mb kk kf : Nat} (hr : Reads w0 Φ jv h first x h1) (hr2 : Reads w0 Φ jv h1 first x h2) (hwr : Writes w0 Φ jv h2 first y h3)
    (hm : MapAt w0 Φ h mb jv first k) (hm1 : MapAt w0 Φ h1 mb jv first k) (hm2 : MapAt w0 Φ h2 mb jv first k) (hfr : octets_Free.f kf (oct x) 0 (minB k 0) = some (r, true)) (hy : octets_With.f kk (oct x) r true = some (oct y, 0))
    (hr0 : 0 ≤ r) (hr1 : r < 1024) (hf : 0 ≤ first) (hf2 : first ≤ 10) (hk : 1 ≤ k) (hk2 : k ≤ 4096) (hnb : alloc_Blocks.f k = some nb) (hnb0 : 0 < nb) (w : World) (hA : At w0 Φ h w) :
    Calls Tryz.prog 10 #[.pointer (some ⟨mb, 0, none⟩)] w (TakePost w0 Φ h3 r 0) := by
  obtain ⟨-, -, c2, hlt⟩ := hm w hA
  have g0 : decide (0 < nb) = true := decide_eq_true hnb0
  have eq0 : r / 1024 = 0 := by omega
  have er : r % 1024 = r := by omega
  have HNB := Aside0.mk hnb
  have HFR := Aside0.mk hfr
  clear hnb hfr
  have hrA : Reads w0 Φ jv h1 (first + r / 1024) x h2 := by rw [eq0, Int.add_zero]; exact hr2
  have hwA : Writes w0 Φ jv h2 (first + r / 1024) y h3 := by rw [eq0, Int.add_zero]; exact hwr
  have hr0' : Reads w0 Φ jv h (first + 0) x h1 := by rw [Int.add_zero]; exact hr
  have hyA : octets_With.f kk (oct x) (r % 1024) true = some (oct y, 0) := by rw [er]; exact hy
  have HY := Aside0.mk hyA
  clear hyA hy eq0 er
  go_enter Tryz.func10, Tryz.ntmps10
  go_wp2_with (go_at_call 12; refine (alloc_Blocks.calls k nb _ HNB.out).mono ?_; rintro e w1 ⟨rfl, hB⟩)
  refine wp_loop_rounds 1 ?_
  rw [rounds_succ]
  have hA1 := hA.below hB
  go_wp2_with (first
    | (go_at_call 26; refine (bits_calls hr0' hm hm1 (by omega) (by omega) hf hf2 hk hk2 _ hA1).mono ?_; rintro e w2 hh; obtain ⟨A, c, rfl, hc, hC, hA2⟩ := hh)
    | (go_at_call 27; refine (octets_Free.calls kf (some A) c (oct x) 0 (minB k 0) r true _ hC hc HFR.out).mono ?_; rintro e w3 hh; obtain ⟨rfl, hB3⟩ := hh)
    | (go_at_call 28; refine (set_calls hrA hwA hm1 hm2 HY.out hr0 (by omega) hf hf2 hk hk2 _ (hA2.below hB3)).mono ?_; rintro e w4 hh; obtain ⟨rfl, hA4⟩ := hh))
  go_ret2
  exact ⟨rfl, hA4⟩
set_option maxHeartbeats 4000000 in
set_option maxRecDepth 100000 in
theorem take_none1 {w0 : World} {Φ : Phi} {jv : Value} {h h1 : H} {first k : Int} {x : Nat → Nat} {mb kf : Nat} (hr : Reads w0 Φ jv h first x h1)
    (hm : MapAt w0 Φ h mb jv first k) (hm1 : MapAt w0 Φ h1 mb jv first k) (hfr : octets_Free.f kf (oct x) 0 (minB k 0) = some (0, false))
    (hf : 0 ≤ first) (hf2 : first ≤ 10) (hk : 1 ≤ k) (hk2 : k ≤ 4096) (hnb : alloc_Blocks.f k = some 1) (w : World) (hA : At w0 Φ h w) :
    Calls Tryz.prog 10 #[.pointer (some ⟨mb, 0, none⟩)] w (TakePost w0 Φ h1 0 27) := by
  obtain ⟨-, -, c2, hlt⟩ := hm w hA
  have HNB := Aside0.mk hnb
  have HFR := Aside0.mk hfr
  clear hnb hfr
  have hr0' : Reads w0 Φ jv h (first + 0) x h1 := by rw [Int.add_zero]; exact hr
  go_enter Tryz.func10, Tryz.ntmps10
  go_wp2_with (go_at_call 12; refine (alloc_Blocks.calls k 1 _ HNB.out).mono ?_; rintro e w1 ⟨rfl, hB⟩)
  refine wp_loop_rounds 2 ?_
  rw [rounds_succ]
  have hA1 := hA.below hB
  go_wp2_with (first
    | (go_at_call 26; refine (bits_calls hr0' hm hm1 (by omega) (by omega) hf hf2 hk hk2 _ hA1).mono ?_; rintro e w2 hh; obtain ⟨A, c, rfl, hc, hC, hA2⟩ := hh)
    | (go_at_call 27; refine (octets_Free.calls kf (some A) c (oct x) 0 (minB k 0) 0 false _ hC hc HFR.out).mono ?_; rintro e w3 hh; obtain ⟨rfl, hB3⟩ := hh))
  rw [rounds_succ]
  go_wp2
  go_ret2
  exact ⟨rfl, hA2.below hB3⟩
set_option maxHeartbeats 4000000 in
set_option maxRecDepth 100000 in
theorem take_none2 {w0 : World} {Φ : Phi} {jv : Value} {h h1 h2 : H} {first k : Int} {x x2 : Nat → Nat} {mb kf kf2 : Nat} (hr : Reads w0 Φ jv h first x h1) (hr2 : Reads w0 Φ jv h1 (first + 1) x2 h2)
    (hm : MapAt w0 Φ h mb jv first k) (hm1 : MapAt w0 Φ h1 mb jv first k) (hm2 : MapAt w0 Φ h2 mb jv first k) (hfr : octets_Free.f kf (oct x) 0 (minB k 0) = some (0, false)) (hfr2 : octets_Free.f kf2 (oct x2) 0 (minB k 1) = some (0, false))
    (hf : 0 ≤ first) (hf2 : first ≤ 10) (hk : 1 ≤ k) (hk2 : k ≤ 4096) (hnb : alloc_Blocks.f k = some 2) (w : World) (hA : At w0 Φ h w) :
    Calls Tryz.prog 10 #[.pointer (some ⟨mb, 0, none⟩)] w (TakePost w0 Φ h2 0 27) := by
  obtain ⟨-, -, c2, hlt⟩ := hm w hA
  have HNB := Aside0.mk hnb
  have HFR := Aside0.mk hfr
  have HFR2 := Aside0.mk hfr2
  clear hnb hfr hfr2
  have hr0' : Reads w0 Φ jv h (first + 0) x h1 := by rw [Int.add_zero]; exact hr
  go_enter Tryz.func10, Tryz.ntmps10
  go_wp2_with (go_at_call 12; refine (alloc_Blocks.calls k 2 _ HNB.out).mono ?_; rintro e w1 ⟨rfl, hB⟩)
  refine wp_loop_rounds 3 ?_
  rw [rounds_succ]
  have hA1 := hA.below hB
  go_wp2_with (first
    | (go_at_call 26; refine (bits_calls hr0' hm hm1 (by omega) (by omega) hf hf2 hk hk2 _ hA1).mono ?_; rintro e w2 hh; obtain ⟨A, c, rfl, hc, hC, hA2⟩ := hh)
    | (go_at_call 27; refine (octets_Free.calls kf (some A) c (oct x) 0 (minB k 0) 0 false _ hC hc HFR.out).mono ?_; rintro e w3 hh; obtain ⟨rfl, hB3⟩ := hh))
  have hA3 := hA2.below hB3
  clear hC hc hA2 hB3 hA1
  rw [rounds_succ]
  go_wp2_with (first
    | (go_at_call 26; refine (bits_calls hr2 hm1 hm2 (by omega) (by omega) hf hf2 hk hk2 _ hA3).mono ?_; rintro e w4 hh; obtain ⟨A2, c_, rfl, hc_, hC_, hA4⟩ := hh)
    | (go_at_call 27; refine (octets_Free.calls kf2 (some A2) c_ (oct x2) 0 (minB k 1) 0 false _ hC_ hc_ HFR2.out).mono ?_; rintro e w5 hh; obtain ⟨rfl, hB5⟩ := hh))
  rw [rounds_succ]
  go_wp2
  go_ret2
  exact ⟨rfl, hA4.below hB5⟩
set_option maxHeartbeats 4000000 in
set_option maxRecDepth 100000 in
theorem take_second {w0 : World} {Φ : Phi} {jv : Value} {h h1 h2 h3 h4 : H} {first k r : Int} {x x2 y : Nat → Nat} {mb kf kf2 kk : Nat} (hr : Reads w0 Φ jv h first x h1) (hr2 : Reads w0 Φ jv h1 (first + 1) x2 h2) (hr3 : Reads w0 Φ jv h2 (first + 1) x2 h3) (hwr : Writes w0 Φ jv h3 (first + 1) y h4)
    (hm : MapAt w0 Φ h mb jv first k) (hm1 : MapAt w0 Φ h1 mb jv first k) (hm2 : MapAt w0 Φ h2 mb jv first k) (hm3 : MapAt w0 Φ h3 mb jv first k) (hfr : octets_Free.f kf (oct x) 0 (minB k 0) = some (0, false)) (hfr2 : octets_Free.f kf2 (oct x2) 0 (minB k 1) = some (r, true)) (hy : octets_With.f kk (oct x2) r true = some (oct y, 0))
    (hr0 : 0 ≤ r) (hr1 : r < 1024) (hf : 0 ≤ first) (hf2 : first ≤ 10) (hk : 1 ≤ k) (hk2 : k ≤ 4096) (hnb : alloc_Blocks.f k = some 2) (w : World) (hA : At w0 Φ h w) :
    Calls Tryz.prog 10 #[.pointer (some ⟨mb, 0, none⟩)] w (TakePost w0 Φ h4 (1024 + r) 0) := by
  obtain ⟨-, -, c2, hlt⟩ := hm w hA
  have HNB := Aside0.mk hnb
  have HFR := Aside0.mk hfr
  have HFR2 := Aside0.mk hfr2
  clear hnb hfr hfr2
  have hr0' : Reads w0 Φ jv h (first + 0) x h1 := by rw [Int.add_zero]; exact hr
  have eq1 : (1024 + r) / 1024 = 1 := by omega
  have er : (1024 + r) % 1024 = r := by omega
  have hrA : Reads w0 Φ jv h2 (first + (1024 + r) / 1024) x2 h3 := by rw [eq1]; exact hr3
  have hwA : Writes w0 Φ jv h3 (first + (1024 + r) / 1024) y h4 := by rw [eq1]; exact hwr
  have hyA : octets_With.f kk (oct x2) ((1024 + r) % 1024) true = some (oct y, 0) := by rw [er]; exact hy
  have HY := Aside0.mk hyA
  clear hyA hy eq1 er
  go_enter Tryz.func10, Tryz.ntmps10
  go_wp2_with (go_at_call 12; refine (alloc_Blocks.calls k 2 _ HNB.out).mono ?_; rintro e w1 ⟨rfl, hB⟩)
  refine wp_loop_rounds 2 ?_
  rw [rounds_succ]
  have hA1 := hA.below hB
  go_wp2_with (first
    | (go_at_call 26; refine (bits_calls hr0' hm hm1 (by omega) (by omega) hf hf2 hk hk2 _ hA1).mono ?_; rintro e w2 hh; obtain ⟨A, c, rfl, hc, hC, hA2⟩ := hh)
    | (go_at_call 27; refine (octets_Free.calls kf (some A) c (oct x) 0 (minB k 0) 0 false _ hC hc HFR.out).mono ?_; rintro e w3 hh; obtain ⟨rfl, hB3⟩ := hh))
  have hA3 := hA2.below hB3
  clear hC hc hA2 hB3 hA1
  rw [rounds_succ]
  go_wp2_with (first
    | (go_at_call 26; refine (bits_calls hr2 hm1 hm2 (by omega) (by omega) hf hf2 hk hk2 _ hA3).mono ?_; rintro e w4 hh; obtain ⟨A2, c_, rfl, hc_, hC_, hA4⟩ := hh)
    | (go_at_call 27; refine (octets_Free.calls kf2 (some A2) c_ (oct x2) 0 (minB k 1) r true _ hC_ hc_ HFR2.out).mono ?_; rintro e w5 hh; obtain ⟨rfl, hB5⟩ := hh)
    | (go_at_call 28; refine (set_calls hrA hwA hm2 hm3 HY.out (by omega) (by omega) hf hf2 hk hk2 _ (hA4.below hB5)).mono ?_; rintro e w6 hh; obtain ⟨rfl, hA6⟩ := hh))
  go_ret2
  exact ⟨rfl, hA6⟩
end Go.Proofs.YteaacjabcfopgaaGreat.Run
