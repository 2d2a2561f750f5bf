/-
  The calls of alloc.Map: how many things are free; a map is opened.
-/
import Derived.Test.YteaacjabcfopgaaGreatHe
set_option linter.unusedVariables false
set_option linter.unusedSimpArgs false
namespace Go.Proofs.YteaacjabcfopgaaGreat.Run
open Go Go.Proofs.YteaacjabcfopgaaGreat.Am Go.Proofs.YteaacjabcfopgaaGreat.Am.G Go.RowKit Go.Proofs Go.Proofs.YteaacjabcfopgaaGreat.PQ Go.Proofs.YteaacjabcfopgaaGreatW.PrintWords Go.Proofs.YteaacjabcfopgaaGreatW.PrintLast Go.Proofs.YteaacjabcfopgaaGreatW.PrintMore
set_option maxHeartbeats 4000000 in
set_option maxRecDepth 100000 in
theorem free1 {w0 : World} {Φ : Phi} {jv : Value} {h h1 : H} {first k n c0 : Int} {x : Nat → Nat} {mb kf : Nat} (hr : Reads w0 Φ jv h first x h1)
    (hm : MapAt w0 Φ h mb jv first k) (hm1 : MapAt w0 Φ h1 mb jv first k) (hmn : minB k 0 = n) (hfr : octets_Count.f kf (oct x) n = some c0) (hc0 : 0 ≤ c0) (hc1 : c0 ≤ 1024) (hn0 : 0 ≤ n) (hn1 : n ≤ 1024)
    (hf : 0 ≤ first) (hf2 : first ≤ 10) (hk : 1 ≤ k) (hk2 : k ≤ 4096) (hnb : alloc_Blocks.f k = some 1) (w : World) (hA : At w0 Φ h w) :
    Calls Tryz.prog 19 #[.pointer (some ⟨mb, 0, none⟩)] w (TakePost w0 Φ h1 (n - c0) 0) := by
  obtain ⟨-, -, c2, hlt⟩ := hm w hA
  have HNB := Aside0.mk hnb
  have HFR := Aside0.mk hfr
  have HMN := Aside0.mk hmn
  clear hnb hfr hmn
  have hr0' : Reads w0 Φ jv h (first + 0) x h1 := by rw [Int.add_zero]; exact hr
  go_enter Tryz.func19, Tryz.ntmps19
  go_wp2_with (go_at_call 12; refine (alloc_Blocks.calls k 1 _ HNB.out).mono ?_; rintro e w1 ⟨rfl, hB⟩)
  refine wp_loop_rounds 2 ?_
  rw [rounds_succ]
  have hA1 := hA.below hB
  go_wp2_with (first
    | (go_at_call 26; refine (bits_calls hr0' hm hm1 (by omega) (by omega) hf hf2 hk hk2 _ hA1).mono ?_; rintro e w2 hh; rw [HMN.out] at hh; obtain ⟨A, c, rfl, hc, hC, hA2⟩ := hh)
    | (go_at_call 36; refine (octets_Count.calls kf (some A) c (oct x) n c0 _ hC hc HFR.out).mono ?_; rintro e w3 hh; obtain ⟨rfl, hB3⟩ := hh))
  rw [rounds_succ]
  go_wp2
  go_ret2
  exact ⟨rfl, hA2.below hB3⟩
set_option maxHeartbeats 4000000 in
set_option maxRecDepth 100000 in
theorem free2 {w0 : World} {Φ : Phi} {jv : Value} {h h1 h2 : H} {first k n n2 c0 c1 : Int} {x x2 : Nat → Nat} {mb kf kf2 : Nat} (hr : Reads w0 Φ jv h first x h1) (hr2 : Reads w0 Φ jv h1 (first + 1) x2 h2)
    (hm : MapAt w0 Φ h mb jv first k) (hm1 : MapAt w0 Φ h1 mb jv first k) (hm2 : MapAt w0 Φ h2 mb jv first k) (hmn : minB k 0 = n) (hmn2 : minB k 1 = n2) (hfr : octets_Count.f kf (oct x) n = some c0) (hfr2 : octets_Count.f kf2 (oct x2) n2 = some c1)
    (hc0 : 0 ≤ c0) (hc1 : c0 ≤ 1024) (hn0 : 0 ≤ n) (hn1 : n ≤ 1024) (hd0 : 0 ≤ c1) (hd1 : c1 ≤ 1024) (hm0_ : 0 ≤ n2) (hm1_ : n2 ≤ 1024)
    (hf : 0 ≤ first) (hf2 : first ≤ 10) (hk : 1 ≤ k) (hk2 : k ≤ 4096) (hnb : alloc_Blocks.f k = some 2) (w : World) (hA : At w0 Φ h w) :
    Calls Tryz.prog 19 #[.pointer (some ⟨mb, 0, none⟩)] w (TakePost w0 Φ h2 (n - c0 + (n2 - c1)) 0) := by
  obtain ⟨-, -, c2, hlt⟩ := hm w hA
  have HNB := Aside0.mk hnb
  have HFR := Aside0.mk hfr
  have HFR2 := Aside0.mk hfr2
  have HMN := Aside0.mk hmn
  have HMN2 := Aside0.mk hmn2
  clear hnb hfr hfr2 hmn hmn2
  have hr0' : Reads w0 Φ jv h (first + 0) x h1 := by rw [Int.add_zero]; exact hr
  go_enter Tryz.func19, Tryz.ntmps19
  go_wp2_with (go_at_call 12; refine (alloc_Blocks.calls k 2 _ HNB.out).mono ?_; rintro e w1 ⟨rfl, hB⟩)
  refine wp_loop_rounds 3 ?_
  rw [rounds_succ]
  have hA1 := hA.below hB
  go_wp2_with (first
    | (go_at_call 26; refine (bits_calls hr0' hm hm1 (by omega) (by omega) hf hf2 hk hk2 _ hA1).mono ?_; rintro e w2 hh; rw [HMN.out] at hh; obtain ⟨A, c, rfl, hc, hC, hA2⟩ := hh)
    | (go_at_call 36; refine (octets_Count.calls kf (some A) c (oct x) n c0 _ hC hc HFR.out).mono ?_; rintro e w3 hh; obtain ⟨rfl, hB3⟩ := hh))
  have hA3 := hA2.below hB3
  clear hC hc hA2 hB3 hA1
  rw [rounds_succ]
  go_wp2_with (first
    | (go_at_call 26; refine (bits_calls hr2 hm1 hm2 (by omega) (by omega) hf hf2 hk hk2 _ hA3).mono ?_; rintro e w4 hh; rw [HMN2.out] at hh; obtain ⟨A2, c_, rfl, hc_, hC_, hA4⟩ := hh)
    | (go_at_call 36; refine (octets_Count.calls kf2 (some A2) c_ (oct x2) n2 c1 _ hC_ hc_ HFR2.out).mono ?_; rintro e w5 hh; obtain ⟨rfl, hB5⟩ := hh))
  rw [rounds_succ]
  go_wp2
  go_ret2
  exact ⟨rfl, hA4.below hB5⟩
def OpenPost (w0 : World) (Φ : Phi) (h' : H) (jv : Value) (first k : Int) (e : Ending) (w' : World) : Prop := ∃ w2, At w0 Φ h' w2 ∧ w' = w2.alloc (.cells #[jv, .int .i64 first, .int .i64 k] 69) ∧ e = .returned (.tuple #[.pointer (some ⟨w2.heap.size, 0, none⟩), .int .i64 0])
set_option maxHeartbeats 4000000 in
set_option maxRecDepth 100000 in
theorem open1 {w0 : World} {Φ : Phi} {ja : Addr} {h h1 : H} {first k : Int} {x : Nat → Nat} (hr : Reads w0 Φ (.pointer (some ja)) h first x h1)
    (hf : 0 ≤ first) (hf2 : first ≤ 10) (hk : 1 ≤ k) (hk2 : k ≤ 4096) (hnb : alloc_Blocks.f k = some 1) (w : World) (hA : At w0 Φ h w) :
    Calls Tryz.prog 9 #[.pointer (some ja), .int .i64 first, .int .i64 k] w (OpenPost w0 Φ h1 (.pointer (some ja)) first k) := by
  have HNB := Aside0.mk hnb
  clear hnb
  have g1 : decide (k < 1) = false := decide_eq_false (by omega)
  have g2 : decide (k > 4096) = false := decide_eq_false (by omega)
  have g2' : decide (4096 < k) = false := decide_eq_false (by omega)
  have g3 : decide (first < 0) = false := decide_eq_false (by omega)
  have hr0' : Reads w0 Φ (.pointer (some ja)) h (first + 0) x h1 := by rw [Int.add_zero]; exact hr
  go_enter Tryz.func9, Tryz.ntmps9
  go_wp2_with (go_at_call 12; refine (alloc_Blocks.calls k 1 _ HNB.out).mono ?_; rintro e w1 ⟨rfl, hB⟩)
  refine wp_loop_rounds 2 ?_
  rw [rounds_succ]
  have hA1 := hA.below hB
  go_wp2_with (go_at_call 17; refine (hr _ hA1).mono ?_; rintro e w2 hh; obtain ⟨A, c, rfl, hc, hC, hA2⟩ := hh)
  rw [rounds_succ]
  go_wp2
  go_ret2
  exact ⟨_, hA2, rfl, rfl⟩
set_option maxHeartbeats 4000000 in
set_option maxRecDepth 100000 in
theorem open2 {w0 : World} {Φ : Phi} {ja : Addr} {h h1 h2 : H} {first k : Int} {x x2 : Nat → Nat} (hr : Reads w0 Φ (.pointer (some ja)) h first x h1) (hr2 : Reads w0 Φ (.pointer (some ja)) h1 (first + 1) x2 h2)
    (hf : 0 ≤ first) (hf2 : first ≤ 10) (hk : 1 ≤ k) (hk2 : k ≤ 4096) (hnb : alloc_Blocks.f k = some 2) (w : World) (hA : At w0 Φ h w) :
    Calls Tryz.prog 9 #[.pointer (some ja), .int .i64 first, .int .i64 k] w (OpenPost w0 Φ h2 (.pointer (some ja)) first k) := by
  have HNB := Aside0.mk hnb
  clear hnb
  have g1 : decide (k < 1) = false := decide_eq_false (by omega)
  have g2 : decide (k > 4096) = false := decide_eq_false (by omega)
  have g2' : decide (4096 < k) = false := decide_eq_false (by omega)
  have g3 : decide (first < 0) = false := decide_eq_false (by omega)
  go_enter Tryz.func9, Tryz.ntmps9
  go_wp2_with (go_at_call 12; refine (alloc_Blocks.calls k 2 _ HNB.out).mono ?_; rintro e w1 ⟨rfl, hB⟩)
  refine wp_loop_rounds 3 ?_
  rw [rounds_succ]
  have hA1 := hA.below hB
  go_wp2_with (go_at_call 17; refine (hr _ hA1).mono ?_; rintro e w2 hh; obtain ⟨A, c, rfl, hc, hC, hA2⟩ := hh)
  rw [rounds_succ]
  go_wp2_with (go_at_call 17; refine (hr2 _ hA2).mono ?_; rintro e w3 hh; obtain ⟨A2, c_, rfl, hc_, hC_, hA3⟩ := hh)
  rw [rounds_succ]
  go_wp2
  go_ret2
  exact ⟨_, hA3, rfl, rfl⟩
end Go.Proofs.YteaacjabcfopgaaGreat.Run
