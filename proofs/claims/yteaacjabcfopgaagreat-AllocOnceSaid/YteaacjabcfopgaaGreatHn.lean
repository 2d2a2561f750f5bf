/-
  A map of up to 60 things behind Begin, with the law's own row of what is taken.
-/
import Derived.Test.YteaacjabcfopgaaGreatHm
namespace Go.Proofs.YteaacjabcfopgaaGreat.Run
open Go Go.Proofs.YteaacjabcfopgaaGreat.Am Go.Proofs.YteaacjabcfopgaaGreat.Am.G Go.RowKit Go.Proofs Go.Proofs.YteaacjabcfopgaaGreat.PQ
set_option maxRecDepth 100000
noncomputable section
structure OnceK (w0 : World) (mv : Value) (tb k : Nat) (Q : (Nat → Bool) → World → Prop) (S : (Nat → Bool) → (Nat → Bool) → World → Prop) : Prop where
  takeQ : ∀ t w r, Q t w → r < k → t r = false → (∀ j, j < r → t j = true) → Calls Tryz.prog 10 #[mv] w (Ret2 (S (updT t r true) t) r 0)
  fullQ : ∀ t w, Q t w → (∀ j, j < k → t j = true) → Calls Tryz.prog 10 #[mv] w (Ret2 (S t t) 0 27)
  ops : ∀ u, Ops mv k fun t w => S t u w
  row : ∀ t u w, S t u w → (∀ j, j < k → w.cell? ⟨tb, j, none⟩ = some (.bool (u j))) ∧ (∀ j, j < k → w.frozen? ⟨tb, j, none⟩ = false) ∧ tb < w.heap.size ∧ w0.heap.size ≤ tb
  put : ∀ t u w n b, S t u w → n < k → S t (updT u n b) (w.setCell ⟨tb, n, none⟩ (.bool b))
  head : ∀ t u w, S t u w → (∀ j, j < k → t j = u j) → Q u w
  rowQ : ∀ u w, Q u w → Below w0.heap.size w0 w
  base : ∀ t u w, S t u w → Below w0.heap.size w0 w
def OpenOnce (w0 : World) (k : Nat) (e : Ending) (w' : World) : Prop := ∃ (mb : Nat) (Q : (Nat → Bool) → World → Prop) (S : (Nat → Bool) → (Nat → Bool) → World → Prop), e = .returned (.tuple #[.pointer (some ⟨mb, 0, none⟩), .int .i64 0]) ∧ OnceK w0 (.pointer (some ⟨mb, 0, none⟩)) w'.heap.size k Q S ∧ Q (fun _ => false) (w'.alloc (.cells (Array.replicate k (.bool false)) 4))
theorem open_once {w0 w : World} {Φ : Phi} {pJ : PB} (hA : At w0 Φ HB0 w) (hJ : Φ 6300 = some pJ) (h0 : ∀ i, 6533 ≤ i → Φ i = none) {k : Nat} (hk : 1 ≤ k) (hk2 : k ≤ 1024) :
    Calls Tryz.prog 9 #[.pointer (some (pJ.addr 0)), .int .i64 0, .int .i64 (k : Int)] w (OpenOnce w0 k) := by
  have hnb : alloc_Blocks.f (k : Int) = some 1 := blocks_f (by omega) (by omega) (by omega) (by omega)
  refine (open1 (rd_f0n1o0 hJ fun i hi => h0 i (by omega)) (by omega) (by omega) (by omega) (by omega) hnb w hA).mono fun e w' hh => ?_
  obtain ⟨w2, hA2, rfl, rfl⟩ := hh
  obtain ⟨Ψ, hle, hM, hn, hA3⟩ := hA2.adopt (b := bmOf 0 (k : Int)) (o := .cells #[.pointer (some (pJ.addr 0)), .int .i64 0, .int .i64 (k : Int)] 69) (N := 3) fun φ' hle => bm_rb (hle _ _ hJ)
  obtain ⟨Ω, hle2, hT, hn2, hA4⟩ := hA3.adopt (b := btOf k fun _ => false) (o := .cells (Array.replicate k (.bool false)) 4) (N := k) fun φ' hle => bt_rb
  have eH : (E1.new (bmOf 0 (k : Int))).new (btOf k fun _ => false) = E2 (bmOf 0 (k : Int)) (btOf k fun _ => false) := by kernel_rfl
  rw [eH] at hA4
  have hJ' := hle2 _ _ (hle _ _ hJ)
  have hM' : Ω 6553 = some ⟨w2.heap.size, 0, 3⟩ := hle2 _ _ hM
  have hT' : Ω 6554 = some ⟨(w2.alloc (.cells #[.pointer (some (pJ.addr 0)), .int .i64 0, .int .i64 (k : Int)] 69)).heap.size, 0, k⟩ := hT
  have hn' : ∀ i, 6555 ≤ i → Ω i = none := hn2
  unfold OpenOnce
  generalize (w2.alloc (.cells #[.pointer (some (pJ.addr 0)), .int .i64 0, .int .i64 (k : Int)] 69)).alloc (.cells (Array.replicate k (.bool false)) 4) = w5 at hA4 ⊢
  generalize hE : (w2.alloc (.cells #[.pointer (some (pJ.addr 0)), .int .i64 0, .int .i64 (k : Int)] 69)).heap.size = tb at hT' ⊢
  generalize w2.heap.size = mb at hM' ⊢
  clear hA3 hA2 hA hM hT hn hn2 hle hle2 hJ h0 hE
  have okm : ∀ n, 6300 < n → OkB n (bmOf 0 (k : Int)) := fun n h => okBm n h _ _
  have hmA : ∀ t, MapAt w0 Ω (E2 (bmOf 0 (k : Int)) (btOf k t)) mb (.pointer (some (pJ.addr 0))) 0 k := fun t => mapAt_of (by kernel_rfl) hJ' hM'
  have hmA1 : ∀ t, MapAt w0 Ω (E3 (bmOf 0 (k : Int)) (btOf k t)) mb (.pointer (some (pJ.addr 0))) 0 k := fun t => mapAt_of (by kernel_rfl) hJ' hM'
  have hmA2 : ∀ t, MapAt w0 Ω (E4 (bmOf 0 (k : Int)) (btOf k t)) mb (.pointer (some (pJ.addr 0))) 0 k := fun t => mapAt_of (by kernel_rfl) hJ' hM'
  have hmB : ∀ t x, MapAt w0 Ω (E5 (bmOf 0 (k : Int)) (btOf k t) x) mb (.pointer (some (pJ.addr 0))) 0 k := fun t x => mapAt_of (by kernel_rfl) hJ' hM'
  have hops : ∀ u, Ops (.pointer (some ⟨mb, 0, none⟩)) k (fun t w => S1 w0 Ω (fun x => E5 (bmOf 0 (k : Int)) (btOf k u) x) k t w) := fun u => ops1 (w0 := w0) (B := fun x => E5 (bmOf 0 (k : Int)) (btOf k u) x) (fun x => rd_f0n1br (okm _ (by decide)) (okBt _ _ _) hJ' fun i hi => hn' i (by omega))
    (fun x y hy => by have := wr_f0n1bw (w0 := w0) (x := x) (y := y) (okm _ (by decide)) (okBt _ k u) hJ' fun i hi => hn' i (by omega); rwa [m8_id hy] at this) (hmB u) (by decide) (by decide) hk hk2
  refine ⟨mb, fun t w => ((∀ j, t j = false) ∧ At w0 Ω (E2 (bmOf 0 (k : Int)) (btOf k t)) w) ∨ S1 w0 Ω (fun x => E5 (bmOf 0 (k : Int)) (btOf k t) x) k t w, fun t u w => S1 w0 Ω (fun x => E5 (bmOf 0 (k : Int)) (btOf k u) x) k t w, rfl, ⟨?_, ?_, hops, ?_, ?_, ?_, ?_, ?_⟩, .inl ⟨fun _ => rfl, hA4⟩⟩
  · intro t w r hQ hr1 hr2 hr3
    rcases hQ with ⟨hz, hA⟩ | hS
    · have hr0 : r = 0 := by
        by_cases h : r = 0
        · exact h
        · have := hr3 0 (by omega); rw [hz 0] at this; cases this
      subst hr0
      have hw := wr_f0n1w (w0 := w0) (x := wb zr 0 true) (okm 6563 (by decide)) (okBt 6563 k t) hJ' fun i hi => hn' i (by omega)
      rw [m8_id (wb_oct zr_oct 0 true)] at hw
      refine (take_first (rd_f0n1a (okm _ (by decide)) (okBt _ k t) hJ' fun i hi => hn' i (by omega)) (rd_f0n1a1 (okm _ (by decide)) (okBt _ k t) hJ' fun i hi => hn' i (by omega)) hw (hmA t) (hmA1 t) (hmA2 t) (kf := 1025) (kk := 1) (r := ((0 : Nat) : Int)) ?_ (with_f zr_oct 0 (by decide) true) (by omega) (by omega) (by decide) (by decide) (by omega) (by omega) hnb (by decide) w hA).mono ?_
      · rw [minB0]
        exact free_f (x := zr) zr_oct (by omega) (by omega) (bit_zr 0) fun j hj => absurd hj (by omega)
      · rintro e w' ⟨he, hA'⟩
        refine ⟨he, _, wb_oct zr_oct 0 true, fun j _ => ?_, hA'⟩
        rw [bit_wb zr_oct]
        unfold updT
        rw [bit_zr, hz j]
    · exact (hops t).take t w r hS hr1 hr2 hr3
  · intro t w hQ hall
    rcases hQ with ⟨hz, hA⟩ | hS
    · have := hall 0 (by omega); rw [hz 0] at this; cases this
    · exact (hops t).full t w hS hall
  · intro t u w hS
    obtain ⟨x, _, _, hA⟩ := hS
    exact rowAt_of (by omega) (by kernel_rfl) hT' w hA
  · intro t u w n b hS hn
    obtain ⟨x, hx, hb, hA⟩ := hS
    exact ⟨x, hx, hb, hA.setBool (id := 6554) (t := u) (k := k) (n := n) (by omega) (by kernel_rfl) hT' hn b (by kernel_rfl)⟩
  · intro t u w hS he
    exact .inr (S1_ext hS he)
  · intro u w hQ
    rcases hQ with ⟨_, hA⟩ | hS
    · exact hA.base
    · obtain ⟨x, _, _, hA⟩ := hS; exact hA.base
  · intro t u w hS
    obtain ⟨x, _, _, hA⟩ := hS
    exact hA.base
end
end Go.Proofs.YteaacjabcfopgaaGreat.Run
