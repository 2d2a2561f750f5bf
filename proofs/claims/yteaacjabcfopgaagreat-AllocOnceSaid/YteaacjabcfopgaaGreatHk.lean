/-
  A map of up to 1100 things that is filled.
-/
import Derived.Test.YteaacjabcfopgaaGreatHj
set_option linter.unusedVariables false
set_option linter.unusedSimpArgs false
namespace Go.Proofs.YteaacjabcfopgaaGreat.Run
open Go Go.Proofs.YteaacjabcfopgaaGreat.Am Go.Proofs.YteaacjabcfopgaaGreat.Am.G Go.RowKit Go.Proofs Go.Proofs.YteaacjabcfopgaaGreat.PQ
set_option maxRecDepth 100000
noncomputable section
def zr : Nat → Nat := fun _ => 0
theorem zr_oct : Oct8 zr := fun _ => (by decide : 0 < 256)
theorem bit_zr (i : Nat) : bit zr i = false := Nat.zero_testBit _
structure FullK (w0 : World) (mv : Value) (k : Nat) (S : (Nat → Bool) → World → Prop) (P : Nat → World → Prop) : Prop where
  ops : Ops mv k S
  step : ∀ i w, P i w → i < k → Calls Tryz.prog 10 #[mv] w (Ret2 (P (i + 1)) i 0)
  fin : ∀ w, P k w → S (fun _ => true) w
  base : ∀ t w, S t w → Below w0.heap.size w0 w
def OpenFull (w0 : World) (k : Nat) (e : Ending) (w' : World) : Prop := ∃ (mb : Nat) (S : (Nat → Bool) → World → Prop) (P : Nat → World → Prop), e = .returned (.tuple #[.pointer (some ⟨mb, 0, none⟩), .int .i64 0]) ∧ FullK w0 (.pointer (some ⟨mb, 0, none⟩)) k S P ∧ P 0 w'
theorem S1_ext {w0 : World} {Φ : Phi} {B : (Nat → Nat) → H} {k : Nat} {t u : Nat → Bool} {w : World} (h : S1 w0 Φ B k t w) (e : ∀ j, j < k → t j = u j) : S1 w0 Φ B k u w := let ⟨x, a, b, c⟩ := h; ⟨x, a, fun j hj => (b j hj).trans (e j hj), c⟩
theorem S2_ext {w0 : World} {Φ : Phi} {D : (Nat → Nat) → (Nat → Nat) → H} {k : Nat} {t u : Nat → Bool} {w : World} (h : S2 w0 Φ D k t w) (hk : 1024 < k) (e : ∀ j, j < k → t j = u j) : S2 w0 Φ D k u w := let ⟨x, y, a, a2, b, b2, c⟩ := h; ⟨x, y, a, a2, fun j hj => (b j hj).trans (e j (by omega)), fun j hj => (b2 j hj).trans (e _ (by omega)), c⟩
theorem upd_lt (i : Nat) : ∀ j, updT (fun j => decide (j < i)) i true j = decide (j < i + 1) := fun j => by
  unfold updT
  by_cases e : j = i
  · rw [if_pos e]; subst e; exact (decide_eq_true (by omega)).symm
  · rw [if_neg e]
    show decide (j < i) = _
    by_cases h : j < i
    · rw [decide_eq_true h, decide_eq_true (by omega)]
    · rw [decide_eq_false h, decide_eq_false (by omega)]
theorem bit_w0 (j : Nat) : bit (wb zr 0 true) j = decide (j < 1) := by
  rw [bit_wb zr_oct]
  by_cases e : j = 0
  · rw [if_pos e]; subst e; rfl
  · rw [if_neg e, bit_zr, decide_eq_false (by omega)]
theorem full_one {w0 w : World} {Φ : Phi} {pJ : PB} (hA : At w0 Φ HB0 w) (hJ : Φ 6300 = some pJ) (h0 : ∀ i, 6533 ≤ i → Φ i = none) {k : Nat} (hk : 1 ≤ k) (hk2 : k ≤ 1024) :
    Calls Tryz.prog 9 #[.pointer (some (pJ.addr 0)), .int .i64 1, .int .i64 (k : Int)] w (OpenFull w0 k) := by
  have hnb : alloc_Blocks.f (k : Int) = some 1 := blocks_f (by omega) (by omega) (by omega) (by omega)
  refine (open1 (rd_f1n1o0 hJ fun i hi => h0 i (by omega)) (by omega) (by omega) (by omega) (by omega) hnb w hA).mono fun e w' hh => ?_
  obtain ⟨w2, hA2, rfl, rfl⟩ := hh
  obtain ⟨Ψ, hle, hM, hn, hA3⟩ := hA2.adopt (b := bmOf 1 (k : Int)) (o := .cells #[.pointer (some (pJ.addr 0)), .int .i64 1, .int .i64 (k : Int)] 69) (N := 3) fun φ' hle => bm_rb (hle _ _ hJ)
  have hA4 := hA3.leave (bmOf 0 0)
  have eH : (E6.new (bmOf 1 (k : Int))).new (bmOf 0 0) = E7 (bmOf 1 (k : Int)) (bmOf 0 0) := by kernel_rfl
  rw [eH] at hA4
  have hJ' := hle _ _ hJ
  have hM' : Ψ 6553 = some ⟨w2.heap.size, 0, 3⟩ := hM
  have hn' : ∀ i, 6554 ≤ i → Ψ i = none := hn
  have okm : ∀ n, 6300 < n → OkB n (bmOf 1 (k : Int)) := fun n h => okBm n h _ _
  have okt : ∀ n, 6300 < n → OkB n (bmOf 0 0) := fun n h => okBm n h _ _
  have hmA : MapAt w0 Ψ (E7 (bmOf 1 (k : Int)) (bmOf 0 0)) w2.heap.size (.pointer (some (pJ.addr 0))) 1 k := mapAt_of (by kernel_rfl) hJ' hM'
  have hmA1 : MapAt w0 Ψ (E8 (bmOf 1 (k : Int)) (bmOf 0 0)) w2.heap.size (.pointer (some (pJ.addr 0))) 1 k := mapAt_of (by kernel_rfl) hJ' hM'
  have hmA2 : MapAt w0 Ψ (E9 (bmOf 1 (k : Int)) (bmOf 0 0)) w2.heap.size (.pointer (some (pJ.addr 0))) 1 k := mapAt_of (by kernel_rfl) hJ' hM'
  have hmB : ∀ x, MapAt w0 Ψ (E10 (bmOf 1 (k : Int)) (bmOf 0 0) x) w2.heap.size (.pointer (some (pJ.addr 0))) 1 k := fun x => mapAt_of (by kernel_rfl) hJ' hM'
  have hops := ops1 (w0 := w0) (B := fun x => E10 (bmOf 1 (k : Int)) (bmOf 0 0) x) (fun x => rd_f1n1br (okm _ (by decide)) (okt _ (by decide)) hJ' fun i hi => hn' i (by omega))
    (fun x y hy => by have := wr_f1n1bw (w0 := w0) (x := x) (y := y) (okm _ (by decide)) (okt _ (by decide)) hJ' fun i hi => hn' i (by omega); rwa [m8_id hy] at this) hmB (by decide) (by decide) hk hk2
  refine ⟨w2.heap.size, S1 w0 Ψ (fun x => E10 (bmOf 1 (k : Int)) (bmOf 0 0) x) k, fun i w => (i = 0 ∧ At w0 Ψ (E7 (bmOf 1 (k : Int)) (bmOf 0 0)) w) ∨ (0 < i ∧ S1 w0 Ψ (fun x => E10 (bmOf 1 (k : Int)) (bmOf 0 0) x) k (fun j => decide (j < i)) w), rfl, ⟨hops, ?_, ?_, ?_⟩, .inl ⟨rfl, hA4⟩⟩
  · intro i w hP hi
    rcases hP with ⟨rfl, hP⟩ | ⟨h1, hP⟩
    · have hw := wr_f1n1w (w0 := w0) (x := wb zr 0 true) (okm 6563 (by decide)) (okt 6563 (by decide)) hJ' fun i hi => hn' i (by omega)
      rw [m8_id (wb_oct zr_oct 0 true)] at hw
      refine (take_first (rd_f1n1a (okm _ (by decide)) (okt _ (by decide)) hJ' fun i hi => hn' i (by omega)) (rd_f1n1a1 (okm _ (by decide)) (okt _ (by decide)) hJ' fun i hi => hn' i (by omega)) hw hmA hmA1 hmA2 (kf := 1025) (kk := 1) (r := ((0 : Nat) : Int)) ?_ (with_f zr_oct 0 (by decide) true) (by omega) (by omega) (by decide) (by decide) (by omega) (by omega) hnb (by decide) w hP).mono ?_
      · rw [minB0]
        exact free_f (x := zr) zr_oct (by omega) (by omega) (bit_zr 0) fun j hj => absurd hj (by omega)
      · rintro e w' ⟨he, hA'⟩
        exact ⟨he, .inr ⟨by omega, _, wb_oct zr_oct 0 true, fun j _ => bit_w0 j, hA'⟩⟩
    · refine (hops.take _ w i hP hi (decide_eq_false (by omega)) fun j hj => decide_eq_true hj).mono ?_
      rintro e w' ⟨he, hA'⟩
      exact ⟨he, .inr ⟨by omega, S1_ext hA' fun j _ => upd_lt i j⟩⟩
  · intro w hP
    rcases hP with ⟨h1, _⟩ | ⟨h1, hP⟩
    · omega
    · exact S1_ext hP fun j hj => decide_eq_true hj
  · intro t w hS
    obtain ⟨x, _, _, hA⟩ := hS
    exact hA.base
theorem full_two {w0 w : World} {Φ : Phi} {pJ : PB} (hA : At w0 Φ HB0 w) (hJ : Φ 6300 = some pJ) (h0 : ∀ i, 6533 ≤ i → Φ i = none) {k : Nat} (hk : 1024 < k) (hk2 : k ≤ 2048) :
    Calls Tryz.prog 9 #[.pointer (some (pJ.addr 0)), .int .i64 1, .int .i64 (k : Int)] w (OpenFull w0 k) := by
  have hnb : alloc_Blocks.f (k : Int) = some 2 := blocks_f (by omega) (by omega) (by omega) (by omega)
  have hmn : min k 1024 = 1024 := by omega
  refine (open2 (rd_f1n1o0 hJ fun i hi => h0 i (by omega)) (rd_f1n2o1 hJ fun i hi => h0 i (by omega)) (by omega) (by omega) (by omega) (by omega) hnb w hA).mono fun e w' hh => ?_
  obtain ⟨w2, hA2, rfl, rfl⟩ := hh
  obtain ⟨Ψ, hle, hM, hn, hA3⟩ := hA2.adopt (b := bmOf 1 (k : Int)) (o := .cells #[.pointer (some (pJ.addr 0)), .int .i64 1, .int .i64 (k : Int)] 69) (N := 3) fun φ' hle => bm_rb (hle _ _ hJ)
  have hA4 := hA3.leave (bmOf 0 0)
  have eH : (E11.new (bmOf 1 (k : Int))).new (bmOf 0 0) = E12 (bmOf 1 (k : Int)) (bmOf 0 0) := by kernel_rfl
  rw [eH] at hA4
  have hJ' := hle _ _ hJ
  have hM' : Ψ 6573 = some ⟨w2.heap.size, 0, 3⟩ := hM
  have hn' : ∀ i, 6574 ≤ i → Ψ i = none := hn
  have okm : ∀ n, 6300 < n → OkB n (bmOf 1 (k : Int)) := fun n h => okBm n h _ _
  have okt : ∀ n, 6300 < n → OkB n (bmOf 0 0) := fun n h => okBm n h _ _
  have hmA : MapAt w0 Ψ (E12 (bmOf 1 (k : Int)) (bmOf 0 0)) w2.heap.size (.pointer (some (pJ.addr 0))) 1 k := mapAt_of (by kernel_rfl) hJ' hM'
  have hmA1 : MapAt w0 Ψ (E13 (bmOf 1 (k : Int)) (bmOf 0 0)) w2.heap.size (.pointer (some (pJ.addr 0))) 1 k := mapAt_of (by kernel_rfl) hJ' hM'
  have hmA2 : MapAt w0 Ψ (E14 (bmOf 1 (k : Int)) (bmOf 0 0)) w2.heap.size (.pointer (some (pJ.addr 0))) 1 k := mapAt_of (by kernel_rfl) hJ' hM'
  have hmB : ∀ x, MapAt w0 Ψ (E15 (bmOf 1 (k : Int)) (bmOf 0 0) x) w2.heap.size (.pointer (some (pJ.addr 0))) 1 k := fun x => mapAt_of (by kernel_rfl) hJ' hM'
  have hmC : ∀ x, MapAt w0 Ψ (E16 (bmOf 1 (k : Int)) (bmOf 0 0) x) w2.heap.size (.pointer (some (pJ.addr 0))) 1 k := fun x => mapAt_of (by kernel_rfl) hJ' hM'
  have hmC2 : ∀ x, MapAt w0 Ψ (E17 (bmOf 1 (k : Int)) (bmOf 0 0) x) w2.heap.size (.pointer (some (pJ.addr 0))) 1 k := fun x => mapAt_of (by kernel_rfl) hJ' hM'
  have hmD : ∀ x y, MapAt w0 Ψ (E18 (bmOf 1 (k : Int)) (bmOf 0 0) x y) w2.heap.size (.pointer (some (pJ.addr 0))) 1 k := fun x y => mapAt_of (by kernel_rfl) hJ' hM'
  have hops := ops2 (w0 := w0) (first := 1) (D := fun x y => E18 (bmOf 1 (k : Int)) (bmOf 0 0) x y) (fun x y => rd_f1n2dr0 (okm _ (by decide)) (okt _ (by decide)) hJ' fun i hi => hn' i (by omega)) (fun x y => rd_f1n2dr1 (okm _ (by decide)) (okt _ (by decide)) hJ' fun i hi => hn' i (by omega))
    (fun x y z hz => by have := wr_f1n2dw0 (w0 := w0) (x := x) (y := y) (z := z) (okm _ (by decide)) (okt _ (by decide)) hJ' fun i hi => hn' i (by omega); rwa [m8_id hz] at this)
    (fun x y z hz => by have := wr_f1n2dw1 (w0 := w0) (x := x) (y := y) (z := z) (okm _ (by decide)) (okt _ (by decide)) hJ' fun i hi => hn' i (by omega); rwa [m8_id hz] at this) hmD (by decide) (by decide) hk hk2
  refine ⟨w2.heap.size, S2 w0 Ψ (fun x y => E18 (bmOf 1 (k : Int)) (bmOf 0 0) x y) k, fun i w => (i = 0 ∧ At w0 Ψ (E12 (bmOf 1 (k : Int)) (bmOf 0 0)) w) ∨ ((0 < i ∧ i ≤ 1024) ∧ ∃ x, Oct8 x ∧ (∀ j, j < 1024 → bit x j = decide (j < i)) ∧ At w0 Ψ (E15 (bmOf 1 (k : Int)) (bmOf 0 0) x) w) ∨ (1024 < i ∧ S2 w0 Ψ (fun x y => E18 (bmOf 1 (k : Int)) (bmOf 0 0) x y) k (fun j => decide (j < i)) w), rfl, ⟨hops, ?_, ?_, ?_⟩, .inl ⟨rfl, hA4⟩⟩
  · intro i w hP hi
    rcases hP with ⟨rfl, hP⟩ | ⟨⟨h1, h2⟩, x, hx, hb, hP⟩ | ⟨h1, hP⟩
    · have hw := wr_f1n2w (w0 := w0) (x := wb zr 0 true) (okm 6583 (by decide)) (okt 6583 (by decide)) hJ' fun i hi => hn' i (by omega)
      rw [m8_id (wb_oct zr_oct 0 true)] at hw
      refine (take_first (rd_f1n2a (okm _ (by decide)) (okt _ (by decide)) hJ' fun i hi => hn' i (by omega)) (rd_f1n2a1 (okm _ (by decide)) (okt _ (by decide)) hJ' fun i hi => hn' i (by omega)) hw hmA hmA1 hmA2 (kf := 1025) (kk := 1) (r := ((0 : Nat) : Int)) ?_ (with_f zr_oct 0 (by decide) true) (by omega) (by omega) (by decide) (by decide) (by omega) (by omega) hnb (by decide) w hP).mono ?_
      · rw [minB0]
        exact free_f (x := zr) zr_oct (by omega) (by omega) (bit_zr 0) fun j hj => absurd hj (by omega)
      · rintro e w' ⟨he, hA'⟩
        exact ⟨he, .inr (.inl ⟨⟨by omega, by omega⟩, _, wb_oct zr_oct 0 true, fun j _ => bit_w0 j, hA'⟩)⟩
    · by_cases h3 : i < 1024
      · have hw := wr_f1n2bw (w0 := w0) (x := x) (y := wb x i true) (okm 6583 (by decide)) (okt 6583 (by decide)) hJ' fun i hi => hn' i (by omega)
        rw [m8_id (wb_oct hx i true)] at hw
        have hr := rd_f1n2br (w0 := w0) (x := x) (okm _ (by decide)) (okt _ (by decide)) hJ' fun i hi => hn' i (by omega)
        refine (take_first hr hr hw (hmB x) (hmB x) (hmB x) (kf := 1025) (kk := 1) (r := (i : Int)) ?_ (with_f hx i (by omega) true) (by omega) (by omega) (by decide) (by decide) (by omega) (by omega) hnb (by decide) w hP).mono ?_
        · rw [minB0, hmn]
          exact free_f hx (by omega) h3 (by rw [hb i h3]; exact decide_eq_false (by omega)) fun j hj => by rw [hb j (by omega)]; exact decide_eq_true hj
        · rintro e w' ⟨he, hA'⟩
          exact ⟨he, .inr (.inl ⟨⟨by omega, by omega⟩, _, wb_oct hx i true, fun j hj => by rw [bit_upd hx hb i true j hj]; exact upd_lt i j, hA'⟩)⟩
      · have hi' : i = 1024 := by omega
        have hw := wr_f1n2cw (w0 := w0) (x := x) (y := wb zr 0 true) (okm 6591 (by decide)) (okt 6591 (by decide)) hJ' fun i hi => hn' i (by omega)
        rw [m8_id (wb_oct zr_oct 0 true)] at hw
        have hr := rd_f1n2br (w0 := w0) (x := x) (okm _ (by decide)) (okt _ (by decide)) hJ' fun i hi => hn' i (by omega)
        have hr2 := rd_f1n2c (w0 := w0) (x := x) (okm _ (by decide)) (okt _ (by decide)) hJ' fun i hi => hn' i (by omega)
        have hr3 := rd_f1n2c1 (w0 := w0) (x := x) (okm _ (by decide)) (okt _ (by decide)) hJ' fun i hi => hn' i (by omega)
        refine (take_second hr hr2 hr3 hw (hmB x) (hmB x) (hmC x) (hmC2 x) (kf := 1025) (kf2 := 1025) (kk := 1) (r := ((0 : Nat) : Int)) ?_ ?_ (with_f zr_oct 0 (by decide) true) (by omega) (by omega) (by decide) (by decide) (by omega) (by omega) hnb w hP).mono ?_
        · rw [minB0, hmn]
          exact full_f hx (by omega) fun j hj => by rw [hb j hj]; exact decide_eq_true (by omega)
        · rw [minB1 k hk hk2]
          exact free_f (x := zr) zr_oct (by omega) (by omega) (bit_zr 0) fun j hj => absurd hj (by omega)
        · rintro e w' ⟨he, hA'⟩
          refine ⟨?_, .inr (.inr ⟨by omega, x, _, hx, wb_oct zr_oct 0 true, fun j hj => ?_, fun j hj => ?_, hA'⟩)⟩
          · rw [he]
            have : (1024 : Int) + ((0 : Nat) : Int) = ((i : Nat) : Int) := by omega
            rw [this]
          · show _ = decide (j < i + 1)
            rw [hb j hj, decide_eq_true (by omega), decide_eq_true (by omega)]
          · show _ = decide (1024 + j < i + 1)
            rw [bit_w0 j]
            by_cases h4 : j < 1
            · rw [decide_eq_true h4, decide_eq_true (by omega)]
            · rw [decide_eq_false h4, decide_eq_false (by omega)]
    · refine (hops.take _ w i hP hi (decide_eq_false (by omega)) fun j hj => decide_eq_true hj).mono ?_
      rintro e w' ⟨he, hA'⟩
      exact ⟨he, .inr (.inr ⟨by omega, S2_ext hA' hk fun j _ => upd_lt i j⟩)⟩
  · intro w hP
    rcases hP with ⟨h1, _⟩ | ⟨⟨_, h1⟩, _⟩ | ⟨h1, hP⟩
    · omega
    · omega
    · exact S2_ext hP hk fun j hj => decide_eq_true hj
  · intro t w hS
    obtain ⟨x, y, _, _, _, _, hA⟩ := hS
    exact hA.base
theorem open_full {w0 w : World} {Φ : Phi} {pJ : PB} (hA : At w0 Φ HB0 w) (hJ : Φ 6300 = some pJ) (h0 : ∀ i, 6533 ≤ i → Φ i = none) {k : Nat} (hk : 1 ≤ k) (hk2 : k ≤ 2048) :
    Calls Tryz.prog 9 #[.pointer (some (pJ.addr 0)), .int .i64 1, .int .i64 (k : Int)] w (OpenFull w0 k) := by
  by_cases h : k ≤ 1024
  · exact full_one hA hJ h0 hk h
  · exact full_two hA hJ h0 (by omega) hk2
end
end Go.Proofs.YteaacjabcfopgaaGreat.Run
