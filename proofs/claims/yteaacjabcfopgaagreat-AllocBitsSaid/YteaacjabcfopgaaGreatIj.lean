/-
  The families of heaps for maps of one, two and three blocks.
-/
import Derived.Test.YteaacjabcfopgaaGreatId
import Derived.Test.YteaacjabcfopgaaGreatIb
import Derived.KernelRfl
import Derived.Test.YteaacjabcfopgaaGreatIc1
import Derived.Test.YteaacjabcfopgaaGreatIc2
import Derived.Test.YteaacjabcfopgaaGreatIc3
set_option linter.unusedVariables false
set_option linter.unusedSimpArgs false
section
set_option linter.unusedVariables false
set_option linter.unusedSimpArgs false
namespace Go.Proofs.YteaacjabcfopgaaGreat.Run
open Go Go.Proofs.YteaacjabcfopgaaGreat.Am Go.Proofs.YteaacjabcfopgaaGreat.Am.G Go.RowKit Go.Proofs Go.Proofs.YteaacjabcfopgaaGreat.PQ Go.Proofs.YteaacjabcfopgaaGreatW.PrintWords
set_option maxRecDepth 1000000
set_option maxHeartbeats 4000000
structure Places (Φ : Phi) (pJ pD : PB) (n0 mb tb xb wb k cap : Nat) : Prop where
  hJ : Φ 6300 = some pJ
  hD : Φ 6532 = some pD
  hM : Φ n0 = some ⟨mb, 0, 3⟩
  hT : Φ (n0 + 1) = some ⟨tb, 0, k⟩
  hX : Φ (n0 + 2) = some ⟨xb, 0, 1⟩
  hW : Φ (n0 + 3) = some ⟨wb, 0, cap⟩
structure Fam (n0 a k : Nat) (x0 : Nat → Nat) (G : (Nat → Bool) → H) : Prop where
  getM : ∀ u, (G u).h.get n0 = some (bmOf (a : Int) (k : Int))
  getT : ∀ u, (G u).h.get (n0 + 1) = some (btOf k u)
  getX : ∀ u, (G u).h.get (n0 + 2) = some (bxOf (n0 + 1) k)
  getW : ∀ u, (G u).h.get (n0 + 3) = some (btOf 1024 (bit x0))
  getD : ∀ u, (G u).load 6532 2 1 = some [.ptr 6300 0]
  upd : ∀ u u', (G u).upd (n0 + 1) (btOf k u') = G u'
def Rel (w0 : World) (Φ : Phi) (P : (Nat → Bool) → ((Nat → Bool) → H) → Prop) (t u : Nat → Bool) (w : World) : Prop := ∃ G, P t G ∧ At w0 Φ (G u) w
section
variable {w0 : World} {Φ : Phi} {pJ pD : PB} {n0 mb tb xb wb a k cap : Nat} {x0 : Nat → Nat} {P : (Nat → Bool) → ((Nat → Bool) → H) → Prop}
theorem Fam.map {G : (Nat → Bool) → H} (hG : Fam n0 a k x0 G) (pl : Places Φ pJ pD n0 mb tb xb wb k cap) (u : Nat → Bool) : MapAt w0 Φ (G u) mb (.pointer (some (pJ.addr 0))) a k := mapAt_of (hG.getM u) pl.hJ pl.hM
theorem rel_ref (pl : Places Φ pJ pD n0 mb tb xb wb k cap) (hk : k ≤ 4096) (hP : ∀ t G, P t G → Fam n0 a k x0 G) (t : Nat → Bool) : RefAt xb tb k (Rel w0 Φ P t) := by
  refine ⟨?_, ?_, ?_, ?_⟩
  · rintro u w ⟨G, hp, hA⟩
    exact refAt_of ((hP _ _ hp).getX u) pl.hX pl.hT hA
  · rintro u w ⟨G, hp, hA⟩
    obtain ⟨r1, r2, r3, r4⟩ := rowAt_of (w0 := w0) hk ((hP _ _ hp).getT u) pl.hT w hA
    exact ⟨r1, r2, r3⟩
  · rintro u w n b ⟨G, hp, hA⟩ hn
    exact ⟨G, hp, hA.setBool hk ((hP _ _ hp).getT u) pl.hT hn b ((hP _ _ hp).upd u _)⟩
  · rintro u w w' ⟨G, hp, hA⟩ hB
    exact ⟨G, hp, hA.below hB⟩
theorem rel_was (pl : Places Φ pJ pD n0 mb tb xb wb k cap) (hP : ∀ t G, P t G → Fam n0 a k x0 G) (t u : Nat → Bool) (w : World) (h : Rel w0 Φ P t u w) : (∀ j, j < 1024 → w.cell? ⟨wb, j, none⟩ = some (.bool (bit x0 j))) ∧ wb < w.heap.size := by
  obtain ⟨G, hp, hA⟩ := h
  exact rowN_of (by decide) ((hP _ _ hp).getW u) pl.hW hA
theorem Places.add {nS : Nat} {p : PB} (pl : Places Φ pJ pD n0 mb tb xb wb k cap) (h : n0 + 4 ≤ nS) (h6 : 6532 < n0) : Places (Φ.add nS p) pJ pD n0 mb tb xb wb k cap :=
  ⟨(Phi.add_ne (by omega)).trans pl.hJ, (Phi.add_ne (by omega)).trans pl.hD, (Phi.add_ne (by omega)).trans pl.hM, (Phi.add_ne (by omega)).trans pl.hT, (Phi.add_ne (by omega)).trans pl.hX, (Phi.add_ne (by omega)).trans pl.hW⟩
theorem rel_box {nS ob : Nat} {n : Int} {Pb : (Nat → Bool) → ((Nat → Bool) → H) → Prop} (hP : ∀ t G, Pb t G → ∀ u, (G u).h.get nS = some (boOf n)) (t u : Nat → Bool) (w : World) (h : Rel w0 (Φ.add nS ⟨ob, 0, 3⟩) Pb t u w) : w.cell? ⟨ob, 0, none⟩ = some (.int .i64 2) ∧ w.cell? ⟨ob, 1, none⟩ = some (.int .i64 n) ∧ ob < w.heap.size := by
  obtain ⟨G, hp, hA⟩ := h
  exact hA.boxed (hP _ _ hp u) (Phi.add_at _ _ _)
theorem add_le {nS : Nat} {p : PB} (h : Φ nS = none) : Φ.le (Φ.add nS p) := Phi.le_add h
theorem dcell {h : H} {w : World} (hl : h.load 6532 2 1 = some [.ptr 6300 0]) (hD : Φ 6532 = some pD) (hJ : Φ 6300 = some pJ) (hA : At w0 Φ h w) : w.cell? ⟨pD.blk, pD.sh + 0 + 2, none⟩ = some (.pointer (some (pJ.addr 0))) := by
  obtain ⟨φ, hle, hR⟩ := hA
  obtain ⟨vs, v1, v2, v3, v4, v5⟩ := hR.load hl (hle _ _ hD)
  cases v2 with
  | cons a1 a2 =>
  cases a1 with
  | ptr hJ2 =>
  have := hle _ _ hJ
  rw [this] at hJ2
  cases hJ2
  exact v4 0 (by decide)
theorem rel_d (pl : Places Φ pJ pD n0 mb tb xb wb k cap) (hP : ∀ t G, P t G → Fam n0 a k x0 G) (t u : Nat → Bool) (w : World) (h : Rel w0 Φ P t u w) : w.cell? ⟨pD.blk, pD.sh + 0 + 2, none⟩ = some (.pointer (some (pJ.addr 0))) := by
  obtain ⟨G, hp, hA⟩ := h
  exact dcell ((hP _ _ hp).getD u) pl.hD pl.hJ hA
theorem rel_base (t u : Nat → Bool) (w : World) (h : Rel w0 Φ P t u w) : Below w0.heap.size w0 w := by
  obtain ⟨G, hp, hA⟩ := h
  exact hA.base
end
end Go.Proofs.YteaacjabcfopgaaGreat.Run
end
section
set_option linter.unusedVariables false
set_option linter.unusedSimpArgs false
namespace Go.Proofs.YteaacjabcfopgaaGreat.Run
open Go Go.Proofs.YteaacjabcfopgaaGreat.Am Go.Proofs.YteaacjabcfopgaaGreat.Am.G Go.RowKit Go.Proofs Go.Proofs.YteaacjabcfopgaaGreat.PQ Go.Proofs.YteaacjabcfopgaaGreatW.PrintWords
set_option maxRecDepth 1000000
set_option maxHeartbeats 4000000
noncomputable def F4 (x0 : Nat → Nat) (a k : Nat) (x : Nat → Nat) (u : Nat → Bool) : H := K4 (rB x0 false) (bmOf (a : Int) (k : Int)) (btOf k u) (bxOf 6535 k) (btOf 1024 (bit x0)) x a
theorem fam4 (x0 : Nat → Nat) (a k : Nat) (x : Nat → Nat) : Fam 6534 a k x0 (F4 x0 a k x) := ⟨fun u => by kernel_rfl, fun u => by kernel_rfl, fun u => by kernel_rfl, fun u => by kernel_rfl, fun u => by kernel_rfl, fun u u' => by kernel_rfl⟩
noncomputable def B3 (bo : Blk) (x0 : Nat → Nat) (a k : Nat) (x : Nat → Nat) (u : Nat → Bool) : H := K3 (rB x0 false) (bmOf (a : Int) (k : Int)) (btOf k u) (bxOf 6535 k) (btOf 1024 (bit x0)) bo x a
theorem famB3 (bo : Blk) (x0 : Nat → Nat) (a k : Nat) (x : Nat → Nat) : Fam 6534 a k x0 (B3 bo x0 a k x) := ⟨fun u => by kernel_rfl, fun u => by kernel_rfl, fun u => by kernel_rfl, fun u => by kernel_rfl, fun u => by kernel_rfl, fun u u' => by kernel_rfl⟩
theorem getB3 (bo : Blk) (x0 : Nat → Nat) (a k : Nat) (x : Nat → Nat) (u : Nat → Bool) : (B3 bo x0 a k x u).h.get 6538 = some bo := by kernel_rfl
theorem boxF4 (bo : Blk) (x0 : Nat → Nat) (a k : Nat) (x : Nat → Nat) (u : Nat → Bool) : (F4 x0 a k x u).new bo = B3 bo x0 a k x u := box_K3 _ _ _ _ _ _ _ _
theorem dropF4 (bo : Blk) (x0 : Nat → Nat) (a k : Nat) (x : Nat → Nat) (u : Nat → Bool) : ∀ i bl, (F4 x0 a k x u).h.get i = some bl → (B3 bo x0 a k x u).h.get i = some bl ∧ i < (F4 x0 a k x u).next ∧ OkB (F4 x0 a k x u).next bl := drop_K3 (okRb _ _) (okBm _ (by decide) _ _) (okBt _ _ _) (okBx (by decide)) (okBt _ _ _)
def P1 (x0 : Nat → Nat) (a k : Nat) (t : Nat → Bool) (G : (Nat → Bool) → H) : Prop := ∃ x, Oct8 x ∧ (∀ j, j < 1024 → bit x j = t (1024 * 0 + j)) ∧ G = F4 x0 a k x
def PB1 (n : Int) (x0 : Nat → Nat) (a k : Nat) (t : Nat → Bool) (G : (Nat → Bool) → H) : Prop := ∃ x, Oct8 x ∧ (∀ j, j < 1024 → bit x j = t (1024 * 0 + j)) ∧ G = B3 (boOf n) x0 a k x
section
variable {w0 : World} {Φ : Phi} {pJ pD : PB} {mb tb xb wb a k cap : Nat} {x0 : Nat → Nat} {bo : Blk}
theorem rd4B (pl : Places Φ pJ pD 6534 mb tb xb wb k cap) (h0 : ∀ i, 6539 ≤ i → Φ i = none) (hbo : ∀ N, OkB N bo) (ha : a < 8) (x : Nat → Nat) (u : Nat → Bool) : Reads w0 Φ (.pointer (some (pJ.addr 0))) (B3 bo x0 a k x u) (Int.ofNat a) x (B3 bo x0 a k x u) :=
  rd_n1dr0 ha (okRb _ _) (okBm _ (by decide) _ _) (okBt _ _ _) (okBx (by decide)) (okBt _ _ _) (hbo _) pl.hJ h0
theorem wr4B (pl : Places Φ pJ pD 6534 mb tb xb wb k cap) (h0 : ∀ i, 6539 ≤ i → Φ i = none) (hbo : ∀ N, OkB N bo) (ha : a < 8) (x z : Nat → Nat) (hy : Oct8 z) (u : Nat → Bool) : Writes w0 Φ (.pointer (some (pJ.addr 0))) (B3 bo x0 a k x u) (Int.ofNat a) z (B3 bo x0 a k z u) := by
  have := wr_n1dw0 (w0 := w0) (x := x) (z := z) ha (okRb 6539 x0) (okBm 6539 (by decide) (a : Int) (k : Int)) (okBt 6539 k u) (okBx (n := 6539) (tid := 6535) (k := k) (by decide)) (okBt 6539 1024 (bit x0)) (hbo 6539) pl.hJ h0
  rw [m8_id hy] at this
  exact this
theorem rd4 (pl : Places Φ pJ pD 6534 mb tb xb wb k cap) (hf : ∀ i, 6538 ≤ i → Φ i = none) (ha : a < 8) (x : Nat → Nat) (u : Nat → Bool) : Reads w0 Φ (.pointer (some (pJ.addr 0))) (F4 x0 a k x u) (Int.ofNat a) x (F4 x0 a k x u) :=
  reads_unbox (bo := boOf 0) (rd4B (bo := boOf 0) pl (fun i hi => hf i (by omega)) (fun N => okBo N 0) ha x u) (boxF4 _ x0 a k x u) (dropF4 _ x0 a k x u) (fun i hi => hf i (by have : 6538 ≤ i := hi; omega))
theorem wr4 (pl : Places Φ pJ pD 6534 mb tb xb wb k cap) (hf : ∀ i, 6538 ≤ i → Φ i = none) (ha : a < 8) (x z : Nat → Nat) (hy : Oct8 z) (u : Nat → Bool) : Writes w0 Φ (.pointer (some (pJ.addr 0))) (F4 x0 a k x u) (Int.ofNat a) z (F4 x0 a k z u) :=
  writes_unbox (bo := boOf 0) (wr4B (bo := boOf 0) pl (fun i hi => hf i (by omega)) (fun N => okBo N 0) ha x z hy u) (boxF4 _ x0 a k x u) (dropF4 _ x0 a k z u) (fun i hi => hf i (by have : 6538 ≤ i := hi; omega))
theorem bits1 (pl : Places Φ pJ pD 6534 mb tb xb wb k cap) (hf : ∀ i, 6538 ≤ i → Φ i = none) (ha : a < 8) (hk : 1 ≤ k) (hk2 : k ≤ 1024) :
    BitsK w0 (.pointer (some ⟨mb, 0, none⟩)) (.pointer (some (pJ.addr 0))) ⟨pD.blk, pD.sh + 0 + 2, none⟩ a k 1 xb tb wb x0 (Rel w0 Φ (P1 x0 a k)) (Rel w0 Φ (P1 x0 a k)) (fun _ => Rel w0 Φ (P1 x0 a k)) (fun ob n => Rel w0 (Φ.add 6538 ⟨ob, 0, 3⟩) (PB1 n x0 a k)) := by
  have hP : ∀ t G, P1 x0 a k t G → Fam 6534 a k x0 G := by
    rintro t G ⟨x, _, _, rfl⟩
    exact fam4 x0 a k x
  have hPB : ∀ n t G, PB1 n x0 a k t G → Fam 6534 a k x0 G := by
    rintro n t G ⟨x, _, _, rfl⟩
    exact famB3 _ x0 a k x
  have plb : ∀ ob, Places (Φ.add 6538 ⟨ob, 0, 3⟩) pJ pD 6534 mb tb xb wb k cap := fun ob => pl.add (by decide) (by decide)
  have h0b : ∀ (ob i : Nat), 6539 ≤ i → Φ.add 6538 ⟨ob, 0, 3⟩ i = none := fun ob i hi => (Phi.add_ne (by omega)).trans (hf i (by omega))
  have hnb : alloc_Blocks.f (k : Int) = some 1 := blocks_f (by omega) (by omega) (by omega) (by omega)
  have take : ∀ t u w r, Rel w0 Φ (P1 x0 a k) t u w → r < k → r < 1024 → t r = false → (∀ j, j < r → t j = true) → Calls Tryz.prog 10 #[.pointer (some ⟨mb, 0, none⟩)] w (Ret2 (Rel w0 Φ (P1 x0 a k) (updT t r true) u) r 0) := by
    rintro t u w r ⟨G, ⟨x, hx, hb, rfl⟩, hA⟩ h1 h2 h3 h4
    have hm := (fam4 x0 a k x).map (w0 := w0) pl u
    refine (take0 (h3 := fun y => F4 x0 a k y u) hx (rd4 pl hf ha x u) (rd4 pl hf ha x u) (fun y hy => wr4 pl hf ha x y hy u) hm hm hm ha hk (by omega) hnb (by omega) (fun j hj => by rw [hb j hj]; congr 1; omega) h1 h2 h3 h4 w hA).mono ?_
    rintro e w' ⟨he, hA'⟩
    refine ⟨he, _, ⟨_, wb_oct hx r true, ?_, rfl⟩, hA'⟩
    have := bit_upd0 hx (i := r) hb (by omega) true
    rwa [Nat.mod_eq_of_lt h2] at this
  have full : ∀ t u w, Rel w0 Φ (P1 x0 a k) t u w → k ≤ 1024 → (∀ j, j < k → t j = true) → Calls Tryz.prog 10 #[.pointer (some ⟨mb, 0, none⟩)] w (Ret2 (Rel w0 Φ (P1 x0 a k) t u) 0 27) := by
    rintro t u w ⟨G, ⟨x, hx, hb, rfl⟩, hA⟩ h1 h2
    have hm := (fam4 x0 a k x).map (w0 := w0) pl u
    refine (full0 hx (rd4 pl hf ha x u) hm hm ha hk hk2 (fun j hj => by rw [hb j hj]; congr 1; omega) h2 w hA).mono ?_
    rintro e w' ⟨he, hA'⟩
    exact ⟨he, _, ⟨_, hx, hb, rfl⟩, hA'⟩
  refine ⟨rel_ref pl (by omega) hP, rel_ref pl (by omega) hP, fun _ => rel_ref pl (by omega) hP, take, take, full, full, ?_, fun ob n => rel_ref (plb ob) (by omega) (hPB n), fun ob n => rel_box ?_, ?_, ?_, ?_, fun _ _ _ h => h, fun _ _ _ h => h, ?_, rel_was pl hP, fun _ => rel_was pl hP, rel_base, fun _ => rel_base, rel_d pl hP, fun _ => rel_d pl hP⟩
  · rintro t u w n ⟨G, ⟨x, hx, hb, rfl⟩, hA⟩
    have h := hA.box n
    rw [boxF4] at h
    exact ⟨_, ⟨x, hx, hb, rfl⟩, h⟩
  · rintro t G ⟨x, _, _, rfl⟩ u
    exact getB3 _ x0 a k x u
  · rintro ob n t u w ⟨G, ⟨x, hx, hb, rfl⟩, hA⟩
    exact ⟨_, ⟨x, hx, hb, rfl⟩, hA.drop (add_le (hf _ (by decide))) (dropF4 _ x0 a k x u) fun i hi => hf i (by have : 6538 ≤ i := hi; omega)⟩
  · rintro ob n t u w i ⟨G, ⟨x, hx, hb, rfl⟩, hA⟩ hi ht
    have hm := (famB3 (boOf n) x0 a k x).map (w0 := w0) (plb ob) u
    refine (giveq (q := 0) (h3 := fun y => B3 (boOf n) x0 a k y u) hx (rd4B (plb ob) (h0b ob) (fun N => okBo N n) ha x u) (rd4B (plb ob) (h0b ob) (fun N => okBo N n) ha x u) (fun y hy => wr4B (plb ob) (h0b ob) (fun N => okBo N n) ha x y hy u) hm hm hm ha (by omega) hb hi (by omega) ht w hA).mono ?_
    rintro e w' ⟨he, hA'⟩
    exact ⟨he, _, ⟨_, wb_oct hx _ false, bit_upd0 hx hb (by omega) false, rfl⟩, hA'⟩
  · rintro ob n t u w i ⟨G, ⟨x, hx, hb, rfl⟩, hA⟩ hi ht
    have hm := (famB3 (boOf n) x0 a k x).map (w0 := w0) (plb ob) u
    refine (giveFq (q := 0) hx (rd4B (plb ob) (h0b ob) (fun N => okBo N n) ha x u) hm hm ha (by omega) hb hi (by omega) ht w hA).mono ?_
    rintro e w' ⟨he, hA'⟩
    exact ⟨he, _, ⟨_, hx, hb, rfl⟩, hA'⟩
  · rintro b t u w hb1 ⟨G, ⟨x, hx, hb, rfl⟩, hA⟩
    obtain rfl : b = 0 := by omega
    refine (rd4 pl hf ha x u w hA).mono ?_
    rintro e w' ⟨A0, c, he, hc, hC, hA'⟩
    exact ⟨A0, c, x, he, hc, hC, hx, hb, _, ⟨_, hx, hb, rfl⟩, hA'⟩
end
end Go.Proofs.YteaacjabcfopgaaGreat.Run
end
section
set_option linter.unusedVariables false
set_option linter.unusedSimpArgs false
namespace Go.Proofs.YteaacjabcfopgaaGreat.Run
open Go Go.Proofs.YteaacjabcfopgaaGreat.Am Go.Proofs.YteaacjabcfopgaaGreat.Am.G Go.RowKit Go.Proofs Go.Proofs.YteaacjabcfopgaaGreat.PQ Go.Proofs.YteaacjabcfopgaaGreatW.PrintWords
set_option maxRecDepth 1000000
set_option maxHeartbeats 4000000
noncomputable def F8 (x0 : Nat → Nat) (a k : Nat) (x : Nat → Nat) (u : Nat → Bool) : H := K8 (rB x0 false) (bmOf (a : Int) (k : Int)) (btOf k u) (bxOf 6554 k) (btOf 1024 (bit x0)) x a
theorem fam8 (x0 : Nat → Nat) (a k : Nat) (x : Nat → Nat) : Fam 6553 a k x0 (F8 x0 a k x) := ⟨fun u => by kernel_rfl, fun u => by kernel_rfl, fun u => by kernel_rfl, fun u => by kernel_rfl, fun u => by kernel_rfl, fun u u' => by kernel_rfl⟩
noncomputable def F9 (x0 : Nat → Nat) (a k : Nat) (x : Nat → Nat) (u : Nat → Bool) : H := K9 (rB x0 false) (bmOf (a : Int) (k : Int)) (btOf k u) (bxOf 6554 k) (btOf 1024 (bit x0)) x a
theorem fam9 (x0 : Nat → Nat) (a k : Nat) (x : Nat → Nat) : Fam 6553 a k x0 (F9 x0 a k x) := ⟨fun u => by kernel_rfl, fun u => by kernel_rfl, fun u => by kernel_rfl, fun u => by kernel_rfl, fun u => by kernel_rfl, fun u u' => by kernel_rfl⟩
noncomputable def F10 (x0 : Nat → Nat) (a k : Nat) (x y : Nat → Nat) (u : Nat → Bool) : H := K10 (rB x0 false) (bmOf (a : Int) (k : Int)) (btOf k u) (bxOf 6554 k) (btOf 1024 (bit x0)) x y a
theorem fam10 (x0 : Nat → Nat) (a k : Nat) (x y : Nat → Nat) : Fam 6553 a k x0 (F10 x0 a k x y) := ⟨fun u => by kernel_rfl, fun u => by kernel_rfl, fun u => by kernel_rfl, fun u => by kernel_rfl, fun u => by kernel_rfl, fun u u' => by kernel_rfl⟩
noncomputable def B11 (bo : Blk) (x0 : Nat → Nat) (a k : Nat) (x y : Nat → Nat) (u : Nat → Bool) : H := K11 (rB x0 false) (bmOf (a : Int) (k : Int)) (btOf k u) (bxOf 6554 k) (btOf 1024 (bit x0)) bo x y a
theorem famB11 (bo : Blk) (x0 : Nat → Nat) (a k : Nat) (x y : Nat → Nat) : Fam 6553 a k x0 (B11 bo x0 a k x y) := ⟨fun u => by kernel_rfl, fun u => by kernel_rfl, fun u => by kernel_rfl, fun u => by kernel_rfl, fun u => by kernel_rfl, fun u u' => by kernel_rfl⟩
theorem getB11 (bo : Blk) (x0 : Nat → Nat) (a k : Nat) (x y : Nat → Nat) (u : Nat → Bool) : (B11 bo x0 a k x y u).h.get 6558 = some bo := by kernel_rfl
theorem boxF10 (bo : Blk) (x0 : Nat → Nat) (a k : Nat) (x y : Nat → Nat) (u : Nat → Bool) : (F10 x0 a k x y u).new bo = B11 bo x0 a k x y u := box_K11 _ _ _ _ _ _ _ _ _
theorem dropF10 (bo : Blk) (x0 : Nat → Nat) (a k : Nat) (x y : Nat → Nat) (u : Nat → Bool) : ∀ i bl, (F10 x0 a k x y u).h.get i = some bl → (B11 bo x0 a k x y u).h.get i = some bl ∧ i < (F10 x0 a k x y u).next ∧ OkB (F10 x0 a k x y u).next bl := drop_K11 (okRb _ _) (okBm _ (by decide) _ _) (okBt _ _ _) (okBx (by decide)) (okBt _ _ _)
def PA2 (x0 : Nat → Nat) (a k : Nat) (t : Nat → Bool) (G : (Nat → Bool) → H) : Prop := ∃ x, Oct8 x ∧ (∀ j, j < 1024 → t (1024 * 0 + j) = false) ∧ (∀ j, j < 1024 → bit x j = t (1024 * 1 + j)) ∧ G = F8 x0 a k x
def PB2 (x0 : Nat → Nat) (a k : Nat) (t : Nat → Bool) (G : (Nat → Bool) → H) : Prop := ∃ x, Oct8 x ∧ (∀ j, j < 1024 → t (1024 * 0 + j) = false) ∧ (∀ j, j < 1024 → bit x j = t (1024 * 1 + j)) ∧ G = F9 x0 a k x
def PS2 (x0 : Nat → Nat) (a k : Nat) (t : Nat → Bool) (G : (Nat → Bool) → H) : Prop := ∃ x y, Oct8 x ∧ Oct8 y ∧ (∀ j, j < 1024 → bit y j = t (1024 * 0 + j)) ∧ (∀ j, j < 1024 → bit x j = t (1024 * 1 + j)) ∧ G = F10 x0 a k x y
def PO2 (n : Int) (x0 : Nat → Nat) (a k : Nat) (t : Nat → Bool) (G : (Nat → Bool) → H) : Prop := ∃ x y, Oct8 x ∧ Oct8 y ∧ (∀ j, j < 1024 → bit y j = t (1024 * 0 + j)) ∧ (∀ j, j < 1024 → bit x j = t (1024 * 1 + j)) ∧ G = B11 (boOf n) x0 a k x y
def PR2 (x0 : Nat → Nat) (a k : Nat) (b : Nat) (t : Nat → Bool) (G : (Nat → Bool) → H) : Prop := (b = 0 ∧ PA2 x0 a k t G) ∨ (b ≠ 0 ∧ PB2 x0 a k t G) ∨ PS2 x0 a k t G
section
variable {w0 : World} {Φ : Phi} {pJ pD : PB} {mb tb xb wb a k cap : Nat} {x0 : Nat → Nat} {bo : Blk}
theorem rd8a (pl : Places Φ pJ pD 6553 mb tb xb wb k cap) (hf : ∀ i, 6557 ≤ i → Φ i = none) (ha : a < 8) (x : Nat → Nat) (u : Nat → Bool) : Reads w0 Φ (.pointer (some (pJ.addr 0))) (F8 x0 a k x u) (Int.ofNat a) (fun _ => 0) (F9 x0 a k x u) :=
  rd_n2a ha (okRb _ _) (okBm _ (by decide) _ _) (okBt _ _ _) (okBx (by decide)) (okBt _ _ _) pl.hJ (hf _ (by decide)) fun i hi => hf i (by omega)
theorem rd9a (pl : Places Φ pJ pD 6553 mb tb xb wb k cap) (hf : ∀ i, 6557 ≤ i → Φ i = none) (ha : a < 8) (x : Nat → Nat) (u : Nat → Bool) : Reads w0 Φ (.pointer (some (pJ.addr 0))) (F9 x0 a k x u) (Int.ofNat a) (fun _ => 0) (F9 x0 a k x u) :=
  rd_n2a1 ha (okRb _ _) (okBm _ (by decide) _ _) (okBt _ _ _) (okBx (by decide)) (okBt _ _ _) pl.hJ (hf _ (by decide)) fun i hi => hf i (by omega)
theorem rd9l (pl : Places Φ pJ pD 6553 mb tb xb wb k cap) (hf : ∀ i, 6557 ≤ i → Φ i = none) (ha : a < 8) (x : Nat → Nat) (u : Nat → Bool) : Reads w0 Φ (.pointer (some (pJ.addr 0))) (F9 x0 a k x u) (Int.ofNat (a + 1)) x (F9 x0 a k x u) :=
  rd_n2f1 ha (okRb _ _) (okBm _ (by decide) _ _) (okBt _ _ _) (okBx (by decide)) (okBt _ _ _) pl.hJ fun i hi => hf i (by omega)
theorem wr9 (pl : Places Φ pJ pD 6553 mb tb xb wb k cap) (hf : ∀ i, 6557 ≤ i → Φ i = none) (ha : a < 8) (x y : Nat → Nat) (hy : Oct8 y) (u : Nat → Bool) : Writes w0 Φ (.pointer (some (pJ.addr 0))) (F9 x0 a k x u) (Int.ofNat a) y (F10 x0 a k x y u) := by
  have := wr_n2w (w0 := w0) (x := x) (y := y) ha (okRb 6558 x0) (okBm 6558 (by decide) (a : Int) (k : Int)) (okBt 6558 k u) (okBx (n := 6558) (tid := 6554) (k := k) (by decide)) (okBt 6558 1024 (bit x0)) pl.hJ (fun i hi => hf i (by omega))
  rw [m8_id hy] at this
  exact this
theorem rd10aB (pl : Places Φ pJ pD 6553 mb tb xb wb k cap) (hj : Φ 6557 = none) (h0 : ∀ i, 6559 ≤ i → Φ i = none) (hbo : ∀ N, OkB N bo) (ha : a < 8) (x y : Nat → Nat) (u : Nat → Bool) : Reads w0 Φ (.pointer (some (pJ.addr 0))) (B11 bo x0 a k x y u) (Int.ofNat a) y (B11 bo x0 a k x y u) :=
  rd_n2dr0 ha (okRb _ _) (okBm _ (by decide) _ _) (okBt _ _ _) (okBx (by decide)) (okBt _ _ _) (hbo _) pl.hJ h0
theorem rd10lB (pl : Places Φ pJ pD 6553 mb tb xb wb k cap) (hj : Φ 6557 = none) (h0 : ∀ i, 6559 ≤ i → Φ i = none) (hbo : ∀ N, OkB N bo) (ha : a < 8) (x y : Nat → Nat) (u : Nat → Bool) : Reads w0 Φ (.pointer (some (pJ.addr 0))) (B11 bo x0 a k x y u) (Int.ofNat (a + 1)) x (B11 bo x0 a k x y u) :=
  rd_n2dr1 ha (okRb _ _) (okBm _ (by decide) _ _) (okBt _ _ _) (okBx (by decide)) (okBt _ _ _) (hbo _) pl.hJ h0
theorem wr10aB (pl : Places Φ pJ pD 6553 mb tb xb wb k cap) (hj : Φ 6557 = none) (h0 : ∀ i, 6559 ≤ i → Φ i = none) (hbo : ∀ N, OkB N bo) (ha : a < 8) (x y z : Nat → Nat) (hy : Oct8 z) (u : Nat → Bool) : Writes w0 Φ (.pointer (some (pJ.addr 0))) (B11 bo x0 a k x y u) (Int.ofNat a) z (B11 bo x0 a k x z u) := by
  have := wr_n2dw0 (w0 := w0) (x := x) (y := y) (z := z) ha (okRb 6559 x0) (okBm 6559 (by decide) (a : Int) (k : Int)) (okBt 6559 k u) (okBx (n := 6559) (tid := 6554) (k := k) (by decide)) (okBt 6559 1024 (bit x0)) (hbo 6559) pl.hJ h0
  rw [m8_id hy] at this
  exact this
theorem wr10lB (pl : Places Φ pJ pD 6553 mb tb xb wb k cap) (hj : Φ 6557 = none) (h0 : ∀ i, 6559 ≤ i → Φ i = none) (hbo : ∀ N, OkB N bo) (ha : a < 8) (x y z : Nat → Nat) (hy : Oct8 z) (u : Nat → Bool) : Writes w0 Φ (.pointer (some (pJ.addr 0))) (B11 bo x0 a k x y u) (Int.ofNat (a + 1)) z (B11 bo x0 a k z y u) := by
  have := wr_n2dw1 (w0 := w0) (x := x) (y := y) (z := z) ha (okRb 6559 x0) (okBm 6559 (by decide) (a : Int) (k : Int)) (okBt 6559 k u) (okBx (n := 6559) (tid := 6554) (k := k) (by decide)) (okBt 6559 1024 (bit x0)) (hbo 6559) pl.hJ h0
  rw [m8_id hy] at this
  exact this
theorem rd10a (pl : Places Φ pJ pD 6553 mb tb xb wb k cap) (hf : ∀ i, 6557 ≤ i → Φ i = none) (ha : a < 8) (x y : Nat → Nat) (u : Nat → Bool) : Reads w0 Φ (.pointer (some (pJ.addr 0))) (F10 x0 a k x y u) (Int.ofNat a) y (F10 x0 a k x y u) :=
  reads_unbox (bo := boOf 0) (rd10aB (bo := boOf 0) pl (hf _ (by decide)) (fun i hi => hf i (by omega)) (fun N => okBo N 0) ha x y u) (boxF10 _ x0 a k x y u) (dropF10 _ x0 a k x y u) (fun i hi => hf i (by have : 6558 ≤ i := hi; omega))
theorem rd10l (pl : Places Φ pJ pD 6553 mb tb xb wb k cap) (hf : ∀ i, 6557 ≤ i → Φ i = none) (ha : a < 8) (x y : Nat → Nat) (u : Nat → Bool) : Reads w0 Φ (.pointer (some (pJ.addr 0))) (F10 x0 a k x y u) (Int.ofNat (a + 1)) x (F10 x0 a k x y u) :=
  reads_unbox (bo := boOf 0) (rd10lB (bo := boOf 0) pl (hf _ (by decide)) (fun i hi => hf i (by omega)) (fun N => okBo N 0) ha x y u) (boxF10 _ x0 a k x y u) (dropF10 _ x0 a k x y u) (fun i hi => hf i (by have : 6558 ≤ i := hi; omega))
theorem wr10a (pl : Places Φ pJ pD 6553 mb tb xb wb k cap) (hf : ∀ i, 6557 ≤ i → Φ i = none) (ha : a < 8) (x y z : Nat → Nat) (hy : Oct8 z) (u : Nat → Bool) : Writes w0 Φ (.pointer (some (pJ.addr 0))) (F10 x0 a k x y u) (Int.ofNat a) z (F10 x0 a k x z u) :=
  writes_unbox (bo := boOf 0) (wr10aB (bo := boOf 0) pl (hf _ (by decide)) (fun i hi => hf i (by omega)) (fun N => okBo N 0) ha x y z hy u) (boxF10 _ x0 a k x y u) (dropF10 _ x0 a k x z u) (fun i hi => hf i (by have : 6558 ≤ i := hi; omega))
theorem bits2 (pl : Places Φ pJ pD 6553 mb tb xb wb k cap) (hf : ∀ i, 6557 ≤ i → Φ i = none) (ha : a < 8) (hk : 1024 < k) (hk2 : k ≤ 2048) :
    BitsK w0 (.pointer (some ⟨mb, 0, none⟩)) (.pointer (some (pJ.addr 0))) ⟨pD.blk, pD.sh + 0 + 2, none⟩ a k 2 xb tb wb x0 (Rel w0 Φ (PA2 x0 a k)) (Rel w0 Φ (PS2 x0 a k)) (fun b => Rel w0 Φ (PR2 x0 a k b)) (fun ob n => Rel w0 (Φ.add 6558 ⟨ob, 0, 3⟩) (PO2 n x0 a k)) := by
  have hPA : ∀ t G, PA2 x0 a k t G → Fam 6553 a k x0 G := by rintro t G ⟨x, _, _, _, rfl⟩; exact fam8 x0 a k x
  have hPB : ∀ t G, PB2 x0 a k t G → Fam 6553 a k x0 G := by rintro t G ⟨x, _, _, _, rfl⟩; exact fam9 x0 a k x
  have hPS : ∀ t G, PS2 x0 a k t G → Fam 6553 a k x0 G := by rintro t G ⟨x, y, _, _, _, _, rfl⟩; exact fam10 x0 a k x y
  have hPO : ∀ n t G, PO2 n x0 a k t G → Fam 6553 a k x0 G := by rintro n t G ⟨x, y, _, _, _, _, rfl⟩; exact famB11 _ x0 a k x y
  have hPR : ∀ b t G, PR2 x0 a k b t G → Fam 6553 a k x0 G := by
    rintro b t G (⟨_, h⟩ | ⟨_, h⟩ | h)
    · exact hPA _ _ h
    · exact hPB _ _ h
    · exact hPS _ _ h
  have plb : ∀ ob, Places (Φ.add 6558 ⟨ob, 0, 3⟩) pJ pD 6553 mb tb xb wb k cap := fun ob => pl.add (by decide) (by decide)
  have h0b : ∀ (ob i : Nat), 6559 ≤ i → Φ.add 6558 ⟨ob, 0, 3⟩ i = none := fun ob i hi => (Phi.add_ne (by omega)).trans (hf i (by omega))
  have hjb : ∀ ob : Nat, Φ.add 6558 ⟨ob, 0, 3⟩ 6557 = none := fun ob => (Phi.add_ne (by decide)).trans (hf _ (by decide))
  have hnb : alloc_Blocks.f (k : Int) = some 2 := blocks_f (by omega) (by omega) (by omega) (by omega)
  have m8_ : ∀ x u, MapAt w0 Φ (F8 x0 a k x u) mb (.pointer (some (pJ.addr 0))) a k := fun x u => (fam8 x0 a k x).map pl u
  have m9 : ∀ x u, MapAt w0 Φ (F9 x0 a k x u) mb (.pointer (some (pJ.addr 0))) a k := fun x u => (fam9 x0 a k x).map pl u
  have m10 : ∀ x y u, MapAt w0 Φ (F10 x0 a k x y u) mb (.pointer (some (pJ.addr 0))) a k := fun x y u => (fam10 x0 a k x y).map pl u
  have mB : ∀ ob n x y u, MapAt w0 (Φ.add 6558 ⟨ob, 0, 3⟩) (B11 (boOf n) x0 a k x y u) mb (.pointer (some (pJ.addr 0))) a k := fun ob n x y u => (famB11 _ x0 a k x y).map (plb ob) u
  refine ⟨rel_ref pl (by omega) hPA, rel_ref pl (by omega) hPS, fun b => rel_ref pl (by omega) (hPR b), ?_, ?_, fun _ _ _ _ h => absurd h (by omega), fun _ _ _ _ h => absurd h (by omega), ?_, fun ob n => rel_ref (plb ob) (by omega) (hPO n), fun ob n => rel_box ?_, ?_, ?_, ?_, fun t u w h => ?_, fun t u w h => ?_, ?_, rel_was pl hPA, fun b => rel_was pl (hPR b), rel_base, fun _ => rel_base, rel_d pl hPA, fun b => rel_d pl (hPR b)⟩
  · rintro t u w r ⟨G, ⟨x, hx, hz, hb, rfl⟩, hA⟩ h1 h2 h3 h4
    refine (take0 (h3 := fun y => F10 x0 a k x y u) zr_oct (rd8a pl hf ha x u) (rd9a pl hf ha x u) (fun y hy => wr9 pl hf ha x y hy u) (m8_ x u) (m9 x u) (m9 x u) ha (by omega) (by omega) hnb (by omega) (fun j hj => by rw [bit_zr]; have := hz j hj; rw [← this]; congr 1; omega) h1 h2 h3 h4 w hA).mono ?_
    rintro e w' ⟨he, hA'⟩
    refine ⟨he, _, ⟨x, _, hx, wb_oct zr_oct r true, ?_, bit_keep hb (by omega) true, rfl⟩, hA'⟩
    have := bit_upd0 zr_oct (t := t) (q := 0) (i := r) (fun j hj => (bit_zr j).trans (hz j hj).symm) (by omega) true
    rwa [Nat.mod_eq_of_lt h2] at this
  · rintro t u w r ⟨G, ⟨x, y, hx, hy, hc, hb, rfl⟩, hA⟩ h1 h2 h3 h4
    refine (take0 (h3 := fun z => F10 x0 a k x z u) hy (rd10a pl hf ha x y u) (rd10a pl hf ha x y u) (fun z hz => wr10a pl hf ha x y z hz u) (m10 x y u) (m10 x y u) (m10 x y u) ha (by omega) (by omega) hnb (by omega) (fun j hj => by rw [hc j hj]; congr 1; omega) h1 h2 h3 h4 w hA).mono ?_
    rintro e w' ⟨he, hA'⟩
    refine ⟨he, _, ⟨x, _, hx, wb_oct hy r true, ?_, bit_keep hb (by omega) true, rfl⟩, hA'⟩
    have := bit_upd0 hy (i := r) hc (by omega) true
    rwa [Nat.mod_eq_of_lt h2] at this
  · rintro t u w n ⟨G, ⟨x, y, hx, hy, hc, hb, rfl⟩, hA⟩
    have h := hA.box n
    rw [boxF10] at h
    exact ⟨_, ⟨x, y, hx, hy, hc, hb, rfl⟩, h⟩
  · rintro t G ⟨x, y, _, _, _, _, rfl⟩ u
    exact getB11 _ x0 a k x y u
  · rintro ob n t u w ⟨G, ⟨x, y, hx, hy, hc, hb, rfl⟩, hA⟩
    exact ⟨_, ⟨x, y, hx, hy, hc, hb, rfl⟩, hA.drop (add_le (hf _ (by decide))) (dropF10 _ x0 a k x y u) fun i hi => hf i (by have : 6558 ≤ i := hi; omega)⟩
  · rintro ob n t u w i ⟨G, ⟨x, y, hx, hy, hc, hb, rfl⟩, hA⟩ hi ht
    by_cases hq : i / 1024 = 0
    · refine (giveq (q := 0) (h3 := fun z => B11 (boOf n) x0 a k x z u) hy (rd10aB (plb ob) (hjb ob) (h0b ob) (fun N => okBo N n) ha x y u) (rd10aB (plb ob) (hjb ob) (h0b ob) (fun N => okBo N n) ha x y u) (fun z hz => wr10aB (plb ob) (hjb ob) (h0b ob) (fun N => okBo N n) ha x y z hz u) (mB ob n x y u) (mB ob n x y u) (mB ob n x y u) ha (by omega) hc hi hq ht w hA).mono ?_
      rintro e w' ⟨he, hA'⟩
      exact ⟨he, _, ⟨x, _, hx, wb_oct hy _ false, bit_upd0 hy hc hq false, bit_keep hb (by omega) false, rfl⟩, hA'⟩
    · refine (giveq (q := 1) (h3 := fun z => B11 (boOf n) x0 a k z y u) hx (rd10lB (plb ob) (hjb ob) (h0b ob) (fun N => okBo N n) ha x y u) (rd10lB (plb ob) (hjb ob) (h0b ob) (fun N => okBo N n) ha x y u) (fun z hz => wr10lB (plb ob) (hjb ob) (h0b ob) (fun N => okBo N n) ha x y z hz u) (mB ob n x y u) (mB ob n x y u) (mB ob n x y u) ha (by omega) hb hi (by omega) ht w hA).mono ?_
      rintro e w' ⟨he, hA'⟩
      exact ⟨he, _, ⟨_, y, wb_oct hx _ false, hy, bit_keep hc hq false, bit_upd0 hx hb (by omega) false, rfl⟩, hA'⟩
  · rintro ob n t u w i ⟨G, ⟨x, y, hx, hy, hc, hb, rfl⟩, hA⟩ hi ht
    by_cases hq : i / 1024 = 0
    · refine (giveFq (q := 0) hy (rd10aB (plb ob) (hjb ob) (h0b ob) (fun N => okBo N n) ha x y u) (mB ob n x y u) (mB ob n x y u) ha (by omega) hc hi hq ht w hA).mono ?_
      rintro e w' ⟨he, hA'⟩
      exact ⟨he, _, ⟨x, y, hx, hy, hc, hb, rfl⟩, hA'⟩
    · refine (giveFq (q := 1) hx (rd10lB (plb ob) (hjb ob) (h0b ob) (fun N => okBo N n) ha x y u) (mB ob n x y u) (mB ob n x y u) ha (by omega) hb hi (by omega) ht w hA).mono ?_
      rintro e w' ⟨he, hA'⟩
      exact ⟨he, _, ⟨x, y, hx, hy, hc, hb, rfl⟩, hA'⟩
  · obtain ⟨G, hp, hA⟩ := h; exact ⟨G, .inl ⟨rfl, hp⟩, hA⟩
  · obtain ⟨G, hp, hA⟩ := h; exact ⟨G, .inr (.inr hp), hA⟩
  · rintro b t u w hb2 ⟨G, hp, hA⟩
    rcases hp with ⟨rfl, x, hx, hz, hb, rfl⟩ | ⟨hb1, x, hx, hz, hb, rfl⟩ | ⟨x, y, hx, hy, hc, hb, rfl⟩
    · refine (rd8a pl hf ha x u w hA).mono ?_
      rintro e w' ⟨A0, c, he, hc, hC, hA'⟩
      exact ⟨A0, c, _, he, hc, hC, zr_oct, fun j hj => (bit_zr j).trans (hz j hj).symm, _, .inr (.inl ⟨by omega, x, hx, hz, hb, rfl⟩), hA'⟩
    · obtain rfl : b = 1 := by omega
      refine (rd9l pl hf ha x u w hA).mono ?_
      rintro e w' ⟨A0, c, he, hc, hC, hA'⟩
      exact ⟨A0, c, _, he, hc, hC, hx, hb, _, .inr (.inl ⟨by omega, x, hx, hz, hb, rfl⟩), hA'⟩
    · by_cases h0 : b = 0
      · subst h0
        refine (rd10a pl hf ha x y u w hA).mono ?_
        rintro e w' ⟨A0, c, he, hcc, hC, hA'⟩
        exact ⟨A0, c, _, he, hcc, hC, hy, hc, _, .inr (.inr ⟨x, y, hx, hy, hc, hb, rfl⟩), hA'⟩
      · obtain rfl : b = 1 := by omega
        refine (rd10l pl hf ha x y u w hA).mono ?_
        rintro e w' ⟨A0, c, he, hcc, hC, hA'⟩
        exact ⟨A0, c, _, he, hcc, hC, hx, hb, _, .inr (.inr ⟨x, y, hx, hy, hc, hb, rfl⟩), hA'⟩
end
end Go.Proofs.YteaacjabcfopgaaGreat.Run
end
section
set_option linter.unusedVariables false
set_option linter.unusedSimpArgs false
namespace Go.Proofs.YteaacjabcfopgaaGreat.Run
open Go Go.Proofs.YteaacjabcfopgaaGreat.Am Go.Proofs.YteaacjabcfopgaaGreat.Am.G Go.RowKit Go.Proofs Go.Proofs.YteaacjabcfopgaaGreat.PQ Go.Proofs.YteaacjabcfopgaaGreatW.PrintWords
set_option maxRecDepth 1000000
set_option maxHeartbeats 4000000
noncomputable def F16 (x0 : Nat → Nat) (a k : Nat) (x : Nat → Nat) (u : Nat → Bool) : H := K16 (rB x0 false) (bmOf (a : Int) (k : Int)) (btOf k u) (bxOf 6573 k) (btOf 1024 (bit x0)) x a
theorem fam16 (x0 : Nat → Nat) (a k : Nat) (x : Nat → Nat) : Fam 6572 a k x0 (F16 x0 a k x) := ⟨fun u => by kernel_rfl, fun u => by kernel_rfl, fun u => by kernel_rfl, fun u => by kernel_rfl, fun u => by kernel_rfl, fun u u' => by kernel_rfl⟩
noncomputable def F17 (x0 : Nat → Nat) (a k : Nat) (x : Nat → Nat) (u : Nat → Bool) : H := K17 (rB x0 false) (bmOf (a : Int) (k : Int)) (btOf k u) (bxOf 6573 k) (btOf 1024 (bit x0)) x a
theorem fam17 (x0 : Nat → Nat) (a k : Nat) (x : Nat → Nat) : Fam 6572 a k x0 (F17 x0 a k x) := ⟨fun u => by kernel_rfl, fun u => by kernel_rfl, fun u => by kernel_rfl, fun u => by kernel_rfl, fun u => by kernel_rfl, fun u u' => by kernel_rfl⟩
noncomputable def F18 (x0 : Nat → Nat) (a k : Nat) (x y : Nat → Nat) (u : Nat → Bool) : H := K18 (rB x0 false) (bmOf (a : Int) (k : Int)) (btOf k u) (bxOf 6573 k) (btOf 1024 (bit x0)) x y a
theorem fam18 (x0 : Nat → Nat) (a k : Nat) (x y : Nat → Nat) : Fam 6572 a k x0 (F18 x0 a k x y) := ⟨fun u => by kernel_rfl, fun u => by kernel_rfl, fun u => by kernel_rfl, fun u => by kernel_rfl, fun u => by kernel_rfl, fun u u' => by kernel_rfl⟩
noncomputable def F19 (x0 : Nat → Nat) (a k : Nat) (x : Nat → Nat) (u : Nat → Bool) : H := K19 (rB x0 false) (bmOf (a : Int) (k : Int)) (btOf k u) (bxOf 6573 k) (btOf 1024 (bit x0)) x a
theorem fam19 (x0 : Nat → Nat) (a k : Nat) (x : Nat → Nat) : Fam 6572 a k x0 (F19 x0 a k x) := ⟨fun u => by kernel_rfl, fun u => by kernel_rfl, fun u => by kernel_rfl, fun u => by kernel_rfl, fun u => by kernel_rfl, fun u u' => by kernel_rfl⟩
noncomputable def F22 (x0 : Nat → Nat) (a k : Nat) (x y : Nat → Nat) (u : Nat → Bool) : H := K22 (rB x0 false) (bmOf (a : Int) (k : Int)) (btOf k u) (bxOf 6573 k) (btOf 1024 (bit x0)) x y a
theorem fam22 (x0 : Nat → Nat) (a k : Nat) (x y : Nat → Nat) : Fam 6572 a k x0 (F22 x0 a k x y) := ⟨fun u => by kernel_rfl, fun u => by kernel_rfl, fun u => by kernel_rfl, fun u => by kernel_rfl, fun u => by kernel_rfl, fun u u' => by kernel_rfl⟩
noncomputable def B20 (bo : Blk) (x0 : Nat → Nat) (a k : Nat) (x y : Nat → Nat) (u : Nat → Bool) : H := K20 (rB x0 false) (bmOf (a : Int) (k : Int)) (btOf k u) (bxOf 6573 k) (btOf 1024 (bit x0)) bo x y a
theorem famB20 (bo : Blk) (x0 : Nat → Nat) (a k : Nat) (x y : Nat → Nat) : Fam 6572 a k x0 (B20 bo x0 a k x y) := ⟨fun u => by kernel_rfl, fun u => by kernel_rfl, fun u => by kernel_rfl, fun u => by kernel_rfl, fun u => by kernel_rfl, fun u u' => by kernel_rfl⟩
theorem getB20 (bo : Blk) (x0 : Nat → Nat) (a k : Nat) (x y : Nat → Nat) (u : Nat → Bool) : (B20 bo x0 a k x y u).h.get 6577 = some bo := by kernel_rfl
noncomputable def B21 (bo : Blk) (x0 : Nat → Nat) (a k : Nat) (x y : Nat → Nat) (u : Nat → Bool) : H := K21 (rB x0 false) (bmOf (a : Int) (k : Int)) (btOf k u) (bxOf 6573 k) (btOf 1024 (bit x0)) bo x y a
theorem famB21 (bo : Blk) (x0 : Nat → Nat) (a k : Nat) (x y : Nat → Nat) : Fam 6572 a k x0 (B21 bo x0 a k x y) := ⟨fun u => by kernel_rfl, fun u => by kernel_rfl, fun u => by kernel_rfl, fun u => by kernel_rfl, fun u => by kernel_rfl, fun u u' => by kernel_rfl⟩
theorem getB21 (bo : Blk) (x0 : Nat → Nat) (a k : Nat) (x y : Nat → Nat) (u : Nat → Bool) : (B21 bo x0 a k x y u).h.get 6577 = some bo := by kernel_rfl
theorem boxF18 (bo : Blk) (x0 : Nat → Nat) (a k : Nat) (x y : Nat → Nat) (u : Nat → Bool) : (F18 x0 a k x y u).new bo = B20 bo x0 a k x y u := box_K20 _ _ _ _ _ _ _ _ _
theorem dropF18 (bo : Blk) (x0 : Nat → Nat) (a k : Nat) (x y : Nat → Nat) (u : Nat → Bool) : ∀ i bl, (F18 x0 a k x y u).h.get i = some bl → (B20 bo x0 a k x y u).h.get i = some bl ∧ i < (F18 x0 a k x y u).next ∧ OkB (F18 x0 a k x y u).next bl := drop_K20 (okRb _ _) (okBm _ (by decide) _ _) (okBt _ _ _) (okBx (by decide)) (okBt _ _ _)
theorem boxF22 (bo : Blk) (x0 : Nat → Nat) (a k : Nat) (x y : Nat → Nat) (u : Nat → Bool) : (F22 x0 a k x y u).new bo = B21 bo x0 a k x y u := box_K21 _ _ _ _ _ _ _ _ _
theorem dropF22 (bo : Blk) (x0 : Nat → Nat) (a k : Nat) (x y : Nat → Nat) (u : Nat → Bool) : ∀ i bl, (F22 x0 a k x y u).h.get i = some bl → (B21 bo x0 a k x y u).h.get i = some bl ∧ i < (F22 x0 a k x y u).next ∧ OkB (F22 x0 a k x y u).next bl := drop_K21 (okRb _ _) (okBm _ (by decide) _ _) (okBt _ _ _) (okBx (by decide)) (okBt _ _ _)
noncomputable def FD (o : Bool) (x0 : Nat → Nat) (a k : Nat) (x y : Nat → Nat) : (Nat → Bool) → H := if o then F18 x0 a k x y else F22 x0 a k x y
noncomputable def BD (o : Bool) (bo : Blk) (x0 : Nat → Nat) (a k : Nat) (x y : Nat → Nat) : (Nat → Bool) → H := if o then B20 bo x0 a k x y else B21 bo x0 a k x y
theorem famD (o : Bool) (x0 : Nat → Nat) (a k : Nat) (x y : Nat → Nat) : Fam 6572 a k x0 (FD o x0 a k x y) := by
  cases o
  · exact fam22 x0 a k x y
  · exact fam18 x0 a k x y
theorem famBD (o : Bool) (bo : Blk) (x0 : Nat → Nat) (a k : Nat) (x y : Nat → Nat) : Fam 6572 a k x0 (BD o bo x0 a k x y) := by
  cases o
  · exact famB21 bo x0 a k x y
  · exact famB20 bo x0 a k x y
theorem getBD (o : Bool) (bo : Blk) (x0 : Nat → Nat) (a k : Nat) (x y : Nat → Nat) (u : Nat → Bool) : (BD o bo x0 a k x y u).h.get 6577 = some bo := by
  cases o
  · exact getB21 bo x0 a k x y u
  · exact getB20 bo x0 a k x y u
theorem boxFD (o : Bool) (bo : Blk) (x0 : Nat → Nat) (a k : Nat) (x y : Nat → Nat) (u : Nat → Bool) : (FD o x0 a k x y u).new bo = BD o bo x0 a k x y u := by
  cases o
  · exact boxF22 bo x0 a k x y u
  · exact boxF18 bo x0 a k x y u
theorem nextFD (o : Bool) (x0 : Nat → Nat) (a k : Nat) (x y : Nat → Nat) (u : Nat → Bool) : (FD o x0 a k x y u).next = 6577 := by
  cases o <;> rfl
theorem dropFD (o : Bool) (bo : Blk) (x0 : Nat → Nat) (a k : Nat) (x y : Nat → Nat) (u : Nat → Bool) : ∀ i bl, (FD o x0 a k x y u).h.get i = some bl → (BD o bo x0 a k x y u).h.get i = some bl ∧ i < (FD o x0 a k x y u).next ∧ OkB (FD o x0 a k x y u).next bl := by
  cases o
  · exact dropF22 bo x0 a k x y u
  · exact dropF18 bo x0 a k x y u
def Z3 (t : Nat → Bool) (x : Nat → Nat) : Prop := Oct8 x ∧ (∀ j, j < 1024 → t (1024 * 0 + j) = false) ∧ (∀ j, j < 1024 → t (1024 * 1 + j) = false) ∧ (∀ j, j < 1024 → bit x j = t (1024 * 2 + j))
def PA3 (x0 : Nat → Nat) (a k : Nat) (t : Nat → Bool) (G : (Nat → Bool) → H) : Prop := ∃ x, Z3 t x ∧ G = F16 x0 a k x
def PB3 (x0 : Nat → Nat) (a k : Nat) (t : Nat → Bool) (G : (Nat → Bool) → H) : Prop := ∃ x, Z3 t x ∧ G = F17 x0 a k x
def PC3 (x0 : Nat → Nat) (a k : Nat) (t : Nat → Bool) (G : (Nat → Bool) → H) : Prop := ∃ x, Z3 t x ∧ G = F19 x0 a k x
def PS3 (x0 : Nat → Nat) (a k : Nat) (t : Nat → Bool) (G : (Nat → Bool) → H) : Prop := ∃ o x y, Oct8 x ∧ Oct8 y ∧ (∀ j, j < 1024 → bit y j = t (1024 * 0 + j)) ∧ (∀ j, j < 1024 → t (1024 * 1 + j) = false) ∧ (∀ j, j < 1024 → bit x j = t (1024 * 2 + j)) ∧ G = FD o x0 a k x y
def PO3 (n : Int) (x0 : Nat → Nat) (a k : Nat) (t : Nat → Bool) (G : (Nat → Bool) → H) : Prop := ∃ o x y, Oct8 x ∧ Oct8 y ∧ (∀ j, j < 1024 → bit y j = t (1024 * 0 + j)) ∧ (∀ j, j < 1024 → t (1024 * 1 + j) = false) ∧ (∀ j, j < 1024 → bit x j = t (1024 * 2 + j)) ∧ G = BD o (boOf n) x0 a k x y
def PR3 (x0 : Nat → Nat) (a k : Nat) (b : Nat) (t : Nat → Bool) (G : (Nat → Bool) → H) : Prop := (b = 0 ∧ PA3 x0 a k t G) ∨ (b = 1 ∧ PB3 x0 a k t G) ∨ (2 ≤ b ∧ PC3 x0 a k t G) ∨ PS3 x0 a k t G
section
variable {w0 : World} {Φ : Phi} {pJ pD : PB} {mb tb xb wb a k cap : Nat} {x0 : Nat → Nat} {bo : Blk}
theorem rd16a (pl : Places Φ pJ pD 6572 mb tb xb wb k cap) (hf : ∀ i, 6576 ≤ i → Φ i = none) (ha : a < 8) (x : Nat → Nat) (u : Nat → Bool) : Reads w0 Φ (.pointer (some (pJ.addr 0))) (F16 x0 a k x u) (Int.ofNat a) (fun _ => 0) (F17 x0 a k x u) :=
  rd_n3a ha (okRb _ _) (okBm _ (by decide) _ _) (okBt _ _ _) (okBx (by decide)) (okBt _ _ _) pl.hJ (hf _ (by decide)) fun i hi => hf i (by omega)
theorem rd17a (pl : Places Φ pJ pD 6572 mb tb xb wb k cap) (hf : ∀ i, 6576 ≤ i → Φ i = none) (ha : a < 8) (x : Nat → Nat) (u : Nat → Bool) : Reads w0 Φ (.pointer (some (pJ.addr 0))) (F17 x0 a k x u) (Int.ofNat a) (fun _ => 0) (F17 x0 a k x u) :=
  rd_n3a1 ha (okRb _ _) (okBm _ (by decide) _ _) (okBt _ _ _) (okBx (by decide)) (okBt _ _ _) pl.hJ (hf _ (by decide)) fun i hi => hf i (by omega)
theorem rd17b (pl : Places Φ pJ pD 6572 mb tb xb wb k cap) (hf : ∀ i, 6576 ≤ i → Φ i = none) (ha : a < 8) (x : Nat → Nat) (u : Nat → Bool) : Reads w0 Φ (.pointer (some (pJ.addr 0))) (F17 x0 a k x u) (Int.ofNat (a + 1)) (fun _ => 0) (F19 x0 a k x u) :=
  rd_n3f1 ha (okRb _ _) (okBm _ (by decide) _ _) (okBt _ _ _) (okBx (by decide)) (okBt _ _ _) pl.hJ (hf _ (by decide)) fun i hi => hf i (by omega)
theorem rd19c (pl : Places Φ pJ pD 6572 mb tb xb wb k cap) (hf : ∀ i, 6576 ≤ i → Φ i = none) (ha : a < 8) (x : Nat → Nat) (u : Nat → Bool) : Reads w0 Φ (.pointer (some (pJ.addr 0))) (F19 x0 a k x u) (Int.ofNat (a + 2)) x (F19 x0 a k x u) :=
  rd_n3f2 ha (okRb _ _) (okBm _ (by decide) _ _) (okBt _ _ _) (okBx (by decide)) (okBt _ _ _) pl.hJ fun i hi => hf i (by omega)
theorem wr17 (pl : Places Φ pJ pD 6572 mb tb xb wb k cap) (hf : ∀ i, 6576 ≤ i → Φ i = none) (ha : a < 8) (x y : Nat → Nat) (hy : Oct8 y) (u : Nat → Bool) : Writes w0 Φ (.pointer (some (pJ.addr 0))) (F17 x0 a k x u) (Int.ofNat a) y (F18 x0 a k x y u) := by
  have := wr_n3w (w0 := w0) (x := x) (y := y) ha (okRb 6577 x0) (okBm 6577 (by decide) (a : Int) (k : Int)) (okBt 6577 k u) (okBx (n := 6577) (tid := 6573) (k := k) (by decide)) (okBt 6577 1024 (bit x0)) pl.hJ (fun i hi => hf i (by omega))
  rw [m8_id hy] at this
  exact this
theorem rdB20a (pl : Places Φ pJ pD 6572 mb tb xb wb k cap) (hj : Φ 6576 = none) (h0 : ∀ i, 6578 ≤ i → Φ i = none) (hbo : ∀ N, OkB N bo) (ha : a < 8) (x y : Nat → Nat) (u : Nat → Bool) : Reads w0 Φ (.pointer (some (pJ.addr 0))) (B20 bo x0 a k x y u) (Int.ofNat a) y (B20 bo x0 a k x y u) :=
  rd_n3dr0 ha (okRb _ _) (okBm _ (by decide) _ _) (okBt _ _ _) (okBx (by decide)) (okBt _ _ _) (hbo _) pl.hJ h0
theorem rdB20b (pl : Places Φ pJ pD 6572 mb tb xb wb k cap) (hj : Φ 6576 = none) (h0 : ∀ i, 6578 ≤ i → Φ i = none) (hbo : ∀ N, OkB N bo) (ha : a < 8) (x y : Nat → Nat) (u : Nat → Bool) : Reads w0 Φ (.pointer (some (pJ.addr 0))) (B20 bo x0 a k x y u) (Int.ofNat (a + 1)) (fun _ => 0) (B21 bo x0 a k x y u) :=
  rd_n3dr1 ha (okRb _ _) (okBm _ (by decide) _ _) (okBt _ _ _) (okBx (by decide)) (okBt _ _ _) (hbo _) pl.hJ hj h0
theorem rdB20c (pl : Places Φ pJ pD 6572 mb tb xb wb k cap) (hj : Φ 6576 = none) (h0 : ∀ i, 6578 ≤ i → Φ i = none) (hbo : ∀ N, OkB N bo) (ha : a < 8) (x y : Nat → Nat) (u : Nat → Bool) : Reads w0 Φ (.pointer (some (pJ.addr 0))) (B20 bo x0 a k x y u) (Int.ofNat (a + 2)) x (B20 bo x0 a k x y u) :=
  rd_n3dr2 ha (okRb _ _) (okBm _ (by decide) _ _) (okBt _ _ _) (okBx (by decide)) (okBt _ _ _) (hbo _) pl.hJ h0
theorem wrB20a (pl : Places Φ pJ pD 6572 mb tb xb wb k cap) (hj : Φ 6576 = none) (h0 : ∀ i, 6578 ≤ i → Φ i = none) (hbo : ∀ N, OkB N bo) (ha : a < 8) (x y z : Nat → Nat) (hy : Oct8 z) (u : Nat → Bool) : Writes w0 Φ (.pointer (some (pJ.addr 0))) (B20 bo x0 a k x y u) (Int.ofNat a) z (B20 bo x0 a k x z u) := by
  have := wr_n3dw0 (w0 := w0) (x := x) (y := y) (z := z) ha (okRb 6578 x0) (okBm 6578 (by decide) (a : Int) (k : Int)) (okBt 6578 k u) (okBx (n := 6578) (tid := 6573) (k := k) (by decide)) (okBt 6578 1024 (bit x0)) (hbo 6578) pl.hJ h0
  rw [m8_id hy] at this
  exact this
theorem wrB20c (pl : Places Φ pJ pD 6572 mb tb xb wb k cap) (hj : Φ 6576 = none) (h0 : ∀ i, 6578 ≤ i → Φ i = none) (hbo : ∀ N, OkB N bo) (ha : a < 8) (x y z : Nat → Nat) (hy : Oct8 z) (u : Nat → Bool) : Writes w0 Φ (.pointer (some (pJ.addr 0))) (B20 bo x0 a k x y u) (Int.ofNat (a + 2)) z (B20 bo x0 a k z y u) := by
  have := wr_n3dw2 (w0 := w0) (x := x) (y := y) (z := z) ha (okRb 6578 x0) (okBm 6578 (by decide) (a : Int) (k : Int)) (okBt 6578 k u) (okBx (n := 6578) (tid := 6573) (k := k) (by decide)) (okBt 6578 1024 (bit x0)) (hbo 6578) pl.hJ h0
  rw [m8_id hy] at this
  exact this
theorem rdB21a (pl : Places Φ pJ pD 6572 mb tb xb wb k cap) (hj : Φ 6576 = none) (h0 : ∀ i, 6578 ≤ i → Φ i = none) (hbo : ∀ N, OkB N bo) (ha : a < 8) (x y : Nat → Nat) (u : Nat → Bool) : Reads w0 Φ (.pointer (some (pJ.addr 0))) (B21 bo x0 a k x y u) (Int.ofNat a) y (B21 bo x0 a k x y u) :=
  rd_n3gr0 ha (okRb _ _) (okBm _ (by decide) _ _) (okBt _ _ _) (okBx (by decide)) (okBt _ _ _) (hbo _) pl.hJ h0
theorem rdB21b (pl : Places Φ pJ pD 6572 mb tb xb wb k cap) (hj : Φ 6576 = none) (h0 : ∀ i, 6578 ≤ i → Φ i = none) (hbo : ∀ N, OkB N bo) (ha : a < 8) (x y : Nat → Nat) (u : Nat → Bool) : Reads w0 Φ (.pointer (some (pJ.addr 0))) (B21 bo x0 a k x y u) (Int.ofNat (a + 1)) (fun _ => 0) (B21 bo x0 a k x y u) :=
  rd_n3gr1 ha (okRb _ _) (okBm _ (by decide) _ _) (okBt _ _ _) (okBx (by decide)) (okBt _ _ _) (hbo _) pl.hJ hj h0
theorem rdB21c (pl : Places Φ pJ pD 6572 mb tb xb wb k cap) (hj : Φ 6576 = none) (h0 : ∀ i, 6578 ≤ i → Φ i = none) (hbo : ∀ N, OkB N bo) (ha : a < 8) (x y : Nat → Nat) (u : Nat → Bool) : Reads w0 Φ (.pointer (some (pJ.addr 0))) (B21 bo x0 a k x y u) (Int.ofNat (a + 2)) x (B21 bo x0 a k x y u) :=
  rd_n3gr2 ha (okRb _ _) (okBm _ (by decide) _ _) (okBt _ _ _) (okBx (by decide)) (okBt _ _ _) (hbo _) pl.hJ h0
theorem wrB21a (pl : Places Φ pJ pD 6572 mb tb xb wb k cap) (hj : Φ 6576 = none) (h0 : ∀ i, 6578 ≤ i → Φ i = none) (hbo : ∀ N, OkB N bo) (ha : a < 8) (x y z : Nat → Nat) (hy : Oct8 z) (u : Nat → Bool) : Writes w0 Φ (.pointer (some (pJ.addr 0))) (B21 bo x0 a k x y u) (Int.ofNat a) z (B21 bo x0 a k x z u) := by
  have := wr_n3gw0 (w0 := w0) (x := x) (y := y) (z := z) ha (okRb 6578 x0) (okBm 6578 (by decide) (a : Int) (k : Int)) (okBt 6578 k u) (okBx (n := 6578) (tid := 6573) (k := k) (by decide)) (okBt 6578 1024 (bit x0)) (hbo 6578) pl.hJ h0
  rw [m8_id hy] at this
  exact this
theorem wrB21c (pl : Places Φ pJ pD 6572 mb tb xb wb k cap) (hj : Φ 6576 = none) (h0 : ∀ i, 6578 ≤ i → Φ i = none) (hbo : ∀ N, OkB N bo) (ha : a < 8) (x y z : Nat → Nat) (hy : Oct8 z) (u : Nat → Bool) : Writes w0 Φ (.pointer (some (pJ.addr 0))) (B21 bo x0 a k x y u) (Int.ofNat (a + 2)) z (B21 bo x0 a k z y u) := by
  have := wr_n3gw2 (w0 := w0) (x := x) (y := y) (z := z) ha (okRb 6578 x0) (okBm 6578 (by decide) (a : Int) (k : Int)) (okBt 6578 k u) (okBx (n := 6578) (tid := 6573) (k := k) (by decide)) (okBt 6578 1024 (bit x0)) (hbo 6578) pl.hJ h0
  rw [m8_id hy] at this
  exact this
theorem rdOa (o : Bool) (pl : Places Φ pJ pD 6572 mb tb xb wb k cap) (hj : Φ 6576 = none) (h0 : ∀ i, 6578 ≤ i → Φ i = none) (hbo : ∀ N, OkB N bo) (ha : a < 8) (x y : Nat → Nat) (u : Nat → Bool) : Reads w0 Φ (.pointer (some (pJ.addr 0))) (BD o bo x0 a k x y u) (Int.ofNat a) y (BD o bo x0 a k x y u) := by
  cases o
  · exact rdB21a pl hj h0 hbo ha x y u
  · exact rdB20a pl hj h0 hbo ha x y u
theorem rdDa (o : Bool) (pl : Places Φ pJ pD 6572 mb tb xb wb k cap) (hf : ∀ i, 6576 ≤ i → Φ i = none) (ha : a < 8) (x y : Nat → Nat) (u : Nat → Bool) : Reads w0 Φ (.pointer (some (pJ.addr 0))) (FD o x0 a k x y u) (Int.ofNat a) y (FD o x0 a k x y u) :=
  reads_unbox (bo := boOf 0) (rdOa (bo := boOf 0) o pl (hf _ (by decide)) (fun i hi => hf i (by omega)) (fun N => okBo N 0) ha x y u) (boxFD o _ x0 a k x y u) (dropFD o _ x0 a k x y u) (fun i hi => hf i (by rw [nextFD] at hi; omega))
theorem rdOb (o : Bool) (pl : Places Φ pJ pD 6572 mb tb xb wb k cap) (hj : Φ 6576 = none) (h0 : ∀ i, 6578 ≤ i → Φ i = none) (hbo : ∀ N, OkB N bo) (ha : a < 8) (x y : Nat → Nat) (u : Nat → Bool) : Reads w0 Φ (.pointer (some (pJ.addr 0))) (BD o bo x0 a k x y u) (Int.ofNat (a + 1)) (fun _ => 0) (BD false bo x0 a k x y u) := by
  cases o
  · exact rdB21b pl hj h0 hbo ha x y u
  · exact rdB20b pl hj h0 hbo ha x y u
theorem rdDb (o : Bool) (pl : Places Φ pJ pD 6572 mb tb xb wb k cap) (hf : ∀ i, 6576 ≤ i → Φ i = none) (ha : a < 8) (x y : Nat → Nat) (u : Nat → Bool) : Reads w0 Φ (.pointer (some (pJ.addr 0))) (FD o x0 a k x y u) (Int.ofNat (a + 1)) (fun _ => 0) (FD false x0 a k x y u) :=
  reads_unbox (bo := boOf 0) (rdOb (bo := boOf 0) o pl (hf _ (by decide)) (fun i hi => hf i (by omega)) (fun N => okBo N 0) ha x y u) (boxFD o _ x0 a k x y u) (dropFD false _ x0 a k x y u) (fun i hi => hf i (by rw [nextFD] at hi; omega))
theorem rdOc (o : Bool) (pl : Places Φ pJ pD 6572 mb tb xb wb k cap) (hj : Φ 6576 = none) (h0 : ∀ i, 6578 ≤ i → Φ i = none) (hbo : ∀ N, OkB N bo) (ha : a < 8) (x y : Nat → Nat) (u : Nat → Bool) : Reads w0 Φ (.pointer (some (pJ.addr 0))) (BD o bo x0 a k x y u) (Int.ofNat (a + 2)) x (BD o bo x0 a k x y u) := by
  cases o
  · exact rdB21c pl hj h0 hbo ha x y u
  · exact rdB20c pl hj h0 hbo ha x y u
theorem rdDc (o : Bool) (pl : Places Φ pJ pD 6572 mb tb xb wb k cap) (hf : ∀ i, 6576 ≤ i → Φ i = none) (ha : a < 8) (x y : Nat → Nat) (u : Nat → Bool) : Reads w0 Φ (.pointer (some (pJ.addr 0))) (FD o x0 a k x y u) (Int.ofNat (a + 2)) x (FD o x0 a k x y u) :=
  reads_unbox (bo := boOf 0) (rdOc (bo := boOf 0) o pl (hf _ (by decide)) (fun i hi => hf i (by omega)) (fun N => okBo N 0) ha x y u) (boxFD o _ x0 a k x y u) (dropFD o _ x0 a k x y u) (fun i hi => hf i (by rw [nextFD] at hi; omega))
theorem wrOa (o : Bool) (pl : Places Φ pJ pD 6572 mb tb xb wb k cap) (hj : Φ 6576 = none) (h0 : ∀ i, 6578 ≤ i → Φ i = none) (hbo : ∀ N, OkB N bo) (ha : a < 8) (x y z : Nat → Nat) (hz : Oct8 z) (u : Nat → Bool) : Writes w0 Φ (.pointer (some (pJ.addr 0))) (BD o bo x0 a k x y u) (Int.ofNat a) z (BD o bo x0 a k x z u) := by
  cases o
  · exact wrB21a pl hj h0 hbo ha x y z hz u
  · exact wrB20a pl hj h0 hbo ha x y z hz u
theorem wrOc (o : Bool) (pl : Places Φ pJ pD 6572 mb tb xb wb k cap) (hj : Φ 6576 = none) (h0 : ∀ i, 6578 ≤ i → Φ i = none) (hbo : ∀ N, OkB N bo) (ha : a < 8) (x y z : Nat → Nat) (hz : Oct8 z) (u : Nat → Bool) : Writes w0 Φ (.pointer (some (pJ.addr 0))) (BD o bo x0 a k x y u) (Int.ofNat (a + 2)) z (BD o bo x0 a k z y u) := by
  cases o
  · exact wrB21c pl hj h0 hbo ha x y z hz u
  · exact wrB20c pl hj h0 hbo ha x y z hz u
theorem wrDa (o : Bool) (pl : Places Φ pJ pD 6572 mb tb xb wb k cap) (hf : ∀ i, 6576 ≤ i → Φ i = none) (ha : a < 8) (x y z : Nat → Nat) (hz : Oct8 z) (u : Nat → Bool) : Writes w0 Φ (.pointer (some (pJ.addr 0))) (FD o x0 a k x y u) (Int.ofNat a) z (FD o x0 a k x z u) :=
  writes_unbox (bo := boOf 0) (wrOa (bo := boOf 0) o pl (hf _ (by decide)) (fun i hi => hf i (by omega)) (fun N => okBo N 0) ha x y z hz u) (boxFD o _ x0 a k x y u) (dropFD o _ x0 a k x z u) (fun i hi => hf i (by rw [nextFD] at hi; omega))
theorem bits3 (pl : Places Φ pJ pD 6572 mb tb xb wb k cap) (hf : ∀ i, 6576 ≤ i → Φ i = none) (ha : a < 8) (hk : 2048 < k) (hk2 : k ≤ 3072) :
    BitsK w0 (.pointer (some ⟨mb, 0, none⟩)) (.pointer (some (pJ.addr 0))) ⟨pD.blk, pD.sh + 0 + 2, none⟩ a k 3 xb tb wb x0 (Rel w0 Φ (PA3 x0 a k)) (Rel w0 Φ (PS3 x0 a k)) (fun b => Rel w0 Φ (PR3 x0 a k b)) (fun ob n => Rel w0 (Φ.add 6577 ⟨ob, 0, 3⟩) (PO3 n x0 a k)) := by
  have hPA : ∀ t G, PA3 x0 a k t G → Fam 6572 a k x0 G := by rintro t G ⟨x, _, rfl⟩; exact fam16 x0 a k x
  have hPB : ∀ t G, PB3 x0 a k t G → Fam 6572 a k x0 G := by rintro t G ⟨x, _, rfl⟩; exact fam17 x0 a k x
  have hPC : ∀ t G, PC3 x0 a k t G → Fam 6572 a k x0 G := by rintro t G ⟨x, _, rfl⟩; exact fam19 x0 a k x
  have hPS : ∀ t G, PS3 x0 a k t G → Fam 6572 a k x0 G := by rintro t G ⟨o, x, y, _, _, _, _, _, rfl⟩; exact famD o x0 a k x y
  have hPO : ∀ n t G, PO3 n x0 a k t G → Fam 6572 a k x0 G := by rintro n t G ⟨o, x, y, _, _, _, _, _, rfl⟩; exact famBD o _ x0 a k x y
  have hPR : ∀ b t G, PR3 x0 a k b t G → Fam 6572 a k x0 G := by
    rintro b t G (⟨_, h⟩ | ⟨_, h⟩ | ⟨_, h⟩ | h)
    · exact hPA _ _ h
    · exact hPB _ _ h
    · exact hPC _ _ h
    · exact hPS _ _ h
  have plb : ∀ ob, Places (Φ.add 6577 ⟨ob, 0, 3⟩) pJ pD 6572 mb tb xb wb k cap := fun ob => pl.add (by decide) (by decide)
  have h0b : ∀ (ob i : Nat), 6578 ≤ i → Φ.add 6577 ⟨ob, 0, 3⟩ i = none := fun ob i hi => (Phi.add_ne (by omega)).trans (hf i (by omega))
  have hjb : ∀ ob : Nat, Φ.add 6577 ⟨ob, 0, 3⟩ 6576 = none := fun ob => (Phi.add_ne (by decide)).trans (hf _ (by decide))
  have hnb : alloc_Blocks.f (k : Int) = some 3 := blocks_f (by omega) (by omega) (by omega) (by omega)
  have m16 : ∀ x u, MapAt w0 Φ (F16 x0 a k x u) mb (.pointer (some (pJ.addr 0))) a k := fun x u => (fam16 x0 a k x).map pl u
  have m17 : ∀ x u, MapAt w0 Φ (F17 x0 a k x u) mb (.pointer (some (pJ.addr 0))) a k := fun x u => (fam17 x0 a k x).map pl u
  have mD : ∀ o x y u, MapAt w0 Φ (FD o x0 a k x y u) mb (.pointer (some (pJ.addr 0))) a k := fun o x y u => (famD o x0 a k x y).map pl u
  have mB : ∀ ob n o x y u, MapAt w0 (Φ.add 6577 ⟨ob, 0, 3⟩) (BD o (boOf n) x0 a k x y u) mb (.pointer (some (pJ.addr 0))) a k := fun ob n o x y u => (famBD o _ x0 a k x y).map (plb ob) u
  refine ⟨rel_ref pl (by omega) hPA, rel_ref pl (by omega) hPS, fun b => rel_ref pl (by omega) (hPR b), ?_, ?_, fun _ _ _ _ h => absurd h (by omega), fun _ _ _ _ h => absurd h (by omega), ?_, fun ob n => rel_ref (plb ob) (by omega) (hPO n), fun ob n => rel_box ?_, ?_, ?_, ?_, fun t u w h => ?_, fun t u w h => ?_, ?_, rel_was pl hPA, fun b => rel_was pl (hPR b), rel_base, fun _ => rel_base, rel_d pl hPA, fun b => rel_d pl (hPR b)⟩
  · rintro t u w r ⟨G, ⟨x, ⟨hx, hz, hz1, hb⟩, rfl⟩, hA⟩ h1 h2 h3 h4
    refine (take0 (h3 := fun y => F18 x0 a k x y u) zr_oct (rd16a pl hf ha x u) (rd17a pl hf ha x u) (fun y hy => wr17 pl hf ha x y hy u) (m16 x u) (m17 x u) (m17 x u) ha (by omega) (by omega) hnb (by omega) (fun j hj => by rw [bit_zr]; have := hz j hj; rw [← this]; congr 1; omega) h1 h2 h3 h4 w hA).mono ?_
    rintro e w' ⟨he, hA'⟩
    refine ⟨he, _, ⟨true, x, _, hx, wb_oct zr_oct r true, ?_, fun j hj => ?_, bit_keep hb (by omega) true, rfl⟩, hA'⟩
    · have := bit_upd0 zr_oct (t := t) (q := 0) (i := r) (fun j hj => (bit_zr j).trans (hz j hj).symm) (by omega) true
      rwa [Nat.mod_eq_of_lt h2] at this
    · unfold updT; rw [if_neg (by omega)]; exact hz1 j hj
  · rintro t u w r ⟨G, ⟨o, x, y, hx, hy, hc, hz1, hb, rfl⟩, hA⟩ h1 h2 h3 h4
    refine (take0 (h3 := fun z => FD o x0 a k x z u) hy (rdDa o pl hf ha x y u) (rdDa o pl hf ha x y u) (fun z hz => wrDa o pl hf ha x y z hz u) (mD o x y u) (mD o x y u) (mD o x y u) ha (by omega) (by omega) hnb (by omega) (fun j hj => by rw [hc j hj]; congr 1; omega) h1 h2 h3 h4 w hA).mono ?_
    rintro e w' ⟨he, hA'⟩
    refine ⟨he, _, ⟨o, x, _, hx, wb_oct hy r true, ?_, fun j hj => ?_, bit_keep hb (by omega) true, rfl⟩, hA'⟩
    · have := bit_upd0 hy (i := r) hc (by omega) true
      rwa [Nat.mod_eq_of_lt h2] at this
    · unfold updT; rw [if_neg (by omega)]; exact hz1 j hj
  · rintro t u w n ⟨G, ⟨o, x, y, hx, hy, hc, hz1, hb, rfl⟩, hA⟩
    have h := hA.box n
    rw [boxFD, nextFD] at h
    exact ⟨_, ⟨o, x, y, hx, hy, hc, hz1, hb, rfl⟩, h⟩
  · rintro t G ⟨o, x, y, _, _, _, _, _, rfl⟩ u
    exact getBD o _ x0 a k x y u
  · rintro ob n t u w ⟨G, ⟨o, x, y, hx, hy, hc, hz1, hb, rfl⟩, hA⟩
    exact ⟨_, ⟨o, x, y, hx, hy, hc, hz1, hb, rfl⟩, hA.drop (add_le (hf _ (by decide))) (dropFD o _ x0 a k x y u) fun i hi => hf i (by rw [nextFD] at hi; omega)⟩
  · rintro ob n t u w i ⟨G, ⟨o, x, y, hx, hy, hc, hz1, hb, rfl⟩, hA⟩ hi ht
    have hz1' : i / 1024 ≠ 1 := fun e => by
      have := hz1 (i % 1024) (by omega)
      have e2 : 1024 * 1 + i % 1024 = i := by omega
      rw [e2, ht] at this
      cases this
    have hkeep : ∀ j, j < 1024 → updT t i false (1024 * 1 + j) = false := fun j hj => by unfold updT; rw [if_neg (by omega)]; exact hz1 j hj
    by_cases hq : i / 1024 = 0
    · refine (giveq (q := 0) (h3 := fun z => BD o (boOf n) x0 a k x z u) hy (rdOa o (plb ob) (hjb ob) (h0b ob) (fun N => okBo N n) ha x y u) (rdOa o (plb ob) (hjb ob) (h0b ob) (fun N => okBo N n) ha x y u) (fun z hz => wrOa o (plb ob) (hjb ob) (h0b ob) (fun N => okBo N n) ha x y z hz u) (mB ob n o x y u) (mB ob n o x y u) (mB ob n o x y u) ha (by omega) hc hi hq ht w hA).mono ?_
      rintro e w' ⟨he, hA'⟩
      exact ⟨he, _, ⟨o, x, _, hx, wb_oct hy _ false, bit_upd0 hy hc hq false, hkeep, bit_keep hb (by omega) false, rfl⟩, hA'⟩
    · refine (giveq (q := 2) (h3 := fun z => BD o (boOf n) x0 a k z y u) hx (rdOc o (plb ob) (hjb ob) (h0b ob) (fun N => okBo N n) ha x y u) (rdOc o (plb ob) (hjb ob) (h0b ob) (fun N => okBo N n) ha x y u) (fun z hz => wrOc o (plb ob) (hjb ob) (h0b ob) (fun N => okBo N n) ha x y z hz u) (mB ob n o x y u) (mB ob n o x y u) (mB ob n o x y u) ha (by omega) hb hi (by omega) ht w hA).mono ?_
      rintro e w' ⟨he, hA'⟩
      exact ⟨he, _, ⟨o, _, y, wb_oct hx _ false, hy, bit_keep hc hq false, hkeep, bit_upd0 hx hb (by omega) false, rfl⟩, hA'⟩
  · rintro ob n t u w i ⟨G, ⟨o, x, y, hx, hy, hc, hz1, hb, rfl⟩, hA⟩ hi ht
    by_cases hq : i / 1024 = 0
    · refine (giveFq (q := 0) hy (rdOa o (plb ob) (hjb ob) (h0b ob) (fun N => okBo N n) ha x y u) (mB ob n o x y u) (mB ob n o x y u) ha (by omega) hc hi hq ht w hA).mono ?_
      rintro e w' ⟨he, hA'⟩
      exact ⟨he, _, ⟨o, x, y, hx, hy, hc, hz1, hb, rfl⟩, hA'⟩
    · by_cases hq1 : i / 1024 = 1
      · refine (giveFq (q := 1) (t := t) zr_oct (rdOb o (plb ob) (hjb ob) (h0b ob) (fun N => okBo N n) ha x y u) (mB ob n o x y u) (mB ob n false x y u) ha (by omega) (fun j hj => (bit_zr j).trans (hz1 j hj).symm) hi hq1 ht w hA).mono ?_
        rintro e w' ⟨he, hA'⟩
        exact ⟨he, _, ⟨false, x, y, hx, hy, hc, hz1, hb, rfl⟩, hA'⟩
      · refine (giveFq (q := 2) hx (rdOc o (plb ob) (hjb ob) (h0b ob) (fun N => okBo N n) ha x y u) (mB ob n o x y u) (mB ob n o x y u) ha (by omega) hb hi (by omega) ht w hA).mono ?_
        rintro e w' ⟨he, hA'⟩
        exact ⟨he, _, ⟨o, x, y, hx, hy, hc, hz1, hb, rfl⟩, hA'⟩
  · obtain ⟨G, hp, hA⟩ := h; exact ⟨G, .inl ⟨rfl, hp⟩, hA⟩
  · obtain ⟨G, hp, hA⟩ := h; exact ⟨G, .inr (.inr (.inr hp)), hA⟩
  · rintro b t u w hb2 ⟨G, hp, hA⟩
    rcases hp with ⟨rfl, x, ⟨hx, hz, hz1, hb⟩, rfl⟩ | ⟨rfl, x, ⟨hx, hz, hz1, hb⟩, rfl⟩ | ⟨hb1, x, ⟨hx, hz, hz1, hb⟩, rfl⟩ | ⟨o, x, y, hx, hy, hc, hz1, hb, rfl⟩
    · refine (rd16a pl hf ha x u w hA).mono ?_
      rintro e w' ⟨A0, c, he, hc, hC, hA'⟩
      exact ⟨A0, c, _, he, hc, hC, zr_oct, fun j hj => (bit_zr j).trans (hz j hj).symm, _, .inr (.inl ⟨rfl, x, ⟨hx, hz, hz1, hb⟩, rfl⟩), hA'⟩
    · refine (rd17b pl hf ha x u w hA).mono ?_
      rintro e w' ⟨A0, c, he, hc, hC, hA'⟩
      exact ⟨A0, c, _, he, hc, hC, zr_oct, fun j hj => (bit_zr j).trans (hz1 j hj).symm, _, .inr (.inr (.inl ⟨by omega, x, ⟨hx, hz, hz1, hb⟩, rfl⟩)), hA'⟩
    · obtain rfl : b = 2 := by omega
      refine (rd19c pl hf ha x u w hA).mono ?_
      rintro e w' ⟨A0, c, he, hc, hC, hA'⟩
      exact ⟨A0, c, _, he, hc, hC, hx, hb, _, .inr (.inr (.inl ⟨by omega, x, ⟨hx, hz, hz1, hb⟩, rfl⟩)), hA'⟩
    · by_cases h0 : b = 0
      · subst h0
        refine (rdDa o pl hf ha x y u w hA).mono ?_
        rintro e w' ⟨A0, c, he, hcc, hC, hA'⟩
        exact ⟨A0, c, _, he, hcc, hC, hy, hc, _, .inr (.inr (.inr ⟨o, x, y, hx, hy, hc, hz1, hb, rfl⟩)), hA'⟩
      · by_cases h1 : b = 1
        · subst h1
          refine (rdDb o pl hf ha x y u w hA).mono ?_
          rintro e w' ⟨A0, c, he, hcc, hC, hA'⟩
          exact ⟨A0, c, _, he, hcc, hC, zr_oct, fun j hj => (bit_zr j).trans (hz1 j hj).symm, _, .inr (.inr (.inr ⟨false, x, y, hx, hy, hc, hz1, hb, rfl⟩)), hA'⟩
        · obtain rfl : b = 2 := by omega
          refine (rdDc o pl hf ha x y u w hA).mono ?_
          rintro e w' ⟨A0, c, he, hcc, hC, hA'⟩
          exact ⟨A0, c, _, he, hcc, hC, hx, hb, _, .inr (.inr (.inr ⟨o, x, y, hx, hy, hc, hz1, hb, rfl⟩)), hA'⟩
end
end Go.Proofs.YteaacjabcfopgaaGreat.Run
end
section
set_option linter.unusedVariables false
set_option linter.unusedSimpArgs false
namespace Go.Proofs.YteaacjabcfopgaaGreat.Run
open Go Go.Proofs.YteaacjabcfopgaaGreat.Am Go.Proofs.YteaacjabcfopgaaGreat.Am.G Go.RowKit Go.Proofs Go.Proofs.YteaacjabcfopgaaGreat.PQ Go.Proofs.YteaacjabcfopgaaGreatW.PrintWords
set_option maxRecDepth 1000000
set_option maxHeartbeats 4000000
noncomputable section
def HW (nb : Nat) (x : Nat → Nat) (a : Nat) : H := match nb with
  | 1 => K2 (rB x false) x a
  | 2 => K6 (rB x false) x a
  | _ => K13 (rB x false) x a
def HO (nb : Nat) (x : Nat → Nat) (a : Nat) : H := match nb with
  | 1 => K2 (rB x false) x a
  | 2 => K7 (rB x false) x a
  | _ => K15 (rB x false) x a
def HN (nb : Nat) : Nat := match nb with
  | 1 => 6534
  | 2 => 6553
  | _ => 6572
def tOf (nb : Nat) (x : Nat → Nat) : Nat → Bool := fun i => if i < 1024 * (nb - 1) then false else bit x (i - 1024 * (nb - 1))
theorem nb_cases {nb : Nat} (h1 : 1 ≤ nb) (h3 : nb ≤ 3) : nb = 1 ∨ nb = 2 ∨ nb = 3 := by omega
section
variable {w0 : World} {Φ : Phi} {pJ pD : PB} {nb a k bk : Nat} {x : Nat → Nat}
theorem write_bits (h1 : 1 ≤ nb) (h3 : nb ≤ 3) (ha : a < 8) (hx : Oct8 x) (hJ : Φ 6300 = some pJ) (hB : Φ 6533 = some ⟨bk, 0, 128⟩) (h0 : ∀ i, 6534 ≤ i → Φ i = none) (w : World) (hA : At w0 Φ (K0 x) w) :
    Calls Tryz.prog 13 #[.pointer (some (pJ.addr 0)), .int .i64 ((a : Int) + ((nb : Int) - 1)), .slice (some ⟨bk, 0, none⟩) 128 128] w (WrPost w0 Φ (HW nb x a)) := by
  rcases nb_cases h1 h3 with rfl | rfl | rfl
  · have := wr_n1W ha hA hJ hB h0
    rw [m8_id hx] at this
    have e : (a : Int) + (((1 : Nat) : Int) - 1) = Int.ofNat a := by have : Int.ofNat a = (a : Int) := rfl; omega
    rw [e]; exact this
  · have := wr_n2W ha hA hJ hB h0
    rw [m8_id hx] at this
    have e : (a : Int) + (((2 : Nat) : Int) - 1) = Int.ofNat (a + 1) := by have : Int.ofNat (a + 1) = ((a + 1 : Nat) : Int) := rfl; omega
    rw [e]; exact this
  · have := wr_n3W ha hA hJ hB h0
    rw [m8_id hx] at this
    have e : (a : Int) + (((3 : Nat) : Int) - 1) = Int.ofNat (a + 2) := by have : Int.ofNat (a + 2) = ((a + 2 : Nat) : Int) := rfl; omega
    rw [e]; exact this
def OpenB (w0 : World) (Φ : Phi) (nb a k : Nat) (x : Nat → Nat) (e : Ending) (w' : World) : Prop := ∃ (mb : Nat) (Φ' : Phi), e = .returned (.tuple #[.pointer (some ⟨mb, 0, none⟩), .int .i64 0]) ∧ Φ.le Φ' ∧ Φ' (HN nb) = some ⟨mb, 0, 3⟩ ∧ (∀ i, HN nb + 1 ≤ i → Φ' i = none) ∧ At w0 Φ' ((HO nb x a).new (bmOf (a : Int) (k : Int))) w'
theorem ho_next (h1 : 1 ≤ nb) (h3 : nb ≤ 3) : (HO nb x a).next = HN nb := by
  rcases nb_cases h1 h3 with rfl | rfl | rfl <;> rfl
theorem open_bits (h1 : 1 ≤ nb) (h3 : nb ≤ 3) (ha : a < 8) (hk1 : 1024 * (nb - 1) < k) (hk2 : k ≤ 1024 * nb) (hJ : Φ 6300 = some pJ) (h0 : ∀ i, 6534 ≤ i → Φ i = none) (w : World) (hA : At w0 Φ (HW nb x a) w) :
    Calls Tryz.prog 9 #[.pointer (some (pJ.addr 0)), .int .i64 (a : Int), .int .i64 (k : Int)] w (OpenB w0 Φ nb a k x) := by
  have main : Calls Tryz.prog 9 #[.pointer (some (pJ.addr 0)), .int .i64 (a : Int), .int .i64 (k : Int)] w (OpenPost w0 Φ (HO nb x a) (.pointer (some (pJ.addr 0))) a k) := by
    have e1 : (a : Int) + 1 = Int.ofNat (a + 1) := rfl
    have e2 : (a : Int) + 2 = Int.ofNat (a + 2) := rfl
    rcases nb_cases h1 h3 with rfl | rfl | rfl
    · have hnb : alloc_Blocks.f (k : Int) = some 1 := blocks_f (by omega) (by omega) (by omega) (by omega)
      exact open1 (first := (a : Int)) (rd_n1o0 ha (okRb _ _) hJ h0) (by omega) (by omega) (by omega) (by omega) hnb w hA
    · have hnb : alloc_Blocks.f (k : Int) = some 2 := blocks_f (by omega) (by omega) (by omega) (by omega)
      exact open2 (first := (a : Int)) (rd_n2o0 ha (okRb _ _) hJ fun i hi => h0 i (by omega)) (by rw [e1]; exact rd_n2o1 ha (okRb _ _) hJ fun i hi => h0 i (by omega)) (by omega) (by omega) (by omega) (by omega) hnb w hA
    · have hnb : alloc_Blocks.f (k : Int) = some 3 := blocks_f (by omega) (by omega) (by omega) (by omega)
      exact open3 (first := (a : Int)) (rd_n3o0 ha (okRb _ _) hJ fun i hi => h0 i (by omega)) (by rw [e1]; exact rd_n3o1 ha (okRb _ _) hJ fun i hi => h0 i (by omega)) (by rw [e2]; exact rd_n3o2 ha (okRb _ _) hJ fun i hi => h0 i (by omega)) (by omega) (by omega) (by omega) (by omega) hnb w hA
  refine main.mono ?_
  rintro e w' ⟨w2, hA2, rfl, rfl⟩
  obtain ⟨Φ', hle, hM, hn, hA3⟩ := hA2.adopt (b := bmOf (a : Int) (k : Int)) (o := .cells #[.pointer (some (pJ.addr 0)), .int .i64 a, .int .i64 (k : Int)] 69) (N := 3) fun φ' hle => bm_rb (hle _ _ hJ)
  rw [ho_next h1 h3] at hM hn
  exact ⟨_, Φ', rfl, hle, hM, hn, hA3⟩
def NewB (w0 : World) (Φ : Phi) (nb a k : Nat) (x : Nat → Nat) (e : Ending) (w' : World) : Prop := ∃ (xb tb : Nat) (Φ' : Phi), e = .returned (.pointer (some ⟨xb, 0, none⟩)) ∧ Φ.le Φ' ∧ Φ' (HN nb + 1) = some ⟨tb, 0, k⟩ ∧ Φ' (HN nb + 2) = some ⟨xb, 0, 1⟩ ∧ (∀ i, HN nb + 3 ≤ i → Φ' i = none) ∧ At w0 Φ' ((((HO nb x a).new (bmOf (a : Int) (k : Int))).new (btOf k fun _ => false)).new (bxOf (HN nb + 1) k)) w'
theorem new_bits (h1 : 1 ≤ nb) (h3 : nb ≤ 3) (hk : k ≤ 4096) (w : World) (hA : At w0 Φ ((HO nb x a).new (bmOf (a : Int) (k : Int))) w) :
    Calls Tryz.prog 14 #[.int .i64 (k : Int)] w (NewB w0 Φ nb a k x) := by
  refine (ref_new k hk w).mono ?_
  rintro e w' ⟨rfl, rfl⟩
  obtain ⟨Φ1, hle1, hT, hn1, hA1⟩ := hA.adopt (b := btOf k fun _ => false) (o := .cells (Array.replicate k (.bool false)) 4) (N := k) fun φ' hle => bt_rb
  have e1 : ((HO nb x a).new (bmOf (a : Int) (k : Int))).next = HN nb + 1 := by rw [← ho_next (x := x) (a := a) h1 h3]; rfl
  rw [e1] at hT hn1
  obtain ⟨Φ2, hle2, hX, hn2, hA2⟩ := hA1.adopt (b := bxOf (HN nb + 1) k) (o := .cells #[refX w.heap.size k] 48) (N := 1) fun φ' hle => bx_rb (hle _ _ hT)
  have e2 : (((HO nb x a).new (bmOf (a : Int) (k : Int))).new (btOf k fun _ => false)).next = HN nb + 2 := by rw [← ho_next (x := x) (a := a) h1 h3]; rfl
  rw [e2] at hX hn2
  have esz : (w.alloc (.cells (Array.replicate k (.bool false)) 4)).heap.size = w.heap.size + 1 := by unfold World.alloc; exact Array.size_push _
  rw [esz] at hX
  exact ⟨_, _, Φ2, rfl, Phi.le_trans hle1 hle2, hle2 _ _ hT, hX, hn2, hA2⟩
def BitsB (w0 : World) (mv jv : Value) (da : Addr) (nb a k xb tb : Nat) (x : Nat → Nat) (e : Ending) (w' : World) : Prop := ∃ (wb cap : Nat) (A S : (Nat → Bool) → (Nat → Bool) → World → Prop) (R : Nat → (Nat → Bool) → (Nat → Bool) → World → Prop) (SB : Nat → Int → (Nat → Bool) → (Nat → Bool) → World → Prop), e = .returned (.slice (some ⟨wb, 0, none⟩) 1024 cap) ∧ BitsK w0 mv jv da a k nb xb tb wb x A S R SB ∧ A (tOf nb x) (fun _ => false) w'
theorem bits_bits {mb xb tb : Nat} (h1 : 1 ≤ nb) (h3 : nb ≤ 3) (ha : a < 8) (hk1 : 1024 * (nb - 1) < k) (hk2 : k ≤ 1024 * nb) (hx : Oct8 x) (hJ : Φ 6300 = some pJ) (hD : Φ 6532 = some pD) (hB : Φ 6533 = some ⟨bk, 0, 128⟩) (hM : Φ (HN nb) = some ⟨mb, 0, 3⟩) (hT : Φ (HN nb + 1) = some ⟨tb, 0, k⟩) (hX : Φ (HN nb + 2) = some ⟨xb, 0, 1⟩) (w : World)
    (hA : At w0 Φ ((((HO nb x a).new (bmOf (a : Int) (k : Int))).new (btOf k fun _ => false)).new (bxOf (HN nb + 1) k)) w) :
    Calls Tryz.prog 15 #[.slice (some ⟨bk, 0, none⟩) 128 128] w (BitsB w0 (.pointer (some ⟨mb, 0, none⟩)) (.pointer (some (pJ.addr 0))) ⟨pD.blk, pD.sh + 0 + 2, none⟩ nb a k xb tb x) := by
  have hg : ((((HO nb x a).new (bmOf (a : Int) (k : Int))).new (btOf k fun _ => false)).new (bxOf (HN nb + 1) k)).h.get 6533 = some (rB x false) := by
    rcases nb_cases h1 h3 with rfl | rfl | rfl <;> kernel_rfl
  obtain ⟨hC, _, _⟩ := hA.bytes hg hB
  have := ashlarref01_Bits.calls 1281 (some ⟨bk, 0, none⟩) 128 (oct x) (bitsL x) w hC (by rw [oct_len]; exact Nat.le_refl _) (bits_f hx)
  rw [oct_len] at this
  refine this.mono ?_
  rintro e w' ⟨v, rfl, hR, hBl⟩
  have hR' : Kd.R Kd.bool 4 w' w.heap.size (fun _ => True) v (bitsL x) := hR
  obtain ⟨g, cap, Φ', rfl, hcap, hle, hW, hn, hA'⟩ := hA.adoptBits hBl hR'
  have e3 : ((((HO nb x a).new (bmOf (a : Int) (k : Int))).new (btOf k fun _ => false)).new (bxOf (HN nb + 1) k)).next = HN nb + 3 := by rw [← ho_next (x := x) (a := a) h1 h3]; rfl
  rw [e3] at hW hn
  have pl : Places Φ' pJ pD (HN nb) mb tb xb g k cap := ⟨hle _ _ hJ, hle _ _ hD, hle _ _ hM, hle _ _ hT, hle _ _ hX, hW⟩
  refine ⟨g, cap, ?_⟩
  rcases nb_cases h1 h3 with rfl | rfl | rfl
  · refine ⟨_, _, _, _, rfl, bits1 pl hn ha (by omega) (by omega), F4 x a k x, ⟨x, hx, fun j hj => ?_, rfl⟩, ?_⟩
    · unfold tOf; rw [if_neg (by omega)]; congr 1; omega
    · have eH : ((((HO 1 x a).new (bmOf (a : Int) (k : Int))).new (btOf k fun _ => false)).new (bxOf (HN 1 + 1) k)).new (btOf 1024 (bit x)) = F4 x a k x (fun _ => false) := by kernel_rfl
      rw [← eH]; exact hA'
  · refine ⟨_, _, _, _, rfl, bits2 pl hn ha (by omega) (by omega), F8 x a k x, ⟨x, hx, fun j hj => ?_, fun j hj => ?_, rfl⟩, ?_⟩
    · unfold tOf; rw [if_pos (by omega)]
    · unfold tOf; rw [if_neg (by omega)]; congr 1; omega
    · have eH : ((((HO 2 x a).new (bmOf (a : Int) (k : Int))).new (btOf k fun _ => false)).new (bxOf (HN 2 + 1) k)).new (btOf 1024 (bit x)) = F8 x a k x (fun _ => false) := by kernel_rfl
      rw [← eH]; exact hA'
  · refine ⟨_, _, _, _, rfl, bits3 pl hn ha (by omega) (by omega), F16 x a k x, ⟨x, ⟨hx, fun j hj => ?_, fun j hj => ?_, fun j hj => ?_⟩, rfl⟩, ?_⟩
    · unfold tOf; rw [if_pos (by omega)]
    · unfold tOf; rw [if_pos (by omega)]
    · unfold tOf; rw [if_neg (by omega)]; congr 1; omega
    · have eH : ((((HO 3 x a).new (bmOf (a : Int) (k : Int))).new (btOf k fun _ => false)).new (bxOf (HN 3 + 1) k)).new (btOf 1024 (bit x)) = F16 x a k x (fun _ => false) := by kernel_rfl
      rw [← eH]; exact hA'
end
end
end Go.Proofs.YteaacjabcfopgaaGreat.Run
end
