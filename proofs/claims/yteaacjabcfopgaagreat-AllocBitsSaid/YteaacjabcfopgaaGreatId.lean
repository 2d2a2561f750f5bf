/-
  The reference's functions, rows as blocks, and what is wanted of a map.
-/
import Derived.Test.YteaacjabcfopgaaGreatPb
import Derived.Test.YteaacjabcfopgaaGreatHg
import Derived.Test.YteaacjabcfopgaaGreatIa
set_option linter.unusedVariables false
set_option linter.unusedSimpArgs false
section
set_option linter.unusedVariables false
set_option linter.unusedSimpArgs false
namespace Go.Proofs.YteaacjabcfopgaaGreat.Run
open Go Go.Proofs.YteaacjabcfopgaaGreat.Am Go.Proofs.YteaacjabcfopgaaGreat.Am.G Go.RowKit Go.Proofs Go.Proofs.YteaacjabcfopgaaGreat.PQ Go.Proofs.YteaacjabcfopgaaGreatW.PrintWords Go.Proofs.YteaacjabcfopgaaGreatW.PrintLast Go.Proofs.YteaacjabcfopgaaGreatW.PrintMore
theorem wrap_n (n : Nat) (h : n ≤ 1000000) : wrap64 (n : Int) = (n : Int) := by unfold wrap64; omega
theorem bits_in {x : Nat → Nat} (hx : Oct8 x) (xs : List Int) (i : Nat) (hi : i < 128) (k : Nat) : ∀ (m j : Nat) (L : List Bool), j + m = 8 → L.length + m ≤ 2000 →
    ashlarref01_Bits.l1 (k + m + 1) xs L (i : Int) ((x i / 2 ^ j : Nat) : Int) (j : Int) = ashlarref01_Bits.l0 k xs (L ++ (List.range' (8 * i + j) m).map (bit x)) ((i + 1 : Nat) : Int)
  | 0, j, L, hj, hL => by
    have e : (j : Int) = 8 := by omega
    rw [ashlarref01_Bits.l1, e, if_neg (by omega)]
    have : wrap64 ((i : Int) + 1) = ((i + 1 : Nat) : Int) := by rw [← wrap_n (i + 1) (by omega)]; rfl
    rw [this]
    simp
  | m + 1, j, L, hj, hL => by
    have e : k + (m + 1) + 1 = (k + m + 1) + 1 := rfl
    rw [e, ashlarref01_Bits.l1, if_pos (by omega), if_pos (by omega)]
    have h1 : (Int.tmod ((x i / 2 ^ j : Nat) : Int) 2 == 1) = bit x (8 * i + j) := by
      have e1 : Int.tmod ((x i / 2 ^ j : Nat) : Int) 2 = ((x i / 2 ^ j % 2 : Nat) : Int) := (Int.ofNat_tmod _ 2).symm
      have e2 : (8 * i + j) / 8 = i := by omega
      have e3 : (8 * i + j) % 8 = j := by omega
      unfold bit
      rw [e1, e2, e3, Nat.testBit_eq_decide_div_mod_eq]
      by_cases h : x i / 2 ^ j % 2 = 1
      · rw [h]; rfl
      · have : x i / 2 ^ j % 2 = 0 := by omega
        rw [this]; rfl
    have h2 : wrap64 (Int.tdiv ((x i / 2 ^ j : Nat) : Int) 2) = ((x i / 2 ^ (j + 1) : Nat) : Int) := by
      have e1 : Int.tdiv ((x i / 2 ^ j : Nat) : Int) 2 = ((x i / 2 ^ j / 2 : Nat) : Int) := (Int.ofNat_tdiv _ 2).symm
      have e2 : x i / 2 ^ j / 2 = x i / 2 ^ (j + 1) := by rw [Nat.div_div_eq_div_mul, Nat.pow_succ]
      have e3 : x i / 2 ^ (j + 1) ≤ x i := Nat.div_le_self _ _
      have := hx i
      rw [e1, e2, wrap_n _ (by omega)]
    have h3 : wrap64 ((j : Int) + 1) = ((j + 1 : Nat) : Int) := by rw [← wrap_n (j + 1) (by omega)]; rfl
    rw [h1, h2, h3, bits_in hx xs i hi k m (j + 1) (L ++ [bit x (8 * i + j)]) (by omega) (by simp; omega)]
    rw [List.range'_succ, List.map_cons, List.append_assoc]
    rfl
theorem bits_out {x : Nat → Nat} (hx : Oct8 x) (k : Nat) : ∀ (m i : Nat) (L : List Bool), i + m = 128 → L.length = 8 * i →
    ashlarref01_Bits.l0 (k + 10 * m + 1) (oct x) L (i : Int) = some (L ++ (List.range' (8 * i) (8 * m)).map (bit x))
  | 0, i, L, hi, hL => by
    rw [ashlarref01_Bits.l0, if_neg (by rw [oct_len]; omega)]
    simp
  | m + 1, i, L, hi, hL => by
    have e : k + 10 * (m + 1) + 1 = ((k + 10 * m + 1) + 8 + 1) + 1 := by omega
    have h0 : wrap64 (rd (oct x) (i : Int)) = ((x i / 2 ^ 0 : Nat) : Int) := by
      have := hx i
      rw [rd_oct x i (by omega), Nat.pow_zero, Nat.div_one, wrap_n _ (by omega)]
    rw [e, ashlarref01_Bits.l0, if_pos (by rw [oct_len]; omega), if_pos (by omega), h0]
    have := bits_in hx (oct x) i (by omega) (k + 10 * m + 1) 8 0 L rfl (by omega)
    have e0 : ((0 : Nat) : Int) = 0 := rfl
    rw [e0] at this
    rw [this, bits_out hx k m (i + 1) _ (by omega) (by simp; omega)]
    have e2 : 8 * (m + 1) = 8 + 8 * m := by omega
    have e3 : 8 * (i + 1) = 8 * i + 8 := by omega
    rw [e2, e3, List.append_assoc, ← List.map_append, Nat.add_zero, List.range'_append_1]
def bitsL (x : Nat → Nat) : List Bool := (List.range' 0 1024).map (bit x)
theorem bitsL_len (x : Nat → Nat) : (bitsL x).length = 1024 := by unfold bitsL; simp
theorem bitsL_get (x : Nat → Nat) {i : Nat} (hi : i < 1024) : (bitsL x)[i]? = some (bit x i) := by
  unfold bitsL
  rw [List.getElem?_map, List.getElem?_range' hi]
  simp
theorem bits_f {x : Nat → Nat} (hx : Oct8 x) : ashlarref01_Bits.f 1281 (oct x) = some (bitsL x) := by
  unfold ashlarref01_Bits.f bitsL
  have := bits_out hx 0 128 0 [] rfl rfl
  simpa using this
theorem blocks_l (c : Int) (hc : c < 100000) : ∀ (m n : Nat), 98 ≤ n + m → 1024 * (n : Int) ≤ 1024 * 98 → 1024 * (n : Int) < c + 1024 ∨ n = 0 → ∃ r : Nat, ashlarref12_Blocks.l0 (m + 1) c (n : Int) (1024 * (n : Int)) = some (r : Int) ∧ (c ≤ 1024 * (r : Int)) ∧ (1024 * (r : Int) < c + 1024 ∨ r = 0)
  | 0, n, h1, h2, h3 => by
    refine ⟨n, ?_, by omega, h3⟩
    rw [ashlarref12_Blocks.l0, if_neg (by omega)]
  | m + 1, n, h1, h2, h3 => by
    by_cases h : 1024 * (n : Int) < c
    · have e1 : wrap64 ((n : Int) + 1) = ((n + 1 : Nat) : Int) := by unfold wrap64; omega
      have e2 : wrap64 (1024 * (n : Int) + 1024) = 1024 * ((n + 1 : Nat) : Int) := by unfold wrap64; omega
      rw [ashlarref12_Blocks.l0, if_pos h, e1, e2]
      exact blocks_l c hc m (n + 1) (by omega) (by omega) (.inl (by omega))
    · refine ⟨n, ?_, by omega, h3⟩
      rw [ashlarref12_Blocks.l0, if_neg h]
theorem blocks_same (c : Int) (h1 : -100000 < c) (h2 : c < 100000) : ∃ r : Int, alloc_Blocks.f c = some r ∧ ashlarref12_Blocks.f 99 c = some r := by
  obtain ⟨r, a, b, d⟩ := blocks_l c h2 98 0 (by omega) (by omega) (.inr rfl)
  refine ⟨(r : Int), ?_, a⟩
  unfold alloc_Blocks.f
  have e1 : (0 ≤ c ∧ mx c 0 = c) ∨ (c < 0 ∧ mx c 0 = 0) := by unfold mx; split <;> omega
  have e2 : wrap64 (mx c 0 + 1024) = mx c 0 + 1024 := by unfold wrap64; omega
  have e3 : wrap64 (mx c 0 + 1024 - 1) = mx c 0 + 1023 := by unfold wrap64; omega
  rw [e2, e3, Int.tdiv_eq_ediv_of_nonneg (by omega)]
  have e4 : (mx c 0 + 1023) / 1024 = (r : Int) := by omega
  rw [e4]
  have e5 : wrap64 (r : Int) = (r : Int) := by unfold wrap64; omega
  rw [e5]
end Go.Proofs.YteaacjabcfopgaaGreat.Run
end
section
set_option linter.unusedVariables false
set_option linter.unusedSimpArgs false
namespace Go.Proofs.YteaacjabcfopgaaGreat.Run
open Go Go.Proofs.YteaacjabcfopgaaGreat.Am Go.Proofs.YteaacjabcfopgaaGreat.Am.G Go.RowKit Go.Proofs Go.Proofs.YteaacjabcfopgaaGreat.PQ Go.Proofs.YteaacjabcfopgaaGreatW.PrintWords Go.Proofs.YteaacjabcfopgaaGreatW.PrintLast Go.Proofs.YteaacjabcfopgaaGreatW.PrintMore
theorem make_bools' (k : Nat) (hk : k ≤ 4096) (w : World) : (Instr.makeSlice 36 (.int .i64 (k : Int)) (.int .i64 (k : Int))).run Tryz.prog w = .ok (.slice (some ⟨w.heap.size, 0, none⟩) k k) (w.alloc (.cells (Array.replicate k (.bool false)) 4)) := make_bools k hk w
def refX (tb k : Nat) : Value := .slice (some ⟨tb, 0, none⟩) k k
set_option maxHeartbeats 4000000 in
set_option maxRecDepth 100000 in
theorem ref_new (k : Nat) (hk : k ≤ 4096) (w : World) :
    Calls Tryz.prog 14 #[.int .i64 (k : Int)] w fun e w' => e = .returned (.pointer (some ⟨w.heap.size + 1, 0, none⟩)) ∧ w' = (w.alloc (.cells (Array.replicate k (.bool false)) 4)).alloc (.cells #[refX w.heap.size k] 48) := by
  have hmk := make_bools' k hk
  go_enter Tryz.func14, Tryz.ntmps14
  go_wp2
  go_ret
  exact ⟨rfl, rfl⟩
structure RefAt (xb tb k : Nat) (S : (Nat → Bool) → World → Prop) : Prop where
  cell : ∀ u w, S u w → w.cell? ⟨xb, 0, none⟩ = some (refX tb k) ∧ xb < w.heap.size
  row : ∀ u w, S u w → (∀ j, j < k → w.cell? ⟨tb, j, none⟩ = some (.bool (u j))) ∧ (∀ j, j < k → w.frozen? ⟨tb, j, none⟩ = false) ∧ tb < w.heap.size
  put : ∀ u w n b, S u w → n < k → S (updT u n b) (w.setCell ⟨tb, n, none⟩ (.bool b))
  below : ∀ u w w', S u w → Below w.heap.size w w' → S u w'
set_option maxHeartbeats 4000000 in
set_option maxRecDepth 100000 in
theorem ref_take {xb tb k : Nat} {S : (Nat → Bool) → World → Prop} (hS : RefAt xb tb k S) (hk : k ≤ 4096) (u : Nat → Bool) (w : World) (r : Nat) (hr : r < k) (h1 : u r = false) (h2 : ∀ j, j < r → u j = true) (h : S u w) :
    Calls Tryz.prog 31 #[.pointer (some ⟨xb, 0, none⟩)] w (Ret2 (S (updT u r true)) r 0) := by
  obtain ⟨c1, c2⟩ := hS.cell u w h
  obtain ⟨r1, r2, r3⟩ := hS.row u w h
  unfold refX at c1
  have R1 := Aside0.mk r1
  have R2 := Aside0.mk r2
  have H2 := Aside0.mk h2
  have hp := hS.put u w r true h hr
  clear r1 r2 h2
  go_enter Tryz.func31, Tryz.ntmps31
  go_wp2
  go_loop [4] (fun a => ∃ j : Nat, j ≤ r ∧ a = .int .i64 (j : Int)) (fun a => r - (intOf a).toNat)
  case atStart => exact ⟨0, by omega, rfl⟩
  case round =>
    obtain ⟨j, hj, rfl⟩ := hrel
    have hjk : (j : Int) < (k : Int) := by omega
    have hc := R1.out j (by omega)
    by_cases hjr : j < r
    · rw [H2.out j hjr] at hc
      go_wp2
      go_round
      case rel => exact ⟨j + 1, by omega, by go_num⟩
      case measure => simp [intOf]; omega
    · obtain rfl : j = r := by omega
      rw [h1] at hc
      have hfz := R2.out j (by omega)
      go_wp2
      go_ret2
      exact ⟨rfl, hp⟩
set_option maxHeartbeats 4000000 in
set_option maxRecDepth 100000 in
theorem ref_full {xb tb k : Nat} {S : (Nat → Bool) → World → Prop} (hS : RefAt xb tb k S) (hk : k ≤ 4096) (u : Nat → Bool) (w : World) (h2 : ∀ j, j < k → u j = true) (h : S u w) :
    Calls Tryz.prog 31 #[.pointer (some ⟨xb, 0, none⟩)] w (Ret2 (S u) 0 27) := by
  obtain ⟨c1, c2⟩ := hS.cell u w h
  obtain ⟨r1, r2, r3⟩ := hS.row u w h
  unfold refX at c1
  have R1 := Aside0.mk r1
  have H2 := Aside0.mk h2
  clear r1 r2 h2
  go_enter Tryz.func31, Tryz.ntmps31
  go_wp2
  go_loop [4] (fun a => ∃ j : Nat, j ≤ k ∧ a = .int .i64 (j : Int)) (fun a => k - (intOf a).toNat)
  case atStart => exact ⟨0, by omega, rfl⟩
  case round =>
    obtain ⟨j, hj, rfl⟩ := hrel
    by_cases hjr : j < k
    · have hjk : (j : Int) < (k : Int) := by omega
      have hc := R1.out j (by omega)
      rw [H2.out j hjr] at hc
      go_wp2
      go_round
      case rel => exact ⟨j + 1, by omega, by go_num⟩
      case measure => simp [intOf]; omega
    · have hjk : ¬ (j : Int) < (k : Int) := by omega
      go_wp2
      go_ret2
      exact ⟨rfl, h⟩
set_option maxHeartbeats 4000000 in
set_option maxRecDepth 100000 in
theorem ref_has {xb tb k : Nat} {S : (Nat → Bool) → World → Prop} (hS : RefAt xb tb k S) (hk : k ≤ 4096) (u : Nat → Bool) (w : World) (i : Nat) (hi : i < k) (h : S u w) :
    Calls Tryz.prog 33 #[.pointer (some ⟨xb, 0, none⟩), .int .i64 (i : Int)] w (fun e w' => e = .returned (.tuple #[.bool (u i), .int .i64 0]) ∧ S u w') := by
  obtain ⟨c1, c2⟩ := hS.cell u w h
  obtain ⟨r1, r2, r3⟩ := hS.row u w h
  unfold refX at c1
  have hc := r1 i hi
  have hik : (i : Int) < (k : Int) := by omega
  have hik0 : ¬ (i : Int) < 0 := by omega
  have hik1 : ¬ (i : Int) ≥ (k : Int) := by omega
  clear r1 r2
  go_enter Tryz.func33, Tryz.ntmps33
  go_wp2
  all_goals
    go_ret2
    exact ⟨rfl, h⟩
set_option maxHeartbeats 4000000 in
set_option maxRecDepth 100000 in
theorem ref_give {xb tb k : Nat} {S : (Nat → Bool) → World → Prop} (hS : RefAt xb tb k S) (hk : k ≤ 4096) (u : Nat → Bool) (w : World) (i : Nat) (hi : i < k) (h : S u w) :
    Calls Tryz.prog 32 #[.pointer (some ⟨xb, 0, none⟩), .int .i64 (i : Int)] w (fun e w' => e = .returned (.int .i64 (if u i then 0 else 9)) ∧ S (if u i then updT u i false else u) w') := by
  have hik : (i : Int) < (k : Int) := by omega
  have hik0 : ¬ (i : Int) < 0 := by omega
  have hik2 : (0 : Int) ≤ (i : Int) := by omega
  have hik1 : ¬ (i : Int) ≥ (k : Int) := by omega
  cases hu : u i with
  | true =>
    go_enter Tryz.func32, Tryz.ntmps32
    go_wp2_with (go_at_call 33; refine (ref_has hS hk u _ i hi h).mono ?_; rintro e w1 hh; rw [hu] at hh; obtain ⟨rfl, h3⟩ := hh; obtain ⟨c1, c2⟩ := hS.cell u _ h3; obtain ⟨r1, r2, r3⟩ := hS.row u _ h3; unfold refX at c1; have hc := r1 i hi; have hfz := r2 i hi; have hp := hS.put u _ i false h3 hi; clear r1 r2)
    go_ret
    exact ⟨rfl, hp⟩
  | false =>
    go_enter Tryz.func32, Tryz.ntmps32
    go_wp2_with (go_at_call 33; refine (ref_has hS hk u _ i hi h).mono ?_; rintro e w1 hh; rw [hu] at hh; obtain ⟨rfl, h3⟩ := hh)
    go_ret
    exact ⟨rfl, h3⟩
end Go.Proofs.YteaacjabcfopgaaGreat.Run
end
section
set_option linter.unusedVariables false
set_option linter.unusedSimpArgs false
namespace Go.Proofs.YteaacjabcfopgaaGreat.Run
open Go Go.Proofs.YteaacjabcfopgaaGreat.Am Go.Proofs.YteaacjabcfopgaaGreat.Am.G Go.RowKit Go.Proofs Go.Proofs.YteaacjabcfopgaaGreat.PQ Go.Proofs.YteaacjabcfopgaaGreatW.PrintWords
set_option maxRecDepth 100000
theorem bc_map (x : Nat → Nat) : byteCells (rowX x) = (List.range 128).map fun i => AV.int .u8 (Int.ofNat (x i)) := by as_aux_lemma => kernel_rfl
theorem byte_get {x : Nat → Nat} {i : Nat} {av : AV} (h : (T.ofList (byteCells (rowX x))).get i = some av) : i < 128 ∧ av = .int .u8 (Int.ofNat (x i)) := by
  have h' := T.get_ofList h
  rw [bc_map, List.getElem?_map, Option.map_eq_some_iff] at h'
  obtain ⟨j, h1, h2⟩ := h'
  obtain ⟨h3, h4⟩ := List.getElem?_eq_some_iff.1 h1
  have h5 : i < 128 := by simpa using h3
  have h6 : j = i := by rw [← h4]; simp
  subst h6
  exact ⟨h5, h2.symm⟩
theorem byte_at (x : Nat → Nat) {i : Nat} (hi : i < 128) : (T.ofList (byteCells (rowX x))).get i = some (.int .u8 (Int.ofNat (x i))) := by
  refine ofList_at (by rw [bc_map]; simp) ?_
  rw [bc_map, List.getElem?_map, List.getElem?_range hi]
  rfl
theorem rB_zero_rb {φ : Phi} {b : Nat} : RB φ ⟨b, 0, 128⟩ (rB (fun _ => 0) false) (.cells (Array.replicate 128 (.int .u8 0)) 5) := by
  refine ⟨_, _, 0, 0, rfl, by simp, by simp, fun i hi => by omega, fun _ => rfl, fun i av hg hi => ?_⟩
  obtain ⟨h1, rfl⟩ := byte_get hg
  exact ⟨.int .u8 0, by simp [h1], .int _ _, rfl⟩
def updX (x : Nat → Nat) (n v : Nat) : Nat → Nat := fun i => if i = n then v else x i
theorem At.setByte {w0 : World} {Φ : Phi} {h h' : H} {w : World} {id tb n : Nat} {x : Nat → Nat} (hA : At w0 Φ h w) (hg : h.h.get id = some (rB x false)) (hM : Φ id = some ⟨tb, 0, 128⟩) (hn : n < 128) (v : Nat) (hh : h.upd id (rB (updX x n v) false) = h') : At w0 Φ h' (w.setCell ⟨tb, n, none⟩ (.int .u8 (v : Int))) := by
  obtain ⟨φ, hle, hR⟩ := hA
  have hp := hle _ _ hM
  obtain ⟨o, h1, a, e, lo, hi, rfl, h2, h3, h4, h5, h6⟩ := hR.blk id _ _ hg hp
  have hs := set_at h1 n (.int .u8 (v : Int))
  have ead : (⟨tb, 0, 128⟩ : PB).addr n = ⟨tb, n, none⟩ := by unfold PB.addr; simp
  rw [ead] at hs
  rw [← hh]
  refine ⟨φ, hle, hR.upd hg hp (One.set w ⟨tb, n, none⟩ (.int .u8 (v : Int))) hs ⟨_, e, lo, hi, rfl, by simpa using h2, h3, h4, h5, fun i av hget hi' => ?_⟩⟩
  obtain ⟨h7, rfl⟩ := byte_get hget
  obtain ⟨u, c1, c2, c3⟩ := h6 i _ (byte_at x h7) hi'
  have e0 : ∀ q, (⟨tb, 0, 128⟩ : PB).sh + q = q := fun q => Nat.zero_add q
  have h2' : a.size = 128 := h2
  rw [e0] at c1 ⊢
  rw [e0]
  unfold updX
  by_cases hin : i = n
  · subst hin
    rw [if_pos rfl]
    exact ⟨.int .u8 (v : Int), by rw [Array.getElem?_setIfInBounds_self_of_lt (by omega)], .int _ _, rfl⟩
  · rw [if_neg hin]
    exact ⟨u, by rw [Array.getElem?_setIfInBounds_ne (by omega)]; exact c1, c2, c3⟩
theorem At.bytes {w0 : World} {Φ : Phi} {h : H} {w : World} {id tb : Nat} {x : Nat → Nat} (hA : At w0 Φ h w) (hg : h.h.get id = some (rB x false)) (hM : Φ id = some ⟨tb, 0, 128⟩) : Kd.C (Kd.int .u8) w (some ⟨tb, 0, none⟩) 128 (oct x) ∧ tb < w.heap.size ∧ ∀ n, n < 128 → w.frozen? ⟨tb, n, none⟩ = false := by
  obtain ⟨φ, hle, hR⟩ := hA
  have hp := hle _ _ hM
  have hv : RV φ (.slice id 0 (rowX x).length (.own 1)) (.slice (some ⟨tb, 0, none⟩) (rowX x).length 128) := .slice (p := ⟨tb, 0, 128⟩) hp (by rw [rowX_len]; exact Nat.le_refl _) rfl
  have hl : h.load id 0 (rowX x).length = some (byteCells (rowX x)) := by
    unfold H.load
    rw [hg]
    rfl
  obtain ⟨A, c, e, h1, h2⟩ := row_of hR hl (by rw [rowX_len]; omega) hv
  cases e
  rw [rowX_len] at h2
  refine ⟨h2, (hR.own _ _ hp).2, fun n hn => ?_⟩
  obtain ⟨o, q1, a, e, lo, hi, rfl, q2, q3, q4, q5, q6⟩ := hR.blk id _ _ hg hp
  have q4' := q4 n hn
  have q1' : w.heap[tb]? = some (.cells a e (lo, hi)) := q1
  unfold World.frozen?
  simp only [q1']
  simp
  omega
theorem bools_ok {w0 : Base} {φ : Phi} {h : H} {w w' : World} {l : List Bool} {v : Value} (hR : RH w0 φ h w) (hb : Below w.heap.size w w') (hl : 1 ≤ l.length)
    (hv : Kd.R Kd.bool 4 w' w.heap.size (fun _ => True) v l) : ∃ g cap, v = .slice (some ⟨g, 0, none⟩) l.length cap ∧ l.length ≤ cap ∧ RH w0 (φ.add h.next ⟨g, 0, cap⟩) (h.new (.cells l.length (T.ofList (l.map AV.bool)) false)) w' := by
  obtain ⟨_, inner, ⟨h1, h2⟩, h3, h4⟩ := hv
  rcases h2 with ⟨rfl, h2⟩ | ⟨g, cap, cur, rfl, hg, hh, hn, hmax, hcs, htk⟩
  · omega
  · have hsz1 : Kd.bool.sz = 1 := rfl
    rw [hsz1] at h1 h3 hcs htk
    simp only [Nat.mul_one] at h1 h3 hn hcs htk
    have hlt : g < w'.heap.size := (Array.getElem?_eq_some_iff.1 hh).1
    have hle : φ.le (φ.add h.next ⟨g, 0, cap⟩) := Phi.le_add hR.none_at
    have old : ∀ id, id ≠ h.next → (φ.add h.next ⟨g, 0, cap⟩) id = φ id := fun id hi => by unfold Phi.add; rw [if_neg hi]
    have hRb := hR.below hb
    refine ⟨g, cap, rfl, hn, ⟨?_, ?_, ?_, ?_, hRb.bel, fun id hi => ⟨by rw [old _ (Nat.ne_of_lt (hR.rsv id hi).2)]; exact (hR.rsv id hi).1, Nat.lt_succ_of_lt (hR.rsv id hi).2⟩, Phi.le_trans hR.up hle⟩⟩
    · intro id b1 q hg1 hq
      rcases T.get_put hg1 with ⟨rfl, rfl⟩ | ⟨hne, hg1⟩
      · rw [Phi.add_at] at hq
        cases hq
        refine ⟨_, hh, cur, 4, 0, 0, rfl, hcs, by show 0 + l.length ≤ cap; omega, fun i _ => by omega, fun _ => by omega, fun i av e hi => ?_⟩
        have e1 := T.get_ofList e
        rw [List.getElem?_map, Option.map_eq_some_iff] at e1
        obtain ⟨x, e3, rfl⟩ := e1
        have e4 := h4 i x e3
        have e5 : (inner.drop (i * 1)).take 1 = [Value.bool x] := e4
        have e6 : inner[i]? = some (Value.bool x) := by
          have := congrArg (fun l => l[0]?) e5
          simpa using this
        have hil : i < inner.length := (List.getElem?_eq_some_iff.1 e6).1
        have e7 : cur[i]? = some (Value.bool x) := by
          rw [← e6, ← htk, List.getElem?_take, ← Array.getElem?_toList]
          rw [if_pos (by omega)]
        refine ⟨_, by show cur[0 + i]? = _; rw [Nat.zero_add]; exact e7, .bool _, rfl⟩
      · rw [old _ hne] at hq
        obtain ⟨o', h2, h3⟩ := hRb.blk id b1 q hg1 hq
        exact ⟨o', h2, h3.mono hle⟩
    · intro id id' b1 b2 p1 p2 g1 g2 e1 e2 hbk
      rcases T.get_put g1 with ⟨rfl, rfl⟩ | ⟨hne, g1⟩
      · rcases T.get_put g2 with ⟨rfl, rfl⟩ | ⟨hne2, g2⟩
        · rfl
        · rw [Phi.add_at] at e1
          rw [old _ hne2] at e2
          cases e1
          have := (hR.own _ _ e2).2
          simp only at hbk
          omega
      · rw [old _ hne] at e1
        rcases T.get_put g2 with ⟨rfl, rfl⟩ | ⟨hne2, g2⟩
        · rw [Phi.add_at] at e2
          cases e2
          have := (hR.own _ _ e1).2
          simp only at hbk
          omega
        · rw [old _ hne2] at e2
          exact hRb.inj _ _ _ _ _ _ g1 g2 e1 e2 hbk
    · intro id p e
      by_cases hid : id = h.next
      · subst hid
        rw [Phi.add_at] at e
        cases e
        have := hR.bel.size
        exact ⟨by show w0.w.heap.size ≤ g; omega, hlt⟩
      · rw [old _ hid] at e
        exact hRb.own _ _ e
    · intro id hid
      have hid' : h.next + 1 ≤ id := hid
      refine ⟨?_, ?_⟩
      · rw [old _ (by omega)]
        exact (hR.fresh id (by omega)).1
      · cases e : (h.new (.cells l.length (T.ofList (l.map AV.bool)) false)).h.get id with
        | none => rfl
        | some b =>
          rcases T.get_put e with ⟨rfl, _⟩ | ⟨_, e⟩
          · omega
          · rw [(hR.fresh id (by omega)).2] at e; cases e
theorem At.adoptBits {w0 : World} {Φ : Phi} {h : H} {w w' : World} {x : Nat → Nat} {v : Value} (hA : At w0 Φ h w) (hb : Below w.heap.size w w') (hv : Kd.R Kd.bool 4 w' w.heap.size (fun _ => True) v (bitsL x)) :
    ∃ g cap Φ', v = .slice (some ⟨g, 0, none⟩) 1024 cap ∧ 1024 ≤ cap ∧ Φ.le Φ' ∧ Φ' h.next = some ⟨g, 0, cap⟩ ∧ (∀ i, h.next + 1 ≤ i → Φ' i = none) ∧ At w0 Φ' (h.new (btOf 1024 (bit x))) w' := by
  obtain ⟨φ, hle, hR⟩ := hA
  obtain ⟨g, cap, e, h1, h2⟩ := bools_ok hR hb (by rw [bitsL_len]; omega) hv
  rw [bitsL_len] at e h1 h2
  have eb : (bitsL x).map AV.bool = (List.range 1024).map fun j => AV.bool (bit x j) := by
    unfold bitsL
    rw [List.map_map, List.range_eq_range']
    rfl
  rw [eb] at h2
  have hle2 : φ.le (φ.add h.next ⟨g, 0, cap⟩) := Phi.le_add hR.none_at
  exact ⟨g, cap, φ.add h.next ⟨g, 0, cap⟩, e, h1, Phi.le_trans hle hle2, Phi.add_at _ _ _, fun i hi => (h2.fresh i hi).1, _, Phi.le_refl _, h2.rebase (Phi.le_refl _)⟩
theorem rowN_of {w0 : World} {Φ : Phi} {h : H} {w : World} {id tb k N : Nat} {t : Nat → Bool} (hk : k ≤ 4096) (hg : h.h.get id = some (btOf k t)) (hM : Φ id = some ⟨tb, 0, N⟩) (hA : At w0 Φ h w) : (∀ j, j < k → w.cell? ⟨tb, j, none⟩ = some (.bool (t j))) ∧ tb < w.heap.size := by
  obtain ⟨φ, hle, hR⟩ := hA
  obtain ⟨o, h1, a, e, lo, hi, rfl, h2, h3, h4, h5, h6⟩ := hR.blk id _ _ hg (hle _ _ hM)
  have hat : ∀ j, j < k → (T.ofList ((List.range k).map fun j => AV.bool (t j))).get j = some (.bool (t j)) := fun j hj => ofList_at (by simp; omega) (by rw [List.getElem?_map, List.getElem?_range (by simpa using hj)]; rfl)
  have h1' : w.heap[tb]? = some (.cells a e (lo, hi)) := h1
  refine ⟨fun j hj => ?_, (hR.own _ _ (hle _ _ hM)).2⟩
  obtain ⟨v, x, y, z⟩ := h6 j _ (hat j hj) hj
  cases y
  unfold World.cell?
  simp only [h1']
  have : (⟨tb, 0, N⟩ : PB).sh + j = j := Nat.zero_add j
  rw [this] at x
  exact x
noncomputable def bxOf (tid k : Nat) : Blk := .cells 1 (T.ofList [.slice tid 0 k (.own 1)]) false
theorem bx_rb {φ : Phi} {b tid tb k : Nat} (hT : φ tid = some ⟨tb, 0, k⟩) : RB φ ⟨b, 0, 1⟩ (bxOf tid k) (.cells #[refX tb k] 48) := by
  refine ⟨_, _, 0, 0, rfl, rfl, Nat.le_refl 1, fun i hi => by omega, fun _ => rfl, fun i av hg hi => ?_⟩
  have hg' := T.get_ofList hg
  match i, hi with
  | 0, _ => cases hg'; exact ⟨_, rfl, .slice (p := ⟨tb, 0, k⟩) hT (Nat.le_refl _) (by show 0 + 0 + k * 1 = k; omega), rfl⟩
theorem refAt_of {w0 : World} {Φ : Phi} {h : H} {w : World} {id tid xb tb k : Nat} (hg : h.h.get id = some (bxOf tid k)) (hX : Φ id = some ⟨xb, 0, 1⟩) (hT : Φ tid = some ⟨tb, 0, k⟩) (hA : At w0 Φ h w) : w.cell? ⟨xb, 0, none⟩ = some (refX tb k) ∧ xb < w.heap.size := by
  obtain ⟨φ, hle, hR⟩ := hA
  have hl : h.load id 0 1 = some [.slice tid 0 k (.own 1)] := by
    unfold H.load
    rw [hg]
    rfl
  obtain ⟨vs, v1, v2, v3, v4, v5⟩ := hR.load hl (hle _ _ hX)
  cases v2 with
  | cons a1 a2 =>
  cases a2
  cases a1 with
  | slice e1 e2 e3 =>
  have := hle _ _ hT
  rw [this] at e1
  cases e1
  have e4 : 0 + 0 + _ * 1 = k := e3
  have h0 := v4 0 (by decide)
  rename_i c
  have : c = k := by omega
  subst this
  exact ⟨h0, (hR.own _ _ (hle _ _ hX)).2⟩
theorem okBx {n tid k : Nat} (h : tid < n) : OkB n (bxOf tid k) := .cells fun i av g => by
  have g' := T.get_ofList g
  match i with
  | 0 => cases g'; exact Nat.ble_eq_true_of_le h
  | i + 1 => simp at g'
theorem okRb (n : Nat) (x : Nat → Nat) : OkB n (rB x false) := .cells fun i av g => by rw [(byte_get g).2]; rfl
noncomputable def boOf (n : Int) : Blk := .cells 3 (T.ofList [.int .i64 2, .int .i64 n, .nils]) false
theorem okBo (N : Nat) (n : Int) : OkB N (boOf n) := .cells fun i av g => by
  have g' := T.get_ofList g
  match i with
  | 0 => cases g'; rfl
  | 1 => cases g'; rfl
  | 2 => cases g'; rfl
  | i + 3 => simp at g'
def boxO (n : Int) : Obj := .cells #[.int .i64 2, .int .i64 n, .slice none 0 0] 52
theorem bo_rb {φ : Phi} {b : Nat} {n : Int} : RB φ ⟨b, 0, 3⟩ (boOf n) (boxO n) := by
  refine ⟨_, _, 0, 0, rfl, rfl, Nat.le_refl 3, fun i hi => by omega, fun _ => rfl, fun i av hg hi => ?_⟩
  have hg' := T.get_ofList hg
  match i, hi with
  | 0, _ => cases hg'; exact ⟨_, rfl, .int _ _, rfl⟩
  | 1, _ => cases hg'; exact ⟨_, rfl, .int _ _, rfl⟩
  | 2, _ => cases hg'; exact ⟨_, rfl, .nils, rfl⟩
theorem Phi.add_ne {φ : Phi} {i j : Nat} {p : PB} (h : j ≠ i) : φ.add i p j = φ j := by unfold Phi.add; rw [if_neg h]
theorem At.box {w0 : World} {Φ : Phi} {h : H} {w : World} (hA : At w0 Φ h w) (n : Int) : At w0 (Φ.add h.next ⟨w.heap.size, 0, 3⟩) (h.new (boOf n)) (w.alloc (boxO n)) := by
  obtain ⟨φ, hle, hR⟩ := hA
  have hn := hR.new (b := boOf n) (o := boxO n) (p := ⟨w.heap.size, 0, 3⟩) rfl bo_rb
  have hle3 : (Φ.add h.next ⟨w.heap.size, 0, 3⟩).le (φ.add h.next ⟨w.heap.size, 0, 3⟩) := fun i p e => by
    by_cases hi : i = h.next
    · subst hi; rw [Phi.add_at] at e ⊢; exact e
    · rw [Phi.add_ne hi] at e ⊢; exact hle _ _ e
  exact ⟨φ.add h.next ⟨w.heap.size, 0, 3⟩, hle3, hn.rebase hle3⟩
theorem At.drop {w0 : World} {Φ Φ' : Phi} {S So : H} {w : World} (hA : At w0 Φ' So w) (hle : Φ.le Φ') (hsub : ∀ i bl, S.h.get i = some bl → So.h.get i = some bl ∧ i < S.next ∧ OkB S.next bl) (h0 : ∀ i, S.next ≤ i → Φ i = none) : At w0 Φ S w := by
  obtain ⟨φ, hle2, hR⟩ := hA
  have hup : Φ.le φ := Phi.le_trans hle hle2
  refine ⟨φ.to S.next, fun i p e => ?_, (hR.rebase hup).reset hsub h0⟩
  have hi : i < S.next := by
    by_cases hi : i < S.next
    · exact hi
    · rw [h0 i (by omega)] at e; cases e
  rw [Phi.to_at hi]
  exact hup _ _ e
theorem reads_unbox {w0 : World} {Φ : Phi} {jv : Value} {S S' So So' : H} {b : Int} {x : Nat → Nat} {bo : Blk} (hr : Reads w0 Φ jv So b x So') (hl : S.new bo = So) (hsub : ∀ i bl, S'.h.get i = some bl → So'.h.get i = some bl ∧ i < S'.next ∧ OkB S'.next bl) (h0 : ∀ i, S'.next ≤ i → Φ i = none) : Reads w0 Φ jv S b x S' := by
  intro w hA
  have hA1 := hA.leave bo
  rw [hl] at hA1
  refine (hr w hA1).mono ?_
  rintro e w' ⟨A, c, he, hc, hC, hA'⟩
  exact ⟨A, c, he, hc, hC, hA'.drop (Phi.le_refl _) hsub h0⟩
theorem writes_unbox {w0 : World} {Φ : Phi} {jv : Value} {S S' So So' : H} {b : Int} {y : Nat → Nat} {bo : Blk} (hr : Writes w0 Φ jv So b y So') (hl : S.new bo = So) (hsub : ∀ i bl, S'.h.get i = some bl → So'.h.get i = some bl ∧ i < S'.next ∧ OkB S'.next bl) (h0 : ∀ i, S'.next ≤ i → Φ i = none) : Writes w0 Φ jv S b y S' := by
  intro w1 w v hA hB hv
  have hA1 := hA.leave bo
  rw [hl] at hA1
  refine (hr w1 w v hA1 hB hv).mono ?_
  rintro e w' ⟨he, hA'⟩
  exact ⟨he, hA'.drop (Phi.le_refl _) hsub h0⟩
theorem At.boxed {w0 : World} {Φ : Phi} {h : H} {w : World} {id ob : Nat} {n : Int} (hA : At w0 Φ h w) (hg : h.h.get id = some (boOf n)) (hM : Φ id = some ⟨ob, 0, 3⟩) : w.cell? ⟨ob, 0, none⟩ = some (.int .i64 2) ∧ w.cell? ⟨ob, 1, none⟩ = some (.int .i64 n) ∧ ob < w.heap.size := by
  obtain ⟨φ, hle, hR⟩ := hA
  have hl : h.load id 0 3 = some [.int .i64 2, .int .i64 n, .nils] := by
    unfold H.load
    rw [hg]
    rfl
  obtain ⟨vs, v1, v2, v3, v4, v5⟩ := hR.load hl (hle _ _ hM)
  cases v2 with
  | cons a1 a2 =>
  cases a2 with
  | cons a2 a3 =>
  cases a1
  cases a2
  exact ⟨v4 0 (by decide), v4 1 (by decide), (hR.own _ _ (hle _ _ hM)).2⟩
end Go.Proofs.YteaacjabcfopgaaGreat.Run
end
section
set_option linter.unusedVariables false
set_option linter.unusedSimpArgs false
namespace Go.Proofs.YteaacjabcfopgaaGreat.Run
open Go Go.Proofs.YteaacjabcfopgaaGreat.Am Go.Proofs.YteaacjabcfopgaaGreat.Am.G Go.RowKit Go.Proofs Go.Proofs.YteaacjabcfopgaaGreat.PQ Go.Proofs.YteaacjabcfopgaaGreatW.PrintWords
set_option maxRecDepth 100000
structure BitsK (w0 : World) (mv jv : Value) (da : Addr) (a k nb xb tb wb : Nat) (x0 : Nat → Nat) (A S : (Nat → Bool) → (Nat → Bool) → World → Prop) (R : Nat → (Nat → Bool) → (Nat → Bool) → World → Prop) (SB : Nat → Int → (Nat → Bool) → (Nat → Bool) → World → Prop) : Prop where
  refA : ∀ t, RefAt xb tb k (A t)
  refS : ∀ t, RefAt xb tb k (S t)
  refR : ∀ b t, RefAt xb tb k (R b t)
  takeA : ∀ t u w r, A t u w → r < k → r < 1024 → t r = false → (∀ j, j < r → t j = true) → Calls Tryz.prog 10 #[mv] w (Ret2 (S (updT t r true) u) r 0)
  takeS : ∀ t u w r, S t u w → r < k → r < 1024 → t r = false → (∀ j, j < r → t j = true) → Calls Tryz.prog 10 #[mv] w (Ret2 (S (updT t r true) u) r 0)
  fullA : ∀ t u w, A t u w → k ≤ 1024 → (∀ j, j < k → t j = true) → Calls Tryz.prog 10 #[mv] w (Ret2 (S t u) 0 27)
  fullS : ∀ t u w, S t u w → k ≤ 1024 → (∀ j, j < k → t j = true) → Calls Tryz.prog 10 #[mv] w (Ret2 (S t u) 0 27)
  box : ∀ t u w n, S t u w → SB w.heap.size n t u (w.alloc (boxO n))
  refB : ∀ ob n t, RefAt xb tb k (SB ob n t)
  cellB : ∀ ob n t u w, SB ob n t u w → w.cell? ⟨ob, 0, none⟩ = some (.int .i64 2) ∧ w.cell? ⟨ob, 1, none⟩ = some (.int .i64 n) ∧ ob < w.heap.size
  unbox : ∀ ob n t u w, SB ob n t u w → S t u w
  give : ∀ ob n t u w i, SB ob n t u w → i < k → t i = true → Calls Tryz.prog 11 #[mv, .int .i64 (i : Nat)] w (Ret1 (SB ob n (updT t i false) u) 0)
  giveF : ∀ ob n t u w i, SB ob n t u w → i < k → t i = false → Calls Tryz.prog 11 #[mv, .int .i64 (i : Nat)] w (Ret1 (SB ob n t u) 9)
  rdA : ∀ t u w, A t u w → R 0 t u w
  rdS : ∀ t u w, S t u w → R 0 t u w
  read : ∀ b t u w, b < nb → R b t u w → Calls Tryz.prog 17 #[jv, .int .i64 ((a + b : Nat) : Int)] w (fun e w' => ∃ (A0 : Addr) (c : Nat) (x : Nat → Nat), e = .returned (.tuple #[.slice (some A0) 128 c, .int .i64 0]) ∧ 128 ≤ c ∧ Kd.C (Kd.int .u8) w' (some A0) 128 (oct x) ∧ Oct8 x ∧ (∀ j, j < 1024 → bit x j = t (1024 * b + j)) ∧ R (b + 1) t u w')
  wasA : ∀ t u w, A t u w → (∀ j, j < 1024 → w.cell? ⟨wb, j, none⟩ = some (.bool (bit x0 j))) ∧ wb < w.heap.size
  wasR : ∀ b t u w, R b t u w → (∀ j, j < 1024 → w.cell? ⟨wb, j, none⟩ = some (.bool (bit x0 j))) ∧ wb < w.heap.size
  baseA : ∀ t u w, A t u w → Below w0.heap.size w0 w
  baseR : ∀ b t u w, R b t u w → Below w0.heap.size w0 w
  dA : ∀ t u w, A t u w → w.cell? da = some jv
  dR : ∀ b t u w, R b t u w → w.cell? da = some jv
section
variable {w0 : World} {Φ : Phi} {jv : Value} {mb a k : Nat}
theorem rdc {h h' : H} {x : Nat → Nat} {q i : Nat} (hr : Reads w0 Φ jv h (Int.ofNat (a + q)) x h') (hi : i / 1024 = q) : Reads w0 Φ jv h ((a : Int) + (i : Int) / 1024) x h' := by
  have : (a : Int) + (i : Int) / 1024 = Int.ofNat (a + q) := by have : Int.ofNat (a + q) = ((a + q : Nat) : Int) := rfl; omega
  rw [this]; exact hr
theorem wrc {h h' : H} {x : Nat → Nat} {q i : Nat} (hr : Writes w0 Φ jv h (Int.ofNat (a + q)) x h') (hi : i / 1024 = q) : Writes w0 Φ jv h ((a : Int) + (i : Int) / 1024) x h' := by
  have : (a : Int) + (i : Int) / 1024 = Int.ofNat (a + q) := by have : Int.ofNat (a + q) = ((a + q : Nat) : Int) := rfl; omega
  rw [this]; exact hr
theorem take0 {h h1 h2 : H} {h3 : (Nat → Nat) → H} {c : Nat → Nat} {t : Nat → Bool} {r : Nat} {nb : Int} (hc : Oct8 c) (hr : Reads w0 Φ jv h (a : Int) c h1) (hr2 : Reads w0 Φ jv h1 (a : Int) c h2) (hw : ∀ y, Oct8 y → Writes w0 Φ jv h2 (a : Int) y (h3 y))
    (hm : MapAt w0 Φ h mb jv a k) (hm1 : MapAt w0 Φ h1 mb jv a k) (hm2 : MapAt w0 Φ h2 mb jv a k) (ha : a < 8) (hk : 1 ≤ k) (hk2 : k ≤ 4096) (hnb : alloc_Blocks.f (k : Int) = some nb) (hnb0 : 0 < nb)
    (hb : ∀ j, j < 1024 → bit c j = t j) (h1r : r < k) (h2r : r < 1024) (h3r : t r = false) (h4r : ∀ j, j < r → t j = true) (w : World) (hA : At w0 Φ h w) :
    Calls Tryz.prog 10 #[.pointer (some ⟨mb, 0, none⟩)] w (TakePost w0 Φ (h3 (wb c r true)) r 0) := by
  refine take_first hr hr2 (hw (wb c r true) (wb_oct hc r true)) hm hm1 hm2 (kf := 1025) (kk := 1) (r := (r : Int)) ?_ (with_f hc r (by omega) true) (by omega) (by omega) (by omega) (by omega) (by omega) (by omega) hnb hnb0 w hA
  rw [minB0]
  exact free_f hc (by omega) (by omega) (by rw [hb r h2r]; exact h3r) fun j hj => by rw [hb j (by omega)]; exact h4r j hj
theorem full0 {h h1 : H} {c : Nat → Nat} {t : Nat → Bool} (hc : Oct8 c) (hr : Reads w0 Φ jv h (a : Int) c h1)
    (hm : MapAt w0 Φ h mb jv a k) (hm1 : MapAt w0 Φ h1 mb jv a k) (ha : a < 8) (hk : 1 ≤ k) (hk2 : k ≤ 1024)
    (hb : ∀ j, j < 1024 → bit c j = t j) (h4r : ∀ j, j < k → t j = true) (w : World) (hA : At w0 Φ h w) :
    Calls Tryz.prog 10 #[.pointer (some ⟨mb, 0, none⟩)] w (TakePost w0 Φ h1 0 27) := by
  have hnb : alloc_Blocks.f (k : Int) = some 1 := blocks_f (by omega) (by omega) (by omega) (by omega)
  refine take_none1 hr hm hm1 (kf := 1025) ?_ (by omega) (by omega) (by omega) (by omega) hnb w hA
  rw [minB0]
  have e : min k 1024 = k := by omega
  rw [e]
  exact full_f hc hk2 fun j hj => by rw [hb j (by omega)]; exact h4r j hj
theorem giveq {h h1 h2 : H} {h3 : (Nat → Nat) → H} {c : Nat → Nat} {t : Nat → Bool} {i q : Nat} (hc : Oct8 c) (hr : Reads w0 Φ jv h (Int.ofNat (a + q)) c h1) (hr2 : Reads w0 Φ jv h1 (Int.ofNat (a + q)) c h2) (hw : ∀ y, Oct8 y → Writes w0 Φ jv h2 (Int.ofNat (a + q)) y (h3 y))
    (hm : MapAt w0 Φ h mb jv a k) (hm1 : MapAt w0 Φ h1 mb jv a k) (hm2 : MapAt w0 Φ h2 mb jv a k) (ha : a < 8) (hk2 : k ≤ 4096)
    (hb : ∀ j, j < 1024 → bit c j = t (1024 * q + j)) (hi : i < k) (hq : i / 1024 = q) (ht : t i = true) (w : World) (hA : At w0 Φ h w) :
    Calls Tryz.prog 11 #[.pointer (some ⟨mb, 0, none⟩), .int .i64 (i : Nat)] w (ErrPost w0 Φ (h3 (wb c (i % 1024) false)) 0) := by
  have e : ((i : Nat) : Int) % 1024 = ((i % 1024 : Nat) : Int) := by omega
  have hbi : bit c (i % 1024) = true := by rw [hb _ (by omega), ← ht]; congr 1; omega
  exact give_calls (kk := 1) (rdc hr hq) (rdc hr2 hq) (wrc (hw _ (wb_oct hc (i % 1024) false)) hq) hm hm1 hm2 (by rw [e, has_f hc _ (by omega), hbi]) (by rw [e]; exact with_f hc _ (by omega) false) (by omega) (by omega) (by omega) (by omega) (by omega) w hA
theorem giveFq {h h1 : H} {c : Nat → Nat} {t : Nat → Bool} {i q : Nat} (hc : Oct8 c) (hr : Reads w0 Φ jv h (Int.ofNat (a + q)) c h1)
    (hm : MapAt w0 Φ h mb jv a k) (hm1 : MapAt w0 Φ h1 mb jv a k) (ha : a < 8) (hk2 : k ≤ 4096)
    (hb : ∀ j, j < 1024 → bit c j = t (1024 * q + j)) (hi : i < k) (hq : i / 1024 = q) (ht : t i = false) (w : World) (hA : At w0 Φ h w) :
    Calls Tryz.prog 11 #[.pointer (some ⟨mb, 0, none⟩), .int .i64 (i : Nat)] w (ErrPost w0 Φ h1 9) := by
  have e : ((i : Nat) : Int) % 1024 = ((i % 1024 : Nat) : Int) := by omega
  have hbi : bit c (i % 1024) = false := by rw [hb _ (by omega), ← ht]; congr 1; omega
  exact give_free (rdc hr hq) hm hm1 (by rw [e, has_f hc _ (by omega), hbi]) (by omega) (by omega) (by omega) (by omega) (by omega) w hA
theorem bit_upd0 {c : Nat → Nat} (hc : Oct8 c) {t : Nat → Bool} {q i : Nat} (hb : ∀ j, j < 1024 → bit c j = t (1024 * q + j)) (hq : i / 1024 = q) (v : Bool) : ∀ j, j < 1024 → bit (wb c (i % 1024) v) j = updT t i v (1024 * q + j) := fun j hj => by
  rw [bit_wb hc]
  unfold updT
  by_cases e : j = i % 1024
  · rw [if_pos e, if_pos (by omega)]
  · rw [if_neg e, if_neg (by omega), hb j hj]
theorem bit_keep {c : Nat → Nat} {t : Nat → Bool} {q i : Nat} (hb : ∀ j, j < 1024 → bit c j = t (1024 * q + j)) (hq : i / 1024 ≠ q) (v : Bool) : ∀ j, j < 1024 → bit c j = updT t i v (1024 * q + j) := fun j hj => by
  unfold updT
  rw [if_neg (by omega), hb j hj]
theorem open3 {w0 : World} {Φ : Phi} {ja : Addr} {h h1 h2 h3 : H} {first k : Int} {x x2 x3 : Nat → Nat} (hr : Reads w0 Φ (.pointer (some ja)) h first x h1) (hr2 : Reads w0 Φ (.pointer (some ja)) h1 (first + 1) x2 h2) (hr3 : Reads w0 Φ (.pointer (some ja)) h2 (first + 2) x3 h3)
    (hf : 0 ≤ first) (hf2 : first ≤ 10) (hk : 1 ≤ k) (hk2 : k ≤ 4096) (hnb : alloc_Blocks.f k = some 3) (w : World) (hA : At w0 Φ h w) :
    Calls Tryz.prog 9 #[.pointer (some ja), .int .i64 first, .int .i64 k] w (OpenPost w0 Φ h3 (.pointer (some ja)) first k) := by
  have HNB := Aside0.mk hnb
  clear hnb
  have g1 : decide (k < 1) = false := decide_eq_false (by omega)
  have g2 : decide (k > 4096) = false := decide_eq_false (by omega)
  have g2' : decide (4096 < k) = false := decide_eq_false (by omega)
  have g3 : decide (first < 0) = false := decide_eq_false (by omega)
  go_enter Tryz.func9, Tryz.ntmps9
  go_wp2_with (go_at_call 12; refine (alloc_Blocks.calls k 3 _ HNB.out).mono ?_; rintro e w1 ⟨rfl, hB⟩)
  refine wp_loop_rounds 4 ?_
  rw [rounds_succ]
  have hA1 := hA.below hB
  go_wp2_with (go_at_call 17; refine (hr _ hA1).mono ?_; rintro e w2 hh; obtain ⟨A, c, rfl, hc, hC, hA2⟩ := hh)
  rw [rounds_succ]
  go_wp2_with (go_at_call 17; refine (hr2 _ hA2).mono ?_; rintro e w3 hh; obtain ⟨A2, c_, rfl, hc_, hC_, hA3⟩ := hh)
  rw [rounds_succ]
  go_wp2_with (go_at_call 17; refine (hr3 _ hA3).mono ?_; rintro e w4 hh; obtain ⟨A3, c1_, rfl, hc1_, hC1_, hA4⟩ := hh)
  rw [rounds_succ]
  go_wp2
  go_ret2
  exact ⟨_, hA4, rfl, rfl⟩
end
end Go.Proofs.YteaacjabcfopgaaGreat.Run
end
