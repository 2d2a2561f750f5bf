/-
  The law AllocBits answers true.
-/
import Derived.Test.YteaacjabcfopgaaGreatIl
set_option linter.unusedVariables false
set_option linter.unusedSimpArgs false
namespace Go.Proofs.YteaacjabcfopgaaGreat.Run
open Go Go.Proofs.YteaacjabcfopgaaGreat.Am Go.Proofs.YteaacjabcfopgaaGreat.Am.G Go.RowKit Go.Proofs Go.Proofs.YteaacjabcfopgaaGreat.PQ Go.Proofs.YteaacjabcfopgaaGreatW.PrintWords Go.Proofs.YteaacjabcfopgaaGreatW.PrintLast Go.Proofs.YteaacjabcfopgaaGreatW.PrintMore
theorem At.byteCell {w0 : World} {Φ : Phi} {h : H} {w : World} {id tb n : Nat} {x : Nat → Nat} (hA : At w0 Φ h w) (hg : h.h.get id = some (rB x false)) (hM : Φ id = some ⟨tb, 0, 128⟩) (hn : n < 128) : w.cell? ⟨tb, n, none⟩ = some (.int .u8 (Int.ofNat (x n))) := by
  obtain ⟨φ, hle, hR⟩ := hA
  obtain ⟨o, h1, a, e, lo, hi, rfl, h2, h3, h4, h5, h6⟩ := hR.blk id _ _ hg (hle _ _ hM)
  obtain ⟨u, c1, c2, c3⟩ := h6 n _ (byte_at x hn) hn
  cases c2
  have h1' : w.heap[tb]? = some (.cells a e (lo, hi)) := h1
  unfold World.cell?
  simp only [h1']
  have : (⟨tb, 0, 128⟩ : PB).sh + n = n := Nat.zero_add n
  rw [this] at c1
  exact c1
def fillT (nb : Nat) (x : Nat → Nat) (n : Nat) : Nat → Bool := fun j => if j < n then tOf nb x j else false
theorem fillT_zero (nb : Nat) (x : Nat → Nat) : fillT nb x 0 = fun _ => false := funext fun j => if_neg (by omega)
theorem fillT_succ (nb : Nat) (x : Nat → Nat) (n : Nat) : updT (fillT nb x n) n (tOf nb x n) = fillT nb x (n + 1) := funext fun j => by
  unfold updT fillT
  by_cases e : j = n
  · rw [if_pos e, if_pos (by omega), e]
  · rw [if_neg e]
    by_cases h : j < n
    · rw [if_pos h, if_pos (by omega)]
    · rw [if_neg h, if_neg (by omega)]
theorem tOf_low {nb : Nat} {x : Nat → Nat} (h : 1 ≤ nb) : nb = 1 ∨ ∀ j, 0 ≤ j → j < 1024 → tOf nb x j = false := by
  by_cases e : nb = 1
  · exact .inl e
  · exact .inr fun j _ hj => by unfold tOf; rw [if_pos (by omega)]
def BRow (x : Nat → Nat) (w : World) (e : Ending) (w' : World) : Prop := ∃ g cap, e = .returned (.slice (some ⟨g, 0, none⟩) 1024 cap) ∧ g < w'.heap.size ∧ (∀ j, j < 1024 → w'.cell? ⟨g, j, none⟩ = some (.bool (bit x j))) ∧ Below w.heap.size w w'
theorem bits_row {x : Nat → Nat} {A0 : Addr} {c : Nat} {w : World} (hx : Oct8 x) (hC : Kd.C (Kd.int .u8) w (some A0) 128 (oct x)) (hc : 128 ≤ c) : Calls Tryz.prog 15 #[.slice (some A0) 128 c] w (BRow x w) := by
  have hcl : (oct x).length ≤ c := by rw [oct_len]; exact hc
  have hC' : Kd.C (Kd.int .u8) w (some A0) (oct x).length (oct x) := by rw [oct_len]; exact hC
  have := ashlarref01_Bits.calls 1281 (some A0) c (oct x) (bitsL x) w hC' hcl (bits_f hx)
  rw [oct_len] at this
  refine this.mono ?_
  rintro e w' ⟨v, rfl, hR, hB⟩
  obtain ⟨g, cap, rfl, h1, h2, h3⟩ := bools_cells (w := w) hR
  exact ⟨g, cap, rfl, h2, h3, hB⟩
theorem tmod_lo (c : Int) : -100000 < c.tmod 100000 := by
  have := Int.tmod_lt_of_pos (-c) (show (0 : Int) < 100000 by decide)
  rw [Int.neg_tmod] at this
  omega
theorem tmod_hi (c : Int) : c.tmod 100000 < 100000 := Int.tmod_lt_of_pos c (by decide)
set_option maxHeartbeats 16000000 in
set_option maxRecDepth 100000 in
theorem bits_law (count first : Int) (a0 : Option Addr) (len cap : Nat) (zs : List Int) (odd : Nat) (hodd : odd < 256) (w : World) (hrow : ∀ i : Nat, i < len → ∃ x, a0 = some x ∧ w.cell? (x.add i) = some (.int .i64 (zs.getD i 0)) ∧ x.block < w.heap.size) (hlen : len ≤ 17592186044416) (hcl : -9223372036854775808 ≤ count) (hch : count ≤ 9223372036854775807) :
    Calls Tryz.prog 4 #[.int .i64 count, .int .i64 first, .slice a0 len cap, .int .u8 (odd : Int)] w fun e w' => e = .returned (.bool true) ∧ Below w.heap.size w w' := by
  obtain ⟨k, hk1, hk2, hkc⟩ : ∃ k : Nat, 1 ≤ k ∧ k ≤ 2100 ∧ count % 2100 = (k : Int) - 1 := ⟨(count % 2100 + 1).toNat, by omega, by omega, by omega⟩
  have hm : ashlarlaw12_mod.f count 2100 = some ((k : Int) - 1) := by rw [mod_f (by omega) (by omega), hkc]
  obtain ⟨a, ha, hac⟩ : ∃ a : Nat, a < 8 ∧ first % 8 = (a : Int) := ⟨(first % 8).toNat, by omega, by omega⟩
  have hm2 : ashlarlaw12_mod.f first 8 = some (a : Int) := by rw [mod_f (by omega) (by omega), hac]
  obtain ⟨nb, hn1, hn3, hnk1, hnk2⟩ : ∃ nb : Nat, 1 ≤ nb ∧ nb ≤ 3 ∧ 1024 * (nb - 1) < k ∧ k ≤ 1024 * nb := ⟨(k + 1023) / 1024, by omega, by omega, by omega, by omega⟩
  have hblk : alloc_Blocks.f (k : Int) = some (nb : Int) := blocks_f (by omega) (by omega) (by omega) (by omega)
  obtain ⟨s, hs, hsc⟩ : ∃ s : Nat, s < 128 ∧ ((k : Int) - 1) % 1024 / 8 = (s : Int) := ⟨(k - 1) % 1024 / 8, by omega, by omega⟩
  obtain ⟨br, hbr1, hbr2⟩ := blocks_same (count.tmod 100000) (tmod_lo _) (tmod_hi _)
  have HM := Aside0.mk hm
  have HM2 := Aside0.mk hm2
  have HBLK := Aside0.mk hblk
  have HSC := Aside0.mk hsc
  have HBR1 := Aside0.mk hbr1
  have HBR2 := Aside0.mk hbr2
  have HROW := Aside0.mk hrow
  clear hm hm2 hkc hac hblk hsc hrow hbr1 hbr2
  have e1 : (1 : Int) + ((k : Int) - 1) = (k : Int) := by omega
  have hmk := make_octets
  have hb0 : (0 : Int) ≤ (k : Int) - 1 := by omega
  go_enter Tryz.func4, Tryz.ntmps4
  go_wp2_with (first
    | (go_at_call 6; (with_reducible refine (ashlarlaw12_mod.calls count 2100 ((k : Int) - 1) _ HM.out).mono ?_); rintro e w1 hh; obtain ⟨rfl, ⟨⟨nd, rfl⟩⟩⟩ := hh)
    | (go_at_call 6; (with_reducible refine (ashlarlaw12_mod.calls first 8 (a : Int) _ HM2.out).mono ?_); rintro e w1 hh; obtain ⟨rfl, ⟨⟨nd2, rfl⟩⟩⟩ := hh)
    | (go_at_call 7; refine (begin_d _).mono ?_; rintro e w2 hh; obtain ⟨Φ, pJ, pD, db, dof, rfl, hA, hJ, hD, h0, hda⟩ := hh)
    | (go_at_call 8; refine (lives_calls _).mono ?_; rintro e w3 hh; obtain ⟨rfl, hB3⟩ := hh; have hA3 := hA.below hB3)
    | (go_at_call 12; refine (alloc_Blocks.calls (k : Int) (nb : Int) _ HBLK.out).mono ?_; rintro e w4 hh; obtain ⟨rfl, hB4⟩ := hh; have hA4 := hA3.below hB4))
  have hW : Below w.heap.size w (w.drewN (nd + nd2)) := Drawn0.below ⟨⟨_, rfl⟩⟩
  generalize w.drewN (nd + nd2) = w0 at *
  obtain ⟨Φ1, hle1, hB1, hf1, hA5⟩ := hA4.adopt (b := rB (fun _ => 0) false) (o := .cells (Array.replicate 128 (.int .u8 0)) 5) (N := 128) fun φ' _ => rB_zero_rb
  rw [HB0_next] at hB1 hf1
  rw [HB0_new] at hA5
  replace hJ := hle1 _ _ hJ
  replace hD := hle1 _ _ hD
  clear hA hA3 hA4 hB3 hB4 hmk e1 HM HM2 HBLK h0 hle1
  generalize w4.heap.size = bk at hB1 ⊢
  generalize w4.alloc (Obj.cells (Array.replicate 128 (Value.int IntKind.u8 0)) 5) = w5 at hA5 ⊢
  clear w4 w3 w2
  rw [HSC.out]
  go_loopw [14] (fun v wr => ∃ n : Nat, s ≤ n ∧ n ≤ 128 ∧ v = .int .i64 (n : Int) ∧ At w0 Φ1 (K0 (xN s odd n)) wr) (fun v _ => 128 - (intOf v).toNat)
  case atStart => exact ⟨s, by omega, by omega, rfl, by rw [xN_start]; exact hA5⟩
  case round =>
    obtain ⟨n, hn0, hn, rfl, hAn⟩ := hrel
    clear hA5
    by_cases hlt : n < 128
    · obtain ⟨-, hbl, hfz⟩ := hAn.bytes (K0_get _) hB1
      have hfn := hfz n hlt
      have hcn := hAn.byteCell (K0_get _) hB1 hlt
      have hset := hAn.setByte (h' := K0 (xN s odd (n + 1))) (K0_get _) hB1 hlt odd (by rw [xN_succ hn0]; exact K0_upd _ _)
      clear hfz
      go_wp2
      go_roundw
      case rel => exact ⟨n + 1, by omega, by omega, by go_num, hset⟩
      case measure => simp [intOf]; omega
    · have hne : n = 128 := by omega
      subst hne
      have hx : Oct8 (xN s odd 128) := xN_oct hodd
      generalize xN s odd 128 = x0 at hAn hx
      have hdc := dcell (K0_load _) hD hJ hAn
      rw [hda] at hdc
      have hwb := write_bits hn1 hn3 ha hx hJ hB1 hf1 wr hAn
      rw [← Int.add_sub_assoc] at hwb
      have HWB := Aside0.mk hwb
      clear hwb hn hn0 hlt
      go_wp2_with (first
        | (go_at_call 13; refine HWB.out.mono ?_; rintro e w6 hh; obtain ⟨rfl, hA6⟩ := hh; have hdc6 := dcell (HW_load nb x0 a hn1 hn3) hD hJ hA6; rw [hda] at hdc6)
        | (go_at_call 9; refine (open_bits hn1 hn3 ha hnk1 hnk2 hJ hf1 _ hA6).mono ?_; rintro e w7 hh; obtain ⟨mb, Φ2, rfl, hle2, hM2, hf2, hA7⟩ := hh)
        | (go_at_call 14; refine (new_bits hn1 hn3 (by omega) _ hA7).mono ?_; rintro e w8 hh; obtain ⟨xb, tb, Φ3, rfl, hle3, hT3, hX3, hf3, hA8⟩ := hh)
        | (go_at_call 15; refine (bits_bits hn1 hn3 ha hnk1 hnk2 hx (hle3 _ _ (hle2 _ _ hJ)) (hle3 _ _ (hle2 _ _ hD)) (hle3 _ _ (hle2 _ _ hB1)) (hle3 _ _ hM2) hT3 hX3 _ hA8).mono ?_; rintro e w9 hh; obtain ⟨wb, cap9, A, S, R, SB, rfl, hK, hA9⟩ := hh))
      rw [hda] at hK
      clear hdc hdc6 hAn hA6 hA7 hA8 HWB hM2 hf2 hT3 hX3 hf3 hf1 hle2 hle3 hB1 hJ hD hda
      go_loopw [19] (fun v wr => ∃ n : Nat, n ≤ k ∧ v = .int .i64 (n : Int) ∧ A (tOf nb x0) (fillT nb x0 n) wr) (fun v _ => k - (intOf v).toNat)
      case atStart => exact ⟨0, by omega, rfl, by rw [fillT_zero]; exact hA9⟩
      case round =>
        obtain ⟨n, hn, rfl, hAn⟩ := hrel
        clear hA9
        by_cases hlt : n < k
        · have hlt' : (n : Int) < (k : Int) := by omega
          have hlt0 : (0 : Int) ≤ (n : Int) := by omega
          obtain ⟨c1, c2⟩ := (hK.refA _).cell _ _ hAn
          obtain ⟨r1, r2, r3⟩ := (hK.refA _).row _ _ hAn
          obtain ⟨q1, q2⟩ := hK.wasA _ _ _ hAn
          have hAd := (hK.refA _).below _ wr wr.drew hAn (below_drew1 (Below.refl _ _))
          unfold refX at c1
          clear r1 r2
          obtain ⟨j, hj, hjn⟩ : ∃ j : Nat, j < 1024 ∧ j = n % 1024 := ⟨_, by omega, rfl⟩
          have hqn := q1 j hj
          have hw3 : (n : Int).tmod 1024 = (j : Int) := by rw [Int.tmod_eq_emod_of_nonneg (by omega)]; omega
          have hj' : (j : Int) < 1024 := by omega
          have hj0 : (0 : Int) ≤ (j : Int) := by omega
          obtain ⟨m1, hm1⟩ : ∃ m : Int, m = (nb : Int) - 1 := ⟨_, rfl⟩
          have hw2 : IntKind.i64.wrap ((a : Int) + (nb : Int) - 1 - (a : Int)) = m1 := by rw [i64_in_ _ (by omega)]; omega
          by_cases hq : n / 1024 = nb - 1
          · have hw1 : IntKind.i64.wrap ((n : Int) / 1024) = m1 := by rw [i64_in_ _ (by omega)]; omega
            have htn : tOf nb x0 n = bit x0 j := by unfold tOf; rw [if_neg (by omega)]; congr 1; omega
            have HTN := Aside0.mk htn
            clear htn q1 hm1 hjn hq
            go_wp2
            go_still_tail 19, (by kernel_rfl)
            clear hw1 hw2 hw3
            change wpList _ _ _ _ _ wr.drew
            generalize wr.drew = wd at hAd ⊢
            obtain ⟨r1, r2, r3⟩ := (hK.refA _).row _ _ hAd
            have hrn := r1 n hlt
            have hfn := r2 n hlt
            have hput := (hK.refA _).put _ _ n (tOf nb x0 n) hAd hlt
            rw [fillT_succ, HTN.out] at hput
            clear r1 r2 c1 c2 hAn hqn hAd
            go_wp2
            go_roundw
            case rel => exact ⟨n + 1, by omega, by go_num, hput⟩
            case measure => simp [intOf]; omega
          · obtain ⟨m2, hm2⟩ : ∃ m : Int, m = (n : Int) / 1024 := ⟨_, rfl⟩
            have hw1 : IntKind.i64.wrap ((n : Int) / 1024) = m2 := by rw [i64_in_ _ (by omega)]; omega
            have hb12 : (m2 == m1) = false := beq_eq_false_iff_ne.2 (by omega)
            have htn : tOf nb x0 n = false := by unfold tOf; rw [if_pos (by omega)]
            have HTN := Aside0.mk htn
            clear htn q1 hm1 hjn hq hm2
            go_wp2
            go_still_tail 19, (by kernel_rfl)
            clear hw1 hw2 hw3
            change wpList _ _ _ _ _ wr.drew
            generalize wr.drew = wd at hAd ⊢
            obtain ⟨r1, r2, r3⟩ := (hK.refA _).row _ _ hAd
            have hrn := r1 n hlt
            have hfn := r2 n hlt
            have hput := (hK.refA _).put _ _ n (tOf nb x0 n) hAd hlt
            rw [fillT_succ, HTN.out] at hput
            clear r1 r2 c1 c2 hAn hqn hAd
            go_wp2
            go_roundw
            case rel => exact ⟨n + 1, by omega, by go_num, hput⟩
            case measure => simp [intOf]; omega
        · obtain rfl : n = k := by omega
          have hI0 : InvT nb 0 n x0 (tOf nb x0) (fillT nb x0 n) := ⟨tOf_low hn1, fun j hj => if_pos hj, fun _ _ => rfl⟩
          have hS0 := St.zero (S := S) hAn
          clear hAn
          generalize fillT nb x0 n = u0 at hI0 hS0
          generalize tOf nb x0 = t0 at hI0 hS0
          go_wp2
          go_loopw [20] (fun v wr => ∃ (m : Nat) (t u : Nat → Bool), m ≤ 40 ∧ m ≤ len ∧ v = .int .i64 (m : Int) ∧ InvT nb m n x0 t u ∧ St A S m t u wr) (fun v _ => 40 - (intOf v).toNat)
          case atStart => exact ⟨0, _, _, by omega, by omega, rfl, hI0, hS0⟩
          case round =>
            obtain ⟨m, t, u, hm, hml, rfl, hI, hS⟩ := hrel
            clear hI0 hS0
            by_cases hc : m < len ∧ m < 40
            · obtain ⟨hc1, hc2⟩ := hc
              have q1 : (m : Int) < (len : Int) := by omega
              have q2 : (m : Int) < 40 := by omega
              obtain ⟨xa, hxa, hcell, hblk⟩ := HROW.out m hc1
              subst hxa
              have hB0 := hW.trans ((hK.baseR 0 _ _ _ (St.read hK hS)).mono hW.size)
              replace hcell := (hB0.cell (p := xa.add m) (by unfold Addr.add; split <;> exact hblk)).trans hcell
              obtain ⟨g, hg1, hgc⟩ : ∃ g : Nat, g < n ∧ (zs.getD m 0) % (n : Int) = (g : Int) := by
                have h1 := Int.emod_nonneg (zs.getD m 0) (show (n : Int) ≠ 0 by omega)
                have h2 := Int.emod_lt_of_pos (zs.getD m 0) (show (0 : Int) < n by omega)
                exact ⟨((zs.getD m 0) % (n : Int)).toNat, by omega, by omega⟩
              have hmg : ashlarlaw12_mod.f (zs.getD m 0) (n : Int) = some (g : Int) := by rw [mod_f (by omega) (by omega), hgc]
              have HMG := Aside0.mk hmg
              clear hmg hgc hB0 hblk
              generalize zs.getD m 0 = zg at hcell HMG
              have hm0 : (0 : Int) ≤ (m : Int) := by omega
              have hbel := (St.ref hK m t).below u
              by_cases he : m % 2 = 0
              · have he2 : (m : Int) % 2 = 0 := by omega
                have HE := Aside0.mk he
                clear he
                go_wp2_with (first
                  | (go_at_call 6; refine (ashlarlaw12_mod.calls zg (n : Int) (g : Int) _ HMG.out).mono ?_; rintro e w7 hh; obtain ⟨rfl, hD7⟩ := hh; have hS7 := hbel _ _ hS (Drawn0.below hD7))
                  | (go_at_call 16; refine (does_even hK (by omega) hn1 hnk1 hnk2 (by omega) hI hS7 _).mono ?_; rintro e w8 hh; obtain ⟨rfl, t2, u2, hI2, hS2⟩ := hh))
                go_roundw
                case rel => exact ⟨m + 1, _, _, by omega, by omega, by go_num, hI2, hS2⟩
                case measure => simp [intOf]; omega
              · have he2 : (m : Int) % 2 = 1 := by omega
                have hm1 : m ≠ 0 := by omega
                have HE := Aside0.mk he
                clear he
                go_wp2_with (first
                  | (go_at_call 6; refine (ashlarlaw12_mod.calls zg (n : Int) (g : Int) _ HMG.out).mono ?_; rintro e w7 hh; obtain ⟨rfl, hD7⟩ := hh; have hS7 := hbel _ _ hS (Drawn0.below hD7))
                  | (go_at_call 16; refine (does_odd hK (by omega) hm1 hI hS7 g hg1).mono ?_; rintro e w8 hh; obtain ⟨rfl, t2, u2, hI2, hS2⟩ := hh))
                go_roundw
                case rel => exact ⟨m + 1, _, _, by omega, by omega, by go_num, hI2, hS2⟩
                case measure => simp [intOf]; omega
            · have hR0 := St.read hK hS
              clear hS
              have hq : ¬ (m : Int) < (len : Int) ∨ ((m : Int) < (len : Int) ∧ ¬ (m : Int) < 40) := by omega
              clear hc
              rcases hq with q1 | ⟨q1, q2⟩
              all_goals
                go_wp2
                go_loopw [21] (fun v wr => ∃ b : Nat, b ≤ nb ∧ v = .int .i64 ((a : Int) + (b : Int)) ∧ R b t u wr) (fun v _ => (a + nb) - (intOf v).toNat)
                case atStart => exact ⟨0, by omega, by go_num, hR0⟩
                case round =>
                  obtain ⟨b, hb, rfl, hR⟩ := hrel
                  clear hR0
                  by_cases hbn : b < nb
                  · have hdc := hK.dR _ _ _ _ hR
                    have hrd := hK.read b t u
                    go_wp2_with (first
                      | (go_at_call 17; refine (hrd _ hbn hR).mono ?_; rintro e w7 hh; obtain ⟨A0, c0, x, rfl, hc0, hC, hx7, hbx, hR7⟩ := hh)
                      | (go_at_call 15; refine (bits_row hx7 hC hc0).mono ?_; rintro e w8 hh; obtain ⟨g, cap8, rfl, hg8, hcells, hB8⟩ := hh; have hR8 := (hK.refR _ _).below _ _ _ hR7 hB8))
                    clear hR hdc hrd hC hx7 hR7 hB8
                    go_loopw [25] (fun v wr => ∃ j : Nat, j ≤ 1024 ∧ v = .int .i64 (j : Int) ∧ R (b + 1) t u wr ∧ g < wr.heap.size ∧ (∀ i, i < 1024 → wr.cell? ⟨g, i, none⟩ = some (.bool (bit x i)))) (fun v _ => 1024 - (intOf v).toNat)
                    case atStart => exact ⟨0, by omega, rfl, hR8, hg8, hcells⟩
                    case round =>
                      obtain ⟨j, hj, rfl, hRj, hgj, hcj⟩ := hrel
                      clear hR8 hg8 hcells
                      by_cases hj2 : j < 1024
                      · have hc1 := hcj j hj2
                        rw [hbx j hj2] at hc1
                        obtain ⟨d1, d2⟩ := (hK.refR _ _).cell _ _ hRj
                        obtain ⟨r1, r2, r3⟩ := (hK.refR _ _).row _ _ hRj
                        obtain ⟨v1, v2⟩ := hK.wasR _ _ _ _ hRj
                        have hv1 := v1 j hj2
                        unfold refX at d1
                        have HCJ := Aside0.mk hcj
                        clear r2 v1 hcj
                        obtain ⟨th, hth⟩ : ∃ th : Nat, th = 1024 * b + j := ⟨_, rfl⟩
                        have hth2 : ((a : Int) + (b : Int) - (a : Int)) * 1024 + (j : Int) = (th : Int) := by omega
                        rw [← hth] at hc1
                        by_cases hlt : th < n
                        · have hct := r1 th hlt
                          rw [hI.2.1 th hlt] at hct
                          have hd : decide ((th : Int) < (n : Int)) = true := decide_eq_true (by omega)
                          have hlt' : (th : Int) < (n : Int) := by omega
                          have hth0 : (0 : Int) ≤ (th : Int) := by omega
                          have HTH := Aside0.mk hth
                          clear r1 hth
                          have hd2 : decide (n ≤ th) = false := decide_eq_false (by omega)
                          generalize t th = bb at hc1 hct
                          have hbb : (bb != bb) = false := by cases bb <;> rfl
                          go_wp2
                          go_quiet (fail)
                          have hRd := (hK.refR (b + 1) t).below u wr _ hRj (Drawn0.below ⟨⟨nq, rfl⟩⟩)
                          have hbd : Below wr.heap.size wr (wr.drewN nq) := Drawn0.below ⟨⟨nq, rfl⟩⟩
                          generalize wr.drewN nq = wz at hRd hbd ⊢
                          go_wp2
                          go_roundw
                          case rel => exact ⟨j + 1, by omega, by go_num, hRd, by have := hbd.size; omega, fun i hi => (hbd.cell (p := ⟨g, i, none⟩) hgj).trans (HCJ.out i hi)⟩
                          case measure => simp [intOf]; omega
                        · have hbe : b = nb - 1 := by omega
                          have htt : t th = bit x0 j := by
                            rw [hI.2.2 th (by omega)]
                            unfold tOf
                            rw [if_neg (by omega)]
                            congr 1; omega
                          rw [htt] at hc1
                          have hd : decide ((th : Int) < (n : Int)) = false := decide_eq_false (by omega)
                          have hd1 : decide (th < n) = false := decide_eq_false (by omega)
                          have hlt' : (n : Int) ≤ (th : Int) := by omega
                          have hth0 : (0 : Int) ≤ (th : Int) := by omega
                          have HTH := Aside0.mk hth
                          clear r1 hth htt hbe
                          have hd2 : decide (n ≤ th) = true := decide_eq_true (by omega)
                          have hd3 : decide ((n : Int) ≤ (th : Int)) = true := decide_eq_true (by omega)
                          generalize bit x0 j = bb at hc1 hv1
                          have hbb : (bb != bb) = false := by cases bb <;> rfl
                          go_wp2
                          go_quiet (fail)
                          have hRd := (hK.refR (b + 1) t).below u wr _ hRj (Drawn0.below ⟨⟨nq, rfl⟩⟩)
                          have hbd : Below wr.heap.size wr (wr.drewN nq) := Drawn0.below ⟨⟨nq, rfl⟩⟩
                          generalize wr.drewN nq = wz at hRd hbd ⊢
                          go_wp2
                          go_roundw
                          case rel => exact ⟨j + 1, by omega, by go_num, hRd, by have := hbd.size; omega, fun i hi => (hbd.cell (p := ⟨g, i, none⟩) hgj).trans (HCJ.out i hi)⟩
                          case measure => simp [intOf]; omega
                      · have hje : j = 1024 := by omega
                        subst hje
                        go_wp2
                        go_roundw
                        case rel => exact ⟨b + 1, by omega, by go_num, hRj⟩
                        case measure => simp [intOf]; omega
                  · have hbe : b = nb := by omega
                    subst hbe
                    have hbase := hW.trans ((hK.baseR _ _ _ _ hR).mono hW.size)
                    go_wp2_with (first
                      | (go_at_call 12; refine (alloc_Blocks.calls (count.tmod 100000) br _ HBR1.out).mono ?_; rintro e w7 hh; obtain ⟨rfl, hB7⟩ := hh)
                      | (go_at_call 18; refine (ashlarref12_Blocks.calls 99 (count.tmod 100000) br _ HBR2.out).mono ?_; rintro e w8 hh; obtain ⟨rfl, hD8⟩ := hh))
                    go_ret
                    exact ⟨by simp, (hbase.trans (hB7.mono hbase.size)).trans ((Drawn0.below hD8).mono (by have := hbase.size; have := hB7.size; omega))⟩
end Go.Proofs.YteaacjabcfopgaaGreat.Run
