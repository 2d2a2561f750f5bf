/-
  Printed by a program of this session's own out of the program's form: plain functions, and proofs that the calls do what these say.
-/
import Derived.Test.YtfjfollomgjlbaaGreatPc
import Derived.Test.YtfjfollomgjlbaaGreatPf
import Derived.Test.YtfjfollomgjlbaaGreatLv
namespace Go.Proofs.YtfjfollomgjlbaaGreat.PQ
open Go.RowKit Go.Proofs.YtfjfollomgjlbaaGreatW.PrintWords Go.Proofs.YtfjfollomgjlbaaGreatW.PrintLast Go.Proofs.YtfjfollomgjlbaaGreatW.PrintMore
attribute [local go_sem] max2_int min2_int max_two min_two max_three min_three max_four min_four   
set_option linter.unusedVariables false
set_option linter.unusedSimpArgs false
mutual
def ashlarlaw11_JournalBack.j0 : Nat → Int → List Int → Int → Int → Int → List Int → Int → Option (Bool)
  | 0, _, _, _, _, _, _, _ => none
  | k + 1, x0, x2, x3, x4, x5, x15, x16 => if x16 = 0 then ((journal_ReadDesc.f k x15).bind fun bt533 => (if bt533.2.2.2 = 0 then (if bt533.1 = x0 then (if bt533.2.2.1 = x3 then ((ashlarlaw03_Unlike.f k bt533.2.1 x2).bind fun t539 => (if 0 = t539 then (ashlarlaw11_JournalBack.j1 k x4 x5 x15 ((x15.length : Int) != 128)) else (ashlarlaw11_JournalBack.j1 k x4 x5 x15 true))) else (ashlarlaw11_JournalBack.j1 k x4 x5 x15 true)) else (ashlarlaw11_JournalBack.j1 k x4 x5 x15 true)) else (ashlarlaw11_JournalBack.j1 k x4 x5 x15 true))) else (some ((x15.length : Int) == 0))
def ashlarlaw11_JournalBack.j1 : Nat → Int → Int → List Int → Bool → Option (Bool)
  | 0, _, _, _, _ => none
  | k + 1, x4, x5, x15, x97 => if x97 = true then (some false) else (if x5 = 0 then (some true) else (if x4 < 0 then (some true) else (if x4 > 127 then (some true) else (if 0 ≤ x4 then (if x4 < (x15.length : Int) then ((journal_ReadDesc.f k (x15.set (x4 : Int).toNat (Go.bits .xor .u8 (rd x15 x4) x5))).bind fun bt542 => (some (bt542.2.2.2 == 8))) else (none)) else (none)))))
end
def ashlarlaw11_JournalBack.f (k : Nat) (a0 : Int) (a1 : Int) (l2 : List Int) (a3 : Int) (a4 : Int) (a5 : Int) : Option (Bool) := (journal_Head.f k a0 a1).bind fun bt521 => ((journal_Desc.f k a0 l2 a3).bind fun bt525 => ((ashlarlaw11_lives.f).bind fun t529 => (if t529 = true then (if bt521.2 = 0 then ((journal_ReadHead.f k bt521.1).bind fun bt530 => (if bt530.2.2 = 0 then (if bt530.1 = a0 then (if bt530.2.1 = a1 then (ashlarlaw11_JournalBack.j0 k a0 l2 a3 a4 a5 bt525.1 bt525.2) else (some false)) else (some false)) else (some false))) else (ashlarlaw11_JournalBack.j0 k a0 l2 a3 a4 a5 bt525.1 bt525.2)) else (some false))))
theorem ashlarlaw11_JournalBack.mono_l : ∀ k, (∀ y0 y1 y2 y3 y4 y5 y6, LeO (ashlarlaw11_JournalBack.j0 k y0 y1 y2 y3 y4 y5 y6) (ashlarlaw11_JournalBack.j0 (k + 1) y0 y1 y2 y3 y4 y5 y6)) ∧ (∀ y0 y1 y2 y3, LeO (ashlarlaw11_JournalBack.j1 k y0 y1 y2 y3) (ashlarlaw11_JournalBack.j1 (k + 1) y0 y1 y2 y3))
  | 0 => ⟨fun _ _ _ _ _ _ _ r h => by simp [ashlarlaw11_JournalBack.j0] at h, fun _ _ _ _ r h => by simp [ashlarlaw11_JournalBack.j1] at h⟩
  | k + 1 => by
    obtain ⟨ih0, ih1⟩ := ashlarlaw11_JournalBack.mono_l k
    refine ⟨?_, ?_⟩
    · intro y0 y1 y2 y3 y4 y5 y6
      unfold ashlarlaw11_JournalBack.j0
      repeat' first
      | (with_reducible exact ih0 _ _ _ _ _ _ _)
      | (with_reducible exact ih1 _ _ _ _)
      | (with_reducible exact ashlarlaw03_Unlike.mono _ _ _)
      | (with_reducible exact journal_Desc.mono _ _ _ _)
      | (with_reducible exact journal_Head.mono _ _ _)
      | (with_reducible exact journal_ReadDesc.mono _ _)
      | (with_reducible exact journal_ReadHead.mono _ _)
      | (with_reducible exact LeO.refl _)
      | (with_reducible exact LeO.none _)
      | (with_reducible refine LeO.ite ?_ ?_)
      | (with_reducible refine LeO.bind ?_ (fun _ => ?_))
      | exact ih0 _ _ _ _ _ _ _
      | exact ih1 _ _ _ _
      | exact ashlarlaw03_Unlike.mono _ _ _
      | exact journal_Desc.mono _ _ _ _
      | exact journal_Head.mono _ _ _
      | exact journal_ReadDesc.mono _ _
      | exact journal_ReadHead.mono _ _
      | exact LeO.none _
      | refine LeO.ite ?_ ?_
      | refine LeO.bind ?_ (fun _ => ?_)
    · intro y0 y1 y2 y3
      unfold ashlarlaw11_JournalBack.j1
      repeat' first
      | (with_reducible exact ih0 _ _ _ _ _ _ _)
      | (with_reducible exact ih1 _ _ _ _)
      | (with_reducible exact ashlarlaw03_Unlike.mono _ _ _)
      | (with_reducible exact journal_Desc.mono _ _ _ _)
      | (with_reducible exact journal_Head.mono _ _ _)
      | (with_reducible exact journal_ReadDesc.mono _ _)
      | (with_reducible exact journal_ReadHead.mono _ _)
      | (with_reducible exact LeO.refl _)
      | (with_reducible exact LeO.none _)
      | (with_reducible refine LeO.ite ?_ ?_)
      | (with_reducible refine LeO.bind ?_ (fun _ => ?_))
      | exact ih0 _ _ _ _ _ _ _
      | exact ih1 _ _ _ _
      | exact ashlarlaw03_Unlike.mono _ _ _
      | exact journal_Desc.mono _ _ _ _
      | exact journal_Head.mono _ _ _
      | exact journal_ReadDesc.mono _ _
      | exact journal_ReadHead.mono _ _
      | exact LeO.none _
      | refine LeO.ite ?_ ?_
      | refine LeO.bind ?_ (fun _ => ?_)
theorem ashlarlaw11_JournalBack.mono : ∀ a0 a1 a2 a3 a4 a5 k, LeO (ashlarlaw11_JournalBack.f k a0 a1 a2 a3 a4 a5) (ashlarlaw11_JournalBack.f (k + 1) a0 a1 a2 a3 a4 a5) := by
  intro a0 a1 a2 a3 a4 a5 k
  obtain ⟨ih0, ih1⟩ := ashlarlaw11_JournalBack.mono_l k
  unfold ashlarlaw11_JournalBack.f
  repeat' first
      | (with_reducible exact ih0 _ _ _ _ _ _ _)
      | (with_reducible exact ih1 _ _ _ _)
      | (with_reducible exact ashlarlaw03_Unlike.mono _ _ _)
      | (with_reducible exact journal_Desc.mono _ _ _ _)
      | (with_reducible exact journal_Head.mono _ _ _)
      | (with_reducible exact journal_ReadDesc.mono _ _)
      | (with_reducible exact journal_ReadHead.mono _ _)
      | (with_reducible exact LeO.refl _)
      | (with_reducible exact LeO.none _)
      | (with_reducible refine LeO.ite ?_ ?_)
      | (with_reducible refine LeO.bind ?_ (fun _ => ?_))
      | exact ih0 _ _ _ _ _ _ _
      | exact ih1 _ _ _ _
      | exact ashlarlaw03_Unlike.mono _ _ _
      | exact journal_Desc.mono _ _ _ _
      | exact journal_Head.mono _ _ _
      | exact journal_ReadDesc.mono _ _
      | exact journal_ReadHead.mono _ _
      | exact LeO.none _
      | refine LeO.ite ?_ ?_
      | refine LeO.bind ?_ (fun _ => ?_)
set_option maxHeartbeats 8000000 in
set_option maxRecDepth 100000 in
theorem ashlarlaw11_JournalBack.calls (k : Nat) (a0 : Int) (a1 : Int) (A2 : Option Addr) (c2 : Nat) (l2 : List Int) (a3 : Int) (a4 : Int) (a5 : Int) (r : Bool) (w : World) (hr2 : Kd.C (Kd.int .i64) w A2 l2.length l2) (hc2 : l2.length ≤ c2) (h : ashlarlaw11_JournalBack.f k a0 a1 l2 a3 a4 a5 = some r) :
    Calls Tryz.prog 5 #[.int .i64 a0, .int .i64 a1, .slice A2 l2.length c2, .int .u32 a3, .int .i64 a4, .int .u8 a5] w fun e w' => e = .returned (.bool r) ∧ Below w.heap.size w w' := by
  have HR2 := Aside0.mk hr2
  have HC2 := Aside0.mk hc2
  clear hr2 hc2
  have HB := Aside0.mk (Below.refl w.heap.size w)
  have H : ((journal_Head.f k a0 a1).bind fun bt521 => ((journal_Desc.f k a0 l2 a3).bind fun bt525 => ((ashlarlaw11_lives.f).bind fun t529 => (if t529 = true then (if bt521.2 = 0 then ((journal_ReadHead.f k bt521.1).bind fun bt530 => (if bt530.2.2 = 0 then (if bt530.1 = a0 then (if bt530.2.1 = a1 then (ashlarlaw11_JournalBack.j0 k a0 l2 a3 a4 a5 bt525.1 bt525.2) else (some false)) else (some false)) else (some false))) else (ashlarlaw11_JournalBack.j0 k a0 l2 a3 a4 a5 bt525.1 bt525.2)) else (some false))))) = some r := h
  clear h
  replace H := Option.bind_eq_some_iff.mp H
  obtain ⟨⟨t521, t522⟩, A70, H⟩ := H
  replace H : ((journal_Desc.f k a0 l2 a3).bind fun bt525 => ((ashlarlaw11_lives.f).bind fun t529 => (if t529 = true then (if t522 = 0 then ((journal_ReadHead.f k t521).bind fun bt530 => (if bt530.2.2 = 0 then (if bt530.1 = a0 then (if bt530.2.1 = a1 then (ashlarlaw11_JournalBack.j0 k a0 l2 a3 a4 a5 bt525.1 bt525.2) else (some false)) else (some false)) else (some false))) else (ashlarlaw11_JournalBack.j0 k a0 l2 a3 a4 a5 bt525.1 bt525.2)) else (some false)))) = some r := H
  have A7 := Aside0.mk A70
  clear A70
  replace H := Option.bind_eq_some_iff.mp H
  obtain ⟨⟨t525, t526⟩, A80, H⟩ := H
  replace H : ((ashlarlaw11_lives.f).bind fun t529 => (if t529 = true then (if t522 = 0 then ((journal_ReadHead.f k t521).bind fun bt530 => (if bt530.2.2 = 0 then (if bt530.1 = a0 then (if bt530.2.1 = a1 then (ashlarlaw11_JournalBack.j0 k a0 l2 a3 a4 a5 t525 t526) else (some false)) else (some false)) else (some false))) else (ashlarlaw11_JournalBack.j0 k a0 l2 a3 a4 a5 t525 t526)) else (some false))) = some r := H
  have A8 := Aside0.mk A80
  clear A80
  replace H := Option.bind_eq_some_iff.mp H
  obtain ⟨t529, A90, H⟩ := H
  replace H : (if t529 = true then (if t522 = 0 then ((journal_ReadHead.f k t521).bind fun bt530 => (if bt530.2.2 = 0 then (if bt530.1 = a0 then (if bt530.2.1 = a1 then (ashlarlaw11_JournalBack.j0 k a0 l2 a3 a4 a5 t525 t526) else (some false)) else (some false)) else (some false))) else (ashlarlaw11_JournalBack.j0 k a0 l2 a3 a4 a5 t525 t526)) else (some false)) = some r := H
  have A9 := Aside0.mk A90
  clear A90
  by_cases c10 : t529 = true
  · subst c10
    have H1 : (if t522 = 0 then ((journal_ReadHead.f k t521).bind fun bt530 => (if bt530.2.2 = 0 then (if bt530.1 = a0 then (if bt530.2.1 = a1 then (ashlarlaw11_JournalBack.j0 k a0 l2 a3 a4 a5 t525 t526) else (some false)) else (some false)) else (some false))) else (ashlarlaw11_JournalBack.j0 k a0 l2 a3 a4 a5 t525 t526)) = some r := by rw [if_pos rfl] at H; exact H
    clear H
    have H := H1
    clear H1
    have HC11 := Aside0.mk H
    clear H
    go_enter Tryz.func5, Tryz.ntmps5
    go_upto_if 44 with (first | ((with_reducible refine gate_callee (f := 7) rfl ?_); refine goesL_ (some 31) rfl rfl Tryz.func7 (by kernel_rfl) rfl #[.int .i64 a0, .int .i64 a1] rfl (by (try simp only [List.map_toArray, List.map_cons, List.map_nil]); first | done | rfl | (simp only [List.length_drop, List.length_take]; rfl)) ?_; (with_reducible refine (journal_Head.calls k a0 a1 t521 t522 _ A7.out).mono ?_); rintro e w12 ⟨v523, rfl, ho0, hb⟩; refine ⟨_, rfl, ?_⟩; have n0_ := Aside0.mk (Kd.R_lower ho0 (below_size (by repeat (first | (with_reducible first | exact HB.out | apply below_alloc | apply pw_below_drewN | apply below_drew1) | exact HB.out)))); have n1_ := Aside0.mk (below_step (by repeat (first | (with_reducible first | exact HB.out | apply below_alloc | apply pw_below_drewN | apply below_drew1) | exact HB.out)) hb); clear HB; have HO524 := n0_; have HB := n1_; clear n0_ n1_; (try clear hb); (try clear hb2); (try clear hk); (try clear hi); (try clear ho0)) | ((with_reducible refine gate_callee (f := 9) rfl ?_); refine goesL_ (some 38) rfl rfl Tryz.func9 (by kernel_rfl) rfl #[.int .i64 a0, .slice A2 l2.length c2, .int .u32 a3] rfl (by (try simp only [List.map_toArray, List.map_cons, List.map_nil]); first | done | rfl | (simp only [List.length_drop, List.length_take]; rfl)) ?_; (with_reducible refine (journal_Desc.calls k a0 _ _ l2 a3 t525 t526 _ ?side1 ?side2 A8.out).mono ?_); (case side1 => repeat (first | exact (Kd.C_below HR2.out HB.out) | (with_reducible refine Kd.C_alloc ?_ _) | (with_reducible refine Kd.C_drewN ?_ _) | (with_reducible refine Kd.C_drew ?_))); (case side2 => exact HC2.out); rintro e w13 ⟨v527, rfl, ho0, hb⟩; refine ⟨_, rfl, ?_⟩; have n0_ := Aside0.mk (Kd.R_elder' (by (with_reducible repeat (first | apply Kd.R_alloc | apply Kd.R_drewN | apply Kd.R_drew)); exact HO524.out) (Kd.R_base ho0) hb); have n1_ := Aside0.mk (Kd.R_lower (Kd.R_new' ho0 (Kd.R_lt (by (with_reducible repeat (first | apply Kd.R_alloc | apply Kd.R_drewN | apply Kd.R_drew)); exact HO524.out))) (below_size (by repeat (first | (with_reducible first | exact HB.out | apply below_alloc | apply pw_below_drewN | apply below_drew1) | exact HB.out)))); have n2_ := Aside0.mk (below_step (by repeat (first | (with_reducible first | exact HB.out | apply below_alloc | apply pw_below_drewN | apply below_drew1) | exact HB.out)) hb); clear HO524; clear HB; have HO524 := n0_; have HO528 := n1_; have HB := n2_; clear n0_ n1_ n2_; (try clear hb); (try clear hb2); (try clear hk); (try clear hi); (try clear ho0)) | ((with_reducible refine gate_callee (f := 13) rfl ?_); refine goesL_ (some 41) rfl rfl Tryz.func13 (by kernel_rfl) rfl #[] rfl (by (try simp only [List.map_toArray, List.map_cons, List.map_nil]); first | done | rfl | (simp only [List.length_drop, List.length_take]; rfl)) ?_; (with_reducible refine (ashlarlaw11_lives.calls  true _ A9.out).mono ?_); rintro e w14 ⟨rfl, hb⟩; refine ⟨_, rfl, ?_⟩; have n0_ := Aside0.mk (Kd.R_below (by (with_reducible repeat (first | apply Kd.R_alloc | apply Kd.R_drewN | apply Kd.R_drew)); exact HO524.out) hb); have n1_ := Aside0.mk (Kd.R_below (by (with_reducible repeat (first | apply Kd.R_alloc | apply Kd.R_drewN | apply Kd.R_drew)); exact HO528.out) hb); have n2_ := Aside0.mk (below_step (by repeat (first | (with_reducible first | exact HB.out | apply below_alloc | apply pw_below_drewN | apply below_drew1) | exact HB.out)) hb); clear HO524; clear HO528; clear HB; have HO524 := n0_; have HO528 := n1_; have HB := n2_; clear n0_ n1_ n2_; (try clear hb); (try clear hb2); (try clear hk); (try clear hi)))
    (try simp only [Act.put, List.setIfInBounds_toArray, List.set_cons_zero, List.set_cons_succ])
    go_cut [] (fun wc => ∃ (kq : Nat), Aside0 (ashlarlaw11_JournalBack.j0 kq a0 l2 a3 a4 a5 t525 t526 = some r) ∧ Aside0 (kq ≤ k) ∧ Aside0 (Kd.R (Kd.int .u8) 5 wc w.heap.size (fun _ => True) v527 t525) ∧ Aside0 (Below w.heap.size w wc))
    case first =>
      have H := HC11.out
      clear HC11
      by_cases c15 : t522 = 0
      · rw [if_pos c15] at H
        have c15b0 : (t522 == 0) = true := beq_iff_eq.mpr c15
        have c15b1 : (t522 != 0) = false := bne_eq_false_iff_eq.mpr c15
        clear c15
        (first | rw [c15b0] | (simp only [i64_w, i32_w]; rw [c15b0]) | skip)
        replace H := Option.bind_eq_some_iff.mp H
        obtain ⟨⟨t530, t531, t532⟩, A160, H⟩ := H
        replace H : (if t532 = 0 then (if t530 = a0 then (if t531 = a1 then (ashlarlaw11_JournalBack.j0 k a0 l2 a3 a4 a5 t525 t526) else (some false)) else (some false)) else (some false)) = some r := H
        have A16 := Aside0.mk A160
        clear A160
        by_cases c17 : t532 = 0
        · rw [if_pos c17] at H
          have c17b0 : (t532 == 0) = true := beq_iff_eq.mpr c17
          have c17b1 : (t532 != 0) = false := bne_eq_false_iff_eq.mpr c17
          clear c17
          by_cases c18 : t530 = a0
          · rw [if_pos c18] at H
            have c18b0 : (t530 == a0) = true := beq_iff_eq.mpr c18
            have c18b1 : (t530 != a0) = false := bne_eq_false_iff_eq.mpr c18
            clear c18
            by_cases c19 : t531 = a1
            · rw [if_pos c19] at H
              have c19b0 : (t531 == a1) = true := beq_iff_eq.mpr c19
              have c19b1 : (t531 != a1) = false := bne_eq_false_iff_eq.mpr c19
              clear c19
              have H' := Aside0.mk H
              clear H
              obtain ⟨Ao20, co20, eo20⟩ := Kd.R_slice HO524.out
              subst eo20
              go_wp2_with (first | ((with_reducible refine gate_callee (f := 14) rfl ?_); refine goesL_ (some 47) rfl rfl Tryz.func14 (by kernel_rfl) rfl #[.slice Ao20 t521.length co20] rfl (by (try simp only [List.map_toArray, List.map_cons, List.map_nil]); first | done | rfl | (simp only [List.length_drop, List.length_take]; rfl)) ?_; (with_reducible refine (journal_ReadHead.calls k _ _ t521 t530 t531 t532 _ ?side1 ?side2 A16.out).mono ?_); (case side1 => repeat (first | exact (Kd.R_reads' HO524.out).2.2 | (with_reducible refine Kd.C_alloc ?_ _) | (with_reducible refine Kd.C_drewN ?_ _) | (with_reducible refine Kd.C_drew ?_))); (case side2 => exact (Kd.R_reads' HO524.out).2.1); rintro e w21 ⟨rfl, hb⟩; refine ⟨_, rfl, ?_⟩; have n0_ := Aside0.mk (Kd.R_below (by (with_reducible repeat (first | apply Kd.R_alloc | apply Kd.R_drewN | apply Kd.R_drew)); exact HO524.out) hb); have n1_ := Aside0.mk (Kd.R_below (by (with_reducible repeat (first | apply Kd.R_alloc | apply Kd.R_drewN | apply Kd.R_drew)); exact HO528.out) hb); have n2_ := Aside0.mk (below_step (by repeat (first | (with_reducible first | exact HB.out | apply below_alloc | apply pw_below_drewN | apply below_drew1) | exact HB.out)) hb); clear HO524; clear HO528; clear HB; have HO524 := n0_; have HO528 := n1_; have HB := n2_; clear n0_ n1_ n2_; (try clear hb); (try clear hb2); (try clear hk); (try clear hi)))
              go_meet
              case rel => exact ⟨_, H', ⟨by first | omega | exact Nat.le_refl _⟩, ⟨by (with_reducible repeat (first | apply Kd.R_alloc | apply Kd.R_drewN | apply Kd.R_drew)); exact Kd.R_mono HO528.out (fun _ hk => trivial)⟩, ⟨by repeat (first | (with_reducible first | exact HB.out | apply below_alloc | apply pw_below_drewN | apply below_drew1) | exact HB.out)⟩⟩
            · rw [if_neg c19] at H
              have c19b0 : (t531 == a1) = false := beq_eq_false_iff_ne.mpr c19
              have c19b1 : (t531 != a1) = true := bne_iff_ne.mpr c19
              obtain rfl := Option.some.inj H
              obtain ⟨Ao22, co22, eo22⟩ := Kd.R_slice HO524.out
              subst eo22
              go_wp2_with (first | ((with_reducible refine gate_callee (f := 14) rfl ?_); refine goesL_ (some 47) rfl rfl Tryz.func14 (by kernel_rfl) rfl #[.slice Ao22 t521.length co22] rfl (by (try simp only [List.map_toArray, List.map_cons, List.map_nil]); first | done | rfl | (simp only [List.length_drop, List.length_take]; rfl)) ?_; (with_reducible refine (journal_ReadHead.calls k _ _ t521 t530 t531 t532 _ ?side1 ?side2 A16.out).mono ?_); (case side1 => repeat (first | exact (Kd.R_reads' HO524.out).2.2 | (with_reducible refine Kd.C_alloc ?_ _) | (with_reducible refine Kd.C_drewN ?_ _) | (with_reducible refine Kd.C_drew ?_))); (case side2 => exact (Kd.R_reads' HO524.out).2.1); rintro e w23 ⟨rfl, hb⟩; refine ⟨_, rfl, ?_⟩; have n0_ := Aside0.mk (Kd.R_below (by (with_reducible repeat (first | apply Kd.R_alloc | apply Kd.R_drewN | apply Kd.R_drew)); exact HO524.out) hb); have n1_ := Aside0.mk (Kd.R_below (by (with_reducible repeat (first | apply Kd.R_alloc | apply Kd.R_drewN | apply Kd.R_drew)); exact HO528.out) hb); have n2_ := Aside0.mk (below_step (by repeat (first | (with_reducible first | exact HB.out | apply below_alloc | apply pw_below_drewN | apply below_drew1) | exact HB.out)) hb); clear HO524; clear HO528; clear HB; have HO524 := n0_; have HO528 := n1_; have HB := n2_; clear n0_ n1_ n2_; (try clear hb); (try clear hb2); (try clear hk); (try clear hi)))
              go_ret
              exact ⟨by first | rfl | (simp [errW_none, errW_some] <;> rfl) | (simp [*, errW_none, errW_some] <;> rfl), by repeat (first | (with_reducible first | exact HB.out | apply below_alloc | apply pw_below_drewN | apply below_drew1) | exact HB.out)⟩
          · rw [if_neg c18] at H
            have c18b0 : (t530 == a0) = false := beq_eq_false_iff_ne.mpr c18
            have c18b1 : (t530 != a0) = true := bne_iff_ne.mpr c18
            obtain rfl := Option.some.inj H
            obtain ⟨Ao24, co24, eo24⟩ := Kd.R_slice HO524.out
            subst eo24
            go_wp2_with (first | ((with_reducible refine gate_callee (f := 14) rfl ?_); refine goesL_ (some 47) rfl rfl Tryz.func14 (by kernel_rfl) rfl #[.slice Ao24 t521.length co24] rfl (by (try simp only [List.map_toArray, List.map_cons, List.map_nil]); first | done | rfl | (simp only [List.length_drop, List.length_take]; rfl)) ?_; (with_reducible refine (journal_ReadHead.calls k _ _ t521 t530 t531 t532 _ ?side1 ?side2 A16.out).mono ?_); (case side1 => repeat (first | exact (Kd.R_reads' HO524.out).2.2 | (with_reducible refine Kd.C_alloc ?_ _) | (with_reducible refine Kd.C_drewN ?_ _) | (with_reducible refine Kd.C_drew ?_))); (case side2 => exact (Kd.R_reads' HO524.out).2.1); rintro e w25 ⟨rfl, hb⟩; refine ⟨_, rfl, ?_⟩; have n0_ := Aside0.mk (Kd.R_below (by (with_reducible repeat (first | apply Kd.R_alloc | apply Kd.R_drewN | apply Kd.R_drew)); exact HO524.out) hb); have n1_ := Aside0.mk (Kd.R_below (by (with_reducible repeat (first | apply Kd.R_alloc | apply Kd.R_drewN | apply Kd.R_drew)); exact HO528.out) hb); have n2_ := Aside0.mk (below_step (by repeat (first | (with_reducible first | exact HB.out | apply below_alloc | apply pw_below_drewN | apply below_drew1) | exact HB.out)) hb); clear HO524; clear HO528; clear HB; have HO524 := n0_; have HO528 := n1_; have HB := n2_; clear n0_ n1_ n2_; (try clear hb); (try clear hb2); (try clear hk); (try clear hi)))
            go_ret
            exact ⟨by first | rfl | (simp [errW_none, errW_some] <;> rfl) | (simp [*, errW_none, errW_some] <;> rfl), by repeat (first | (with_reducible first | exact HB.out | apply below_alloc | apply pw_below_drewN | apply below_drew1) | exact HB.out)⟩
        · rw [if_neg c17] at H
          have c17b0 : (t532 == 0) = false := beq_eq_false_iff_ne.mpr c17
          have c17b1 : (t532 != 0) = true := bne_iff_ne.mpr c17
          obtain rfl := Option.some.inj H
          obtain ⟨Ao26, co26, eo26⟩ := Kd.R_slice HO524.out
          subst eo26
          go_wp2_with (first | ((with_reducible refine gate_callee (f := 14) rfl ?_); refine goesL_ (some 47) rfl rfl Tryz.func14 (by kernel_rfl) rfl #[.slice Ao26 t521.length co26] rfl (by (try simp only [List.map_toArray, List.map_cons, List.map_nil]); first | done | rfl | (simp only [List.length_drop, List.length_take]; rfl)) ?_; (with_reducible refine (journal_ReadHead.calls k _ _ t521 t530 t531 t532 _ ?side1 ?side2 A16.out).mono ?_); (case side1 => repeat (first | exact (Kd.R_reads' HO524.out).2.2 | (with_reducible refine Kd.C_alloc ?_ _) | (with_reducible refine Kd.C_drewN ?_ _) | (with_reducible refine Kd.C_drew ?_))); (case side2 => exact (Kd.R_reads' HO524.out).2.1); rintro e w27 ⟨rfl, hb⟩; refine ⟨_, rfl, ?_⟩; have n0_ := Aside0.mk (Kd.R_below (by (with_reducible repeat (first | apply Kd.R_alloc | apply Kd.R_drewN | apply Kd.R_drew)); exact HO524.out) hb); have n1_ := Aside0.mk (Kd.R_below (by (with_reducible repeat (first | apply Kd.R_alloc | apply Kd.R_drewN | apply Kd.R_drew)); exact HO528.out) hb); have n2_ := Aside0.mk (below_step (by repeat (first | (with_reducible first | exact HB.out | apply below_alloc | apply pw_below_drewN | apply below_drew1) | exact HB.out)) hb); clear HO524; clear HO528; clear HB; have HO524 := n0_; have HO528 := n1_; have HB := n2_; clear n0_ n1_ n2_; (try clear hb); (try clear hb2); (try clear hk); (try clear hi)))
          go_ret
          exact ⟨by first | rfl | (simp [errW_none, errW_some] <;> rfl) | (simp [*, errW_none, errW_some] <;> rfl), by repeat (first | (with_reducible first | exact HB.out | apply below_alloc | apply pw_below_drewN | apply below_drew1) | exact HB.out)⟩
      · rw [if_neg c15] at H
        have c15b0 : (t522 == 0) = false := beq_eq_false_iff_ne.mpr c15
        have c15b1 : (t522 != 0) = true := bne_iff_ne.mpr c15
        (first | rw [c15b0] | (simp only [i64_w, i32_w]; rw [c15b0]) | skip)
        have H' := Aside0.mk H
        clear H
        go_wp2
        go_meet
        case rel => exact ⟨_, H', ⟨by first | omega | exact Nat.le_refl _⟩, ⟨by (with_reducible repeat (first | apply Kd.R_alloc | apply Kd.R_drewN | apply Kd.R_drew)); exact Kd.R_mono HO528.out (fun _ hk => trivial)⟩, ⟨by repeat (first | (with_reducible first | exact HB.out | apply below_alloc | apply pw_below_drewN | apply below_drew1) | exact HB.out)⟩⟩
    case rest =>
      clear HC11
      try clear c1
      try clear c2
      try clear p2
      try clear c5
      try clear c7
      try clear c9
      try clear c10
      try clear c13
      try clear c14
      try clear c15
      try clear c15b0
      try clear c15b1
      try clear c17
      try clear c17b0
      try clear c17b1
      try clear c18
      try clear c18b0
      try clear c18b1
      try clear c19
      try clear c19b0
      try clear c19b1
      obtain ⟨kq, HA, HJ10, HO_15, HB⟩ := hcut
      cases kq with
      | zero => exact absurd HA.out (by simp [ashlarlaw11_JournalBack.j0])
      | succ kj10 =>
        have H := HA.out
        clear HA
        simp only [ashlarlaw11_JournalBack.j0] at H
        by_cases c28 : t526 = 0
        · rw [if_pos c28] at H
          have c28b0 : (t526 == 0) = true := beq_iff_eq.mpr c28
          have c28b1 : (t526 != 0) = false := bne_eq_false_iff_eq.mpr c28
          clear c28
          replace H := Option.bind_eq_some_iff.mp H
          obtain ⟨⟨t533, t534, t535, t536⟩, A290, H⟩ := H
          replace H : (if t536 = 0 then (if t533 = a0 then (if t535 = a3 then ((ashlarlaw03_Unlike.f kj10 t534 l2).bind fun t539 => (if 0 = t539 then (ashlarlaw11_JournalBack.j1 kj10 a4 a5 t525 ((t525.length : Int) != 128)) else (ashlarlaw11_JournalBack.j1 kj10 a4 a5 t525 true))) else (ashlarlaw11_JournalBack.j1 kj10 a4 a5 t525 true)) else (ashlarlaw11_JournalBack.j1 kj10 a4 a5 t525 true)) else (ashlarlaw11_JournalBack.j1 kj10 a4 a5 t525 true)) = some r := H
          have A29 := Aside0.mk A290
          clear A290
          have HC30 := Aside0.mk H
          clear H
          obtain ⟨Ao31, co31, eo31⟩ := Kd.R_slice HO_15.out
          subst eo31
          go_upto_region 12 with (first | ((with_reducible refine gate_callee (f := 16) rfl ?_); refine goesL_ (some 70) rfl rfl Tryz.func16 (by kernel_rfl) rfl #[.slice Ao31 t525.length co31] rfl (by (try simp only [List.map_toArray, List.map_cons, List.map_nil]); first | done | rfl | (simp only [List.length_drop, List.length_take]; rfl)) ?_; (with_reducible refine (journal_ReadDesc.calls kj10 _ _ t525 t533 t534 t535 t536 _ ?side1 ?side2 A29.out).mono ?_); (case side1 => repeat (first | exact (Kd.R_reads' HO_15.out).2.2 | (with_reducible refine Kd.C_alloc ?_ _) | (with_reducible refine Kd.C_drewN ?_ _) | (with_reducible refine Kd.C_drew ?_))); (case side2 => exact (Kd.R_reads' HO_15.out).2.1); rintro e w32 ⟨v537, rfl, ho0, hb⟩; refine ⟨_, rfl, ?_⟩; have n0_ := Aside0.mk (Kd.R_below (by (with_reducible repeat (first | apply Kd.R_alloc | apply Kd.R_drewN | apply Kd.R_drew)); exact HO_15.out) hb); have n1_ := Aside0.mk (Kd.R_lower ho0 (below_size (by repeat (first | (with_reducible first | exact HB.out | apply below_alloc | apply pw_below_drewN | apply below_drew1) | exact HB.out)))); have n2_ := Aside0.mk (below_step (by repeat (first | (with_reducible first | exact HB.out | apply below_alloc | apply pw_below_drewN | apply below_drew1) | exact HB.out)) hb); clear HO_15; clear HB; have HO_15 := n0_; have HO538 := n1_; have HB := n2_; clear n0_ n1_ n2_; (try clear hb); (try clear hb2); (try clear hk); (try clear hi); (try clear ho0)))
          (try simp only [Act.put, List.setIfInBounds_toArray, List.set_cons_zero, List.set_cons_succ])
          go_cut [97] (fun v97 wc => ∃ (kq : Nat) (x97_29 : Bool), v97 = .bool x97_29 ∧ Aside0 (ashlarlaw11_JournalBack.j1 kq a4 a5 t525 x97_29 = some r) ∧ Aside0 (kq ≤ kj10) ∧ Aside0 (Kd.R (Kd.int .u8) 5 wc w.heap.size (fun _ => True) (.slice Ao31 t525.length co31) t525) ∧ Aside0 (Below w.heap.size w wc))
          case first =>
            have H := HC30.out
            clear HC30
            by_cases c33 : t536 = 0
            · rw [if_pos c33] at H
              have c33b0 : (t536 == 0) = true := beq_iff_eq.mpr c33
              have c33b1 : (t536 != 0) = false := bne_eq_false_iff_eq.mpr c33
              clear c33
              (first | rw [c33b0] | (simp only [i64_w, i32_w]; rw [c33b0]) | skip)
              by_cases c34 : t533 = a0
              · rw [if_pos c34] at H
                have c34b0 : (t533 == a0) = true := beq_iff_eq.mpr c34
                have c34b1 : (t533 != a0) = false := bne_eq_false_iff_eq.mpr c34
                clear c34
                by_cases c35 : t535 = a3
                · rw [if_pos c35] at H
                  have c35b0 : (t535 == a3) = true := beq_iff_eq.mpr c35
                  have c35b1 : (t535 != a3) = false := bne_eq_false_iff_eq.mpr c35
                  clear c35
                  replace H := Option.bind_eq_some_iff.mp H
                  obtain ⟨t539, A360, H⟩ := H
                  replace H : (if 0 = t539 then (ashlarlaw11_JournalBack.j1 kj10 a4 a5 t525 ((t525.length : Int) != 128)) else (ashlarlaw11_JournalBack.j1 kj10 a4 a5 t525 true)) = some r := H
                  have A36 := Aside0.mk A360
                  clear A360
                  by_cases c37 : 0 = t539
                  · rw [if_pos c37] at H
                    have c37b0 : (0 == t539) = true := beq_iff_eq.mpr c37
                    have c37b1 : (0 != t539) = false := bne_eq_false_iff_eq.mpr c37
                    clear c37
                    have H' := Aside0.mk H
                    clear H
                    obtain ⟨Ao38, co38, eo38⟩ := Kd.R_slice HO538.out
                    subst eo38
                    go_wp2_with (first | (go_at_call 20; (with_reducible refine (ashlarlaw03_Unlike.calls kj10 _ _ t534 _ _ l2 t539 _ ?side1 ?side2 ?side3 ?side4 A36.out).mono ?_); (case side1 => repeat (first | exact (Kd.R_reads' HO538.out).2.2 | (with_reducible refine Kd.C_alloc ?_ _) | (with_reducible refine Kd.C_drewN ?_ _) | (with_reducible refine Kd.C_drew ?_))); (case side2 => exact (Kd.R_reads' HO538.out).2.1); (case side3 => repeat (first | exact (Kd.C_below HR2.out HB.out) | (with_reducible refine Kd.C_alloc ?_ _) | (with_reducible refine Kd.C_drewN ?_ _) | (with_reducible refine Kd.C_drew ?_))); (case side4 => exact HC2.out); rintro e w' ⟨rfl, ⟨nd, rfl⟩⟩))
                    go_meet
                    case rel => exact ⟨_, (((t525.length : Int) != 128)), (by first | rfl | (simp; done) | (simp [*]; done)), H', ⟨by have := HJ10.out; first | omega | exact Nat.le_refl _⟩, ⟨by (with_reducible repeat (first | apply Kd.R_alloc | apply Kd.R_drewN | apply Kd.R_drew)); exact HO_15.out⟩, ⟨by repeat (first | (with_reducible first | exact HB.out | apply below_alloc | apply pw_below_drewN | apply below_drew1) | exact HB.out)⟩⟩
                  · rw [if_neg c37] at H
                    have c37b0 : (0 == t539) = false := beq_eq_false_iff_ne.mpr c37
                    have c37b1 : (0 != t539) = true := bne_iff_ne.mpr c37
                    have H' := Aside0.mk H
                    clear H
                    obtain ⟨Ao39, co39, eo39⟩ := Kd.R_slice HO538.out
                    subst eo39
                    go_wp2_with (first | (go_at_call 20; (with_reducible refine (ashlarlaw03_Unlike.calls kj10 _ _ t534 _ _ l2 t539 _ ?side1 ?side2 ?side3 ?side4 A36.out).mono ?_); (case side1 => repeat (first | exact (Kd.R_reads' HO538.out).2.2 | (with_reducible refine Kd.C_alloc ?_ _) | (with_reducible refine Kd.C_drewN ?_ _) | (with_reducible refine Kd.C_drew ?_))); (case side2 => exact (Kd.R_reads' HO538.out).2.1); (case side3 => repeat (first | exact (Kd.C_below HR2.out HB.out) | (with_reducible refine Kd.C_alloc ?_ _) | (with_reducible refine Kd.C_drewN ?_ _) | (with_reducible refine Kd.C_drew ?_))); (case side4 => exact HC2.out); rintro e w' ⟨rfl, ⟨nd, rfl⟩⟩))
                    go_meet
                    case rel => exact ⟨_, (true), (by first | rfl | (simp; done) | (simp [*]; done)), H', ⟨by have := HJ10.out; first | omega | exact Nat.le_refl _⟩, ⟨by (with_reducible repeat (first | apply Kd.R_alloc | apply Kd.R_drewN | apply Kd.R_drew)); exact HO_15.out⟩, ⟨by repeat (first | (with_reducible first | exact HB.out | apply below_alloc | apply pw_below_drewN | apply below_drew1) | exact HB.out)⟩⟩
                · rw [if_neg c35] at H
                  have c35b0 : (t535 == a3) = false := beq_eq_false_iff_ne.mpr c35
                  have c35b1 : (t535 != a3) = true := bne_iff_ne.mpr c35
                  have H' := Aside0.mk H
                  clear H
                  go_wp2
                  go_meet
                  case rel => exact ⟨_, (true), (by first | rfl | (simp; done) | (simp [*]; done)), H', ⟨by have := HJ10.out; first | omega | exact Nat.le_refl _⟩, ⟨by (with_reducible repeat (first | apply Kd.R_alloc | apply Kd.R_drewN | apply Kd.R_drew)); exact HO_15.out⟩, ⟨by repeat (first | (with_reducible first | exact HB.out | apply below_alloc | apply pw_below_drewN | apply below_drew1) | exact HB.out)⟩⟩
              · rw [if_neg c34] at H
                have c34b0 : (t533 == a0) = false := beq_eq_false_iff_ne.mpr c34
                have c34b1 : (t533 != a0) = true := bne_iff_ne.mpr c34
                have H' := Aside0.mk H
                clear H
                go_wp2
                go_meet
                case rel => exact ⟨_, (true), (by first | rfl | (simp; done) | (simp [*]; done)), H', ⟨by have := HJ10.out; first | omega | exact Nat.le_refl _⟩, ⟨by (with_reducible repeat (first | apply Kd.R_alloc | apply Kd.R_drewN | apply Kd.R_drew)); exact HO_15.out⟩, ⟨by repeat (first | (with_reducible first | exact HB.out | apply below_alloc | apply pw_below_drewN | apply below_drew1) | exact HB.out)⟩⟩
            · rw [if_neg c33] at H
              have c33b0 : (t536 == 0) = false := beq_eq_false_iff_ne.mpr c33
              have c33b1 : (t536 != 0) = true := bne_iff_ne.mpr c33
              (first | rw [c33b0] | (simp only [i64_w, i32_w]; rw [c33b0]) | skip)
              have H' := Aside0.mk H
              clear H
              go_wp2
              go_meet
              case rel => exact ⟨_, (true), (by first | rfl | (simp; done) | (simp [*]; done)), H', ⟨by have := HJ10.out; first | omega | exact Nat.le_refl _⟩, ⟨by (with_reducible repeat (first | apply Kd.R_alloc | apply Kd.R_drewN | apply Kd.R_drew)); exact HO_15.out⟩, ⟨by repeat (first | (with_reducible first | exact HB.out | apply below_alloc | apply pw_below_drewN | apply below_drew1) | exact HB.out)⟩⟩
          case rest =>
            clear HC30
            try clear c1
            try clear c2
            try clear p2
            try clear c3
            try clear c5
            try clear c7
            try clear c9
            try clear c10
            try clear c13
            try clear c14
            try clear c15
            try clear c15b0
            try clear c15b1
            try clear c16
            try clear c17
            try clear c17b0
            try clear c17b1
            try clear c18
            try clear c18b0
            try clear c18b1
            try clear c19
            try clear c19b0
            try clear c19b1
            try clear c28
            try clear c28b0
            try clear c28b1
            try clear c33
            try clear c33b0
            try clear c33b1
            try clear c34
            try clear c34b0
            try clear c34b1
            try clear c35
            try clear c35b0
            try clear c35b1
            try clear c37
            try clear c37b0
            try clear c37b1
            try clear p2
            obtain ⟨kq, x97_29, rfl, HA, HJ29, HO_15, HB⟩ := hcut
            cases kq with
            | zero => exact absurd HA.out (by simp [ashlarlaw11_JournalBack.j1])
            | succ kj29 =>
              have H := HA.out
              clear HA
              simp only [ashlarlaw11_JournalBack.j1] at H
              by_cases c40 : x97_29 = true
              · subst c40
                have H1 : (some false) = some r := by rw [if_pos rfl] at H; exact H
                clear H
                have H := H1
                clear H1
                obtain rfl := Option.some.inj H
                go_wp2
                go_ret
                exact ⟨by first | rfl | (simp [errW_none, errW_some] <;> rfl) | (simp [*, errW_none, errW_some] <;> rfl), by repeat (first | (with_reducible first | exact HB.out | apply below_alloc | apply pw_below_drewN | apply below_drew1) | exact HB.out)⟩
              · replace c40 := Bool.eq_false_iff.mpr c40
                subst c40
                have H1 : (if a5 = 0 then (some true) else (if a4 < 0 then (some true) else (if a4 > 127 then (some true) else (if 0 ≤ a4 then (if a4 < (t525.length : Int) then ((journal_ReadDesc.f kj29 (t525.set (a4 : Int).toNat (Go.bits .xor .u8 (rd t525 a4) a5))).bind fun bt542 => (some (bt542.2.2.2 == 8))) else (none)) else (none))))) = some r := by rw [if_neg (show ¬ (false = true) by decide)] at H; exact H
                clear H
                have H := H1
                clear H1
                by_cases c41 : a5 = 0
                · rw [if_pos c41] at H
                  have c41b0 : (a5 == 0) = true := beq_iff_eq.mpr c41
                  have c41b1 : (a5 != 0) = false := bne_eq_false_iff_eq.mpr c41
                  clear c41
                  obtain rfl := Option.some.inj H
                  go_wp2
                  go_ret
                  exact ⟨by first | rfl | (simp [errW_none, errW_some] <;> rfl) | (simp [*, errW_none, errW_some] <;> rfl), by repeat (first | (with_reducible first | exact HB.out | apply below_alloc | apply pw_below_drewN | apply below_drew1) | exact HB.out)⟩
                · rw [if_neg c41] at H
                  have c41b0 : (a5 == 0) = false := beq_eq_false_iff_ne.mpr c41
                  have c41b1 : (a5 != 0) = true := bne_iff_ne.mpr c41
                  by_cases c42 : a4 < 0
                  · rw [if_pos c42] at H
                    have c42b0 : decide (a4 < 0) = true := decide_eq_true c42
                    clear c42
                    obtain rfl := Option.some.inj H
                    go_wp2
                    go_ret
                    exact ⟨by first | rfl | (simp [errW_none, errW_some] <;> rfl) | (simp [*, errW_none, errW_some] <;> rfl), by repeat (first | (with_reducible first | exact HB.out | apply below_alloc | apply pw_below_drewN | apply below_drew1) | exact HB.out)⟩
                  · rw [if_neg c42] at H
                    have c42b0 : decide (a4 < 0) = false := decide_eq_false c42
                    clear c42
                    by_cases c43 : a4 > 127
                    · rw [if_pos c43] at H
                      have c43b0 : decide (127 < a4) = true := decide_eq_true c43
                      clear c43
                      obtain rfl := Option.some.inj H
                      go_wp2
                      go_ret
                      exact ⟨by first | rfl | (simp [errW_none, errW_some] <;> rfl) | (simp [*, errW_none, errW_some] <;> rfl), by repeat (first | (with_reducible first | exact HB.out | apply below_alloc | apply pw_below_drewN | apply below_drew1) | exact HB.out)⟩
                    · rw [if_neg c43] at H
                      have c43b0 : decide (127 < a4) = false := decide_eq_false c43
                      clear c43
                      by_cases c44 : 0 ≤ a4
                      · rw [if_pos c44] at H
                        have c44b0 : decide (0 ≤ a4) = true := decide_eq_true c44
                        clear c44
                        by_cases c45 : a4 < (t525.length : Int)
                        · rw [if_pos c45] at H
                          have c45b0 : decide (a4 < (t525.length : Int)) = true := decide_eq_true c45
                          clear c45
                          obtain ⟨y541, hy541⟩ : ∃ y_ : List Int, y_ = (t525.set (a4 : Int).toNat (Go.bits .xor .u8 (rd t525 a4) a5)) := ⟨_, rfl⟩
                          replace H : ((journal_ReadDesc.f kj29 y541).bind fun bt542 => (some (bt542.2.2.2 == 8))) = some r := by first | (rw [hy541]; with_reducible exact H) | (have H2_ := (Option.bind_some _ _).symm.trans H; rw [hy541]; with_reducible exact H2_) | (have H2_ := (Option.bind_some _ _).symm.trans H; with_reducible exact H2_) | with_reducible exact H | (rw [hy541]; exact H) | exact H
                          have Ny541 := Aside0.mk hy541
                          clear hy541
                          replace H := Option.bind_eq_some_iff.mp H
                          obtain ⟨⟨t542, t543, t544, t545⟩, A470, H⟩ := H
                          replace H : (some (t545 == 8)) = some r := H
                          have A47 := Aside0.mk A470
                          clear A470
                          obtain rfl := Option.some.inj H
                          have p540 : 0 ≤ (a4 : Int) := of_decide_eq_true (by first | (with_reducible assumption) | assumption)
                          have q540 : a4 < (t525.length : Int) := of_decide_eq_true (by first | (with_reducible assumption) | assumption)
                          obtain ⟨ad540, e540, hx540_0⟩ := Kd.at_int (Kd.R_reads' HO_15.out).2.2 a4 p540 q540
                          cases e540
                          replace p540 := eq_true p540
                          replace q540 := eq_true q540
                          have p46 : 0 ≤ (a4 : Int) := of_decide_eq_true (by first | (with_reducible assumption) | assumption)
                          have q46 : (a4 : Int) < ((t525.length : Int) : Int) := of_decide_eq_true (by first | (with_reducible assumption) | assumption)
                          obtain ⟨go46, co46, eo46, gb46, gl46, cl46, HG46⟩ := Kd.R_form HO_15.out (by omega)
                          (first | cases eo46 | (injection eo46 with ea_ en_ ec_; (first | subst ea_ | (injection ea_ with ea_; subst ea_)); subst ec_; clear en_))
                          have GB46 := Aside0.mk gb46
                          have GG46 := Aside0.mk HG46
                          clear gb46 gl46 HG46
                          (first | simp only [add_plain] at hx540_0 | skip)
                          obtain ⟨hx46_0, hf46_0⟩ := Kd.R_celln 0 HO_15.out (a4 : Int) p46 q46
                          replace p46 := eq_true p46
                          replace q46 := eq_true q46
                          have HP48 := Kd.R_putg HO_15.out (a4 : Int) (Go.bits .xor .u8 (rd t525 a4) a5)
                          go_wp2_with (first | ((with_reducible refine gate_store (t := 5) (p := 116) rfl ?_); refine store_event (t := 5) (p := 116) (v := ?vo_w49) (w1 := (wc.setCell ⟨go46, (a4 : Int).toNat, none⟩ (.int .u8 (Go.bits .xor .u8 (rd t525 a4) a5)))) ?hg ?ho ?hn ?hr ?_; (case ho => rfl); (case hg => rfl); (case hn => rfl); (case hr => first | (go_simp; done) | (go_simp; rfl)); intro w49 hw; have hg : wc.grownBy w49 (some go46) := (by rw [hw]; exact HP48.2); have hp_ : Kd.R (Kd.int .u8) 5 w49 w.heap.size (fun _ => True) (.slice (some ⟨go46, 0, none⟩) t525.length co31) y541 := (by rw [hw, Ny541.out]; exact HP48.1); clear HP48; have n0_ := Aside0.mk (hp_); have n1_ := Aside0.mk ((by rw [hw]; exact below_set (HB.out) GB46.out : Below w.heap.size w w49)); clear HO_15; clear HB; have HO_15 := n0_; have HB := n1_; clear n0_ n1_; clear hg hw hp_) | ((with_reducible refine gate_callee (f := 16) rfl ?_); refine goesL_ (some 119) rfl rfl Tryz.func16 (by kernel_rfl) rfl #[.slice (some ⟨go46, 0, none⟩) y541.length co31] rfl (by (try simp only [List.map_toArray, List.map_cons, List.map_nil]); first | done | (rw [show y541.length = t525.length from (Kd.R_reads' HO_15.out).1.symm] <;> rfl) | rfl | (simp only [List.length_drop, List.length_take]; rfl)) ?_; (with_reducible refine (journal_ReadDesc.calls kj29 _ _ y541 t542 t543 t544 t545 _ ?side1 ?side2 A47.out).mono ?_); (case side1 => repeat (first | exact (Kd.R_reads' HO_15.out).2.2 | (with_reducible refine Kd.C_alloc ?_ _) | (with_reducible refine Kd.C_drewN ?_ _) | (with_reducible refine Kd.C_drew ?_))); (case side2 => rw [show y541.length = t525.length from (Kd.R_reads' HO_15.out).1.symm]; exact (Kd.R_reads' HO_15.out).2.1); rintro e w50 ⟨v546, rfl, ho0, hb⟩; refine ⟨_, rfl, ?_⟩; have n0_ := Aside0.mk (Kd.R_below (by (with_reducible repeat (first | apply Kd.R_alloc | apply Kd.R_drewN | apply Kd.R_drew)); exact HO_15.out) hb); have n1_ := Aside0.mk (Kd.R_lower ho0 (below_size (by repeat (first | (with_reducible first | exact HB.out | apply below_alloc | apply pw_below_drewN | apply below_drew1) | exact HB.out)))); have n2_ := Aside0.mk (below_step (by repeat (first | (with_reducible first | exact HB.out | apply below_alloc | apply pw_below_drewN | apply below_drew1) | exact HB.out)) hb); clear HO_15; clear HB; have HO_15 := n0_; have HO547 := n1_; have HB := n2_; clear n0_ n1_ n2_; (try clear hb); (try clear hb2); (try clear hk); (try clear hi); (try clear ho0)))
                          go_ret
                          exact ⟨by first | rfl | (simp [errW_none, errW_some] <;> rfl) | (simp [*, errW_none, errW_some] <;> rfl), by repeat (first | (with_reducible first | exact HB.out | apply below_alloc | apply pw_below_drewN | apply below_drew1) | exact HB.out)⟩
                        · rw [if_neg c45] at H
                          exact absurd H (by simp)
                      · rw [if_neg c44] at H
                        exact absurd H (by simp)
        · rw [if_neg c28] at H
          have c28b0 : (t526 == 0) = false := beq_eq_false_iff_ne.mpr c28
          have c28b1 : (t526 != 0) = true := bne_iff_ne.mpr c28
          obtain rfl := Option.some.inj H
          obtain ⟨Ao51, co51, eo51⟩ := Kd.R_slice HO_15.out
          subst eo51
          go_wp2
          go_ret
          exact ⟨by first | rfl | (simp [errW_none, errW_some] <;> rfl) | (simp [*, errW_none, errW_some] <;> rfl), by repeat (first | (with_reducible first | exact HB.out | apply below_alloc | apply pw_below_drewN | apply below_drew1) | exact HB.out)⟩
  · replace c10 := Bool.eq_false_iff.mpr c10
    subst c10
    have H1 : (some false) = some r := by rw [if_neg (show ¬ (false = true) by decide)] at H; exact H
    clear H
    have H := H1
    clear H1
    obtain rfl := Option.some.inj H
    go_enter Tryz.func5, Tryz.ntmps5
    go_wp2_with (first | ((with_reducible refine gate_callee (f := 7) rfl ?_); refine goesL_ (some 31) rfl rfl Tryz.func7 (by kernel_rfl) rfl #[.int .i64 a0, .int .i64 a1] rfl (by (try simp only [List.map_toArray, List.map_cons, List.map_nil]); first | done | rfl | (simp only [List.length_drop, List.length_take]; rfl)) ?_; (with_reducible refine (journal_Head.calls k a0 a1 t521 t522 _ A7.out).mono ?_); rintro e w52 ⟨v523, rfl, ho0, hb⟩; refine ⟨_, rfl, ?_⟩; have n0_ := Aside0.mk (Kd.R_lower ho0 (below_size (by repeat (first | (with_reducible first | exact HB.out | apply below_alloc | apply pw_below_drewN | apply below_drew1) | exact HB.out)))); have n1_ := Aside0.mk (below_step (by repeat (first | (with_reducible first | exact HB.out | apply below_alloc | apply pw_below_drewN | apply below_drew1) | exact HB.out)) hb); clear HB; have HO524 := n0_; have HB := n1_; clear n0_ n1_; (try clear hb); (try clear hb2); (try clear hk); (try clear hi); (try clear ho0)) | ((with_reducible refine gate_callee (f := 9) rfl ?_); refine goesL_ (some 38) rfl rfl Tryz.func9 (by kernel_rfl) rfl #[.int .i64 a0, .slice A2 l2.length c2, .int .u32 a3] rfl (by (try simp only [List.map_toArray, List.map_cons, List.map_nil]); first | done | rfl | (simp only [List.length_drop, List.length_take]; rfl)) ?_; (with_reducible refine (journal_Desc.calls k a0 _ _ l2 a3 t525 t526 _ ?side1 ?side2 A8.out).mono ?_); (case side1 => repeat (first | exact (Kd.C_below HR2.out HB.out) | (with_reducible refine Kd.C_alloc ?_ _) | (with_reducible refine Kd.C_drewN ?_ _) | (with_reducible refine Kd.C_drew ?_))); (case side2 => exact HC2.out); rintro e w53 ⟨v527, rfl, ho0, hb⟩; refine ⟨_, rfl, ?_⟩; have n0_ := Aside0.mk (Kd.R_elder' (by (with_reducible repeat (first | apply Kd.R_alloc | apply Kd.R_drewN | apply Kd.R_drew)); exact HO524.out) (Kd.R_base ho0) hb); have n1_ := Aside0.mk (Kd.R_lower (Kd.R_new' ho0 (Kd.R_lt (by (with_reducible repeat (first | apply Kd.R_alloc | apply Kd.R_drewN | apply Kd.R_drew)); exact HO524.out))) (below_size (by repeat (first | (with_reducible first | exact HB.out | apply below_alloc | apply pw_below_drewN | apply below_drew1) | exact HB.out)))); have n2_ := Aside0.mk (below_step (by repeat (first | (with_reducible first | exact HB.out | apply below_alloc | apply pw_below_drewN | apply below_drew1) | exact HB.out)) hb); clear HO524; clear HB; have HO524 := n0_; have HO528 := n1_; have HB := n2_; clear n0_ n1_ n2_; (try clear hb); (try clear hb2); (try clear hk); (try clear hi); (try clear ho0)) | ((with_reducible refine gate_callee (f := 13) rfl ?_); refine goesL_ (some 41) rfl rfl Tryz.func13 (by kernel_rfl) rfl #[] rfl (by (try simp only [List.map_toArray, List.map_cons, List.map_nil]); first | done | rfl | (simp only [List.length_drop, List.length_take]; rfl)) ?_; (with_reducible refine (ashlarlaw11_lives.calls  false _ A9.out).mono ?_); rintro e w54 ⟨rfl, hb⟩; refine ⟨_, rfl, ?_⟩; have n0_ := Aside0.mk (Kd.R_below (by (with_reducible repeat (first | apply Kd.R_alloc | apply Kd.R_drewN | apply Kd.R_drew)); exact HO524.out) hb); have n1_ := Aside0.mk (Kd.R_below (by (with_reducible repeat (first | apply Kd.R_alloc | apply Kd.R_drewN | apply Kd.R_drew)); exact HO528.out) hb); have n2_ := Aside0.mk (below_step (by repeat (first | (with_reducible first | exact HB.out | apply below_alloc | apply pw_below_drewN | apply below_drew1) | exact HB.out)) hb); clear HO524; clear HO528; clear HB; have HO524 := n0_; have HO528 := n1_; have HB := n2_; clear n0_ n1_ n2_; (try clear hb); (try clear hb2); (try clear hk); (try clear hi)))
    go_ret
    exact ⟨by first | rfl | (simp [errW_none, errW_some] <;> rfl) | (simp [*, errW_none, errW_some] <;> rfl), by repeat (first | (with_reducible first | exact HB.out | apply below_alloc | apply pw_below_drewN | apply below_drew1) | exact HB.out)⟩
def ashlarlaw11_JournalBack.Pure : Prop := ∀ (a0 : Int) (a1 : Int) (l2 : List Int) (a3 : Int) (a4 : Int) (a5 : Int), (Lit.int .i64 a0).wf = true → (Lit.int .i64 a1).wf = true → l2.length ≤ maxLen → l2.length * 8 ≤ 140737488351232 → (∀ x ∈ l2, (Lit.int .i64 x).wf = true) → (Lit.int .u32 a3).wf = true → (Lit.int .i64 a4).wf = true → (Lit.int .u8 a5).wf = true → ∃ k, ashlarlaw11_JournalBack.f k a0 a1 l2 a3 a4 a5 = some true
theorem ashlarlaw11_JournalBack.walk (P : ashlarlaw11_JournalBack.Pure) (a0 : Int) (a1 : Int) (a2 : Option Addr) (len2 cap2 : Nat) (z2 : List Int) (a3 : Int) (a4 : Int) (a5 : Int) (w : World) (w0 : (Lit.int .i64 a0).wf = true) (w1 : (Lit.int .i64 a1).wf = true) (w2 : (a2 = none ∧ len2 = 0 ∧ cap2 = 0 ∧ z2 = []) ∨ ∃ x, a2 = some x ∧ len2 ≤ cap2 ∧ cap2 ≤ maxLen ∧ z2.length = cap2 ∧ (∀ i, i < z2.length → w.cell? (x.add i) = some (.int .i64 (z2.getD i 0))) ∧ ∀ n ∈ z2, (Lit.int .i64 n).wf = true) (y2 : len2 * 8 ≤ 140737488351232) (w3 : (Lit.int .u32 a3).wf = true) (w4 : (Lit.int .i64 a4).wf = true) (w5 : (Lit.int .u8 a5).wf = true) :
    Calls Tryz.prog 5 #[.int .i64 a0, .int .i64 a1, .slice a2 len2 cap2, .int .u32 a3, .int .i64 a4, .int .u8 a5] w fun e w' => e = .returned (.bool true) ∧ Below w.heap.size w w' := by
  obtain ⟨l2, rfl, hr2, hm2, hw2, hc2⟩ := ReadsInt.ofRowC w2
  obtain ⟨k, h⟩ := P a0 a1 l2 a3 a4 a5 w0 w1 hm2 y2 hw2 w3 w4 w5
  refine (ashlarlaw11_JournalBack.calls k a0 a1 _ _ l2 a3 a4 a5 true w (Kd.C_of_reads (d := (0 : Int)) (h1 := fun _ => rfl) hr2) hc2 h).mono ?_
  rintro e w' ⟨rfl, hd⟩
  exact ⟨rfl, hd⟩
end Go.Proofs.YtfjfollomgjlbaaGreat.PQ
