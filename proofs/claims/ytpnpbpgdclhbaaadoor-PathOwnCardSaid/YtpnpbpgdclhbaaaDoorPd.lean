/-
  Printed by a program of this session's own out of the program's form: plain functions of the statements' own side, and proofs that the program's calls do what these say.
-/
import Derived.Test.YtpnpbpgdclhbaaaDoorPc
namespace Go.Proofs.YtpnpbpgdclhbaaaDoor.PQ
open Go.RowKit Go.Proofs.YtpnpbpgdclhbaaaDoorW.PrintWords Go.Proofs.YtpnpbpgdclhbaaaDoorW.PrintLast Go.Proofs.YtpnpbpgdclhbaaaDoorW.PrintMore
attribute [local go_sem] max2_int min2_int max_two min_two max_three min_three max_four min_four   -- for this text's walks alone
set_option linter.unusedVariables false
set_option linter.unusedSimpArgs false

/-! ### ashlarlaw14_PathSplits: function 4 -/
def ashlarlaw14_PathSplits.j0 : Nat → List ByteArray → Int → List ByteArray → ByteArray → Int → Bool → Option (Bool)
  | 0, _, _, _, _, _, _ => none
  | k + 1, x5, x6, x7, x8, x9, x38 => if x38 = true then (some false) else (if x6 = 0 then (if (x5.length : Int) = 0 then (if x9 = 25 then (if (x7.length : Int) = 0 then (some (x8.toList == ([] : List UInt8))) else (some false)) else (some false)) else (if x9 = 0 then (if 0 ≤ (wrap64 ((x5.length : Int) - 1)) then (if (wrap64 ((x5.length : Int) - 1)) ≤ (x5.length : Int) then ((ashlarref14_Same.f k x7 (x5.take ((wrap64 ((x5.length : Int) - 1)) : Int).toNat)).bind fun t191 => (if t191 = true then (if (wrap64 ((x5.length : Int) - 1)) < (x5.length : Int) then (some (x8.toList == (rdOf ByteArray.empty x5 (wrap64 ((x5.length : Int) - 1))).toList)) else (none)) else (some false))) else (none)) else (none)) else (some false))) else (if x9 = x6 then (if (x7.length : Int) = 0 then (some (x8.toList == ([] : List UInt8))) else (some false)) else (some false)))
def ashlarlaw14_PathSplits.f (k : Nat) (a0 : ByteArray) : Option (Bool) := (path_Split.f k a0).bind fun bt172 => ((ashlarref14_Split.f k a0).bind fun bt176 => ((path_Parent.f k a0).bind fun bt180 => ((ashlarlaw14_lives.f k).bind fun t185 => (if t185 = true then ((ashlarref14_Same.f k bt172.1 bt176.1).bind fun t186 => (if t186 = true then (ashlarlaw14_PathSplits.j0 k bt176.1 bt176.2 bt180.1 bt180.2.1 bt180.2.2 (bt172.2 != bt176.2)) else (ashlarlaw14_PathSplits.j0 k bt176.1 bt176.2 bt180.1 bt180.2.1 bt180.2.2 true))) else (ashlarlaw14_PathSplits.j0 k bt176.1 bt176.2 bt180.1 bt180.2.1 bt180.2.2 true)))))
theorem ashlarlaw14_PathSplits.mono_l : ∀ k, (∀ y0 y1 y2 y3 y4 y5, LeO (ashlarlaw14_PathSplits.j0 k y0 y1 y2 y3 y4 y5) (ashlarlaw14_PathSplits.j0 (k + 1) y0 y1 y2 y3 y4 y5))
  | 0 => fun _ _ _ _ _ _ r h => by simp [ashlarlaw14_PathSplits.j0] at h
  | k + 1 => by
    have ih0 := ashlarlaw14_PathSplits.mono_l k
    · intro y0 y1 y2 y3 y4 y5
      unfold ashlarlaw14_PathSplits.j0
      repeat' first
      | (with_reducible exact ih0 _ _ _ _ _ _)
      | (with_reducible exact ashlarlaw14_lives.mono _)
      | (with_reducible exact ashlarref14_Same.mono _ _ _)
      | (with_reducible exact ashlarref14_Split.mono _ _)
      | (with_reducible exact path_Parent.mono _ _)
      | (with_reducible exact path_Split.mono _ _)
      | (with_reducible exact LeO.refl _)
      | (with_reducible exact LeO.none _)
      | (with_reducible refine LeO.ite ?_ ?_)
      | (with_reducible refine LeO.bind ?_ (fun _ => ?_))
      | exact ih0 _ _ _ _ _ _
      | exact ashlarlaw14_lives.mono _
      | exact ashlarref14_Same.mono _ _ _
      | exact ashlarref14_Split.mono _ _
      | exact path_Parent.mono _ _
      | exact path_Split.mono _ _
      | exact LeO.none _
      | refine LeO.ite ?_ ?_
      | refine LeO.bind ?_ (fun _ => ?_)
theorem ashlarlaw14_PathSplits.mono : ∀ a0 k, LeO (ashlarlaw14_PathSplits.f k a0) (ashlarlaw14_PathSplits.f (k + 1) a0) := by
  intro a0 k
  have ih0 := ashlarlaw14_PathSplits.mono_l k
  unfold ashlarlaw14_PathSplits.f
  repeat' first
      | (with_reducible exact ih0 _ _ _ _ _ _)
      | (with_reducible exact ashlarlaw14_lives.mono _)
      | (with_reducible exact ashlarref14_Same.mono _ _ _)
      | (with_reducible exact ashlarref14_Split.mono _ _)
      | (with_reducible exact path_Parent.mono _ _)
      | (with_reducible exact path_Split.mono _ _)
      | (with_reducible exact LeO.refl _)
      | (with_reducible exact LeO.none _)
      | (with_reducible refine LeO.ite ?_ ?_)
      | (with_reducible refine LeO.bind ?_ (fun _ => ?_))
      | exact ih0 _ _ _ _ _ _
      | exact ashlarlaw14_lives.mono _
      | exact ashlarref14_Same.mono _ _ _
      | exact ashlarref14_Split.mono _ _
      | exact path_Parent.mono _ _
      | exact path_Split.mono _ _
      | exact LeO.none _
      | refine LeO.ite ?_ ?_
      | refine LeO.bind ?_ (fun _ => ?_)
set_option maxHeartbeats 8000000 in
set_option maxRecDepth 100000 in
theorem ashlarlaw14_PathSplits.calls (k : Nat) (a0 : ByteArray) (r : Bool) (w : World) (h : ashlarlaw14_PathSplits.f k a0 = some r) :
    Calls Tryd.prog 4 #[.string a0] w fun e w' => e = .returned (.bool r) ∧ Below w.heap.size w w' := by
  have HB := Aside0.mk (Below.refl w.heap.size w)
  have H : ((path_Split.f k a0).bind fun bt172 => ((ashlarref14_Split.f k a0).bind fun bt176 => ((path_Parent.f k a0).bind fun bt180 => ((ashlarlaw14_lives.f k).bind fun t185 => (if t185 = true then ((ashlarref14_Same.f k bt172.1 bt176.1).bind fun t186 => (if t186 = true then (ashlarlaw14_PathSplits.j0 k bt176.1 bt176.2 bt180.1 bt180.2.1 bt180.2.2 (bt172.2 != bt176.2)) else (ashlarlaw14_PathSplits.j0 k bt176.1 bt176.2 bt180.1 bt180.2.1 bt180.2.2 true))) else (ashlarlaw14_PathSplits.j0 k bt176.1 bt176.2 bt180.1 bt180.2.1 bt180.2.2 true)))))) = some r := h
  clear h
  replace H := Option.bind_eq_some_iff.mp H
  obtain ⟨⟨t172, t173⟩, A20, H⟩ := H
  replace H : ((ashlarref14_Split.f k a0).bind fun bt176 => ((path_Parent.f k a0).bind fun bt180 => ((ashlarlaw14_lives.f k).bind fun t185 => (if t185 = true then ((ashlarref14_Same.f k t172 bt176.1).bind fun t186 => (if t186 = true then (ashlarlaw14_PathSplits.j0 k bt176.1 bt176.2 bt180.1 bt180.2.1 bt180.2.2 (t173 != bt176.2)) else (ashlarlaw14_PathSplits.j0 k bt176.1 bt176.2 bt180.1 bt180.2.1 bt180.2.2 true))) else (ashlarlaw14_PathSplits.j0 k bt176.1 bt176.2 bt180.1 bt180.2.1 bt180.2.2 true))))) = some r := H
  have A2 := Aside0.mk A20
  clear A20
  replace H := Option.bind_eq_some_iff.mp H
  obtain ⟨⟨t176, t177⟩, A30, H⟩ := H
  replace H : ((path_Parent.f k a0).bind fun bt180 => ((ashlarlaw14_lives.f k).bind fun t185 => (if t185 = true then ((ashlarref14_Same.f k t172 t176).bind fun t186 => (if t186 = true then (ashlarlaw14_PathSplits.j0 k t176 t177 bt180.1 bt180.2.1 bt180.2.2 (t173 != t177)) else (ashlarlaw14_PathSplits.j0 k t176 t177 bt180.1 bt180.2.1 bt180.2.2 true))) else (ashlarlaw14_PathSplits.j0 k t176 t177 bt180.1 bt180.2.1 bt180.2.2 true)))) = some r := H
  have A3 := Aside0.mk A30
  clear A30
  replace H := Option.bind_eq_some_iff.mp H
  obtain ⟨⟨t180, t181, t182⟩, A40, H⟩ := H
  replace H : ((ashlarlaw14_lives.f k).bind fun t185 => (if t185 = true then ((ashlarref14_Same.f k t172 t176).bind fun t186 => (if t186 = true then (ashlarlaw14_PathSplits.j0 k t176 t177 t180 t181 t182 (t173 != t177)) else (ashlarlaw14_PathSplits.j0 k t176 t177 t180 t181 t182 true))) else (ashlarlaw14_PathSplits.j0 k t176 t177 t180 t181 t182 true))) = some r := H
  have A4 := Aside0.mk A40
  clear A40
  have HC5 := Aside0.mk H
  clear H
  go_enter Tryd.func4, Tryd.ntmps4
  go_upto_region 4 with (first | ((with_reducible refine gate_callee (f := 13) rfl ?_); refine goesL_ (some 12) rfl rfl Tryd.func13 (by kernel_rfl) rfl #[.string a0] rfl (by (try simp only [List.map_toArray, List.map_cons, List.map_nil]); first | done | rfl | (simp only [List.length_drop, List.length_take]; rfl)) ?_; (with_reducible refine (path_Split.calls k a0 t172 t173 _ A2.out).mono ?_); rintro e w6 ⟨v174, rfl, ho0, hb⟩; refine ⟨_, rfl, ?_⟩; have n0_ := Aside0.mk (Kd.R_lower ho0 (below_size (by repeat (first | (with_reducible first | exact HB.out | apply below_alloc | apply pw_below_drewN | apply below_drew1) | exact HB.out)))); have n1_ := Aside0.mk (below_step (by repeat (first | (with_reducible first | exact HB.out | apply below_alloc | apply pw_below_drewN | apply below_drew1) | exact HB.out)) hb); clear HB; have HO175 := n0_; have HB := n1_; clear n0_ n1_; (try clear hb); (try clear hb2); (try clear hk); (try clear hi); (try clear ho0)) | ((with_reducible refine gate_callee (f := 14) rfl ?_); refine goesL_ (some 17) rfl rfl Tryd.func14 (by kernel_rfl) rfl #[.string a0] rfl (by (try simp only [List.map_toArray, List.map_cons, List.map_nil]); first | done | rfl | (simp only [List.length_drop, List.length_take]; rfl)) ?_; (with_reducible refine (ashlarref14_Split.calls k a0 t176 t177 _ A3.out).mono ?_); rintro e w7 ⟨v178, rfl, ho0, hb⟩; refine ⟨_, rfl, ?_⟩; have n0_ := Aside0.mk (Kd.R_elder' (by (with_reducible repeat (first | apply Kd.R_alloc | apply Kd.R_drewN | apply Kd.R_drew)); exact HO175.out) (Kd.R_base ho0) hb); have n1_ := Aside0.mk (Kd.R_lower (Kd.R_new' ho0 (Kd.R_lt (by (with_reducible repeat (first | apply Kd.R_alloc | apply Kd.R_drewN | apply Kd.R_drew)); exact HO175.out))) (below_size (by repeat (first | (with_reducible first | exact HB.out | apply below_alloc | apply pw_below_drewN | apply below_drew1) | exact HB.out)))); have n2_ := Aside0.mk (below_step (by repeat (first | (with_reducible first | exact HB.out | apply below_alloc | apply pw_below_drewN | apply below_drew1) | exact HB.out)) hb); clear HO175; clear HB; have HO175 := n0_; have HO179 := n1_; have HB := n2_; clear n0_ n1_ n2_; (try clear hb); (try clear hb2); (try clear hk); (try clear hi); (try clear ho0)) | ((with_reducible refine gate_callee (f := 15) rfl ?_); refine goesL_ (some 22) rfl rfl Tryd.func15 (by kernel_rfl) rfl #[.string a0] rfl (by (try simp only [List.map_toArray, List.map_cons, List.map_nil]); first | done | rfl | (simp only [List.length_drop, List.length_take]; rfl)) ?_; (with_reducible refine (path_Parent.calls k a0 t180 t181 t182 _ A4.out).mono ?_); rintro e w8 ⟨v183, rfl, ho0, hb⟩; refine ⟨_, rfl, ?_⟩; have n0_ := Aside0.mk (Kd.R_below (by (with_reducible repeat (first | apply Kd.R_alloc | apply Kd.R_drewN | apply Kd.R_drew)); exact HO175.out) hb); have n1_ := Aside0.mk (Kd.R_below (by (with_reducible repeat (first | apply Kd.R_alloc | apply Kd.R_drewN | apply Kd.R_drew)); exact HO179.out) hb); have n2_ := Aside0.mk (Kd.V_lower (Kd.V_mono (ok' := fun k_ => some k_ ≠ (v174 : Value).ownBlock ∧ some k_ ≠ (v178 : Value).ownBlock) ho0 (fun k_ hk_ => ⟨(Kd.fresh' (Kd.R_lt (by (with_reducible repeat (first | apply Kd.R_alloc | apply Kd.R_drewN | apply Kd.R_drew)); exact HO175.out)) k_ hk_.2.1), (Kd.fresh' (Kd.R_lt (by (with_reducible repeat (first | apply Kd.R_alloc | apply Kd.R_drewN | apply Kd.R_drew)); exact HO179.out)) k_ hk_.2.1)⟩)) (below_size (by repeat (first | (with_reducible first | exact HB.out | apply below_alloc | apply pw_below_drewN | apply below_drew1) | exact HB.out)))); have n3_ := Aside0.mk (below_step (by repeat (first | (with_reducible first | exact HB.out | apply below_alloc | apply pw_below_drewN | apply below_drew1) | exact HB.out)) hb); clear HO175; clear HO179; clear HB; have HO175 := n0_; have HO179 := n1_; have HO184 := n2_; have HB := n3_; clear n0_ n1_ n2_ n3_; (try clear hb); (try clear hb2); (try clear hk); (try clear hi); (try clear ho0)))
  (try simp only [Act.put, List.setIfInBounds_toArray, List.set_cons_zero, List.set_cons_succ])
  go_cut [38] (fun v38 wc => ∃ (kq : Nat) (x38_4 : Bool), v38 = .bool x38_4 ∧ Aside0 (ashlarlaw14_PathSplits.j0 kq t176 t177 t180 t181 t182 x38_4 = some r) ∧ Aside0 (kq ≤ k) ∧ Aside0 (Kd.R Kd.string 9 wc w.heap.size (fun _ => True) v178 t176) ∧ Aside0 (Kd.V Kd.string 9 wc w.heap.size (fun k_ => some k_ ≠ (v178 : Value).ownBlock) v183 t180) ∧ Aside0 (Below w.heap.size w wc))
  case first =>
    have H := HC5.out
    clear HC5
    replace H := Option.bind_eq_some_iff.mp H
    obtain ⟨t185, A90, H⟩ := H
    replace H : (if t185 = true then ((ashlarref14_Same.f k t172 t176).bind fun t186 => (if t186 = true then (ashlarlaw14_PathSplits.j0 k t176 t177 t180 t181 t182 (t173 != t177)) else (ashlarlaw14_PathSplits.j0 k t176 t177 t180 t181 t182 true))) else (ashlarlaw14_PathSplits.j0 k t176 t177 t180 t181 t182 true)) = some r := H
    have A9 := Aside0.mk A90
    clear A90
    by_cases c10 : t185 = true
    · subst c10
      have H1 : ((ashlarref14_Same.f k t172 t176).bind fun t186 => (if t186 = true then (ashlarlaw14_PathSplits.j0 k t176 t177 t180 t181 t182 (t173 != t177)) else (ashlarlaw14_PathSplits.j0 k t176 t177 t180 t181 t182 true))) = some r := by rw [if_pos rfl] at H; exact H
      clear H
      have H := H1
      clear H1
      replace H := Option.bind_eq_some_iff.mp H
      obtain ⟨t186, A110, H⟩ := H
      replace H : (if t186 = true then (ashlarlaw14_PathSplits.j0 k t176 t177 t180 t181 t182 (t173 != t177)) else (ashlarlaw14_PathSplits.j0 k t176 t177 t180 t181 t182 true)) = some r := H
      have A11 := Aside0.mk A110
      clear A110
      by_cases c12 : t186 = true
      · subst c12
        have H1 : (ashlarlaw14_PathSplits.j0 k t176 t177 t180 t181 t182 (t173 != t177)) = some r := by rw [if_pos rfl] at H; exact H
        clear H
        have H := H1
        clear H1
        have H' := Aside0.mk H
        clear H
        go_wp2_with (first | ((with_reducible refine gate_callee (f := 10) rfl ?_); refine goesL_ (some 26) rfl rfl Tryd.func10 (by kernel_rfl) rfl #[] rfl (by (try simp only [List.map_toArray, List.map_cons, List.map_nil]); first | done | rfl | (simp only [List.length_drop, List.length_take]; rfl)) ?_; (with_reducible refine (ashlarlaw14_lives.calls k  true _ A9.out).mono ?_); rintro e w13 ⟨rfl, hb⟩; refine ⟨_, rfl, ?_⟩; have n0_ := Aside0.mk (Kd.R_below (by (with_reducible repeat (first | apply Kd.R_alloc | apply Kd.R_drewN | apply Kd.R_drew)); exact HO175.out) hb); have n1_ := Aside0.mk (Kd.R_below (by (with_reducible repeat (first | apply Kd.R_alloc | apply Kd.R_drewN | apply Kd.R_drew)); exact HO179.out) hb); have n2_ := Aside0.mk (Kd.V_below (by (with_reducible repeat (first | apply Kd.V_alloc | apply Kd.V_drewN | apply Kd.V_drew)); exact HO184.out) hb); have n3_ := Aside0.mk (below_step (by repeat (first | (with_reducible first | exact HB.out | apply below_alloc | apply pw_below_drewN | apply below_drew1) | exact HB.out)) hb); clear HO175; clear HO179; clear HO184; clear HB; have HO175 := n0_; have HO179 := n1_; have HO184 := n2_; have HB := n3_; clear n0_ n1_ n2_ n3_; (try clear hb); (try clear hb2); (try clear hk); (try clear hi); obtain ⟨Ao14, co14, eo14⟩ := Kd.R_slice HO175.out; subst eo14; obtain ⟨Ao15, co15, eo15⟩ := Kd.R_slice HO179.out; subst eo15) | (go_at_call 16; (with_reducible refine (ashlarref14_Same.calls k _ _ t172 _ _ t176 true _ ?side1 ?side2 ?side3 ?side4 A11.out).mono ?_); (case side1 => repeat (first | exact (Kd.R_reads' HO175.out).2.2 | (with_reducible refine Kd.C_alloc ?_ _) | (with_reducible refine Kd.C_drewN ?_ _) | (with_reducible refine Kd.C_drew ?_))); (case side2 => exact (Kd.R_reads' HO175.out).2.1); (case side3 => repeat (first | exact (Kd.R_reads' HO179.out).2.2 | (with_reducible refine Kd.C_alloc ?_ _) | (with_reducible refine Kd.C_drewN ?_ _) | (with_reducible refine Kd.C_drew ?_))); (case side4 => exact (Kd.R_reads' HO179.out).2.1); rintro e w' ⟨rfl, ⟨nd, rfl⟩⟩))
        go_meet
        case rel => exact ⟨_, ((t173 != t177)), (by first | rfl | (simp; done) | (simp [*]; done)), H', ⟨by first | omega | exact Nat.le_refl _⟩, ⟨by (with_reducible repeat (first | apply Kd.R_alloc | apply Kd.R_drewN | apply Kd.R_drew)); exact Kd.R_mono HO179.out (fun _ hk => trivial)⟩, ⟨by (with_reducible repeat (first | apply Kd.V_alloc | apply Kd.V_drewN | apply Kd.V_drew)); exact Kd.V_mono HO184.out (fun _ hk => hk.2)⟩, ⟨by repeat (first | (with_reducible first | exact HB.out | apply below_alloc | apply pw_below_drewN | apply below_drew1) | exact HB.out)⟩⟩
      · replace c12 := Bool.eq_false_iff.mpr c12
        subst c12
        have H1 : (ashlarlaw14_PathSplits.j0 k t176 t177 t180 t181 t182 true) = some r := by rw [if_neg (show ¬ (false = true) by decide)] at H; exact H
        clear H
        have H := H1
        clear H1
        have H' := Aside0.mk H
        clear H
        go_wp2_with (first | ((with_reducible refine gate_callee (f := 10) rfl ?_); refine goesL_ (some 26) rfl rfl Tryd.func10 (by kernel_rfl) rfl #[] rfl (by (try simp only [List.map_toArray, List.map_cons, List.map_nil]); first | done | rfl | (simp only [List.length_drop, List.length_take]; rfl)) ?_; (with_reducible refine (ashlarlaw14_lives.calls k  true _ A9.out).mono ?_); rintro e w16 ⟨rfl, hb⟩; refine ⟨_, rfl, ?_⟩; have n0_ := Aside0.mk (Kd.R_below (by (with_reducible repeat (first | apply Kd.R_alloc | apply Kd.R_drewN | apply Kd.R_drew)); exact HO175.out) hb); have n1_ := Aside0.mk (Kd.R_below (by (with_reducible repeat (first | apply Kd.R_alloc | apply Kd.R_drewN | apply Kd.R_drew)); exact HO179.out) hb); have n2_ := Aside0.mk (Kd.V_below (by (with_reducible repeat (first | apply Kd.V_alloc | apply Kd.V_drewN | apply Kd.V_drew)); exact HO184.out) hb); have n3_ := Aside0.mk (below_step (by repeat (first | (with_reducible first | exact HB.out | apply below_alloc | apply pw_below_drewN | apply below_drew1) | exact HB.out)) hb); clear HO175; clear HO179; clear HO184; clear HB; have HO175 := n0_; have HO179 := n1_; have HO184 := n2_; have HB := n3_; clear n0_ n1_ n2_ n3_; (try clear hb); (try clear hb2); (try clear hk); (try clear hi); obtain ⟨Ao17, co17, eo17⟩ := Kd.R_slice HO175.out; subst eo17; obtain ⟨Ao18, co18, eo18⟩ := Kd.R_slice HO179.out; subst eo18) | (go_at_call 16; (with_reducible refine (ashlarref14_Same.calls k _ _ t172 _ _ t176 false _ ?side1 ?side2 ?side3 ?side4 A11.out).mono ?_); (case side1 => repeat (first | exact (Kd.R_reads' HO175.out).2.2 | (with_reducible refine Kd.C_alloc ?_ _) | (with_reducible refine Kd.C_drewN ?_ _) | (with_reducible refine Kd.C_drew ?_))); (case side2 => exact (Kd.R_reads' HO175.out).2.1); (case side3 => repeat (first | exact (Kd.R_reads' HO179.out).2.2 | (with_reducible refine Kd.C_alloc ?_ _) | (with_reducible refine Kd.C_drewN ?_ _) | (with_reducible refine Kd.C_drew ?_))); (case side4 => exact (Kd.R_reads' HO179.out).2.1); rintro e w' ⟨rfl, ⟨nd, rfl⟩⟩))
        go_meet
        case rel => exact ⟨_, (true), (by first | rfl | (simp; done) | (simp [*]; done)), H', ⟨by first | omega | exact Nat.le_refl _⟩, ⟨by (with_reducible repeat (first | apply Kd.R_alloc | apply Kd.R_drewN | apply Kd.R_drew)); exact Kd.R_mono HO179.out (fun _ hk => trivial)⟩, ⟨by (with_reducible repeat (first | apply Kd.V_alloc | apply Kd.V_drewN | apply Kd.V_drew)); exact Kd.V_mono HO184.out (fun _ hk => hk.2)⟩, ⟨by repeat (first | (with_reducible first | exact HB.out | apply below_alloc | apply pw_below_drewN | apply below_drew1) | exact HB.out)⟩⟩
    · replace c10 := Bool.eq_false_iff.mpr c10
      subst c10
      have H1 : (ashlarlaw14_PathSplits.j0 k t176 t177 t180 t181 t182 true) = some r := by rw [if_neg (show ¬ (false = true) by decide)] at H; exact H
      clear H
      have H := H1
      clear H1
      have H' := Aside0.mk H
      clear H
      go_wp2_with (first | ((with_reducible refine gate_callee (f := 10) rfl ?_); refine goesL_ (some 26) rfl rfl Tryd.func10 (by kernel_rfl) rfl #[] rfl (by (try simp only [List.map_toArray, List.map_cons, List.map_nil]); first | done | rfl | (simp only [List.length_drop, List.length_take]; rfl)) ?_; (with_reducible refine (ashlarlaw14_lives.calls k  false _ A9.out).mono ?_); rintro e w19 ⟨rfl, hb⟩; refine ⟨_, rfl, ?_⟩; have n0_ := Aside0.mk (Kd.R_below (by (with_reducible repeat (first | apply Kd.R_alloc | apply Kd.R_drewN | apply Kd.R_drew)); exact HO175.out) hb); have n1_ := Aside0.mk (Kd.R_below (by (with_reducible repeat (first | apply Kd.R_alloc | apply Kd.R_drewN | apply Kd.R_drew)); exact HO179.out) hb); have n2_ := Aside0.mk (Kd.V_below (by (with_reducible repeat (first | apply Kd.V_alloc | apply Kd.V_drewN | apply Kd.V_drew)); exact HO184.out) hb); have n3_ := Aside0.mk (below_step (by repeat (first | (with_reducible first | exact HB.out | apply below_alloc | apply pw_below_drewN | apply below_drew1) | exact HB.out)) hb); clear HO175; clear HO179; clear HO184; clear HB; have HO175 := n0_; have HO179 := n1_; have HO184 := n2_; have HB := n3_; clear n0_ n1_ n2_ n3_; (try clear hb); (try clear hb2); (try clear hk); (try clear hi)))
      go_meet
      case rel => exact ⟨_, (true), (by first | rfl | (simp; done) | (simp [*]; done)), H', ⟨by first | omega | exact Nat.le_refl _⟩, ⟨by (with_reducible repeat (first | apply Kd.R_alloc | apply Kd.R_drewN | apply Kd.R_drew)); exact Kd.R_mono HO179.out (fun _ hk => trivial)⟩, ⟨by (with_reducible repeat (first | apply Kd.V_alloc | apply Kd.V_drewN | apply Kd.V_drew)); exact Kd.V_mono HO184.out (fun _ hk => hk.2)⟩, ⟨by repeat (first | (with_reducible first | exact HB.out | apply below_alloc | apply pw_below_drewN | apply below_drew1) | exact HB.out)⟩⟩
  case rest =>
    clear HC5
    try clear c1
    try clear p2
    try clear c4
    try clear c10
    try clear c12
    try clear c13
    try clear c14
    try clear c15
    obtain ⟨kq, x38_4, rfl, HA, HJ4, HO_5, HO_7, HB⟩ := hcut
    cases kq with
    | zero => exact absurd HA.out (by simp [ashlarlaw14_PathSplits.j0])
    | succ kj4 =>
      have H := HA.out
      clear HA
      simp only [ashlarlaw14_PathSplits.j0] at H
      by_cases c20 : x38_4 = true
      · subst c20
        have H1 : (some false) = some r := by rw [if_pos rfl] at H; exact H
        clear H
        have H := H1
        clear H1
        obtain rfl := Option.some.inj H
        go_wp2
        go_ret
        exact ⟨by first | rfl | (simp [errW_none, errW_some] <;> rfl) | (simp [*, errW_none, errW_some] <;> rfl), by repeat (first | (with_reducible first | exact HB.out | apply below_alloc | apply pw_below_drewN | apply below_drew1) | exact HB.out)⟩
      · replace c20 := Bool.eq_false_iff.mpr c20
        subst c20
        have H1 : (if t177 = 0 then (if (t176.length : Int) = 0 then (if t182 = 25 then (if (t180.length : Int) = 0 then (some (t181.toList == ([] : List UInt8))) else (some false)) else (some false)) else (if t182 = 0 then (if 0 ≤ (wrap64 ((t176.length : Int) - 1)) then (if (wrap64 ((t176.length : Int) - 1)) ≤ (t176.length : Int) then ((ashlarref14_Same.f kj4 t180 (t176.take ((wrap64 ((t176.length : Int) - 1)) : Int).toNat)).bind fun t191 => (if t191 = true then (if (wrap64 ((t176.length : Int) - 1)) < (t176.length : Int) then (some (t181.toList == (rdOf ByteArray.empty t176 (wrap64 ((t176.length : Int) - 1))).toList)) else (none)) else (some false))) else (none)) else (none)) else (some false))) else (if t182 = t177 then (if (t180.length : Int) = 0 then (some (t181.toList == ([] : List UInt8))) else (some false)) else (some false))) = some r := by rw [if_neg (show ¬ (false = true) by decide)] at H; exact H
        clear H
        have H := H1
        clear H1
        by_cases c21 : t177 = 0
        · rw [if_pos c21] at H
          have c21b0 : (t177 == 0) = true := beq_iff_eq.mpr c21
          have c21b1 : (t177 != 0) = false := bne_eq_false_iff_eq.mpr c21
          clear c21
          by_cases c22 : (t176.length : Int) = 0
          · rw [if_pos c22] at H
            have c22b0 : ((t176.length : Int) == 0) = true := beq_iff_eq.mpr c22
            have c22b1 : ((t176.length : Int) != 0) = false := bne_eq_false_iff_eq.mpr c22
            clear c22
            by_cases c23 : t182 = 25
            · rw [if_pos c23] at H
              have c23b0 : (t182 == 25) = true := beq_iff_eq.mpr c23
              have c23b1 : (t182 != 25) = false := bne_eq_false_iff_eq.mpr c23
              clear c23
              by_cases c24 : (t180.length : Int) = 0
              · rw [if_pos c24] at H
                have c24b0 : ((t180.length : Int) == 0) = true := beq_iff_eq.mpr c24
                have c24b1 : ((t180.length : Int) != 0) = false := bne_eq_false_iff_eq.mpr c24
                clear c24
                obtain rfl := Option.some.inj H
                obtain ⟨Ao25, co25, eo25⟩ := Kd.R_slice HO_5.out
                subst eo25
                obtain ⟨Ao26, co26, eo26⟩ := Kd.V_slice HO_7.out
                subst eo26
                go_wp2
                go_ret
                exact ⟨by first | rfl | (simp [errW_none, errW_some] <;> rfl) | (simp [*, errW_none, errW_some] <;> rfl), by repeat (first | (with_reducible first | exact HB.out | apply below_alloc | apply pw_below_drewN | apply below_drew1) | exact HB.out)⟩
              · rw [if_neg c24] at H
                have c24b0 : ((t180.length : Int) == 0) = false := beq_eq_false_iff_ne.mpr c24
                have c24b1 : ((t180.length : Int) != 0) = true := bne_iff_ne.mpr c24
                have c24b2 : ¬ (t180 = []) := fun h_ => c24 (by rw [h_]; rfl)
                obtain rfl := Option.some.inj H
                obtain ⟨Ao27, co27, eo27⟩ := Kd.R_slice HO_5.out
                subst eo27
                obtain ⟨Ao28, co28, eo28⟩ := Kd.V_slice HO_7.out
                subst eo28
                go_wp2
                go_ret
                exact ⟨by first | rfl | (simp [errW_none, errW_some] <;> rfl) | (simp [*, errW_none, errW_some] <;> rfl), by repeat (first | (with_reducible first | exact HB.out | apply below_alloc | apply pw_below_drewN | apply below_drew1) | exact HB.out)⟩
            · rw [if_neg c23] at H
              have c23b0 : (t182 == 25) = false := beq_eq_false_iff_ne.mpr c23
              have c23b1 : (t182 != 25) = true := bne_iff_ne.mpr c23
              obtain rfl := Option.some.inj H
              obtain ⟨Ao29, co29, eo29⟩ := Kd.R_slice HO_5.out
              subst eo29
              go_wp2
              go_ret
              exact ⟨by first | rfl | (simp [errW_none, errW_some] <;> rfl) | (simp [*, errW_none, errW_some] <;> rfl), by repeat (first | (with_reducible first | exact HB.out | apply below_alloc | apply pw_below_drewN | apply below_drew1) | exact HB.out)⟩
          · rw [if_neg c22] at H
            have c22b0 : ((t176.length : Int) == 0) = false := beq_eq_false_iff_ne.mpr c22
            have c22b1 : ((t176.length : Int) != 0) = true := bne_iff_ne.mpr c22
            have c22b2 : ¬ (t176 = []) := fun h_ => c22 (by rw [h_]; rfl)
            by_cases c30 : t182 = 0
            · rw [if_pos c30] at H
              have c30b0 : (t182 == 0) = true := beq_iff_eq.mpr c30
              have c30b1 : (t182 != 0) = false := bne_eq_false_iff_eq.mpr c30
              clear c30
              obtain ⟨ji31, hji31⟩ : ∃ j_ : Int, (wrap64 ((t176.length : Int) - 1)) = j_ := ⟨_, rfl⟩
              replace H : (if 0 ≤ (ji31) then (if (ji31) ≤ (t176.length : Int) then ((ashlarref14_Same.f kj4 t180 (t176.take ((ji31) : Int).toNat)).bind fun t191 => (if t191 = true then (if (ji31) < (t176.length : Int) then (some (t181.toList == (rdOf ByteArray.empty t176 (ji31)).toList)) else (none)) else (some false))) else (none)) else (none)) = some r := by first | (rw [hji31] at H; exact H) | (simp only [hji31] at H ⊢; exact H)
              have hji31w : (IntKind.i64.wrap ((t176.length : Int) - 1)) = ji31 := (i64_w _).trans hji31
              by_cases c32 : 0 ≤ (ji31)
              · rw [if_pos c32] at H
                have c32b0 := eq_true c32
                have c32b1 : decide (0 ≤ (ji31)) = true := decide_eq_true c32
                clear c32
                by_cases c33 : (ji31) ≤ (t176.length : Int)
                · rw [if_pos c33] at H
                  have c33b0 := eq_true c33
                  have c33b1 : decide ((ji31) ≤ (t176.length : Int)) = true := decide_eq_true c33
                  clear c33
                  obtain ⟨y187, hy187⟩ : ∃ y_ : List ByteArray, y_ = (t176.take ((ji31) : Int).toNat) := ⟨_, rfl⟩
                  replace H : ((ashlarref14_Same.f kj4 t180 y187).bind fun t191 => (if t191 = true then (if (ji31) < (t176.length : Int) then (some (t181.toList == (rdOf ByteArray.empty t176 (ji31)).toList)) else (none)) else (some false))) = some r := by first | (rw [hy187]; with_reducible exact H) | (have H2_ := (Option.bind_some _ _).symm.trans H; rw [hy187]; with_reducible exact H2_) | (have H2_ := (Option.bind_some _ _).symm.trans H; with_reducible exact H2_) | with_reducible exact H | (rw [hy187]; exact H) | exact H
                  have Ny187 := Aside0.mk hy187
                  clear hy187
                  replace H := Option.bind_eq_some_iff.mp H
                  obtain ⟨t191, A340, H⟩ := H
                  replace H : (if t191 = true then (if (ji31) < (t176.length : Int) then (some (t181.toList == (rdOf ByteArray.empty t176 (ji31)).toList)) else (none)) else (some false)) = some r := H
                  have A34 := Aside0.mk A340
                  clear A340
                  by_cases c35 : t191 = true
                  · subst c35
                    have H1 : (if (ji31) < (t176.length : Int) then (some (t181.toList == (rdOf ByteArray.empty t176 (ji31)).toList)) else (none)) = some r := by rw [if_pos rfl] at H; exact H
                    clear H
                    have H := H1
                    clear H1
                    by_cases c36 : (ji31) < (t176.length : Int)
                    · rw [if_pos c36] at H
                      have c36b0 : decide ((ji31) < (t176.length : Int)) = true := decide_eq_true c36
                      clear c36
                      obtain rfl := Option.some.inj H
                      obtain ⟨Ao37, co37, eo37⟩ := Kd.R_slice HO_5.out
                      subst eo37
                      have q38 : ((ji31) : Int) ≤ ((t176.length : Int) : Int) := of_decide_eq_true (by first | (with_reducible assumption) | assumption)
                      obtain ⟨i038, hi038, _, hsz38, _⟩ := info_parts info9
                      have hroom38 : t176.length ≤ co37 := (Kd.R_reads' HO_5.out).2.1
                      have hC38 : Kd.C Kd.string _ Ao37 t176.length t176 := (Kd.R_reads' HO_5.out).2.2
                      have hcut38 := cut_to (P := Tryd.prog) 26 9 .i64 Tryd.underlying26 hi038 Ao37 t176.length co37 (ji31) (of_decide_eq_true (by first | (with_reducible assumption) | assumption)) q38 hroom38
                      have hr38 := Kd.C_take (m := ((ji31) : Int).toNat) hC38 (by omega)
                      have hy38 : y187.length = ((ji31) : Int).toNat := (by rw [Ny187.out, List.length_take]; omega)
                      rw [← Ny187.out] at hr38
                      rw [← hy38] at hcut38
                      have HR190 := Aside0.mk hr38
                      have HC190 := Aside0.mk (show y187.length ≤ co37 from by omega)
                      clear hr38 hC38 hroom38 hi038 hsz38
                      have KY38 := Aside0.mk hy38
                      clear hy38
                      have KL38 := Aside0.mk (show ((ji31) : Int).toNat ≤ t176.length from by omega)
                      replace q38 := eq_true q38
                      obtain ⟨Ao39, co39, eo39⟩ := Kd.V_slice HO_7.out
                      subst eo39
                      go_wp2_with (first | (go_at_call 16; (with_reducible refine (ashlarref14_Same.calls kj4 _ _ t180 _ _ y187 true _ ?side1 ?side2 ?side3 ?side4 A34.out).mono ?_); (case side1 => repeat (first | exact (Kd.V_reads' HO_7.out).2.2 | (with_reducible refine Kd.C_alloc ?_ _) | (with_reducible refine Kd.C_drewN ?_ _) | (with_reducible refine Kd.C_drew ?_))); (case side2 => exact (Kd.V_reads' HO_7.out).2.1); (case side3 => repeat (first | exact (by repeat (first | (with_reducible exact HR190.out) | (with_reducible refine Kd.C_alloc ?_ _) | (with_reducible refine Kd.C_drewN ?_ _) | (with_reducible refine Kd.C_drew ?_) | exact HR190.out)) | (with_reducible refine Kd.C_alloc ?_ _) | (with_reducible refine Kd.C_drewN ?_ _) | (with_reducible refine Kd.C_drew ?_))); (case side4 => exact HC190.out); rintro e w' ⟨rfl, ⟨nd, rfl⟩⟩; have p192 : 0 ≤ ((ji31) : Int) := of_decide_eq_true (by first | (with_reducible assumption) | assumption); have q192 : (ji31) < (t176.length : Int) := of_decide_eq_true (by first | (with_reducible assumption) | assumption); obtain ⟨ad192, e192, hx192_0⟩ := Kd.at_string (Kd.R_reads' HO_5.out).2.2 (ji31) p192 q192; cases e192; replace p192 := eq_true p192; replace q192 := eq_true q192))
                      go_ret
                      exact ⟨by first | rfl | (simp [errW_none, errW_some] <;> rfl) | (simp only [← hji31]; first | rfl | (simp [errW_none, errW_some] <;> rfl)) | (simp [*, errW_none, errW_some] <;> rfl), by repeat (first | (with_reducible first | exact HB.out | apply below_alloc | apply pw_below_drewN | apply below_drew1) | exact HB.out)⟩
                    · rw [if_neg c36] at H
                      exact absurd H (by simp)
                  · replace c35 := Bool.eq_false_iff.mpr c35
                    subst c35
                    have H1 : (some false) = some r := by rw [if_neg (show ¬ (false = true) by decide)] at H; exact H
                    clear H
                    have H := H1
                    clear H1
                    obtain rfl := Option.some.inj H
                    obtain ⟨Ao40, co40, eo40⟩ := Kd.R_slice HO_5.out
                    subst eo40
                    have q41 : ((ji31) : Int) ≤ ((t176.length : Int) : Int) := of_decide_eq_true (by first | (with_reducible assumption) | assumption)
                    obtain ⟨i041, hi041, _, hsz41, _⟩ := info_parts info9
                    have hroom41 : t176.length ≤ co40 := (Kd.R_reads' HO_5.out).2.1
                    have hC41 : Kd.C Kd.string _ Ao40 t176.length t176 := (Kd.R_reads' HO_5.out).2.2
                    have hcut41 := cut_to (P := Tryd.prog) 26 9 .i64 Tryd.underlying26 hi041 Ao40 t176.length co40 (ji31) (of_decide_eq_true (by first | (with_reducible assumption) | assumption)) q41 hroom41
                    have hr41 := Kd.C_take (m := ((ji31) : Int).toNat) hC41 (by omega)
                    have hy41 : y187.length = ((ji31) : Int).toNat := (by rw [Ny187.out, List.length_take]; omega)
                    rw [← Ny187.out] at hr41
                    rw [← hy41] at hcut41
                    have HR190 := Aside0.mk hr41
                    have HC190 := Aside0.mk (show y187.length ≤ co40 from by omega)
                    clear hr41 hC41 hroom41 hi041 hsz41
                    have KY41 := Aside0.mk hy41
                    clear hy41
                    have KL41 := Aside0.mk (show ((ji31) : Int).toNat ≤ t176.length from by omega)
                    replace q41 := eq_true q41
                    obtain ⟨Ao42, co42, eo42⟩ := Kd.V_slice HO_7.out
                    subst eo42
                    go_wp2_with (first | (go_at_call 16; (with_reducible refine (ashlarref14_Same.calls kj4 _ _ t180 _ _ y187 false _ ?side1 ?side2 ?side3 ?side4 A34.out).mono ?_); (case side1 => repeat (first | exact (Kd.V_reads' HO_7.out).2.2 | (with_reducible refine Kd.C_alloc ?_ _) | (with_reducible refine Kd.C_drewN ?_ _) | (with_reducible refine Kd.C_drew ?_))); (case side2 => exact (Kd.V_reads' HO_7.out).2.1); (case side3 => repeat (first | exact (by repeat (first | (with_reducible exact HR190.out) | (with_reducible refine Kd.C_alloc ?_ _) | (with_reducible refine Kd.C_drewN ?_ _) | (with_reducible refine Kd.C_drew ?_) | exact HR190.out)) | (with_reducible refine Kd.C_alloc ?_ _) | (with_reducible refine Kd.C_drewN ?_ _) | (with_reducible refine Kd.C_drew ?_))); (case side4 => exact HC190.out); rintro e w' ⟨rfl, ⟨nd, rfl⟩⟩))
                    go_ret
                    exact ⟨by first | rfl | (simp [errW_none, errW_some] <;> rfl) | (simp only [← hji31]; first | rfl | (simp [errW_none, errW_some] <;> rfl)) | (simp [*, errW_none, errW_some] <;> rfl), by repeat (first | (with_reducible first | exact HB.out | apply below_alloc | apply pw_below_drewN | apply below_drew1) | exact HB.out)⟩
                · rw [if_neg c33] at H
                  exact absurd H (by simp)
              · rw [if_neg c32] at H
                exact absurd H (by simp)
            · rw [if_neg c30] at H
              have c30b0 : (t182 == 0) = false := beq_eq_false_iff_ne.mpr c30
              have c30b1 : (t182 != 0) = true := bne_iff_ne.mpr c30
              obtain rfl := Option.some.inj H
              obtain ⟨Ao43, co43, eo43⟩ := Kd.R_slice HO_5.out
              subst eo43
              go_wp2
              go_ret
              exact ⟨by first | rfl | (simp [errW_none, errW_some] <;> rfl) | (simp [*, errW_none, errW_some] <;> rfl), by repeat (first | (with_reducible first | exact HB.out | apply below_alloc | apply pw_below_drewN | apply below_drew1) | exact HB.out)⟩
        · rw [if_neg c21] at H
          have c21b0 : (t177 == 0) = false := beq_eq_false_iff_ne.mpr c21
          have c21b1 : (t177 != 0) = true := bne_iff_ne.mpr c21
          by_cases c44 : t182 = t177
          · rw [if_pos c44] at H
            have c44b0 : (t182 == t177) = true := beq_iff_eq.mpr c44
            have c44b1 : (t182 != t177) = false := bne_eq_false_iff_eq.mpr c44
            clear c44
            by_cases c45 : (t180.length : Int) = 0
            · rw [if_pos c45] at H
              have c45b0 : ((t180.length : Int) == 0) = true := beq_iff_eq.mpr c45
              have c45b1 : ((t180.length : Int) != 0) = false := bne_eq_false_iff_eq.mpr c45
              clear c45
              obtain rfl := Option.some.inj H
              obtain ⟨Ao46, co46, eo46⟩ := Kd.V_slice HO_7.out
              subst eo46
              go_wp2
              go_ret
              exact ⟨by first | rfl | (simp [errW_none, errW_some] <;> rfl) | (simp [*, errW_none, errW_some] <;> rfl), by repeat (first | (with_reducible first | exact HB.out | apply below_alloc | apply pw_below_drewN | apply below_drew1) | exact HB.out)⟩
            · rw [if_neg c45] at H
              have c45b0 : ((t180.length : Int) == 0) = false := beq_eq_false_iff_ne.mpr c45
              have c45b1 : ((t180.length : Int) != 0) = true := bne_iff_ne.mpr c45
              have c45b2 : ¬ (t180 = []) := fun h_ => c45 (by rw [h_]; rfl)
              obtain rfl := Option.some.inj H
              obtain ⟨Ao47, co47, eo47⟩ := Kd.V_slice HO_7.out
              subst eo47
              go_wp2
              go_ret
              exact ⟨by first | rfl | (simp [errW_none, errW_some] <;> rfl) | (simp [*, errW_none, errW_some] <;> rfl), by repeat (first | (with_reducible first | exact HB.out | apply below_alloc | apply pw_below_drewN | apply below_drew1) | exact HB.out)⟩
          · rw [if_neg c44] at H
            have c44b0 : (t182 == t177) = false := beq_eq_false_iff_ne.mpr c44
            have c44b1 : (t182 != t177) = true := bne_iff_ne.mpr c44
            obtain rfl := Option.some.inj H
            go_wp2
            go_ret
            exact ⟨by first | rfl | (simp [errW_none, errW_some] <;> rfl) | (simp [*, errW_none, errW_some] <;> rfl), by repeat (first | (with_reducible first | exact HB.out | apply below_alloc | apply pw_below_drewN | apply below_drew1) | exact HB.out)⟩

/-- THE ONE PURE STATEMENT of ashlarlaw14_PathSplits: yours. -/
def ashlarlaw14_PathSplits.Pure : Prop := ∀ (a0 : ByteArray), a0.size ≤ 140737488351232 → ∃ k, ashlarlaw14_PathSplits.f k a0 = some true
theorem ashlarlaw14_PathSplits.walk (P : ashlarlaw14_PathSplits.Pure) (a0 : ByteArray) (w : World) (w0 : a0.size ≤ 140737488351232) :
    Calls Tryd.prog 4 #[.string a0] w fun e w' => e = .returned (.bool true) ∧ Below w.heap.size w w' := by
  obtain ⟨k, h⟩ := P a0 w0
  refine (ashlarlaw14_PathSplits.calls k a0 true w h).mono ?_
  rintro e w' ⟨rfl, hd⟩
  exact ⟨rfl, hd⟩

end Go.Proofs.YtpnpbpgdclhbaaaDoor.PQ
