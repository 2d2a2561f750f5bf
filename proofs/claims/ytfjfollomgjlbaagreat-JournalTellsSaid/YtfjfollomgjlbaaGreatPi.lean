/-
  Printed by a program of this session's own out of the program's form: plain functions, and proofs that the calls do what these say.
-/
import Derived.Test.YtfjfollomgjlbaaGreatPc
import Derived.Test.YtfjfollomgjlbaaGreatPe
import Derived.Test.YtfjfollomgjlbaaGreatPf
import Derived.Test.YtfjfollomgjlbaaGreatLv
namespace Go.Proofs.YtfjfollomgjlbaaGreat.PQ
open Go.RowKit Go.Proofs.YtfjfollomgjlbaaGreatW.PrintWords Go.Proofs.YtfjfollomgjlbaaGreatW.PrintLast Go.Proofs.YtfjfollomgjlbaaGreatW.PrintMore
attribute [local go_sem] max2_int min2_int max_two min_two max_three min_three max_four min_four   
set_option linter.unusedVariables false
set_option linter.unusedSimpArgs false
def ashlarlaw11_JournalTells.f (k : Nat) (l0 : List Int) : Option (Bool) := (some (([] : List Int) : List Int)).bind fun y489 => (if y489.length + l0.length < 140737488355328 then ((some (y489 ++ l0 : List Int)).bind fun y492 => ((journal_ReadHead.f k y492).bind fun bt495 => ((ashlarref11_ReadHead.f k l0).bind fun bt498 => ((journal_ReadDesc.f k y492).bind fun bt501 => ((ashlarref11_ReadDesc.f k l0).bind fun bt507 => ((journal_ReadMark.f k y492).bind fun bt513 => ((ashlarref11_ReadMark.f k l0).bind fun bt516 => ((ashlarlaw11_lives.f).bind fun t519 => (if t519 = true then (if bt495.1 = bt498.1 then (if bt495.2.1 = bt498.2.1 then (if bt495.2.2 = bt498.2.2 then (if bt501.1 = bt507.1 then ((ashlarlaw03_Unlike.f k bt501.2.1 bt507.2.1).bind fun t520 => (if 0 = t520 then (if bt501.2.2.1 = bt507.2.2.1 then (if bt501.2.2.2 = bt507.2.2.2 then (if bt513.1 = bt516.1 then (if bt513.2.1 = bt516.2.1 then (if bt513.2.2 = bt516.2.2 then (some ((strOfNums y492).toList == (strOfNums l0).toList)) else (some false)) else (some false)) else (some false)) else (some false)) else (some false)) else (some false))) else (some false)) else (some false)) else (some false)) else (some false)) else (some false)))))))))) else (none))
theorem ashlarlaw11_JournalTells.mono : ∀ a0 k, LeO (ashlarlaw11_JournalTells.f k a0) (ashlarlaw11_JournalTells.f (k + 1) a0) := by
  intro a0 k
  unfold ashlarlaw11_JournalTells.f
  repeat' first
      | (with_reducible exact ashlarlaw03_Unlike.mono _ _ _)
      | (with_reducible exact ashlarref11_ReadDesc.mono _ _)
      | (with_reducible exact ashlarref11_ReadHead.mono _ _)
      | (with_reducible exact ashlarref11_ReadMark.mono _ _)
      | (with_reducible exact journal_ReadDesc.mono _ _)
      | (with_reducible exact journal_ReadHead.mono _ _)
      | (with_reducible exact journal_ReadMark.mono _ _)
      | (with_reducible exact LeO.refl _)
      | (with_reducible exact LeO.none _)
      | (with_reducible refine LeO.ite ?_ ?_)
      | (with_reducible refine LeO.bind ?_ (fun _ => ?_))
      | exact ashlarlaw03_Unlike.mono _ _ _
      | exact ashlarref11_ReadDesc.mono _ _
      | exact ashlarref11_ReadHead.mono _ _
      | exact ashlarref11_ReadMark.mono _ _
      | exact journal_ReadDesc.mono _ _
      | exact journal_ReadHead.mono _ _
      | exact journal_ReadMark.mono _ _
      | exact LeO.none _
      | refine LeO.ite ?_ ?_
      | refine LeO.bind ?_ (fun _ => ?_)
set_option maxHeartbeats 8000000 in
set_option maxRecDepth 100000 in
theorem ashlarlaw11_JournalTells.calls (k : Nat) (A0 : Option Addr) (c0 : Nat) (l0 : List Int) (r : Bool) (w : World) (hr0 : Kd.C (Kd.int .u8) w A0 l0.length l0) (hc0 : l0.length ≤ c0) (h : ashlarlaw11_JournalTells.f k l0 = some r) (hr_ : r = true) :
    Calls Tryz.prog 4 #[.slice A0 l0.length c0] w fun e w' => e = .returned (.bool r) ∧ Below w.heap.size w w' := by
  have HR0 := Aside0.mk hr0
  have HC0 := Aside0.mk hc0
  clear hr0 hc0
  have HB := Aside0.mk (Below.refl w.heap.size w)
  have H : ((some (([] : List Int) : List Int)).bind fun y489 => (if y489.length + l0.length < 140737488355328 then ((some (y489 ++ l0 : List Int)).bind fun y492 => ((journal_ReadHead.f k y492).bind fun bt495 => ((ashlarref11_ReadHead.f k l0).bind fun bt498 => ((journal_ReadDesc.f k y492).bind fun bt501 => ((ashlarref11_ReadDesc.f k l0).bind fun bt507 => ((journal_ReadMark.f k y492).bind fun bt513 => ((ashlarref11_ReadMark.f k l0).bind fun bt516 => ((ashlarlaw11_lives.f).bind fun t519 => (if t519 = true then (if bt495.1 = bt498.1 then (if bt495.2.1 = bt498.2.1 then (if bt495.2.2 = bt498.2.2 then (if bt501.1 = bt507.1 then ((ashlarlaw03_Unlike.f k bt501.2.1 bt507.2.1).bind fun t520 => (if 0 = t520 then (if bt501.2.2.1 = bt507.2.2.1 then (if bt501.2.2.2 = bt507.2.2.2 then (if bt513.1 = bt516.1 then (if bt513.2.1 = bt516.2.1 then (if bt513.2.2 = bt516.2.2 then (some ((strOfNums y492).toList == (strOfNums l0).toList)) else (some false)) else (some false)) else (some false)) else (some false)) else (some false)) else (some false))) else (some false)) else (some false)) else (some false)) else (some false)) else (some false)))))))))) else (none))) = some r := h
  clear h
  obtain ⟨y489, hy489⟩ : ∃ y_ : List Int, y_ = (([] : List Int)) := ⟨_, rfl⟩
  replace H : (if y489.length + l0.length < 140737488355328 then ((some (y489 ++ l0 : List Int)).bind fun y492 => ((journal_ReadHead.f k y492).bind fun bt495 => ((ashlarref11_ReadHead.f k l0).bind fun bt498 => ((journal_ReadDesc.f k y492).bind fun bt501 => ((ashlarref11_ReadDesc.f k l0).bind fun bt507 => ((journal_ReadMark.f k y492).bind fun bt513 => ((ashlarref11_ReadMark.f k l0).bind fun bt516 => ((ashlarlaw11_lives.f).bind fun t519 => (if t519 = true then (if bt495.1 = bt498.1 then (if bt495.2.1 = bt498.2.1 then (if bt495.2.2 = bt498.2.2 then (if bt501.1 = bt507.1 then ((ashlarlaw03_Unlike.f k bt501.2.1 bt507.2.1).bind fun t520 => (if 0 = t520 then (if bt501.2.2.1 = bt507.2.2.1 then (if bt501.2.2.2 = bt507.2.2.2 then (if bt513.1 = bt516.1 then (if bt513.2.1 = bt516.2.1 then (if bt513.2.2 = bt516.2.2 then (some ((strOfNums y492).toList == (strOfNums l0).toList)) else (some false)) else (some false)) else (some false)) else (some false)) else (some false)) else (some false))) else (some false)) else (some false)) else (some false)) else (some false)) else (some false)))))))))) else (none)) = some r := by first | (rw [hy489]; with_reducible exact H) | (have H2_ := (Option.bind_some _ _).symm.trans H; rw [hy489]; with_reducible exact H2_) | (have H2_ := (Option.bind_some _ _).symm.trans H; with_reducible exact H2_) | with_reducible exact H | (rw [hy489]; exact H) | exact H
  have Ny489 := Aside0.mk hy489
  clear hy489
  by_cases c2 : y489.length + l0.length < 140737488355328
  · rw [if_pos c2] at H
    have LMc2 := Aside0.mk c2
    clear c2
    obtain ⟨y492, hy492⟩ : ∃ y_ : List Int, y_ = (y489 ++ l0) := ⟨_, rfl⟩
    replace H : ((journal_ReadHead.f k y492).bind fun bt495 => ((ashlarref11_ReadHead.f k l0).bind fun bt498 => ((journal_ReadDesc.f k y492).bind fun bt501 => ((ashlarref11_ReadDesc.f k l0).bind fun bt507 => ((journal_ReadMark.f k y492).bind fun bt513 => ((ashlarref11_ReadMark.f k l0).bind fun bt516 => ((ashlarlaw11_lives.f).bind fun t519 => (if t519 = true then (if bt495.1 = bt498.1 then (if bt495.2.1 = bt498.2.1 then (if bt495.2.2 = bt498.2.2 then (if bt501.1 = bt507.1 then ((ashlarlaw03_Unlike.f k bt501.2.1 bt507.2.1).bind fun t520 => (if 0 = t520 then (if bt501.2.2.1 = bt507.2.2.1 then (if bt501.2.2.2 = bt507.2.2.2 then (if bt513.1 = bt516.1 then (if bt513.2.1 = bt516.2.1 then (if bt513.2.2 = bt516.2.2 then (some ((strOfNums y492).toList == (strOfNums l0).toList)) else (some false)) else (some false)) else (some false)) else (some false)) else (some false)) else (some false))) else (some false)) else (some false)) else (some false)) else (some false)) else (some false))))))))) = some r := by first | (rw [hy492]; with_reducible exact H) | (have H2_ := (Option.bind_some _ _).symm.trans H; rw [hy492]; with_reducible exact H2_) | (have H2_ := (Option.bind_some _ _).symm.trans H; with_reducible exact H2_) | with_reducible exact H | (rw [hy492]; exact H) | exact H
    have Ny492 := Aside0.mk hy492
    clear hy492
    replace H := Option.bind_eq_some_iff.mp H
    obtain ⟨⟨t495, t496, t497⟩, A30, H⟩ := H
    replace H : ((ashlarref11_ReadHead.f k l0).bind fun bt498 => ((journal_ReadDesc.f k y492).bind fun bt501 => ((ashlarref11_ReadDesc.f k l0).bind fun bt507 => ((journal_ReadMark.f k y492).bind fun bt513 => ((ashlarref11_ReadMark.f k l0).bind fun bt516 => ((ashlarlaw11_lives.f).bind fun t519 => (if t519 = true then (if t495 = bt498.1 then (if t496 = bt498.2.1 then (if t497 = bt498.2.2 then (if bt501.1 = bt507.1 then ((ashlarlaw03_Unlike.f k bt501.2.1 bt507.2.1).bind fun t520 => (if 0 = t520 then (if bt501.2.2.1 = bt507.2.2.1 then (if bt501.2.2.2 = bt507.2.2.2 then (if bt513.1 = bt516.1 then (if bt513.2.1 = bt516.2.1 then (if bt513.2.2 = bt516.2.2 then (some ((strOfNums y492).toList == (strOfNums l0).toList)) else (some false)) else (some false)) else (some false)) else (some false)) else (some false)) else (some false))) else (some false)) else (some false)) else (some false)) else (some false)) else (some false)))))))) = some r := H
    have A3 := Aside0.mk A30
    clear A30
    replace H := Option.bind_eq_some_iff.mp H
    obtain ⟨⟨t498, t499, t500⟩, A40, H⟩ := H
    replace H : ((journal_ReadDesc.f k y492).bind fun bt501 => ((ashlarref11_ReadDesc.f k l0).bind fun bt507 => ((journal_ReadMark.f k y492).bind fun bt513 => ((ashlarref11_ReadMark.f k l0).bind fun bt516 => ((ashlarlaw11_lives.f).bind fun t519 => (if t519 = true then (if t495 = t498 then (if t496 = t499 then (if t497 = t500 then (if bt501.1 = bt507.1 then ((ashlarlaw03_Unlike.f k bt501.2.1 bt507.2.1).bind fun t520 => (if 0 = t520 then (if bt501.2.2.1 = bt507.2.2.1 then (if bt501.2.2.2 = bt507.2.2.2 then (if bt513.1 = bt516.1 then (if bt513.2.1 = bt516.2.1 then (if bt513.2.2 = bt516.2.2 then (some ((strOfNums y492).toList == (strOfNums l0).toList)) else (some false)) else (some false)) else (some false)) else (some false)) else (some false)) else (some false))) else (some false)) else (some false)) else (some false)) else (some false)) else (some false))))))) = some r := H
    have A4 := Aside0.mk A40
    clear A40
    replace H := Option.bind_eq_some_iff.mp H
    obtain ⟨⟨t501, t502, t503, t504⟩, A50, H⟩ := H
    replace H : ((ashlarref11_ReadDesc.f k l0).bind fun bt507 => ((journal_ReadMark.f k y492).bind fun bt513 => ((ashlarref11_ReadMark.f k l0).bind fun bt516 => ((ashlarlaw11_lives.f).bind fun t519 => (if t519 = true then (if t495 = t498 then (if t496 = t499 then (if t497 = t500 then (if t501 = bt507.1 then ((ashlarlaw03_Unlike.f k t502 bt507.2.1).bind fun t520 => (if 0 = t520 then (if t503 = bt507.2.2.1 then (if t504 = bt507.2.2.2 then (if bt513.1 = bt516.1 then (if bt513.2.1 = bt516.2.1 then (if bt513.2.2 = bt516.2.2 then (some ((strOfNums y492).toList == (strOfNums l0).toList)) else (some false)) else (some false)) else (some false)) else (some false)) else (some false)) else (some false))) else (some false)) else (some false)) else (some false)) else (some false)) else (some false)))))) = some r := H
    have A5 := Aside0.mk A50
    clear A50
    replace H := Option.bind_eq_some_iff.mp H
    obtain ⟨⟨t507, t508, t509, t510⟩, A60, H⟩ := H
    replace H : ((journal_ReadMark.f k y492).bind fun bt513 => ((ashlarref11_ReadMark.f k l0).bind fun bt516 => ((ashlarlaw11_lives.f).bind fun t519 => (if t519 = true then (if t495 = t498 then (if t496 = t499 then (if t497 = t500 then (if t501 = t507 then ((ashlarlaw03_Unlike.f k t502 t508).bind fun t520 => (if 0 = t520 then (if t503 = t509 then (if t504 = t510 then (if bt513.1 = bt516.1 then (if bt513.2.1 = bt516.2.1 then (if bt513.2.2 = bt516.2.2 then (some ((strOfNums y492).toList == (strOfNums l0).toList)) else (some false)) else (some false)) else (some false)) else (some false)) else (some false)) else (some false))) else (some false)) else (some false)) else (some false)) else (some false)) else (some false))))) = some r := H
    have A6 := Aside0.mk A60
    clear A60
    replace H := Option.bind_eq_some_iff.mp H
    obtain ⟨⟨t513, t514, t515⟩, A70, H⟩ := H
    replace H : ((ashlarref11_ReadMark.f k l0).bind fun bt516 => ((ashlarlaw11_lives.f).bind fun t519 => (if t519 = true then (if t495 = t498 then (if t496 = t499 then (if t497 = t500 then (if t501 = t507 then ((ashlarlaw03_Unlike.f k t502 t508).bind fun t520 => (if 0 = t520 then (if t503 = t509 then (if t504 = t510 then (if t513 = bt516.1 then (if t514 = bt516.2.1 then (if t515 = bt516.2.2 then (some ((strOfNums y492).toList == (strOfNums l0).toList)) else (some false)) else (some false)) else (some false)) else (some false)) else (some false)) else (some false))) else (some false)) else (some false)) else (some false)) else (some false)) else (some false)))) = some r := H
    have A7 := Aside0.mk A70
    clear A70
    replace H := Option.bind_eq_some_iff.mp H
    obtain ⟨⟨t516, t517, t518⟩, A80, H⟩ := H
    replace H : ((ashlarlaw11_lives.f).bind fun t519 => (if t519 = true then (if t495 = t498 then (if t496 = t499 then (if t497 = t500 then (if t501 = t507 then ((ashlarlaw03_Unlike.f k t502 t508).bind fun t520 => (if 0 = t520 then (if t503 = t509 then (if t504 = t510 then (if t513 = t516 then (if t514 = t517 then (if t515 = t518 then (some ((strOfNums y492).toList == (strOfNums l0).toList)) else (some false)) else (some false)) else (some false)) else (some false)) else (some false)) else (some false))) else (some false)) else (some false)) else (some false)) else (some false)) else (some false))) = some r := H
    have A8 := Aside0.mk A80
    clear A80
    replace H := Option.bind_eq_some_iff.mp H
    obtain ⟨t519, A90, H⟩ := H
    replace H : (if t519 = true then (if t495 = t498 then (if t496 = t499 then (if t497 = t500 then (if t501 = t507 then ((ashlarlaw03_Unlike.f k t502 t508).bind fun t520 => (if 0 = t520 then (if t503 = t509 then (if t504 = t510 then (if t513 = t516 then (if t514 = t517 then (if t515 = t518 then (some ((strOfNums y492).toList == (strOfNums l0).toList)) else (some false)) else (some false)) else (some false)) else (some false)) else (some false)) else (some false))) else (some false)) else (some false)) else (some false)) else (some false)) else (some false)) = some r := H
    have A9 := Aside0.mk A90
    clear A90
    by_cases c10 : t519 = true
    · subst c10
      have H1 : (if t495 = t498 then (if t496 = t499 then (if t497 = t500 then (if t501 = t507 then ((ashlarlaw03_Unlike.f k t502 t508).bind fun t520 => (if 0 = t520 then (if t503 = t509 then (if t504 = t510 then (if t513 = t516 then (if t514 = t517 then (if t515 = t518 then (some ((strOfNums y492).toList == (strOfNums l0).toList)) else (some false)) else (some false)) else (some false)) else (some false)) else (some false)) else (some false))) else (some false)) else (some false)) else (some false)) else (some false)) = some r := by rw [if_pos rfl] at H; exact H
      clear H
      have H := H1
      clear H1
      by_cases c11 : t495 = t498
      · rw [if_pos c11] at H
        have c11b0 : (t495 == t498) = true := beq_iff_eq.mpr c11
        have c11b1 : (t495 != t498) = false := bne_eq_false_iff_eq.mpr c11
        clear c11
        by_cases c12 : t496 = t499
        · rw [if_pos c12] at H
          have c12b0 : (t496 == t499) = true := beq_iff_eq.mpr c12
          have c12b1 : (t496 != t499) = false := bne_eq_false_iff_eq.mpr c12
          clear c12
          by_cases c13 : t497 = t500
          · rw [if_pos c13] at H
            have c13b0 : (t497 == t500) = true := beq_iff_eq.mpr c13
            have c13b1 : (t497 != t500) = false := bne_eq_false_iff_eq.mpr c13
            clear c13
            by_cases c14 : t501 = t507
            · rw [if_pos c14] at H
              have c14b0 : (t501 == t507) = true := beq_iff_eq.mpr c14
              have c14b1 : (t501 != t507) = false := bne_eq_false_iff_eq.mpr c14
              clear c14
              replace H := Option.bind_eq_some_iff.mp H
              obtain ⟨t520, A150, H⟩ := H
              replace H : (if 0 = t520 then (if t503 = t509 then (if t504 = t510 then (if t513 = t516 then (if t514 = t517 then (if t515 = t518 then (some ((strOfNums y492).toList == (strOfNums l0).toList)) else (some false)) else (some false)) else (some false)) else (some false)) else (some false)) else (some false)) = some r := H
              have A15 := Aside0.mk A150
              clear A150
              by_cases c16 : 0 = t520
              · rw [if_pos c16] at H
                have c16b0 : (0 == t520) = true := beq_iff_eq.mpr c16
                have c16b1 : (0 != t520) = false := bne_eq_false_iff_eq.mpr c16
                clear c16
                by_cases c17 : t503 = t509
                · rw [if_pos c17] at H
                  have c17b0 : (t503 == t509) = true := beq_iff_eq.mpr c17
                  have c17b1 : (t503 != t509) = false := bne_eq_false_iff_eq.mpr c17
                  clear c17
                  by_cases c18 : t504 = t510
                  · rw [if_pos c18] at H
                    have c18b0 : (t504 == t510) = true := beq_iff_eq.mpr c18
                    have c18b1 : (t504 != t510) = false := bne_eq_false_iff_eq.mpr c18
                    clear c18
                    by_cases c19 : t513 = t516
                    · rw [if_pos c19] at H
                      have c19b0 : (t513 == t516) = true := beq_iff_eq.mpr c19
                      have c19b1 : (t513 != t516) = false := bne_eq_false_iff_eq.mpr c19
                      clear c19
                      by_cases c20 : t514 = t517
                      · rw [if_pos c20] at H
                        have c20b0 : (t514 == t517) = true := beq_iff_eq.mpr c20
                        have c20b1 : (t514 != t517) = false := bne_eq_false_iff_eq.mpr c20
                        clear c20
                        by_cases c21 : t515 = t518
                        · rw [if_pos c21] at H
                          have c21b0 : (t515 == t518) = true := beq_iff_eq.mpr c21
                          have c21b1 : (t515 != t518) = false := bne_eq_false_iff_eq.mpr c21
                          clear c21
                          obtain rfl := Option.some.inj H
                          go_enter Tryz.func4, Tryz.ntmps4
                          go_wp2_with (first | ((with_reducible refine gate_dst (N := 24) rfl ?_); refine Kd.R_lit (Kd.int .u8) _ 5 ?hg (N := 24) ?hd (xs := ([] : List Int)) (inner := []) (ok := fun _ => True) (okp := fun _ => True) ?hr ?hp (fun _ hk => hk) trivial (Below.refl _ _) (Nat.le_refl _) (by simp) ?_; (case hd => rfl); (case hg => rfl); (case hr => first | (go_simp; done) | (go_simp; rfl)); (case hp => exact (Reps.none _ _)); intro v490 w22 ho23 hb hg_ hnew_; clear hg_ hnew_; (first | rw [← Ny489.out] at ho23 | (simp only [Int.reduceToNat] at ho23; rw [← Ny489.out] at ho23)); have n0_ := Aside0.mk (Kd.R_lower ho23 (below_size (by repeat (first | (with_reducible first | exact HB.out | apply below_alloc | apply pw_below_drewN | apply below_drew1) | exact HB.out)))); have n1_ := Aside0.mk (below_step (by repeat (first | (with_reducible first | exact HB.out | apply below_alloc | apply pw_below_drewN | apply below_drew1) | exact HB.out)) hb); clear HB; have HO491 := n0_; have HB := n1_; clear n0_ n1_; clear hb ho23) | ((with_reducible refine gate_builtin (b := .append) (xs := #[.tmp 24, .tmp 25]) rfl ?_); at_builtin; refine Kd.R_append_rows (Kd.int .u8) (w0 := w) w.heap.size rfl (.tmp 24) (.tmp 25) 24 5 (.int .u8 0) 1 rfl Tryz.underlying24 info5 rfl (by decide) (by omega) v490 y489 l0 _ _ _ (fun _ => True) (fun _ => False) rfl rfl ?aO ?aR (fun _ _ h => h) (fun _ h => h.elim) ?aF ?aB ?aS ?aL ?_; (case aR => repeat (first | exact (Kd.C_below HR0.out HB.out) | (with_reducible refine Kd.C_alloc ?_ _) | (with_reducible refine Kd.C_drewN ?_ _) | (with_reducible refine Kd.C_drew ?_))); (case aB => exact (by repeat (first | (with_reducible first | exact HB.out | apply below_alloc | apply pw_below_drewN | apply below_drew1) | exact HB.out))); (case aF => exact (fun _ _ => trivial)); (case aO => exact (by (with_reducible repeat (first | apply Kd.R_alloc | apply Kd.R_drewN | apply Kd.R_drew)); exact HO491.out)); (case aS => exact (below_size (by repeat (first | (with_reducible first | exact HB.out | apply below_alloc | apply pw_below_drewN | apply below_drew1) | exact HB.out)))); (case aL => have := LMc2.out; omega); intro v493 w24 ho hb hg hat; rw [← Ny492.out] at ho; have n0_ := Aside0.mk (hb); have n1_ := Aside0.mk (ho); clear HB; clear HO491; have HB := n0_; have HO494 := n1_; clear n0_ n1_; clear ho hb hg hat; obtain ⟨Ao25, co25, eo25⟩ := Kd.R_slice HO494.out; subst eo25) | ((with_reducible refine gate_callee (f := 14) rfl ?_); refine goesL_ (some 29) rfl rfl Tryz.func14 (by kernel_rfl) rfl #[.slice Ao25 y492.length co25] rfl (by (try simp only [List.map_toArray, List.map_cons, List.map_nil]); first | done | rfl | (simp only [List.length_drop, List.length_take]; rfl)) ?_; (with_reducible refine (journal_ReadHead.calls k _ _ y492 t495 t496 t497 _ ?side1 ?side2 A3.out).mono ?_); (case side1 => repeat (first | exact (Kd.R_reads' HO494.out).2.2 | (with_reducible refine Kd.C_alloc ?_ _) | (with_reducible refine Kd.C_drewN ?_ _) | (with_reducible refine Kd.C_drew ?_))); (case side2 => exact (Kd.R_reads' HO494.out).2.1); rintro e w26 ⟨rfl, hb⟩; refine ⟨_, rfl, ?_⟩; have n0_ := Aside0.mk (Kd.R_below (by (with_reducible repeat (first | apply Kd.R_alloc | apply Kd.R_drewN | apply Kd.R_drew)); exact HO494.out) hb); have n1_ := Aside0.mk (below_step (by repeat (first | (with_reducible first | exact HB.out | apply below_alloc | apply pw_below_drewN | apply below_drew1) | exact HB.out)) hb); clear HO494; clear HB; have HO494 := n0_; have HB := n1_; clear n0_ n1_; (try clear hb); (try clear hb2); (try clear hk); (try clear hi)) | ((with_reducible refine gate_callee (f := 15) rfl ?_); refine goesL_ (some 35) rfl rfl Tryz.func15 (by kernel_rfl) rfl #[.slice A0 l0.length c0] rfl (by (try simp only [List.map_toArray, List.map_cons, List.map_nil]); first | done | rfl | (simp only [List.length_drop, List.length_take]; rfl)) ?_; (with_reducible refine (ashlarref11_ReadHead.calls k _ _ l0 t498 t499 t500 _ ?side1 ?side2 A4.out).mono ?_); (case side1 => repeat (first | exact (Kd.C_below HR0.out HB.out) | (with_reducible refine Kd.C_alloc ?_ _) | (with_reducible refine Kd.C_drewN ?_ _) | (with_reducible refine Kd.C_drew ?_))); (case side2 => exact HC0.out); rintro e w27 ⟨rfl, hb⟩; refine ⟨_, rfl, ?_⟩; have n0_ := Aside0.mk (Kd.R_below (by (with_reducible repeat (first | apply Kd.R_alloc | apply Kd.R_drewN | apply Kd.R_drew)); exact HO494.out) hb); have n1_ := Aside0.mk (below_step (by repeat (first | (with_reducible first | exact HB.out | apply below_alloc | apply pw_below_drewN | apply below_drew1) | exact HB.out)) hb); clear HO494; clear HB; have HO494 := n0_; have HB := n1_; clear n0_ n1_; (try clear hb); (try clear hb2); (try clear hk); (try clear hi)) | ((with_reducible refine gate_callee (f := 16) rfl ?_); refine goesL_ (some 41) rfl rfl Tryz.func16 (by kernel_rfl) rfl #[.slice Ao25 y492.length co25] rfl (by (try simp only [List.map_toArray, List.map_cons, List.map_nil]); first | done | rfl | (simp only [List.length_drop, List.length_take]; rfl)) ?_; (with_reducible refine (journal_ReadDesc.calls k _ _ y492 t501 t502 t503 t504 _ ?side1 ?side2 A5.out).mono ?_); (case side1 => repeat (first | exact (Kd.R_reads' HO494.out).2.2 | (with_reducible refine Kd.C_alloc ?_ _) | (with_reducible refine Kd.C_drewN ?_ _) | (with_reducible refine Kd.C_drew ?_))); (case side2 => exact (Kd.R_reads' HO494.out).2.1); rintro e w28 ⟨v505, rfl, ho0, hb⟩; refine ⟨_, rfl, ?_⟩; have n0_ := Aside0.mk (Kd.R_below (by (with_reducible repeat (first | apply Kd.R_alloc | apply Kd.R_drewN | apply Kd.R_drew)); exact HO494.out) hb); have n1_ := Aside0.mk (Kd.R_lower ho0 (below_size (by repeat (first | (with_reducible first | exact HB.out | apply below_alloc | apply pw_below_drewN | apply below_drew1) | exact HB.out)))); have n2_ := Aside0.mk (below_step (by repeat (first | (with_reducible first | exact HB.out | apply below_alloc | apply pw_below_drewN | apply below_drew1) | exact HB.out)) hb); clear HO494; clear HB; have HO494 := n0_; have HO506 := n1_; have HB := n2_; clear n0_ n1_ n2_; (try clear hb); (try clear hb2); (try clear hk); (try clear hi); (try clear ho0)) | ((with_reducible refine gate_callee (f := 17) rfl ?_); refine goesL_ (some 48) rfl rfl Tryz.func17 (by kernel_rfl) rfl #[.slice A0 l0.length c0] rfl (by (try simp only [List.map_toArray, List.map_cons, List.map_nil]); first | done | rfl | (simp only [List.length_drop, List.length_take]; rfl)) ?_; (with_reducible refine (ashlarref11_ReadDesc.calls k _ _ l0 t507 t508 t509 t510 _ ?side1 ?side2 A6.out).mono ?_); (case side1 => repeat (first | exact (Kd.C_below HR0.out HB.out) | (with_reducible refine Kd.C_alloc ?_ _) | (with_reducible refine Kd.C_drewN ?_ _) | (with_reducible refine Kd.C_drew ?_))); (case side2 => exact HC0.out); rintro e w29 ⟨v511, rfl, ho0, hb⟩; refine ⟨_, rfl, ?_⟩; have n0_ := Aside0.mk (Kd.R_below (by (with_reducible repeat (first | apply Kd.R_alloc | apply Kd.R_drewN | apply Kd.R_drew)); exact HO494.out) hb); have n1_ := Aside0.mk (Kd.R_elder' (by (with_reducible repeat (first | apply Kd.R_alloc | apply Kd.R_drewN | apply Kd.R_drew)); exact HO506.out) (Kd.R_base ho0) hb); have n2_ := Aside0.mk (Kd.R_lower (Kd.R_new' ho0 (Kd.R_lt (by (with_reducible repeat (first | apply Kd.R_alloc | apply Kd.R_drewN | apply Kd.R_drew)); exact HO506.out))) (below_size (by repeat (first | (with_reducible first | exact HB.out | apply below_alloc | apply pw_below_drewN | apply below_drew1) | exact HB.out)))); have n3_ := Aside0.mk (below_step (by repeat (first | (with_reducible first | exact HB.out | apply below_alloc | apply pw_below_drewN | apply below_drew1) | exact HB.out)) hb); clear HO494; clear HO506; clear HB; have HO494 := n0_; have HO506 := n1_; have HO512 := n2_; have HB := n3_; clear n0_ n1_ n2_ n3_; (try clear hb); (try clear hb2); (try clear hk); (try clear hi); (try clear ho0)) | ((with_reducible refine gate_callee (f := 18) rfl ?_); refine goesL_ (some 55) rfl rfl Tryz.func18 (by kernel_rfl) rfl #[.slice Ao25 y492.length co25] rfl (by (try simp only [List.map_toArray, List.map_cons, List.map_nil]); first | done | rfl | (simp only [List.length_drop, List.length_take]; rfl)) ?_; (with_reducible refine (journal_ReadMark.calls k _ _ y492 t513 t514 t515 _ ?side1 ?side2 A7.out).mono ?_); (case side1 => repeat (first | exact (Kd.R_reads' HO494.out).2.2 | (with_reducible refine Kd.C_alloc ?_ _) | (with_reducible refine Kd.C_drewN ?_ _) | (with_reducible refine Kd.C_drew ?_))); (case side2 => exact (Kd.R_reads' HO494.out).2.1); rintro e w30 ⟨rfl, hb⟩; refine ⟨_, rfl, ?_⟩; have n0_ := Aside0.mk (Kd.R_below (by (with_reducible repeat (first | apply Kd.R_alloc | apply Kd.R_drewN | apply Kd.R_drew)); exact HO494.out) hb); have n1_ := Aside0.mk (Kd.R_below (by (with_reducible repeat (first | apply Kd.R_alloc | apply Kd.R_drewN | apply Kd.R_drew)); exact HO506.out) hb); have n2_ := Aside0.mk (Kd.R_below (by (with_reducible repeat (first | apply Kd.R_alloc | apply Kd.R_drewN | apply Kd.R_drew)); exact HO512.out) hb); have n3_ := Aside0.mk (below_step (by repeat (first | (with_reducible first | exact HB.out | apply below_alloc | apply pw_below_drewN | apply below_drew1) | exact HB.out)) hb); clear HO494; clear HO506; clear HO512; clear HB; have HO494 := n0_; have HO506 := n1_; have HO512 := n2_; have HB := n3_; clear n0_ n1_ n2_ n3_; (try clear hb); (try clear hb2); (try clear hk); (try clear hi)) | ((with_reducible refine gate_callee (f := 19) rfl ?_); refine goesL_ (some 61) rfl rfl Tryz.func19 (by kernel_rfl) rfl #[.slice A0 l0.length c0] rfl (by (try simp only [List.map_toArray, List.map_cons, List.map_nil]); first | done | rfl | (simp only [List.length_drop, List.length_take]; rfl)) ?_; (with_reducible refine (ashlarref11_ReadMark.calls k _ _ l0 t516 t517 t518 _ ?side1 ?side2 A8.out).mono ?_); (case side1 => repeat (first | exact (Kd.C_below HR0.out HB.out) | (with_reducible refine Kd.C_alloc ?_ _) | (with_reducible refine Kd.C_drewN ?_ _) | (with_reducible refine Kd.C_drew ?_))); (case side2 => exact HC0.out); rintro e w31 ⟨rfl, hb⟩; refine ⟨_, rfl, ?_⟩; have n0_ := Aside0.mk (Kd.R_below (by (with_reducible repeat (first | apply Kd.R_alloc | apply Kd.R_drewN | apply Kd.R_drew)); exact HO494.out) hb); have n1_ := Aside0.mk (Kd.R_below (by (with_reducible repeat (first | apply Kd.R_alloc | apply Kd.R_drewN | apply Kd.R_drew)); exact HO506.out) hb); have n2_ := Aside0.mk (Kd.R_below (by (with_reducible repeat (first | apply Kd.R_alloc | apply Kd.R_drewN | apply Kd.R_drew)); exact HO512.out) hb); have n3_ := Aside0.mk (below_step (by repeat (first | (with_reducible first | exact HB.out | apply below_alloc | apply pw_below_drewN | apply below_drew1) | exact HB.out)) hb); clear HO494; clear HO506; clear HO512; clear HB; have HO494 := n0_; have HO506 := n1_; have HO512 := n2_; have HB := n3_; clear n0_ n1_ n2_ n3_; (try clear hb); (try clear hb2); (try clear hk); (try clear hi)) | ((with_reducible refine gate_callee (f := 13) rfl ?_); refine goesL_ (some 65) rfl rfl Tryz.func13 (by kernel_rfl) rfl #[] rfl (by (try simp only [List.map_toArray, List.map_cons, List.map_nil]); first | done | rfl | (simp only [List.length_drop, List.length_take]; rfl)) ?_; (with_reducible refine (ashlarlaw11_lives.calls  true _ A9.out).mono ?_); rintro e w32 ⟨rfl, hb⟩; refine ⟨_, rfl, ?_⟩; have n0_ := Aside0.mk (Kd.R_below (by (with_reducible repeat (first | apply Kd.R_alloc | apply Kd.R_drewN | apply Kd.R_drew)); exact HO494.out) hb); have n1_ := Aside0.mk (Kd.R_below (by (with_reducible repeat (first | apply Kd.R_alloc | apply Kd.R_drewN | apply Kd.R_drew)); exact HO506.out) hb); have n2_ := Aside0.mk (Kd.R_below (by (with_reducible repeat (first | apply Kd.R_alloc | apply Kd.R_drewN | apply Kd.R_drew)); exact HO512.out) hb); have n3_ := Aside0.mk (below_step (by repeat (first | (with_reducible first | exact HB.out | apply below_alloc | apply pw_below_drewN | apply below_drew1) | exact HB.out)) hb); clear HO494; clear HO506; clear HO512; clear HB; have HO494 := n0_; have HO506 := n1_; have HO512 := n2_; have HB := n3_; clear n0_ n1_ n2_ n3_; (try clear hb); (try clear hb2); (try clear hk); (try clear hi); obtain ⟨Ao33, co33, eo33⟩ := Kd.R_slice HO506.out; subst eo33; obtain ⟨Ao34, co34, eo34⟩ := Kd.R_slice HO512.out; subst eo34) | (go_at_call 20; (with_reducible refine (ashlarlaw03_Unlike.calls k _ _ t502 _ _ t508 t520 _ ?side1 ?side2 ?side3 ?side4 A15.out).mono ?_); (case side1 => repeat (first | exact (Kd.R_reads' HO506.out).2.2 | (with_reducible refine Kd.C_alloc ?_ _) | (with_reducible refine Kd.C_drewN ?_ _) | (with_reducible refine Kd.C_drew ?_))); (case side2 => exact (Kd.R_reads' HO506.out).2.1); (case side3 => repeat (first | exact (Kd.R_reads' HO512.out).2.2 | (with_reducible refine Kd.C_alloc ?_ _) | (with_reducible refine Kd.C_drewN ?_ _) | (with_reducible refine Kd.C_drew ?_))); (case side4 => exact (Kd.R_reads' HO512.out).2.1); rintro e w' ⟨rfl, ⟨nd, rfl⟩⟩; have hcv35 := own_string (P := Tryz.prog) Tryz.underlying24 Tryz.underlying5 Tryz.underlying9 (pw_own_drewN (Kd.own_of_R HO494.out) nd); have hcv36 := Kd.C_string (P := Tryz.prog) (A := A0) (c := c0) Tryz.underlying24 Tryz.underlying5 Tryz.underlying9 (Kd.C_drewN (Kd.C_below HR0.out HB.out) nd)))
                          go_ret
                          exact ⟨by first | rfl | (simp [errW_none, errW_some] <;> rfl) | (simp [*, errW_none, errW_some] <;> rfl), by repeat (first | (with_reducible first | exact HB.out | apply below_alloc | apply pw_below_drewN | apply below_drew1) | exact HB.out)⟩
                        · rw [if_neg c21] at H
                          have c21b0 : (t515 == t518) = false := beq_eq_false_iff_ne.mpr c21
                          have c21b1 : (t515 != t518) = true := bne_iff_ne.mpr c21
                          obtain rfl := Option.some.inj H
                          exact absurd hr_ (by decide)
                      · rw [if_neg c20] at H
                        have c20b0 : (t514 == t517) = false := beq_eq_false_iff_ne.mpr c20
                        have c20b1 : (t514 != t517) = true := bne_iff_ne.mpr c20
                        obtain rfl := Option.some.inj H
                        exact absurd hr_ (by decide)
                    · rw [if_neg c19] at H
                      have c19b0 : (t513 == t516) = false := beq_eq_false_iff_ne.mpr c19
                      have c19b1 : (t513 != t516) = true := bne_iff_ne.mpr c19
                      obtain rfl := Option.some.inj H
                      exact absurd hr_ (by decide)
                  · rw [if_neg c18] at H
                    have c18b0 : (t504 == t510) = false := beq_eq_false_iff_ne.mpr c18
                    have c18b1 : (t504 != t510) = true := bne_iff_ne.mpr c18
                    obtain rfl := Option.some.inj H
                    exact absurd hr_ (by decide)
                · rw [if_neg c17] at H
                  have c17b0 : (t503 == t509) = false := beq_eq_false_iff_ne.mpr c17
                  have c17b1 : (t503 != t509) = true := bne_iff_ne.mpr c17
                  obtain rfl := Option.some.inj H
                  exact absurd hr_ (by decide)
              · rw [if_neg c16] at H
                have c16b0 : (0 == t520) = false := beq_eq_false_iff_ne.mpr c16
                have c16b1 : (0 != t520) = true := bne_iff_ne.mpr c16
                obtain rfl := Option.some.inj H
                exact absurd hr_ (by decide)
            · rw [if_neg c14] at H
              have c14b0 : (t501 == t507) = false := beq_eq_false_iff_ne.mpr c14
              have c14b1 : (t501 != t507) = true := bne_iff_ne.mpr c14
              obtain rfl := Option.some.inj H
              exact absurd hr_ (by decide)
          · rw [if_neg c13] at H
            have c13b0 : (t497 == t500) = false := beq_eq_false_iff_ne.mpr c13
            have c13b1 : (t497 != t500) = true := bne_iff_ne.mpr c13
            obtain rfl := Option.some.inj H
            exact absurd hr_ (by decide)
        · rw [if_neg c12] at H
          have c12b0 : (t496 == t499) = false := beq_eq_false_iff_ne.mpr c12
          have c12b1 : (t496 != t499) = true := bne_iff_ne.mpr c12
          obtain rfl := Option.some.inj H
          exact absurd hr_ (by decide)
      · rw [if_neg c11] at H
        have c11b0 : (t495 == t498) = false := beq_eq_false_iff_ne.mpr c11
        have c11b1 : (t495 != t498) = true := bne_iff_ne.mpr c11
        obtain rfl := Option.some.inj H
        exact absurd hr_ (by decide)
    · replace c10 := Bool.eq_false_iff.mpr c10
      subst c10
      have H1 : (some false) = some r := by rw [if_neg (show ¬ (false = true) by decide)] at H; exact H
      clear H
      have H := H1
      clear H1
      obtain rfl := Option.some.inj H
      exact absurd hr_ (by decide)
  · rw [if_neg c2] at H
    exact absurd H (by simp)
def ashlarlaw11_JournalTells.Pure : Prop := ∀ (l0 : List Int), l0.length ≤ maxLen → l0.length * 1 ≤ 140737488351232 → (∀ x ∈ l0, (Lit.int .u8 x).wf = true) → ∃ k, ashlarlaw11_JournalTells.f k l0 = some true
theorem ashlarlaw11_JournalTells.walk (P : ashlarlaw11_JournalTells.Pure) (a0 : Option Addr) (len0 cap0 : Nat) (z0 : List Int) (w : World) (w0 : (a0 = none ∧ len0 = 0 ∧ cap0 = 0 ∧ z0 = []) ∨ ∃ x, a0 = some x ∧ len0 ≤ cap0 ∧ cap0 ≤ maxLen ∧ z0.length = cap0 ∧ (∀ i, i < z0.length → w.cell? (x.add i) = some (.int .u8 (z0.getD i 0))) ∧ ∀ n ∈ z0, (Lit.int .u8 n).wf = true) (y0 : len0 * 1 ≤ 140737488351232) :
    Calls Tryz.prog 4 #[.slice a0 len0 cap0] w fun e w' => e = .returned (.bool true) ∧ Below w.heap.size w w' := by
  obtain ⟨l0, rfl, hr0, hm0, hw0, hc0⟩ := ReadsInt.ofRowC w0
  obtain ⟨k, h⟩ := P l0 hm0 y0 hw0
  refine (ashlarlaw11_JournalTells.calls k _ _ l0 true w (Kd.C_of_reads (d := (0 : Int)) (h1 := fun _ => rfl) hr0) hc0 h rfl).mono ?_
  rintro e w' ⟨rfl, hd⟩
  exact ⟨rfl, hd⟩
end Go.Proofs.YtfjfollomgjlbaaGreat.PQ
