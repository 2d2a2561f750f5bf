/-
  Which files may be: two functions, run by the machine on each box of files.
-/
import Derived.Test.YtjgjcfeifhaanaaGreatA4
import Derived.Test.YtjgjcfeifhaanaaGreatChecked
import Derived.KernelRfl
namespace Go.Proofs.YtjgjcfeifhaanaaGreat.PQ
open Go Go.RowKit Go.Proofs.YtjgjcfeifhaanaaGreat.Am
set_option linter.unusedVariables false
set_option maxRecDepth 1000000
set_option maxHeartbeats 400000000
section
inductive Tr where
  | leaf (b : Bool)
  | cut (i : Nat) (m : Int) (x y : Tr)
def hiAt : List (Int × Int) → Nat → Int → List (Int × Int)
  | [], _, _ => []
  | c :: l, 0, m => (c.1, m) :: l
  | c :: l, i + 1, m => c :: hiAt l i m
def loAt : List (Int × Int) → Nat → Int → List (Int × Int)
  | [], _, _ => []
  | c :: l, 0, m => (m, c.2) :: l
  | c :: l, i + 1, m => c :: loAt l i m
theorem within_hi : ∀ {l : List (Int × Int)} {v : List Int} {i : Nat} {m : Int}, Within l v → v.getD i 0 ≤ m → Within (hiAt l i m) v
  | _, _, _, _, .nil, _ => .nil
  | _, _, 0, _, .cons a b t, h => .cons a (by simpa using h) t
  | _, _, i + 1, _, .cons a b t, h => .cons a b (within_hi t (by simpa using h))
theorem within_lo : ∀ {l : List (Int × Int)} {v : List Int} {i : Nat} {m : Int}, Within l v → m ≤ v.getD i 0 → Within (loAt l i m) v
  | _, _, _, _, .nil, _ => .nil
  | _, _, 0, _, .cons a b t, h => .cons (by simpa using h) b t
  | _, _, i + 1, _, .cons a b t, h => .cons a b (within_lo t (by simpa using h))
noncomputable def chk (X : M) (g : FuncId) (n : Nat) : Tr → List (Int × Int) → Bool
  | .leaf b, l => boxB X g n (l, b)
  | .cut i m x y, l => cond (chk X g n x (hiAt l i m)) (chk X g n y (loAt l i (m + 1))) false
def evT : Tr → List Int → Bool
  | .leaf b, _ => b
  | .cut i m x y, v => if v.getD i 0 ≤ m then evT x v else evT y v
theorem tree_calls {P : Program} {X : M} (hX : Right P X) {g : FuncId} (hs : (X.C.fs.get g).isSome = true) {n : Nat} : ∀ {t : Tr} {l : List (Int × Int)}, chk X g n t l = true → ∀ {v : List Int}, Within l v → ∀ (w : World),
    Calls P g #[.agg (v.map fun n => Value.int .i64 n).toArray] w fun e w' => e = .returned (.bool (evT t v)) ∧ Below w.heap.size w w'
  | .leaf b, l, h, v, hv, w => box_calls hX hs (cs := [(l, b)]) (n := n) (by show (boxB X g n (l, b) && true) = true; rw [Bool.and_true]; exact h) List.mem_cons_self hv w
  | .cut i m x y, l, h, v, hv, w => by
    have hc : chk X g n x (hiAt l i m) = true ∧ chk X g n y (loAt l i (m + 1)) = true := by
      unfold chk at h
      cases hx : chk X g n x (hiAt l i m) with
      | false => rw [hx] at h; cases h
      | true => rw [hx] at h; exact ⟨rfl, h⟩
    unfold evT
    by_cases hm : v.getD i 0 ≤ m
    · rw [if_pos hm]; exact tree_calls hX hs hc.1 (within_hi hv hm) w
    · rw [if_neg hm]; exact tree_calls hX hs hc.2 (within_lo hv (by omega)) w
end
def fT : Tr := .leaf false
def tR (next : Tr) : List Nat → Tr
  | [] => next
  | i :: l => .cut i (-1) fT (.cut i 65535 (tR next l) fT)
def tZ : List Nat → Tr
  | [] => .leaf true
  | i :: l => .cut i (-1) fT (.cut i 0 (tZ l) (.cut i 65535 (tR fT l) fT))
def l10 : List Nat := [3, 4, 5, 6, 7, 8, 9, 10, 11, 12]
def t0 : Tr := .cut 1 0 (.cut 2 0 (tZ l10) (tR fT l10)) (tR fT l10)
def t1 : Tr := .cut 0 0 t0 (tR (.leaf true) l10)
def tI : Tr := .cut 0 (-1) fT (.cut 0 2 (.cut 1 (-1) fT (.cut 1 200 (.cut 2 (-1) fT (.cut 2 136192 t1 fT)) fT)) fT)
def box13 : List (Int × Int) := List.replicate 13 (lo64, hi64)
noncomputable def X00 : M := ⟨mkC Tryz.prog, .e⟩
theorem x00_right : Right Tryz.prog X00 := ⟨mkC_enters Tryz.prog, (fun g o h => by unfold X00 at h; rw [T.get_e] at h; cases h), Tryz.checked.mixed⟩
theorem chk10 : chk X00 10 300 tI box13 = true := by as_aux_lemma => kernel_rfl
theorem chk12 : chk X00 12 300 tI box13 = true := by as_aux_lemma => kernel_rfl
def inodeOk (a0_0 : Int) (a0_1 : Int) (a0_2 : Int) (a0_3 : Int) (a0_4 : Int) (a0_5 : Int) (a0_6 : Int) (a0_7 : Int) (a0_8 : Int) (a0_9 : Int) (a0_10 : Int) (a0_11 : Int) (a0_12 : Int) : Bool := evT tI [a0_0, a0_1, a0_2, a0_3, a0_4, a0_5, a0_6, a0_7, a0_8, a0_9, a0_10, a0_11, a0_12]
def fits (x : Int) : Bool := decide (lo64 ≤ x) && decide (x ≤ hi64)
def fits13 (a0_0 : Int) (a0_1 : Int) (a0_2 : Int) (a0_3 : Int) (a0_4 : Int) (a0_5 : Int) (a0_6 : Int) (a0_7 : Int) (a0_8 : Int) (a0_9 : Int) (a0_10 : Int) (a0_11 : Int) (a0_12 : Int) : Bool := fits a0_0 && fits a0_1 && fits a0_2 && fits a0_3 && fits a0_4 && fits a0_5 && fits a0_6 && fits a0_7 && fits a0_8 && fits a0_9 && fits a0_10 && fits a0_11 && fits a0_12
theorem fits13_w {a0_0 a0_1 a0_2 a0_3 a0_4 a0_5 a0_6 a0_7 a0_8 a0_9 a0_10 a0_11 a0_12 : Int} (h : fits13 a0_0 a0_1 a0_2 a0_3 a0_4 a0_5 a0_6 a0_7 a0_8 a0_9 a0_10 a0_11 a0_12 = true) : Within box13 [a0_0, a0_1, a0_2, a0_3, a0_4, a0_5, a0_6, a0_7, a0_8, a0_9, a0_10, a0_11, a0_12] := by
  simp only [fits13, fits, Bool.and_eq_true, decide_eq_true_eq] at h
  obtain ⟨⟨⟨⟨⟨⟨⟨⟨⟨⟨⟨⟨h0, h1⟩, h2⟩, h3⟩, h4⟩, h5⟩, h6⟩, h7⟩, h8⟩, h9⟩, h10⟩, h11⟩, h12⟩ := h
  exact .cons h0.1 h0.2 (.cons h1.1 h1.2 (.cons h2.1 h2.2 (.cons h3.1 h3.2 (.cons h4.1 h4.2 (.cons h5.1 h5.2 (.cons h6.1 h6.2 (.cons h7.1 h7.2 (.cons h8.1 h8.2 (.cons h9.1 h9.2 (.cons h10.1 h10.2 (.cons h11.1 h11.2 (.cons h12.1 h12.2 (.nil)))))))))))))
theorem may10_calls (a0_0 : Int) (a0_1 : Int) (a0_2 : Int) (a0_3 : Int) (a0_4 : Int) (a0_5 : Int) (a0_6 : Int) (a0_7 : Int) (a0_8 : Int) (a0_9 : Int) (a0_10 : Int) (a0_11 : Int) (a0_12 : Int) (hf : fits13 a0_0 a0_1 a0_2 a0_3 a0_4 a0_5 a0_6 a0_7 a0_8 a0_9 a0_10 a0_11 a0_12 = true) (w : World) : Calls Tryz.prog 10 #[.agg #[.int .i64 a0_0, .int .i64 a0_1, .int .i64 a0_2, .int .i64 a0_3, .int .i64 a0_4, .int .i64 a0_5, .int .i64 a0_6, .int .i64 a0_7, .int .i64 a0_8, .int .i64 a0_9, .int .i64 a0_10, .int .i64 a0_11, .int .i64 a0_12]] w fun e w' => e = .returned (.bool (inodeOk a0_0 a0_1 a0_2 a0_3 a0_4 a0_5 a0_6 a0_7 a0_8 a0_9 a0_10 a0_11 a0_12)) ∧ Below w.heap.size w w' :=
  tree_calls x00_right (by as_aux_lemma => kernel_rfl) chk10 (fits13_w hf) w
theorem may12_calls (a0_0 : Int) (a0_1 : Int) (a0_2 : Int) (a0_3 : Int) (a0_4 : Int) (a0_5 : Int) (a0_6 : Int) (a0_7 : Int) (a0_8 : Int) (a0_9 : Int) (a0_10 : Int) (a0_11 : Int) (a0_12 : Int) (hf : fits13 a0_0 a0_1 a0_2 a0_3 a0_4 a0_5 a0_6 a0_7 a0_8 a0_9 a0_10 a0_11 a0_12 = true) (w : World) : Calls Tryz.prog 12 #[.agg #[.int .i64 a0_0, .int .i64 a0_1, .int .i64 a0_2, .int .i64 a0_3, .int .i64 a0_4, .int .i64 a0_5, .int .i64 a0_6, .int .i64 a0_7, .int .i64 a0_8, .int .i64 a0_9, .int .i64 a0_10, .int .i64 a0_11, .int .i64 a0_12]] w fun e w' => e = .returned (.bool (inodeOk a0_0 a0_1 a0_2 a0_3 a0_4 a0_5 a0_6 a0_7 a0_8 a0_9 a0_10 a0_11 a0_12)) ∧ Below w.heap.size w w' :=
  tree_calls x00_right (by as_aux_lemma => kernel_rfl) chk12 (fits13_w hf) w
end Go.Proofs.YtjgjcfeifhaanaaGreat.PQ
