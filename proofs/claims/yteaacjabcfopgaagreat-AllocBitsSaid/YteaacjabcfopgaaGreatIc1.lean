/-
  What Read and Write do where the bits stand in 1 block.
-/
import Derived.Test.YteaacjabcfopgaaGreatIb
import Derived.KernelRfl
set_option linter.unusedVariables false
set_option linter.unusedSimpArgs false
namespace Go.Proofs.YteaacjabcfopgaaGreat.Run
open Go Go.Proofs.YteaacjabcfopgaaGreat.Am Go.Proofs.YteaacjabcfopgaaGreat.Am.G Go.RowKit Go.Proofs Go.Proofs.YteaacjabcfopgaaGreat.PQ
set_option maxRecDepth 1000000
set_option maxHeartbeats 4000000
noncomputable section
def I_n1W : List Nat := [0, 1, 2, 5, 7, 9, 11, 13, 14, 15, 16, 17, 22, 23, 28, 29, 34, 35, 38, 39, 1082, 1083, 6299, 6300, 6532, 6533]
def Z_n1W (x : Nat → Nat) (a : Nat) : H := ⟨ofPairs [(0, j0), (1, .map [] 298), (2, j1), (5, j2), (7, j3), (9, j4), (11, j5), (13, .map [] 29), (14, .map [] 29), (15, j6), (16, j7), (17, lB [.ptr 16 0, i64 2] false), (22, j8), (23, lB [.ptr 22 0, i64 2] false), (28, j9), (29, lB [.ptr 28 0, i64 2] false), (34, j10), (35, lB [.ptr 34 0, i64 2] false), (38, j11), (39, j12), (1082, .map [] 0), (1083, j13), (6299, .map [(i64 a, .str (rowX (m8 x)), 0)] 1), (6300, j14), (6532, j15), (6533, rB x false)], 6534⟩
theorem r_n1W (x : Nat → Nat) : ∀ a : Nat, a < 8 → gcD I_n1W (runF X1 40 (startH (X1.C.fs.get 13) 13 [.ptr 6300 0, i64 a, .slice 6533 0 128 (.own 1)] (K0 x))) = .done (i64 0) (Z_n1W x a)
  | 0, _ => by as_aux_lemma => kernel_rfl
  | 1, _ => by as_aux_lemma => kernel_rfl
  | 2, _ => by as_aux_lemma => kernel_rfl
  | 3, _ => by as_aux_lemma => kernel_rfl
  | 4, _ => by as_aux_lemma => kernel_rfl
  | 5, _ => by as_aux_lemma => kernel_rfl
  | 6, _ => by as_aux_lemma => kernel_rfl
  | 7, _ => by as_aux_lemma => kernel_rfl
  | n + 8, h => absurd h (by omega)
theorem wr_n1W {w0 w : World} {Φ : Phi} {pJ : PB} {x : Nat → Nat} {bk : Nat} {a : Nat} (ha : a < 8) (hA : At w0 Φ (K0 x) w) (hJ : Φ 6300 = some pJ) (hB : Φ 6533 = some ⟨bk, 0, 128⟩) (h0 : ∀ i, 6534 ≤ i → Φ i = none) :
    Calls Tryz.prog 13 #[.pointer (some (pJ.addr 0)), .int .i64 (Int.ofNat a), .slice (some ⟨bk, 0, none⟩) 128 128] w (WrPost w0 Φ (W1 x (m8 x) a)) :=
  write_b hA hJ hB (r_n1W x a ha) h0 (Subs.sub (l := W1L x (m8 x) a) (by
    refine ?_
    repeat' (first | exact trivial | refine And.intro ?_ ?_)
    all_goals first | kernel_rfl | assumption | exact okBk_ok (by kernel_rfl)))
def I_n1o0 : List Nat := [0, 1, 2, 5, 7, 9, 11, 13, 14, 15, 16, 17, 22, 23, 28, 29, 34, 35, 38, 39, 1082, 1083, 6299, 6300, 6532, 6533, 6534]
def Z_n1o0 (bb : Blk) (x : Nat → Nat) (a : Nat) : H := ⟨ofPairs [(0, j0), (1, .map [] 298), (2, j1), (5, j2), (7, j3), (9, j4), (11, j5), (13, .map [] 29), (14, .map [] 29), (15, j6), (16, j7), (17, lB [.ptr 16 0, i64 2] false), (22, j8), (23, lB [.ptr 22 0, i64 2] false), (28, j9), (29, lB [.ptr 28 0, i64 2] false), (34, j10), (35, lB [.ptr 34 0, i64 2] false), (38, j11), (39, j12), (1082, .map [] 0), (1083, j13), (6299, .map [(i64 a, .str (rowX x), 0)] 1), (6300, j14), (6532, j15), (6533, bb), (6534, rB x true)], 6535⟩
theorem r_n1o0 (bb : Blk) (x : Nat → Nat) : ∀ a : Nat, a < 8 → gcD I_n1o0 (runF X1 38 (startH (X1.C.fs.get 17) 17 [.ptr 6300 0, i64 a] (K2 bb x a))) = .done (.tup [.slice 6534 0 128 (.own 1), i64 0]) (Z_n1o0 bb x a)
  | 0, _ => by as_aux_lemma => kernel_rfl
  | 1, _ => by as_aux_lemma => kernel_rfl
  | 2, _ => by as_aux_lemma => kernel_rfl
  | 3, _ => by as_aux_lemma => kernel_rfl
  | 4, _ => by as_aux_lemma => kernel_rfl
  | 5, _ => by as_aux_lemma => kernel_rfl
  | 6, _ => by as_aux_lemma => kernel_rfl
  | 7, _ => by as_aux_lemma => kernel_rfl
  | n + 8, h => absurd h (by omega)
theorem rd_n1o0 {w0 : World} {Φ : Phi} {pJ : PB} {bb : Blk} {x : Nat → Nat} {a : Nat} (ha : a < 8) (hbb : OkB 6534 bb) (hJ : Φ 6300 = some pJ) (h0 : ∀ i, 6534 ≤ i → Φ i = none) : Reads w0 Φ (.pointer (some (pJ.addr 0))) (K2 bb x a) (Int.ofNat a) x (K2 bb x a) :=
  reads_of x1_right x1_has17 hJ (r_n1o0 bb x a ha) (by as_aux_lemma => kernel_rfl) h0 (Subs.sub (l := (K2L bb x a)) (by
    refine ?_
    repeat' (first | exact trivial | refine And.intro ?_ ?_)
    all_goals first | kernel_rfl | assumption | exact okBk_ok (by kernel_rfl)))
def I_n1dr0 : List Nat := [0, 1, 2, 5, 7, 9, 11, 13, 14, 15, 16, 17, 22, 23, 28, 29, 34, 35, 38, 39, 1082, 1083, 6299, 6300, 6532, 6533, 6534, 6535, 6536, 6537, 6538, 6539]
def Z_n1dr0 (bb bm bt bx bw bo : Blk) (x : Nat → Nat) (a : Nat) : H := ⟨ofPairs [(0, j0), (1, .map [] 298), (2, j1), (5, j2), (7, j3), (9, j4), (11, j5), (13, .map [] 29), (14, .map [] 29), (15, j6), (16, j7), (17, lB [.ptr 16 0, i64 2] false), (22, j8), (23, lB [.ptr 22 0, i64 2] false), (28, j9), (29, lB [.ptr 28 0, i64 2] false), (34, j10), (35, lB [.ptr 34 0, i64 2] false), (38, j11), (39, j12), (1082, .map [] 0), (1083, j13), (6299, .map [(i64 a, .str (rowX x), 0)] 1), (6300, j14), (6532, j15), (6533, bb), (6534, bm), (6535, bt), (6536, bx), (6537, bw), (6538, bo), (6539, rB x true)], 6540⟩
theorem r_n1dr0 (bb bm bt bx bw bo : Blk) (x : Nat → Nat) : ∀ a : Nat, a < 8 → gcD I_n1dr0 (runF X1 38 (startH (X1.C.fs.get 17) 17 [.ptr 6300 0, i64 a] (K3 bb bm bt bx bw bo x a))) = .done (.tup [.slice 6539 0 128 (.own 1), i64 0]) (Z_n1dr0 bb bm bt bx bw bo x a)
  | 0, _ => by as_aux_lemma => kernel_rfl
  | 1, _ => by as_aux_lemma => kernel_rfl
  | 2, _ => by as_aux_lemma => kernel_rfl
  | 3, _ => by as_aux_lemma => kernel_rfl
  | 4, _ => by as_aux_lemma => kernel_rfl
  | 5, _ => by as_aux_lemma => kernel_rfl
  | 6, _ => by as_aux_lemma => kernel_rfl
  | 7, _ => by as_aux_lemma => kernel_rfl
  | n + 8, h => absurd h (by omega)
theorem rd_n1dr0 {w0 : World} {Φ : Phi} {pJ : PB} {bb bm bt bx bw bo : Blk} {x : Nat → Nat} {a : Nat} (ha : a < 8) (hbb : OkB 6539 bb) (hbm : OkB 6539 bm) (hbt : OkB 6539 bt) (hbx : OkB 6539 bx) (hbw : OkB 6539 bw) (hbo : OkB 6539 bo) (hJ : Φ 6300 = some pJ) (h0 : ∀ i, 6539 ≤ i → Φ i = none) : Reads w0 Φ (.pointer (some (pJ.addr 0))) (K3 bb bm bt bx bw bo x a) (Int.ofNat a) x (K3 bb bm bt bx bw bo x a) :=
  reads_of x1_right x1_has17 hJ (r_n1dr0 bb bm bt bx bw bo x a ha) (by as_aux_lemma => kernel_rfl) h0 (Subs.sub (l := (K3L bb bm bt bx bw bo x a)) (by
    refine ?_
    repeat' (first | exact trivial | refine And.intro ?_ ?_)
    all_goals first | kernel_rfl | assumption | exact okBk_ok (by kernel_rfl)))
def I_n1dw0 : List Nat := [0, 1, 2, 5, 7, 9, 11, 13, 14, 15, 16, 17, 22, 23, 28, 29, 34, 35, 38, 39, 1082, 1083, 6299, 6300, 6532, 6533, 6534, 6535, 6536, 6537, 6538]
def Z_n1dw0 (bb bm bt bx bw bo : Blk) (z : Nat → Nat) (a : Nat) : H := ⟨ofPairs [(0, j0), (1, .map [] 298), (2, j1), (5, j2), (7, j3), (9, j4), (11, j5), (13, .map [] 29), (14, .map [] 29), (15, j6), (16, j7), (17, lB [.ptr 16 0, i64 2] false), (22, j8), (23, lB [.ptr 22 0, i64 2] false), (28, j9), (29, lB [.ptr 28 0, i64 2] false), (34, j10), (35, lB [.ptr 34 0, i64 2] false), (38, j11), (39, j12), (1082, .map [] 0), (1083, j13), (6299, .map [(i64 a, .str (rowX (m8 z)), 0)] 1), (6300, j14), (6532, j15), (6533, bb), (6534, bm), (6535, bt), (6536, bx), (6537, bw), (6538, bo)], 6540⟩
def Q_n1dw0 (bb bm bt bx bw bo : Blk) (x z : Nat → Nat) (a : Nat) : H := ⟨ofPairs [(0, j0), (1, .map [] 298), (2, j1), (5, j2), (7, j3), (9, j4), (11, j5), (13, .map [] 29), (14, .map [] 29), (15, j6), (16, j7), (17, lB [.ptr 16 0, i64 2] false), (22, j8), (23, lB [.ptr 22 0, i64 2] false), (28, j9), (29, lB [.ptr 28 0, i64 2] false), (34, j10), (35, lB [.ptr 34 0, i64 2] false), (38, j11), (39, j12), (1082, .map [] 0), (1083, j13), (6299, .map [(i64 a, .str (rowX x), 0)] 1), (6300, j14), (6532, j15), (6533, bb), (6534, bm), (6535, bt), (6536, bx), (6537, bw), (6538, bo), (6539, rB z false)], 6540⟩
theorem r_n1dw0 (bb bm bt bx bw bo : Blk) (x z : Nat → Nat) : ∀ a : Nat, a < 8 → gcD I_n1dw0 (runF X1 40 (startH (X1.C.fs.get 13) 13 [.ptr 6300 0, i64 a, .slice 6539 0 128 (.own 1)] (Q_n1dw0 bb bm bt bx bw bo x z a))) = .done (i64 0) (Z_n1dw0 bb bm bt bx bw bo z a)
  | 0, _ => by as_aux_lemma => kernel_rfl
  | 1, _ => by as_aux_lemma => kernel_rfl
  | 2, _ => by as_aux_lemma => kernel_rfl
  | 3, _ => by as_aux_lemma => kernel_rfl
  | 4, _ => by as_aux_lemma => kernel_rfl
  | 5, _ => by as_aux_lemma => kernel_rfl
  | 6, _ => by as_aux_lemma => kernel_rfl
  | 7, _ => by as_aux_lemma => kernel_rfl
  | n + 8, h => absurd h (by omega)
theorem wr_n1dw0 {w0 : World} {Φ : Phi} {pJ : PB} {bb bm bt bx bw bo : Blk} {x z : Nat → Nat} {a : Nat} (ha : a < 8) (hbb : OkB 6539 bb) (hbm : OkB 6539 bm) (hbt : OkB 6539 bt) (hbx : OkB 6539 bx) (hbw : OkB 6539 bw) (hbo : OkB 6539 bo) (hJ : Φ 6300 = some pJ) (h0 : ∀ i, 6539 ≤ i → Φ i = none) : Writes w0 Φ (.pointer (some (pJ.addr 0))) (K3 bb bm bt bx bw bo x a) (Int.ofNat a) z (K3 bb bm bt bx bw bo (m8 z) a) :=
  writes_of2 (nx := 6539) (h1 := (Z_n1dw0 bb bm bt bx bw bo z a)) hJ rfl (hw := (Q_n1dw0 bb bm bt bx bw bo x z a)) (by as_aux_lemma => kernel_rfl) (r_n1dw0 bb bm bt bx bw bo x z a ha) h0 (Subs.sub (l := (K3L bb bm bt bx bw bo (m8 z) a)) (by
    refine ?_
    repeat' (first | exact trivial | refine And.intro ?_ ?_)
    all_goals first | kernel_rfl | assumption | exact okBk_ok (by kernel_rfl)))
end
end Go.Proofs.YteaacjabcfopgaaGreat.Run
