/-
  What Read and Write do where the bits stand in 2 blocks.
-/
import Derived.Test.YteaacjabcfopgaaGreatIb
import Derived.KernelRfl
set_option linter.unusedVariables false
set_option linter.unusedSimpArgs false
namespace Go.Proofs.YteaacjabcfopgaaGreat.Run
open Go Go.Proofs.YteaacjabcfopgaaGreat.Am Go.Proofs.YteaacjabcfopgaaGreat.Am.G Go.RowKit Go.Proofs Go.Proofs.YteaacjabcfopgaaGreat.PQ
set_option maxRecDepth 1000000
set_option maxHeartbeats 4000000
noncomputable section
def I_n2W : List Nat := [0, 1, 2, 5, 7, 9, 11, 13, 14, 15, 16, 17, 22, 23, 28, 29, 34, 35, 38, 39, 1082, 1083, 6299, 6300, 6532, 6533]
def Z_n2W (x : Nat → Nat) (a : Nat) : H := ⟨ofPairs [(0, j0), (1, .map [] 298), (2, j1), (5, j2), (7, j3), (9, j4), (11, j5), (13, .map [] 29), (14, .map [] 29), (15, j6), (16, j7), (17, lB [.ptr 16 0, i64 2] false), (22, j8), (23, lB [.ptr 22 0, i64 2] false), (28, j9), (29, lB [.ptr 28 0, i64 2] false), (34, j10), (35, lB [.ptr 34 0, i64 2] false), (38, j11), (39, j12), (1082, .map [] 0), (1083, j13), (6299, .map [(i64 (a + 1), .str (rowX (m8 x)), 0)] 1), (6300, j14), (6532, j15), (6533, rB x false)], 6534⟩
theorem r_n2W (x : Nat → Nat) : ∀ a : Nat, a < 8 → gcD I_n2W (runF X1 40 (startH (X1.C.fs.get 13) 13 [.ptr 6300 0, i64 (a + 1), .slice 6533 0 128 (.own 1)] (K0 x))) = .done (i64 0) (Z_n2W x a)
  | 0, _ => by as_aux_lemma => kernel_rfl
  | 1, _ => by as_aux_lemma => kernel_rfl
  | 2, _ => by as_aux_lemma => kernel_rfl
  | 3, _ => by as_aux_lemma => kernel_rfl
  | 4, _ => by as_aux_lemma => kernel_rfl
  | 5, _ => by as_aux_lemma => kernel_rfl
  | 6, _ => by as_aux_lemma => kernel_rfl
  | 7, _ => by as_aux_lemma => kernel_rfl
  | n + 8, h => absurd h (by omega)
theorem wr_n2W {w0 w : World} {Φ : Phi} {pJ : PB} {x : Nat → Nat} {bk : Nat} {a : Nat} (ha : a < 8) (hA : At w0 Φ (K0 x) w) (hJ : Φ 6300 = some pJ) (hB : Φ 6533 = some ⟨bk, 0, 128⟩) (h0 : ∀ i, 6534 ≤ i → Φ i = none) :
    Calls Tryz.prog 13 #[.pointer (some (pJ.addr 0)), .int .i64 (Int.ofNat (a + 1)), .slice (some ⟨bk, 0, none⟩) 128 128] w (WrPost w0 Φ (W2 x (m8 x) a)) :=
  write_b hA hJ hB (r_n2W x a ha) h0 (Subs.sub (l := W2L x (m8 x) a) (by
    refine ?_
    repeat' (first | exact trivial | refine And.intro ?_ ?_)
    all_goals first | kernel_rfl | assumption | exact okBk_ok (by kernel_rfl)))
def I_n2o0 : List Nat := [0, 1, 2, 5, 7, 9, 11, 13, 14, 15, 16, 17, 22, 23, 28, 29, 34, 35, 38, 39, 1082, 1083, 6299, 6300, 6532, 6533, 6549, 6552, 6553]
def Z_n2o0 (bb : Blk) (x : Nat → Nat) (a : Nat) : H := ⟨ofPairs [(0, j0), (1, .map [] 298), (2, j16), (5, j2), (7, j3), (9, j4), (11, j5), (13, .map [] 29), (14, .map [] 29), (15, j6), (16, j7), (17, lB [.ptr 16 0, i64 2] false), (22, j8), (23, lB [.ptr 22 0, i64 2] false), (28, j9), (29, lB [.ptr 28 0, i64 2] false), (34, j10), (35, lB [.ptr 34 0, i64 2] false), (38, j11), (39, j12), (1082, .map [(i64 a, .ptr 6549 0, 0)] 1), (1083, q0), (6299, .map [(i64 (a + 1), .str (rowX x), 0)] 1), (6300, j14), (6532, j15), (6533, bb), (6549, lB [i64 a, sA 128 0, fV, i64 0] false), (6552, lB [.ptr 6549 0] false), (6553, bB 128 0 true)], 6554⟩
theorem r_n2o0 (bb : Blk) (x : Nat → Nat) : ∀ a : Nat, a < 8 → gcD I_n2o0 (runF X0 287 (startH (X0.C.fs.get 17) 17 [.ptr 6300 0, i64 a] (K6 bb x a))) = .done (.tup [.slice 6553 0 128 (.own 1), i64 0]) (Z_n2o0 bb x a)
  | 0, _ => by as_aux_lemma => kernel_rfl
  | 1, _ => by as_aux_lemma => kernel_rfl
  | 2, _ => by as_aux_lemma => kernel_rfl
  | 3, _ => by as_aux_lemma => kernel_rfl
  | 4, _ => by as_aux_lemma => kernel_rfl
  | 5, _ => by as_aux_lemma => kernel_rfl
  | 6, _ => by as_aux_lemma => kernel_rfl
  | 7, _ => by as_aux_lemma => kernel_rfl
  | n + 8, h => absurd h (by omega)
theorem rd_n2o0 {w0 : World} {Φ : Phi} {pJ : PB} {bb : Blk} {x : Nat → Nat} {a : Nat} (ha : a < 8) (hbb : OkB 6553 bb) (hJ : Φ 6300 = some pJ) (h0 : ∀ i, 6553 ≤ i → Φ i = none) : Reads w0 Φ (.pointer (some (pJ.addr 0))) (K6 bb x a) (Int.ofNat a) (fun _ => 0) (K7 bb x a) :=
  reads_of x0_right x0_has17 hJ (r_n2o0 bb x a ha) (by as_aux_lemma => kernel_rfl) h0 (Subs.sub (l := (K7L bb x a)) (by
    refine ?_
    repeat' (first | exact trivial | refine And.intro ?_ ?_)
    all_goals first | kernel_rfl | assumption | exact okBk_ok (by kernel_rfl)))
def I_n2o1 : List Nat := [0, 1, 2, 5, 7, 9, 11, 13, 14, 15, 16, 17, 22, 23, 28, 29, 34, 35, 38, 39, 1082, 1083, 6299, 6300, 6532, 6533, 6549, 6552, 6553]
def Z_n2o1 (bb : Blk) (x : Nat → Nat) (a : Nat) : H := ⟨ofPairs [(0, j0), (1, .map [] 298), (2, j16), (5, j2), (7, j3), (9, j4), (11, j5), (13, .map [] 29), (14, .map [] 29), (15, j6), (16, j7), (17, lB [.ptr 16 0, i64 2] false), (22, j8), (23, lB [.ptr 22 0, i64 2] false), (28, j9), (29, lB [.ptr 28 0, i64 2] false), (34, j10), (35, lB [.ptr 34 0, i64 2] false), (38, j11), (39, j12), (1082, .map [(i64 a, .ptr 6549 0, 0)] 1), (1083, q0), (6299, .map [(i64 (a + 1), .str (rowX x), 0)] 1), (6300, j14), (6532, j15), (6533, bb), (6549, lB [i64 a, sA 128 0, fV, i64 0] false), (6552, lB [.ptr 6549 0] false), (6553, rB x true)], 6554⟩
theorem r_n2o1 (bb : Blk) (x : Nat → Nat) : ∀ a : Nat, a < 8 → gcD I_n2o1 (runF X1 38 (startH (X1.C.fs.get 17) 17 [.ptr 6300 0, i64 (a + 1)] (K7 bb x a))) = .done (.tup [.slice 6553 0 128 (.own 1), i64 0]) (Z_n2o1 bb x a)
  | 0, _ => by as_aux_lemma => kernel_rfl
  | 1, _ => by as_aux_lemma => kernel_rfl
  | 2, _ => by as_aux_lemma => kernel_rfl
  | 3, _ => by as_aux_lemma => kernel_rfl
  | 4, _ => by as_aux_lemma => kernel_rfl
  | 5, _ => by as_aux_lemma => kernel_rfl
  | 6, _ => by as_aux_lemma => kernel_rfl
  | 7, _ => by as_aux_lemma => kernel_rfl
  | n + 8, h => absurd h (by omega)
theorem rd_n2o1 {w0 : World} {Φ : Phi} {pJ : PB} {bb : Blk} {x : Nat → Nat} {a : Nat} (ha : a < 8) (hbb : OkB 6553 bb) (hJ : Φ 6300 = some pJ) (h0 : ∀ i, 6553 ≤ i → Φ i = none) : Reads w0 Φ (.pointer (some (pJ.addr 0))) (K7 bb x a) (Int.ofNat (a + 1)) x (K7 bb x a) :=
  reads_of x1_right x1_has17 hJ (r_n2o1 bb x a ha) (by as_aux_lemma => kernel_rfl) h0 (Subs.sub (l := (K7L bb x a)) (by
    refine ?_
    repeat' (first | exact trivial | refine And.intro ?_ ?_)
    all_goals first | kernel_rfl | assumption | exact okBk_ok (by kernel_rfl)))
def I_n2a : List Nat := [0, 1, 2, 5, 7, 9, 11, 13, 14, 15, 16, 17, 22, 23, 28, 29, 34, 35, 38, 39, 1082, 1083, 6299, 6300, 6532, 6533, 6549, 6553, 6554, 6555, 6556, 6559, 6560]
def Z_n2a (bb bm bt bx bw : Blk) (x : Nat → Nat) (a : Nat) : H := ⟨ofPairs [(0, j0), (1, .map [] 298), (2, j16), (5, j2), (7, j3), (9, j4), (11, j5), (13, .map [] 29), (14, .map [] 29), (15, j6), (16, j7), (17, lB [.ptr 16 0, i64 2] false), (22, j8), (23, lB [.ptr 22 0, i64 2] false), (28, j9), (29, lB [.ptr 28 0, i64 2] false), (34, j10), (35, lB [.ptr 34 0, i64 2] false), (38, j11), (39, j12), (1082, .map [(i64 a, .ptr 6549 0, 0)] 1), (1083, q1), (6299, .map [(i64 (a + 1), .str (rowX x), 0)] 1), (6300, j14), (6532, j15), (6533, bb), (6549, lB [i64 a, sA 128 0, fV, i64 0] false), (6553, bm), (6554, bt), (6555, bx), (6556, bw), (6559, lB [.ptr 6549 0] true), (6560, bB 128 0 true)], 6561⟩
theorem r_n2a (bb bm bt bx bw : Blk) (x : Nat → Nat) : ∀ a : Nat, a < 8 → gcD I_n2a (runF X1 104 (startH (X1.C.fs.get 17) 17 [.ptr 6300 0, i64 a] (K8 bb bm bt bx bw x a))) = .done (.tup [.slice 6560 0 128 (.own 1), i64 0]) (Z_n2a bb bm bt bx bw x a)
  | 0, _ => by as_aux_lemma => kernel_rfl
  | 1, _ => by as_aux_lemma => kernel_rfl
  | 2, _ => by as_aux_lemma => kernel_rfl
  | 3, _ => by as_aux_lemma => kernel_rfl
  | 4, _ => by as_aux_lemma => kernel_rfl
  | 5, _ => by as_aux_lemma => kernel_rfl
  | 6, _ => by as_aux_lemma => kernel_rfl
  | 7, _ => by as_aux_lemma => kernel_rfl
  | n + 8, h => absurd h (by omega)
theorem rd_n2a {w0 : World} {Φ : Phi} {pJ : PB} {bb bm bt bx bw : Blk} {x : Nat → Nat} {a : Nat} (ha : a < 8) (hbb : OkB 6557 bb) (hbm : OkB 6557 bm) (hbt : OkB 6557 bt) (hbx : OkB 6557 bx) (hbw : OkB 6557 bw) (hJ : Φ 6300 = some pJ) (hj : Φ 6557 = none) (h0 : ∀ i, 6558 ≤ i → Φ i = none) : Reads w0 Φ (.pointer (some (pJ.addr 0))) (K8 bb bm bt bx bw x a) (Int.ofNat a) (fun _ => 0) (K9 bb bm bt bx bw x a) :=
  reads_mv x1_right x1_has17 hJ (r_n2a bb bm bt bx bw x a ha) (by as_aux_lemma => kernel_rfl) hj h0 (Moves.ofL (L := (K9L bb bm bt bx bw x a)) (c := 1083) (j := 6557) (i := 6559) (m := 6557) (nx := 6558) (B := lB [.ptr 6549 0] true) (a := .ptr 15 0) (b := i64 30) (d := .map 1082) (o := 0) (l := 1) (cap := .own 1) rfl (by kernel_rfl) (okBk_ok (by kernel_rfl)) (by kernel_rfl) (by kernel_rfl) rfl rfl rfl (by
    refine ?_
    repeat' (first | exact trivial | refine And.intro ?_ ?_)
    all_goals first | rfl | exact Or.inl rfl | exact Or.inr (Or.inl ⟨rfl, rfl⟩) | refine Or.inr (Or.inr ⟨rfl, ?_, ?_⟩)
    all_goals first | kernel_rfl | assumption | exact okBk_ok (by kernel_rfl)) (by decide))
def I_n2a1 : List Nat := [0, 1, 2, 5, 7, 9, 11, 13, 14, 15, 16, 17, 22, 23, 28, 29, 34, 35, 38, 39, 1082, 1083, 6299, 6300, 6532, 6533, 6549, 6553, 6554, 6555, 6556, 6560, 6561]
def Z_n2a1 (bb bm bt bx bw : Blk) (x : Nat → Nat) (a : Nat) : H := ⟨ofPairs [(0, j0), (1, .map [] 298), (2, j16), (5, j2), (7, j3), (9, j4), (11, j5), (13, .map [] 29), (14, .map [] 29), (15, j6), (16, j7), (17, lB [.ptr 16 0, i64 2] false), (22, j8), (23, lB [.ptr 22 0, i64 2] false), (28, j9), (29, lB [.ptr 28 0, i64 2] false), (34, j10), (35, lB [.ptr 34 0, i64 2] false), (38, j11), (39, j12), (1082, .map [(i64 a, .ptr 6549 0, 0)] 1), (1083, q2), (6299, .map [(i64 (a + 1), .str (rowX x), 0)] 1), (6300, j14), (6532, j15), (6533, bb), (6549, lB [i64 a, sA 128 0, fV, i64 0] false), (6553, bm), (6554, bt), (6555, bx), (6556, bw), (6560, lB [.ptr 6549 0] true), (6561, bB 128 0 true)], 6562⟩
theorem r_n2a1 (bb bm bt bx bw : Blk) (x : Nat → Nat) : ∀ a : Nat, a < 8 → gcD I_n2a1 (runF X1 104 (startH (X1.C.fs.get 17) 17 [.ptr 6300 0, i64 a] (K9 bb bm bt bx bw x a))) = .done (.tup [.slice 6561 0 128 (.own 1), i64 0]) (Z_n2a1 bb bm bt bx bw x a)
  | 0, _ => by as_aux_lemma => kernel_rfl
  | 1, _ => by as_aux_lemma => kernel_rfl
  | 2, _ => by as_aux_lemma => kernel_rfl
  | 3, _ => by as_aux_lemma => kernel_rfl
  | 4, _ => by as_aux_lemma => kernel_rfl
  | 5, _ => by as_aux_lemma => kernel_rfl
  | 6, _ => by as_aux_lemma => kernel_rfl
  | 7, _ => by as_aux_lemma => kernel_rfl
  | n + 8, h => absurd h (by omega)
theorem rd_n2a1 {w0 : World} {Φ : Phi} {pJ : PB} {bb bm bt bx bw : Blk} {x : Nat → Nat} {a : Nat} (ha : a < 8) (hbb : OkB 6557 bb) (hbm : OkB 6557 bm) (hbt : OkB 6557 bt) (hbx : OkB 6557 bx) (hbw : OkB 6557 bw) (hJ : Φ 6300 = some pJ) (hj : Φ 6557 = none) (h0 : ∀ i, 6558 ≤ i → Φ i = none) : Reads w0 Φ (.pointer (some (pJ.addr 0))) (K9 bb bm bt bx bw x a) (Int.ofNat a) (fun _ => 0) (K9 bb bm bt bx bw x a) :=
  reads_mv x1_right x1_has17 hJ (r_n2a1 bb bm bt bx bw x a ha) (by as_aux_lemma => kernel_rfl) hj h0 (Moves.ofL (L := (K9L bb bm bt bx bw x a)) (c := 1083) (j := 6557) (i := 6560) (m := 6557) (nx := 6558) (B := lB [.ptr 6549 0] true) (a := .ptr 15 0) (b := i64 30) (d := .map 1082) (o := 0) (l := 1) (cap := .own 1) rfl (by kernel_rfl) (okBk_ok (by kernel_rfl)) (by kernel_rfl) (by kernel_rfl) rfl rfl rfl (by
    refine ?_
    repeat' (first | exact trivial | refine And.intro ?_ ?_)
    all_goals first | rfl | exact Or.inl rfl | exact Or.inr (Or.inl ⟨rfl, rfl⟩) | refine Or.inr (Or.inr ⟨rfl, ?_, ?_⟩)
    all_goals first | kernel_rfl | assumption | exact okBk_ok (by kernel_rfl)) (by decide))
def I_n2w : List Nat := [0, 1, 2, 5, 7, 9, 11, 13, 14, 15, 16, 17, 22, 23, 28, 29, 34, 35, 38, 39, 1082, 1083, 6299, 6300, 6532, 6533, 6549, 6553, 6554, 6555, 6556, 6557]
def Z_n2w (bb bm bt bx bw : Blk) (x y : Nat → Nat) (a : Nat) : H := ⟨ofPairs [(0, j0), (1, .map [] 298), (2, j16), (5, j2), (7, j3), (9, j4), (11, j5), (13, .map [] 29), (14, .map [] 29), (15, j6), (16, j7), (17, lB [.ptr 16 0, i64 2] false), (22, j8), (23, lB [.ptr 22 0, i64 2] false), (28, j9), (29, lB [.ptr 28 0, i64 2] false), (34, j10), (35, lB [.ptr 34 0, i64 2] false), (38, j11), (39, j12), (1082, .map [(i64 a, .ptr 6549 0, 0)] 1), (1083, j18), (6299, .map [(i64 (a + 1), .str (rowX x), 0), (i64 a, .str (rowX (m8 y)), 1)] 2), (6300, j14), (6532, j15), (6533, bb), (6549, lB [i64 a, sA 128 0, fV, i64 0] false), (6553, bm), (6554, bt), (6555, bx), (6556, bw), (6557, lB [.ptr 6549 0] true)], 6559⟩
def Q_n2w (bb bm bt bx bw : Blk) (x y : Nat → Nat) (a : Nat) : H := ⟨ofPairs [(0, j0), (1, .map [] 298), (2, j16), (5, j2), (7, j3), (9, j4), (11, j5), (13, .map [] 29), (14, .map [] 29), (15, j6), (16, j7), (17, lB [.ptr 16 0, i64 2] false), (22, j8), (23, lB [.ptr 22 0, i64 2] false), (28, j9), (29, lB [.ptr 28 0, i64 2] false), (34, j10), (35, lB [.ptr 34 0, i64 2] false), (38, j11), (39, j12), (1082, .map [(i64 a, .ptr 6549 0, 0)] 1), (1083, j18), (6299, .map [(i64 (a + 1), .str (rowX x), 0)] 1), (6300, j14), (6532, j15), (6533, bb), (6549, lB [i64 a, sA 128 0, fV, i64 0] false), (6553, bm), (6554, bt), (6555, bx), (6556, bw), (6557, lB [.ptr 6549 0] true), (6558, rB y false)], 6559⟩
theorem r_n2w (bb bm bt bx bw : Blk) (x y : Nat → Nat) : ∀ a : Nat, a < 8 → gcD I_n2w (runF X1 40 (startH (X1.C.fs.get 13) 13 [.ptr 6300 0, i64 a, .slice 6558 0 128 (.own 1)] (Q_n2w bb bm bt bx bw x y a))) = .done (i64 0) (Z_n2w bb bm bt bx bw x y a)
  | 0, _ => by as_aux_lemma => kernel_rfl
  | 1, _ => by as_aux_lemma => kernel_rfl
  | 2, _ => by as_aux_lemma => kernel_rfl
  | 3, _ => by as_aux_lemma => kernel_rfl
  | 4, _ => by as_aux_lemma => kernel_rfl
  | 5, _ => by as_aux_lemma => kernel_rfl
  | 6, _ => by as_aux_lemma => kernel_rfl
  | 7, _ => by as_aux_lemma => kernel_rfl
  | n + 8, h => absurd h (by omega)
theorem wr_n2w {w0 : World} {Φ : Phi} {pJ : PB} {bb bm bt bx bw : Blk} {x y : Nat → Nat} {a : Nat} (ha : a < 8) (hbb : OkB 6558 bb) (hbm : OkB 6558 bm) (hbt : OkB 6558 bt) (hbx : OkB 6558 bx) (hbw : OkB 6558 bw) (hJ : Φ 6300 = some pJ) (h0 : ∀ i, 6558 ≤ i → Φ i = none) : Writes w0 Φ (.pointer (some (pJ.addr 0))) (K9 bb bm bt bx bw x a) (Int.ofNat a) y (K10 bb bm bt bx bw x (m8 y) a) :=
  writes_of2 (nx := 6558) (h1 := (Z_n2w bb bm bt bx bw x y a)) hJ rfl (hw := (Q_n2w bb bm bt bx bw x y a)) (by as_aux_lemma => kernel_rfl) (r_n2w bb bm bt bx bw x y a ha) h0 (Subs.sub (l := (K10L bb bm bt bx bw x (m8 y) a)) (by
    refine ?_
    repeat' (first | exact trivial | refine And.intro ?_ ?_)
    all_goals first | kernel_rfl | assumption | exact okBk_ok (by kernel_rfl)))
def I_n2f1 : List Nat := [0, 1, 2, 5, 7, 9, 11, 13, 14, 15, 16, 17, 22, 23, 28, 29, 34, 35, 38, 39, 1082, 1083, 6299, 6300, 6532, 6533, 6549, 6553, 6554, 6555, 6556, 6557, 6558]
def Z_n2f1 (bb bm bt bx bw : Blk) (x : Nat → Nat) (a : Nat) : H := ⟨ofPairs [(0, j0), (1, .map [] 298), (2, j16), (5, j2), (7, j3), (9, j4), (11, j5), (13, .map [] 29), (14, .map [] 29), (15, j6), (16, j7), (17, lB [.ptr 16 0, i64 2] false), (22, j8), (23, lB [.ptr 22 0, i64 2] false), (28, j9), (29, lB [.ptr 28 0, i64 2] false), (34, j10), (35, lB [.ptr 34 0, i64 2] false), (38, j11), (39, j12), (1082, .map [(i64 a, .ptr 6549 0, 0)] 1), (1083, j18), (6299, .map [(i64 (a + 1), .str (rowX x), 0)] 1), (6300, j14), (6532, j15), (6533, bb), (6549, lB [i64 a, sA 128 0, fV, i64 0] false), (6553, bm), (6554, bt), (6555, bx), (6556, bw), (6557, lB [.ptr 6549 0] true), (6558, rB x true)], 6559⟩
theorem r_n2f1 (bb bm bt bx bw : Blk) (x : Nat → Nat) : ∀ a : Nat, a < 8 → gcD I_n2f1 (runF X1 38 (startH (X1.C.fs.get 17) 17 [.ptr 6300 0, i64 (a + 1)] (K9 bb bm bt bx bw x a))) = .done (.tup [.slice 6558 0 128 (.own 1), i64 0]) (Z_n2f1 bb bm bt bx bw x a)
  | 0, _ => by as_aux_lemma => kernel_rfl
  | 1, _ => by as_aux_lemma => kernel_rfl
  | 2, _ => by as_aux_lemma => kernel_rfl
  | 3, _ => by as_aux_lemma => kernel_rfl
  | 4, _ => by as_aux_lemma => kernel_rfl
  | 5, _ => by as_aux_lemma => kernel_rfl
  | 6, _ => by as_aux_lemma => kernel_rfl
  | 7, _ => by as_aux_lemma => kernel_rfl
  | n + 8, h => absurd h (by omega)
theorem rd_n2f1 {w0 : World} {Φ : Phi} {pJ : PB} {bb bm bt bx bw : Blk} {x : Nat → Nat} {a : Nat} (ha : a < 8) (hbb : OkB 6558 bb) (hbm : OkB 6558 bm) (hbt : OkB 6558 bt) (hbx : OkB 6558 bx) (hbw : OkB 6558 bw) (hJ : Φ 6300 = some pJ) (h0 : ∀ i, 6558 ≤ i → Φ i = none) : Reads w0 Φ (.pointer (some (pJ.addr 0))) (K9 bb bm bt bx bw x a) (Int.ofNat (a + 1)) x (K9 bb bm bt bx bw x a) :=
  reads_of x1_right x1_has17 hJ (r_n2f1 bb bm bt bx bw x a ha) (by as_aux_lemma => kernel_rfl) h0 (Subs.sub (l := (K9L bb bm bt bx bw x a)) (by
    refine ?_
    repeat' (first | exact trivial | refine And.intro ?_ ?_)
    all_goals first | kernel_rfl | assumption | exact okBk_ok (by kernel_rfl)))
def I_n2dr0 : List Nat := [0, 1, 2, 5, 7, 9, 11, 13, 14, 15, 16, 17, 22, 23, 28, 29, 34, 35, 38, 39, 1082, 1083, 6299, 6300, 6532, 6533, 6549, 6553, 6554, 6555, 6556, 6557, 6558, 6559]
def Z_n2dr0 (bb bm bt bx bw bo : Blk) (x y : Nat → Nat) (a : Nat) : H := ⟨ofPairs [(0, j0), (1, .map [] 298), (2, j16), (5, j2), (7, j3), (9, j4), (11, j5), (13, .map [] 29), (14, .map [] 29), (15, j6), (16, j7), (17, lB [.ptr 16 0, i64 2] false), (22, j8), (23, lB [.ptr 22 0, i64 2] false), (28, j9), (29, lB [.ptr 28 0, i64 2] false), (34, j10), (35, lB [.ptr 34 0, i64 2] false), (38, j11), (39, j12), (1082, .map [(i64 a, .ptr 6549 0, 0)] 1), (1083, j18), (6299, .map [(i64 (a + 1), .str (rowX x), 0), (i64 a, .str (rowX y), 1)] 2), (6300, j14), (6532, j15), (6533, bb), (6549, lB [i64 a, sA 128 0, fV, i64 0] false), (6553, bm), (6554, bt), (6555, bx), (6556, bw), (6557, lB [.ptr 6549 0] true), (6558, bo), (6559, rB y true)], 6560⟩
theorem r_n2dr0 (bb bm bt bx bw bo : Blk) (x y : Nat → Nat) : ∀ a : Nat, a < 8 → gcD I_n2dr0 (runF X1 38 (startH (X1.C.fs.get 17) 17 [.ptr 6300 0, i64 a] (K11 bb bm bt bx bw bo x y a))) = .done (.tup [.slice 6559 0 128 (.own 1), i64 0]) (Z_n2dr0 bb bm bt bx bw bo x y a)
  | 0, _ => by as_aux_lemma => kernel_rfl
  | 1, _ => by as_aux_lemma => kernel_rfl
  | 2, _ => by as_aux_lemma => kernel_rfl
  | 3, _ => by as_aux_lemma => kernel_rfl
  | 4, _ => by as_aux_lemma => kernel_rfl
  | 5, _ => by as_aux_lemma => kernel_rfl
  | 6, _ => by as_aux_lemma => kernel_rfl
  | 7, _ => by as_aux_lemma => kernel_rfl
  | n + 8, h => absurd h (by omega)
theorem rd_n2dr0 {w0 : World} {Φ : Phi} {pJ : PB} {bb bm bt bx bw bo : Blk} {x y : Nat → Nat} {a : Nat} (ha : a < 8) (hbb : OkB 6559 bb) (hbm : OkB 6559 bm) (hbt : OkB 6559 bt) (hbx : OkB 6559 bx) (hbw : OkB 6559 bw) (hbo : OkB 6559 bo) (hJ : Φ 6300 = some pJ) (h0 : ∀ i, 6559 ≤ i → Φ i = none) : Reads w0 Φ (.pointer (some (pJ.addr 0))) (K11 bb bm bt bx bw bo x y a) (Int.ofNat a) y (K11 bb bm bt bx bw bo x y a) :=
  reads_of x1_right x1_has17 hJ (r_n2dr0 bb bm bt bx bw bo x y a ha) (by as_aux_lemma => kernel_rfl) h0 (Subs.sub (l := (K11L bb bm bt bx bw bo x y a)) (by
    refine ?_
    repeat' (first | exact trivial | refine And.intro ?_ ?_)
    all_goals first | kernel_rfl | assumption | exact okBk_ok (by kernel_rfl)))
def I_n2dw0 : List Nat := [0, 1, 2, 5, 7, 9, 11, 13, 14, 15, 16, 17, 22, 23, 28, 29, 34, 35, 38, 39, 1082, 1083, 6299, 6300, 6532, 6533, 6549, 6553, 6554, 6555, 6556, 6557, 6558]
def Z_n2dw0 (bb bm bt bx bw bo : Blk) (x z : Nat → Nat) (a : Nat) : H := ⟨ofPairs [(0, j0), (1, .map [] 298), (2, j16), (5, j2), (7, j3), (9, j4), (11, j5), (13, .map [] 29), (14, .map [] 29), (15, j6), (16, j7), (17, lB [.ptr 16 0, i64 2] false), (22, j8), (23, lB [.ptr 22 0, i64 2] false), (28, j9), (29, lB [.ptr 28 0, i64 2] false), (34, j10), (35, lB [.ptr 34 0, i64 2] false), (38, j11), (39, j12), (1082, .map [(i64 a, .ptr 6549 0, 0)] 1), (1083, j18), (6299, .map [(i64 (a + 1), .str (rowX x), 0), (i64 a, .str (rowX (m8 z)), 1)] 2), (6300, j14), (6532, j15), (6533, bb), (6549, lB [i64 a, sA 128 0, fV, i64 0] false), (6553, bm), (6554, bt), (6555, bx), (6556, bw), (6557, lB [.ptr 6549 0] true), (6558, bo)], 6560⟩
def Q_n2dw0 (bb bm bt bx bw bo : Blk) (x y z : Nat → Nat) (a : Nat) : H := ⟨ofPairs [(0, j0), (1, .map [] 298), (2, j16), (5, j2), (7, j3), (9, j4), (11, j5), (13, .map [] 29), (14, .map [] 29), (15, j6), (16, j7), (17, lB [.ptr 16 0, i64 2] false), (22, j8), (23, lB [.ptr 22 0, i64 2] false), (28, j9), (29, lB [.ptr 28 0, i64 2] false), (34, j10), (35, lB [.ptr 34 0, i64 2] false), (38, j11), (39, j12), (1082, .map [(i64 a, .ptr 6549 0, 0)] 1), (1083, j18), (6299, .map [(i64 (a + 1), .str (rowX x), 0), (i64 a, .str (rowX y), 1)] 2), (6300, j14), (6532, j15), (6533, bb), (6549, lB [i64 a, sA 128 0, fV, i64 0] false), (6553, bm), (6554, bt), (6555, bx), (6556, bw), (6557, lB [.ptr 6549 0] true), (6558, bo), (6559, rB z false)], 6560⟩
theorem r_n2dw0 (bb bm bt bx bw bo : Blk) (x y z : Nat → Nat) : ∀ a : Nat, a < 8 → gcD I_n2dw0 (runF X1 40 (startH (X1.C.fs.get 13) 13 [.ptr 6300 0, i64 a, .slice 6559 0 128 (.own 1)] (Q_n2dw0 bb bm bt bx bw bo x y z a))) = .done (i64 0) (Z_n2dw0 bb bm bt bx bw bo x z a)
  | 0, _ => by as_aux_lemma => kernel_rfl
  | 1, _ => by as_aux_lemma => kernel_rfl
  | 2, _ => by as_aux_lemma => kernel_rfl
  | 3, _ => by as_aux_lemma => kernel_rfl
  | 4, _ => by as_aux_lemma => kernel_rfl
  | 5, _ => by as_aux_lemma => kernel_rfl
  | 6, _ => by as_aux_lemma => kernel_rfl
  | 7, _ => by as_aux_lemma => kernel_rfl
  | n + 8, h => absurd h (by omega)
theorem wr_n2dw0 {w0 : World} {Φ : Phi} {pJ : PB} {bb bm bt bx bw bo : Blk} {x y z : Nat → Nat} {a : Nat} (ha : a < 8) (hbb : OkB 6559 bb) (hbm : OkB 6559 bm) (hbt : OkB 6559 bt) (hbx : OkB 6559 bx) (hbw : OkB 6559 bw) (hbo : OkB 6559 bo) (hJ : Φ 6300 = some pJ) (h0 : ∀ i, 6559 ≤ i → Φ i = none) : Writes w0 Φ (.pointer (some (pJ.addr 0))) (K11 bb bm bt bx bw bo x y a) (Int.ofNat a) z (K11 bb bm bt bx bw bo x (m8 z) a) :=
  writes_of2 (nx := 6559) (h1 := (Z_n2dw0 bb bm bt bx bw bo x z a)) hJ rfl (hw := (Q_n2dw0 bb bm bt bx bw bo x y z a)) (by as_aux_lemma => kernel_rfl) (r_n2dw0 bb bm bt bx bw bo x y z a ha) h0 (Subs.sub (l := (K11L bb bm bt bx bw bo x (m8 z) a)) (by
    refine ?_
    repeat' (first | exact trivial | refine And.intro ?_ ?_)
    all_goals first | kernel_rfl | assumption | exact okBk_ok (by kernel_rfl)))
def I_n2dr1 : List Nat := [0, 1, 2, 5, 7, 9, 11, 13, 14, 15, 16, 17, 22, 23, 28, 29, 34, 35, 38, 39, 1082, 1083, 6299, 6300, 6532, 6533, 6549, 6553, 6554, 6555, 6556, 6557, 6558, 6559]
def Z_n2dr1 (bb bm bt bx bw bo : Blk) (x y : Nat → Nat) (a : Nat) : H := ⟨ofPairs [(0, j0), (1, .map [] 298), (2, j16), (5, j2), (7, j3), (9, j4), (11, j5), (13, .map [] 29), (14, .map [] 29), (15, j6), (16, j7), (17, lB [.ptr 16 0, i64 2] false), (22, j8), (23, lB [.ptr 22 0, i64 2] false), (28, j9), (29, lB [.ptr 28 0, i64 2] false), (34, j10), (35, lB [.ptr 34 0, i64 2] false), (38, j11), (39, j12), (1082, .map [(i64 a, .ptr 6549 0, 0)] 1), (1083, j18), (6299, .map [(i64 (a + 1), .str (rowX x), 0), (i64 a, .str (rowX y), 1)] 2), (6300, j14), (6532, j15), (6533, bb), (6549, lB [i64 a, sA 128 0, fV, i64 0] false), (6553, bm), (6554, bt), (6555, bx), (6556, bw), (6557, lB [.ptr 6549 0] true), (6558, bo), (6559, rB x true)], 6560⟩
theorem r_n2dr1 (bb bm bt bx bw bo : Blk) (x y : Nat → Nat) : ∀ a : Nat, a < 8 → gcD I_n2dr1 (runF X1 38 (startH (X1.C.fs.get 17) 17 [.ptr 6300 0, i64 (a + 1)] (K11 bb bm bt bx bw bo x y a))) = .done (.tup [.slice 6559 0 128 (.own 1), i64 0]) (Z_n2dr1 bb bm bt bx bw bo x y a)
  | 0, _ => by as_aux_lemma => kernel_rfl
  | 1, _ => by as_aux_lemma => kernel_rfl
  | 2, _ => by as_aux_lemma => kernel_rfl
  | 3, _ => by as_aux_lemma => kernel_rfl
  | 4, _ => by as_aux_lemma => kernel_rfl
  | 5, _ => by as_aux_lemma => kernel_rfl
  | 6, _ => by as_aux_lemma => kernel_rfl
  | 7, _ => by as_aux_lemma => kernel_rfl
  | n + 8, h => absurd h (by omega)
theorem rd_n2dr1 {w0 : World} {Φ : Phi} {pJ : PB} {bb bm bt bx bw bo : Blk} {x y : Nat → Nat} {a : Nat} (ha : a < 8) (hbb : OkB 6559 bb) (hbm : OkB 6559 bm) (hbt : OkB 6559 bt) (hbx : OkB 6559 bx) (hbw : OkB 6559 bw) (hbo : OkB 6559 bo) (hJ : Φ 6300 = some pJ) (h0 : ∀ i, 6559 ≤ i → Φ i = none) : Reads w0 Φ (.pointer (some (pJ.addr 0))) (K11 bb bm bt bx bw bo x y a) (Int.ofNat (a + 1)) x (K11 bb bm bt bx bw bo x y a) :=
  reads_of x1_right x1_has17 hJ (r_n2dr1 bb bm bt bx bw bo x y a ha) (by as_aux_lemma => kernel_rfl) h0 (Subs.sub (l := (K11L bb bm bt bx bw bo x y a)) (by
    refine ?_
    repeat' (first | exact trivial | refine And.intro ?_ ?_)
    all_goals first | kernel_rfl | assumption | exact okBk_ok (by kernel_rfl)))
def I_n2dw1 : List Nat := [0, 1, 2, 5, 7, 9, 11, 13, 14, 15, 16, 17, 22, 23, 28, 29, 34, 35, 38, 39, 1082, 1083, 6299, 6300, 6532, 6533, 6549, 6553, 6554, 6555, 6556, 6557, 6558]
def Z_n2dw1 (bb bm bt bx bw bo : Blk) (y z : Nat → Nat) (a : Nat) : H := ⟨ofPairs [(0, j0), (1, .map [] 298), (2, j16), (5, j2), (7, j3), (9, j4), (11, j5), (13, .map [] 29), (14, .map [] 29), (15, j6), (16, j7), (17, lB [.ptr 16 0, i64 2] false), (22, j8), (23, lB [.ptr 22 0, i64 2] false), (28, j9), (29, lB [.ptr 28 0, i64 2] false), (34, j10), (35, lB [.ptr 34 0, i64 2] false), (38, j11), (39, j12), (1082, .map [(i64 a, .ptr 6549 0, 0)] 1), (1083, j18), (6299, .map [(i64 (a + 1), .str (rowX (m8 z)), 0), (i64 a, .str (rowX y), 1)] 2), (6300, j14), (6532, j15), (6533, bb), (6549, lB [i64 a, sA 128 0, fV, i64 0] false), (6553, bm), (6554, bt), (6555, bx), (6556, bw), (6557, lB [.ptr 6549 0] true), (6558, bo)], 6560⟩
def Q_n2dw1 (bb bm bt bx bw bo : Blk) (x y z : Nat → Nat) (a : Nat) : H := ⟨ofPairs [(0, j0), (1, .map [] 298), (2, j16), (5, j2), (7, j3), (9, j4), (11, j5), (13, .map [] 29), (14, .map [] 29), (15, j6), (16, j7), (17, lB [.ptr 16 0, i64 2] false), (22, j8), (23, lB [.ptr 22 0, i64 2] false), (28, j9), (29, lB [.ptr 28 0, i64 2] false), (34, j10), (35, lB [.ptr 34 0, i64 2] false), (38, j11), (39, j12), (1082, .map [(i64 a, .ptr 6549 0, 0)] 1), (1083, j18), (6299, .map [(i64 (a + 1), .str (rowX x), 0), (i64 a, .str (rowX y), 1)] 2), (6300, j14), (6532, j15), (6533, bb), (6549, lB [i64 a, sA 128 0, fV, i64 0] false), (6553, bm), (6554, bt), (6555, bx), (6556, bw), (6557, lB [.ptr 6549 0] true), (6558, bo), (6559, rB z false)], 6560⟩
theorem r_n2dw1 (bb bm bt bx bw bo : Blk) (x y z : Nat → Nat) : ∀ a : Nat, a < 8 → gcD I_n2dw1 (runF X1 40 (startH (X1.C.fs.get 13) 13 [.ptr 6300 0, i64 (a + 1), .slice 6559 0 128 (.own 1)] (Q_n2dw1 bb bm bt bx bw bo x y z a))) = .done (i64 0) (Z_n2dw1 bb bm bt bx bw bo y z a)
  | 0, _ => by as_aux_lemma => kernel_rfl
  | 1, _ => by as_aux_lemma => kernel_rfl
  | 2, _ => by as_aux_lemma => kernel_rfl
  | 3, _ => by as_aux_lemma => kernel_rfl
  | 4, _ => by as_aux_lemma => kernel_rfl
  | 5, _ => by as_aux_lemma => kernel_rfl
  | 6, _ => by as_aux_lemma => kernel_rfl
  | 7, _ => by as_aux_lemma => kernel_rfl
  | n + 8, h => absurd h (by omega)
theorem wr_n2dw1 {w0 : World} {Φ : Phi} {pJ : PB} {bb bm bt bx bw bo : Blk} {x y z : Nat → Nat} {a : Nat} (ha : a < 8) (hbb : OkB 6559 bb) (hbm : OkB 6559 bm) (hbt : OkB 6559 bt) (hbx : OkB 6559 bx) (hbw : OkB 6559 bw) (hbo : OkB 6559 bo) (hJ : Φ 6300 = some pJ) (h0 : ∀ i, 6559 ≤ i → Φ i = none) : Writes w0 Φ (.pointer (some (pJ.addr 0))) (K11 bb bm bt bx bw bo x y a) (Int.ofNat (a + 1)) z (K11 bb bm bt bx bw bo (m8 z) y a) :=
  writes_of2 (nx := 6559) (h1 := (Z_n2dw1 bb bm bt bx bw bo y z a)) hJ rfl (hw := (Q_n2dw1 bb bm bt bx bw bo x y z a)) (by as_aux_lemma => kernel_rfl) (r_n2dw1 bb bm bt bx bw bo x y z a ha) h0 (Subs.sub (l := (K11L bb bm bt bx bw bo (m8 z) y a)) (by
    refine ?_
    repeat' (first | exact trivial | refine And.intro ?_ ?_)
    all_goals first | kernel_rfl | assumption | exact okBk_ok (by kernel_rfl)))
end
end Go.Proofs.YteaacjabcfopgaaGreat.Run
