/-
  What Read and Write do where the bits stand in 3 blocks.
-/
import Derived.Test.YteaacjabcfopgaaGreatIb
import Derived.KernelRfl
set_option linter.unusedVariables false
set_option linter.unusedSimpArgs false
namespace Go.Proofs.YteaacjabcfopgaaGreat.Run
open Go Go.Proofs.YteaacjabcfopgaaGreat.Am Go.Proofs.YteaacjabcfopgaaGreat.Am.G Go.RowKit Go.Proofs Go.Proofs.YteaacjabcfopgaaGreat.PQ
set_option maxRecDepth 1000000
set_option maxHeartbeats 4000000
noncomputable section
def I_n3W : List Nat := [0, 1, 2, 5, 7, 9, 11, 13, 14, 15, 16, 17, 22, 23, 28, 29, 34, 35, 38, 39, 1082, 1083, 6299, 6300, 6532, 6533]
def Z_n3W (x : Nat → Nat) (a : Nat) : H := ⟨ofPairs [(0, j0), (1, .map [] 298), (2, j1), (5, j2), (7, j3), (9, j4), (11, j5), (13, .map [] 29), (14, .map [] 29), (15, j6), (16, j7), (17, lB [.ptr 16 0, i64 2] false), (22, j8), (23, lB [.ptr 22 0, i64 2] false), (28, j9), (29, lB [.ptr 28 0, i64 2] false), (34, j10), (35, lB [.ptr 34 0, i64 2] false), (38, j11), (39, j12), (1082, .map [] 0), (1083, j13), (6299, .map [(i64 (a + 2), .str (rowX (m8 x)), 0)] 1), (6300, j14), (6532, j15), (6533, rB x false)], 6534⟩
theorem r_n3W (x : Nat → Nat) : ∀ a : Nat, a < 8 → gcD I_n3W (runF X1 40 (startH (X1.C.fs.get 13) 13 [.ptr 6300 0, i64 (a + 2), .slice 6533 0 128 (.own 1)] (K0 x))) = .done (i64 0) (Z_n3W x a)
  | 0, _ => by as_aux_lemma => kernel_rfl
  | 1, _ => by as_aux_lemma => kernel_rfl
  | 2, _ => by as_aux_lemma => kernel_rfl
  | 3, _ => by as_aux_lemma => kernel_rfl
  | 4, _ => by as_aux_lemma => kernel_rfl
  | 5, _ => by as_aux_lemma => kernel_rfl
  | 6, _ => by as_aux_lemma => kernel_rfl
  | 7, _ => by as_aux_lemma => kernel_rfl
  | n + 8, h => absurd h (by omega)
theorem wr_n3W {w0 w : World} {Φ : Phi} {pJ : PB} {x : Nat → Nat} {bk : Nat} {a : Nat} (ha : a < 8) (hA : At w0 Φ (K0 x) w) (hJ : Φ 6300 = some pJ) (hB : Φ 6533 = some ⟨bk, 0, 128⟩) (h0 : ∀ i, 6534 ≤ i → Φ i = none) :
    Calls Tryz.prog 13 #[.pointer (some (pJ.addr 0)), .int .i64 (Int.ofNat (a + 2)), .slice (some ⟨bk, 0, none⟩) 128 128] w (WrPost w0 Φ (W3 x (m8 x) a)) :=
  write_b hA hJ hB (r_n3W x a ha) h0 (Subs.sub (l := W3L x (m8 x) a) (by
    refine ?_
    repeat' (first | exact trivial | refine And.intro ?_ ?_)
    all_goals first | kernel_rfl | assumption | exact okBk_ok (by kernel_rfl)))
def I_n3o0 : List Nat := [0, 1, 2, 5, 7, 9, 11, 13, 14, 15, 16, 17, 22, 23, 28, 29, 34, 35, 38, 39, 1082, 1083, 6299, 6300, 6532, 6533, 6549, 6552, 6553]
def Z_n3o0 (bb : Blk) (x : Nat → Nat) (a : Nat) : H := ⟨ofPairs [(0, j0), (1, .map [] 298), (2, j16), (5, j2), (7, j3), (9, j4), (11, j5), (13, .map [] 29), (14, .map [] 29), (15, j6), (16, j7), (17, lB [.ptr 16 0, i64 2] false), (22, j8), (23, lB [.ptr 22 0, i64 2] false), (28, j9), (29, lB [.ptr 28 0, i64 2] false), (34, j10), (35, lB [.ptr 34 0, i64 2] false), (38, j11), (39, j12), (1082, .map [(i64 a, .ptr 6549 0, 0)] 1), (1083, q0), (6299, .map [(i64 (a + 2), .str (rowX x), 0)] 1), (6300, j14), (6532, j15), (6533, bb), (6549, lB [i64 a, sA 128 0, fV, i64 0] false), (6552, lB [.ptr 6549 0] false), (6553, bB 128 0 true)], 6554⟩
theorem r_n3o0 (bb : Blk) (x : Nat → Nat) : ∀ a : Nat, a < 8 → gcD I_n3o0 (runF X0 287 (startH (X0.C.fs.get 17) 17 [.ptr 6300 0, i64 a] (K13 bb x a))) = .done (.tup [.slice 6553 0 128 (.own 1), i64 0]) (Z_n3o0 bb x a)
  | 0, _ => by as_aux_lemma => kernel_rfl
  | 1, _ => by as_aux_lemma => kernel_rfl
  | 2, _ => by as_aux_lemma => kernel_rfl
  | 3, _ => by as_aux_lemma => kernel_rfl
  | 4, _ => by as_aux_lemma => kernel_rfl
  | 5, _ => by as_aux_lemma => kernel_rfl
  | 6, _ => by as_aux_lemma => kernel_rfl
  | 7, _ => by as_aux_lemma => kernel_rfl
  | n + 8, h => absurd h (by omega)
theorem rd_n3o0 {w0 : World} {Φ : Phi} {pJ : PB} {bb : Blk} {x : Nat → Nat} {a : Nat} (ha : a < 8) (hbb : OkB 6553 bb) (hJ : Φ 6300 = some pJ) (h0 : ∀ i, 6553 ≤ i → Φ i = none) : Reads w0 Φ (.pointer (some (pJ.addr 0))) (K13 bb x a) (Int.ofNat a) (fun _ => 0) (K14 bb x a) :=
  reads_of x0_right x0_has17 hJ (r_n3o0 bb x a ha) (by as_aux_lemma => kernel_rfl) h0 (Subs.sub (l := (K14L bb x a)) (by
    refine ?_
    repeat' (first | exact trivial | refine And.intro ?_ ?_)
    all_goals first | kernel_rfl | assumption | exact okBk_ok (by kernel_rfl)))
def I_n3o1 : List Nat := [0, 1, 2, 5, 7, 9, 11, 13, 14, 15, 16, 17, 22, 23, 28, 29, 34, 35, 38, 39, 1082, 1083, 6299, 6300, 6532, 6533, 6549, 6568, 6571, 6572]
def Z_n3o1 (bb : Blk) (x : Nat → Nat) (a : Nat) : H := ⟨ofPairs [(0, j0), (1, .map [] 298), (2, j20), (5, j2), (7, j3), (9, j4), (11, j5), (13, .map [] 29), (14, .map [] 29), (15, j6), (16, j7), (17, lB [.ptr 16 0, i64 2] false), (22, j8), (23, lB [.ptr 22 0, i64 2] false), (28, j9), (29, lB [.ptr 28 0, i64 2] false), (34, j10), (35, lB [.ptr 34 0, i64 2] false), (38, j11), (39, j12), (1082, .map [(i64 a, .ptr 6549 0, 0), (i64 (a + 1), .ptr 6568 0, 1)] 2), (1083, j22), (6299, .map [(i64 (a + 2), .str (rowX x), 0)] 1), (6300, j14), (6532, j15), (6533, bb), (6549, lB [i64 a, sA 128 0, fV, i64 0] false), (6568, lB [i64 (a + 1), sA 128 0, fV, i64 0] false), (6571, lB [.ptr 6549 0, .ptr 6568 0] true), (6572, bB 128 0 true)], 6573⟩
theorem r_n3o1 (bb : Blk) (x : Nat → Nat) : ∀ a : Nat, a < 8 → gcD I_n3o1 (runF X0 298 (startH (X0.C.fs.get 17) 17 [.ptr 6300 0, i64 (a + 1)] (K14 bb x a))) = .done (.tup [.slice 6572 0 128 (.own 1), i64 0]) (Z_n3o1 bb x a)
  | 0, _ => by as_aux_lemma => kernel_rfl
  | 1, _ => by as_aux_lemma => kernel_rfl
  | 2, _ => by as_aux_lemma => kernel_rfl
  | 3, _ => by as_aux_lemma => kernel_rfl
  | 4, _ => by as_aux_lemma => kernel_rfl
  | 5, _ => by as_aux_lemma => kernel_rfl
  | 6, _ => by as_aux_lemma => kernel_rfl
  | 7, _ => by as_aux_lemma => kernel_rfl
  | n + 8, h => absurd h (by omega)
theorem rd_n3o1 {w0 : World} {Φ : Phi} {pJ : PB} {bb : Blk} {x : Nat → Nat} {a : Nat} (ha : a < 8) (hbb : OkB 6572 bb) (hJ : Φ 6300 = some pJ) (h0 : ∀ i, 6572 ≤ i → Φ i = none) : Reads w0 Φ (.pointer (some (pJ.addr 0))) (K14 bb x a) (Int.ofNat (a + 1)) (fun _ => 0) (K15 bb x a) :=
  reads_of x0_right x0_has17 hJ (r_n3o1 bb x a ha) (by as_aux_lemma => kernel_rfl) h0 (Subs.sub (l := (K15L bb x a)) (by
    refine ?_
    repeat' (first | exact trivial | refine And.intro ?_ ?_)
    all_goals first | kernel_rfl | assumption | exact okBk_ok (by kernel_rfl)))
def I_n3o2 : List Nat := [0, 1, 2, 5, 7, 9, 11, 13, 14, 15, 16, 17, 22, 23, 28, 29, 34, 35, 38, 39, 1082, 1083, 6299, 6300, 6532, 6533, 6549, 6568, 6571, 6572]
def Z_n3o2 (bb : Blk) (x : Nat → Nat) (a : Nat) : H := ⟨ofPairs [(0, j0), (1, .map [] 298), (2, j20), (5, j2), (7, j3), (9, j4), (11, j5), (13, .map [] 29), (14, .map [] 29), (15, j6), (16, j7), (17, lB [.ptr 16 0, i64 2] false), (22, j8), (23, lB [.ptr 22 0, i64 2] false), (28, j9), (29, lB [.ptr 28 0, i64 2] false), (34, j10), (35, lB [.ptr 34 0, i64 2] false), (38, j11), (39, j12), (1082, .map [(i64 a, .ptr 6549 0, 0), (i64 (a + 1), .ptr 6568 0, 1)] 2), (1083, j22), (6299, .map [(i64 (a + 2), .str (rowX x), 0)] 1), (6300, j14), (6532, j15), (6533, bb), (6549, lB [i64 a, sA 128 0, fV, i64 0] false), (6568, lB [i64 (a + 1), sA 128 0, fV, i64 0] false), (6571, lB [.ptr 6549 0, .ptr 6568 0] true), (6572, rB x true)], 6573⟩
theorem r_n3o2 (bb : Blk) (x : Nat → Nat) : ∀ a : Nat, a < 8 → gcD I_n3o2 (runF X1 38 (startH (X1.C.fs.get 17) 17 [.ptr 6300 0, i64 (a + 2)] (K15 bb x a))) = .done (.tup [.slice 6572 0 128 (.own 1), i64 0]) (Z_n3o2 bb x a)
  | 0, _ => by as_aux_lemma => kernel_rfl
  | 1, _ => by as_aux_lemma => kernel_rfl
  | 2, _ => by as_aux_lemma => kernel_rfl
  | 3, _ => by as_aux_lemma => kernel_rfl
  | 4, _ => by as_aux_lemma => kernel_rfl
  | 5, _ => by as_aux_lemma => kernel_rfl
  | 6, _ => by as_aux_lemma => kernel_rfl
  | 7, _ => by as_aux_lemma => kernel_rfl
  | n + 8, h => absurd h (by omega)
theorem rd_n3o2 {w0 : World} {Φ : Phi} {pJ : PB} {bb : Blk} {x : Nat → Nat} {a : Nat} (ha : a < 8) (hbb : OkB 6572 bb) (hJ : Φ 6300 = some pJ) (h0 : ∀ i, 6572 ≤ i → Φ i = none) : Reads w0 Φ (.pointer (some (pJ.addr 0))) (K15 bb x a) (Int.ofNat (a + 2)) x (K15 bb x a) :=
  reads_of x1_right x1_has17 hJ (r_n3o2 bb x a ha) (by as_aux_lemma => kernel_rfl) h0 (Subs.sub (l := (K15L bb x a)) (by
    refine ?_
    repeat' (first | exact trivial | refine And.intro ?_ ?_)
    all_goals first | kernel_rfl | assumption | exact okBk_ok (by kernel_rfl)))
def I_n3a : List Nat := [0, 1, 2, 5, 7, 9, 11, 13, 14, 15, 16, 17, 22, 23, 28, 29, 34, 35, 38, 39, 1082, 1083, 6299, 6300, 6532, 6533, 6549, 6568, 6572, 6573, 6574, 6575, 6578, 6579]
def Z_n3a (bb bm bt bx bw : Blk) (x : Nat → Nat) (a : Nat) : H := ⟨ofPairs [(0, j0), (1, .map [] 298), (2, j20), (5, j2), (7, j3), (9, j4), (11, j5), (13, .map [] 29), (14, .map [] 29), (15, j6), (16, j7), (17, lB [.ptr 16 0, i64 2] false), (22, j8), (23, lB [.ptr 22 0, i64 2] false), (28, j9), (29, lB [.ptr 28 0, i64 2] false), (34, j10), (35, lB [.ptr 34 0, i64 2] false), (38, j11), (39, j12), (1082, .map [(i64 a, .ptr 6549 0, 0), (i64 (a + 1), .ptr 6568 0, 1)] 2), (1083, q3), (6299, .map [(i64 (a + 2), .str (rowX x), 0)] 1), (6300, j14), (6532, j15), (6533, bb), (6549, lB [i64 a, sA 128 0, fV, i64 0] false), (6568, lB [i64 (a + 1), sA 128 0, fV, i64 0] false), (6572, bm), (6573, bt), (6574, bx), (6575, bw), (6578, lB [.ptr 6568 0, .ptr 6549 0] true), (6579, bB 128 0 true)], 6580⟩
theorem r_n3a (bb bm bt bx bw : Blk) (x : Nat → Nat) : ∀ a : Nat, a < 8 → gcD I_n3a (runF X1 116 (startH (X1.C.fs.get 17) 17 [.ptr 6300 0, i64 a] (K16 bb bm bt bx bw x a))) = .done (.tup [.slice 6579 0 128 (.own 1), i64 0]) (Z_n3a bb bm bt bx bw x a)
  | 0, _ => by as_aux_lemma => kernel_rfl
  | 1, _ => by as_aux_lemma => kernel_rfl
  | 2, _ => by as_aux_lemma => kernel_rfl
  | 3, _ => by as_aux_lemma => kernel_rfl
  | 4, _ => by as_aux_lemma => kernel_rfl
  | 5, _ => by as_aux_lemma => kernel_rfl
  | 6, _ => by as_aux_lemma => kernel_rfl
  | 7, _ => by as_aux_lemma => kernel_rfl
  | n + 8, h => absurd h (by omega)
theorem rd_n3a {w0 : World} {Φ : Phi} {pJ : PB} {bb bm bt bx bw : Blk} {x : Nat → Nat} {a : Nat} (ha : a < 8) (hbb : OkB 6576 bb) (hbm : OkB 6576 bm) (hbt : OkB 6576 bt) (hbx : OkB 6576 bx) (hbw : OkB 6576 bw) (hJ : Φ 6300 = some pJ) (hj : Φ 6576 = none) (h0 : ∀ i, 6577 ≤ i → Φ i = none) : Reads w0 Φ (.pointer (some (pJ.addr 0))) (K16 bb bm bt bx bw x a) (Int.ofNat a) (fun _ => 0) (K17 bb bm bt bx bw x a) :=
  reads_mv x1_right x1_has17 hJ (r_n3a bb bm bt bx bw x a ha) (by as_aux_lemma => kernel_rfl) hj h0 (Moves.ofL (L := (K17L bb bm bt bx bw x a)) (c := 1083) (j := 6576) (i := 6578) (m := 6576) (nx := 6577) (B := lB [.ptr 6568 0, .ptr 6549 0] true) (a := .ptr 15 0) (b := i64 30) (d := .map 1082) (o := 0) (l := 2) (cap := .own 1) rfl (by kernel_rfl) (okBk_ok (by kernel_rfl)) (by kernel_rfl) (by kernel_rfl) rfl rfl rfl (by
    refine ?_
    repeat' (first | exact trivial | refine And.intro ?_ ?_)
    all_goals first | rfl | exact Or.inl rfl | exact Or.inr (Or.inl ⟨rfl, rfl⟩) | refine Or.inr (Or.inr ⟨rfl, ?_, ?_⟩)
    all_goals first | kernel_rfl | assumption | exact okBk_ok (by kernel_rfl)) (by decide))
def I_n3a1 : List Nat := [0, 1, 2, 5, 7, 9, 11, 13, 14, 15, 16, 17, 22, 23, 28, 29, 34, 35, 38, 39, 1082, 1083, 6299, 6300, 6532, 6533, 6549, 6568, 6572, 6573, 6574, 6575, 6579, 6580]
def Z_n3a1 (bb bm bt bx bw : Blk) (x : Nat → Nat) (a : Nat) : H := ⟨ofPairs [(0, j0), (1, .map [] 298), (2, j20), (5, j2), (7, j3), (9, j4), (11, j5), (13, .map [] 29), (14, .map [] 29), (15, j6), (16, j7), (17, lB [.ptr 16 0, i64 2] false), (22, j8), (23, lB [.ptr 22 0, i64 2] false), (28, j9), (29, lB [.ptr 28 0, i64 2] false), (34, j10), (35, lB [.ptr 34 0, i64 2] false), (38, j11), (39, j12), (1082, .map [(i64 a, .ptr 6549 0, 0), (i64 (a + 1), .ptr 6568 0, 1)] 2), (1083, q5), (6299, .map [(i64 (a + 2), .str (rowX x), 0)] 1), (6300, j14), (6532, j15), (6533, bb), (6549, lB [i64 a, sA 128 0, fV, i64 0] false), (6568, lB [i64 (a + 1), sA 128 0, fV, i64 0] false), (6572, bm), (6573, bt), (6574, bx), (6575, bw), (6579, lB [.ptr 6568 0, .ptr 6549 0] true), (6580, bB 128 0 true)], 6581⟩
theorem r_n3a1 (bb bm bt bx bw : Blk) (x : Nat → Nat) : ∀ a : Nat, a < 8 → gcD I_n3a1 (runF X1 115 (startH (X1.C.fs.get 17) 17 [.ptr 6300 0, i64 a] (K17 bb bm bt bx bw x a))) = .done (.tup [.slice 6580 0 128 (.own 1), i64 0]) (Z_n3a1 bb bm bt bx bw x a)
  | 0, _ => by as_aux_lemma => kernel_rfl
  | 1, _ => by as_aux_lemma => kernel_rfl
  | 2, _ => by as_aux_lemma => kernel_rfl
  | 3, _ => by as_aux_lemma => kernel_rfl
  | 4, _ => by as_aux_lemma => kernel_rfl
  | 5, _ => by as_aux_lemma => kernel_rfl
  | 6, _ => by as_aux_lemma => kernel_rfl
  | 7, _ => by as_aux_lemma => kernel_rfl
  | n + 8, h => absurd h (by omega)
theorem rd_n3a1 {w0 : World} {Φ : Phi} {pJ : PB} {bb bm bt bx bw : Blk} {x : Nat → Nat} {a : Nat} (ha : a < 8) (hbb : OkB 6576 bb) (hbm : OkB 6576 bm) (hbt : OkB 6576 bt) (hbx : OkB 6576 bx) (hbw : OkB 6576 bw) (hJ : Φ 6300 = some pJ) (hj : Φ 6576 = none) (h0 : ∀ i, 6577 ≤ i → Φ i = none) : Reads w0 Φ (.pointer (some (pJ.addr 0))) (K17 bb bm bt bx bw x a) (Int.ofNat a) (fun _ => 0) (K17 bb bm bt bx bw x a) :=
  reads_mv x1_right x1_has17 hJ (r_n3a1 bb bm bt bx bw x a ha) (by as_aux_lemma => kernel_rfl) hj h0 (Moves.ofL (L := (K17L bb bm bt bx bw x a)) (c := 1083) (j := 6576) (i := 6579) (m := 6576) (nx := 6577) (B := lB [.ptr 6568 0, .ptr 6549 0] true) (a := .ptr 15 0) (b := i64 30) (d := .map 1082) (o := 0) (l := 2) (cap := .own 1) rfl (by kernel_rfl) (okBk_ok (by kernel_rfl)) (by kernel_rfl) (by kernel_rfl) rfl rfl rfl (by
    refine ?_
    repeat' (first | exact trivial | refine And.intro ?_ ?_)
    all_goals first | rfl | exact Or.inl rfl | exact Or.inr (Or.inl ⟨rfl, rfl⟩) | refine Or.inr (Or.inr ⟨rfl, ?_, ?_⟩)
    all_goals first | kernel_rfl | assumption | exact okBk_ok (by kernel_rfl)) (by decide))
def I_n3w : List Nat := [0, 1, 2, 5, 7, 9, 11, 13, 14, 15, 16, 17, 22, 23, 28, 29, 34, 35, 38, 39, 1082, 1083, 6299, 6300, 6532, 6533, 6549, 6568, 6572, 6573, 6574, 6575, 6576]
def Z_n3w (bb bm bt bx bw : Blk) (x y : Nat → Nat) (a : Nat) : H := ⟨ofPairs [(0, j0), (1, .map [] 298), (2, j20), (5, j2), (7, j3), (9, j4), (11, j5), (13, .map [] 29), (14, .map [] 29), (15, j6), (16, j7), (17, lB [.ptr 16 0, i64 2] false), (22, j8), (23, lB [.ptr 22 0, i64 2] false), (28, j9), (29, lB [.ptr 28 0, i64 2] false), (34, j10), (35, lB [.ptr 34 0, i64 2] false), (38, j11), (39, j12), (1082, .map [(i64 a, .ptr 6549 0, 0), (i64 (a + 1), .ptr 6568 0, 1)] 2), (1083, q4), (6299, .map [(i64 (a + 2), .str (rowX x), 0), (i64 a, .str (rowX (m8 y)), 1)] 2), (6300, j14), (6532, j15), (6533, bb), (6549, lB [i64 a, sA 128 0, fV, i64 0] false), (6568, lB [i64 (a + 1), sA 128 0, fV, i64 0] false), (6572, bm), (6573, bt), (6574, bx), (6575, bw), (6576, lB [.ptr 6568 0, .ptr 6549 0] true)], 6578⟩
def Q_n3w (bb bm bt bx bw : Blk) (x y : Nat → Nat) (a : Nat) : H := ⟨ofPairs [(0, j0), (1, .map [] 298), (2, j20), (5, j2), (7, j3), (9, j4), (11, j5), (13, .map [] 29), (14, .map [] 29), (15, j6), (16, j7), (17, lB [.ptr 16 0, i64 2] false), (22, j8), (23, lB [.ptr 22 0, i64 2] false), (28, j9), (29, lB [.ptr 28 0, i64 2] false), (34, j10), (35, lB [.ptr 34 0, i64 2] false), (38, j11), (39, j12), (1082, .map [(i64 a, .ptr 6549 0, 0), (i64 (a + 1), .ptr 6568 0, 1)] 2), (1083, q4), (6299, .map [(i64 (a + 2), .str (rowX x), 0)] 1), (6300, j14), (6532, j15), (6533, bb), (6549, lB [i64 a, sA 128 0, fV, i64 0] false), (6568, lB [i64 (a + 1), sA 128 0, fV, i64 0] false), (6572, bm), (6573, bt), (6574, bx), (6575, bw), (6576, lB [.ptr 6568 0, .ptr 6549 0] true), (6577, rB y false)], 6578⟩
theorem r_n3w (bb bm bt bx bw : Blk) (x y : Nat → Nat) : ∀ a : Nat, a < 8 → gcD I_n3w (runF X1 40 (startH (X1.C.fs.get 13) 13 [.ptr 6300 0, i64 a, .slice 6577 0 128 (.own 1)] (Q_n3w bb bm bt bx bw x y a))) = .done (i64 0) (Z_n3w bb bm bt bx bw x y a)
  | 0, _ => by as_aux_lemma => kernel_rfl
  | 1, _ => by as_aux_lemma => kernel_rfl
  | 2, _ => by as_aux_lemma => kernel_rfl
  | 3, _ => by as_aux_lemma => kernel_rfl
  | 4, _ => by as_aux_lemma => kernel_rfl
  | 5, _ => by as_aux_lemma => kernel_rfl
  | 6, _ => by as_aux_lemma => kernel_rfl
  | 7, _ => by as_aux_lemma => kernel_rfl
  | n + 8, h => absurd h (by omega)
theorem wr_n3w {w0 : World} {Φ : Phi} {pJ : PB} {bb bm bt bx bw : Blk} {x y : Nat → Nat} {a : Nat} (ha : a < 8) (hbb : OkB 6577 bb) (hbm : OkB 6577 bm) (hbt : OkB 6577 bt) (hbx : OkB 6577 bx) (hbw : OkB 6577 bw) (hJ : Φ 6300 = some pJ) (h0 : ∀ i, 6577 ≤ i → Φ i = none) : Writes w0 Φ (.pointer (some (pJ.addr 0))) (K17 bb bm bt bx bw x a) (Int.ofNat a) y (K18 bb bm bt bx bw x (m8 y) a) :=
  writes_of2 (nx := 6577) (h1 := (Z_n3w bb bm bt bx bw x y a)) hJ rfl (hw := (Q_n3w bb bm bt bx bw x y a)) (by as_aux_lemma => kernel_rfl) (r_n3w bb bm bt bx bw x y a ha) h0 (Subs.sub (l := (K18L bb bm bt bx bw x (m8 y) a)) (by
    refine ?_
    repeat' (first | exact trivial | refine And.intro ?_ ?_)
    all_goals first | kernel_rfl | assumption | exact okBk_ok (by kernel_rfl)))
def I_n3f1 : List Nat := [0, 1, 2, 5, 7, 9, 11, 13, 14, 15, 16, 17, 22, 23, 28, 29, 34, 35, 38, 39, 1082, 1083, 6299, 6300, 6532, 6533, 6549, 6568, 6572, 6573, 6574, 6575, 6579, 6580]
def Z_n3f1 (bb bm bt bx bw : Blk) (x : Nat → Nat) (a : Nat) : H := ⟨ofPairs [(0, j0), (1, .map [] 298), (2, j20), (5, j2), (7, j3), (9, j4), (11, j5), (13, .map [] 29), (14, .map [] 29), (15, j6), (16, j7), (17, lB [.ptr 16 0, i64 2] false), (22, j8), (23, lB [.ptr 22 0, i64 2] false), (28, j9), (29, lB [.ptr 28 0, i64 2] false), (34, j10), (35, lB [.ptr 34 0, i64 2] false), (38, j11), (39, j12), (1082, .map [(i64 a, .ptr 6549 0, 0), (i64 (a + 1), .ptr 6568 0, 1)] 2), (1083, q5), (6299, .map [(i64 (a + 2), .str (rowX x), 0)] 1), (6300, j14), (6532, j15), (6533, bb), (6549, lB [i64 a, sA 128 0, fV, i64 0] false), (6568, lB [i64 (a + 1), sA 128 0, fV, i64 0] false), (6572, bm), (6573, bt), (6574, bx), (6575, bw), (6579, lB [.ptr 6549 0, .ptr 6568 0] true), (6580, bB 128 0 true)], 6581⟩
theorem r_n3f1 (bb bm bt bx bw : Blk) (x : Nat → Nat) : ∀ a : Nat, a < 8 → gcD I_n3f1 (runF X1 116 (startH (X1.C.fs.get 17) 17 [.ptr 6300 0, i64 (a + 1)] (K17 bb bm bt bx bw x a))) = .done (.tup [.slice 6580 0 128 (.own 1), i64 0]) (Z_n3f1 bb bm bt bx bw x a)
  | 0, _ => by as_aux_lemma => kernel_rfl
  | 1, _ => by as_aux_lemma => kernel_rfl
  | 2, _ => by as_aux_lemma => kernel_rfl
  | 3, _ => by as_aux_lemma => kernel_rfl
  | 4, _ => by as_aux_lemma => kernel_rfl
  | 5, _ => by as_aux_lemma => kernel_rfl
  | 6, _ => by as_aux_lemma => kernel_rfl
  | 7, _ => by as_aux_lemma => kernel_rfl
  | n + 8, h => absurd h (by omega)
theorem rd_n3f1 {w0 : World} {Φ : Phi} {pJ : PB} {bb bm bt bx bw : Blk} {x : Nat → Nat} {a : Nat} (ha : a < 8) (hbb : OkB 6576 bb) (hbm : OkB 6576 bm) (hbt : OkB 6576 bt) (hbx : OkB 6576 bx) (hbw : OkB 6576 bw) (hJ : Φ 6300 = some pJ) (hj : Φ 6576 = none) (h0 : ∀ i, 6577 ≤ i → Φ i = none) : Reads w0 Φ (.pointer (some (pJ.addr 0))) (K17 bb bm bt bx bw x a) (Int.ofNat (a + 1)) (fun _ => 0) (K19 bb bm bt bx bw x a) :=
  reads_mv x1_right x1_has17 hJ (r_n3f1 bb bm bt bx bw x a ha) (by as_aux_lemma => kernel_rfl) hj h0 (Moves.ofL (L := (K19L bb bm bt bx bw x a)) (c := 1083) (j := 6576) (i := 6579) (m := 6576) (nx := 6577) (B := lB [.ptr 6549 0, .ptr 6568 0] true) (a := .ptr 15 0) (b := i64 30) (d := .map 1082) (o := 0) (l := 2) (cap := .own 1) rfl (by kernel_rfl) (okBk_ok (by kernel_rfl)) (by kernel_rfl) (by kernel_rfl) rfl rfl rfl (by
    refine ?_
    repeat' (first | exact trivial | refine And.intro ?_ ?_)
    all_goals first | rfl | exact Or.inl rfl | exact Or.inr (Or.inl ⟨rfl, rfl⟩) | refine Or.inr (Or.inr ⟨rfl, ?_, ?_⟩)
    all_goals first | kernel_rfl | assumption | exact okBk_ok (by kernel_rfl)) (by decide))
def I_n3f2 : List Nat := [0, 1, 2, 5, 7, 9, 11, 13, 14, 15, 16, 17, 22, 23, 28, 29, 34, 35, 38, 39, 1082, 1083, 6299, 6300, 6532, 6533, 6549, 6568, 6572, 6573, 6574, 6575, 6576, 6577]
def Z_n3f2 (bb bm bt bx bw : Blk) (x : Nat → Nat) (a : Nat) : H := ⟨ofPairs [(0, j0), (1, .map [] 298), (2, j20), (5, j2), (7, j3), (9, j4), (11, j5), (13, .map [] 29), (14, .map [] 29), (15, j6), (16, j7), (17, lB [.ptr 16 0, i64 2] false), (22, j8), (23, lB [.ptr 22 0, i64 2] false), (28, j9), (29, lB [.ptr 28 0, i64 2] false), (34, j10), (35, lB [.ptr 34 0, i64 2] false), (38, j11), (39, j12), (1082, .map [(i64 a, .ptr 6549 0, 0), (i64 (a + 1), .ptr 6568 0, 1)] 2), (1083, q4), (6299, .map [(i64 (a + 2), .str (rowX x), 0)] 1), (6300, j14), (6532, j15), (6533, bb), (6549, lB [i64 a, sA 128 0, fV, i64 0] false), (6568, lB [i64 (a + 1), sA 128 0, fV, i64 0] false), (6572, bm), (6573, bt), (6574, bx), (6575, bw), (6576, lB [.ptr 6549 0, .ptr 6568 0] true), (6577, rB x true)], 6578⟩
theorem r_n3f2 (bb bm bt bx bw : Blk) (x : Nat → Nat) : ∀ a : Nat, a < 8 → gcD I_n3f2 (runF X1 38 (startH (X1.C.fs.get 17) 17 [.ptr 6300 0, i64 (a + 2)] (K19 bb bm bt bx bw x a))) = .done (.tup [.slice 6577 0 128 (.own 1), i64 0]) (Z_n3f2 bb bm bt bx bw x a)
  | 0, _ => by as_aux_lemma => kernel_rfl
  | 1, _ => by as_aux_lemma => kernel_rfl
  | 2, _ => by as_aux_lemma => kernel_rfl
  | 3, _ => by as_aux_lemma => kernel_rfl
  | 4, _ => by as_aux_lemma => kernel_rfl
  | 5, _ => by as_aux_lemma => kernel_rfl
  | 6, _ => by as_aux_lemma => kernel_rfl
  | 7, _ => by as_aux_lemma => kernel_rfl
  | n + 8, h => absurd h (by omega)
theorem rd_n3f2 {w0 : World} {Φ : Phi} {pJ : PB} {bb bm bt bx bw : Blk} {x : Nat → Nat} {a : Nat} (ha : a < 8) (hbb : OkB 6577 bb) (hbm : OkB 6577 bm) (hbt : OkB 6577 bt) (hbx : OkB 6577 bx) (hbw : OkB 6577 bw) (hJ : Φ 6300 = some pJ) (h0 : ∀ i, 6577 ≤ i → Φ i = none) : Reads w0 Φ (.pointer (some (pJ.addr 0))) (K19 bb bm bt bx bw x a) (Int.ofNat (a + 2)) x (K19 bb bm bt bx bw x a) :=
  reads_of x1_right x1_has17 hJ (r_n3f2 bb bm bt bx bw x a ha) (by as_aux_lemma => kernel_rfl) h0 (Subs.sub (l := (K19L bb bm bt bx bw x a)) (by
    refine ?_
    repeat' (first | exact trivial | refine And.intro ?_ ?_)
    all_goals first | kernel_rfl | assumption | exact okBk_ok (by kernel_rfl)))
def I_n3dr1 : List Nat := [0, 1, 2, 5, 7, 9, 11, 13, 14, 15, 16, 17, 22, 23, 28, 29, 34, 35, 38, 39, 1082, 1083, 6299, 6300, 6532, 6533, 6549, 6568, 6572, 6573, 6574, 6575, 6577, 6580, 6581]
def Z_n3dr1 (bb bm bt bx bw bo : Blk) (x y : Nat → Nat) (a : Nat) : H := ⟨ofPairs [(0, j0), (1, .map [] 298), (2, j20), (5, j2), (7, j3), (9, j4), (11, j5), (13, .map [] 29), (14, .map [] 29), (15, j6), (16, j7), (17, lB [.ptr 16 0, i64 2] false), (22, j8), (23, lB [.ptr 22 0, i64 2] false), (28, j9), (29, lB [.ptr 28 0, i64 2] false), (34, j10), (35, lB [.ptr 34 0, i64 2] false), (38, j11), (39, j12), (1082, .map [(i64 a, .ptr 6549 0, 0), (i64 (a + 1), .ptr 6568 0, 1)] 2), (1083, q6), (6299, .map [(i64 (a + 2), .str (rowX x), 0), (i64 a, .str (rowX y), 1)] 2), (6300, j14), (6532, j15), (6533, bb), (6549, lB [i64 a, sA 128 0, fV, i64 0] false), (6568, lB [i64 (a + 1), sA 128 0, fV, i64 0] false), (6572, bm), (6573, bt), (6574, bx), (6575, bw), (6577, bo), (6580, lB [.ptr 6549 0, .ptr 6568 0] true), (6581, bB 128 0 true)], 6582⟩
theorem r_n3dr1 (bb bm bt bx bw bo : Blk) (x y : Nat → Nat) : ∀ a : Nat, a < 8 → gcD I_n3dr1 (runF X1 116 (startH (X1.C.fs.get 17) 17 [.ptr 6300 0, i64 (a + 1)] (K20 bb bm bt bx bw bo x y a))) = .done (.tup [.slice 6581 0 128 (.own 1), i64 0]) (Z_n3dr1 bb bm bt bx bw bo x y a)
  | 0, _ => by as_aux_lemma => kernel_rfl
  | 1, _ => by as_aux_lemma => kernel_rfl
  | 2, _ => by as_aux_lemma => kernel_rfl
  | 3, _ => by as_aux_lemma => kernel_rfl
  | 4, _ => by as_aux_lemma => kernel_rfl
  | 5, _ => by as_aux_lemma => kernel_rfl
  | 6, _ => by as_aux_lemma => kernel_rfl
  | 7, _ => by as_aux_lemma => kernel_rfl
  | n + 8, h => absurd h (by omega)
theorem rd_n3dr1 {w0 : World} {Φ : Phi} {pJ : PB} {bb bm bt bx bw bo : Blk} {x y : Nat → Nat} {a : Nat} (ha : a < 8) (hbb : OkB 6576 bb) (hbm : OkB 6576 bm) (hbt : OkB 6576 bt) (hbx : OkB 6576 bx) (hbw : OkB 6576 bw) (hbo : OkB 6576 bo) (hJ : Φ 6300 = some pJ) (hj : Φ 6576 = none) (h0 : ∀ i, 6578 ≤ i → Φ i = none) : Reads w0 Φ (.pointer (some (pJ.addr 0))) (K20 bb bm bt bx bw bo x y a) (Int.ofNat (a + 1)) (fun _ => 0) (K21 bb bm bt bx bw bo x y a) :=
  reads_mv x1_right x1_has17 hJ (r_n3dr1 bb bm bt bx bw bo x y a ha) (by as_aux_lemma => kernel_rfl) hj h0 (Moves.ofL (L := (K21L bb bm bt bx bw bo x y a)) (c := 1083) (j := 6576) (i := 6580) (m := 6576) (nx := 6578) (B := lB [.ptr 6549 0, .ptr 6568 0] true) (a := .ptr 15 0) (b := i64 30) (d := .map 1082) (o := 0) (l := 2) (cap := .own 1) rfl (by kernel_rfl) (okBk_ok (by kernel_rfl)) (by kernel_rfl) (by kernel_rfl) rfl rfl rfl (by
    refine ?_
    repeat' (first | exact trivial | refine And.intro ?_ ?_)
    all_goals first | rfl | exact Or.inl rfl | exact Or.inr (Or.inl ⟨rfl, rfl⟩) | refine Or.inr (Or.inr ⟨rfl, ?_, ?_⟩)
    all_goals first | kernel_rfl | assumption | exact okBk_ok (by kernel_rfl)) (by decide))
def I_n3gr1 : List Nat := [0, 1, 2, 5, 7, 9, 11, 13, 14, 15, 16, 17, 22, 23, 28, 29, 34, 35, 38, 39, 1082, 1083, 6299, 6300, 6532, 6533, 6549, 6568, 6572, 6573, 6574, 6575, 6577, 6580, 6581]
def Z_n3gr1 (bb bm bt bx bw bo : Blk) (x y : Nat → Nat) (a : Nat) : H := ⟨ofPairs [(0, j0), (1, .map [] 298), (2, j20), (5, j2), (7, j3), (9, j4), (11, j5), (13, .map [] 29), (14, .map [] 29), (15, j6), (16, j7), (17, lB [.ptr 16 0, i64 2] false), (22, j8), (23, lB [.ptr 22 0, i64 2] false), (28, j9), (29, lB [.ptr 28 0, i64 2] false), (34, j10), (35, lB [.ptr 34 0, i64 2] false), (38, j11), (39, j12), (1082, .map [(i64 a, .ptr 6549 0, 0), (i64 (a + 1), .ptr 6568 0, 1)] 2), (1083, q6), (6299, .map [(i64 (a + 2), .str (rowX x), 0), (i64 a, .str (rowX y), 1)] 2), (6300, j14), (6532, j15), (6533, bb), (6549, lB [i64 a, sA 128 0, fV, i64 0] false), (6568, lB [i64 (a + 1), sA 128 0, fV, i64 0] false), (6572, bm), (6573, bt), (6574, bx), (6575, bw), (6577, bo), (6580, lB [.ptr 6549 0, .ptr 6568 0] true), (6581, bB 128 0 true)], 6582⟩
theorem r_n3gr1 (bb bm bt bx bw bo : Blk) (x y : Nat → Nat) : ∀ a : Nat, a < 8 → gcD I_n3gr1 (runF X1 115 (startH (X1.C.fs.get 17) 17 [.ptr 6300 0, i64 (a + 1)] (K21 bb bm bt bx bw bo x y a))) = .done (.tup [.slice 6581 0 128 (.own 1), i64 0]) (Z_n3gr1 bb bm bt bx bw bo x y a)
  | 0, _ => by as_aux_lemma => kernel_rfl
  | 1, _ => by as_aux_lemma => kernel_rfl
  | 2, _ => by as_aux_lemma => kernel_rfl
  | 3, _ => by as_aux_lemma => kernel_rfl
  | 4, _ => by as_aux_lemma => kernel_rfl
  | 5, _ => by as_aux_lemma => kernel_rfl
  | 6, _ => by as_aux_lemma => kernel_rfl
  | 7, _ => by as_aux_lemma => kernel_rfl
  | n + 8, h => absurd h (by omega)
theorem rd_n3gr1 {w0 : World} {Φ : Phi} {pJ : PB} {bb bm bt bx bw bo : Blk} {x y : Nat → Nat} {a : Nat} (ha : a < 8) (hbb : OkB 6576 bb) (hbm : OkB 6576 bm) (hbt : OkB 6576 bt) (hbx : OkB 6576 bx) (hbw : OkB 6576 bw) (hbo : OkB 6576 bo) (hJ : Φ 6300 = some pJ) (hj : Φ 6576 = none) (h0 : ∀ i, 6578 ≤ i → Φ i = none) : Reads w0 Φ (.pointer (some (pJ.addr 0))) (K21 bb bm bt bx bw bo x y a) (Int.ofNat (a + 1)) (fun _ => 0) (K21 bb bm bt bx bw bo x y a) :=
  reads_mv x1_right x1_has17 hJ (r_n3gr1 bb bm bt bx bw bo x y a ha) (by as_aux_lemma => kernel_rfl) hj h0 (Moves.ofL (L := (K21L bb bm bt bx bw bo x y a)) (c := 1083) (j := 6576) (i := 6580) (m := 6576) (nx := 6578) (B := lB [.ptr 6549 0, .ptr 6568 0] true) (a := .ptr 15 0) (b := i64 30) (d := .map 1082) (o := 0) (l := 2) (cap := .own 1) rfl (by kernel_rfl) (okBk_ok (by kernel_rfl)) (by kernel_rfl) (by kernel_rfl) rfl rfl rfl (by
    refine ?_
    repeat' (first | exact trivial | refine And.intro ?_ ?_)
    all_goals first | rfl | exact Or.inl rfl | exact Or.inr (Or.inl ⟨rfl, rfl⟩) | refine Or.inr (Or.inr ⟨rfl, ?_, ?_⟩)
    all_goals first | kernel_rfl | assumption | exact okBk_ok (by kernel_rfl)) (by decide))
def I_n3dr0 : List Nat := [0, 1, 2, 5, 7, 9, 11, 13, 14, 15, 16, 17, 22, 23, 28, 29, 34, 35, 38, 39, 1082, 1083, 6299, 6300, 6532, 6533, 6549, 6568, 6572, 6573, 6574, 6575, 6576, 6577, 6578]
def Z_n3dr0 (bb bm bt bx bw bo : Blk) (x y : Nat → Nat) (a : Nat) : H := ⟨ofPairs [(0, j0), (1, .map [] 298), (2, j20), (5, j2), (7, j3), (9, j4), (11, j5), (13, .map [] 29), (14, .map [] 29), (15, j6), (16, j7), (17, lB [.ptr 16 0, i64 2] false), (22, j8), (23, lB [.ptr 22 0, i64 2] false), (28, j9), (29, lB [.ptr 28 0, i64 2] false), (34, j10), (35, lB [.ptr 34 0, i64 2] false), (38, j11), (39, j12), (1082, .map [(i64 a, .ptr 6549 0, 0), (i64 (a + 1), .ptr 6568 0, 1)] 2), (1083, q4), (6299, .map [(i64 (a + 2), .str (rowX x), 0), (i64 a, .str (rowX y), 1)] 2), (6300, j14), (6532, j15), (6533, bb), (6549, lB [i64 a, sA 128 0, fV, i64 0] false), (6568, lB [i64 (a + 1), sA 128 0, fV, i64 0] false), (6572, bm), (6573, bt), (6574, bx), (6575, bw), (6576, lB [.ptr 6568 0, .ptr 6549 0] true), (6577, bo), (6578, rB y true)], 6579⟩
theorem r_n3dr0 (bb bm bt bx bw bo : Blk) (x y : Nat → Nat) : ∀ a : Nat, a < 8 → gcD I_n3dr0 (runF X1 38 (startH (X1.C.fs.get 17) 17 [.ptr 6300 0, i64 a] (K20 bb bm bt bx bw bo x y a))) = .done (.tup [.slice 6578 0 128 (.own 1), i64 0]) (Z_n3dr0 bb bm bt bx bw bo x y a)
  | 0, _ => by as_aux_lemma => kernel_rfl
  | 1, _ => by as_aux_lemma => kernel_rfl
  | 2, _ => by as_aux_lemma => kernel_rfl
  | 3, _ => by as_aux_lemma => kernel_rfl
  | 4, _ => by as_aux_lemma => kernel_rfl
  | 5, _ => by as_aux_lemma => kernel_rfl
  | 6, _ => by as_aux_lemma => kernel_rfl
  | 7, _ => by as_aux_lemma => kernel_rfl
  | n + 8, h => absurd h (by omega)
theorem rd_n3dr0 {w0 : World} {Φ : Phi} {pJ : PB} {bb bm bt bx bw bo : Blk} {x y : Nat → Nat} {a : Nat} (ha : a < 8) (hbb : OkB 6578 bb) (hbm : OkB 6578 bm) (hbt : OkB 6578 bt) (hbx : OkB 6578 bx) (hbw : OkB 6578 bw) (hbo : OkB 6578 bo) (hJ : Φ 6300 = some pJ) (h0 : ∀ i, 6578 ≤ i → Φ i = none) : Reads w0 Φ (.pointer (some (pJ.addr 0))) (K20 bb bm bt bx bw bo x y a) (Int.ofNat a) y (K20 bb bm bt bx bw bo x y a) :=
  reads_of x1_right x1_has17 hJ (r_n3dr0 bb bm bt bx bw bo x y a ha) (by as_aux_lemma => kernel_rfl) h0 (Subs.sub (l := (K20L bb bm bt bx bw bo x y a)) (by
    refine ?_
    repeat' (first | exact trivial | refine And.intro ?_ ?_)
    all_goals first | kernel_rfl | assumption | exact okBk_ok (by kernel_rfl)))
def I_n3dw0 : List Nat := [0, 1, 2, 5, 7, 9, 11, 13, 14, 15, 16, 17, 22, 23, 28, 29, 34, 35, 38, 39, 1082, 1083, 6299, 6300, 6532, 6533, 6549, 6568, 6572, 6573, 6574, 6575, 6576, 6577]
def Z_n3dw0 (bb bm bt bx bw bo : Blk) (x z : Nat → Nat) (a : Nat) : H := ⟨ofPairs [(0, j0), (1, .map [] 298), (2, j20), (5, j2), (7, j3), (9, j4), (11, j5), (13, .map [] 29), (14, .map [] 29), (15, j6), (16, j7), (17, lB [.ptr 16 0, i64 2] false), (22, j8), (23, lB [.ptr 22 0, i64 2] false), (28, j9), (29, lB [.ptr 28 0, i64 2] false), (34, j10), (35, lB [.ptr 34 0, i64 2] false), (38, j11), (39, j12), (1082, .map [(i64 a, .ptr 6549 0, 0), (i64 (a + 1), .ptr 6568 0, 1)] 2), (1083, q4), (6299, .map [(i64 (a + 2), .str (rowX x), 0), (i64 a, .str (rowX (m8 z)), 1)] 2), (6300, j14), (6532, j15), (6533, bb), (6549, lB [i64 a, sA 128 0, fV, i64 0] false), (6568, lB [i64 (a + 1), sA 128 0, fV, i64 0] false), (6572, bm), (6573, bt), (6574, bx), (6575, bw), (6576, lB [.ptr 6568 0, .ptr 6549 0] true), (6577, bo)], 6579⟩
def Q_n3dw0 (bb bm bt bx bw bo : Blk) (x y z : Nat → Nat) (a : Nat) : H := ⟨ofPairs [(0, j0), (1, .map [] 298), (2, j20), (5, j2), (7, j3), (9, j4), (11, j5), (13, .map [] 29), (14, .map [] 29), (15, j6), (16, j7), (17, lB [.ptr 16 0, i64 2] false), (22, j8), (23, lB [.ptr 22 0, i64 2] false), (28, j9), (29, lB [.ptr 28 0, i64 2] false), (34, j10), (35, lB [.ptr 34 0, i64 2] false), (38, j11), (39, j12), (1082, .map [(i64 a, .ptr 6549 0, 0), (i64 (a + 1), .ptr 6568 0, 1)] 2), (1083, q4), (6299, .map [(i64 (a + 2), .str (rowX x), 0), (i64 a, .str (rowX y), 1)] 2), (6300, j14), (6532, j15), (6533, bb), (6549, lB [i64 a, sA 128 0, fV, i64 0] false), (6568, lB [i64 (a + 1), sA 128 0, fV, i64 0] false), (6572, bm), (6573, bt), (6574, bx), (6575, bw), (6576, lB [.ptr 6568 0, .ptr 6549 0] true), (6577, bo), (6578, rB z false)], 6579⟩
theorem r_n3dw0 (bb bm bt bx bw bo : Blk) (x y z : Nat → Nat) : ∀ a : Nat, a < 8 → gcD I_n3dw0 (runF X1 40 (startH (X1.C.fs.get 13) 13 [.ptr 6300 0, i64 a, .slice 6578 0 128 (.own 1)] (Q_n3dw0 bb bm bt bx bw bo x y z a))) = .done (i64 0) (Z_n3dw0 bb bm bt bx bw bo x z a)
  | 0, _ => by as_aux_lemma => kernel_rfl
  | 1, _ => by as_aux_lemma => kernel_rfl
  | 2, _ => by as_aux_lemma => kernel_rfl
  | 3, _ => by as_aux_lemma => kernel_rfl
  | 4, _ => by as_aux_lemma => kernel_rfl
  | 5, _ => by as_aux_lemma => kernel_rfl
  | 6, _ => by as_aux_lemma => kernel_rfl
  | 7, _ => by as_aux_lemma => kernel_rfl
  | n + 8, h => absurd h (by omega)
theorem wr_n3dw0 {w0 : World} {Φ : Phi} {pJ : PB} {bb bm bt bx bw bo : Blk} {x y z : Nat → Nat} {a : Nat} (ha : a < 8) (hbb : OkB 6578 bb) (hbm : OkB 6578 bm) (hbt : OkB 6578 bt) (hbx : OkB 6578 bx) (hbw : OkB 6578 bw) (hbo : OkB 6578 bo) (hJ : Φ 6300 = some pJ) (h0 : ∀ i, 6578 ≤ i → Φ i = none) : Writes w0 Φ (.pointer (some (pJ.addr 0))) (K20 bb bm bt bx bw bo x y a) (Int.ofNat a) z (K20 bb bm bt bx bw bo x (m8 z) a) :=
  writes_of2 (nx := 6578) (h1 := (Z_n3dw0 bb bm bt bx bw bo x z a)) hJ rfl (hw := (Q_n3dw0 bb bm bt bx bw bo x y z a)) (by as_aux_lemma => kernel_rfl) (r_n3dw0 bb bm bt bx bw bo x y z a ha) h0 (Subs.sub (l := (K20L bb bm bt bx bw bo x (m8 z) a)) (by
    refine ?_
    repeat' (first | exact trivial | refine And.intro ?_ ?_)
    all_goals first | kernel_rfl | assumption | exact okBk_ok (by kernel_rfl)))
def I_n3gr0 : List Nat := [0, 1, 2, 5, 7, 9, 11, 13, 14, 15, 16, 17, 22, 23, 28, 29, 34, 35, 38, 39, 1082, 1083, 6299, 6300, 6532, 6533, 6549, 6568, 6572, 6573, 6574, 6575, 6576, 6577, 6578]
def Z_n3gr0 (bb bm bt bx bw bo : Blk) (x y : Nat → Nat) (a : Nat) : H := ⟨ofPairs [(0, j0), (1, .map [] 298), (2, j20), (5, j2), (7, j3), (9, j4), (11, j5), (13, .map [] 29), (14, .map [] 29), (15, j6), (16, j7), (17, lB [.ptr 16 0, i64 2] false), (22, j8), (23, lB [.ptr 22 0, i64 2] false), (28, j9), (29, lB [.ptr 28 0, i64 2] false), (34, j10), (35, lB [.ptr 34 0, i64 2] false), (38, j11), (39, j12), (1082, .map [(i64 a, .ptr 6549 0, 0), (i64 (a + 1), .ptr 6568 0, 1)] 2), (1083, q4), (6299, .map [(i64 (a + 2), .str (rowX x), 0), (i64 a, .str (rowX y), 1)] 2), (6300, j14), (6532, j15), (6533, bb), (6549, lB [i64 a, sA 128 0, fV, i64 0] false), (6568, lB [i64 (a + 1), sA 128 0, fV, i64 0] false), (6572, bm), (6573, bt), (6574, bx), (6575, bw), (6576, lB [.ptr 6549 0, .ptr 6568 0] true), (6577, bo), (6578, rB y true)], 6579⟩
theorem r_n3gr0 (bb bm bt bx bw bo : Blk) (x y : Nat → Nat) : ∀ a : Nat, a < 8 → gcD I_n3gr0 (runF X1 38 (startH (X1.C.fs.get 17) 17 [.ptr 6300 0, i64 a] (K21 bb bm bt bx bw bo x y a))) = .done (.tup [.slice 6578 0 128 (.own 1), i64 0]) (Z_n3gr0 bb bm bt bx bw bo x y a)
  | 0, _ => by as_aux_lemma => kernel_rfl
  | 1, _ => by as_aux_lemma => kernel_rfl
  | 2, _ => by as_aux_lemma => kernel_rfl
  | 3, _ => by as_aux_lemma => kernel_rfl
  | 4, _ => by as_aux_lemma => kernel_rfl
  | 5, _ => by as_aux_lemma => kernel_rfl
  | 6, _ => by as_aux_lemma => kernel_rfl
  | 7, _ => by as_aux_lemma => kernel_rfl
  | n + 8, h => absurd h (by omega)
theorem rd_n3gr0 {w0 : World} {Φ : Phi} {pJ : PB} {bb bm bt bx bw bo : Blk} {x y : Nat → Nat} {a : Nat} (ha : a < 8) (hbb : OkB 6578 bb) (hbm : OkB 6578 bm) (hbt : OkB 6578 bt) (hbx : OkB 6578 bx) (hbw : OkB 6578 bw) (hbo : OkB 6578 bo) (hJ : Φ 6300 = some pJ) (h0 : ∀ i, 6578 ≤ i → Φ i = none) : Reads w0 Φ (.pointer (some (pJ.addr 0))) (K21 bb bm bt bx bw bo x y a) (Int.ofNat a) y (K21 bb bm bt bx bw bo x y a) :=
  reads_of x1_right x1_has17 hJ (r_n3gr0 bb bm bt bx bw bo x y a ha) (by as_aux_lemma => kernel_rfl) h0 (Subs.sub (l := (K21L bb bm bt bx bw bo x y a)) (by
    refine ?_
    repeat' (first | exact trivial | refine And.intro ?_ ?_)
    all_goals first | kernel_rfl | assumption | exact okBk_ok (by kernel_rfl)))
def I_n3gw0 : List Nat := [0, 1, 2, 5, 7, 9, 11, 13, 14, 15, 16, 17, 22, 23, 28, 29, 34, 35, 38, 39, 1082, 1083, 6299, 6300, 6532, 6533, 6549, 6568, 6572, 6573, 6574, 6575, 6576, 6577]
def Z_n3gw0 (bb bm bt bx bw bo : Blk) (x z : Nat → Nat) (a : Nat) : H := ⟨ofPairs [(0, j0), (1, .map [] 298), (2, j20), (5, j2), (7, j3), (9, j4), (11, j5), (13, .map [] 29), (14, .map [] 29), (15, j6), (16, j7), (17, lB [.ptr 16 0, i64 2] false), (22, j8), (23, lB [.ptr 22 0, i64 2] false), (28, j9), (29, lB [.ptr 28 0, i64 2] false), (34, j10), (35, lB [.ptr 34 0, i64 2] false), (38, j11), (39, j12), (1082, .map [(i64 a, .ptr 6549 0, 0), (i64 (a + 1), .ptr 6568 0, 1)] 2), (1083, q4), (6299, .map [(i64 (a + 2), .str (rowX x), 0), (i64 a, .str (rowX (m8 z)), 1)] 2), (6300, j14), (6532, j15), (6533, bb), (6549, lB [i64 a, sA 128 0, fV, i64 0] false), (6568, lB [i64 (a + 1), sA 128 0, fV, i64 0] false), (6572, bm), (6573, bt), (6574, bx), (6575, bw), (6576, lB [.ptr 6549 0, .ptr 6568 0] true), (6577, bo)], 6579⟩
def Q_n3gw0 (bb bm bt bx bw bo : Blk) (x y z : Nat → Nat) (a : Nat) : H := ⟨ofPairs [(0, j0), (1, .map [] 298), (2, j20), (5, j2), (7, j3), (9, j4), (11, j5), (13, .map [] 29), (14, .map [] 29), (15, j6), (16, j7), (17, lB [.ptr 16 0, i64 2] false), (22, j8), (23, lB [.ptr 22 0, i64 2] false), (28, j9), (29, lB [.ptr 28 0, i64 2] false), (34, j10), (35, lB [.ptr 34 0, i64 2] false), (38, j11), (39, j12), (1082, .map [(i64 a, .ptr 6549 0, 0), (i64 (a + 1), .ptr 6568 0, 1)] 2), (1083, q4), (6299, .map [(i64 (a + 2), .str (rowX x), 0), (i64 a, .str (rowX y), 1)] 2), (6300, j14), (6532, j15), (6533, bb), (6549, lB [i64 a, sA 128 0, fV, i64 0] false), (6568, lB [i64 (a + 1), sA 128 0, fV, i64 0] false), (6572, bm), (6573, bt), (6574, bx), (6575, bw), (6576, lB [.ptr 6549 0, .ptr 6568 0] true), (6577, bo), (6578, rB z false)], 6579⟩
theorem r_n3gw0 (bb bm bt bx bw bo : Blk) (x y z : Nat → Nat) : ∀ a : Nat, a < 8 → gcD I_n3gw0 (runF X1 40 (startH (X1.C.fs.get 13) 13 [.ptr 6300 0, i64 a, .slice 6578 0 128 (.own 1)] (Q_n3gw0 bb bm bt bx bw bo x y z a))) = .done (i64 0) (Z_n3gw0 bb bm bt bx bw bo x z a)
  | 0, _ => by as_aux_lemma => kernel_rfl
  | 1, _ => by as_aux_lemma => kernel_rfl
  | 2, _ => by as_aux_lemma => kernel_rfl
  | 3, _ => by as_aux_lemma => kernel_rfl
  | 4, _ => by as_aux_lemma => kernel_rfl
  | 5, _ => by as_aux_lemma => kernel_rfl
  | 6, _ => by as_aux_lemma => kernel_rfl
  | 7, _ => by as_aux_lemma => kernel_rfl
  | n + 8, h => absurd h (by omega)
theorem wr_n3gw0 {w0 : World} {Φ : Phi} {pJ : PB} {bb bm bt bx bw bo : Blk} {x y z : Nat → Nat} {a : Nat} (ha : a < 8) (hbb : OkB 6578 bb) (hbm : OkB 6578 bm) (hbt : OkB 6578 bt) (hbx : OkB 6578 bx) (hbw : OkB 6578 bw) (hbo : OkB 6578 bo) (hJ : Φ 6300 = some pJ) (h0 : ∀ i, 6578 ≤ i → Φ i = none) : Writes w0 Φ (.pointer (some (pJ.addr 0))) (K21 bb bm bt bx bw bo x y a) (Int.ofNat a) z (K21 bb bm bt bx bw bo x (m8 z) a) :=
  writes_of2 (nx := 6578) (h1 := (Z_n3gw0 bb bm bt bx bw bo x z a)) hJ rfl (hw := (Q_n3gw0 bb bm bt bx bw bo x y z a)) (by as_aux_lemma => kernel_rfl) (r_n3gw0 bb bm bt bx bw bo x y z a ha) h0 (Subs.sub (l := (K21L bb bm bt bx bw bo x (m8 z) a)) (by
    refine ?_
    repeat' (first | exact trivial | refine And.intro ?_ ?_)
    all_goals first | kernel_rfl | assumption | exact okBk_ok (by kernel_rfl)))
def I_n3dr2 : List Nat := [0, 1, 2, 5, 7, 9, 11, 13, 14, 15, 16, 17, 22, 23, 28, 29, 34, 35, 38, 39, 1082, 1083, 6299, 6300, 6532, 6533, 6549, 6568, 6572, 6573, 6574, 6575, 6576, 6577, 6578]
def Z_n3dr2 (bb bm bt bx bw bo : Blk) (x y : Nat → Nat) (a : Nat) : H := ⟨ofPairs [(0, j0), (1, .map [] 298), (2, j20), (5, j2), (7, j3), (9, j4), (11, j5), (13, .map [] 29), (14, .map [] 29), (15, j6), (16, j7), (17, lB [.ptr 16 0, i64 2] false), (22, j8), (23, lB [.ptr 22 0, i64 2] false), (28, j9), (29, lB [.ptr 28 0, i64 2] false), (34, j10), (35, lB [.ptr 34 0, i64 2] false), (38, j11), (39, j12), (1082, .map [(i64 a, .ptr 6549 0, 0), (i64 (a + 1), .ptr 6568 0, 1)] 2), (1083, q4), (6299, .map [(i64 (a + 2), .str (rowX x), 0), (i64 a, .str (rowX y), 1)] 2), (6300, j14), (6532, j15), (6533, bb), (6549, lB [i64 a, sA 128 0, fV, i64 0] false), (6568, lB [i64 (a + 1), sA 128 0, fV, i64 0] false), (6572, bm), (6573, bt), (6574, bx), (6575, bw), (6576, lB [.ptr 6568 0, .ptr 6549 0] true), (6577, bo), (6578, rB x true)], 6579⟩
theorem r_n3dr2 (bb bm bt bx bw bo : Blk) (x y : Nat → Nat) : ∀ a : Nat, a < 8 → gcD I_n3dr2 (runF X1 38 (startH (X1.C.fs.get 17) 17 [.ptr 6300 0, i64 (a + 2)] (K20 bb bm bt bx bw bo x y a))) = .done (.tup [.slice 6578 0 128 (.own 1), i64 0]) (Z_n3dr2 bb bm bt bx bw bo x y a)
  | 0, _ => by as_aux_lemma => kernel_rfl
  | 1, _ => by as_aux_lemma => kernel_rfl
  | 2, _ => by as_aux_lemma => kernel_rfl
  | 3, _ => by as_aux_lemma => kernel_rfl
  | 4, _ => by as_aux_lemma => kernel_rfl
  | 5, _ => by as_aux_lemma => kernel_rfl
  | 6, _ => by as_aux_lemma => kernel_rfl
  | 7, _ => by as_aux_lemma => kernel_rfl
  | n + 8, h => absurd h (by omega)
theorem rd_n3dr2 {w0 : World} {Φ : Phi} {pJ : PB} {bb bm bt bx bw bo : Blk} {x y : Nat → Nat} {a : Nat} (ha : a < 8) (hbb : OkB 6578 bb) (hbm : OkB 6578 bm) (hbt : OkB 6578 bt) (hbx : OkB 6578 bx) (hbw : OkB 6578 bw) (hbo : OkB 6578 bo) (hJ : Φ 6300 = some pJ) (h0 : ∀ i, 6578 ≤ i → Φ i = none) : Reads w0 Φ (.pointer (some (pJ.addr 0))) (K20 bb bm bt bx bw bo x y a) (Int.ofNat (a + 2)) x (K20 bb bm bt bx bw bo x y a) :=
  reads_of x1_right x1_has17 hJ (r_n3dr2 bb bm bt bx bw bo x y a ha) (by as_aux_lemma => kernel_rfl) h0 (Subs.sub (l := (K20L bb bm bt bx bw bo x y a)) (by
    refine ?_
    repeat' (first | exact trivial | refine And.intro ?_ ?_)
    all_goals first | kernel_rfl | assumption | exact okBk_ok (by kernel_rfl)))
def I_n3dw2 : List Nat := [0, 1, 2, 5, 7, 9, 11, 13, 14, 15, 16, 17, 22, 23, 28, 29, 34, 35, 38, 39, 1082, 1083, 6299, 6300, 6532, 6533, 6549, 6568, 6572, 6573, 6574, 6575, 6576, 6577]
def Z_n3dw2 (bb bm bt bx bw bo : Blk) (y z : Nat → Nat) (a : Nat) : H := ⟨ofPairs [(0, j0), (1, .map [] 298), (2, j20), (5, j2), (7, j3), (9, j4), (11, j5), (13, .map [] 29), (14, .map [] 29), (15, j6), (16, j7), (17, lB [.ptr 16 0, i64 2] false), (22, j8), (23, lB [.ptr 22 0, i64 2] false), (28, j9), (29, lB [.ptr 28 0, i64 2] false), (34, j10), (35, lB [.ptr 34 0, i64 2] false), (38, j11), (39, j12), (1082, .map [(i64 a, .ptr 6549 0, 0), (i64 (a + 1), .ptr 6568 0, 1)] 2), (1083, q4), (6299, .map [(i64 (a + 2), .str (rowX (m8 z)), 0), (i64 a, .str (rowX y), 1)] 2), (6300, j14), (6532, j15), (6533, bb), (6549, lB [i64 a, sA 128 0, fV, i64 0] false), (6568, lB [i64 (a + 1), sA 128 0, fV, i64 0] false), (6572, bm), (6573, bt), (6574, bx), (6575, bw), (6576, lB [.ptr 6568 0, .ptr 6549 0] true), (6577, bo)], 6579⟩
def Q_n3dw2 (bb bm bt bx bw bo : Blk) (x y z : Nat → Nat) (a : Nat) : H := ⟨ofPairs [(0, j0), (1, .map [] 298), (2, j20), (5, j2), (7, j3), (9, j4), (11, j5), (13, .map [] 29), (14, .map [] 29), (15, j6), (16, j7), (17, lB [.ptr 16 0, i64 2] false), (22, j8), (23, lB [.ptr 22 0, i64 2] false), (28, j9), (29, lB [.ptr 28 0, i64 2] false), (34, j10), (35, lB [.ptr 34 0, i64 2] false), (38, j11), (39, j12), (1082, .map [(i64 a, .ptr 6549 0, 0), (i64 (a + 1), .ptr 6568 0, 1)] 2), (1083, q4), (6299, .map [(i64 (a + 2), .str (rowX x), 0), (i64 a, .str (rowX y), 1)] 2), (6300, j14), (6532, j15), (6533, bb), (6549, lB [i64 a, sA 128 0, fV, i64 0] false), (6568, lB [i64 (a + 1), sA 128 0, fV, i64 0] false), (6572, bm), (6573, bt), (6574, bx), (6575, bw), (6576, lB [.ptr 6568 0, .ptr 6549 0] true), (6577, bo), (6578, rB z false)], 6579⟩
theorem r_n3dw2 (bb bm bt bx bw bo : Blk) (x y z : Nat → Nat) : ∀ a : Nat, a < 8 → gcD I_n3dw2 (runF X1 40 (startH (X1.C.fs.get 13) 13 [.ptr 6300 0, i64 (a + 2), .slice 6578 0 128 (.own 1)] (Q_n3dw2 bb bm bt bx bw bo x y z a))) = .done (i64 0) (Z_n3dw2 bb bm bt bx bw bo y z a)
  | 0, _ => by as_aux_lemma => kernel_rfl
  | 1, _ => by as_aux_lemma => kernel_rfl
  | 2, _ => by as_aux_lemma => kernel_rfl
  | 3, _ => by as_aux_lemma => kernel_rfl
  | 4, _ => by as_aux_lemma => kernel_rfl
  | 5, _ => by as_aux_lemma => kernel_rfl
  | 6, _ => by as_aux_lemma => kernel_rfl
  | 7, _ => by as_aux_lemma => kernel_rfl
  | n + 8, h => absurd h (by omega)
theorem wr_n3dw2 {w0 : World} {Φ : Phi} {pJ : PB} {bb bm bt bx bw bo : Blk} {x y z : Nat → Nat} {a : Nat} (ha : a < 8) (hbb : OkB 6578 bb) (hbm : OkB 6578 bm) (hbt : OkB 6578 bt) (hbx : OkB 6578 bx) (hbw : OkB 6578 bw) (hbo : OkB 6578 bo) (hJ : Φ 6300 = some pJ) (h0 : ∀ i, 6578 ≤ i → Φ i = none) : Writes w0 Φ (.pointer (some (pJ.addr 0))) (K20 bb bm bt bx bw bo x y a) (Int.ofNat (a + 2)) z (K20 bb bm bt bx bw bo (m8 z) y a) :=
  writes_of2 (nx := 6578) (h1 := (Z_n3dw2 bb bm bt bx bw bo y z a)) hJ rfl (hw := (Q_n3dw2 bb bm bt bx bw bo x y z a)) (by as_aux_lemma => kernel_rfl) (r_n3dw2 bb bm bt bx bw bo x y z a ha) h0 (Subs.sub (l := (K20L bb bm bt bx bw bo (m8 z) y a)) (by
    refine ?_
    repeat' (first | exact trivial | refine And.intro ?_ ?_)
    all_goals first | kernel_rfl | assumption | exact okBk_ok (by kernel_rfl)))
def I_n3gr2 : List Nat := [0, 1, 2, 5, 7, 9, 11, 13, 14, 15, 16, 17, 22, 23, 28, 29, 34, 35, 38, 39, 1082, 1083, 6299, 6300, 6532, 6533, 6549, 6568, 6572, 6573, 6574, 6575, 6576, 6577, 6578]
def Z_n3gr2 (bb bm bt bx bw bo : Blk) (x y : Nat → Nat) (a : Nat) : H := ⟨ofPairs [(0, j0), (1, .map [] 298), (2, j20), (5, j2), (7, j3), (9, j4), (11, j5), (13, .map [] 29), (14, .map [] 29), (15, j6), (16, j7), (17, lB [.ptr 16 0, i64 2] false), (22, j8), (23, lB [.ptr 22 0, i64 2] false), (28, j9), (29, lB [.ptr 28 0, i64 2] false), (34, j10), (35, lB [.ptr 34 0, i64 2] false), (38, j11), (39, j12), (1082, .map [(i64 a, .ptr 6549 0, 0), (i64 (a + 1), .ptr 6568 0, 1)] 2), (1083, q4), (6299, .map [(i64 (a + 2), .str (rowX x), 0), (i64 a, .str (rowX y), 1)] 2), (6300, j14), (6532, j15), (6533, bb), (6549, lB [i64 a, sA 128 0, fV, i64 0] false), (6568, lB [i64 (a + 1), sA 128 0, fV, i64 0] false), (6572, bm), (6573, bt), (6574, bx), (6575, bw), (6576, lB [.ptr 6549 0, .ptr 6568 0] true), (6577, bo), (6578, rB x true)], 6579⟩
theorem r_n3gr2 (bb bm bt bx bw bo : Blk) (x y : Nat → Nat) : ∀ a : Nat, a < 8 → gcD I_n3gr2 (runF X1 38 (startH (X1.C.fs.get 17) 17 [.ptr 6300 0, i64 (a + 2)] (K21 bb bm bt bx bw bo x y a))) = .done (.tup [.slice 6578 0 128 (.own 1), i64 0]) (Z_n3gr2 bb bm bt bx bw bo x y a)
  | 0, _ => by as_aux_lemma => kernel_rfl
  | 1, _ => by as_aux_lemma => kernel_rfl
  | 2, _ => by as_aux_lemma => kernel_rfl
  | 3, _ => by as_aux_lemma => kernel_rfl
  | 4, _ => by as_aux_lemma => kernel_rfl
  | 5, _ => by as_aux_lemma => kernel_rfl
  | 6, _ => by as_aux_lemma => kernel_rfl
  | 7, _ => by as_aux_lemma => kernel_rfl
  | n + 8, h => absurd h (by omega)
theorem rd_n3gr2 {w0 : World} {Φ : Phi} {pJ : PB} {bb bm bt bx bw bo : Blk} {x y : Nat → Nat} {a : Nat} (ha : a < 8) (hbb : OkB 6578 bb) (hbm : OkB 6578 bm) (hbt : OkB 6578 bt) (hbx : OkB 6578 bx) (hbw : OkB 6578 bw) (hbo : OkB 6578 bo) (hJ : Φ 6300 = some pJ) (h0 : ∀ i, 6578 ≤ i → Φ i = none) : Reads w0 Φ (.pointer (some (pJ.addr 0))) (K21 bb bm bt bx bw bo x y a) (Int.ofNat (a + 2)) x (K21 bb bm bt bx bw bo x y a) :=
  reads_of x1_right x1_has17 hJ (r_n3gr2 bb bm bt bx bw bo x y a ha) (by as_aux_lemma => kernel_rfl) h0 (Subs.sub (l := (K21L bb bm bt bx bw bo x y a)) (by
    refine ?_
    repeat' (first | exact trivial | refine And.intro ?_ ?_)
    all_goals first | kernel_rfl | assumption | exact okBk_ok (by kernel_rfl)))
def I_n3gw2 : List Nat := [0, 1, 2, 5, 7, 9, 11, 13, 14, 15, 16, 17, 22, 23, 28, 29, 34, 35, 38, 39, 1082, 1083, 6299, 6300, 6532, 6533, 6549, 6568, 6572, 6573, 6574, 6575, 6576, 6577]
def Z_n3gw2 (bb bm bt bx bw bo : Blk) (y z : Nat → Nat) (a : Nat) : H := ⟨ofPairs [(0, j0), (1, .map [] 298), (2, j20), (5, j2), (7, j3), (9, j4), (11, j5), (13, .map [] 29), (14, .map [] 29), (15, j6), (16, j7), (17, lB [.ptr 16 0, i64 2] false), (22, j8), (23, lB [.ptr 22 0, i64 2] false), (28, j9), (29, lB [.ptr 28 0, i64 2] false), (34, j10), (35, lB [.ptr 34 0, i64 2] false), (38, j11), (39, j12), (1082, .map [(i64 a, .ptr 6549 0, 0), (i64 (a + 1), .ptr 6568 0, 1)] 2), (1083, q4), (6299, .map [(i64 (a + 2), .str (rowX (m8 z)), 0), (i64 a, .str (rowX y), 1)] 2), (6300, j14), (6532, j15), (6533, bb), (6549, lB [i64 a, sA 128 0, fV, i64 0] false), (6568, lB [i64 (a + 1), sA 128 0, fV, i64 0] false), (6572, bm), (6573, bt), (6574, bx), (6575, bw), (6576, lB [.ptr 6549 0, .ptr 6568 0] true), (6577, bo)], 6579⟩
def Q_n3gw2 (bb bm bt bx bw bo : Blk) (x y z : Nat → Nat) (a : Nat) : H := ⟨ofPairs [(0, j0), (1, .map [] 298), (2, j20), (5, j2), (7, j3), (9, j4), (11, j5), (13, .map [] 29), (14, .map [] 29), (15, j6), (16, j7), (17, lB [.ptr 16 0, i64 2] false), (22, j8), (23, lB [.ptr 22 0, i64 2] false), (28, j9), (29, lB [.ptr 28 0, i64 2] false), (34, j10), (35, lB [.ptr 34 0, i64 2] false), (38, j11), (39, j12), (1082, .map [(i64 a, .ptr 6549 0, 0), (i64 (a + 1), .ptr 6568 0, 1)] 2), (1083, q4), (6299, .map [(i64 (a + 2), .str (rowX x), 0), (i64 a, .str (rowX y), 1)] 2), (6300, j14), (6532, j15), (6533, bb), (6549, lB [i64 a, sA 128 0, fV, i64 0] false), (6568, lB [i64 (a + 1), sA 128 0, fV, i64 0] false), (6572, bm), (6573, bt), (6574, bx), (6575, bw), (6576, lB [.ptr 6549 0, .ptr 6568 0] true), (6577, bo), (6578, rB z false)], 6579⟩
theorem r_n3gw2 (bb bm bt bx bw bo : Blk) (x y z : Nat → Nat) : ∀ a : Nat, a < 8 → gcD I_n3gw2 (runF X1 40 (startH (X1.C.fs.get 13) 13 [.ptr 6300 0, i64 (a + 2), .slice 6578 0 128 (.own 1)] (Q_n3gw2 bb bm bt bx bw bo x y z a))) = .done (i64 0) (Z_n3gw2 bb bm bt bx bw bo y z a)
  | 0, _ => by as_aux_lemma => kernel_rfl
  | 1, _ => by as_aux_lemma => kernel_rfl
  | 2, _ => by as_aux_lemma => kernel_rfl
  | 3, _ => by as_aux_lemma => kernel_rfl
  | 4, _ => by as_aux_lemma => kernel_rfl
  | 5, _ => by as_aux_lemma => kernel_rfl
  | 6, _ => by as_aux_lemma => kernel_rfl
  | 7, _ => by as_aux_lemma => kernel_rfl
  | n + 8, h => absurd h (by omega)
theorem wr_n3gw2 {w0 : World} {Φ : Phi} {pJ : PB} {bb bm bt bx bw bo : Blk} {x y z : Nat → Nat} {a : Nat} (ha : a < 8) (hbb : OkB 6578 bb) (hbm : OkB 6578 bm) (hbt : OkB 6578 bt) (hbx : OkB 6578 bx) (hbw : OkB 6578 bw) (hbo : OkB 6578 bo) (hJ : Φ 6300 = some pJ) (h0 : ∀ i, 6578 ≤ i → Φ i = none) : Writes w0 Φ (.pointer (some (pJ.addr 0))) (K21 bb bm bt bx bw bo x y a) (Int.ofNat (a + 2)) z (K21 bb bm bt bx bw bo (m8 z) y a) :=
  writes_of2 (nx := 6578) (h1 := (Z_n3gw2 bb bm bt bx bw bo y z a)) hJ rfl (hw := (Q_n3gw2 bb bm bt bx bw bo x y z a)) (by as_aux_lemma => kernel_rfl) (r_n3gw2 bb bm bt bx bw bo x y z a ha) h0 (Subs.sub (l := (K21L bb bm bt bx bw bo (m8 z) y a)) (by
    refine ?_
    repeat' (first | exact trivial | refine And.intro ?_ ?_)
    all_goals first | kernel_rfl | assumption | exact okBk_ok (by kernel_rfl)))
end
end Go.Proofs.YteaacjabcfopgaaGreat.Run
