/-
  Stages of the heap, and what Read and Write do at each.
-/
import Derived.Test.YteaacjabcfopgaaGreatHf
import Derived.KernelRfl
namespace Go.Proofs.YteaacjabcfopgaaGreat.Run
open Go Go.Proofs.YteaacjabcfopgaaGreat.Am Go.Proofs.YteaacjabcfopgaaGreat.Am.G Go.RowKit Go.Proofs Go.Proofs.YteaacjabcfopgaaGreat.PQ
set_option maxRecDepth 1000000
set_option maxHeartbeats 4000000
set_option linter.unusedVariables false
noncomputable section
def HB0 : H := ⟨ofPairs [(0, j0), (1, .map [] 298), (2, j1), (5, j2), (7, j3), (9, j4), (11, j5), (13, .map [] 29), (14, .map [] 29), (15, j6), (16, j7), (17, lB [.ptr 16 0, i64 2] false), (22, j8), (23, lB [.ptr 22 0, i64 2] false), (28, j9), (29, lB [.ptr 28 0, i64 2] false), (34, j10), (35, lB [.ptr 34 0, i64 2] false), (38, j11), (39, j12), (1082, .map [] 0), (1083, j13), (6299, .map [] 0), (6300, j14), (6532, j15)], 6533⟩
def E1 : H := ⟨ofPairs [(0, j0), (1, .map [] 298), (2, j16), (5, j2), (7, j3), (9, j4), (11, j5), (13, .map [] 29), (14, .map [] 29), (15, j6), (16, j7), (17, lB [.ptr 16 0, i64 2] false), (22, j8), (23, lB [.ptr 22 0, i64 2] false), (28, j9), (29, lB [.ptr 28 0, i64 2] false), (34, j10), (35, lB [.ptr 34 0, i64 2] false), (38, j11), (39, j12), (1082, .map [(i64 0, .ptr 6548 0, 0)] 1), (1083, j17), (6299, .map [] 0), (6300, j14), (6532, j15), (6548, lB [i64 0, sA 128 0, fV, i64 0] false), (6551, lB [.ptr 6548 0] false)], 6553⟩
def E2 (bm bt : Blk) : H := ⟨ofPairs [(0, j0), (1, .map [] 298), (2, j16), (5, j2), (7, j3), (9, j4), (11, j5), (13, .map [] 29), (14, .map [] 29), (15, j6), (16, j7), (17, lB [.ptr 16 0, i64 2] false), (22, j8), (23, lB [.ptr 22 0, i64 2] false), (28, j9), (29, lB [.ptr 28 0, i64 2] false), (34, j10), (35, lB [.ptr 34 0, i64 2] false), (38, j11), (39, j12), (1082, .map [(i64 0, .ptr 6548 0, 0)] 1), (1083, j17), (6299, .map [] 0), (6300, j14), (6532, j15), (6548, lB [i64 0, sA 128 0, fV, i64 0] false), (6551, lB [.ptr 6548 0] false), (6553, bm), (6554, bt)], 6555⟩
def E3 (bm bt : Blk) : H := ⟨ofPairs [(0, j0), (1, .map [] 298), (2, j16), (5, j2), (7, j3), (9, j4), (11, j5), (13, .map [] 29), (14, .map [] 29), (15, j6), (16, j7), (17, lB [.ptr 16 0, i64 2] false), (22, j8), (23, lB [.ptr 22 0, i64 2] false), (28, j9), (29, lB [.ptr 28 0, i64 2] false), (34, j10), (35, lB [.ptr 34 0, i64 2] false), (38, j11), (39, j12), (1082, .map [(i64 0, .ptr 6548 0, 0)] 1), (1083, j18), (6299, .map [] 0), (6300, j14), (6532, j15), (6548, lB [i64 0, sA 128 0, fV, i64 0] false), (6553, bm), (6554, bt), (6557, lB [.ptr 6548 0] true)], 6559⟩
def E4 (bm bt : Blk) : H := ⟨ofPairs [(0, j0), (1, .map [] 298), (2, j16), (5, j2), (7, j3), (9, j4), (11, j5), (13, .map [] 29), (14, .map [] 29), (15, j6), (16, j7), (17, lB [.ptr 16 0, i64 2] false), (22, j8), (23, lB [.ptr 22 0, i64 2] false), (28, j9), (29, lB [.ptr 28 0, i64 2] false), (34, j10), (35, lB [.ptr 34 0, i64 2] false), (38, j11), (39, j12), (1082, .map [(i64 0, .ptr 6548 0, 0)] 1), (1083, j19), (6299, .map [] 0), (6300, j14), (6532, j15), (6548, lB [i64 0, sA 128 0, fV, i64 0] false), (6553, bm), (6554, bt), (6561, lB [.ptr 6548 0] true)], 6563⟩
def E5 (bm bt : Blk) (x : Nat → Nat) : H := ⟨ofPairs [(0, j0), (1, .map [] 298), (2, j16), (5, j2), (7, j3), (9, j4), (11, j5), (13, .map [] 29), (14, .map [] 29), (15, j6), (16, j7), (17, lB [.ptr 16 0, i64 2] false), (22, j8), (23, lB [.ptr 22 0, i64 2] false), (28, j9), (29, lB [.ptr 28 0, i64 2] false), (34, j10), (35, lB [.ptr 34 0, i64 2] false), (38, j11), (39, j12), (1082, .map [(i64 0, .ptr 6548 0, 0)] 1), (1083, j19), (6299, .map [(i64 0, .str (rowX x), 0)] 1), (6300, j14), (6532, j15), (6548, lB [i64 0, sA 128 0, fV, i64 0] false), (6553, bm), (6554, bt), (6561, lB [.ptr 6548 0] true)], 6563⟩
def E6 : H := ⟨ofPairs [(0, j0), (1, .map [] 298), (2, j16), (5, j2), (7, j3), (9, j4), (11, j5), (13, .map [] 29), (14, .map [] 29), (15, j6), (16, j7), (17, lB [.ptr 16 0, i64 2] false), (22, j8), (23, lB [.ptr 22 0, i64 2] false), (28, j9), (29, lB [.ptr 28 0, i64 2] false), (34, j10), (35, lB [.ptr 34 0, i64 2] false), (38, j11), (39, j12), (1082, .map [(i64 1, .ptr 6548 0, 0)] 1), (1083, j17), (6299, .map [] 0), (6300, j14), (6532, j15), (6548, lB [i64 1, sA 128 0, fV, i64 0] false), (6551, lB [.ptr 6548 0] false)], 6553⟩
def E7 (bm bt : Blk) : H := ⟨ofPairs [(0, j0), (1, .map [] 298), (2, j16), (5, j2), (7, j3), (9, j4), (11, j5), (13, .map [] 29), (14, .map [] 29), (15, j6), (16, j7), (17, lB [.ptr 16 0, i64 2] false), (22, j8), (23, lB [.ptr 22 0, i64 2] false), (28, j9), (29, lB [.ptr 28 0, i64 2] false), (34, j10), (35, lB [.ptr 34 0, i64 2] false), (38, j11), (39, j12), (1082, .map [(i64 1, .ptr 6548 0, 0)] 1), (1083, j17), (6299, .map [] 0), (6300, j14), (6532, j15), (6548, lB [i64 1, sA 128 0, fV, i64 0] false), (6551, lB [.ptr 6548 0] false), (6553, bm), (6554, bt)], 6555⟩
def E8 (bm bt : Blk) : H := ⟨ofPairs [(0, j0), (1, .map [] 298), (2, j16), (5, j2), (7, j3), (9, j4), (11, j5), (13, .map [] 29), (14, .map [] 29), (15, j6), (16, j7), (17, lB [.ptr 16 0, i64 2] false), (22, j8), (23, lB [.ptr 22 0, i64 2] false), (28, j9), (29, lB [.ptr 28 0, i64 2] false), (34, j10), (35, lB [.ptr 34 0, i64 2] false), (38, j11), (39, j12), (1082, .map [(i64 1, .ptr 6548 0, 0)] 1), (1083, j18), (6299, .map [] 0), (6300, j14), (6532, j15), (6548, lB [i64 1, sA 128 0, fV, i64 0] false), (6553, bm), (6554, bt), (6557, lB [.ptr 6548 0] true)], 6559⟩
def E9 (bm bt : Blk) : H := ⟨ofPairs [(0, j0), (1, .map [] 298), (2, j16), (5, j2), (7, j3), (9, j4), (11, j5), (13, .map [] 29), (14, .map [] 29), (15, j6), (16, j7), (17, lB [.ptr 16 0, i64 2] false), (22, j8), (23, lB [.ptr 22 0, i64 2] false), (28, j9), (29, lB [.ptr 28 0, i64 2] false), (34, j10), (35, lB [.ptr 34 0, i64 2] false), (38, j11), (39, j12), (1082, .map [(i64 1, .ptr 6548 0, 0)] 1), (1083, j19), (6299, .map [] 0), (6300, j14), (6532, j15), (6548, lB [i64 1, sA 128 0, fV, i64 0] false), (6553, bm), (6554, bt), (6561, lB [.ptr 6548 0] true)], 6563⟩
def E10 (bm bt : Blk) (x : Nat → Nat) : H := ⟨ofPairs [(0, j0), (1, .map [] 298), (2, j16), (5, j2), (7, j3), (9, j4), (11, j5), (13, .map [] 29), (14, .map [] 29), (15, j6), (16, j7), (17, lB [.ptr 16 0, i64 2] false), (22, j8), (23, lB [.ptr 22 0, i64 2] false), (28, j9), (29, lB [.ptr 28 0, i64 2] false), (34, j10), (35, lB [.ptr 34 0, i64 2] false), (38, j11), (39, j12), (1082, .map [(i64 1, .ptr 6548 0, 0)] 1), (1083, j19), (6299, .map [(i64 1, .str (rowX x), 0)] 1), (6300, j14), (6532, j15), (6548, lB [i64 1, sA 128 0, fV, i64 0] false), (6553, bm), (6554, bt), (6561, lB [.ptr 6548 0] true)], 6563⟩
def E11 : H := ⟨ofPairs [(0, j0), (1, .map [] 298), (2, j20), (5, j2), (7, j3), (9, j4), (11, j5), (13, .map [] 29), (14, .map [] 29), (15, j6), (16, j7), (17, lB [.ptr 16 0, i64 2] false), (22, j8), (23, lB [.ptr 22 0, i64 2] false), (28, j9), (29, lB [.ptr 28 0, i64 2] false), (34, j10), (35, lB [.ptr 34 0, i64 2] false), (38, j11), (39, j12), (1082, j21), (1083, j22), (6299, .map [] 0), (6300, j14), (6532, j15), (6548, lB [i64 1, sA 128 0, fV, i64 0] false), (6568, lB [i64 2, sA 128 0, fV, i64 0] false), (6571, lB [.ptr 6548 0, .ptr 6568 0] true)], 6573⟩
def E12 (bm bt : Blk) : H := ⟨ofPairs [(0, j0), (1, .map [] 298), (2, j20), (5, j2), (7, j3), (9, j4), (11, j5), (13, .map [] 29), (14, .map [] 29), (15, j6), (16, j7), (17, lB [.ptr 16 0, i64 2] false), (22, j8), (23, lB [.ptr 22 0, i64 2] false), (28, j9), (29, lB [.ptr 28 0, i64 2] false), (34, j10), (35, lB [.ptr 34 0, i64 2] false), (38, j11), (39, j12), (1082, j21), (1083, j22), (6299, .map [] 0), (6300, j14), (6532, j15), (6548, lB [i64 1, sA 128 0, fV, i64 0] false), (6568, lB [i64 2, sA 128 0, fV, i64 0] false), (6571, lB [.ptr 6548 0, .ptr 6568 0] true), (6573, bm), (6574, bt)], 6575⟩
def E13 (bm bt : Blk) : H := ⟨ofPairs [(0, j0), (1, .map [] 298), (2, j20), (5, j2), (7, j3), (9, j4), (11, j5), (13, .map [] 29), (14, .map [] 29), (15, j6), (16, j7), (17, lB [.ptr 16 0, i64 2] false), (22, j8), (23, lB [.ptr 22 0, i64 2] false), (28, j9), (29, lB [.ptr 28 0, i64 2] false), (34, j10), (35, lB [.ptr 34 0, i64 2] false), (38, j11), (39, j12), (1082, j21), (1083, j23), (6299, .map [] 0), (6300, j14), (6532, j15), (6548, lB [i64 1, sA 128 0, fV, i64 0] false), (6568, lB [i64 2, sA 128 0, fV, i64 0] false), (6573, bm), (6574, bt), (6577, lB [.ptr 6568 0, .ptr 6548 0] true)], 6579⟩
def E14 (bm bt : Blk) : H := ⟨ofPairs [(0, j0), (1, .map [] 298), (2, j20), (5, j2), (7, j3), (9, j4), (11, j5), (13, .map [] 29), (14, .map [] 29), (15, j6), (16, j7), (17, lB [.ptr 16 0, i64 2] false), (22, j8), (23, lB [.ptr 22 0, i64 2] false), (28, j9), (29, lB [.ptr 28 0, i64 2] false), (34, j10), (35, lB [.ptr 34 0, i64 2] false), (38, j11), (39, j12), (1082, j21), (1083, j24), (6299, .map [] 0), (6300, j14), (6532, j15), (6548, lB [i64 1, sA 128 0, fV, i64 0] false), (6568, lB [i64 2, sA 128 0, fV, i64 0] false), (6573, bm), (6574, bt), (6581, lB [.ptr 6568 0, .ptr 6548 0] true)], 6583⟩
def E15 (bm bt : Blk) (x : Nat → Nat) : H := ⟨ofPairs [(0, j0), (1, .map [] 298), (2, j20), (5, j2), (7, j3), (9, j4), (11, j5), (13, .map [] 29), (14, .map [] 29), (15, j6), (16, j7), (17, lB [.ptr 16 0, i64 2] false), (22, j8), (23, lB [.ptr 22 0, i64 2] false), (28, j9), (29, lB [.ptr 28 0, i64 2] false), (34, j10), (35, lB [.ptr 34 0, i64 2] false), (38, j11), (39, j12), (1082, j21), (1083, j24), (6299, .map [(i64 1, .str (rowX x), 0)] 1), (6300, j14), (6532, j15), (6548, lB [i64 1, sA 128 0, fV, i64 0] false), (6568, lB [i64 2, sA 128 0, fV, i64 0] false), (6573, bm), (6574, bt), (6581, lB [.ptr 6568 0, .ptr 6548 0] true)], 6583⟩
def E16 (bm bt : Blk) (x : Nat → Nat) : H := ⟨ofPairs [(0, j0), (1, .map [] 298), (2, j20), (5, j2), (7, j3), (9, j4), (11, j5), (13, .map [] 29), (14, .map [] 29), (15, j6), (16, j7), (17, lB [.ptr 16 0, i64 2] false), (22, j8), (23, lB [.ptr 22 0, i64 2] false), (28, j9), (29, lB [.ptr 28 0, i64 2] false), (34, j10), (35, lB [.ptr 34 0, i64 2] false), (38, j11), (39, j12), (1082, j21), (1083, j25), (6299, .map [(i64 1, .str (rowX x), 0)] 1), (6300, j14), (6532, j15), (6548, lB [i64 1, sA 128 0, fV, i64 0] false), (6568, lB [i64 2, sA 128 0, fV, i64 0] false), (6573, bm), (6574, bt), (6585, lB [.ptr 6548 0, .ptr 6568 0] true)], 6587⟩
def E17 (bm bt : Blk) (x : Nat → Nat) : H := ⟨ofPairs [(0, j0), (1, .map [] 298), (2, j20), (5, j2), (7, j3), (9, j4), (11, j5), (13, .map [] 29), (14, .map [] 29), (15, j6), (16, j7), (17, lB [.ptr 16 0, i64 2] false), (22, j8), (23, lB [.ptr 22 0, i64 2] false), (28, j9), (29, lB [.ptr 28 0, i64 2] false), (34, j10), (35, lB [.ptr 34 0, i64 2] false), (38, j11), (39, j12), (1082, j21), (1083, j26), (6299, .map [(i64 1, .str (rowX x), 0)] 1), (6300, j14), (6532, j15), (6548, lB [i64 1, sA 128 0, fV, i64 0] false), (6568, lB [i64 2, sA 128 0, fV, i64 0] false), (6573, bm), (6574, bt), (6589, lB [.ptr 6548 0, .ptr 6568 0] true)], 6591⟩
def E18 (bm bt : Blk) (x : Nat → Nat) (y : Nat → Nat) : H := ⟨ofPairs [(0, j0), (1, .map [] 298), (2, j20), (5, j2), (7, j3), (9, j4), (11, j5), (13, .map [] 29), (14, .map [] 29), (15, j6), (16, j7), (17, lB [.ptr 16 0, i64 2] false), (22, j8), (23, lB [.ptr 22 0, i64 2] false), (28, j9), (29, lB [.ptr 28 0, i64 2] false), (34, j10), (35, lB [.ptr 34 0, i64 2] false), (38, j11), (39, j12), (1082, j21), (1083, j26), (6299, (j27 x y)), (6300, j14), (6532, j15), (6548, lB [i64 1, sA 128 0, fV, i64 0] false), (6568, lB [i64 2, sA 128 0, fV, i64 0] false), (6573, bm), (6574, bt), (6589, lB [.ptr 6548 0, .ptr 6568 0] true)], 6591⟩
theorem rd_f0n1o0 {w0 : World} {Φ : Phi} {pJ : PB} (hJ : Φ 6300 = some pJ) (h0 : ∀ i, 6553 ≤ i → Φ i = none) : Reads w0 Φ (.pointer (some (pJ.addr 0))) HB0 0 (fun _ => 0) E1 := by
  refine reads_of (n := 287) x0_right x0_has17 hJ (h1 := ⟨ofPairs [(0, j0), (1, .map [] 298), (2, j16), (5, j2), (7, j3), (9, j4), (11, j5), (13, .map [] 29), (14, .map [] 29), (15, j6), (16, j7), (17, lB [.ptr 16 0, i64 2] false), (22, j8), (23, lB [.ptr 22 0, i64 2] false), (28, j9), (29, lB [.ptr 28 0, i64 2] false), (34, j10), (35, lB [.ptr 34 0, i64 2] false), (38, j11), (39, j12), (1082, .map [(i64 0, .ptr 6548 0, 0)] 1), (1083, j17), (6299, .map [] 0), (6300, j14), (6532, j15), (6548, lB [i64 0, sA 128 0, fV, i64 0] false), (6551, lB [.ptr 6548 0] false), (6552, bB 128 0 true)], 6553⟩) (id := 6552) (r_f0n1o0) (by as_aux_lemma => kernel_rfl) h0 ?_
  intro i bl hg
  rcases get_pairT hg with hg | hg
  · simp only [List.mem_cons, Prod.mk.injEq, List.not_mem_nil, or_false] at hg
    rcases hg with ⟨rfl, rfl⟩ | ⟨rfl, rfl⟩ | ⟨rfl, rfl⟩ | ⟨rfl, rfl⟩ | ⟨rfl, rfl⟩ | ⟨rfl, rfl⟩ | ⟨rfl, rfl⟩ | ⟨rfl, rfl⟩ | ⟨rfl, rfl⟩ | ⟨rfl, rfl⟩ | ⟨rfl, rfl⟩ | ⟨rfl, rfl⟩ | ⟨rfl, rfl⟩ | ⟨rfl, rfl⟩ | ⟨rfl, rfl⟩ | ⟨rfl, rfl⟩ | ⟨rfl, rfl⟩ | ⟨rfl, rfl⟩ | ⟨rfl, rfl⟩ | ⟨rfl, rfl⟩ | ⟨rfl, rfl⟩ | ⟨rfl, rfl⟩ | ⟨rfl, rfl⟩ | ⟨rfl, rfl⟩ | ⟨rfl, rfl⟩ | ⟨rfl, rfl⟩ | ⟨rfl, rfl⟩
    · exact ⟨by kernel_rfl, Nat.le_of_ble_eq_true rfl, okBk_ok (by kernel_rfl)⟩
    · exact ⟨by kernel_rfl, Nat.le_of_ble_eq_true rfl, okBk_ok (by kernel_rfl)⟩
    · exact ⟨by kernel_rfl, Nat.le_of_ble_eq_true rfl, okBk_ok (by kernel_rfl)⟩
    · exact ⟨by kernel_rfl, Nat.le_of_ble_eq_true rfl, okBk_ok (by kernel_rfl)⟩
    · exact ⟨by kernel_rfl, Nat.le_of_ble_eq_true rfl, okBk_ok (by kernel_rfl)⟩
    · exact ⟨by kernel_rfl, Nat.le_of_ble_eq_true rfl, okBk_ok (by kernel_rfl)⟩
    · exact ⟨by kernel_rfl, Nat.le_of_ble_eq_true rfl, okBk_ok (by kernel_rfl)⟩
    · exact ⟨by kernel_rfl, Nat.le_of_ble_eq_true rfl, okBk_ok (by kernel_rfl)⟩
    · exact ⟨by kernel_rfl, Nat.le_of_ble_eq_true rfl, okBk_ok (by kernel_rfl)⟩
    · exact ⟨by kernel_rfl, Nat.le_of_ble_eq_true rfl, okBk_ok (by kernel_rfl)⟩
    · exact ⟨by kernel_rfl, Nat.le_of_ble_eq_true rfl, okBk_ok (by kernel_rfl)⟩
    · exact ⟨by kernel_rfl, Nat.le_of_ble_eq_true rfl, okBk_ok (by kernel_rfl)⟩
    · exact ⟨by kernel_rfl, Nat.le_of_ble_eq_true rfl, okBk_ok (by kernel_rfl)⟩
    · exact ⟨by kernel_rfl, Nat.le_of_ble_eq_true rfl, okBk_ok (by kernel_rfl)⟩
    · exact ⟨by kernel_rfl, Nat.le_of_ble_eq_true rfl, okBk_ok (by kernel_rfl)⟩
    · exact ⟨by kernel_rfl, Nat.le_of_ble_eq_true rfl, okBk_ok (by kernel_rfl)⟩
    · exact ⟨by kernel_rfl, Nat.le_of_ble_eq_true rfl, okBk_ok (by kernel_rfl)⟩
    · exact ⟨by kernel_rfl, Nat.le_of_ble_eq_true rfl, okBk_ok (by kernel_rfl)⟩
    · exact ⟨by kernel_rfl, Nat.le_of_ble_eq_true rfl, okBk_ok (by kernel_rfl)⟩
    · exact ⟨by kernel_rfl, Nat.le_of_ble_eq_true rfl, okBk_ok (by kernel_rfl)⟩
    · exact ⟨by kernel_rfl, Nat.le_of_ble_eq_true rfl, okBk_ok (by kernel_rfl)⟩
    · exact ⟨by kernel_rfl, Nat.le_of_ble_eq_true rfl, okBk_ok (by kernel_rfl)⟩
    · exact ⟨by kernel_rfl, Nat.le_of_ble_eq_true rfl, okBk_ok (by kernel_rfl)⟩
    · exact ⟨by kernel_rfl, Nat.le_of_ble_eq_true rfl, okBk_ok (by kernel_rfl)⟩
    · exact ⟨by kernel_rfl, Nat.le_of_ble_eq_true rfl, okBk_ok (by kernel_rfl)⟩
    · exact ⟨by kernel_rfl, Nat.le_of_ble_eq_true rfl, okBk_ok (by kernel_rfl)⟩
    · exact ⟨by kernel_rfl, Nat.le_of_ble_eq_true rfl, okBk_ok (by kernel_rfl)⟩
  · rw [T.get_e] at hg; cases hg
theorem rd_f0n1a {w0 : World} {Φ : Phi} {pJ : PB} {bm bt : Blk} (hbm : OkB 6559 bm) (hbt : OkB 6559 bt) (hJ : Φ 6300 = some pJ) (h0 : ∀ i, 6559 ≤ i → Φ i = none) : Reads w0 Φ (.pointer (some (pJ.addr 0))) (E2 bm bt) 0 (fun _ => 0) (E3 bm bt) := by
  refine reads_of (n := 104) x1_right x1_has17 hJ (h1 := ⟨ofPairs [(0, j0), (1, .map [] 298), (2, j16), (5, j2), (7, j3), (9, j4), (11, j5), (13, .map [] 29), (14, .map [] 29), (15, j6), (16, j7), (17, lB [.ptr 16 0, i64 2] false), (22, j8), (23, lB [.ptr 22 0, i64 2] false), (28, j9), (29, lB [.ptr 28 0, i64 2] false), (34, j10), (35, lB [.ptr 34 0, i64 2] false), (38, j11), (39, j12), (1082, .map [(i64 0, .ptr 6548 0, 0)] 1), (1083, j18), (6299, .map [] 0), (6300, j14), (6532, j15), (6548, lB [i64 0, sA 128 0, fV, i64 0] false), (6553, bm), (6554, bt), (6557, lB [.ptr 6548 0] true), (6558, bB 128 0 true)], 6559⟩) (id := 6558) (r_f0n1a bm bt) (by as_aux_lemma => kernel_rfl) h0 ?_
  intro i bl hg
  rcases get_pairT hg with hg | hg
  · simp only [List.mem_cons, Prod.mk.injEq, List.not_mem_nil, or_false] at hg
    rcases hg with ⟨rfl, rfl⟩ | ⟨rfl, rfl⟩ | ⟨rfl, rfl⟩ | ⟨rfl, rfl⟩ | ⟨rfl, rfl⟩ | ⟨rfl, rfl⟩ | ⟨rfl, rfl⟩ | ⟨rfl, rfl⟩ | ⟨rfl, rfl⟩ | ⟨rfl, rfl⟩ | ⟨rfl, rfl⟩ | ⟨rfl, rfl⟩ | ⟨rfl, rfl⟩ | ⟨rfl, rfl⟩ | ⟨rfl, rfl⟩ | ⟨rfl, rfl⟩ | ⟨rfl, rfl⟩ | ⟨rfl, rfl⟩ | ⟨rfl, rfl⟩ | ⟨rfl, rfl⟩ | ⟨rfl, rfl⟩ | ⟨rfl, rfl⟩ | ⟨rfl, rfl⟩ | ⟨rfl, rfl⟩ | ⟨rfl, rfl⟩ | ⟨rfl, rfl⟩ | ⟨rfl, rfl⟩ | ⟨rfl, rfl⟩ | ⟨rfl, rfl⟩
    · exact ⟨by kernel_rfl, Nat.le_of_ble_eq_true rfl, okBk_ok (by kernel_rfl)⟩
    · exact ⟨by kernel_rfl, Nat.le_of_ble_eq_true rfl, okBk_ok (by kernel_rfl)⟩
    · exact ⟨by kernel_rfl, Nat.le_of_ble_eq_true rfl, okBk_ok (by kernel_rfl)⟩
    · exact ⟨by kernel_rfl, Nat.le_of_ble_eq_true rfl, okBk_ok (by kernel_rfl)⟩
    · exact ⟨by kernel_rfl, Nat.le_of_ble_eq_true rfl, okBk_ok (by kernel_rfl)⟩
    · exact ⟨by kernel_rfl, Nat.le_of_ble_eq_true rfl, okBk_ok (by kernel_rfl)⟩
    · exact ⟨by kernel_rfl, Nat.le_of_ble_eq_true rfl, okBk_ok (by kernel_rfl)⟩
    · exact ⟨by kernel_rfl, Nat.le_of_ble_eq_true rfl, okBk_ok (by kernel_rfl)⟩
    · exact ⟨by kernel_rfl, Nat.le_of_ble_eq_true rfl, okBk_ok (by kernel_rfl)⟩
    · exact ⟨by kernel_rfl, Nat.le_of_ble_eq_true rfl, okBk_ok (by kernel_rfl)⟩
    · exact ⟨by kernel_rfl, Nat.le_of_ble_eq_true rfl, okBk_ok (by kernel_rfl)⟩
    · exact ⟨by kernel_rfl, Nat.le_of_ble_eq_true rfl, okBk_ok (by kernel_rfl)⟩
    · exact ⟨by kernel_rfl, Nat.le_of_ble_eq_true rfl, okBk_ok (by kernel_rfl)⟩
    · exact ⟨by kernel_rfl, Nat.le_of_ble_eq_true rfl, okBk_ok (by kernel_rfl)⟩
    · exact ⟨by kernel_rfl, Nat.le_of_ble_eq_true rfl, okBk_ok (by kernel_rfl)⟩
    · exact ⟨by kernel_rfl, Nat.le_of_ble_eq_true rfl, okBk_ok (by kernel_rfl)⟩
    · exact ⟨by kernel_rfl, Nat.le_of_ble_eq_true rfl, okBk_ok (by kernel_rfl)⟩
    · exact ⟨by kernel_rfl, Nat.le_of_ble_eq_true rfl, okBk_ok (by kernel_rfl)⟩
    · exact ⟨by kernel_rfl, Nat.le_of_ble_eq_true rfl, okBk_ok (by kernel_rfl)⟩
    · exact ⟨by kernel_rfl, Nat.le_of_ble_eq_true rfl, okBk_ok (by kernel_rfl)⟩
    · exact ⟨by kernel_rfl, Nat.le_of_ble_eq_true rfl, okBk_ok (by kernel_rfl)⟩
    · exact ⟨by kernel_rfl, Nat.le_of_ble_eq_true rfl, okBk_ok (by kernel_rfl)⟩
    · exact ⟨by kernel_rfl, Nat.le_of_ble_eq_true rfl, okBk_ok (by kernel_rfl)⟩
    · exact ⟨by kernel_rfl, Nat.le_of_ble_eq_true rfl, okBk_ok (by kernel_rfl)⟩
    · exact ⟨by kernel_rfl, Nat.le_of_ble_eq_true rfl, okBk_ok (by kernel_rfl)⟩
    · exact ⟨by kernel_rfl, Nat.le_of_ble_eq_true rfl, okBk_ok (by kernel_rfl)⟩
    · exact ⟨by kernel_rfl, Nat.le_of_ble_eq_true rfl, hbm⟩
    · exact ⟨by kernel_rfl, Nat.le_of_ble_eq_true rfl, hbt⟩
    · exact ⟨by kernel_rfl, Nat.le_of_ble_eq_true rfl, okBk_ok (by kernel_rfl)⟩
  · rw [T.get_e] at hg; cases hg
theorem rd_f0n1a1 {w0 : World} {Φ : Phi} {pJ : PB} {bm bt : Blk} (hbm : OkB 6563 bm) (hbt : OkB 6563 bt) (hJ : Φ 6300 = some pJ) (h0 : ∀ i, 6563 ≤ i → Φ i = none) : Reads w0 Φ (.pointer (some (pJ.addr 0))) (E3 bm bt) 0 (fun _ => 0) (E4 bm bt) := by
  refine reads_of (n := 104) x1_right x1_has17 hJ (h1 := ⟨ofPairs [(0, j0), (1, .map [] 298), (2, j16), (5, j2), (7, j3), (9, j4), (11, j5), (13, .map [] 29), (14, .map [] 29), (15, j6), (16, j7), (17, lB [.ptr 16 0, i64 2] false), (22, j8), (23, lB [.ptr 22 0, i64 2] false), (28, j9), (29, lB [.ptr 28 0, i64 2] false), (34, j10), (35, lB [.ptr 34 0, i64 2] false), (38, j11), (39, j12), (1082, .map [(i64 0, .ptr 6548 0, 0)] 1), (1083, j19), (6299, .map [] 0), (6300, j14), (6532, j15), (6548, lB [i64 0, sA 128 0, fV, i64 0] false), (6553, bm), (6554, bt), (6561, lB [.ptr 6548 0] true), (6562, bB 128 0 true)], 6563⟩) (id := 6562) (r_f0n1a1 bm bt) (by as_aux_lemma => kernel_rfl) h0 ?_
  intro i bl hg
  rcases get_pairT hg with hg | hg
  · simp only [List.mem_cons, Prod.mk.injEq, List.not_mem_nil, or_false] at hg
    rcases hg with ⟨rfl, rfl⟩ | ⟨rfl, rfl⟩ | ⟨rfl, rfl⟩ | ⟨rfl, rfl⟩ | ⟨rfl, rfl⟩ | ⟨rfl, rfl⟩ | ⟨rfl, rfl⟩ | ⟨rfl, rfl⟩ | ⟨rfl, rfl⟩ | ⟨rfl, rfl⟩ | ⟨rfl, rfl⟩ | ⟨rfl, rfl⟩ | ⟨rfl, rfl⟩ | ⟨rfl, rfl⟩ | ⟨rfl, rfl⟩ | ⟨rfl, rfl⟩ | ⟨rfl, rfl⟩ | ⟨rfl, rfl⟩ | ⟨rfl, rfl⟩ | ⟨rfl, rfl⟩ | ⟨rfl, rfl⟩ | ⟨rfl, rfl⟩ | ⟨rfl, rfl⟩ | ⟨rfl, rfl⟩ | ⟨rfl, rfl⟩ | ⟨rfl, rfl⟩ | ⟨rfl, rfl⟩ | ⟨rfl, rfl⟩ | ⟨rfl, rfl⟩
    · exact ⟨by kernel_rfl, Nat.le_of_ble_eq_true rfl, okBk_ok (by kernel_rfl)⟩
    · exact ⟨by kernel_rfl, Nat.le_of_ble_eq_true rfl, okBk_ok (by kernel_rfl)⟩
    · exact ⟨by kernel_rfl, Nat.le_of_ble_eq_true rfl, okBk_ok (by kernel_rfl)⟩
    · exact ⟨by kernel_rfl, Nat.le_of_ble_eq_true rfl, okBk_ok (by kernel_rfl)⟩
    · exact ⟨by kernel_rfl, Nat.le_of_ble_eq_true rfl, okBk_ok (by kernel_rfl)⟩
    · exact ⟨by kernel_rfl, Nat.le_of_ble_eq_true rfl, okBk_ok (by kernel_rfl)⟩
    · exact ⟨by kernel_rfl, Nat.le_of_ble_eq_true rfl, okBk_ok (by kernel_rfl)⟩
    · exact ⟨by kernel_rfl, Nat.le_of_ble_eq_true rfl, okBk_ok (by kernel_rfl)⟩
    · exact ⟨by kernel_rfl, Nat.le_of_ble_eq_true rfl, okBk_ok (by kernel_rfl)⟩
    · exact ⟨by kernel_rfl, Nat.le_of_ble_eq_true rfl, okBk_ok (by kernel_rfl)⟩
    · exact ⟨by kernel_rfl, Nat.le_of_ble_eq_true rfl, okBk_ok (by kernel_rfl)⟩
    · exact ⟨by kernel_rfl, Nat.le_of_ble_eq_true rfl, okBk_ok (by kernel_rfl)⟩
    · exact ⟨by kernel_rfl, Nat.le_of_ble_eq_true rfl, okBk_ok (by kernel_rfl)⟩
    · exact ⟨by kernel_rfl, Nat.le_of_ble_eq_true rfl, okBk_ok (by kernel_rfl)⟩
    · exact ⟨by kernel_rfl, Nat.le_of_ble_eq_true rfl, okBk_ok (by kernel_rfl)⟩
    · exact ⟨by kernel_rfl, Nat.le_of_ble_eq_true rfl, okBk_ok (by kernel_rfl)⟩
    · exact ⟨by kernel_rfl, Nat.le_of_ble_eq_true rfl, okBk_ok (by kernel_rfl)⟩
    · exact ⟨by kernel_rfl, Nat.le_of_ble_eq_true rfl, okBk_ok (by kernel_rfl)⟩
    · exact ⟨by kernel_rfl, Nat.le_of_ble_eq_true rfl, okBk_ok (by kernel_rfl)⟩
    · exact ⟨by kernel_rfl, Nat.le_of_ble_eq_true rfl, okBk_ok (by kernel_rfl)⟩
    · exact ⟨by kernel_rfl, Nat.le_of_ble_eq_true rfl, okBk_ok (by kernel_rfl)⟩
    · exact ⟨by kernel_rfl, Nat.le_of_ble_eq_true rfl, okBk_ok (by kernel_rfl)⟩
    · exact ⟨by kernel_rfl, Nat.le_of_ble_eq_true rfl, okBk_ok (by kernel_rfl)⟩
    · exact ⟨by kernel_rfl, Nat.le_of_ble_eq_true rfl, okBk_ok (by kernel_rfl)⟩
    · exact ⟨by kernel_rfl, Nat.le_of_ble_eq_true rfl, okBk_ok (by kernel_rfl)⟩
    · exact ⟨by kernel_rfl, Nat.le_of_ble_eq_true rfl, okBk_ok (by kernel_rfl)⟩
    · exact ⟨by kernel_rfl, Nat.le_of_ble_eq_true rfl, hbm⟩
    · exact ⟨by kernel_rfl, Nat.le_of_ble_eq_true rfl, hbt⟩
    · exact ⟨by kernel_rfl, Nat.le_of_ble_eq_true rfl, okBk_ok (by kernel_rfl)⟩
  · rw [T.get_e] at hg; cases hg
theorem wr_f0n1w {w0 : World} {Φ : Phi} {pJ : PB} {bm bt : Blk} {x : Nat → Nat} (hbm : OkB 6563 bm) (hbt : OkB 6563 bt) (hJ : Φ 6300 = some pJ) (h0 : ∀ i, 6563 ≤ i → Φ i = none) : Writes w0 Φ (.pointer (some (pJ.addr 0))) (E4 bm bt) 0 x (E5 bm bt (m8 x)) := by
  refine writes_of (n := 40) hJ (hw := ⟨ofPairs [(0, j0), (1, .map [] 298), (2, j16), (5, j2), (7, j3), (9, j4), (11, j5), (13, .map [] 29), (14, .map [] 29), (15, j6), (16, j7), (17, lB [.ptr 16 0, i64 2] false), (22, j8), (23, lB [.ptr 22 0, i64 2] false), (28, j9), (29, lB [.ptr 28 0, i64 2] false), (34, j10), (35, lB [.ptr 34 0, i64 2] false), (38, j11), (39, j12), (1082, .map [(i64 0, .ptr 6548 0, 0)] 1), (1083, j19), (6299, .map [] 0), (6300, j14), (6532, j15), (6548, lB [i64 0, sA 128 0, fV, i64 0] false), (6553, bm), (6554, bt), (6561, lB [.ptr 6548 0] true), (6563, rB x false)], 6564⟩) (by as_aux_lemma => kernel_rfl) (h1 := ⟨ofPairs [(0, j0), (1, .map [] 298), (2, j16), (5, j2), (7, j3), (9, j4), (11, j5), (13, .map [] 29), (14, .map [] 29), (15, j6), (16, j7), (17, lB [.ptr 16 0, i64 2] false), (22, j8), (23, lB [.ptr 22 0, i64 2] false), (28, j9), (29, lB [.ptr 28 0, i64 2] false), (34, j10), (35, lB [.ptr 34 0, i64 2] false), (38, j11), (39, j12), (1082, .map [(i64 0, .ptr 6548 0, 0)] 1), (1083, j19), (6299, .map [(i64 0, .str (rowX (m8 x)), 0)] 1), (6300, j14), (6532, j15), (6548, lB [i64 0, sA 128 0, fV, i64 0] false), (6553, bm), (6554, bt), (6561, lB [.ptr 6548 0] true)], 6564⟩) (r_f0n1w bm bt x) h0 ?_
  intro i bl hg
  rcases get_pairT hg with hg | hg
  · simp only [List.mem_cons, Prod.mk.injEq, List.not_mem_nil, or_false] at hg
    rcases hg with ⟨rfl, rfl⟩ | ⟨rfl, rfl⟩ | ⟨rfl, rfl⟩ | ⟨rfl, rfl⟩ | ⟨rfl, rfl⟩ | ⟨rfl, rfl⟩ | ⟨rfl, rfl⟩ | ⟨rfl, rfl⟩ | ⟨rfl, rfl⟩ | ⟨rfl, rfl⟩ | ⟨rfl, rfl⟩ | ⟨rfl, rfl⟩ | ⟨rfl, rfl⟩ | ⟨rfl, rfl⟩ | ⟨rfl, rfl⟩ | ⟨rfl, rfl⟩ | ⟨rfl, rfl⟩ | ⟨rfl, rfl⟩ | ⟨rfl, rfl⟩ | ⟨rfl, rfl⟩ | ⟨rfl, rfl⟩ | ⟨rfl, rfl⟩ | ⟨rfl, rfl⟩ | ⟨rfl, rfl⟩ | ⟨rfl, rfl⟩ | ⟨rfl, rfl⟩ | ⟨rfl, rfl⟩ | ⟨rfl, rfl⟩ | ⟨rfl, rfl⟩
    · exact ⟨by kernel_rfl, Nat.le_of_ble_eq_true rfl, okBk_ok (by kernel_rfl)⟩
    · exact ⟨by kernel_rfl, Nat.le_of_ble_eq_true rfl, okBk_ok (by kernel_rfl)⟩
    · exact ⟨by kernel_rfl, Nat.le_of_ble_eq_true rfl, okBk_ok (by kernel_rfl)⟩
    · exact ⟨by kernel_rfl, Nat.le_of_ble_eq_true rfl, okBk_ok (by kernel_rfl)⟩
    · exact ⟨by kernel_rfl, Nat.le_of_ble_eq_true rfl, okBk_ok (by kernel_rfl)⟩
    · exact ⟨by kernel_rfl, Nat.le_of_ble_eq_true rfl, okBk_ok (by kernel_rfl)⟩
    · exact ⟨by kernel_rfl, Nat.le_of_ble_eq_true rfl, okBk_ok (by kernel_rfl)⟩
    · exact ⟨by kernel_rfl, Nat.le_of_ble_eq_true rfl, okBk_ok (by kernel_rfl)⟩
    · exact ⟨by kernel_rfl, Nat.le_of_ble_eq_true rfl, okBk_ok (by kernel_rfl)⟩
    · exact ⟨by kernel_rfl, Nat.le_of_ble_eq_true rfl, okBk_ok (by kernel_rfl)⟩
    · exact ⟨by kernel_rfl, Nat.le_of_ble_eq_true rfl, okBk_ok (by kernel_rfl)⟩
    · exact ⟨by kernel_rfl, Nat.le_of_ble_eq_true rfl, okBk_ok (by kernel_rfl)⟩
    · exact ⟨by kernel_rfl, Nat.le_of_ble_eq_true rfl, okBk_ok (by kernel_rfl)⟩
    · exact ⟨by kernel_rfl, Nat.le_of_ble_eq_true rfl, okBk_ok (by kernel_rfl)⟩
    · exact ⟨by kernel_rfl, Nat.le_of_ble_eq_true rfl, okBk_ok (by kernel_rfl)⟩
    · exact ⟨by kernel_rfl, Nat.le_of_ble_eq_true rfl, okBk_ok (by kernel_rfl)⟩
    · exact ⟨by kernel_rfl, Nat.le_of_ble_eq_true rfl, okBk_ok (by kernel_rfl)⟩
    · exact ⟨by kernel_rfl, Nat.le_of_ble_eq_true rfl, okBk_ok (by kernel_rfl)⟩
    · exact ⟨by kernel_rfl, Nat.le_of_ble_eq_true rfl, okBk_ok (by kernel_rfl)⟩
    · exact ⟨by kernel_rfl, Nat.le_of_ble_eq_true rfl, okBk_ok (by kernel_rfl)⟩
    · exact ⟨by kernel_rfl, Nat.le_of_ble_eq_true rfl, okBk_ok (by kernel_rfl)⟩
    · exact ⟨by kernel_rfl, Nat.le_of_ble_eq_true rfl, okBk_ok (by kernel_rfl)⟩
    · exact ⟨by kernel_rfl, Nat.le_of_ble_eq_true rfl, okBk_ok (by kernel_rfl)⟩
    · exact ⟨by kernel_rfl, Nat.le_of_ble_eq_true rfl, okBk_ok (by kernel_rfl)⟩
    · exact ⟨by kernel_rfl, Nat.le_of_ble_eq_true rfl, okBk_ok (by kernel_rfl)⟩
    · exact ⟨by kernel_rfl, Nat.le_of_ble_eq_true rfl, okBk_ok (by kernel_rfl)⟩
    · exact ⟨by kernel_rfl, Nat.le_of_ble_eq_true rfl, hbm⟩
    · exact ⟨by kernel_rfl, Nat.le_of_ble_eq_true rfl, hbt⟩
    · exact ⟨by kernel_rfl, Nat.le_of_ble_eq_true rfl, okBk_ok (by kernel_rfl)⟩
  · rw [T.get_e] at hg; cases hg
theorem rd_f0n1br {w0 : World} {Φ : Phi} {pJ : PB} {bm bt : Blk} {x : Nat → Nat} (hbm : OkB 6563 bm) (hbt : OkB 6563 bt) (hJ : Φ 6300 = some pJ) (h0 : ∀ i, 6563 ≤ i → Φ i = none) : Reads w0 Φ (.pointer (some (pJ.addr 0))) (E5 bm bt x) 0 x (E5 bm bt x) := by
  refine reads_of (n := 38) x1_right x1_has17 hJ (h1 := ⟨ofPairs [(0, j0), (1, .map [] 298), (2, j16), (5, j2), (7, j3), (9, j4), (11, j5), (13, .map [] 29), (14, .map [] 29), (15, j6), (16, j7), (17, lB [.ptr 16 0, i64 2] false), (22, j8), (23, lB [.ptr 22 0, i64 2] false), (28, j9), (29, lB [.ptr 28 0, i64 2] false), (34, j10), (35, lB [.ptr 34 0, i64 2] false), (38, j11), (39, j12), (1082, .map [(i64 0, .ptr 6548 0, 0)] 1), (1083, j19), (6299, .map [(i64 0, .str (rowX x), 0)] 1), (6300, j14), (6532, j15), (6548, lB [i64 0, sA 128 0, fV, i64 0] false), (6553, bm), (6554, bt), (6561, lB [.ptr 6548 0] true), (6563, rB x true)], 6564⟩) (id := 6563) (r_f0n1br bm bt x) (by as_aux_lemma => kernel_rfl) h0 ?_
  intro i bl hg
  rcases get_pairT hg with hg | hg
  · simp only [List.mem_cons, Prod.mk.injEq, List.not_mem_nil, or_false] at hg
    rcases hg with ⟨rfl, rfl⟩ | ⟨rfl, rfl⟩ | ⟨rfl, rfl⟩ | ⟨rfl, rfl⟩ | ⟨rfl, rfl⟩ | ⟨rfl, rfl⟩ | ⟨rfl, rfl⟩ | ⟨rfl, rfl⟩ | ⟨rfl, rfl⟩ | ⟨rfl, rfl⟩ | ⟨rfl, rfl⟩ | ⟨rfl, rfl⟩ | ⟨rfl, rfl⟩ | ⟨rfl, rfl⟩ | ⟨rfl, rfl⟩ | ⟨rfl, rfl⟩ | ⟨rfl, rfl⟩ | ⟨rfl, rfl⟩ | ⟨rfl, rfl⟩ | ⟨rfl, rfl⟩ | ⟨rfl, rfl⟩ | ⟨rfl, rfl⟩ | ⟨rfl, rfl⟩ | ⟨rfl, rfl⟩ | ⟨rfl, rfl⟩ | ⟨rfl, rfl⟩ | ⟨rfl, rfl⟩ | ⟨rfl, rfl⟩ | ⟨rfl, rfl⟩
    · exact ⟨by kernel_rfl, Nat.le_of_ble_eq_true rfl, okBk_ok (by kernel_rfl)⟩
    · exact ⟨by kernel_rfl, Nat.le_of_ble_eq_true rfl, okBk_ok (by kernel_rfl)⟩
    · exact ⟨by kernel_rfl, Nat.le_of_ble_eq_true rfl, okBk_ok (by kernel_rfl)⟩
    · exact ⟨by kernel_rfl, Nat.le_of_ble_eq_true rfl, okBk_ok (by kernel_rfl)⟩
    · exact ⟨by kernel_rfl, Nat.le_of_ble_eq_true rfl, okBk_ok (by kernel_rfl)⟩
    · exact ⟨by kernel_rfl, Nat.le_of_ble_eq_true rfl, okBk_ok (by kernel_rfl)⟩
    · exact ⟨by kernel_rfl, Nat.le_of_ble_eq_true rfl, okBk_ok (by kernel_rfl)⟩
    · exact ⟨by kernel_rfl, Nat.le_of_ble_eq_true rfl, okBk_ok (by kernel_rfl)⟩
    · exact ⟨by kernel_rfl, Nat.le_of_ble_eq_true rfl, okBk_ok (by kernel_rfl)⟩
    · exact ⟨by kernel_rfl, Nat.le_of_ble_eq_true rfl, okBk_ok (by kernel_rfl)⟩
    · exact ⟨by kernel_rfl, Nat.le_of_ble_eq_true rfl, okBk_ok (by kernel_rfl)⟩
    · exact ⟨by kernel_rfl, Nat.le_of_ble_eq_true rfl, okBk_ok (by kernel_rfl)⟩
    · exact ⟨by kernel_rfl, Nat.le_of_ble_eq_true rfl, okBk_ok (by kernel_rfl)⟩
    · exact ⟨by kernel_rfl, Nat.le_of_ble_eq_true rfl, okBk_ok (by kernel_rfl)⟩
    · exact ⟨by kernel_rfl, Nat.le_of_ble_eq_true rfl, okBk_ok (by kernel_rfl)⟩
    · exact ⟨by kernel_rfl, Nat.le_of_ble_eq_true rfl, okBk_ok (by kernel_rfl)⟩
    · exact ⟨by kernel_rfl, Nat.le_of_ble_eq_true rfl, okBk_ok (by kernel_rfl)⟩
    · exact ⟨by kernel_rfl, Nat.le_of_ble_eq_true rfl, okBk_ok (by kernel_rfl)⟩
    · exact ⟨by kernel_rfl, Nat.le_of_ble_eq_true rfl, okBk_ok (by kernel_rfl)⟩
    · exact ⟨by kernel_rfl, Nat.le_of_ble_eq_true rfl, okBk_ok (by kernel_rfl)⟩
    · exact ⟨by kernel_rfl, Nat.le_of_ble_eq_true rfl, okBk_ok (by kernel_rfl)⟩
    · exact ⟨by kernel_rfl, Nat.le_of_ble_eq_true rfl, okBk_ok (by kernel_rfl)⟩
    · exact ⟨by kernel_rfl, Nat.le_of_ble_eq_true rfl, okBk_ok (by kernel_rfl)⟩
    · exact ⟨by kernel_rfl, Nat.le_of_ble_eq_true rfl, okBk_ok (by kernel_rfl)⟩
    · exact ⟨by kernel_rfl, Nat.le_of_ble_eq_true rfl, okBk_ok (by kernel_rfl)⟩
    · exact ⟨by kernel_rfl, Nat.le_of_ble_eq_true rfl, okBk_ok (by kernel_rfl)⟩
    · exact ⟨by kernel_rfl, Nat.le_of_ble_eq_true rfl, hbm⟩
    · exact ⟨by kernel_rfl, Nat.le_of_ble_eq_true rfl, hbt⟩
    · exact ⟨by kernel_rfl, Nat.le_of_ble_eq_true rfl, okBk_ok (by kernel_rfl)⟩
  · rw [T.get_e] at hg; cases hg
theorem wr_f0n1bw {w0 : World} {Φ : Phi} {pJ : PB} {bm bt : Blk} {x y : Nat → Nat} (hbm : OkB 6563 bm) (hbt : OkB 6563 bt) (hJ : Φ 6300 = some pJ) (h0 : ∀ i, 6563 ≤ i → Φ i = none) : Writes w0 Φ (.pointer (some (pJ.addr 0))) (E5 bm bt x) 0 y (E5 bm bt (m8 y)) := by
  refine writes_of (n := 40) hJ (hw := ⟨ofPairs [(0, j0), (1, .map [] 298), (2, j16), (5, j2), (7, j3), (9, j4), (11, j5), (13, .map [] 29), (14, .map [] 29), (15, j6), (16, j7), (17, lB [.ptr 16 0, i64 2] false), (22, j8), (23, lB [.ptr 22 0, i64 2] false), (28, j9), (29, lB [.ptr 28 0, i64 2] false), (34, j10), (35, lB [.ptr 34 0, i64 2] false), (38, j11), (39, j12), (1082, .map [(i64 0, .ptr 6548 0, 0)] 1), (1083, j19), (6299, .map [(i64 0, .str (rowX x), 0)] 1), (6300, j14), (6532, j15), (6548, lB [i64 0, sA 128 0, fV, i64 0] false), (6553, bm), (6554, bt), (6561, lB [.ptr 6548 0] true), (6563, rB y false)], 6564⟩) (by as_aux_lemma => kernel_rfl) (h1 := ⟨ofPairs [(0, j0), (1, .map [] 298), (2, j16), (5, j2), (7, j3), (9, j4), (11, j5), (13, .map [] 29), (14, .map [] 29), (15, j6), (16, j7), (17, lB [.ptr 16 0, i64 2] false), (22, j8), (23, lB [.ptr 22 0, i64 2] false), (28, j9), (29, lB [.ptr 28 0, i64 2] false), (34, j10), (35, lB [.ptr 34 0, i64 2] false), (38, j11), (39, j12), (1082, .map [(i64 0, .ptr 6548 0, 0)] 1), (1083, j19), (6299, .map [(i64 0, .str (rowX (m8 y)), 0)] 1), (6300, j14), (6532, j15), (6548, lB [i64 0, sA 128 0, fV, i64 0] false), (6553, bm), (6554, bt), (6561, lB [.ptr 6548 0] true)], 6564⟩) (r_f0n1bw bm bt x y) h0 ?_
  intro i bl hg
  rcases get_pairT hg with hg | hg
  · simp only [List.mem_cons, Prod.mk.injEq, List.not_mem_nil, or_false] at hg
    rcases hg with ⟨rfl, rfl⟩ | ⟨rfl, rfl⟩ | ⟨rfl, rfl⟩ | ⟨rfl, rfl⟩ | ⟨rfl, rfl⟩ | ⟨rfl, rfl⟩ | ⟨rfl, rfl⟩ | ⟨rfl, rfl⟩ | ⟨rfl, rfl⟩ | ⟨rfl, rfl⟩ | ⟨rfl, rfl⟩ | ⟨rfl, rfl⟩ | ⟨rfl, rfl⟩ | ⟨rfl, rfl⟩ | ⟨rfl, rfl⟩ | ⟨rfl, rfl⟩ | ⟨rfl, rfl⟩ | ⟨rfl, rfl⟩ | ⟨rfl, rfl⟩ | ⟨rfl, rfl⟩ | ⟨rfl, rfl⟩ | ⟨rfl, rfl⟩ | ⟨rfl, rfl⟩ | ⟨rfl, rfl⟩ | ⟨rfl, rfl⟩ | ⟨rfl, rfl⟩ | ⟨rfl, rfl⟩ | ⟨rfl, rfl⟩ | ⟨rfl, rfl⟩
    · exact ⟨by kernel_rfl, Nat.le_of_ble_eq_true rfl, okBk_ok (by kernel_rfl)⟩
    · exact ⟨by kernel_rfl, Nat.le_of_ble_eq_true rfl, okBk_ok (by kernel_rfl)⟩
    · exact ⟨by kernel_rfl, Nat.le_of_ble_eq_true rfl, okBk_ok (by kernel_rfl)⟩
    · exact ⟨by kernel_rfl, Nat.le_of_ble_eq_true rfl, okBk_ok (by kernel_rfl)⟩
    · exact ⟨by kernel_rfl, Nat.le_of_ble_eq_true rfl, okBk_ok (by kernel_rfl)⟩
    · exact ⟨by kernel_rfl, Nat.le_of_ble_eq_true rfl, okBk_ok (by kernel_rfl)⟩
    · exact ⟨by kernel_rfl, Nat.le_of_ble_eq_true rfl, okBk_ok (by kernel_rfl)⟩
    · exact ⟨by kernel_rfl, Nat.le_of_ble_eq_true rfl, okBk_ok (by kernel_rfl)⟩
    · exact ⟨by kernel_rfl, Nat.le_of_ble_eq_true rfl, okBk_ok (by kernel_rfl)⟩
    · exact ⟨by kernel_rfl, Nat.le_of_ble_eq_true rfl, okBk_ok (by kernel_rfl)⟩
    · exact ⟨by kernel_rfl, Nat.le_of_ble_eq_true rfl, okBk_ok (by kernel_rfl)⟩
    · exact ⟨by kernel_rfl, Nat.le_of_ble_eq_true rfl, okBk_ok (by kernel_rfl)⟩
    · exact ⟨by kernel_rfl, Nat.le_of_ble_eq_true rfl, okBk_ok (by kernel_rfl)⟩
    · exact ⟨by kernel_rfl, Nat.le_of_ble_eq_true rfl, okBk_ok (by kernel_rfl)⟩
    · exact ⟨by kernel_rfl, Nat.le_of_ble_eq_true rfl, okBk_ok (by kernel_rfl)⟩
    · exact ⟨by kernel_rfl, Nat.le_of_ble_eq_true rfl, okBk_ok (by kernel_rfl)⟩
    · exact ⟨by kernel_rfl, Nat.le_of_ble_eq_true rfl, okBk_ok (by kernel_rfl)⟩
    · exact ⟨by kernel_rfl, Nat.le_of_ble_eq_true rfl, okBk_ok (by kernel_rfl)⟩
    · exact ⟨by kernel_rfl, Nat.le_of_ble_eq_true rfl, okBk_ok (by kernel_rfl)⟩
    · exact ⟨by kernel_rfl, Nat.le_of_ble_eq_true rfl, okBk_ok (by kernel_rfl)⟩
    · exact ⟨by kernel_rfl, Nat.le_of_ble_eq_true rfl, okBk_ok (by kernel_rfl)⟩
    · exact ⟨by kernel_rfl, Nat.le_of_ble_eq_true rfl, okBk_ok (by kernel_rfl)⟩
    · exact ⟨by kernel_rfl, Nat.le_of_ble_eq_true rfl, okBk_ok (by kernel_rfl)⟩
    · exact ⟨by kernel_rfl, Nat.le_of_ble_eq_true rfl, okBk_ok (by kernel_rfl)⟩
    · exact ⟨by kernel_rfl, Nat.le_of_ble_eq_true rfl, okBk_ok (by kernel_rfl)⟩
    · exact ⟨by kernel_rfl, Nat.le_of_ble_eq_true rfl, okBk_ok (by kernel_rfl)⟩
    · exact ⟨by kernel_rfl, Nat.le_of_ble_eq_true rfl, hbm⟩
    · exact ⟨by kernel_rfl, Nat.le_of_ble_eq_true rfl, hbt⟩
    · exact ⟨by kernel_rfl, Nat.le_of_ble_eq_true rfl, okBk_ok (by kernel_rfl)⟩
  · rw [T.get_e] at hg; cases hg
theorem rd_f1n1o0 {w0 : World} {Φ : Phi} {pJ : PB} (hJ : Φ 6300 = some pJ) (h0 : ∀ i, 6553 ≤ i → Φ i = none) : Reads w0 Φ (.pointer (some (pJ.addr 0))) HB0 1 (fun _ => 0) E6 := by
  refine reads_of (n := 287) x0_right x0_has17 hJ (h1 := ⟨ofPairs [(0, j0), (1, .map [] 298), (2, j16), (5, j2), (7, j3), (9, j4), (11, j5), (13, .map [] 29), (14, .map [] 29), (15, j6), (16, j7), (17, lB [.ptr 16 0, i64 2] false), (22, j8), (23, lB [.ptr 22 0, i64 2] false), (28, j9), (29, lB [.ptr 28 0, i64 2] false), (34, j10), (35, lB [.ptr 34 0, i64 2] false), (38, j11), (39, j12), (1082, .map [(i64 1, .ptr 6548 0, 0)] 1), (1083, j17), (6299, .map [] 0), (6300, j14), (6532, j15), (6548, lB [i64 1, sA 128 0, fV, i64 0] false), (6551, lB [.ptr 6548 0] false), (6552, bB 128 0 true)], 6553⟩) (id := 6552) (r_f1n1o0) (by as_aux_lemma => kernel_rfl) h0 ?_
  intro i bl hg
  rcases get_pairT hg with hg | hg
  · simp only [List.mem_cons, Prod.mk.injEq, List.not_mem_nil, or_false] at hg
    rcases hg with ⟨rfl, rfl⟩ | ⟨rfl, rfl⟩ | ⟨rfl, rfl⟩ | ⟨rfl, rfl⟩ | ⟨rfl, rfl⟩ | ⟨rfl, rfl⟩ | ⟨rfl, rfl⟩ | ⟨rfl, rfl⟩ | ⟨rfl, rfl⟩ | ⟨rfl, rfl⟩ | ⟨rfl, rfl⟩ | ⟨rfl, rfl⟩ | ⟨rfl, rfl⟩ | ⟨rfl, rfl⟩ | ⟨rfl, rfl⟩ | ⟨rfl, rfl⟩ | ⟨rfl, rfl⟩ | ⟨rfl, rfl⟩ | ⟨rfl, rfl⟩ | ⟨rfl, rfl⟩ | ⟨rfl, rfl⟩ | ⟨rfl, rfl⟩ | ⟨rfl, rfl⟩ | ⟨rfl, rfl⟩ | ⟨rfl, rfl⟩ | ⟨rfl, rfl⟩ | ⟨rfl, rfl⟩
    · exact ⟨by kernel_rfl, Nat.le_of_ble_eq_true rfl, okBk_ok (by kernel_rfl)⟩
    · exact ⟨by kernel_rfl, Nat.le_of_ble_eq_true rfl, okBk_ok (by kernel_rfl)⟩
    · exact ⟨by kernel_rfl, Nat.le_of_ble_eq_true rfl, okBk_ok (by kernel_rfl)⟩
    · exact ⟨by kernel_rfl, Nat.le_of_ble_eq_true rfl, okBk_ok (by kernel_rfl)⟩
    · exact ⟨by kernel_rfl, Nat.le_of_ble_eq_true rfl, okBk_ok (by kernel_rfl)⟩
    · exact ⟨by kernel_rfl, Nat.le_of_ble_eq_true rfl, okBk_ok (by kernel_rfl)⟩
    · exact ⟨by kernel_rfl, Nat.le_of_ble_eq_true rfl, okBk_ok (by kernel_rfl)⟩
    · exact ⟨by kernel_rfl, Nat.le_of_ble_eq_true rfl, okBk_ok (by kernel_rfl)⟩
    · exact ⟨by kernel_rfl, Nat.le_of_ble_eq_true rfl, okBk_ok (by kernel_rfl)⟩
    · exact ⟨by kernel_rfl, Nat.le_of_ble_eq_true rfl, okBk_ok (by kernel_rfl)⟩
    · exact ⟨by kernel_rfl, Nat.le_of_ble_eq_true rfl, okBk_ok (by kernel_rfl)⟩
    · exact ⟨by kernel_rfl, Nat.le_of_ble_eq_true rfl, okBk_ok (by kernel_rfl)⟩
    · exact ⟨by kernel_rfl, Nat.le_of_ble_eq_true rfl, okBk_ok (by kernel_rfl)⟩
    · exact ⟨by kernel_rfl, Nat.le_of_ble_eq_true rfl, okBk_ok (by kernel_rfl)⟩
    · exact ⟨by kernel_rfl, Nat.le_of_ble_eq_true rfl, okBk_ok (by kernel_rfl)⟩
    · exact ⟨by kernel_rfl, Nat.le_of_ble_eq_true rfl, okBk_ok (by kernel_rfl)⟩
    · exact ⟨by kernel_rfl, Nat.le_of_ble_eq_true rfl, okBk_ok (by kernel_rfl)⟩
    · exact ⟨by kernel_rfl, Nat.le_of_ble_eq_true rfl, okBk_ok (by kernel_rfl)⟩
    · exact ⟨by kernel_rfl, Nat.le_of_ble_eq_true rfl, okBk_ok (by kernel_rfl)⟩
    · exact ⟨by kernel_rfl, Nat.le_of_ble_eq_true rfl, okBk_ok (by kernel_rfl)⟩
    · exact ⟨by kernel_rfl, Nat.le_of_ble_eq_true rfl, okBk_ok (by kernel_rfl)⟩
    · exact ⟨by kernel_rfl, Nat.le_of_ble_eq_true rfl, okBk_ok (by kernel_rfl)⟩
    · exact ⟨by kernel_rfl, Nat.le_of_ble_eq_true rfl, okBk_ok (by kernel_rfl)⟩
    · exact ⟨by kernel_rfl, Nat.le_of_ble_eq_true rfl, okBk_ok (by kernel_rfl)⟩
    · exact ⟨by kernel_rfl, Nat.le_of_ble_eq_true rfl, okBk_ok (by kernel_rfl)⟩
    · exact ⟨by kernel_rfl, Nat.le_of_ble_eq_true rfl, okBk_ok (by kernel_rfl)⟩
    · exact ⟨by kernel_rfl, Nat.le_of_ble_eq_true rfl, okBk_ok (by kernel_rfl)⟩
  · rw [T.get_e] at hg; cases hg
theorem rd_f1n1a {w0 : World} {Φ : Phi} {pJ : PB} {bm bt : Blk} (hbm : OkB 6559 bm) (hbt : OkB 6559 bt) (hJ : Φ 6300 = some pJ) (h0 : ∀ i, 6559 ≤ i → Φ i = none) : Reads w0 Φ (.pointer (some (pJ.addr 0))) (E7 bm bt) 1 (fun _ => 0) (E8 bm bt) := by
  refine reads_of (n := 104) x1_right x1_has17 hJ (h1 := ⟨ofPairs [(0, j0), (1, .map [] 298), (2, j16), (5, j2), (7, j3), (9, j4), (11, j5), (13, .map [] 29), (14, .map [] 29), (15, j6), (16, j7), (17, lB [.ptr 16 0, i64 2] false), (22, j8), (23, lB [.ptr 22 0, i64 2] false), (28, j9), (29, lB [.ptr 28 0, i64 2] false), (34, j10), (35, lB [.ptr 34 0, i64 2] false), (38, j11), (39, j12), (1082, .map [(i64 1, .ptr 6548 0, 0)] 1), (1083, j18), (6299, .map [] 0), (6300, j14), (6532, j15), (6548, lB [i64 1, sA 128 0, fV, i64 0] false), (6553, bm), (6554, bt), (6557, lB [.ptr 6548 0] true), (6558, bB 128 0 true)], 6559⟩) (id := 6558) (r_f1n1a bm bt) (by as_aux_lemma => kernel_rfl) h0 ?_
  intro i bl hg
  rcases get_pairT hg with hg | hg
  · simp only [List.mem_cons, Prod.mk.injEq, List.not_mem_nil, or_false] at hg
    rcases hg with ⟨rfl, rfl⟩ | ⟨rfl, rfl⟩ | ⟨rfl, rfl⟩ | ⟨rfl, rfl⟩ | ⟨rfl, rfl⟩ | ⟨rfl, rfl⟩ | ⟨rfl, rfl⟩ | ⟨rfl, rfl⟩ | ⟨rfl, rfl⟩ | ⟨rfl, rfl⟩ | ⟨rfl, rfl⟩ | ⟨rfl, rfl⟩ | ⟨rfl, rfl⟩ | ⟨rfl, rfl⟩ | ⟨rfl, rfl⟩ | ⟨rfl, rfl⟩ | ⟨rfl, rfl⟩ | ⟨rfl, rfl⟩ | ⟨rfl, rfl⟩ | ⟨rfl, rfl⟩ | ⟨rfl, rfl⟩ | ⟨rfl, rfl⟩ | ⟨rfl, rfl⟩ | ⟨rfl, rfl⟩ | ⟨rfl, rfl⟩ | ⟨rfl, rfl⟩ | ⟨rfl, rfl⟩ | ⟨rfl, rfl⟩ | ⟨rfl, rfl⟩
    · exact ⟨by kernel_rfl, Nat.le_of_ble_eq_true rfl, okBk_ok (by kernel_rfl)⟩
    · exact ⟨by kernel_rfl, Nat.le_of_ble_eq_true rfl, okBk_ok (by kernel_rfl)⟩
    · exact ⟨by kernel_rfl, Nat.le_of_ble_eq_true rfl, okBk_ok (by kernel_rfl)⟩
    · exact ⟨by kernel_rfl, Nat.le_of_ble_eq_true rfl, okBk_ok (by kernel_rfl)⟩
    · exact ⟨by kernel_rfl, Nat.le_of_ble_eq_true rfl, okBk_ok (by kernel_rfl)⟩
    · exact ⟨by kernel_rfl, Nat.le_of_ble_eq_true rfl, okBk_ok (by kernel_rfl)⟩
    · exact ⟨by kernel_rfl, Nat.le_of_ble_eq_true rfl, okBk_ok (by kernel_rfl)⟩
    · exact ⟨by kernel_rfl, Nat.le_of_ble_eq_true rfl, okBk_ok (by kernel_rfl)⟩
    · exact ⟨by kernel_rfl, Nat.le_of_ble_eq_true rfl, okBk_ok (by kernel_rfl)⟩
    · exact ⟨by kernel_rfl, Nat.le_of_ble_eq_true rfl, okBk_ok (by kernel_rfl)⟩
    · exact ⟨by kernel_rfl, Nat.le_of_ble_eq_true rfl, okBk_ok (by kernel_rfl)⟩
    · exact ⟨by kernel_rfl, Nat.le_of_ble_eq_true rfl, okBk_ok (by kernel_rfl)⟩
    · exact ⟨by kernel_rfl, Nat.le_of_ble_eq_true rfl, okBk_ok (by kernel_rfl)⟩
    · exact ⟨by kernel_rfl, Nat.le_of_ble_eq_true rfl, okBk_ok (by kernel_rfl)⟩
    · exact ⟨by kernel_rfl, Nat.le_of_ble_eq_true rfl, okBk_ok (by kernel_rfl)⟩
    · exact ⟨by kernel_rfl, Nat.le_of_ble_eq_true rfl, okBk_ok (by kernel_rfl)⟩
    · exact ⟨by kernel_rfl, Nat.le_of_ble_eq_true rfl, okBk_ok (by kernel_rfl)⟩
    · exact ⟨by kernel_rfl, Nat.le_of_ble_eq_true rfl, okBk_ok (by kernel_rfl)⟩
    · exact ⟨by kernel_rfl, Nat.le_of_ble_eq_true rfl, okBk_ok (by kernel_rfl)⟩
    · exact ⟨by kernel_rfl, Nat.le_of_ble_eq_true rfl, okBk_ok (by kernel_rfl)⟩
    · exact ⟨by kernel_rfl, Nat.le_of_ble_eq_true rfl, okBk_ok (by kernel_rfl)⟩
    · exact ⟨by kernel_rfl, Nat.le_of_ble_eq_true rfl, okBk_ok (by kernel_rfl)⟩
    · exact ⟨by kernel_rfl, Nat.le_of_ble_eq_true rfl, okBk_ok (by kernel_rfl)⟩
    · exact ⟨by kernel_rfl, Nat.le_of_ble_eq_true rfl, okBk_ok (by kernel_rfl)⟩
    · exact ⟨by kernel_rfl, Nat.le_of_ble_eq_true rfl, okBk_ok (by kernel_rfl)⟩
    · exact ⟨by kernel_rfl, Nat.le_of_ble_eq_true rfl, okBk_ok (by kernel_rfl)⟩
    · exact ⟨by kernel_rfl, Nat.le_of_ble_eq_true rfl, hbm⟩
    · exact ⟨by kernel_rfl, Nat.le_of_ble_eq_true rfl, hbt⟩
    · exact ⟨by kernel_rfl, Nat.le_of_ble_eq_true rfl, okBk_ok (by kernel_rfl)⟩
  · rw [T.get_e] at hg; cases hg
theorem rd_f1n1a1 {w0 : World} {Φ : Phi} {pJ : PB} {bm bt : Blk} (hbm : OkB 6563 bm) (hbt : OkB 6563 bt) (hJ : Φ 6300 = some pJ) (h0 : ∀ i, 6563 ≤ i → Φ i = none) : Reads w0 Φ (.pointer (some (pJ.addr 0))) (E8 bm bt) 1 (fun _ => 0) (E9 bm bt) := by
  refine reads_of (n := 104) x1_right x1_has17 hJ (h1 := ⟨ofPairs [(0, j0), (1, .map [] 298), (2, j16), (5, j2), (7, j3), (9, j4), (11, j5), (13, .map [] 29), (14, .map [] 29), (15, j6), (16, j7), (17, lB [.ptr 16 0, i64 2] false), (22, j8), (23, lB [.ptr 22 0, i64 2] false), (28, j9), (29, lB [.ptr 28 0, i64 2] false), (34, j10), (35, lB [.ptr 34 0, i64 2] false), (38, j11), (39, j12), (1082, .map [(i64 1, .ptr 6548 0, 0)] 1), (1083, j19), (6299, .map [] 0), (6300, j14), (6532, j15), (6548, lB [i64 1, sA 128 0, fV, i64 0] false), (6553, bm), (6554, bt), (6561, lB [.ptr 6548 0] true), (6562, bB 128 0 true)], 6563⟩) (id := 6562) (r_f1n1a1 bm bt) (by as_aux_lemma => kernel_rfl) h0 ?_
  intro i bl hg
  rcases get_pairT hg with hg | hg
  · simp only [List.mem_cons, Prod.mk.injEq, List.not_mem_nil, or_false] at hg
    rcases hg with ⟨rfl, rfl⟩ | ⟨rfl, rfl⟩ | ⟨rfl, rfl⟩ | ⟨rfl, rfl⟩ | ⟨rfl, rfl⟩ | ⟨rfl, rfl⟩ | ⟨rfl, rfl⟩ | ⟨rfl, rfl⟩ | ⟨rfl, rfl⟩ | ⟨rfl, rfl⟩ | ⟨rfl, rfl⟩ | ⟨rfl, rfl⟩ | ⟨rfl, rfl⟩ | ⟨rfl, rfl⟩ | ⟨rfl, rfl⟩ | ⟨rfl, rfl⟩ | ⟨rfl, rfl⟩ | ⟨rfl, rfl⟩ | ⟨rfl, rfl⟩ | ⟨rfl, rfl⟩ | ⟨rfl, rfl⟩ | ⟨rfl, rfl⟩ | ⟨rfl, rfl⟩ | ⟨rfl, rfl⟩ | ⟨rfl, rfl⟩ | ⟨rfl, rfl⟩ | ⟨rfl, rfl⟩ | ⟨rfl, rfl⟩ | ⟨rfl, rfl⟩
    · exact ⟨by kernel_rfl, Nat.le_of_ble_eq_true rfl, okBk_ok (by kernel_rfl)⟩
    · exact ⟨by kernel_rfl, Nat.le_of_ble_eq_true rfl, okBk_ok (by kernel_rfl)⟩
    · exact ⟨by kernel_rfl, Nat.le_of_ble_eq_true rfl, okBk_ok (by kernel_rfl)⟩
    · exact ⟨by kernel_rfl, Nat.le_of_ble_eq_true rfl, okBk_ok (by kernel_rfl)⟩
    · exact ⟨by kernel_rfl, Nat.le_of_ble_eq_true rfl, okBk_ok (by kernel_rfl)⟩
    · exact ⟨by kernel_rfl, Nat.le_of_ble_eq_true rfl, okBk_ok (by kernel_rfl)⟩
    · exact ⟨by kernel_rfl, Nat.le_of_ble_eq_true rfl, okBk_ok (by kernel_rfl)⟩
    · exact ⟨by kernel_rfl, Nat.le_of_ble_eq_true rfl, okBk_ok (by kernel_rfl)⟩
    · exact ⟨by kernel_rfl, Nat.le_of_ble_eq_true rfl, okBk_ok (by kernel_rfl)⟩
    · exact ⟨by kernel_rfl, Nat.le_of_ble_eq_true rfl, okBk_ok (by kernel_rfl)⟩
    · exact ⟨by kernel_rfl, Nat.le_of_ble_eq_true rfl, okBk_ok (by kernel_rfl)⟩
    · exact ⟨by kernel_rfl, Nat.le_of_ble_eq_true rfl, okBk_ok (by kernel_rfl)⟩
    · exact ⟨by kernel_rfl, Nat.le_of_ble_eq_true rfl, okBk_ok (by kernel_rfl)⟩
    · exact ⟨by kernel_rfl, Nat.le_of_ble_eq_true rfl, okBk_ok (by kernel_rfl)⟩
    · exact ⟨by kernel_rfl, Nat.le_of_ble_eq_true rfl, okBk_ok (by kernel_rfl)⟩
    · exact ⟨by kernel_rfl, Nat.le_of_ble_eq_true rfl, okBk_ok (by kernel_rfl)⟩
    · exact ⟨by kernel_rfl, Nat.le_of_ble_eq_true rfl, okBk_ok (by kernel_rfl)⟩
    · exact ⟨by kernel_rfl, Nat.le_of_ble_eq_true rfl, okBk_ok (by kernel_rfl)⟩
    · exact ⟨by kernel_rfl, Nat.le_of_ble_eq_true rfl, okBk_ok (by kernel_rfl)⟩
    · exact ⟨by kernel_rfl, Nat.le_of_ble_eq_true rfl, okBk_ok (by kernel_rfl)⟩
    · exact ⟨by kernel_rfl, Nat.le_of_ble_eq_true rfl, okBk_ok (by kernel_rfl)⟩
    · exact ⟨by kernel_rfl, Nat.le_of_ble_eq_true rfl, okBk_ok (by kernel_rfl)⟩
    · exact ⟨by kernel_rfl, Nat.le_of_ble_eq_true rfl, okBk_ok (by kernel_rfl)⟩
    · exact ⟨by kernel_rfl, Nat.le_of_ble_eq_true rfl, okBk_ok (by kernel_rfl)⟩
    · exact ⟨by kernel_rfl, Nat.le_of_ble_eq_true rfl, okBk_ok (by kernel_rfl)⟩
    · exact ⟨by kernel_rfl, Nat.le_of_ble_eq_true rfl, okBk_ok (by kernel_rfl)⟩
    · exact ⟨by kernel_rfl, Nat.le_of_ble_eq_true rfl, hbm⟩
    · exact ⟨by kernel_rfl, Nat.le_of_ble_eq_true rfl, hbt⟩
    · exact ⟨by kernel_rfl, Nat.le_of_ble_eq_true rfl, okBk_ok (by kernel_rfl)⟩
  · rw [T.get_e] at hg; cases hg
theorem wr_f1n1w {w0 : World} {Φ : Phi} {pJ : PB} {bm bt : Blk} {x : Nat → Nat} (hbm : OkB 6563 bm) (hbt : OkB 6563 bt) (hJ : Φ 6300 = some pJ) (h0 : ∀ i, 6563 ≤ i → Φ i = none) : Writes w0 Φ (.pointer (some (pJ.addr 0))) (E9 bm bt) 1 x (E10 bm bt (m8 x)) := by
  refine writes_of (n := 40) hJ (hw := ⟨ofPairs [(0, j0), (1, .map [] 298), (2, j16), (5, j2), (7, j3), (9, j4), (11, j5), (13, .map [] 29), (14, .map [] 29), (15, j6), (16, j7), (17, lB [.ptr 16 0, i64 2] false), (22, j8), (23, lB [.ptr 22 0, i64 2] false), (28, j9), (29, lB [.ptr 28 0, i64 2] false), (34, j10), (35, lB [.ptr 34 0, i64 2] false), (38, j11), (39, j12), (1082, .map [(i64 1, .ptr 6548 0, 0)] 1), (1083, j19), (6299, .map [] 0), (6300, j14), (6532, j15), (6548, lB [i64 1, sA 128 0, fV, i64 0] false), (6553, bm), (6554, bt), (6561, lB [.ptr 6548 0] true), (6563, rB x false)], 6564⟩) (by as_aux_lemma => kernel_rfl) (h1 := ⟨ofPairs [(0, j0), (1, .map [] 298), (2, j16), (5, j2), (7, j3), (9, j4), (11, j5), (13, .map [] 29), (14, .map [] 29), (15, j6), (16, j7), (17, lB [.ptr 16 0, i64 2] false), (22, j8), (23, lB [.ptr 22 0, i64 2] false), (28, j9), (29, lB [.ptr 28 0, i64 2] false), (34, j10), (35, lB [.ptr 34 0, i64 2] false), (38, j11), (39, j12), (1082, .map [(i64 1, .ptr 6548 0, 0)] 1), (1083, j19), (6299, .map [(i64 1, .str (rowX (m8 x)), 0)] 1), (6300, j14), (6532, j15), (6548, lB [i64 1, sA 128 0, fV, i64 0] false), (6553, bm), (6554, bt), (6561, lB [.ptr 6548 0] true)], 6564⟩) (r_f1n1w bm bt x) h0 ?_
  intro i bl hg
  rcases get_pairT hg with hg | hg
  · simp only [List.mem_cons, Prod.mk.injEq, List.not_mem_nil, or_false] at hg
    rcases hg with ⟨rfl, rfl⟩ | ⟨rfl, rfl⟩ | ⟨rfl, rfl⟩ | ⟨rfl, rfl⟩ | ⟨rfl, rfl⟩ | ⟨rfl, rfl⟩ | ⟨rfl, rfl⟩ | ⟨rfl, rfl⟩ | ⟨rfl, rfl⟩ | ⟨rfl, rfl⟩ | ⟨rfl, rfl⟩ | ⟨rfl, rfl⟩ | ⟨rfl, rfl⟩ | ⟨rfl, rfl⟩ | ⟨rfl, rfl⟩ | ⟨rfl, rfl⟩ | ⟨rfl, rfl⟩ | ⟨rfl, rfl⟩ | ⟨rfl, rfl⟩ | ⟨rfl, rfl⟩ | ⟨rfl, rfl⟩ | ⟨rfl, rfl⟩ | ⟨rfl, rfl⟩ | ⟨rfl, rfl⟩ | ⟨rfl, rfl⟩ | ⟨rfl, rfl⟩ | ⟨rfl, rfl⟩ | ⟨rfl, rfl⟩ | ⟨rfl, rfl⟩
    · exact ⟨by kernel_rfl, Nat.le_of_ble_eq_true rfl, okBk_ok (by kernel_rfl)⟩
    · exact ⟨by kernel_rfl, Nat.le_of_ble_eq_true rfl, okBk_ok (by kernel_rfl)⟩
    · exact ⟨by kernel_rfl, Nat.le_of_ble_eq_true rfl, okBk_ok (by kernel_rfl)⟩
    · exact ⟨by kernel_rfl, Nat.le_of_ble_eq_true rfl, okBk_ok (by kernel_rfl)⟩
    · exact ⟨by kernel_rfl, Nat.le_of_ble_eq_true rfl, okBk_ok (by kernel_rfl)⟩
    · exact ⟨by kernel_rfl, Nat.le_of_ble_eq_true rfl, okBk_ok (by kernel_rfl)⟩
    · exact ⟨by kernel_rfl, Nat.le_of_ble_eq_true rfl, okBk_ok (by kernel_rfl)⟩
    · exact ⟨by kernel_rfl, Nat.le_of_ble_eq_true rfl, okBk_ok (by kernel_rfl)⟩
    · exact ⟨by kernel_rfl, Nat.le_of_ble_eq_true rfl, okBk_ok (by kernel_rfl)⟩
    · exact ⟨by kernel_rfl, Nat.le_of_ble_eq_true rfl, okBk_ok (by kernel_rfl)⟩
    · exact ⟨by kernel_rfl, Nat.le_of_ble_eq_true rfl, okBk_ok (by kernel_rfl)⟩
    · exact ⟨by kernel_rfl, Nat.le_of_ble_eq_true rfl, okBk_ok (by kernel_rfl)⟩
    · exact ⟨by kernel_rfl, Nat.le_of_ble_eq_true rfl, okBk_ok (by kernel_rfl)⟩
    · exact ⟨by kernel_rfl, Nat.le_of_ble_eq_true rfl, okBk_ok (by kernel_rfl)⟩
    · exact ⟨by kernel_rfl, Nat.le_of_ble_eq_true rfl, okBk_ok (by kernel_rfl)⟩
    · exact ⟨by kernel_rfl, Nat.le_of_ble_eq_true rfl, okBk_ok (by kernel_rfl)⟩
    · exact ⟨by kernel_rfl, Nat.le_of_ble_eq_true rfl, okBk_ok (by kernel_rfl)⟩
    · exact ⟨by kernel_rfl, Nat.le_of_ble_eq_true rfl, okBk_ok (by kernel_rfl)⟩
    · exact ⟨by kernel_rfl, Nat.le_of_ble_eq_true rfl, okBk_ok (by kernel_rfl)⟩
    · exact ⟨by kernel_rfl, Nat.le_of_ble_eq_true rfl, okBk_ok (by kernel_rfl)⟩
    · exact ⟨by kernel_rfl, Nat.le_of_ble_eq_true rfl, okBk_ok (by kernel_rfl)⟩
    · exact ⟨by kernel_rfl, Nat.le_of_ble_eq_true rfl, okBk_ok (by kernel_rfl)⟩
    · exact ⟨by kernel_rfl, Nat.le_of_ble_eq_true rfl, okBk_ok (by kernel_rfl)⟩
    · exact ⟨by kernel_rfl, Nat.le_of_ble_eq_true rfl, okBk_ok (by kernel_rfl)⟩
    · exact ⟨by kernel_rfl, Nat.le_of_ble_eq_true rfl, okBk_ok (by kernel_rfl)⟩
    · exact ⟨by kernel_rfl, Nat.le_of_ble_eq_true rfl, okBk_ok (by kernel_rfl)⟩
    · exact ⟨by kernel_rfl, Nat.le_of_ble_eq_true rfl, hbm⟩
    · exact ⟨by kernel_rfl, Nat.le_of_ble_eq_true rfl, hbt⟩
    · exact ⟨by kernel_rfl, Nat.le_of_ble_eq_true rfl, okBk_ok (by kernel_rfl)⟩
  · rw [T.get_e] at hg; cases hg
theorem rd_f1n1br {w0 : World} {Φ : Phi} {pJ : PB} {bm bt : Blk} {x : Nat → Nat} (hbm : OkB 6563 bm) (hbt : OkB 6563 bt) (hJ : Φ 6300 = some pJ) (h0 : ∀ i, 6563 ≤ i → Φ i = none) : Reads w0 Φ (.pointer (some (pJ.addr 0))) (E10 bm bt x) 1 x (E10 bm bt x) := by
  refine reads_of (n := 38) x1_right x1_has17 hJ (h1 := ⟨ofPairs [(0, j0), (1, .map [] 298), (2, j16), (5, j2), (7, j3), (9, j4), (11, j5), (13, .map [] 29), (14, .map [] 29), (15, j6), (16, j7), (17, lB [.ptr 16 0, i64 2] false), (22, j8), (23, lB [.ptr 22 0, i64 2] false), (28, j9), (29, lB [.ptr 28 0, i64 2] false), (34, j10), (35, lB [.ptr 34 0, i64 2] false), (38, j11), (39, j12), (1082, .map [(i64 1, .ptr 6548 0, 0)] 1), (1083, j19), (6299, .map [(i64 1, .str (rowX x), 0)] 1), (6300, j14), (6532, j15), (6548, lB [i64 1, sA 128 0, fV, i64 0] false), (6553, bm), (6554, bt), (6561, lB [.ptr 6548 0] true), (6563, rB x true)], 6564⟩) (id := 6563) (r_f1n1br bm bt x) (by as_aux_lemma => kernel_rfl) h0 ?_
  intro i bl hg
  rcases get_pairT hg with hg | hg
  · simp only [List.mem_cons, Prod.mk.injEq, List.not_mem_nil, or_false] at hg
    rcases hg with ⟨rfl, rfl⟩ | ⟨rfl, rfl⟩ | ⟨rfl, rfl⟩ | ⟨rfl, rfl⟩ | ⟨rfl, rfl⟩ | ⟨rfl, rfl⟩ | ⟨rfl, rfl⟩ | ⟨rfl, rfl⟩ | ⟨rfl, rfl⟩ | ⟨rfl, rfl⟩ | ⟨rfl, rfl⟩ | ⟨rfl, rfl⟩ | ⟨rfl, rfl⟩ | ⟨rfl, rfl⟩ | ⟨rfl, rfl⟩ | ⟨rfl, rfl⟩ | ⟨rfl, rfl⟩ | ⟨rfl, rfl⟩ | ⟨rfl, rfl⟩ | ⟨rfl, rfl⟩ | ⟨rfl, rfl⟩ | ⟨rfl, rfl⟩ | ⟨rfl, rfl⟩ | ⟨rfl, rfl⟩ | ⟨rfl, rfl⟩ | ⟨rfl, rfl⟩ | ⟨rfl, rfl⟩ | ⟨rfl, rfl⟩ | ⟨rfl, rfl⟩
    · exact ⟨by kernel_rfl, Nat.le_of_ble_eq_true rfl, okBk_ok (by kernel_rfl)⟩
    · exact ⟨by kernel_rfl, Nat.le_of_ble_eq_true rfl, okBk_ok (by kernel_rfl)⟩
    · exact ⟨by kernel_rfl, Nat.le_of_ble_eq_true rfl, okBk_ok (by kernel_rfl)⟩
    · exact ⟨by kernel_rfl, Nat.le_of_ble_eq_true rfl, okBk_ok (by kernel_rfl)⟩
    · exact ⟨by kernel_rfl, Nat.le_of_ble_eq_true rfl, okBk_ok (by kernel_rfl)⟩
    · exact ⟨by kernel_rfl, Nat.le_of_ble_eq_true rfl, okBk_ok (by kernel_rfl)⟩
    · exact ⟨by kernel_rfl, Nat.le_of_ble_eq_true rfl, okBk_ok (by kernel_rfl)⟩
    · exact ⟨by kernel_rfl, Nat.le_of_ble_eq_true rfl, okBk_ok (by kernel_rfl)⟩
    · exact ⟨by kernel_rfl, Nat.le_of_ble_eq_true rfl, okBk_ok (by kernel_rfl)⟩
    · exact ⟨by kernel_rfl, Nat.le_of_ble_eq_true rfl, okBk_ok (by kernel_rfl)⟩
    · exact ⟨by kernel_rfl, Nat.le_of_ble_eq_true rfl, okBk_ok (by kernel_rfl)⟩
    · exact ⟨by kernel_rfl, Nat.le_of_ble_eq_true rfl, okBk_ok (by kernel_rfl)⟩
    · exact ⟨by kernel_rfl, Nat.le_of_ble_eq_true rfl, okBk_ok (by kernel_rfl)⟩
    · exact ⟨by kernel_rfl, Nat.le_of_ble_eq_true rfl, okBk_ok (by kernel_rfl)⟩
    · exact ⟨by kernel_rfl, Nat.le_of_ble_eq_true rfl, okBk_ok (by kernel_rfl)⟩
    · exact ⟨by kernel_rfl, Nat.le_of_ble_eq_true rfl, okBk_ok (by kernel_rfl)⟩
    · exact ⟨by kernel_rfl, Nat.le_of_ble_eq_true rfl, okBk_ok (by kernel_rfl)⟩
    · exact ⟨by kernel_rfl, Nat.le_of_ble_eq_true rfl, okBk_ok (by kernel_rfl)⟩
    · exact ⟨by kernel_rfl, Nat.le_of_ble_eq_true rfl, okBk_ok (by kernel_rfl)⟩
    · exact ⟨by kernel_rfl, Nat.le_of_ble_eq_true rfl, okBk_ok (by kernel_rfl)⟩
    · exact ⟨by kernel_rfl, Nat.le_of_ble_eq_true rfl, okBk_ok (by kernel_rfl)⟩
    · exact ⟨by kernel_rfl, Nat.le_of_ble_eq_true rfl, okBk_ok (by kernel_rfl)⟩
    · exact ⟨by kernel_rfl, Nat.le_of_ble_eq_true rfl, okBk_ok (by kernel_rfl)⟩
    · exact ⟨by kernel_rfl, Nat.le_of_ble_eq_true rfl, okBk_ok (by kernel_rfl)⟩
    · exact ⟨by kernel_rfl, Nat.le_of_ble_eq_true rfl, okBk_ok (by kernel_rfl)⟩
    · exact ⟨by kernel_rfl, Nat.le_of_ble_eq_true rfl, okBk_ok (by kernel_rfl)⟩
    · exact ⟨by kernel_rfl, Nat.le_of_ble_eq_true rfl, hbm⟩
    · exact ⟨by kernel_rfl, Nat.le_of_ble_eq_true rfl, hbt⟩
    · exact ⟨by kernel_rfl, Nat.le_of_ble_eq_true rfl, okBk_ok (by kernel_rfl)⟩
  · rw [T.get_e] at hg; cases hg
theorem wr_f1n1bw {w0 : World} {Φ : Phi} {pJ : PB} {bm bt : Blk} {x y : Nat → Nat} (hbm : OkB 6563 bm) (hbt : OkB 6563 bt) (hJ : Φ 6300 = some pJ) (h0 : ∀ i, 6563 ≤ i → Φ i = none) : Writes w0 Φ (.pointer (some (pJ.addr 0))) (E10 bm bt x) 1 y (E10 bm bt (m8 y)) := by
  refine writes_of (n := 40) hJ (hw := ⟨ofPairs [(0, j0), (1, .map [] 298), (2, j16), (5, j2), (7, j3), (9, j4), (11, j5), (13, .map [] 29), (14, .map [] 29), (15, j6), (16, j7), (17, lB [.ptr 16 0, i64 2] false), (22, j8), (23, lB [.ptr 22 0, i64 2] false), (28, j9), (29, lB [.ptr 28 0, i64 2] false), (34, j10), (35, lB [.ptr 34 0, i64 2] false), (38, j11), (39, j12), (1082, .map [(i64 1, .ptr 6548 0, 0)] 1), (1083, j19), (6299, .map [(i64 1, .str (rowX x), 0)] 1), (6300, j14), (6532, j15), (6548, lB [i64 1, sA 128 0, fV, i64 0] false), (6553, bm), (6554, bt), (6561, lB [.ptr 6548 0] true), (6563, rB y false)], 6564⟩) (by as_aux_lemma => kernel_rfl) (h1 := ⟨ofPairs [(0, j0), (1, .map [] 298), (2, j16), (5, j2), (7, j3), (9, j4), (11, j5), (13, .map [] 29), (14, .map [] 29), (15, j6), (16, j7), (17, lB [.ptr 16 0, i64 2] false), (22, j8), (23, lB [.ptr 22 0, i64 2] false), (28, j9), (29, lB [.ptr 28 0, i64 2] false), (34, j10), (35, lB [.ptr 34 0, i64 2] false), (38, j11), (39, j12), (1082, .map [(i64 1, .ptr 6548 0, 0)] 1), (1083, j19), (6299, .map [(i64 1, .str (rowX (m8 y)), 0)] 1), (6300, j14), (6532, j15), (6548, lB [i64 1, sA 128 0, fV, i64 0] false), (6553, bm), (6554, bt), (6561, lB [.ptr 6548 0] true)], 6564⟩) (r_f1n1bw bm bt x y) h0 ?_
  intro i bl hg
  rcases get_pairT hg with hg | hg
  · simp only [List.mem_cons, Prod.mk.injEq, List.not_mem_nil, or_false] at hg
    rcases hg with ⟨rfl, rfl⟩ | ⟨rfl, rfl⟩ | ⟨rfl, rfl⟩ | ⟨rfl, rfl⟩ | ⟨rfl, rfl⟩ | ⟨rfl, rfl⟩ | ⟨rfl, rfl⟩ | ⟨rfl, rfl⟩ | ⟨rfl, rfl⟩ | ⟨rfl, rfl⟩ | ⟨rfl, rfl⟩ | ⟨rfl, rfl⟩ | ⟨rfl, rfl⟩ | ⟨rfl, rfl⟩ | ⟨rfl, rfl⟩ | ⟨rfl, rfl⟩ | ⟨rfl, rfl⟩ | ⟨rfl, rfl⟩ | ⟨rfl, rfl⟩ | ⟨rfl, rfl⟩ | ⟨rfl, rfl⟩ | ⟨rfl, rfl⟩ | ⟨rfl, rfl⟩ | ⟨rfl, rfl⟩ | ⟨rfl, rfl⟩ | ⟨rfl, rfl⟩ | ⟨rfl, rfl⟩ | ⟨rfl, rfl⟩ | ⟨rfl, rfl⟩
    · exact ⟨by kernel_rfl, Nat.le_of_ble_eq_true rfl, okBk_ok (by kernel_rfl)⟩
    · exact ⟨by kernel_rfl, Nat.le_of_ble_eq_true rfl, okBk_ok (by kernel_rfl)⟩
    · exact ⟨by kernel_rfl, Nat.le_of_ble_eq_true rfl, okBk_ok (by kernel_rfl)⟩
    · exact ⟨by kernel_rfl, Nat.le_of_ble_eq_true rfl, okBk_ok (by kernel_rfl)⟩
    · exact ⟨by kernel_rfl, Nat.le_of_ble_eq_true rfl, okBk_ok (by kernel_rfl)⟩
    · exact ⟨by kernel_rfl, Nat.le_of_ble_eq_true rfl, okBk_ok (by kernel_rfl)⟩
    · exact ⟨by kernel_rfl, Nat.le_of_ble_eq_true rfl, okBk_ok (by kernel_rfl)⟩
    · exact ⟨by kernel_rfl, Nat.le_of_ble_eq_true rfl, okBk_ok (by kernel_rfl)⟩
    · exact ⟨by kernel_rfl, Nat.le_of_ble_eq_true rfl, okBk_ok (by kernel_rfl)⟩
    · exact ⟨by kernel_rfl, Nat.le_of_ble_eq_true rfl, okBk_ok (by kernel_rfl)⟩
    · exact ⟨by kernel_rfl, Nat.le_of_ble_eq_true rfl, okBk_ok (by kernel_rfl)⟩
    · exact ⟨by kernel_rfl, Nat.le_of_ble_eq_true rfl, okBk_ok (by kernel_rfl)⟩
    · exact ⟨by kernel_rfl, Nat.le_of_ble_eq_true rfl, okBk_ok (by kernel_rfl)⟩
    · exact ⟨by kernel_rfl, Nat.le_of_ble_eq_true rfl, okBk_ok (by kernel_rfl)⟩
    · exact ⟨by kernel_rfl, Nat.le_of_ble_eq_true rfl, okBk_ok (by kernel_rfl)⟩
    · exact ⟨by kernel_rfl, Nat.le_of_ble_eq_true rfl, okBk_ok (by kernel_rfl)⟩
    · exact ⟨by kernel_rfl, Nat.le_of_ble_eq_true rfl, okBk_ok (by kernel_rfl)⟩
    · exact ⟨by kernel_rfl, Nat.le_of_ble_eq_true rfl, okBk_ok (by kernel_rfl)⟩
    · exact ⟨by kernel_rfl, Nat.le_of_ble_eq_true rfl, okBk_ok (by kernel_rfl)⟩
    · exact ⟨by kernel_rfl, Nat.le_of_ble_eq_true rfl, okBk_ok (by kernel_rfl)⟩
    · exact ⟨by kernel_rfl, Nat.le_of_ble_eq_true rfl, okBk_ok (by kernel_rfl)⟩
    · exact ⟨by kernel_rfl, Nat.le_of_ble_eq_true rfl, okBk_ok (by kernel_rfl)⟩
    · exact ⟨by kernel_rfl, Nat.le_of_ble_eq_true rfl, okBk_ok (by kernel_rfl)⟩
    · exact ⟨by kernel_rfl, Nat.le_of_ble_eq_true rfl, okBk_ok (by kernel_rfl)⟩
    · exact ⟨by kernel_rfl, Nat.le_of_ble_eq_true rfl, okBk_ok (by kernel_rfl)⟩
    · exact ⟨by kernel_rfl, Nat.le_of_ble_eq_true rfl, okBk_ok (by kernel_rfl)⟩
    · exact ⟨by kernel_rfl, Nat.le_of_ble_eq_true rfl, hbm⟩
    · exact ⟨by kernel_rfl, Nat.le_of_ble_eq_true rfl, hbt⟩
    · exact ⟨by kernel_rfl, Nat.le_of_ble_eq_true rfl, okBk_ok (by kernel_rfl)⟩
  · rw [T.get_e] at hg; cases hg
theorem rd_f1n2o1 {w0 : World} {Φ : Phi} {pJ : PB} (hJ : Φ 6300 = some pJ) (h0 : ∀ i, 6573 ≤ i → Φ i = none) : Reads w0 Φ (.pointer (some (pJ.addr 0))) E6 2 (fun _ => 0) E11 := by
  refine reads_of (n := 298) x0_right x0_has17 hJ (h1 := ⟨ofPairs [(0, j0), (1, .map [] 298), (2, j20), (5, j2), (7, j3), (9, j4), (11, j5), (13, .map [] 29), (14, .map [] 29), (15, j6), (16, j7), (17, lB [.ptr 16 0, i64 2] false), (22, j8), (23, lB [.ptr 22 0, i64 2] false), (28, j9), (29, lB [.ptr 28 0, i64 2] false), (34, j10), (35, lB [.ptr 34 0, i64 2] false), (38, j11), (39, j12), (1082, j21), (1083, j22), (6299, .map [] 0), (6300, j14), (6532, j15), (6548, lB [i64 1, sA 128 0, fV, i64 0] false), (6568, lB [i64 2, sA 128 0, fV, i64 0] false), (6571, lB [.ptr 6548 0, .ptr 6568 0] true), (6572, bB 128 0 true)], 6573⟩) (id := 6572) (r_f1n2o1) (by as_aux_lemma => kernel_rfl) h0 ?_
  intro i bl hg
  rcases get_pairT hg with hg | hg
  · simp only [List.mem_cons, Prod.mk.injEq, List.not_mem_nil, or_false] at hg
    rcases hg with ⟨rfl, rfl⟩ | ⟨rfl, rfl⟩ | ⟨rfl, rfl⟩ | ⟨rfl, rfl⟩ | ⟨rfl, rfl⟩ | ⟨rfl, rfl⟩ | ⟨rfl, rfl⟩ | ⟨rfl, rfl⟩ | ⟨rfl, rfl⟩ | ⟨rfl, rfl⟩ | ⟨rfl, rfl⟩ | ⟨rfl, rfl⟩ | ⟨rfl, rfl⟩ | ⟨rfl, rfl⟩ | ⟨rfl, rfl⟩ | ⟨rfl, rfl⟩ | ⟨rfl, rfl⟩ | ⟨rfl, rfl⟩ | ⟨rfl, rfl⟩ | ⟨rfl, rfl⟩ | ⟨rfl, rfl⟩ | ⟨rfl, rfl⟩ | ⟨rfl, rfl⟩ | ⟨rfl, rfl⟩ | ⟨rfl, rfl⟩ | ⟨rfl, rfl⟩ | ⟨rfl, rfl⟩ | ⟨rfl, rfl⟩
    · exact ⟨by kernel_rfl, Nat.le_of_ble_eq_true rfl, okBk_ok (by kernel_rfl)⟩
    · exact ⟨by kernel_rfl, Nat.le_of_ble_eq_true rfl, okBk_ok (by kernel_rfl)⟩
    · exact ⟨by kernel_rfl, Nat.le_of_ble_eq_true rfl, okBk_ok (by kernel_rfl)⟩
    · exact ⟨by kernel_rfl, Nat.le_of_ble_eq_true rfl, okBk_ok (by kernel_rfl)⟩
    · exact ⟨by kernel_rfl, Nat.le_of_ble_eq_true rfl, okBk_ok (by kernel_rfl)⟩
    · exact ⟨by kernel_rfl, Nat.le_of_ble_eq_true rfl, okBk_ok (by kernel_rfl)⟩
    · exact ⟨by kernel_rfl, Nat.le_of_ble_eq_true rfl, okBk_ok (by kernel_rfl)⟩
    · exact ⟨by kernel_rfl, Nat.le_of_ble_eq_true rfl, okBk_ok (by kernel_rfl)⟩
    · exact ⟨by kernel_rfl, Nat.le_of_ble_eq_true rfl, okBk_ok (by kernel_rfl)⟩
    · exact ⟨by kernel_rfl, Nat.le_of_ble_eq_true rfl, okBk_ok (by kernel_rfl)⟩
    · exact ⟨by kernel_rfl, Nat.le_of_ble_eq_true rfl, okBk_ok (by kernel_rfl)⟩
    · exact ⟨by kernel_rfl, Nat.le_of_ble_eq_true rfl, okBk_ok (by kernel_rfl)⟩
    · exact ⟨by kernel_rfl, Nat.le_of_ble_eq_true rfl, okBk_ok (by kernel_rfl)⟩
    · exact ⟨by kernel_rfl, Nat.le_of_ble_eq_true rfl, okBk_ok (by kernel_rfl)⟩
    · exact ⟨by kernel_rfl, Nat.le_of_ble_eq_true rfl, okBk_ok (by kernel_rfl)⟩
    · exact ⟨by kernel_rfl, Nat.le_of_ble_eq_true rfl, okBk_ok (by kernel_rfl)⟩
    · exact ⟨by kernel_rfl, Nat.le_of_ble_eq_true rfl, okBk_ok (by kernel_rfl)⟩
    · exact ⟨by kernel_rfl, Nat.le_of_ble_eq_true rfl, okBk_ok (by kernel_rfl)⟩
    · exact ⟨by kernel_rfl, Nat.le_of_ble_eq_true rfl, okBk_ok (by kernel_rfl)⟩
    · exact ⟨by kernel_rfl, Nat.le_of_ble_eq_true rfl, okBk_ok (by kernel_rfl)⟩
    · exact ⟨by kernel_rfl, Nat.le_of_ble_eq_true rfl, okBk_ok (by kernel_rfl)⟩
    · exact ⟨by kernel_rfl, Nat.le_of_ble_eq_true rfl, okBk_ok (by kernel_rfl)⟩
    · exact ⟨by kernel_rfl, Nat.le_of_ble_eq_true rfl, okBk_ok (by kernel_rfl)⟩
    · exact ⟨by kernel_rfl, Nat.le_of_ble_eq_true rfl, okBk_ok (by kernel_rfl)⟩
    · exact ⟨by kernel_rfl, Nat.le_of_ble_eq_true rfl, okBk_ok (by kernel_rfl)⟩
    · exact ⟨by kernel_rfl, Nat.le_of_ble_eq_true rfl, okBk_ok (by kernel_rfl)⟩
    · exact ⟨by kernel_rfl, Nat.le_of_ble_eq_true rfl, okBk_ok (by kernel_rfl)⟩
    · exact ⟨by kernel_rfl, Nat.le_of_ble_eq_true rfl, okBk_ok (by kernel_rfl)⟩
  · rw [T.get_e] at hg; cases hg
theorem rd_f1n2a {w0 : World} {Φ : Phi} {pJ : PB} {bm bt : Blk} (hbm : OkB 6579 bm) (hbt : OkB 6579 bt) (hJ : Φ 6300 = some pJ) (h0 : ∀ i, 6579 ≤ i → Φ i = none) : Reads w0 Φ (.pointer (some (pJ.addr 0))) (E12 bm bt) 1 (fun _ => 0) (E13 bm bt) := by
  refine reads_of (n := 116) x1_right x1_has17 hJ (h1 := ⟨ofPairs [(0, j0), (1, .map [] 298), (2, j20), (5, j2), (7, j3), (9, j4), (11, j5), (13, .map [] 29), (14, .map [] 29), (15, j6), (16, j7), (17, lB [.ptr 16 0, i64 2] false), (22, j8), (23, lB [.ptr 22 0, i64 2] false), (28, j9), (29, lB [.ptr 28 0, i64 2] false), (34, j10), (35, lB [.ptr 34 0, i64 2] false), (38, j11), (39, j12), (1082, j21), (1083, j23), (6299, .map [] 0), (6300, j14), (6532, j15), (6548, lB [i64 1, sA 128 0, fV, i64 0] false), (6568, lB [i64 2, sA 128 0, fV, i64 0] false), (6573, bm), (6574, bt), (6577, lB [.ptr 6568 0, .ptr 6548 0] true), (6578, bB 128 0 true)], 6579⟩) (id := 6578) (r_f1n2a bm bt) (by as_aux_lemma => kernel_rfl) h0 ?_
  intro i bl hg
  rcases get_pairT hg with hg | hg
  · simp only [List.mem_cons, Prod.mk.injEq, List.not_mem_nil, or_false] at hg
    rcases hg with ⟨rfl, rfl⟩ | ⟨rfl, rfl⟩ | ⟨rfl, rfl⟩ | ⟨rfl, rfl⟩ | ⟨rfl, rfl⟩ | ⟨rfl, rfl⟩ | ⟨rfl, rfl⟩ | ⟨rfl, rfl⟩ | ⟨rfl, rfl⟩ | ⟨rfl, rfl⟩ | ⟨rfl, rfl⟩ | ⟨rfl, rfl⟩ | ⟨rfl, rfl⟩ | ⟨rfl, rfl⟩ | ⟨rfl, rfl⟩ | ⟨rfl, rfl⟩ | ⟨rfl, rfl⟩ | ⟨rfl, rfl⟩ | ⟨rfl, rfl⟩ | ⟨rfl, rfl⟩ | ⟨rfl, rfl⟩ | ⟨rfl, rfl⟩ | ⟨rfl, rfl⟩ | ⟨rfl, rfl⟩ | ⟨rfl, rfl⟩ | ⟨rfl, rfl⟩ | ⟨rfl, rfl⟩ | ⟨rfl, rfl⟩ | ⟨rfl, rfl⟩ | ⟨rfl, rfl⟩
    · exact ⟨by kernel_rfl, Nat.le_of_ble_eq_true rfl, okBk_ok (by kernel_rfl)⟩
    · exact ⟨by kernel_rfl, Nat.le_of_ble_eq_true rfl, okBk_ok (by kernel_rfl)⟩
    · exact ⟨by kernel_rfl, Nat.le_of_ble_eq_true rfl, okBk_ok (by kernel_rfl)⟩
    · exact ⟨by kernel_rfl, Nat.le_of_ble_eq_true rfl, okBk_ok (by kernel_rfl)⟩
    · exact ⟨by kernel_rfl, Nat.le_of_ble_eq_true rfl, okBk_ok (by kernel_rfl)⟩
    · exact ⟨by kernel_rfl, Nat.le_of_ble_eq_true rfl, okBk_ok (by kernel_rfl)⟩
    · exact ⟨by kernel_rfl, Nat.le_of_ble_eq_true rfl, okBk_ok (by kernel_rfl)⟩
    · exact ⟨by kernel_rfl, Nat.le_of_ble_eq_true rfl, okBk_ok (by kernel_rfl)⟩
    · exact ⟨by kernel_rfl, Nat.le_of_ble_eq_true rfl, okBk_ok (by kernel_rfl)⟩
    · exact ⟨by kernel_rfl, Nat.le_of_ble_eq_true rfl, okBk_ok (by kernel_rfl)⟩
    · exact ⟨by kernel_rfl, Nat.le_of_ble_eq_true rfl, okBk_ok (by kernel_rfl)⟩
    · exact ⟨by kernel_rfl, Nat.le_of_ble_eq_true rfl, okBk_ok (by kernel_rfl)⟩
    · exact ⟨by kernel_rfl, Nat.le_of_ble_eq_true rfl, okBk_ok (by kernel_rfl)⟩
    · exact ⟨by kernel_rfl, Nat.le_of_ble_eq_true rfl, okBk_ok (by kernel_rfl)⟩
    · exact ⟨by kernel_rfl, Nat.le_of_ble_eq_true rfl, okBk_ok (by kernel_rfl)⟩
    · exact ⟨by kernel_rfl, Nat.le_of_ble_eq_true rfl, okBk_ok (by kernel_rfl)⟩
    · exact ⟨by kernel_rfl, Nat.le_of_ble_eq_true rfl, okBk_ok (by kernel_rfl)⟩
    · exact ⟨by kernel_rfl, Nat.le_of_ble_eq_true rfl, okBk_ok (by kernel_rfl)⟩
    · exact ⟨by kernel_rfl, Nat.le_of_ble_eq_true rfl, okBk_ok (by kernel_rfl)⟩
    · exact ⟨by kernel_rfl, Nat.le_of_ble_eq_true rfl, okBk_ok (by kernel_rfl)⟩
    · exact ⟨by kernel_rfl, Nat.le_of_ble_eq_true rfl, okBk_ok (by kernel_rfl)⟩
    · exact ⟨by kernel_rfl, Nat.le_of_ble_eq_true rfl, okBk_ok (by kernel_rfl)⟩
    · exact ⟨by kernel_rfl, Nat.le_of_ble_eq_true rfl, okBk_ok (by kernel_rfl)⟩
    · exact ⟨by kernel_rfl, Nat.le_of_ble_eq_true rfl, okBk_ok (by kernel_rfl)⟩
    · exact ⟨by kernel_rfl, Nat.le_of_ble_eq_true rfl, okBk_ok (by kernel_rfl)⟩
    · exact ⟨by kernel_rfl, Nat.le_of_ble_eq_true rfl, okBk_ok (by kernel_rfl)⟩
    · exact ⟨by kernel_rfl, Nat.le_of_ble_eq_true rfl, okBk_ok (by kernel_rfl)⟩
    · exact ⟨by kernel_rfl, Nat.le_of_ble_eq_true rfl, hbm⟩
    · exact ⟨by kernel_rfl, Nat.le_of_ble_eq_true rfl, hbt⟩
    · exact ⟨by kernel_rfl, Nat.le_of_ble_eq_true rfl, okBk_ok (by kernel_rfl)⟩
  · rw [T.get_e] at hg; cases hg
theorem rd_f1n2a1 {w0 : World} {Φ : Phi} {pJ : PB} {bm bt : Blk} (hbm : OkB 6583 bm) (hbt : OkB 6583 bt) (hJ : Φ 6300 = some pJ) (h0 : ∀ i, 6583 ≤ i → Φ i = none) : Reads w0 Φ (.pointer (some (pJ.addr 0))) (E13 bm bt) 1 (fun _ => 0) (E14 bm bt) := by
  refine reads_of (n := 115) x1_right x1_has17 hJ (h1 := ⟨ofPairs [(0, j0), (1, .map [] 298), (2, j20), (5, j2), (7, j3), (9, j4), (11, j5), (13, .map [] 29), (14, .map [] 29), (15, j6), (16, j7), (17, lB [.ptr 16 0, i64 2] false), (22, j8), (23, lB [.ptr 22 0, i64 2] false), (28, j9), (29, lB [.ptr 28 0, i64 2] false), (34, j10), (35, lB [.ptr 34 0, i64 2] false), (38, j11), (39, j12), (1082, j21), (1083, j24), (6299, .map [] 0), (6300, j14), (6532, j15), (6548, lB [i64 1, sA 128 0, fV, i64 0] false), (6568, lB [i64 2, sA 128 0, fV, i64 0] false), (6573, bm), (6574, bt), (6581, lB [.ptr 6568 0, .ptr 6548 0] true), (6582, bB 128 0 true)], 6583⟩) (id := 6582) (r_f1n2a1 bm bt) (by as_aux_lemma => kernel_rfl) h0 ?_
  intro i bl hg
  rcases get_pairT hg with hg | hg
  · simp only [List.mem_cons, Prod.mk.injEq, List.not_mem_nil, or_false] at hg
    rcases hg with ⟨rfl, rfl⟩ | ⟨rfl, rfl⟩ | ⟨rfl, rfl⟩ | ⟨rfl, rfl⟩ | ⟨rfl, rfl⟩ | ⟨rfl, rfl⟩ | ⟨rfl, rfl⟩ | ⟨rfl, rfl⟩ | ⟨rfl, rfl⟩ | ⟨rfl, rfl⟩ | ⟨rfl, rfl⟩ | ⟨rfl, rfl⟩ | ⟨rfl, rfl⟩ | ⟨rfl, rfl⟩ | ⟨rfl, rfl⟩ | ⟨rfl, rfl⟩ | ⟨rfl, rfl⟩ | ⟨rfl, rfl⟩ | ⟨rfl, rfl⟩ | ⟨rfl, rfl⟩ | ⟨rfl, rfl⟩ | ⟨rfl, rfl⟩ | ⟨rfl, rfl⟩ | ⟨rfl, rfl⟩ | ⟨rfl, rfl⟩ | ⟨rfl, rfl⟩ | ⟨rfl, rfl⟩ | ⟨rfl, rfl⟩ | ⟨rfl, rfl⟩ | ⟨rfl, rfl⟩
    · exact ⟨by kernel_rfl, Nat.le_of_ble_eq_true rfl, okBk_ok (by kernel_rfl)⟩
    · exact ⟨by kernel_rfl, Nat.le_of_ble_eq_true rfl, okBk_ok (by kernel_rfl)⟩
    · exact ⟨by kernel_rfl, Nat.le_of_ble_eq_true rfl, okBk_ok (by kernel_rfl)⟩
    · exact ⟨by kernel_rfl, Nat.le_of_ble_eq_true rfl, okBk_ok (by kernel_rfl)⟩
    · exact ⟨by kernel_rfl, Nat.le_of_ble_eq_true rfl, okBk_ok (by kernel_rfl)⟩
    · exact ⟨by kernel_rfl, Nat.le_of_ble_eq_true rfl, okBk_ok (by kernel_rfl)⟩
    · exact ⟨by kernel_rfl, Nat.le_of_ble_eq_true rfl, okBk_ok (by kernel_rfl)⟩
    · exact ⟨by kernel_rfl, Nat.le_of_ble_eq_true rfl, okBk_ok (by kernel_rfl)⟩
    · exact ⟨by kernel_rfl, Nat.le_of_ble_eq_true rfl, okBk_ok (by kernel_rfl)⟩
    · exact ⟨by kernel_rfl, Nat.le_of_ble_eq_true rfl, okBk_ok (by kernel_rfl)⟩
    · exact ⟨by kernel_rfl, Nat.le_of_ble_eq_true rfl, okBk_ok (by kernel_rfl)⟩
    · exact ⟨by kernel_rfl, Nat.le_of_ble_eq_true rfl, okBk_ok (by kernel_rfl)⟩
    · exact ⟨by kernel_rfl, Nat.le_of_ble_eq_true rfl, okBk_ok (by kernel_rfl)⟩
    · exact ⟨by kernel_rfl, Nat.le_of_ble_eq_true rfl, okBk_ok (by kernel_rfl)⟩
    · exact ⟨by kernel_rfl, Nat.le_of_ble_eq_true rfl, okBk_ok (by kernel_rfl)⟩
    · exact ⟨by kernel_rfl, Nat.le_of_ble_eq_true rfl, okBk_ok (by kernel_rfl)⟩
    · exact ⟨by kernel_rfl, Nat.le_of_ble_eq_true rfl, okBk_ok (by kernel_rfl)⟩
    · exact ⟨by kernel_rfl, Nat.le_of_ble_eq_true rfl, okBk_ok (by kernel_rfl)⟩
    · exact ⟨by kernel_rfl, Nat.le_of_ble_eq_true rfl, okBk_ok (by kernel_rfl)⟩
    · exact ⟨by kernel_rfl, Nat.le_of_ble_eq_true rfl, okBk_ok (by kernel_rfl)⟩
    · exact ⟨by kernel_rfl, Nat.le_of_ble_eq_true rfl, okBk_ok (by kernel_rfl)⟩
    · exact ⟨by kernel_rfl, Nat.le_of_ble_eq_true rfl, okBk_ok (by kernel_rfl)⟩
    · exact ⟨by kernel_rfl, Nat.le_of_ble_eq_true rfl, okBk_ok (by kernel_rfl)⟩
    · exact ⟨by kernel_rfl, Nat.le_of_ble_eq_true rfl, okBk_ok (by kernel_rfl)⟩
    · exact ⟨by kernel_rfl, Nat.le_of_ble_eq_true rfl, okBk_ok (by kernel_rfl)⟩
    · exact ⟨by kernel_rfl, Nat.le_of_ble_eq_true rfl, okBk_ok (by kernel_rfl)⟩
    · exact ⟨by kernel_rfl, Nat.le_of_ble_eq_true rfl, okBk_ok (by kernel_rfl)⟩
    · exact ⟨by kernel_rfl, Nat.le_of_ble_eq_true rfl, hbm⟩
    · exact ⟨by kernel_rfl, Nat.le_of_ble_eq_true rfl, hbt⟩
    · exact ⟨by kernel_rfl, Nat.le_of_ble_eq_true rfl, okBk_ok (by kernel_rfl)⟩
  · rw [T.get_e] at hg; cases hg
theorem wr_f1n2w {w0 : World} {Φ : Phi} {pJ : PB} {bm bt : Blk} {x : Nat → Nat} (hbm : OkB 6583 bm) (hbt : OkB 6583 bt) (hJ : Φ 6300 = some pJ) (h0 : ∀ i, 6583 ≤ i → Φ i = none) : Writes w0 Φ (.pointer (some (pJ.addr 0))) (E14 bm bt) 1 x (E15 bm bt (m8 x)) := by
  refine writes_of (n := 40) hJ (hw := ⟨ofPairs [(0, j0), (1, .map [] 298), (2, j20), (5, j2), (7, j3), (9, j4), (11, j5), (13, .map [] 29), (14, .map [] 29), (15, j6), (16, j7), (17, lB [.ptr 16 0, i64 2] false), (22, j8), (23, lB [.ptr 22 0, i64 2] false), (28, j9), (29, lB [.ptr 28 0, i64 2] false), (34, j10), (35, lB [.ptr 34 0, i64 2] false), (38, j11), (39, j12), (1082, j21), (1083, j24), (6299, .map [] 0), (6300, j14), (6532, j15), (6548, lB [i64 1, sA 128 0, fV, i64 0] false), (6568, lB [i64 2, sA 128 0, fV, i64 0] false), (6573, bm), (6574, bt), (6581, lB [.ptr 6568 0, .ptr 6548 0] true), (6583, rB x false)], 6584⟩) (by as_aux_lemma => kernel_rfl) (h1 := ⟨ofPairs [(0, j0), (1, .map [] 298), (2, j20), (5, j2), (7, j3), (9, j4), (11, j5), (13, .map [] 29), (14, .map [] 29), (15, j6), (16, j7), (17, lB [.ptr 16 0, i64 2] false), (22, j8), (23, lB [.ptr 22 0, i64 2] false), (28, j9), (29, lB [.ptr 28 0, i64 2] false), (34, j10), (35, lB [.ptr 34 0, i64 2] false), (38, j11), (39, j12), (1082, j21), (1083, j24), (6299, .map [(i64 1, .str (rowX (m8 x)), 0)] 1), (6300, j14), (6532, j15), (6548, lB [i64 1, sA 128 0, fV, i64 0] false), (6568, lB [i64 2, sA 128 0, fV, i64 0] false), (6573, bm), (6574, bt), (6581, lB [.ptr 6568 0, .ptr 6548 0] true)], 6584⟩) (r_f1n2w bm bt x) h0 ?_
  intro i bl hg
  rcases get_pairT hg with hg | hg
  · simp only [List.mem_cons, Prod.mk.injEq, List.not_mem_nil, or_false] at hg
    rcases hg with ⟨rfl, rfl⟩ | ⟨rfl, rfl⟩ | ⟨rfl, rfl⟩ | ⟨rfl, rfl⟩ | ⟨rfl, rfl⟩ | ⟨rfl, rfl⟩ | ⟨rfl, rfl⟩ | ⟨rfl, rfl⟩ | ⟨rfl, rfl⟩ | ⟨rfl, rfl⟩ | ⟨rfl, rfl⟩ | ⟨rfl, rfl⟩ | ⟨rfl, rfl⟩ | ⟨rfl, rfl⟩ | ⟨rfl, rfl⟩ | ⟨rfl, rfl⟩ | ⟨rfl, rfl⟩ | ⟨rfl, rfl⟩ | ⟨rfl, rfl⟩ | ⟨rfl, rfl⟩ | ⟨rfl, rfl⟩ | ⟨rfl, rfl⟩ | ⟨rfl, rfl⟩ | ⟨rfl, rfl⟩ | ⟨rfl, rfl⟩ | ⟨rfl, rfl⟩ | ⟨rfl, rfl⟩ | ⟨rfl, rfl⟩ | ⟨rfl, rfl⟩ | ⟨rfl, rfl⟩
    · exact ⟨by kernel_rfl, Nat.le_of_ble_eq_true rfl, okBk_ok (by kernel_rfl)⟩
    · exact ⟨by kernel_rfl, Nat.le_of_ble_eq_true rfl, okBk_ok (by kernel_rfl)⟩
    · exact ⟨by kernel_rfl, Nat.le_of_ble_eq_true rfl, okBk_ok (by kernel_rfl)⟩
    · exact ⟨by kernel_rfl, Nat.le_of_ble_eq_true rfl, okBk_ok (by kernel_rfl)⟩
    · exact ⟨by kernel_rfl, Nat.le_of_ble_eq_true rfl, okBk_ok (by kernel_rfl)⟩
    · exact ⟨by kernel_rfl, Nat.le_of_ble_eq_true rfl, okBk_ok (by kernel_rfl)⟩
    · exact ⟨by kernel_rfl, Nat.le_of_ble_eq_true rfl, okBk_ok (by kernel_rfl)⟩
    · exact ⟨by kernel_rfl, Nat.le_of_ble_eq_true rfl, okBk_ok (by kernel_rfl)⟩
    · exact ⟨by kernel_rfl, Nat.le_of_ble_eq_true rfl, okBk_ok (by kernel_rfl)⟩
    · exact ⟨by kernel_rfl, Nat.le_of_ble_eq_true rfl, okBk_ok (by kernel_rfl)⟩
    · exact ⟨by kernel_rfl, Nat.le_of_ble_eq_true rfl, okBk_ok (by kernel_rfl)⟩
    · exact ⟨by kernel_rfl, Nat.le_of_ble_eq_true rfl, okBk_ok (by kernel_rfl)⟩
    · exact ⟨by kernel_rfl, Nat.le_of_ble_eq_true rfl, okBk_ok (by kernel_rfl)⟩
    · exact ⟨by kernel_rfl, Nat.le_of_ble_eq_true rfl, okBk_ok (by kernel_rfl)⟩
    · exact ⟨by kernel_rfl, Nat.le_of_ble_eq_true rfl, okBk_ok (by kernel_rfl)⟩
    · exact ⟨by kernel_rfl, Nat.le_of_ble_eq_true rfl, okBk_ok (by kernel_rfl)⟩
    · exact ⟨by kernel_rfl, Nat.le_of_ble_eq_true rfl, okBk_ok (by kernel_rfl)⟩
    · exact ⟨by kernel_rfl, Nat.le_of_ble_eq_true rfl, okBk_ok (by kernel_rfl)⟩
    · exact ⟨by kernel_rfl, Nat.le_of_ble_eq_true rfl, okBk_ok (by kernel_rfl)⟩
    · exact ⟨by kernel_rfl, Nat.le_of_ble_eq_true rfl, okBk_ok (by kernel_rfl)⟩
    · exact ⟨by kernel_rfl, Nat.le_of_ble_eq_true rfl, okBk_ok (by kernel_rfl)⟩
    · exact ⟨by kernel_rfl, Nat.le_of_ble_eq_true rfl, okBk_ok (by kernel_rfl)⟩
    · exact ⟨by kernel_rfl, Nat.le_of_ble_eq_true rfl, okBk_ok (by kernel_rfl)⟩
    · exact ⟨by kernel_rfl, Nat.le_of_ble_eq_true rfl, okBk_ok (by kernel_rfl)⟩
    · exact ⟨by kernel_rfl, Nat.le_of_ble_eq_true rfl, okBk_ok (by kernel_rfl)⟩
    · exact ⟨by kernel_rfl, Nat.le_of_ble_eq_true rfl, okBk_ok (by kernel_rfl)⟩
    · exact ⟨by kernel_rfl, Nat.le_of_ble_eq_true rfl, okBk_ok (by kernel_rfl)⟩
    · exact ⟨by kernel_rfl, Nat.le_of_ble_eq_true rfl, hbm⟩
    · exact ⟨by kernel_rfl, Nat.le_of_ble_eq_true rfl, hbt⟩
    · exact ⟨by kernel_rfl, Nat.le_of_ble_eq_true rfl, okBk_ok (by kernel_rfl)⟩
  · rw [T.get_e] at hg; cases hg
theorem rd_f1n2br {w0 : World} {Φ : Phi} {pJ : PB} {bm bt : Blk} {x : Nat → Nat} (hbm : OkB 6583 bm) (hbt : OkB 6583 bt) (hJ : Φ 6300 = some pJ) (h0 : ∀ i, 6583 ≤ i → Φ i = none) : Reads w0 Φ (.pointer (some (pJ.addr 0))) (E15 bm bt x) 1 x (E15 bm bt x) := by
  refine reads_of (n := 38) x1_right x1_has17 hJ (h1 := ⟨ofPairs [(0, j0), (1, .map [] 298), (2, j20), (5, j2), (7, j3), (9, j4), (11, j5), (13, .map [] 29), (14, .map [] 29), (15, j6), (16, j7), (17, lB [.ptr 16 0, i64 2] false), (22, j8), (23, lB [.ptr 22 0, i64 2] false), (28, j9), (29, lB [.ptr 28 0, i64 2] false), (34, j10), (35, lB [.ptr 34 0, i64 2] false), (38, j11), (39, j12), (1082, j21), (1083, j24), (6299, .map [(i64 1, .str (rowX x), 0)] 1), (6300, j14), (6532, j15), (6548, lB [i64 1, sA 128 0, fV, i64 0] false), (6568, lB [i64 2, sA 128 0, fV, i64 0] false), (6573, bm), (6574, bt), (6581, lB [.ptr 6568 0, .ptr 6548 0] true), (6583, rB x true)], 6584⟩) (id := 6583) (r_f1n2br bm bt x) (by as_aux_lemma => kernel_rfl) h0 ?_
  intro i bl hg
  rcases get_pairT hg with hg | hg
  · simp only [List.mem_cons, Prod.mk.injEq, List.not_mem_nil, or_false] at hg
    rcases hg with ⟨rfl, rfl⟩ | ⟨rfl, rfl⟩ | ⟨rfl, rfl⟩ | ⟨rfl, rfl⟩ | ⟨rfl, rfl⟩ | ⟨rfl, rfl⟩ | ⟨rfl, rfl⟩ | ⟨rfl, rfl⟩ | ⟨rfl, rfl⟩ | ⟨rfl, rfl⟩ | ⟨rfl, rfl⟩ | ⟨rfl, rfl⟩ | ⟨rfl, rfl⟩ | ⟨rfl, rfl⟩ | ⟨rfl, rfl⟩ | ⟨rfl, rfl⟩ | ⟨rfl, rfl⟩ | ⟨rfl, rfl⟩ | ⟨rfl, rfl⟩ | ⟨rfl, rfl⟩ | ⟨rfl, rfl⟩ | ⟨rfl, rfl⟩ | ⟨rfl, rfl⟩ | ⟨rfl, rfl⟩ | ⟨rfl, rfl⟩ | ⟨rfl, rfl⟩ | ⟨rfl, rfl⟩ | ⟨rfl, rfl⟩ | ⟨rfl, rfl⟩ | ⟨rfl, rfl⟩
    · exact ⟨by kernel_rfl, Nat.le_of_ble_eq_true rfl, okBk_ok (by kernel_rfl)⟩
    · exact ⟨by kernel_rfl, Nat.le_of_ble_eq_true rfl, okBk_ok (by kernel_rfl)⟩
    · exact ⟨by kernel_rfl, Nat.le_of_ble_eq_true rfl, okBk_ok (by kernel_rfl)⟩
    · exact ⟨by kernel_rfl, Nat.le_of_ble_eq_true rfl, okBk_ok (by kernel_rfl)⟩
    · exact ⟨by kernel_rfl, Nat.le_of_ble_eq_true rfl, okBk_ok (by kernel_rfl)⟩
    · exact ⟨by kernel_rfl, Nat.le_of_ble_eq_true rfl, okBk_ok (by kernel_rfl)⟩
    · exact ⟨by kernel_rfl, Nat.le_of_ble_eq_true rfl, okBk_ok (by kernel_rfl)⟩
    · exact ⟨by kernel_rfl, Nat.le_of_ble_eq_true rfl, okBk_ok (by kernel_rfl)⟩
    · exact ⟨by kernel_rfl, Nat.le_of_ble_eq_true rfl, okBk_ok (by kernel_rfl)⟩
    · exact ⟨by kernel_rfl, Nat.le_of_ble_eq_true rfl, okBk_ok (by kernel_rfl)⟩
    · exact ⟨by kernel_rfl, Nat.le_of_ble_eq_true rfl, okBk_ok (by kernel_rfl)⟩
    · exact ⟨by kernel_rfl, Nat.le_of_ble_eq_true rfl, okBk_ok (by kernel_rfl)⟩
    · exact ⟨by kernel_rfl, Nat.le_of_ble_eq_true rfl, okBk_ok (by kernel_rfl)⟩
    · exact ⟨by kernel_rfl, Nat.le_of_ble_eq_true rfl, okBk_ok (by kernel_rfl)⟩
    · exact ⟨by kernel_rfl, Nat.le_of_ble_eq_true rfl, okBk_ok (by kernel_rfl)⟩
    · exact ⟨by kernel_rfl, Nat.le_of_ble_eq_true rfl, okBk_ok (by kernel_rfl)⟩
    · exact ⟨by kernel_rfl, Nat.le_of_ble_eq_true rfl, okBk_ok (by kernel_rfl)⟩
    · exact ⟨by kernel_rfl, Nat.le_of_ble_eq_true rfl, okBk_ok (by kernel_rfl)⟩
    · exact ⟨by kernel_rfl, Nat.le_of_ble_eq_true rfl, okBk_ok (by kernel_rfl)⟩
    · exact ⟨by kernel_rfl, Nat.le_of_ble_eq_true rfl, okBk_ok (by kernel_rfl)⟩
    · exact ⟨by kernel_rfl, Nat.le_of_ble_eq_true rfl, okBk_ok (by kernel_rfl)⟩
    · exact ⟨by kernel_rfl, Nat.le_of_ble_eq_true rfl, okBk_ok (by kernel_rfl)⟩
    · exact ⟨by kernel_rfl, Nat.le_of_ble_eq_true rfl, okBk_ok (by kernel_rfl)⟩
    · exact ⟨by kernel_rfl, Nat.le_of_ble_eq_true rfl, okBk_ok (by kernel_rfl)⟩
    · exact ⟨by kernel_rfl, Nat.le_of_ble_eq_true rfl, okBk_ok (by kernel_rfl)⟩
    · exact ⟨by kernel_rfl, Nat.le_of_ble_eq_true rfl, okBk_ok (by kernel_rfl)⟩
    · exact ⟨by kernel_rfl, Nat.le_of_ble_eq_true rfl, okBk_ok (by kernel_rfl)⟩
    · exact ⟨by kernel_rfl, Nat.le_of_ble_eq_true rfl, hbm⟩
    · exact ⟨by kernel_rfl, Nat.le_of_ble_eq_true rfl, hbt⟩
    · exact ⟨by kernel_rfl, Nat.le_of_ble_eq_true rfl, okBk_ok (by kernel_rfl)⟩
  · rw [T.get_e] at hg; cases hg
theorem wr_f1n2bw {w0 : World} {Φ : Phi} {pJ : PB} {bm bt : Blk} {x y : Nat → Nat} (hbm : OkB 6583 bm) (hbt : OkB 6583 bt) (hJ : Φ 6300 = some pJ) (h0 : ∀ i, 6583 ≤ i → Φ i = none) : Writes w0 Φ (.pointer (some (pJ.addr 0))) (E15 bm bt x) 1 y (E15 bm bt (m8 y)) := by
  refine writes_of (n := 40) hJ (hw := ⟨ofPairs [(0, j0), (1, .map [] 298), (2, j20), (5, j2), (7, j3), (9, j4), (11, j5), (13, .map [] 29), (14, .map [] 29), (15, j6), (16, j7), (17, lB [.ptr 16 0, i64 2] false), (22, j8), (23, lB [.ptr 22 0, i64 2] false), (28, j9), (29, lB [.ptr 28 0, i64 2] false), (34, j10), (35, lB [.ptr 34 0, i64 2] false), (38, j11), (39, j12), (1082, j21), (1083, j24), (6299, .map [(i64 1, .str (rowX x), 0)] 1), (6300, j14), (6532, j15), (6548, lB [i64 1, sA 128 0, fV, i64 0] false), (6568, lB [i64 2, sA 128 0, fV, i64 0] false), (6573, bm), (6574, bt), (6581, lB [.ptr 6568 0, .ptr 6548 0] true), (6583, rB y false)], 6584⟩) (by as_aux_lemma => kernel_rfl) (h1 := ⟨ofPairs [(0, j0), (1, .map [] 298), (2, j20), (5, j2), (7, j3), (9, j4), (11, j5), (13, .map [] 29), (14, .map [] 29), (15, j6), (16, j7), (17, lB [.ptr 16 0, i64 2] false), (22, j8), (23, lB [.ptr 22 0, i64 2] false), (28, j9), (29, lB [.ptr 28 0, i64 2] false), (34, j10), (35, lB [.ptr 34 0, i64 2] false), (38, j11), (39, j12), (1082, j21), (1083, j24), (6299, .map [(i64 1, .str (rowX (m8 y)), 0)] 1), (6300, j14), (6532, j15), (6548, lB [i64 1, sA 128 0, fV, i64 0] false), (6568, lB [i64 2, sA 128 0, fV, i64 0] false), (6573, bm), (6574, bt), (6581, lB [.ptr 6568 0, .ptr 6548 0] true)], 6584⟩) (r_f1n2bw bm bt x y) h0 ?_
  intro i bl hg
  rcases get_pairT hg with hg | hg
  · simp only [List.mem_cons, Prod.mk.injEq, List.not_mem_nil, or_false] at hg
    rcases hg with ⟨rfl, rfl⟩ | ⟨rfl, rfl⟩ | ⟨rfl, rfl⟩ | ⟨rfl, rfl⟩ | ⟨rfl, rfl⟩ | ⟨rfl, rfl⟩ | ⟨rfl, rfl⟩ | ⟨rfl, rfl⟩ | ⟨rfl, rfl⟩ | ⟨rfl, rfl⟩ | ⟨rfl, rfl⟩ | ⟨rfl, rfl⟩ | ⟨rfl, rfl⟩ | ⟨rfl, rfl⟩ | ⟨rfl, rfl⟩ | ⟨rfl, rfl⟩ | ⟨rfl, rfl⟩ | ⟨rfl, rfl⟩ | ⟨rfl, rfl⟩ | ⟨rfl, rfl⟩ | ⟨rfl, rfl⟩ | ⟨rfl, rfl⟩ | ⟨rfl, rfl⟩ | ⟨rfl, rfl⟩ | ⟨rfl, rfl⟩ | ⟨rfl, rfl⟩ | ⟨rfl, rfl⟩ | ⟨rfl, rfl⟩ | ⟨rfl, rfl⟩ | ⟨rfl, rfl⟩
    · exact ⟨by kernel_rfl, Nat.le_of_ble_eq_true rfl, okBk_ok (by kernel_rfl)⟩
    · exact ⟨by kernel_rfl, Nat.le_of_ble_eq_true rfl, okBk_ok (by kernel_rfl)⟩
    · exact ⟨by kernel_rfl, Nat.le_of_ble_eq_true rfl, okBk_ok (by kernel_rfl)⟩
    · exact ⟨by kernel_rfl, Nat.le_of_ble_eq_true rfl, okBk_ok (by kernel_rfl)⟩
    · exact ⟨by kernel_rfl, Nat.le_of_ble_eq_true rfl, okBk_ok (by kernel_rfl)⟩
    · exact ⟨by kernel_rfl, Nat.le_of_ble_eq_true rfl, okBk_ok (by kernel_rfl)⟩
    · exact ⟨by kernel_rfl, Nat.le_of_ble_eq_true rfl, okBk_ok (by kernel_rfl)⟩
    · exact ⟨by kernel_rfl, Nat.le_of_ble_eq_true rfl, okBk_ok (by kernel_rfl)⟩
    · exact ⟨by kernel_rfl, Nat.le_of_ble_eq_true rfl, okBk_ok (by kernel_rfl)⟩
    · exact ⟨by kernel_rfl, Nat.le_of_ble_eq_true rfl, okBk_ok (by kernel_rfl)⟩
    · exact ⟨by kernel_rfl, Nat.le_of_ble_eq_true rfl, okBk_ok (by kernel_rfl)⟩
    · exact ⟨by kernel_rfl, Nat.le_of_ble_eq_true rfl, okBk_ok (by kernel_rfl)⟩
    · exact ⟨by kernel_rfl, Nat.le_of_ble_eq_true rfl, okBk_ok (by kernel_rfl)⟩
    · exact ⟨by kernel_rfl, Nat.le_of_ble_eq_true rfl, okBk_ok (by kernel_rfl)⟩
    · exact ⟨by kernel_rfl, Nat.le_of_ble_eq_true rfl, okBk_ok (by kernel_rfl)⟩
    · exact ⟨by kernel_rfl, Nat.le_of_ble_eq_true rfl, okBk_ok (by kernel_rfl)⟩
    · exact ⟨by kernel_rfl, Nat.le_of_ble_eq_true rfl, okBk_ok (by kernel_rfl)⟩
    · exact ⟨by kernel_rfl, Nat.le_of_ble_eq_true rfl, okBk_ok (by kernel_rfl)⟩
    · exact ⟨by kernel_rfl, Nat.le_of_ble_eq_true rfl, okBk_ok (by kernel_rfl)⟩
    · exact ⟨by kernel_rfl, Nat.le_of_ble_eq_true rfl, okBk_ok (by kernel_rfl)⟩
    · exact ⟨by kernel_rfl, Nat.le_of_ble_eq_true rfl, okBk_ok (by kernel_rfl)⟩
    · exact ⟨by kernel_rfl, Nat.le_of_ble_eq_true rfl, okBk_ok (by kernel_rfl)⟩
    · exact ⟨by kernel_rfl, Nat.le_of_ble_eq_true rfl, okBk_ok (by kernel_rfl)⟩
    · exact ⟨by kernel_rfl, Nat.le_of_ble_eq_true rfl, okBk_ok (by kernel_rfl)⟩
    · exact ⟨by kernel_rfl, Nat.le_of_ble_eq_true rfl, okBk_ok (by kernel_rfl)⟩
    · exact ⟨by kernel_rfl, Nat.le_of_ble_eq_true rfl, okBk_ok (by kernel_rfl)⟩
    · exact ⟨by kernel_rfl, Nat.le_of_ble_eq_true rfl, okBk_ok (by kernel_rfl)⟩
    · exact ⟨by kernel_rfl, Nat.le_of_ble_eq_true rfl, hbm⟩
    · exact ⟨by kernel_rfl, Nat.le_of_ble_eq_true rfl, hbt⟩
    · exact ⟨by kernel_rfl, Nat.le_of_ble_eq_true rfl, okBk_ok (by kernel_rfl)⟩
  · rw [T.get_e] at hg; cases hg
theorem rd_f1n2c {w0 : World} {Φ : Phi} {pJ : PB} {bm bt : Blk} {x : Nat → Nat} (hbm : OkB 6587 bm) (hbt : OkB 6587 bt) (hJ : Φ 6300 = some pJ) (h0 : ∀ i, 6587 ≤ i → Φ i = none) : Reads w0 Φ (.pointer (some (pJ.addr 0))) (E15 bm bt x) 2 (fun _ => 0) (E16 bm bt x) := by
  refine reads_of (n := 116) x1_right x1_has17 hJ (h1 := ⟨ofPairs [(0, j0), (1, .map [] 298), (2, j20), (5, j2), (7, j3), (9, j4), (11, j5), (13, .map [] 29), (14, .map [] 29), (15, j6), (16, j7), (17, lB [.ptr 16 0, i64 2] false), (22, j8), (23, lB [.ptr 22 0, i64 2] false), (28, j9), (29, lB [.ptr 28 0, i64 2] false), (34, j10), (35, lB [.ptr 34 0, i64 2] false), (38, j11), (39, j12), (1082, j21), (1083, j25), (6299, .map [(i64 1, .str (rowX x), 0)] 1), (6300, j14), (6532, j15), (6548, lB [i64 1, sA 128 0, fV, i64 0] false), (6568, lB [i64 2, sA 128 0, fV, i64 0] false), (6573, bm), (6574, bt), (6585, lB [.ptr 6548 0, .ptr 6568 0] true), (6586, bB 128 0 true)], 6587⟩) (id := 6586) (r_f1n2c bm bt x) (by as_aux_lemma => kernel_rfl) h0 ?_
  intro i bl hg
  rcases get_pairT hg with hg | hg
  · simp only [List.mem_cons, Prod.mk.injEq, List.not_mem_nil, or_false] at hg
    rcases hg with ⟨rfl, rfl⟩ | ⟨rfl, rfl⟩ | ⟨rfl, rfl⟩ | ⟨rfl, rfl⟩ | ⟨rfl, rfl⟩ | ⟨rfl, rfl⟩ | ⟨rfl, rfl⟩ | ⟨rfl, rfl⟩ | ⟨rfl, rfl⟩ | ⟨rfl, rfl⟩ | ⟨rfl, rfl⟩ | ⟨rfl, rfl⟩ | ⟨rfl, rfl⟩ | ⟨rfl, rfl⟩ | ⟨rfl, rfl⟩ | ⟨rfl, rfl⟩ | ⟨rfl, rfl⟩ | ⟨rfl, rfl⟩ | ⟨rfl, rfl⟩ | ⟨rfl, rfl⟩ | ⟨rfl, rfl⟩ | ⟨rfl, rfl⟩ | ⟨rfl, rfl⟩ | ⟨rfl, rfl⟩ | ⟨rfl, rfl⟩ | ⟨rfl, rfl⟩ | ⟨rfl, rfl⟩ | ⟨rfl, rfl⟩ | ⟨rfl, rfl⟩ | ⟨rfl, rfl⟩
    · exact ⟨by kernel_rfl, Nat.le_of_ble_eq_true rfl, okBk_ok (by kernel_rfl)⟩
    · exact ⟨by kernel_rfl, Nat.le_of_ble_eq_true rfl, okBk_ok (by kernel_rfl)⟩
    · exact ⟨by kernel_rfl, Nat.le_of_ble_eq_true rfl, okBk_ok (by kernel_rfl)⟩
    · exact ⟨by kernel_rfl, Nat.le_of_ble_eq_true rfl, okBk_ok (by kernel_rfl)⟩
    · exact ⟨by kernel_rfl, Nat.le_of_ble_eq_true rfl, okBk_ok (by kernel_rfl)⟩
    · exact ⟨by kernel_rfl, Nat.le_of_ble_eq_true rfl, okBk_ok (by kernel_rfl)⟩
    · exact ⟨by kernel_rfl, Nat.le_of_ble_eq_true rfl, okBk_ok (by kernel_rfl)⟩
    · exact ⟨by kernel_rfl, Nat.le_of_ble_eq_true rfl, okBk_ok (by kernel_rfl)⟩
    · exact ⟨by kernel_rfl, Nat.le_of_ble_eq_true rfl, okBk_ok (by kernel_rfl)⟩
    · exact ⟨by kernel_rfl, Nat.le_of_ble_eq_true rfl, okBk_ok (by kernel_rfl)⟩
    · exact ⟨by kernel_rfl, Nat.le_of_ble_eq_true rfl, okBk_ok (by kernel_rfl)⟩
    · exact ⟨by kernel_rfl, Nat.le_of_ble_eq_true rfl, okBk_ok (by kernel_rfl)⟩
    · exact ⟨by kernel_rfl, Nat.le_of_ble_eq_true rfl, okBk_ok (by kernel_rfl)⟩
    · exact ⟨by kernel_rfl, Nat.le_of_ble_eq_true rfl, okBk_ok (by kernel_rfl)⟩
    · exact ⟨by kernel_rfl, Nat.le_of_ble_eq_true rfl, okBk_ok (by kernel_rfl)⟩
    · exact ⟨by kernel_rfl, Nat.le_of_ble_eq_true rfl, okBk_ok (by kernel_rfl)⟩
    · exact ⟨by kernel_rfl, Nat.le_of_ble_eq_true rfl, okBk_ok (by kernel_rfl)⟩
    · exact ⟨by kernel_rfl, Nat.le_of_ble_eq_true rfl, okBk_ok (by kernel_rfl)⟩
    · exact ⟨by kernel_rfl, Nat.le_of_ble_eq_true rfl, okBk_ok (by kernel_rfl)⟩
    · exact ⟨by kernel_rfl, Nat.le_of_ble_eq_true rfl, okBk_ok (by kernel_rfl)⟩
    · exact ⟨by kernel_rfl, Nat.le_of_ble_eq_true rfl, okBk_ok (by kernel_rfl)⟩
    · exact ⟨by kernel_rfl, Nat.le_of_ble_eq_true rfl, okBk_ok (by kernel_rfl)⟩
    · exact ⟨by kernel_rfl, Nat.le_of_ble_eq_true rfl, okBk_ok (by kernel_rfl)⟩
    · exact ⟨by kernel_rfl, Nat.le_of_ble_eq_true rfl, okBk_ok (by kernel_rfl)⟩
    · exact ⟨by kernel_rfl, Nat.le_of_ble_eq_true rfl, okBk_ok (by kernel_rfl)⟩
    · exact ⟨by kernel_rfl, Nat.le_of_ble_eq_true rfl, okBk_ok (by kernel_rfl)⟩
    · exact ⟨by kernel_rfl, Nat.le_of_ble_eq_true rfl, okBk_ok (by kernel_rfl)⟩
    · exact ⟨by kernel_rfl, Nat.le_of_ble_eq_true rfl, hbm⟩
    · exact ⟨by kernel_rfl, Nat.le_of_ble_eq_true rfl, hbt⟩
    · exact ⟨by kernel_rfl, Nat.le_of_ble_eq_true rfl, okBk_ok (by kernel_rfl)⟩
  · rw [T.get_e] at hg; cases hg
theorem rd_f1n2c1 {w0 : World} {Φ : Phi} {pJ : PB} {bm bt : Blk} {x : Nat → Nat} (hbm : OkB 6591 bm) (hbt : OkB 6591 bt) (hJ : Φ 6300 = some pJ) (h0 : ∀ i, 6591 ≤ i → Φ i = none) : Reads w0 Φ (.pointer (some (pJ.addr 0))) (E16 bm bt x) 2 (fun _ => 0) (E17 bm bt x) := by
  refine reads_of (n := 115) x1_right x1_has17 hJ (h1 := ⟨ofPairs [(0, j0), (1, .map [] 298), (2, j20), (5, j2), (7, j3), (9, j4), (11, j5), (13, .map [] 29), (14, .map [] 29), (15, j6), (16, j7), (17, lB [.ptr 16 0, i64 2] false), (22, j8), (23, lB [.ptr 22 0, i64 2] false), (28, j9), (29, lB [.ptr 28 0, i64 2] false), (34, j10), (35, lB [.ptr 34 0, i64 2] false), (38, j11), (39, j12), (1082, j21), (1083, j26), (6299, .map [(i64 1, .str (rowX x), 0)] 1), (6300, j14), (6532, j15), (6548, lB [i64 1, sA 128 0, fV, i64 0] false), (6568, lB [i64 2, sA 128 0, fV, i64 0] false), (6573, bm), (6574, bt), (6589, lB [.ptr 6548 0, .ptr 6568 0] true), (6590, bB 128 0 true)], 6591⟩) (id := 6590) (r_f1n2c1 bm bt x) (by as_aux_lemma => kernel_rfl) h0 ?_
  intro i bl hg
  rcases get_pairT hg with hg | hg
  · simp only [List.mem_cons, Prod.mk.injEq, List.not_mem_nil, or_false] at hg
    rcases hg with ⟨rfl, rfl⟩ | ⟨rfl, rfl⟩ | ⟨rfl, rfl⟩ | ⟨rfl, rfl⟩ | ⟨rfl, rfl⟩ | ⟨rfl, rfl⟩ | ⟨rfl, rfl⟩ | ⟨rfl, rfl⟩ | ⟨rfl, rfl⟩ | ⟨rfl, rfl⟩ | ⟨rfl, rfl⟩ | ⟨rfl, rfl⟩ | ⟨rfl, rfl⟩ | ⟨rfl, rfl⟩ | ⟨rfl, rfl⟩ | ⟨rfl, rfl⟩ | ⟨rfl, rfl⟩ | ⟨rfl, rfl⟩ | ⟨rfl, rfl⟩ | ⟨rfl, rfl⟩ | ⟨rfl, rfl⟩ | ⟨rfl, rfl⟩ | ⟨rfl, rfl⟩ | ⟨rfl, rfl⟩ | ⟨rfl, rfl⟩ | ⟨rfl, rfl⟩ | ⟨rfl, rfl⟩ | ⟨rfl, rfl⟩ | ⟨rfl, rfl⟩ | ⟨rfl, rfl⟩
    · exact ⟨by kernel_rfl, Nat.le_of_ble_eq_true rfl, okBk_ok (by kernel_rfl)⟩
    · exact ⟨by kernel_rfl, Nat.le_of_ble_eq_true rfl, okBk_ok (by kernel_rfl)⟩
    · exact ⟨by kernel_rfl, Nat.le_of_ble_eq_true rfl, okBk_ok (by kernel_rfl)⟩
    · exact ⟨by kernel_rfl, Nat.le_of_ble_eq_true rfl, okBk_ok (by kernel_rfl)⟩
    · exact ⟨by kernel_rfl, Nat.le_of_ble_eq_true rfl, okBk_ok (by kernel_rfl)⟩
    · exact ⟨by kernel_rfl, Nat.le_of_ble_eq_true rfl, okBk_ok (by kernel_rfl)⟩
    · exact ⟨by kernel_rfl, Nat.le_of_ble_eq_true rfl, okBk_ok (by kernel_rfl)⟩
    · exact ⟨by kernel_rfl, Nat.le_of_ble_eq_true rfl, okBk_ok (by kernel_rfl)⟩
    · exact ⟨by kernel_rfl, Nat.le_of_ble_eq_true rfl, okBk_ok (by kernel_rfl)⟩
    · exact ⟨by kernel_rfl, Nat.le_of_ble_eq_true rfl, okBk_ok (by kernel_rfl)⟩
    · exact ⟨by kernel_rfl, Nat.le_of_ble_eq_true rfl, okBk_ok (by kernel_rfl)⟩
    · exact ⟨by kernel_rfl, Nat.le_of_ble_eq_true rfl, okBk_ok (by kernel_rfl)⟩
    · exact ⟨by kernel_rfl, Nat.le_of_ble_eq_true rfl, okBk_ok (by kernel_rfl)⟩
    · exact ⟨by kernel_rfl, Nat.le_of_ble_eq_true rfl, okBk_ok (by kernel_rfl)⟩
    · exact ⟨by kernel_rfl, Nat.le_of_ble_eq_true rfl, okBk_ok (by kernel_rfl)⟩
    · exact ⟨by kernel_rfl, Nat.le_of_ble_eq_true rfl, okBk_ok (by kernel_rfl)⟩
    · exact ⟨by kernel_rfl, Nat.le_of_ble_eq_true rfl, okBk_ok (by kernel_rfl)⟩
    · exact ⟨by kernel_rfl, Nat.le_of_ble_eq_true rfl, okBk_ok (by kernel_rfl)⟩
    · exact ⟨by kernel_rfl, Nat.le_of_ble_eq_true rfl, okBk_ok (by kernel_rfl)⟩
    · exact ⟨by kernel_rfl, Nat.le_of_ble_eq_true rfl, okBk_ok (by kernel_rfl)⟩
    · exact ⟨by kernel_rfl, Nat.le_of_ble_eq_true rfl, okBk_ok (by kernel_rfl)⟩
    · exact ⟨by kernel_rfl, Nat.le_of_ble_eq_true rfl, okBk_ok (by kernel_rfl)⟩
    · exact ⟨by kernel_rfl, Nat.le_of_ble_eq_true rfl, okBk_ok (by kernel_rfl)⟩
    · exact ⟨by kernel_rfl, Nat.le_of_ble_eq_true rfl, okBk_ok (by kernel_rfl)⟩
    · exact ⟨by kernel_rfl, Nat.le_of_ble_eq_true rfl, okBk_ok (by kernel_rfl)⟩
    · exact ⟨by kernel_rfl, Nat.le_of_ble_eq_true rfl, okBk_ok (by kernel_rfl)⟩
    · exact ⟨by kernel_rfl, Nat.le_of_ble_eq_true rfl, okBk_ok (by kernel_rfl)⟩
    · exact ⟨by kernel_rfl, Nat.le_of_ble_eq_true rfl, hbm⟩
    · exact ⟨by kernel_rfl, Nat.le_of_ble_eq_true rfl, hbt⟩
    · exact ⟨by kernel_rfl, Nat.le_of_ble_eq_true rfl, okBk_ok (by kernel_rfl)⟩
  · rw [T.get_e] at hg; cases hg
theorem wr_f1n2cw {w0 : World} {Φ : Phi} {pJ : PB} {bm bt : Blk} {x y : Nat → Nat} (hbm : OkB 6591 bm) (hbt : OkB 6591 bt) (hJ : Φ 6300 = some pJ) (h0 : ∀ i, 6591 ≤ i → Φ i = none) : Writes w0 Φ (.pointer (some (pJ.addr 0))) (E17 bm bt x) 2 y (E18 bm bt x (m8 y)) := by
  refine writes_of (n := 40) hJ (hw := ⟨ofPairs [(0, j0), (1, .map [] 298), (2, j20), (5, j2), (7, j3), (9, j4), (11, j5), (13, .map [] 29), (14, .map [] 29), (15, j6), (16, j7), (17, lB [.ptr 16 0, i64 2] false), (22, j8), (23, lB [.ptr 22 0, i64 2] false), (28, j9), (29, lB [.ptr 28 0, i64 2] false), (34, j10), (35, lB [.ptr 34 0, i64 2] false), (38, j11), (39, j12), (1082, j21), (1083, j26), (6299, .map [(i64 1, .str (rowX x), 0)] 1), (6300, j14), (6532, j15), (6548, lB [i64 1, sA 128 0, fV, i64 0] false), (6568, lB [i64 2, sA 128 0, fV, i64 0] false), (6573, bm), (6574, bt), (6589, lB [.ptr 6548 0, .ptr 6568 0] true), (6591, rB y false)], 6592⟩) (by as_aux_lemma => kernel_rfl) (h1 := ⟨ofPairs [(0, j0), (1, .map [] 298), (2, j20), (5, j2), (7, j3), (9, j4), (11, j5), (13, .map [] 29), (14, .map [] 29), (15, j6), (16, j7), (17, lB [.ptr 16 0, i64 2] false), (22, j8), (23, lB [.ptr 22 0, i64 2] false), (28, j9), (29, lB [.ptr 28 0, i64 2] false), (34, j10), (35, lB [.ptr 34 0, i64 2] false), (38, j11), (39, j12), (1082, j21), (1083, j26), (6299, (j27 x (m8 y))), (6300, j14), (6532, j15), (6548, lB [i64 1, sA 128 0, fV, i64 0] false), (6568, lB [i64 2, sA 128 0, fV, i64 0] false), (6573, bm), (6574, bt), (6589, lB [.ptr 6548 0, .ptr 6568 0] true)], 6592⟩) (r_f1n2cw bm bt x y) h0 ?_
  intro i bl hg
  rcases get_pairT hg with hg | hg
  · simp only [List.mem_cons, Prod.mk.injEq, List.not_mem_nil, or_false] at hg
    rcases hg with ⟨rfl, rfl⟩ | ⟨rfl, rfl⟩ | ⟨rfl, rfl⟩ | ⟨rfl, rfl⟩ | ⟨rfl, rfl⟩ | ⟨rfl, rfl⟩ | ⟨rfl, rfl⟩ | ⟨rfl, rfl⟩ | ⟨rfl, rfl⟩ | ⟨rfl, rfl⟩ | ⟨rfl, rfl⟩ | ⟨rfl, rfl⟩ | ⟨rfl, rfl⟩ | ⟨rfl, rfl⟩ | ⟨rfl, rfl⟩ | ⟨rfl, rfl⟩ | ⟨rfl, rfl⟩ | ⟨rfl, rfl⟩ | ⟨rfl, rfl⟩ | ⟨rfl, rfl⟩ | ⟨rfl, rfl⟩ | ⟨rfl, rfl⟩ | ⟨rfl, rfl⟩ | ⟨rfl, rfl⟩ | ⟨rfl, rfl⟩ | ⟨rfl, rfl⟩ | ⟨rfl, rfl⟩ | ⟨rfl, rfl⟩ | ⟨rfl, rfl⟩ | ⟨rfl, rfl⟩
    · exact ⟨by kernel_rfl, Nat.le_of_ble_eq_true rfl, okBk_ok (by kernel_rfl)⟩
    · exact ⟨by kernel_rfl, Nat.le_of_ble_eq_true rfl, okBk_ok (by kernel_rfl)⟩
    · exact ⟨by kernel_rfl, Nat.le_of_ble_eq_true rfl, okBk_ok (by kernel_rfl)⟩
    · exact ⟨by kernel_rfl, Nat.le_of_ble_eq_true rfl, okBk_ok (by kernel_rfl)⟩
    · exact ⟨by kernel_rfl, Nat.le_of_ble_eq_true rfl, okBk_ok (by kernel_rfl)⟩
    · exact ⟨by kernel_rfl, Nat.le_of_ble_eq_true rfl, okBk_ok (by kernel_rfl)⟩
    · exact ⟨by kernel_rfl, Nat.le_of_ble_eq_true rfl, okBk_ok (by kernel_rfl)⟩
    · exact ⟨by kernel_rfl, Nat.le_of_ble_eq_true rfl, okBk_ok (by kernel_rfl)⟩
    · exact ⟨by kernel_rfl, Nat.le_of_ble_eq_true rfl, okBk_ok (by kernel_rfl)⟩
    · exact ⟨by kernel_rfl, Nat.le_of_ble_eq_true rfl, okBk_ok (by kernel_rfl)⟩
    · exact ⟨by kernel_rfl, Nat.le_of_ble_eq_true rfl, okBk_ok (by kernel_rfl)⟩
    · exact ⟨by kernel_rfl, Nat.le_of_ble_eq_true rfl, okBk_ok (by kernel_rfl)⟩
    · exact ⟨by kernel_rfl, Nat.le_of_ble_eq_true rfl, okBk_ok (by kernel_rfl)⟩
    · exact ⟨by kernel_rfl, Nat.le_of_ble_eq_true rfl, okBk_ok (by kernel_rfl)⟩
    · exact ⟨by kernel_rfl, Nat.le_of_ble_eq_true rfl, okBk_ok (by kernel_rfl)⟩
    · exact ⟨by kernel_rfl, Nat.le_of_ble_eq_true rfl, okBk_ok (by kernel_rfl)⟩
    · exact ⟨by kernel_rfl, Nat.le_of_ble_eq_true rfl, okBk_ok (by kernel_rfl)⟩
    · exact ⟨by kernel_rfl, Nat.le_of_ble_eq_true rfl, okBk_ok (by kernel_rfl)⟩
    · exact ⟨by kernel_rfl, Nat.le_of_ble_eq_true rfl, okBk_ok (by kernel_rfl)⟩
    · exact ⟨by kernel_rfl, Nat.le_of_ble_eq_true rfl, okBk_ok (by kernel_rfl)⟩
    · exact ⟨by kernel_rfl, Nat.le_of_ble_eq_true rfl, okBk_ok (by kernel_rfl)⟩
    · exact ⟨by kernel_rfl, Nat.le_of_ble_eq_true rfl, okBk_ok (by kernel_rfl)⟩
    · exact ⟨by kernel_rfl, Nat.le_of_ble_eq_true rfl, okBk_ok (by kernel_rfl)⟩
    · exact ⟨by kernel_rfl, Nat.le_of_ble_eq_true rfl, okBk_ok (by kernel_rfl)⟩
    · exact ⟨by kernel_rfl, Nat.le_of_ble_eq_true rfl, okBk_ok (by kernel_rfl)⟩
    · exact ⟨by kernel_rfl, Nat.le_of_ble_eq_true rfl, okBk_ok (by kernel_rfl)⟩
    · exact ⟨by kernel_rfl, Nat.le_of_ble_eq_true rfl, okBk_ok (by kernel_rfl)⟩
    · exact ⟨by kernel_rfl, Nat.le_of_ble_eq_true rfl, hbm⟩
    · exact ⟨by kernel_rfl, Nat.le_of_ble_eq_true rfl, hbt⟩
    · exact ⟨by kernel_rfl, Nat.le_of_ble_eq_true rfl, okBk_ok (by kernel_rfl)⟩
  · rw [T.get_e] at hg; cases hg
theorem rd_f1n2dr0 {w0 : World} {Φ : Phi} {pJ : PB} {bm bt : Blk} {x y : Nat → Nat} (hbm : OkB 6591 bm) (hbt : OkB 6591 bt) (hJ : Φ 6300 = some pJ) (h0 : ∀ i, 6591 ≤ i → Φ i = none) : Reads w0 Φ (.pointer (some (pJ.addr 0))) (E18 bm bt x y) 1 x (E18 bm bt x y) := by
  refine reads_of (n := 38) x1_right x1_has17 hJ (h1 := ⟨ofPairs [(0, j0), (1, .map [] 298), (2, j20), (5, j2), (7, j3), (9, j4), (11, j5), (13, .map [] 29), (14, .map [] 29), (15, j6), (16, j7), (17, lB [.ptr 16 0, i64 2] false), (22, j8), (23, lB [.ptr 22 0, i64 2] false), (28, j9), (29, lB [.ptr 28 0, i64 2] false), (34, j10), (35, lB [.ptr 34 0, i64 2] false), (38, j11), (39, j12), (1082, j21), (1083, j26), (6299, (j27 x y)), (6300, j14), (6532, j15), (6548, lB [i64 1, sA 128 0, fV, i64 0] false), (6568, lB [i64 2, sA 128 0, fV, i64 0] false), (6573, bm), (6574, bt), (6589, lB [.ptr 6548 0, .ptr 6568 0] true), (6591, rB x true)], 6592⟩) (id := 6591) (r_f1n2dr0 bm bt x y) (by as_aux_lemma => kernel_rfl) h0 ?_
  intro i bl hg
  rcases get_pairT hg with hg | hg
  · simp only [List.mem_cons, Prod.mk.injEq, List.not_mem_nil, or_false] at hg
    rcases hg with ⟨rfl, rfl⟩ | ⟨rfl, rfl⟩ | ⟨rfl, rfl⟩ | ⟨rfl, rfl⟩ | ⟨rfl, rfl⟩ | ⟨rfl, rfl⟩ | ⟨rfl, rfl⟩ | ⟨rfl, rfl⟩ | ⟨rfl, rfl⟩ | ⟨rfl, rfl⟩ | ⟨rfl, rfl⟩ | ⟨rfl, rfl⟩ | ⟨rfl, rfl⟩ | ⟨rfl, rfl⟩ | ⟨rfl, rfl⟩ | ⟨rfl, rfl⟩ | ⟨rfl, rfl⟩ | ⟨rfl, rfl⟩ | ⟨rfl, rfl⟩ | ⟨rfl, rfl⟩ | ⟨rfl, rfl⟩ | ⟨rfl, rfl⟩ | ⟨rfl, rfl⟩ | ⟨rfl, rfl⟩ | ⟨rfl, rfl⟩ | ⟨rfl, rfl⟩ | ⟨rfl, rfl⟩ | ⟨rfl, rfl⟩ | ⟨rfl, rfl⟩ | ⟨rfl, rfl⟩
    · exact ⟨by kernel_rfl, Nat.le_of_ble_eq_true rfl, okBk_ok (by kernel_rfl)⟩
    · exact ⟨by kernel_rfl, Nat.le_of_ble_eq_true rfl, okBk_ok (by kernel_rfl)⟩
    · exact ⟨by kernel_rfl, Nat.le_of_ble_eq_true rfl, okBk_ok (by kernel_rfl)⟩
    · exact ⟨by kernel_rfl, Nat.le_of_ble_eq_true rfl, okBk_ok (by kernel_rfl)⟩
    · exact ⟨by kernel_rfl, Nat.le_of_ble_eq_true rfl, okBk_ok (by kernel_rfl)⟩
    · exact ⟨by kernel_rfl, Nat.le_of_ble_eq_true rfl, okBk_ok (by kernel_rfl)⟩
    · exact ⟨by kernel_rfl, Nat.le_of_ble_eq_true rfl, okBk_ok (by kernel_rfl)⟩
    · exact ⟨by kernel_rfl, Nat.le_of_ble_eq_true rfl, okBk_ok (by kernel_rfl)⟩
    · exact ⟨by kernel_rfl, Nat.le_of_ble_eq_true rfl, okBk_ok (by kernel_rfl)⟩
    · exact ⟨by kernel_rfl, Nat.le_of_ble_eq_true rfl, okBk_ok (by kernel_rfl)⟩
    · exact ⟨by kernel_rfl, Nat.le_of_ble_eq_true rfl, okBk_ok (by kernel_rfl)⟩
    · exact ⟨by kernel_rfl, Nat.le_of_ble_eq_true rfl, okBk_ok (by kernel_rfl)⟩
    · exact ⟨by kernel_rfl, Nat.le_of_ble_eq_true rfl, okBk_ok (by kernel_rfl)⟩
    · exact ⟨by kernel_rfl, Nat.le_of_ble_eq_true rfl, okBk_ok (by kernel_rfl)⟩
    · exact ⟨by kernel_rfl, Nat.le_of_ble_eq_true rfl, okBk_ok (by kernel_rfl)⟩
    · exact ⟨by kernel_rfl, Nat.le_of_ble_eq_true rfl, okBk_ok (by kernel_rfl)⟩
    · exact ⟨by kernel_rfl, Nat.le_of_ble_eq_true rfl, okBk_ok (by kernel_rfl)⟩
    · exact ⟨by kernel_rfl, Nat.le_of_ble_eq_true rfl, okBk_ok (by kernel_rfl)⟩
    · exact ⟨by kernel_rfl, Nat.le_of_ble_eq_true rfl, okBk_ok (by kernel_rfl)⟩
    · exact ⟨by kernel_rfl, Nat.le_of_ble_eq_true rfl, okBk_ok (by kernel_rfl)⟩
    · exact ⟨by kernel_rfl, Nat.le_of_ble_eq_true rfl, okBk_ok (by kernel_rfl)⟩
    · exact ⟨by kernel_rfl, Nat.le_of_ble_eq_true rfl, okBk_ok (by kernel_rfl)⟩
    · exact ⟨by kernel_rfl, Nat.le_of_ble_eq_true rfl, okBk_ok (by kernel_rfl)⟩
    · exact ⟨by kernel_rfl, Nat.le_of_ble_eq_true rfl, okBk_ok (by kernel_rfl)⟩
    · exact ⟨by kernel_rfl, Nat.le_of_ble_eq_true rfl, okBk_ok (by kernel_rfl)⟩
    · exact ⟨by kernel_rfl, Nat.le_of_ble_eq_true rfl, okBk_ok (by kernel_rfl)⟩
    · exact ⟨by kernel_rfl, Nat.le_of_ble_eq_true rfl, okBk_ok (by kernel_rfl)⟩
    · exact ⟨by kernel_rfl, Nat.le_of_ble_eq_true rfl, hbm⟩
    · exact ⟨by kernel_rfl, Nat.le_of_ble_eq_true rfl, hbt⟩
    · exact ⟨by kernel_rfl, Nat.le_of_ble_eq_true rfl, okBk_ok (by kernel_rfl)⟩
  · rw [T.get_e] at hg; cases hg
theorem rd_f1n2dr1 {w0 : World} {Φ : Phi} {pJ : PB} {bm bt : Blk} {x y : Nat → Nat} (hbm : OkB 6591 bm) (hbt : OkB 6591 bt) (hJ : Φ 6300 = some pJ) (h0 : ∀ i, 6591 ≤ i → Φ i = none) : Reads w0 Φ (.pointer (some (pJ.addr 0))) (E18 bm bt x y) 2 y (E18 bm bt x y) := by
  refine reads_of (n := 38) x1_right x1_has17 hJ (h1 := ⟨ofPairs [(0, j0), (1, .map [] 298), (2, j20), (5, j2), (7, j3), (9, j4), (11, j5), (13, .map [] 29), (14, .map [] 29), (15, j6), (16, j7), (17, lB [.ptr 16 0, i64 2] false), (22, j8), (23, lB [.ptr 22 0, i64 2] false), (28, j9), (29, lB [.ptr 28 0, i64 2] false), (34, j10), (35, lB [.ptr 34 0, i64 2] false), (38, j11), (39, j12), (1082, j21), (1083, j26), (6299, (j27 x y)), (6300, j14), (6532, j15), (6548, lB [i64 1, sA 128 0, fV, i64 0] false), (6568, lB [i64 2, sA 128 0, fV, i64 0] false), (6573, bm), (6574, bt), (6589, lB [.ptr 6548 0, .ptr 6568 0] true), (6591, rB y true)], 6592⟩) (id := 6591) (r_f1n2dr1 bm bt x y) (by as_aux_lemma => kernel_rfl) h0 ?_
  intro i bl hg
  rcases get_pairT hg with hg | hg
  · simp only [List.mem_cons, Prod.mk.injEq, List.not_mem_nil, or_false] at hg
    rcases hg with ⟨rfl, rfl⟩ | ⟨rfl, rfl⟩ | ⟨rfl, rfl⟩ | ⟨rfl, rfl⟩ | ⟨rfl, rfl⟩ | ⟨rfl, rfl⟩ | ⟨rfl, rfl⟩ | ⟨rfl, rfl⟩ | ⟨rfl, rfl⟩ | ⟨rfl, rfl⟩ | ⟨rfl, rfl⟩ | ⟨rfl, rfl⟩ | ⟨rfl, rfl⟩ | ⟨rfl, rfl⟩ | ⟨rfl, rfl⟩ | ⟨rfl, rfl⟩ | ⟨rfl, rfl⟩ | ⟨rfl, rfl⟩ | ⟨rfl, rfl⟩ | ⟨rfl, rfl⟩ | ⟨rfl, rfl⟩ | ⟨rfl, rfl⟩ | ⟨rfl, rfl⟩ | ⟨rfl, rfl⟩ | ⟨rfl, rfl⟩ | ⟨rfl, rfl⟩ | ⟨rfl, rfl⟩ | ⟨rfl, rfl⟩ | ⟨rfl, rfl⟩ | ⟨rfl, rfl⟩
    · exact ⟨by kernel_rfl, Nat.le_of_ble_eq_true rfl, okBk_ok (by kernel_rfl)⟩
    · exact ⟨by kernel_rfl, Nat.le_of_ble_eq_true rfl, okBk_ok (by kernel_rfl)⟩
    · exact ⟨by kernel_rfl, Nat.le_of_ble_eq_true rfl, okBk_ok (by kernel_rfl)⟩
    · exact ⟨by kernel_rfl, Nat.le_of_ble_eq_true rfl, okBk_ok (by kernel_rfl)⟩
    · exact ⟨by kernel_rfl, Nat.le_of_ble_eq_true rfl, okBk_ok (by kernel_rfl)⟩
    · exact ⟨by kernel_rfl, Nat.le_of_ble_eq_true rfl, okBk_ok (by kernel_rfl)⟩
    · exact ⟨by kernel_rfl, Nat.le_of_ble_eq_true rfl, okBk_ok (by kernel_rfl)⟩
    · exact ⟨by kernel_rfl, Nat.le_of_ble_eq_true rfl, okBk_ok (by kernel_rfl)⟩
    · exact ⟨by kernel_rfl, Nat.le_of_ble_eq_true rfl, okBk_ok (by kernel_rfl)⟩
    · exact ⟨by kernel_rfl, Nat.le_of_ble_eq_true rfl, okBk_ok (by kernel_rfl)⟩
    · exact ⟨by kernel_rfl, Nat.le_of_ble_eq_true rfl, okBk_ok (by kernel_rfl)⟩
    · exact ⟨by kernel_rfl, Nat.le_of_ble_eq_true rfl, okBk_ok (by kernel_rfl)⟩
    · exact ⟨by kernel_rfl, Nat.le_of_ble_eq_true rfl, okBk_ok (by kernel_rfl)⟩
    · exact ⟨by kernel_rfl, Nat.le_of_ble_eq_true rfl, okBk_ok (by kernel_rfl)⟩
    · exact ⟨by kernel_rfl, Nat.le_of_ble_eq_true rfl, okBk_ok (by kernel_rfl)⟩
    · exact ⟨by kernel_rfl, Nat.le_of_ble_eq_true rfl, okBk_ok (by kernel_rfl)⟩
    · exact ⟨by kernel_rfl, Nat.le_of_ble_eq_true rfl, okBk_ok (by kernel_rfl)⟩
    · exact ⟨by kernel_rfl, Nat.le_of_ble_eq_true rfl, okBk_ok (by kernel_rfl)⟩
    · exact ⟨by kernel_rfl, Nat.le_of_ble_eq_true rfl, okBk_ok (by kernel_rfl)⟩
    · exact ⟨by kernel_rfl, Nat.le_of_ble_eq_true rfl, okBk_ok (by kernel_rfl)⟩
    · exact ⟨by kernel_rfl, Nat.le_of_ble_eq_true rfl, okBk_ok (by kernel_rfl)⟩
    · exact ⟨by kernel_rfl, Nat.le_of_ble_eq_true rfl, okBk_ok (by kernel_rfl)⟩
    · exact ⟨by kernel_rfl, Nat.le_of_ble_eq_true rfl, okBk_ok (by kernel_rfl)⟩
    · exact ⟨by kernel_rfl, Nat.le_of_ble_eq_true rfl, okBk_ok (by kernel_rfl)⟩
    · exact ⟨by kernel_rfl, Nat.le_of_ble_eq_true rfl, okBk_ok (by kernel_rfl)⟩
    · exact ⟨by kernel_rfl, Nat.le_of_ble_eq_true rfl, okBk_ok (by kernel_rfl)⟩
    · exact ⟨by kernel_rfl, Nat.le_of_ble_eq_true rfl, okBk_ok (by kernel_rfl)⟩
    · exact ⟨by kernel_rfl, Nat.le_of_ble_eq_true rfl, hbm⟩
    · exact ⟨by kernel_rfl, Nat.le_of_ble_eq_true rfl, hbt⟩
    · exact ⟨by kernel_rfl, Nat.le_of_ble_eq_true rfl, okBk_ok (by kernel_rfl)⟩
  · rw [T.get_e] at hg; cases hg
theorem wr_f1n2dw0 {w0 : World} {Φ : Phi} {pJ : PB} {bm bt : Blk} {x y z : Nat → Nat} (hbm : OkB 6591 bm) (hbt : OkB 6591 bt) (hJ : Φ 6300 = some pJ) (h0 : ∀ i, 6591 ≤ i → Φ i = none) : Writes w0 Φ (.pointer (some (pJ.addr 0))) (E18 bm bt x y) 1 z (E18 bm bt (m8 z) y) := by
  refine writes_of (n := 40) hJ (hw := ⟨ofPairs [(0, j0), (1, .map [] 298), (2, j20), (5, j2), (7, j3), (9, j4), (11, j5), (13, .map [] 29), (14, .map [] 29), (15, j6), (16, j7), (17, lB [.ptr 16 0, i64 2] false), (22, j8), (23, lB [.ptr 22 0, i64 2] false), (28, j9), (29, lB [.ptr 28 0, i64 2] false), (34, j10), (35, lB [.ptr 34 0, i64 2] false), (38, j11), (39, j12), (1082, j21), (1083, j26), (6299, (j27 x y)), (6300, j14), (6532, j15), (6548, lB [i64 1, sA 128 0, fV, i64 0] false), (6568, lB [i64 2, sA 128 0, fV, i64 0] false), (6573, bm), (6574, bt), (6589, lB [.ptr 6548 0, .ptr 6568 0] true), (6591, rB z false)], 6592⟩) (by as_aux_lemma => kernel_rfl) (h1 := ⟨ofPairs [(0, j0), (1, .map [] 298), (2, j20), (5, j2), (7, j3), (9, j4), (11, j5), (13, .map [] 29), (14, .map [] 29), (15, j6), (16, j7), (17, lB [.ptr 16 0, i64 2] false), (22, j8), (23, lB [.ptr 22 0, i64 2] false), (28, j9), (29, lB [.ptr 28 0, i64 2] false), (34, j10), (35, lB [.ptr 34 0, i64 2] false), (38, j11), (39, j12), (1082, j21), (1083, j26), (6299, (j28 y (m8 z))), (6300, j14), (6532, j15), (6548, lB [i64 1, sA 128 0, fV, i64 0] false), (6568, lB [i64 2, sA 128 0, fV, i64 0] false), (6573, bm), (6574, bt), (6589, lB [.ptr 6548 0, .ptr 6568 0] true)], 6592⟩) (r_f1n2dw0 bm bt x y z) h0 ?_
  intro i bl hg
  rcases get_pairT hg with hg | hg
  · simp only [List.mem_cons, Prod.mk.injEq, List.not_mem_nil, or_false] at hg
    rcases hg with ⟨rfl, rfl⟩ | ⟨rfl, rfl⟩ | ⟨rfl, rfl⟩ | ⟨rfl, rfl⟩ | ⟨rfl, rfl⟩ | ⟨rfl, rfl⟩ | ⟨rfl, rfl⟩ | ⟨rfl, rfl⟩ | ⟨rfl, rfl⟩ | ⟨rfl, rfl⟩ | ⟨rfl, rfl⟩ | ⟨rfl, rfl⟩ | ⟨rfl, rfl⟩ | ⟨rfl, rfl⟩ | ⟨rfl, rfl⟩ | ⟨rfl, rfl⟩ | ⟨rfl, rfl⟩ | ⟨rfl, rfl⟩ | ⟨rfl, rfl⟩ | ⟨rfl, rfl⟩ | ⟨rfl, rfl⟩ | ⟨rfl, rfl⟩ | ⟨rfl, rfl⟩ | ⟨rfl, rfl⟩ | ⟨rfl, rfl⟩ | ⟨rfl, rfl⟩ | ⟨rfl, rfl⟩ | ⟨rfl, rfl⟩ | ⟨rfl, rfl⟩ | ⟨rfl, rfl⟩
    · exact ⟨by kernel_rfl, Nat.le_of_ble_eq_true rfl, okBk_ok (by kernel_rfl)⟩
    · exact ⟨by kernel_rfl, Nat.le_of_ble_eq_true rfl, okBk_ok (by kernel_rfl)⟩
    · exact ⟨by kernel_rfl, Nat.le_of_ble_eq_true rfl, okBk_ok (by kernel_rfl)⟩
    · exact ⟨by kernel_rfl, Nat.le_of_ble_eq_true rfl, okBk_ok (by kernel_rfl)⟩
    · exact ⟨by kernel_rfl, Nat.le_of_ble_eq_true rfl, okBk_ok (by kernel_rfl)⟩
    · exact ⟨by kernel_rfl, Nat.le_of_ble_eq_true rfl, okBk_ok (by kernel_rfl)⟩
    · exact ⟨by kernel_rfl, Nat.le_of_ble_eq_true rfl, okBk_ok (by kernel_rfl)⟩
    · exact ⟨by kernel_rfl, Nat.le_of_ble_eq_true rfl, okBk_ok (by kernel_rfl)⟩
    · exact ⟨by kernel_rfl, Nat.le_of_ble_eq_true rfl, okBk_ok (by kernel_rfl)⟩
    · exact ⟨by kernel_rfl, Nat.le_of_ble_eq_true rfl, okBk_ok (by kernel_rfl)⟩
    · exact ⟨by kernel_rfl, Nat.le_of_ble_eq_true rfl, okBk_ok (by kernel_rfl)⟩
    · exact ⟨by kernel_rfl, Nat.le_of_ble_eq_true rfl, okBk_ok (by kernel_rfl)⟩
    · exact ⟨by kernel_rfl, Nat.le_of_ble_eq_true rfl, okBk_ok (by kernel_rfl)⟩
    · exact ⟨by kernel_rfl, Nat.le_of_ble_eq_true rfl, okBk_ok (by kernel_rfl)⟩
    · exact ⟨by kernel_rfl, Nat.le_of_ble_eq_true rfl, okBk_ok (by kernel_rfl)⟩
    · exact ⟨by kernel_rfl, Nat.le_of_ble_eq_true rfl, okBk_ok (by kernel_rfl)⟩
    · exact ⟨by kernel_rfl, Nat.le_of_ble_eq_true rfl, okBk_ok (by kernel_rfl)⟩
    · exact ⟨by kernel_rfl, Nat.le_of_ble_eq_true rfl, okBk_ok (by kernel_rfl)⟩
    · exact ⟨by kernel_rfl, Nat.le_of_ble_eq_true rfl, okBk_ok (by kernel_rfl)⟩
    · exact ⟨by kernel_rfl, Nat.le_of_ble_eq_true rfl, okBk_ok (by kernel_rfl)⟩
    · exact ⟨by kernel_rfl, Nat.le_of_ble_eq_true rfl, okBk_ok (by kernel_rfl)⟩
    · exact ⟨by kernel_rfl, Nat.le_of_ble_eq_true rfl, okBk_ok (by kernel_rfl)⟩
    · exact ⟨by kernel_rfl, Nat.le_of_ble_eq_true rfl, okBk_ok (by kernel_rfl)⟩
    · exact ⟨by kernel_rfl, Nat.le_of_ble_eq_true rfl, okBk_ok (by kernel_rfl)⟩
    · exact ⟨by kernel_rfl, Nat.le_of_ble_eq_true rfl, okBk_ok (by kernel_rfl)⟩
    · exact ⟨by kernel_rfl, Nat.le_of_ble_eq_true rfl, okBk_ok (by kernel_rfl)⟩
    · exact ⟨by kernel_rfl, Nat.le_of_ble_eq_true rfl, okBk_ok (by kernel_rfl)⟩
    · exact ⟨by kernel_rfl, Nat.le_of_ble_eq_true rfl, hbm⟩
    · exact ⟨by kernel_rfl, Nat.le_of_ble_eq_true rfl, hbt⟩
    · exact ⟨by kernel_rfl, Nat.le_of_ble_eq_true rfl, okBk_ok (by kernel_rfl)⟩
  · rw [T.get_e] at hg; cases hg
theorem wr_f1n2dw1 {w0 : World} {Φ : Phi} {pJ : PB} {bm bt : Blk} {x y z : Nat → Nat} (hbm : OkB 6591 bm) (hbt : OkB 6591 bt) (hJ : Φ 6300 = some pJ) (h0 : ∀ i, 6591 ≤ i → Φ i = none) : Writes w0 Φ (.pointer (some (pJ.addr 0))) (E18 bm bt x y) 2 z (E18 bm bt x (m8 z)) := by
  refine writes_of (n := 40) hJ (hw := ⟨ofPairs [(0, j0), (1, .map [] 298), (2, j20), (5, j2), (7, j3), (9, j4), (11, j5), (13, .map [] 29), (14, .map [] 29), (15, j6), (16, j7), (17, lB [.ptr 16 0, i64 2] false), (22, j8), (23, lB [.ptr 22 0, i64 2] false), (28, j9), (29, lB [.ptr 28 0, i64 2] false), (34, j10), (35, lB [.ptr 34 0, i64 2] false), (38, j11), (39, j12), (1082, j21), (1083, j26), (6299, (j27 x y)), (6300, j14), (6532, j15), (6548, lB [i64 1, sA 128 0, fV, i64 0] false), (6568, lB [i64 2, sA 128 0, fV, i64 0] false), (6573, bm), (6574, bt), (6589, lB [.ptr 6548 0, .ptr 6568 0] true), (6591, rB z false)], 6592⟩) (by as_aux_lemma => kernel_rfl) (h1 := ⟨ofPairs [(0, j0), (1, .map [] 298), (2, j20), (5, j2), (7, j3), (9, j4), (11, j5), (13, .map [] 29), (14, .map [] 29), (15, j6), (16, j7), (17, lB [.ptr 16 0, i64 2] false), (22, j8), (23, lB [.ptr 22 0, i64 2] false), (28, j9), (29, lB [.ptr 28 0, i64 2] false), (34, j10), (35, lB [.ptr 34 0, i64 2] false), (38, j11), (39, j12), (1082, j21), (1083, j26), (6299, (j29 x (m8 z))), (6300, j14), (6532, j15), (6548, lB [i64 1, sA 128 0, fV, i64 0] false), (6568, lB [i64 2, sA 128 0, fV, i64 0] false), (6573, bm), (6574, bt), (6589, lB [.ptr 6548 0, .ptr 6568 0] true)], 6592⟩) (r_f1n2dw1 bm bt x y z) h0 ?_
  intro i bl hg
  rcases get_pairT hg with hg | hg
  · simp only [List.mem_cons, Prod.mk.injEq, List.not_mem_nil, or_false] at hg
    rcases hg with ⟨rfl, rfl⟩ | ⟨rfl, rfl⟩ | ⟨rfl, rfl⟩ | ⟨rfl, rfl⟩ | ⟨rfl, rfl⟩ | ⟨rfl, rfl⟩ | ⟨rfl, rfl⟩ | ⟨rfl, rfl⟩ | ⟨rfl, rfl⟩ | ⟨rfl, rfl⟩ | ⟨rfl, rfl⟩ | ⟨rfl, rfl⟩ | ⟨rfl, rfl⟩ | ⟨rfl, rfl⟩ | ⟨rfl, rfl⟩ | ⟨rfl, rfl⟩ | ⟨rfl, rfl⟩ | ⟨rfl, rfl⟩ | ⟨rfl, rfl⟩ | ⟨rfl, rfl⟩ | ⟨rfl, rfl⟩ | ⟨rfl, rfl⟩ | ⟨rfl, rfl⟩ | ⟨rfl, rfl⟩ | ⟨rfl, rfl⟩ | ⟨rfl, rfl⟩ | ⟨rfl, rfl⟩ | ⟨rfl, rfl⟩ | ⟨rfl, rfl⟩ | ⟨rfl, rfl⟩
    · exact ⟨by kernel_rfl, Nat.le_of_ble_eq_true rfl, okBk_ok (by kernel_rfl)⟩
    · exact ⟨by kernel_rfl, Nat.le_of_ble_eq_true rfl, okBk_ok (by kernel_rfl)⟩
    · exact ⟨by kernel_rfl, Nat.le_of_ble_eq_true rfl, okBk_ok (by kernel_rfl)⟩
    · exact ⟨by kernel_rfl, Nat.le_of_ble_eq_true rfl, okBk_ok (by kernel_rfl)⟩
    · exact ⟨by kernel_rfl, Nat.le_of_ble_eq_true rfl, okBk_ok (by kernel_rfl)⟩
    · exact ⟨by kernel_rfl, Nat.le_of_ble_eq_true rfl, okBk_ok (by kernel_rfl)⟩
    · exact ⟨by kernel_rfl, Nat.le_of_ble_eq_true rfl, okBk_ok (by kernel_rfl)⟩
    · exact ⟨by kernel_rfl, Nat.le_of_ble_eq_true rfl, okBk_ok (by kernel_rfl)⟩
    · exact ⟨by kernel_rfl, Nat.le_of_ble_eq_true rfl, okBk_ok (by kernel_rfl)⟩
    · exact ⟨by kernel_rfl, Nat.le_of_ble_eq_true rfl, okBk_ok (by kernel_rfl)⟩
    · exact ⟨by kernel_rfl, Nat.le_of_ble_eq_true rfl, okBk_ok (by kernel_rfl)⟩
    · exact ⟨by kernel_rfl, Nat.le_of_ble_eq_true rfl, okBk_ok (by kernel_rfl)⟩
    · exact ⟨by kernel_rfl, Nat.le_of_ble_eq_true rfl, okBk_ok (by kernel_rfl)⟩
    · exact ⟨by kernel_rfl, Nat.le_of_ble_eq_true rfl, okBk_ok (by kernel_rfl)⟩
    · exact ⟨by kernel_rfl, Nat.le_of_ble_eq_true rfl, okBk_ok (by kernel_rfl)⟩
    · exact ⟨by kernel_rfl, Nat.le_of_ble_eq_true rfl, okBk_ok (by kernel_rfl)⟩
    · exact ⟨by kernel_rfl, Nat.le_of_ble_eq_true rfl, okBk_ok (by kernel_rfl)⟩
    · exact ⟨by kernel_rfl, Nat.le_of_ble_eq_true rfl, okBk_ok (by kernel_rfl)⟩
    · exact ⟨by kernel_rfl, Nat.le_of_ble_eq_true rfl, okBk_ok (by kernel_rfl)⟩
    · exact ⟨by kernel_rfl, Nat.le_of_ble_eq_true rfl, okBk_ok (by kernel_rfl)⟩
    · exact ⟨by kernel_rfl, Nat.le_of_ble_eq_true rfl, okBk_ok (by kernel_rfl)⟩
    · exact ⟨by kernel_rfl, Nat.le_of_ble_eq_true rfl, okBk_ok (by kernel_rfl)⟩
    · exact ⟨by kernel_rfl, Nat.le_of_ble_eq_true rfl, okBk_ok (by kernel_rfl)⟩
    · exact ⟨by kernel_rfl, Nat.le_of_ble_eq_true rfl, okBk_ok (by kernel_rfl)⟩
    · exact ⟨by kernel_rfl, Nat.le_of_ble_eq_true rfl, okBk_ok (by kernel_rfl)⟩
    · exact ⟨by kernel_rfl, Nat.le_of_ble_eq_true rfl, okBk_ok (by kernel_rfl)⟩
    · exact ⟨by kernel_rfl, Nat.le_of_ble_eq_true rfl, okBk_ok (by kernel_rfl)⟩
    · exact ⟨by kernel_rfl, Nat.le_of_ble_eq_true rfl, hbm⟩
    · exact ⟨by kernel_rfl, Nat.le_of_ble_eq_true rfl, hbt⟩
    · exact ⟨by kernel_rfl, Nat.le_of_ble_eq_true rfl, okBk_ok (by kernel_rfl)⟩
  · rw [T.get_e] at hg; cases hg
end
end Go.Proofs.YteaacjabcfopgaaGreat.Run
