/-
  The contract of the iterator that strings.SplitSeq hands back, at the separator slash: it hands the pieces of the text to the loop body, in order, until a round says no more; condition: the text takes at most 140737488351232 bytes.
-/
import Derived.Test.YtpnpbpgdclhbaaaDoorT3
import Derived.RangeFuncBox
import Derived.RangeFuncNested
import Derived.RangeFuncBound
import Derived.RangeFuncCalls
import Derived.RangeFuncLeaves
import Derived.Shelf.Abstract
import Derived.Shelf.RegionOpen
import Derived.WalkKit
import Derived.OwnWalkIn
import Derived.TacticsInMore
import Derived.LoopNIn
import Derived.LoopIn
import Derived.Maps.AppendAt
import Derived.Test.YtpnpbpgdclhbaaaDoorCut
namespace Go.Proofs.YtpnpbpgdclhbaaaDoor.PQ
open Go.RowKit Go.Shelf
attribute [local go_sem] Oper.semAt_some
theorem bsOf_ofBs (s : ByteArray) : bsOf (ofBs s) = s := by cases s; rfl
theorem ofBs_bsOf (l : List UInt8) : ofBs (bsOf l) = l := rfl
theorem ofBs_extract (s : ByteArray) (i j : Nat) : ofBs (s.extract i j) = ((ofBs s).take j).drop i := by
  unfold ofBs
  rw [ByteArray.data_extract, Array.toList_extract, List.extract_eq_take_drop, List.drop_take]
/-- How long the text is that a box holds. -/
def leftOf (b : Nat) (w : World) : Nat := match w.cell? ⟨b, 0, none⟩ with | some (.string s) => s.size + 1 | _ => 0
theorem leftOf_eq {b : Nat} {w : World} {s : ByteArray} (h : Boxed w b 9 (.string s)) : leftOf b w = s.size + 1 := by
  unfold leftOf
  rw [h.cell]
def piecesB (s : ByteArray) : List ByteArray := (Sp.pieces (ofBs s)).map bsOf
theorem idx_none (s : ByteArray) (h : 47 ∉ ofBs s) (w : World) : Calls Tryd.prog 38 #[.string s, .string ⟨#[47]⟩] w fun e w' => e = .returned (.int .i64 (-1)) ∧ w' = w := by
  have := Tryd.strings_Index_one s 47 w
  rwa [show Lib.indexByte s.data.toList 47 = -1 from (Sp.index_none (ofBs s) h).1] at this
theorem idx_some (s : ByteArray) (i : Nat) (h : Lib.indexByte (ofBs s) 47 = i) (w : World) : Calls Tryd.prog 38 #[.string s, .string ⟨#[47]⟩] w fun e w' => e = .returned (.int .i64 i) ∧ w' = w := by
  have := Tryd.strings_Index_one s 47 w
  rwa [show Lib.indexByte s.data.toList 47 = i from h] at this
theorem pieces_none (s : ByteArray) (h : 47 ∉ ofBs s) : piecesB s = [s] := by
  unfold piecesB
  rw [(Sp.index_none (ofBs s) h).2]
  simp [bsOf_ofBs]
theorem pieces_some (s : ByteArray) (h : 47 ∈ ofBs s) : ∃ i : Nat, Lib.indexByte (ofBs s) 47 = i ∧ i < s.size ∧ piecesB s = s.extract 0 i :: piecesB (s.extract (i + 1) s.size) := by
  obtain ⟨i, h1, h2, h3⟩ := Sp.index_some (ofBs s) h
  rw [size_ofBs] at h2
  refine ⟨i, h1, h2, ?_⟩
  unfold piecesB
  rw [h3, List.map_cons]
  congr 1
  · rw [← bsOf_ofBs (s.extract 0 i), ofBs_extract, List.drop_zero]
  · rw [ofBs_extract, List.take_of_length_le (by rw [size_ofBs]; exact Nat.le_refl _)]

/-- What a round leaves alone: the iterator's three boxes. -/
def Kept3 (bp bs bv : Nat) (A B : World) : Prop := B.heap[bp]? = A.heap[bp]? ∧ B.heap[bs]? = A.heap[bs]? ∧ B.heap[bv]? = A.heap[bv]?

set_option maxRecDepth 100000 in
set_option maxHeartbeats 1000000 in
theorem iter_in (n : Nat) (hn : 2 ≤ n) (l bp bs bv : Nat) (hne : bs ≠ bp) (hnv : bs ≠ bv) (s0 : ByteArray) (hs0 : s0.size ≤ 140737488351232) (J Jx : List ByteArray → World → Prop)
    (hJ : ∀ pre A v, J pre A → J pre (A.setCell ⟨bs, 0, none⟩ v))
    (hY : ∀ pre x post A, piecesB s0 = pre ++ x :: post → J pre A → YieldAt Fence.wide (n - 1) Tryd.prog l #[.string x] A fun e B =>
      (e = .returned (.bool true) ∧ J (pre ++ [x]) B ∧ Kept3 bp bs bv A B) ∨ (e = .returned (.bool false) ∧ Jx (pre ++ [x]) B))
    (W : World) (hbp : Boxed W bp 9 (.string ⟨#[47]⟩)) (hbs : Boxed W bs 9 (.string s0)) (hbv : Boxed W bv 3 (.int .i64 0)) (h0 : J [] W) :
    CallsIn Fence.wide n Tryd.prog 36 #[.func (.yield l) #[] #[], .pointer (some ⟨bp, 0, none⟩), .pointer (some ⟨bs, 0, none⟩), .pointer (some ⟨bv, 0, none⟩)] W fun e W' =>
      (∃ v, e = .returned v) ∧ (J (piecesB s0) W' ∨ ∃ pre x post, piecesB s0 = pre ++ x :: post ∧ Jx (pre ++ [x]) W') := by
  refine callsIn_of_wp Tryd.func36 rfl trivial ?_ rfl
  simp only [Tryd.ntmps36, List.size_toArray, List.length_cons, List.length_nil, Nat.reduceAdd, Nat.reduceSub, Array.replicate_succ, Array.replicate_zero, List.push_toArray, List.append_toArray, List.nil_append, List.cons_append]
  have HS := Lib.hid hs0
  have hc1 := hbp.cell; have hc2 := hbs.cell; have hc3 := hbv.cell
  have hf2 := hbs.frozen
  gi_wp2
  clear hc1 hc2 hc3 hf2
  gi_loopw [] (fun wr => ∃ pre r, Boxed wr bp 9 (.string ⟨#[47]⟩) ∧ Boxed wr bs 9 (.string r) ∧ Boxed wr bv 3 (.int .i64 0) ∧ r.size ≤ 140737488351232 ∧ Hid (piecesB s0 = pre ++ piecesB r) ∧ J pre wr) (fun wr => leftOf bs wr)
  case atStart => exact ⟨[], s0, hbp, hbs, hbv, hs0, Lib.hid rfl, h0⟩
  case round =>
    obtain ⟨pre, r, hp, hs, hv, hr, HP, hj⟩ := hrel
    have hc1 := hp.cell; have hc2 := hs.cell; have hc3 := hv.cell
    by_cases h47 : 47 ∈ ofBs r
    · obtain ⟨i, hi1, hi2, hi3⟩ := pieces_some r h47
      have H1 := Lib.hid hi1
      clear hi1
      have HP2 := Lib.hid (HP.out.trans (congrArg (pre ++ ·) hi3))
      clear hi3
      obtain ⟨fn, tmps, assign, body, hy, hR⟩ := hY pre _ _ wr HP2.out hj
      have hle : (0 : Int) ≤ i := by omega
      have hlt : (i : Int) < r.size := by omega
      gi_wp2_with (refine ⟨trivial, fun _ => by omega, ?_⟩; refine (callsIn_wide.2 (idx_some r i H1.out _)).mono ?_; rintro e w' ⟨rfl, hw⟩; rw [hw])
      refine ⟨fun _ => by omega, hR.mono ?_⟩
      clear hc1 hc2 hc3
      rintro e W3 (⟨rfl, hJ3, hk1, hk2, hk3⟩ | ⟨rfl, hJx3⟩)
      · have hp3 : Boxed W3 bp 9 (.string ⟨#[47]⟩) := hk1.trans hp
        have hs3 : Boxed W3 bs 9 (.string r) := hk2.trans hs
        have hv3 : Boxed W3 bv 3 (.int .i64 0) := hk3.trans hv
        have hc1 := hp3.cell; have hc2 := hs3.cell; have hc3 := hv3.cell; have hf2 := hs3.frozen
        have hle2 : (i : Int) + 1 ≤ r.size := by omega
        gi_wp2
        go_roundw
        case rel =>
          refine ⟨pre ++ [r.extract 0 i], r.extract (i + 1) r.size, Boxed.other hp3 hne.symm _, hs3.set _, Boxed.other hv3 hnv.symm _, by rw [ByteArray.size_extract]; omega, Lib.hid (HP2.out.trans (by simp)), hJ _ _ _ hJ3⟩
        case measure =>
          rw [leftOf_eq (hs3.set _), leftOf_eq hs, ByteArray.size_extract]
          omega
      · gi_wp2
        refine bodyPost_ret (results_none rfl _ _ _) rfl ?_
        exact ⟨⟨_, rfl⟩, .inr ⟨pre, _, _, HP2.out, hJx3⟩⟩
    · have HP2 := Lib.hid (HP.out.trans (congrArg (pre ++ ·) (pieces_none r h47)))
      obtain ⟨fn, tmps, assign, body, hy, hR⟩ := hY pre _ _ wr HP2.out hj
      gi_wp2_with (refine ⟨trivial, fun _ => by omega, ?_⟩; refine (callsIn_wide.2 (idx_none r h47 _)).mono ?_; rintro e w' ⟨rfl, hw⟩; rw [hw])
      refine ⟨fun _ => by omega, hR.mono ?_⟩
      clear hc1 hc2 hc3
      rintro e W3 (⟨rfl, hJ3, hk1, hk2, hk3⟩ | ⟨rfl, hJx3⟩)
      · gi_wp2
        go_end0
        exact ⟨⟨_, rfl⟩, .inl (by rw [HP2.out]; exact hJ3)⟩
      · gi_wp2
        go_end0
        exact ⟨⟨_, rfl⟩, .inr ⟨pre, _, _, HP2.out, hJx3⟩⟩
end Go.Proofs.YtpnpbpgdclhbaaaDoor.PQ
