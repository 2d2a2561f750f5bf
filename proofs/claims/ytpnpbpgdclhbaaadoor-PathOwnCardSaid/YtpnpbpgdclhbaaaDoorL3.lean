/-
  The plain law, part 3: more slashes, where there is one, or at the end, change no names; and the statement PathSlashes, over what is computed.
-/
import Derived.Test.YtpnpbpgdclhbaaaDoorL2
import Derived.Test.YtpnpbpgdclhbaaaDoorPg
namespace Go.Proofs.YtpnpbpgdclhbaaaDoor.PQ
open Go.RowKit Go.Proofs.YtpnpbpgdclhbaaaDoorW.PrintWords Go.Proofs.YtpnpbpgdclhbaaaDoorW.PrintLast

theorem pieces_app (b : List UInt8) : ∀ a : List UInt8, Sp.pieces (a ++ 47 :: b) = Sp.pieces a ++ Sp.pieces b := by
  intro a
  induction a with
  | nil => simp [Sp.pieces, Sp.cuts]
  | cons c a ih =>
    unfold Sp.pieces at ih ⊢
    simp only [List.cons_append, List.cons.injEq] at ih
    rw [List.cons_append]
    by_cases h : c = 47
    · subst h
      simp [Sp.cuts, ih.1, ih.2]
    · simp [Sp.cuts, h, ih.1, ih.2]
theorem scan_skip (qs : List (List UInt8)) : ∀ (ps acc : List (List UInt8)), Sp.scan (ps ++ [] :: qs) acc = Sp.scan (ps ++ qs) acc := by
  intro ps
  induction ps with
  | nil => intro acc; simp [Sp.scan]
  | cons p ps ih =>
    intro acc
    simp only [List.cons_append, Sp.scan, ih]
theorem pieces_last (l : List UInt8) : Sp.pieces (l ++ [47]) = Sp.pieces l ++ [[]] := by
  rw [pieces_app]; rfl
theorem split_slashes (a b : List UInt8) (h : (Sp.splitE (a ++ 47 :: b)).2 = 0) (hl : (a ++ 47 :: b).length ≤ 253) :
    Sp.splitE (a ++ 47 :: (47 :: b ++ [47])) = Sp.splitE (a ++ 47 :: b) := by
  have hh : (a ++ 47 :: b).head? = some 47 := by
    by_cases hh : (a ++ 47 :: b).head? = some 47
    · exact hh
    · unfold Sp.splitE at h
      rw [if_pos hh] at h
      exact absurd h (by decide)
  unfold Sp.splitE
  rw [if_neg (by simp only [ne_eq, Decidable.not_not]; cases a <;> simp at hh ⊢; exact hh), if_neg (by simp at hl ⊢; omega), if_neg (by simp [hh]), if_neg (by omega)]
  have e1 : Sp.pieces (a ++ 47 :: (47 :: b ++ [47])) = (Sp.pieces a ++ [] :: Sp.pieces b) ++ [] :: [] := by
    rw [pieces_app, show (47 :: b ++ [47] : List UInt8) = [] ++ 47 :: (b ++ [47]) by simp, pieces_app, pieces_last]
    simp [Sp.pieces, Sp.cuts]
  rw [e1, scan_skip, List.append_nil, scan_skip, pieces_app]

theorem slashed_text (s : ByteArray) (n : Nat) (hn : n < s.size) (h : (ofBs s)[n]? = some 47) :
    ofBs (((s.extract 0 n ++ (⟨#[47]⟩ : ByteArray)) ++ s.extract n s.size) ++ (⟨#[47]⟩ : ByteArray)) = (ofBs s).take n ++ 47 :: (47 :: (ofBs s).drop (n + 1) ++ [47]) ∧ ofBs s = (ofBs s).take n ++ 47 :: (ofBs s).drop (n + 1) := by
  have hl : n < (ofBs s).length := by rw [size_ofBs]; exact hn
  have hd : (ofBs s).drop n = 47 :: (ofBs s).drop (n + 1) := by
    rw [List.drop_eq_getElem_cons hl]
    rw [List.getElem?_eq_some_iff] at h
    rw [h.2]
  constructor
  · rw [ofBs_app, ofBs_app, ofBs_app, ofBs_extract, ofBs_extract, List.drop_zero, ← size_ofBs s, List.take_length, hd]
    simp [ofBs]
  · exact (List.take_append_drop n (ofBs s)).symm.trans (by rw [hd])

theorem pathSlashes_pure : ashlarlaw14_PathSlashes.Pure := by
  intro s i hs _
  refine Ev.rounds ?_
  unfold ashlarlaw14_PathSlashes.f
  refine Ev.bind (progSplit s hs) (Ev.bind lives_ev (Ev.pos rfl ?_))
  have stop : Ev (fun k => ashlarlaw14_PathSlashes.j0 k s i ((Sp.splitE (ofBs s)).1.map bsOf) (Sp.splitE (ofBs s)).2 true) true := by
    refine Ev.head ?_
    simp only [ashlarlaw14_PathSlashes.j0]
    refine Ev.pos trivial ?_
    by_cases h : (Sp.splitE (ofBs s)).2 = 0
    · exact Ev.pos h (Ev.val rfl)
    · refine Ev.neg h (Ev.val ?_)
      rw [split_none _ h]
      rfl
  by_cases h0 : (Sp.splitE (ofBs s)).2 = 0
  · refine Ev.pos h0 ?_
    by_cases h1 : i < 0
    · exact Ev.pos h1 stop
    · refine Ev.neg h1 ?_
      by_cases h2 : i ≥ (s.size : Int)
      · exact Ev.pos h2 stop
      · obtain ⟨n, rfl⟩ : ∃ n : Nat, i = n := ⟨i.toNat, by omega⟩
        refine Ev.neg h2 (Ev.pos (by omega) (Ev.pos (by omega) ?_))
        obtain ⟨c, hc, hb⟩ := bt_at s n (by omega)
        rw [hb]
        by_cases h3 : (c.toNat : Int) = 47
        · refine Ev.pos h3 ?_
          have : c = 47 := UInt8.toNat_inj.1 (by rw [show (47 : UInt8).toNat = 47 from rfl]; omega)
          subst this
          by_cases h4 : (s.size : Int) > 253
          · rw [decide_eq_true h4]
            exact stop
          · rw [decide_eq_false h4]
            obtain ⟨e1, e2⟩ := slashed_text s n (by omega) hc
            have e : Sp.splitE (ofBs (((s.extract 0 n ++ (⟨#[47]⟩ : ByteArray)) ++ s.extract n s.size) ++ (⟨#[47]⟩ : ByteArray))) = Sp.splitE (ofBs s) := by
              rw [e1]
              refine (split_slashes _ _ (by rw [← e2]; exact h0) (by rw [← e2, size_ofBs]; omega)).trans ?_
              rw [← e2]
            have hz : (⟨#[47]⟩ : ByteArray).size = 1 := rfl
            refine Ev.head ?_
            simp only [ashlarlaw14_PathSlashes.j0, Int.toNat_natCast]
            refine Ev.neg (by simp) (Ev.pos (by omega) (Ev.pos (by omega) (Ev.pos ?_ (Ev.pos ?_ (Ev.pos ?_ (Ev.bind (progSplit _ ?_) ?_))))))
            · simp only [ByteArray.size_extract]; omega
            · simp only [ByteArray.size_append, ByteArray.size_extract, hz]; omega
            · simp only [ByteArray.size_append, ByteArray.size_extract, hz]; omega
            · simp only [ByteArray.size_append, ByteArray.size_extract, hz]; omega
            · rw [e]
              refine Ev.pos h0 (Ev.bind (refSame _ _ (by rw [List.length_map]; exact Nat.lt_of_le_of_lt (split_small _) (by decide))) (Ev.val ?_))
              exact decide_eq_true rfl
        · exact Ev.neg h3 stop
  · exact Ev.neg h0 stop
end Go.Proofs.YtpnpbpgdclhbaaaDoor.PQ
