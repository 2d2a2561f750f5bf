/-
  The plain law, part 2: the reference's Split comes to the names of a path; and the statement PathSplits, over what is computed.
-/
import Derived.Test.YtpnpbpgdclhbaaaDoorL1
import Derived.Test.YtpnpbpgdclhbaaaDoorPd
namespace Go.Proofs.YtpnpbpgdclhbaaaDoor.PQ
open Go.RowKit Go.Proofs.YtpnpbpgdclhbaaaDoorW.PrintWords Go.Proofs.YtpnpbpgdclhbaaaDoorW.PrintLast

theorem ofBs_app (a b : ByteArray) : ofBs (a ++ b) = ofBs a ++ ofBs b := by
  unfold ofBs
  rw [ByteArray.data_append, Array.toList_append]
theorem app_char (x : List UInt8) (s : ByteArray) (i : Nat) (c : UInt8) (h : (ofBs s)[i]? = some c) : bsOf x ++ s.extract i (i + 1) = bsOf (x ++ [c]) := by
  rw [← bsOf_ofBs (bsOf x ++ s.extract i (i + 1)), ofBs_app, ofBs_bsOf, ofBs_extract, List.take_add_one, h]
  have hl : i < (ofBs s).length := (List.getElem?_eq_some_iff.1 h).1
  rw [List.drop_append_of_le_length (by rw [List.length_take]; omega), List.drop_of_length_le (by rw [List.length_take]; omega)]
  rfl
theorem size_bsOf (x : List UInt8) : (bsOf x).size = x.length := by
  rw [← size_ofBs, ofBs_bsOf]

/-- What the rest of a text adds: the piece that has begun, the names so far. -/
def restE (l x : List UInt8) (acc : List (List UInt8)) : List (List UInt8) × Int := Sp.scan ((x ++ (Sp.cuts l).1) :: (Sp.cuts l).2) acc
theorem restE_char (c : UInt8) (l x : List UInt8) (acc : List (List UInt8)) (h : c ≠ 47) : restE (c :: l) x acc = restE l (x ++ [c]) acc := by
  unfold restE
  simp [Sp.cuts, h]
theorem restE_slash (l x : List UInt8) (acc : List (List UInt8)) : restE (47 :: l) x acc = Sp.scan (x :: Sp.pieces l) acc := by
  unfold restE
  simp [Sp.cuts, Sp.pieces]
theorem restE_new (l : List UInt8) (acc : List (List UInt8)) : restE l [] acc = Sp.scan (Sp.pieces l) acc := rfl

theorem take_char (s : ByteArray) (i : Nat) (h : i < s.size) : ∃ c, (ofBs s)[i]? = some c ∧ bt s i = c.toNat ∧ (ofBs s).drop i = c :: (ofBs s).drop (i + 1) := by
  obtain ⟨c, hc, hb⟩ := bt_at s i h
  exact ⟨c, hc, hb, (List.drop_eq_getElem_cons (by rw [size_ofBs]; exact h)).trans (by rw [List.getElem?_eq_some_iff] at hc; rw [hc.2])⟩

theorem bsList_length (acc : List (List UInt8)) (x : List UInt8) : acc.map bsOf ++ [bsOf x] = (acc ++ [x]).map bsOf := by
  rw [List.map_append, List.map_cons, List.map_nil]

/-- Behind a piece: what the pieces that follow come to, if the loop goes on there. -/
theorem splitJ (s : ByteArray) (i : Nat) (x : List UInt8) (acc ps : List (List UInt8)) (hx : x.length ≤ 140737488351232) (ha : acc.length ≤ 16) (hi : i ≤ 140737488351232)
    (next : ∀ acc' : List (List UInt8), acc'.length ≤ 16 → Ev (fun k => ashlarref14_Split.l0 k s (acc'.map bsOf) (bsOf []) (i + 1)) ((Sp.scan ps acc').1.map bsOf, (Sp.scan ps acc').2)) :
    Ev (fun k => ashlarref14_Split.j2 k s (acc.map bsOf) (bsOf x) i false) ((Sp.scan (x :: ps) acc).1.map bsOf, (Sp.scan (x :: ps) acc).2) := by
  refine Ev.head ?_
  simp only [ashlarref14_Split.j2, toList_ofBs, ofBs_bsOf]
  rw [wrap_one (by omega) (by omega)]
  refine Ev.neg (by simp) ?_
  by_cases h0 : x = []
  · subst h0
    rw [show Sp.scan ([] :: ps) acc = Sp.scan ps acc by simp [Sp.scan]]
    exact Ev.pos rfl (next acc ha)
  · refine Ev.neg h0 (Ev.bind (refName (bsOf x) (by rw [size_bsOf]; exact hx)) ?_)
    rw [ofBs_bsOf]
    by_cases hn : Sp.nameE x = 0
    · refine Ev.pos hn (Ev.pos (by rw [List.length_map]; omega) ?_)
      simp only [Option.bind_some, bsList_length, List.length_map, List.length_append, List.length_singleton]
      by_cases hf : acc.length = 16
      · rw [show Sp.scan (x :: ps) acc = ([], 26) by simp [Sp.scan, h0, hn, hf]]
        exact Ev.pos (by omega) (Ev.val rfl)
      · rw [show Sp.scan (x :: ps) acc = Sp.scan ps (acc ++ [x]) by simp [Sp.scan, h0, hn, hf]]
        exact Ev.neg (by omega) (next (acc ++ [x]) (by simp; omega))
    · rw [show Sp.scan (x :: ps) acc = ([], Sp.nameE x) by simp [Sp.scan, h0, hn]]
      exact Ev.neg hn (Ev.val rfl)
theorem splitL (s : ByteArray) (hs : s.size ≤ 255) : ∀ (d i : Nat), i + d = s.size → ∀ (x : List UInt8) (acc : List (List UInt8)), x.length ≤ i → acc.length ≤ 16 →
    Ev (fun k => ashlarref14_Split.l0 k s (acc.map bsOf) (bsOf x) i) ((restE ((ofBs s).drop i) x acc).1.map bsOf, (restE ((ofBs s).drop i) x acc).2) := by
  intro d
  induction d with
  | zero =>
    intro i hi x acc hx ha
    refine Ev.head ?_
    simp only [ashlarref14_Split.l0]
    refine Ev.pos (by omega) (Ev.neg (by omega) ?_)
    have e : restE ((ofBs s).drop i) x acc = Sp.scan (x :: []) acc := by
      rw [List.drop_of_length_le (by rw [size_ofBs]; omega)]
      simp [restE, Sp.cuts]
    rw [e]
    refine splitJ s i x acc [] (by omega) ha (by omega) fun acc' _ => ?_
    refine Ev.head ?_
    simp only [ashlarref14_Split.l0]
    exact Ev.neg (by omega) (Ev.val rfl)
  | succ d ih =>
    intro i hi x acc hx ha
    obtain ⟨c, hc, hb, hd⟩ := take_char s i (by omega)
    refine Ev.head ?_
    simp only [ashlarref14_Split.l0, hb]
    refine Ev.pos (by omega) (Ev.pos (by omega) (Ev.pos (by omega) ?_))
    rw [hd]
    by_cases h : c = 47
    · subst h
      rw [restE_slash]
      rw [show (((47 : UInt8).toNat : Int) != 47) = false by decide]
      refine splitJ s i x acc _ (by omega) ha (by omega) fun acc' ha' => ?_
      rw [← restE_new]
      exact ih (i + 1) (by omega) [] acc' (by simp) ha'
    · rw [restE_char _ _ _ _ h]
      have h' : ((c.toNat : Int) != 47) = true := by
        rw [bne_iff_ne]
        intro e
        exact h (UInt8.toNat_inj.1 (by rw [show (47 : UInt8).toNat = 47 from rfl]; omega))
      rw [h']
      refine Ev.head ?_
      simp only [ashlarref14_Split.j2]
      rw [wrap_one (by omega) (by omega)]
      refine Ev.pos trivial (Ev.pos (by omega) (Ev.pos (by omega) (Ev.pos (by omega) ?_)))
      rw [show ((i : Int)).toNat = i by omega, show ((i : Int) + 1).toNat = i + 1 by omega, app_char x s i c hc]
      refine Ev.pos ?_ (ih (i + 1) (by omega) (x ++ [c]) acc (by simp; omega) ha)
      rw [size_bsOf, ByteArray.size_extract]
      omega
theorem refSplit (s : ByteArray) : Ev (fun k => ashlarref14_Split.f k s) ((Sp.splitE (ofBs s)).1.map bsOf, (Sp.splitE (ofBs s)).2) := by
  have go : (ofBs s).head? = some 47 → Ev (fun k => ashlarref14_Split.j0 k s false) ((Sp.splitE (ofBs s)).1.map bsOf, (Sp.splitE (ofBs s)).2) := fun h => by
    obtain ⟨l, hl⟩ : ∃ l, ofBs s = 47 :: l := by
      cases e : ofBs s with
      | nil => rw [e] at h; simp at h
      | cons c l => rw [e] at h; simp at h; exact ⟨l, by rw [h]⟩
    have hsz : s.size = l.length + 1 := by rw [← size_ofBs, hl]; rfl
    refine Ev.head ?_
    simp only [ashlarref14_Split.j0]
    refine Ev.neg (by simp) ?_
    unfold Sp.splitE
    rw [if_neg (by simp [h])]
    by_cases hb : 255 < s.size
    · rw [if_pos (by rw [size_ofBs]; exact hb)]
      exact Ev.pos (by omega) (Ev.val rfl)
    · rw [if_neg (by rw [size_ofBs]; exact hb)]
      refine Ev.neg (by omega) ?_
      have := splitL s (by omega) l.length 1 (by omega) [] [] (by simp) (by simp)
      rw [show Sp.scan (Sp.pieces (ofBs s)) [] = restE ((ofBs s).drop 1) [] [] by
        rw [hl, restE_new]
        simp [Sp.pieces, Sp.cuts, Sp.scan]]
      exact this
  have bad : (ofBs s).head? ≠ some 47 → Ev (fun k => ashlarref14_Split.j0 k s true) ((Sp.splitE (ofBs s)).1.map bsOf, (Sp.splitE (ofBs s)).2) := fun h => by
    refine Ev.head ?_
    simp only [ashlarref14_Split.j0]
    refine Ev.pos trivial (Ev.val ?_)
    unfold Sp.splitE
    rw [if_pos h]
    rfl
  unfold ashlarref14_Split.f
  by_cases h0 : s.size = 0
  · refine Ev.pos (by omega) (bad ?_)
    have : ofBs s = [] := by rw [← List.length_eq_zero_iff, size_ofBs]; exact h0
    simp [this]
  · refine Ev.neg (by omega) (Ev.pos (by omega) ?_)
    obtain ⟨c, hc, hb, hd⟩ := take_char s 0 (by omega)
    have hh : (ofBs s).head? = some c := by rw [List.head?_eq_getElem?]; exact hc
    rw [show bt s 0 = c.toNat from hb]
    by_cases h : c = 47
    · subst h
      exact go hh
    · rw [show ((c.toNat : Int) != 47) = true by
        rw [bne_iff_ne]
        intro e
        exact h (UInt8.toNat_inj.1 (by rw [show (47 : UInt8).toNat = 47 from rfl]; omega))]
      exact bad (by rw [hh]; simpa using h)

theorem scan_small : ∀ (ps acc : List (List UInt8)), acc.length ≤ 16 → (Sp.scan ps acc).1.length ≤ 16 := by
  intro ps
  induction ps with
  | nil => intro acc h; exact h
  | cons p ps ih =>
    intro acc h
    unfold Sp.scan
    by_cases h0 : p = []
    · rw [if_pos h0]; exact ih _ h
    · rw [if_neg h0]
      by_cases h1 : Sp.nameE p ≠ 0
      · rw [if_pos h1]; simp
      · rw [if_neg h1]
        by_cases h2 : acc.length = 16
        · rw [if_pos h2]; simp
        · rw [if_neg h2]
          exact ih _ (by simp; omega)
theorem split_small (l : List UInt8) : (Sp.splitE l).1.length ≤ 16 := by
  unfold Sp.splitE
  by_cases h : l.head? ≠ some 47
  · rw [if_pos h]; simp
  · rw [if_neg h]
    by_cases h2 : 255 < l.length
    · rw [if_pos h2]; simp
    · rw [if_neg h2]; exact scan_small _ _ (by simp)
theorem scan_none : ∀ (ps acc : List (List UInt8)), (Sp.scan ps acc).2 ≠ 0 → (Sp.scan ps acc).1 = [] := by
  intro ps
  induction ps with
  | nil => intro acc h; exact absurd rfl h
  | cons p ps ih =>
    intro acc h
    unfold Sp.scan at h ⊢
    by_cases h0 : p = []
    · rw [if_pos h0] at h ⊢; exact ih _ h
    · rw [if_neg h0] at h ⊢
      by_cases h1 : Sp.nameE p ≠ 0
      · rw [if_pos h1]
      · rw [if_neg h1] at h ⊢
        by_cases h2 : acc.length = 16
        · rw [if_pos h2]
        · rw [if_neg h2] at h ⊢; exact ih _ h
theorem split_none (l : List UInt8) (h : (Sp.splitE l).2 ≠ 0) : (Sp.splitE l).1 = [] := by
  unfold Sp.splitE at h ⊢
  by_cases h1 : l.head? ≠ some 47
  · rw [if_pos h1]
  · rw [if_neg h1] at h ⊢
    by_cases h2 : 255 < l.length
    · rw [if_pos h2]
    · rw [if_neg h2] at h ⊢; exact scan_none _ _ h

theorem pathSplits_pure : ashlarlaw14_PathSplits.Pure := by
  intro s hs
  refine Ev.rounds ?_
  unfold ashlarlaw14_PathSplits.f
  refine Ev.bind (progSplit s hs) (Ev.bind (refSplit s) (Ev.bind (progParent s hs) (Ev.bind lives_ev (Ev.pos rfl ?_))))
  refine Ev.bind (refSame _ _ (by rw [List.length_map]; exact Nat.lt_of_le_of_lt (split_small _) (by decide))) ?_
  rw [decide_eq_true rfl]
  refine Ev.pos rfl ?_
  simp only [bne_self_eq_false]
  refine Ev.head ?_
  simp only [ashlarlaw14_PathSplits.j0]
  refine Ev.neg (by simp) ?_
  have small := split_small (ofBs s)
  generalize hL : (Sp.splitE (ofBs s)).1 = L at *
  generalize hE : (Sp.splitE (ofBs s)).2 = E at *
  by_cases h0 : E = 0
  · refine Ev.pos h0 ?_
    by_cases hl : L = []
    · have hp : parentE (ofBs s) = ([], [], 25) := by unfold parentE; rw [hE, hL, if_neg (by simp [h0]), if_pos hl]
      rw [hp]
      refine Ev.pos (by simp [hl]) (Ev.pos rfl (Ev.pos rfl (Ev.val (by rw [toList_ofBs, ofBs_bsOf]; rfl))))
    · have hp : parentE (ofBs s) = (L.dropLast, L.getLastD [], 0) := by unfold parentE; rw [hE, hL, if_neg (by simp [h0]), if_neg hl]
      have hpos : 0 < L.length := List.length_pos_iff.2 hl
      rw [hp]
      have hw : wrap64 (((L.map bsOf).length : Int) - 1) = ((L.length - 1 : Nat) : Int) := by
        rw [List.length_map]; unfold wrap64; omega
      rw [hw]
      refine Ev.neg (by rw [List.length_map]; omega) (Ev.pos rfl (Ev.pos (by omega) (Ev.pos (by rw [List.length_map]; omega) ?_)))
      rw [show ((L.length - 1 : Nat) : Int).toNat = L.length - 1 by omega, List.dropLast_eq_take, List.map_take]
      refine Ev.bind (refSame _ _ (by rw [List.length_take, List.length_map]; omega)) ?_
      rw [decide_eq_true rfl]
      refine Ev.pos rfl (Ev.pos (by rw [List.length_map]; omega) (Ev.val ?_))
      rw [rdOf_at _ _ (by rw [List.length_map]; omega), List.getElem_map]
      rw [show L.getLastD [] = L[L.length - 1] by rw [List.getLastD_eq_getLast?, List.getLast?_eq_getElem?, List.getElem?_eq_getElem (by omega)]; rfl]
      exact beq_self_eq_true _
  · have hp : parentE (ofBs s) = ([], [], E) := by unfold parentE; rw [hE, if_pos h0]
    rw [hp]
    refine Ev.neg h0 (Ev.pos rfl (Ev.pos rfl (Ev.val (by rw [toList_ofBs, ofBs_bsOf]; rfl))))
end Go.Proofs.YtpnpbpgdclhbaaaDoor.PQ
