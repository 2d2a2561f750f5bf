/-
  The contract of path.Join at any names; conditions: at most 8796093021952 names, each of at most 140737488351232 bytes.
-/
import Derived.Test.YtpnpbpgdclhbaaaDoorT7
namespace Go.Proofs.YtpnpbpgdclhbaaaDoor.PQ
open Go.RowKit Go.Shelf
open Go.Proofs.YtpnpbpgdclhbaaaDoorW.PrintWords Go.Proofs.YtpnpbpgdclhbaaaDoorW.PrintLast Go.Proofs.YtpnpbpgdclhbaaaDoorW.PrintMore

/-- What a slice of strings that came in holds, cell by cell. -/
theorem cells_of {w : World} {A : Option Addr} {l : List ByteArray} (h : Kd.C Kd.string w A l.length l) (hn : 0 < l.length) :
    ∃ b o, A = some ⟨b, o, none⟩ ∧ b < w.heap.size ∧ ∀ j x, l[j]? = some x → w.cell? ⟨b, o + j, none⟩ = some (.string x) := by
  obtain ⟨ad, hA, hc⟩ := h.2.2 hn
  subst hA
  have hcell : ∀ j x, l[j]? = some x → w.cell? (ad.add j) = some (.string x) := fun j x hj => by
    obtain ⟨c, _, rfl, h3⟩ := hc j x hj
    have := h3 0 (.string x) rfl
    simpa [Kd.string, Kd.scalar] using this
  obtain ⟨b, o, sp⟩ := ad
  have h0 := hcell 0 l[0] (List.getElem?_eq_getElem hn)
  have hsp : sp = none := by
    cases sp with
    | none => rfl
    | some q =>
      simp [Addr.add, World.cell?] at h0
      split at h0 <;> simp at h0
  subst hsp
  have hb : b < w.heap.size := by
    rcases Nat.lt_or_ge b w.heap.size with h | h
    · exact h
    · simp [Addr.add, World.cell?, Array.getElem?_eq_none h] at h0
  refine ⟨b, o, rfl, hb, fun j x hj => ?_⟩
  have := hcell j x hj
  unfold Addr.add at this
  split at this
  · rename_i e; subst e; exact this
  · exact this

theorem names_snoc : ∀ (a : List (List UInt8)) (x : List UInt8) (r : List (List UInt8)), Sp.namesE a = 0 → Sp.namesE (a ++ x :: r) = if Sp.nameE x ≠ 0 then Sp.nameE x else Sp.namesE r
  | [], _, _, _ => rfl
  | c :: a, x, r, h => by
    by_cases hc : Sp.nameE c = 0
    · rw [Sp.namesE, if_neg (by simpa using hc)] at h
      rw [List.cons_append, Sp.namesE, if_neg (by simpa using hc)]
      exact names_snoc a x r h
    · rw [Sp.namesE, if_pos hc] at h
      exact absurd h hc
theorem names_more {l : List ByteArray} {k : Nat} {x : ByteArray} (hx : l[k]? = some x) (h : Sp.namesE ((l.map ofBs).take k) = 0) (hn : Sp.nameE (ofBs x) = 0) : Sp.namesE ((l.map ofBs).take (k + 1)) = 0 := by
  rw [List.take_add_one, List.getElem?_map, hx]
  show Sp.namesE ((l.map ofBs).take k ++ ofBs x :: []) = 0
  rw [names_snoc _ _ _ h, if_neg (by simpa using hn)]
  rfl
theorem names_bad {l : List ByteArray} {k : Nat} {x : ByteArray} (hx : l[k]? = some x) (h : Sp.namesE ((l.map ofBs).take k) = 0) (hn : Sp.nameE (ofBs x) ≠ 0) : Sp.namesE (l.map ofBs) = Sp.nameE (ofBs x) := by
  obtain ⟨hk, hx'⟩ := List.getElem?_eq_some_iff.1 hx
  have : l.map ofBs = (l.map ofBs).take k ++ ofBs x :: (l.map ofBs).drop (k + 1) := by
    rw [← hx']
    conv => lhs; rw [← List.take_append_drop k (l.map ofBs), List.drop_eq_getElem_cons (by rw [List.length_map]; exact hk)]
    simp
  rw [this, names_snoc _ _ _ h, if_pos hn]
theorem name_short {x : List UInt8} (h : Sp.nameE x = 0) : x.length ≤ 27 ∧ x ≠ [] := by
  unfold Sp.nameE at h
  split at h
  · cases h
  · rename_i h1
    split at h
    · cases h
    · exact ⟨by omega, fun e => h1 (.inl e)⟩
theorem names_all : ∀ {l : List (List UInt8)}, Sp.namesE l = 0 → ∀ x ∈ l, Sp.nameE x = 0
  | [], _, _, hx => by cases hx
  | c :: l, h, x, hx => by
    by_cases hc : Sp.nameE c = 0
    · rw [Sp.namesE, if_neg (by simpa using hc)] at h
      rcases List.mem_cons.1 hx with rfl | hx
      · exact hc
      · exact names_all h x hx
    · rw [Sp.namesE, if_pos hc] at h
      exact absurd h hc
theorem slashed_short : ∀ {l : List (List UInt8)}, (∀ x ∈ l, x.length ≤ 27) → (Sp.slashed l).length ≤ 28 * l.length
  | [], _ => by simp [Sp.slashed]
  | c :: l, h => by
    have h1 := h c (by simp)
    have h2 := slashed_short (l := l) (fun x hx => h x (List.mem_cons_of_mem _ hx))
    simp only [Sp.slashed, List.length_cons, List.length_append]
    omega
theorem slashed_join : ∀ (c : List UInt8) (l : List (List UInt8)), Sp.slashed (c :: l) = 47 :: Lib.join (c :: l) [47]
  | c, [] => by simp [Sp.slashed, Lib.join]
  | c, d :: l => by
    rw [Sp.slashed, slashed_join d l]
    simp [Lib.join, List.intercalate]
theorem join_short {l : List ByteArray} (h : Sp.namesE (l.map ofBs) = 0) (hl : l.length ≤ 8796093021952) : (Lib.join (l.map (·.data.toList)) (⟨#[47]⟩ : ByteArray).data.toList).length ≤ 281474976710656 := by
  have h1 := slashed_short (l := l.map ofBs) (fun x hx => (name_short (names_all h x hx)).1)
  rw [List.length_map] at h1
  show (Lib.join (l.map ofBs) [47]).length ≤ _
  cases hm : l.map ofBs with
  | nil => simp [Lib.join]
  | cons c r =>
    rw [hm, slashed_join] at h1
    simp only [List.length_cons] at h1
    omega
theorem join_long {l : List ByteArray} {J : List UInt8} (h : Sp.namesE (l.map ofBs) = 0) (hs : Sp.slashed (l.map ofBs) = 47 :: J) (hl : 16 < l.length ∨ 255 < 1 + J.length) : Sp.joinE (l.map ofBs) = ([], 26) := by
  unfold Sp.joinE
  rw [h, if_neg (by simp), if_pos]
  rw [List.length_map, hs, List.length_cons]
  omega
theorem join_good {l : List ByteArray} {J : List UInt8} (h : Sp.namesE (l.map ofBs) = 0) (hs : Sp.slashed (l.map ofBs) = 47 :: J) (h1 : l.length ≤ 16) (h2 : 1 + J.length ≤ 255) (hn : 0 < l.length) : Sp.joinE (l.map ofBs) = (47 :: J, 0) := by
  unfold Sp.joinE
  rw [h, if_neg (by simp), if_neg, if_neg, hs]
  · intro e
    have := congrArg List.length e
    rw [List.length_map] at this
    simp at this
    rw [this] at hn
    simp at hn
  · rw [List.length_map, hs, List.length_cons]
    omega
theorem join_bad {l : List (List UInt8)} {r : Int} (h : Sp.namesE l = r) (hr : r ≠ 0) : Sp.joinE l = ([], r) := by
  unfold Sp.joinE
  rw [h, if_pos hr]

set_option maxRecDepth 100000 in
set_option maxHeartbeats 1000000 in
theorem join_any (b o c : Nat) (l : List ByteArray) (hl : l.length ≤ 8796093021952) (hn : 0 < l.length) (hc : l.length ≤ c) (w : World) (hb : b < w.heap.size) (hcell : ∀ j x, l[j]? = some x → w.cell? ⟨b, o + j, none⟩ = some (.string x))
    (hsz : ∀ x ∈ l, x.size ≤ 140737488351232) :
    Calls Tryd.prog 17 #[.slice (some ⟨b, o, none⟩) l.length c] w fun e w' => e = .returned (.tuple #[.string (bsOf (Sp.joinE (l.map ofBs)).1), .int .i64 (Sp.joinE (l.map ofBs)).2]) ∧ Below w.heap.size w w' := by
  have HC := Lib.hid hcell
  clear hcell
  go_enter Tryd.func17, Tryd.ntmps17
  go_wp2_with fail
  go_loopw [10] (fun i wx => ∃ k : Nat, k ≤ l.length ∧ i = .int .i64 k ∧ Hid (Below w.heap.size w wx) ∧ Hid (Sp.namesE ((l.map ofBs).take k) = 0)) (fun i _ => l.length - (intOf i).toNat)
  case atStart => exact ⟨0, Nat.zero_le _, rfl, Lib.hid (Below.refl _ _), Lib.hid rfl⟩
  case round =>
    obtain ⟨k, hk, rfl, HB, HN⟩ := hrel
    by_cases hlt : k < l.length
    · obtain ⟨x, hx⟩ : ∃ x, l[k]? = some x := ⟨_, List.getElem?_eq_getElem hlt⟩
      have hxs := hsz x (List.mem_of_getElem? hx)
      have hcx : wr.cell? ⟨b, o + k, none⟩ = some (.string x) := (HB.out.cell (p := ⟨b, o + k, none⟩) hb).trans (HC.out k x hx)
      have HX := Lib.hid hx
      clear hx
      go_wp2_with (go_at_call 11; refine (name_any x hxs _).mono ?_; rintro e w2 ⟨rfl, hb2⟩; have HB2 := Lib.hid hb2; clear hb2)
      · have hne := name_ne (x := x) (by assumption)
        have hj := join_bad (names_bad HX.out HN.out hne) hne
        go_ret2
        rw [hj]
        exact ⟨rfl, HB.out.trans (HB2.out.mono HB.out.size)⟩
      · have heq := name_eq (x := x) (by assumption)
        go_roundw
        case rel => exact ⟨k + 1, by omega, by go_num, Lib.hid (HB.out.trans (HB2.out.mono HB.out.size)), Lib.hid (names_more HX.out HN.out heq)⟩
        case measure => simp [intOf]; omega
    · obtain rfl : k = l.length := by omega
      have hN : Sp.namesE (l.map ofBs) = 0 := by
        have := HN.out
        rwa [List.take_of_length_le (by rw [List.length_map]; exact Nat.le_refl _)] at this
      have HN2 := Lib.hid hN
      clear hN
      have hcells : ∀ (j : Nat) x, l[j]? = some x → wr.cell? ⟨b, o + j, none⟩ = some (.string x) := fun j x hj => (HB.out.cell (p := ⟨b, o + j, none⟩) hb).trans (HC.out j x hj)
      have hbr : b < wr.heap.size := Nat.lt_of_lt_of_le hb HB.out.size
      have hJ := Any.strings_Join_48 Tryd.lays156 Tryd.Builder_Extra_156 b o c l ⟨#[47]⟩ wr hcells hbr (by omega) hc (join_short HN2.out hl)
      clear hcells
      have hJl := join_short HN2.out hl
      obtain ⟨J, hJe⟩ : ∃ J, Lib.join (l.map (·.data.toList)) (⟨#[47]⟩ : ByteArray).data.toList = J := ⟨_, rfl⟩
      rw [hJe] at hJ hJl
      have hsl : Sp.slashed (l.map ofBs) = 47 :: J := by
        cases hm : l.map ofBs with
        | nil => rw [← List.length_map (f := ofBs), hm] at hn; simp at hn
        | cons c r => rw [slashed_join, ← hm]; exact congrArg (47 :: ·) hJe
      have HS := Lib.hid hsl
      have HJ := Lib.hid hJ
      clear hJ hJe hsl
      have hJ1 : ¬ 9223372036854775807 < 1 + J.length := by omega
      go_wp2_with (go_at_call 25; refine HJ.out.mono ?_; rintro e w2 ⟨rfl, hb2⟩; have HB2 := Lib.hid hb2; clear hb2)
      · have h1 : 16 < (l.length : Int) ∨ 255 < 1 + (J.length : Int) := by assumption
        have hj := join_long HN2.out HS.out (by omega)
        go_ret2
        rw [hj]
        exact ⟨rfl, HB.out.trans (HB2.out.mono HB.out.size)⟩
      · have h1 : (l.length : Int) ≤ 16 ∧ 1 + (J.length : Int) ≤ 255 := by assumption
        have hj := join_good HN2.out HS.out (by omega) (by omega) hn
        go_ret2
        rw [hj]
        exact ⟨rfl, HB.out.trans (HB2.out.mono HB.out.size)⟩
      · have h1 : 16 < (l.length : Int) := by assumption
        have hj := join_long HN2.out HS.out (by omega)
        go_ret2
        rw [hj]
        exact ⟨rfl, HB.out.trans (HB2.out.mono HB.out.size)⟩

set_option maxRecDepth 100000 in
set_option maxHeartbeats 1000000 in
theorem join_none (A : Option Addr) (c : Nat) (w : World) :
    Calls Tryd.prog 17 #[.slice A 0 c] w fun e w' => e = .returned (.tuple #[.string ⟨#[47]⟩, .int .i64 0]) ∧ Below w.heap.size w w' := by
  go_enter Tryd.func17, Tryd.ntmps17
  go_wp2_with fail
  go_loop [10] (fun i => i = .int .i64 0) (fun _ => 0)
  case atStart => rfl
  case round =>
    subst hrel
    go_wp2_with (go_at_call 25; refine (Tryd.strings_Join_none _ _ _ _).mono ?_; rintro e w2 ⟨rfl, hw⟩; rw [hw])
    go_ret2
    exact ⟨rfl, Below.refl _ _⟩

theorem path_Join.calls (k : Nat) (A0 : Option Addr) (c0 : Nat) (l0 : List ByteArray) (r1 : ByteArray) (r2 : Int) (w : World) (hr0 : Kd.C Kd.string w A0 l0.length l0) (hc0 : l0.length ≤ c0) (h : path_Join.f k l0 = some (r1, r2)) :
    Calls Tryd.prog 17 #[.slice A0 l0.length c0] w fun e w' => e = .returned (.tuple #[.string r1, .int .i64 r2]) ∧ Below w.heap.size w w' := by
  unfold path_Join.f at h
  split at h
  · rename_i hcond
    cases h
    by_cases hn : 0 < l0.length
    · obtain ⟨b, o, rfl, hb, hcell⟩ := cells_of hr0 hn
      exact join_any b o c0 l0 hcond.1 hn hc0 w hb hcell (fun x hx => by simpa using List.all_eq_true.1 hcond.2 x hx)
    · obtain rfl : l0 = [] := List.length_eq_zero_iff.1 (by omega)
      exact (join_none A0 c0 w).mono fun e w' hh => hh
  · cases h
end Go.Proofs.YtpnpbpgdclhbaaaDoor.PQ
