/-
  The contract of path.Name at any text: it returns what the plain function nameE says; condition: the text takes at most 140737488351232 bytes.
-/
import Derived.Test.YtpnpbpgdclhbaaaDoorT2
namespace Go.Proofs.YtpnpbpgdclhbaaaDoor.PQ
open Go.RowKit
theorem indexAny_any (s : ByteArray) (hs : s.size ≤ 140737488351232) (w : World) :
    Calls Tryd.prog 26 #[.string s, .string ⟨#[47, 0]⟩] w fun e w' => ∃ z : Int, e = .returned (.int .i64 z) ∧ (0 ≤ z ↔ (47 ∈ ofBs s ∨ 0 ∈ ofBs s)) ∧ Below w.heap.size w w' := by
  by_cases h : 8 < s.size
  · exact indexAny_long s h hs w
  · exact indexAny_short s (by omega) w

/-- Does a text hold one of the two bytes? -/
def badB (s : ByteArray) : Bool := decide (47 ∈ ofBs s ∨ 0 ∈ ofBs s)
theorem containsAny_any (s : ByteArray) (hs : s.size ≤ 140737488351232) (w : World) :
    Calls Tryd.prog 21 #[.string s, .string ⟨#[47, 0]⟩] w fun e w' => e = .returned (.bool (badB s)) ∧ Below w.heap.size w w' := by
  go_enter Tryd.func21, Tryd.ntmps21
  go_wp2_with (go_at_call 26; refine (indexAny_any _ hs _).mono ?_; rintro e w2 ⟨z, rfl, hz, hb⟩; have Hz := Lib.hid hz; have Hb := Lib.hid hb; clear hz hb)
  go_ret
  refine ⟨?_, Hb.out⟩
  have : badB s = decide (0 ≤ z) := by
    unfold badB
    rw [Bool.eq_iff_iff]
    simp only [decide_eq_true_eq]
    exact Hz.out.symm
  rw [this]
  rfl

theorem toList_ofBs (s : ByteArray) : s.toList = ofBs s := Lib.toList_data s

theorem ret_name {s : ByteArray} {l : List UInt8} {r : Int} (hl : s.toList = l) (h : Sp.nameE l = r) : Ending.returned (.int .i64 r) = Ending.returned (.int .i64 (Sp.nameE (ofBs s))) := by
  rw [← toList_ofBs, hl, h]
theorem ret_bad {s : ByteArray} (h : ((s.toList.isEmpty = true ∨ (s.toList == [46]) = true) ∨ (s.toList == [46, 46]) = true) ∨ badB s = true) : Ending.returned (.int .i64 25) = Ending.returned (.int .i64 (Sp.nameE (ofBs s))) := by
  have : Sp.nameE (ofBs s) = 25 := by
    unfold Sp.nameE
    rw [if_pos]
    rw [toList_ofBs] at h
    rcases h with ((h | h) | h) | h
    · exact .inl (List.isEmpty_iff.1 h)
    · exact .inr (.inl (by simpa using h))
    · exact .inr (.inr (.inl (by simpa using h)))
    · exact .inr (.inr (.inr (by simpa [badB] using h)))
  rw [this]
theorem ret_good {s : ByteArray} {r : Int} (h : ((s.toList.isEmpty = false ∧ (s.toList == [46]) = false) ∧ (s.toList == [46, 46]) = false) ∧ badB s = false)
    (hr : r = if 27 < s.size then 26 else 0) : Ending.returned (.int .i64 r) = Ending.returned (.int .i64 (Sp.nameE (ofBs s))) := by
  have : Sp.nameE (ofBs s) = r := by
    unfold Sp.nameE
    rw [toList_ofBs] at h
    obtain ⟨⟨⟨h1, h2⟩, h3⟩, h4⟩ := h
    rw [if_neg, size_ofBs, hr]
    rintro (h | h | h)
    · rw [h] at h1; cases h1
    · rw [h] at h2; exact absurd h2 (by decide)
    · rcases h with h | h
      · rw [h] at h3; exact absurd h3 (by decide)
      · simp [badB] at h4
        exact h.elim h4.1 h4.2
  rw [this]

set_option maxRecDepth 100000 in
theorem name_any (s : ByteArray) (hs : s.size ≤ 140737488351232) (w : World) :
    Calls Tryd.prog 11 #[.string s] w fun e w' => e = .returned (.int .i64 (Sp.nameE (ofBs s))) ∧ Below w.heap.size w w' := by
  go_enter Tryd.func11, Tryd.ntmps11
  go_wp2_with (go_at_call 21; refine (containsAny_any _ hs _).mono ?_; rintro e w2 ⟨rfl, hb⟩; have Hb := Lib.hid hb; clear hb)
  · go_ret
    exact ⟨ret_name (by assumption) rfl, Below.refl _ _⟩
  · go_ret
    exact ⟨ret_name (by assumption) rfl, Below.refl _ _⟩
  · go_ret
    exact ⟨ret_name (by assumption) rfl, Below.refl _ _⟩
  · go_ret
    exact ⟨ret_bad (by assumption), Hb.out⟩
  · have h27 : (27 : Int) < (s.size : Int) := by assumption
    go_ret
    exact ⟨ret_good (by assumption) (by rw [if_pos (by omega)]), Hb.out⟩
  · have h27 : (s.size : Int) ≤ 27 := by assumption
    go_ret
    exact ⟨ret_good (by assumption) (by rw [if_neg (by omega)]), Hb.out⟩
end Go.Proofs.YtpnpbpgdclhbaaaDoor.PQ
