/-
  What a name is, done at once, is what path.Name answers.
-/
import Derived.Test.YtiigjiaodmlfnaaGreatDoorNm
import Derived.Test.YtiigjiaodmlfnaaGreatDoorOc
set_option linter.unusedVariables false
set_option linter.unusedSimpArgs false
namespace Go.Proofs.YtiigjiaodmlfnaaGreatDoor.PQ
open Go Go.RowKit Go.Proofs
def path_Name.f (_k : Nat) (a0 : ByteArray) : Option Int := if a0.size ≤ 140737488351232 then some (Sp.nameE (ofBs a0)) else none
theorem path_Name.calls (k : Nat) (a0 : ByteArray) (r : Int) (w : World) (h : path_Name.f k a0 = some r) :
    Calls Tryz.prog 155 #[.string a0] w fun e w' => e = .returned (.int .i64 r) ∧ Below w.heap.size w w' := by
  unfold path_Name.f at h
  split at h
  · cases h
    exact name_any a0 (by assumption) w
  · cases h
end Go.Proofs.YtiigjiaodmlfnaaGreatDoor.PQ
namespace Go.Proofs.YtiigjiaodmlfnaaGreatDoor.Run
open Go Go.Proofs.YtiigjiaodmlfnaaGreatDoor.Am Go.RowKit Go.Proofs Go.Proofs.YtiigjiaodmlfnaaGreatDoor.PQ
theorem u8_beqn (x : UInt8) (c : Nat) (hc : c < 256) : Nat.beq x.toNat c = (x == UInt8.ofNat c) := by
  by_cases h : x = UInt8.ofNat c
  · subst h
    have : (UInt8.ofNat c).toNat = c := by rw [UInt8.toNat_ofNat']; exact Nat.mod_eq_of_lt hc
    rw [this]
    simp
  · have h1 : (x == UInt8.ofNat c) = false := by simpa using h
    rw [h1]
    cases e : Nat.beq x.toNat c with
    | false => rfl
    | true =>
      have e2 := Nat.eq_of_beq_eq_true e
      exact absurd (UInt8.toNat_inj.1 (by rw [UInt8.toNat_ofNat', Nat.mod_eq_of_lt hc]; exact e2)) h
theorem hasL_ok (c : Nat) (hc : c < 256) : ∀ l : List UInt8, hasL (l.map UInt8.toNat) c = decide (UInt8.ofNat c ∈ l)
  | [] => rfl
  | x :: l => by
    show cond (Nat.beq x.toNat c) true (hasL (l.map UInt8.toNat) c) = _
    rw [u8_beqn x c hc, hasL_ok c hc l]
    by_cases h : x = UInt8.ofNat c
    · subst h; simp
    · have h1 : (x == UInt8.ofNat c) = false := by simpa using h
      rw [h1]
      have h2 : ¬ UInt8.ofNat c = x := fun e => h e.symm
      simp [h2]
theorem beqs (a b : List UInt8) : beqL (a.map UInt8.toNat) (b.map UInt8.toNat) = decide (a = b) := by
  rw [beqL_ok]
  by_cases h : a = b
  · subst h; simp
  · have : (a == b) = false := by simpa using h
    rw [this, decide_eq_false h]
theorem nameC_ok (l : List UInt8) : ((nameC (l.map UInt8.toNat) : Nat) : Int) = Sp.nameE l := by
  unfold nameC nameBad Sp.nameE
  have e0 := beqs l []
  have e1 := beqs l [46]
  have e2 := beqs l [46, 46]
  have e3 := hasL_ok 47 (by decide) l
  have e4 := hasL_ok 0 (by decide) l
  have f1 : ([46] : List UInt8).map UInt8.toNat = [46] := by decide
  have f2 : ([46, 46] : List UInt8).map UInt8.toNat = [46, 46] := by decide
  rw [List.map_nil] at e0
  rw [f1] at e1
  rw [f2] at e2
  have g3 : UInt8.ofNat 47 = 47 := by decide
  have g4 : UInt8.ofNat 0 = 0 := by decide
  rw [g3] at e3
  rw [g4] at e4
  rw [e0, e1, e2, e3, e4, List.length_map]
  by_cases h : l = [] ∨ l = [46] ∨ l = [46, 46] ∨ 47 ∈ l ∨ 0 ∈ l
  · rw [if_pos h]
    have : (decide (l = []) || (decide (l = [46]) || (decide (l = [46, 46]) || (decide (47 ∈ l) || decide (0 ∈ l))))) = true := by simpa using h
    rw [this]
    rfl
  · rw [if_neg h]
    have : (decide (l = []) || (decide (l = [46]) || (decide (l = [46, 46]) || (decide (47 ∈ l) || decide (0 ∈ l))))) = false := by simpa using h
    rw [this, cond_false]
    by_cases hl : l.length ≤ 27
    · rw [Nat.ble_eq_true_of_le hl, if_neg (by omega)]
      rfl
    · have : Nat.ble l.length 27 = false := by
        cases e : Nat.ble l.length 27 with
        | false => rfl
        | true => exact absurd (Nat.le_of_ble_eq_true e) hl
      rw [this, if_pos (by omega)]
      rfl
theorem name_ok : OrcOk Tryz.prog 155 oName := by
  intro w0 φ h h' w args args' v hR ha ho
  unfold oName at ho
  split at ho
  · rename_i s
    cases ha with
    | cons h1 h2 =>
    cases h2
    cases h1 with
    | str b =>
    cases hc : Nat.ble (b.data.toList.map UInt8.toNat).length 1048576 with
    | false => rw [hc] at ho; cases ho
    | true =>
      rw [hc] at ho
      cases ho
      have hl := Nat.le_of_ble_eq_true hc
      rw [List.length_map, Array.length_toList] at hl
      have hsz : b.size ≤ 140737488351232 := by
        have : b.data.size = b.size := rfl
        omega
      have hcall := path_Name.calls 0 b (Sp.nameE (ofBs b)) w (by unfold path_Name.f; rw [if_pos hsz])
      refine hcall.mono fun e w' hh => ?_
      obtain ⟨rfl, hb⟩ := hh
      refine ⟨φ, _, Phi.le_refl φ, rfl, hR.below hb, ?_⟩
      have := nameC_ok b.data.toList
      have e : Sp.nameE (ofBs b) = Int.ofNat (nameC (b.data.toList.map UInt8.toNat)) := this.symm
      rw [e]
      exact .int _ _
  · cases ho
theorem idx_ok (l : List UInt8) (c : UInt8) : Lib.indexByte l c = idxL (l.map UInt8.toNat) c.toNat := by
  induction l with
  | nil => rfl
  | cons b l ih =>
    show (if b == c then (0 : Int) else if Lib.indexByte l c == -1 then -1 else Lib.indexByte l c + 1) = cond (Nat.beq b.toNat c.toNat) 0 (upI (idxL (l.map UInt8.toNat) c.toNat))
    have h1 : Nat.beq b.toNat c.toNat = (b == c) := by
      have := u8_beqn b c.toNat c.toNat_lt
      rwa [UInt8.ofNat_toNat] at this
    rw [h1, ← ih]
    cases b == c with
    | true => rfl
    | false =>
      have hge := Lib.indexByte_ge l c
      generalize Lib.indexByte l c = z at hge
      show (if (z == -1) = true then (-1 : Int) else z + 1) = upI z
      by_cases hz : z = -1
      · subst hz; rfl
      · obtain ⟨n, rfl⟩ : ∃ n : Nat, z = (n : Int) := ⟨z.toNat, by omega⟩
        have : (((n : Int) == -1) = true) = False := by simp
        simp only [this, if_false]
        rfl
theorem index_ok : OrcOk Tryz.prog 323 oIdx := by
  intro w0 φ h h' w args args' v hR ha ho
  unfold oIdx at ho
  split at ho
  · rename_i s c
    cases ha with
    | cons h1 h2 =>
    cases h2 with
    | cons h2 h3 =>
    cases h3
    cases h2
    cases h1 with
    | str b =>
    cases hc : Nat.blt c 256 with
    | false => rw [hc] at ho; cases ho
    | true =>
      rw [hc] at ho
      cases ho
      have hl : c < 256 := Nat.le_of_ble_eq_true hc
      refine (Tryz.stringslite_IndexByte b (Int.ofNat c) w).mono fun e w' hh => ?_
      obtain ⟨rfl, rfl⟩ := hh
      refine ⟨φ, _, Phi.le_refl φ, rfl, hR, ?_⟩
      have e : (Int.ofNat c).toNat.toUInt8.toNat = c := by
        show (UInt8.ofNat c).toNat = c
        rw [UInt8.toNat_ofNat']; exact Nat.mod_eq_of_lt hl
      rw [idx_ok, e]
      exact .int _ _
  · cases ho
end Go.Proofs.YtiigjiaodmlfnaaGreatDoor.Run
