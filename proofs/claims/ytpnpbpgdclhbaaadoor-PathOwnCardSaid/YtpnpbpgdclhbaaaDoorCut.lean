/-
  Pieces of a text between slashes, by the place of the first slash.
-/
import Derived.Test.YtpnpbpgdclhbaaaDoorSpec
import Derived.Lib.Bytealg
namespace Go.Proofs.YtpnpbpgdclhbaaaDoor.Sp

theorem index_none : ∀ l : List UInt8, 47 ∉ l → Lib.indexByte l 47 = -1 ∧ pieces l = [l]
  | [], _ => ⟨rfl, rfl⟩
  | b :: l, h => by
    have hb : b ≠ 47 := fun e => h (by simp [e])
    have hl : 47 ∉ l := fun e => h (by simp [e])
    obtain ⟨h1, h2⟩ := index_none l hl
    refine ⟨?_, ?_⟩
    · simp only [Lib.indexByte]
      rw [if_neg (by simpa using hb), h1]
      rfl
    · simp only [pieces, cuts, hb, if_false] at *
      simp only [List.cons.injEq] at h2
      rw [h2.1, h2.2]

theorem index_some : ∀ l : List UInt8, 47 ∈ l → ∃ i : Nat, Lib.indexByte l 47 = i ∧ i < l.length ∧ pieces l = l.take i :: pieces (l.drop (i + 1))
  | [], h => by cases h
  | b :: l, h => by
    by_cases hb : b = 47
    · subst hb
      exact ⟨0, rfl, by simp, rfl⟩
    · have hl : 47 ∈ l := by
        rcases List.mem_cons.1 h with e | e
        · exact absurd e.symm hb
        · exact e
      obtain ⟨i, h1, h2, h3⟩ := index_some l hl
      refine ⟨i + 1, ?_, by simp; omega, ?_⟩
      · simp only [Lib.indexByte]
        rw [if_neg (by simpa using hb), h1, if_neg (by simp)]
        rfl
      · simp only [pieces, cuts, hb, if_false, List.take_succ_cons, List.drop_succ_cons] at *
        simp only [List.cons.injEq] at h3
        rw [h3.1, h3.2]
end Go.Proofs.YtpnpbpgdclhbaaaDoor.Sp
