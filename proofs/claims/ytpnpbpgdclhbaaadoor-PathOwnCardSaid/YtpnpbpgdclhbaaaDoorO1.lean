/-
  A slice of strings among a law's arguments, opened as one list of strings that is read. Conditions: the argument's bulk is within what memory can be.
-/
import Derived.Test.YtpnpbpgdclhbaaaDoorL3
import Derived.SliceStrings
import Derived.WalkKit
import Derived.ProofKit
import Derived.OpenShut
import Derived.ChangeOld
import Derived.Below
import Derived.SizedLaws
import Derived.Carry
namespace Go.Proofs.YtpnpbpgdclhbaaaDoor.PQ
open Go.ChangeShapes Go.WideShapes Go.ChangeAt Go.RowKit
open Go.Proofs.YtpnpbpgdclhbaaaDoorW.PrintWords

theorem under26 : Tryd.prog.underlying 26 = some (.slice 9) := by kernel_rfl
theorem under9 : Tryd.prog.underlying 9 = some .string := by kernel_rfl
theorem cells9 : Tryd.prog.cellsOf 9 = 1 := by kernel_rfl
theorem bytes9 : Tryd.prog.bytesOf 9 = 16 := by kernel_rfl

theorem laidOut : laidOutB Tryd.prog = true := by kernel_rfl
theorem weights_all {H : Type} {P : Program} {e : TypeId} : ∀ {l : List (DataW H)} {d : DataW H}, d ∈ l → ∀ n ∈ d.weights P e, n ∈ DataW.weightsAll P e l
  | _ :: _, _, hd, n, hn => by
    simp only [DataW.weightsAll, List.mem_append]
    rcases List.mem_cons.1 hd with rfl | hd
    · exact Or.inl hn
    · exact Or.inr (weights_all hd n hn)

theorem open_names {H : Type} {enc : TypeId × Value → H} {W : World} {v : Value} {d : DataW H} {p : List MemPlace}
    (hok : Value.okWide Tryd.prog W .any 0 26 v) (h : DataW.Trod enc Tryd.prog W 0 (fun _ => true) true 26 v d p)
    (hw : ∀ n ∈ d.weights Tryd.prog 26, n ≤ reachBytes) :
    ∃ (A : Option Addr) (cap : Nat) (l : List ByteArray), v = .slice A l.length cap ∧ l.length ≤ cap ∧ Kd.C Kd.string W A l.length l ∧ l.length ≤ 8796093021952 ∧ (∀ s ∈ l, s.size ≤ 140737488351232) := by
  obtain ⟨a0, len, cap, rfl⟩ := okWide_slice under26 hok
  obtain ⟨fuel, hf⟩ := h
  rcases open_strings under26 under9 cells9 hf with ⟨hcs, hx⟩ | ⟨a, len', cap', ss, hcs, _, hl, hm, hz, hx, hcell, hws⟩
  · simp [Value.cells] at hcs
    obtain ⟨rfl, rfl, rfl⟩ := hcs
    exact ⟨none, 0, [], rfl, Nat.le_refl _, ⟨rfl, by simp, fun h => absurd h (by simp)⟩, by simp, by simp⟩
  · simp [Value.cells] at hcs
    obtain ⟨rfl, rfl, rfl⟩ := hcs
    simp only [Prod.mk.injEq] at hx
    obtain ⟨rfl, _⟩ := hx
    have hlen : (ss.take len).length = len := by
      rw [List.length_take]
      have : len ≤ ss.length := by rw [hz]; split <;> omega
      omega
    have hle : len ≤ ss.length := by rw [List.length_take] at hlen; omega
    have hbig : len ≤ 8796093021952 := by
      have := hw (((strs (H := H) (ss.take len)).length + (strs (H := H) (ss.drop len)).length) * Tryd.prog.bytesOf 9) (by simp [DataW.weights])
      rw [bytes9] at this
      simp only [strs, List.length_map, hlen] at this
      have hr : reachBytes < 2 ^ 47 := reachBytes_lt
      have he : reachBytes = 140737488351232 := by decide
      omega
    refine ⟨some a, cap, ss.take len, by rw [hlen], by rw [hlen]; exact hl, ⟨rfl, by rw [hlen]; omega, fun _ => ⟨a, rfl, fun j s hs => ?_⟩⟩, by rw [hlen]; exact hbig, fun s hs => ?_⟩
    · have hj : j < len := by
        have := (List.getElem?_eq_some_iff.1 hs).1
        rw [hlen] at this
        exact this
      have hj' : ss[j]? = some s := by rw [List.getElem?_take_of_lt hj] at hs; exact hs
      refine ⟨[.string s], rfl, rfl, fun i u hu => ?_⟩
      cases i with
      | succ i => simp at hu
      | zero =>
        obtain rfl : Value.string s = u := by simpa using hu
        have := hcell j (by omega)
        rw [List.getD_eq_getElem?_getD, hj'] at this
        simpa [Kd.string, Kd.scalar] using this
    · have := hw s.data.toList.length (by
        simp only [DataW.weights, under26, List.mem_cons, List.mem_append]
        refine .inr (.inl (weights_all (d := .lit (.string s.data.toList)) (List.mem_map.2 ⟨s, hs, rfl⟩) _ ?_))
        simp [DataW.weights])
      rw [Array.length_toList] at this
      have he : reachBytes = 140737488351232 := by decide
      rw [he] at this
      exact this
end Go.Proofs.YtpnpbpgdclhbaaaDoor.PQ
