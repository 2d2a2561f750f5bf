/-
  What is done at once is what the calls do: the sum of octets, their numbers, their difference.
-/
import Derived.Test.YteaacjabcfopgaaGreatA4
import Derived.Test.YteaacjabcfopgaaGreatCrc
import Derived.Test.YteaacjabcfopgaaGreatOct
set_option linter.unusedVariables false
set_option linter.unusedSimpArgs false
namespace Go.Proofs.YteaacjabcfopgaaGreat.Run
open Go Go.Proofs.YteaacjabcfopgaaGreat.Am Go.RowKit Go.Proofs Go.Proofs.YteaacjabcfopgaaGreat.PQ Go.Proofs.YteaacjabcfopgaaGreatW.PrintWords
theorem crcZ_eq (s : Int) (l : List Int) : crcZ s l = Go.Proofs.YteaacjabcfopgaaGreat.Am.crcZ s l := rfl
theorem ands {a b : Bool} (h : (a && b) = true) : a = true ∧ b = true := by simpa using h
theorem crc_ok : OrcOk Tryz.prog 95 oCrc := by
  intro w0 φ h h' w args args' v hR ha ho
  unfold oCrc at ho
  split at ho
  · rename_i s b
    cases ha with
    | cons h1 h2 =>
    cases h1
    cases h2 with
    | cons h2 h3 =>
    cases h3
    unfold crcO at ho
    split at ho
    · rename_i s
      split at ho
      · rename_i l hl
        cases hc : (Nat.ble s 0xffffffff && Nat.ble l.length 1048576) with
        | false => rw [hc] at ho; cases ho
        | true =>
          rw [hc] at ho
          cases ho
          obtain ⟨c1, c2⟩ := ands hc
          have c1 := Nat.le_of_ble_eq_true c1
          have c2 := Nat.le_of_ble_eq_true c2
          obtain ⟨A0, c0, rfl, e1, e2, e3⟩ := bytesS_ok hR h2 hl
          have hlen : (l.map Int.ofNat).length = l.length := by simp
          have := crc_calls (Int.ofNat s) A0 c0 (l.map Int.ofNat) w (fun i hi => e3 i (by simpa using hi)) (by rw [hlen]; exact Nat.le_trans c2 (by decide))
          rw [hlen] at this
          refine this.mono fun e w' hh => ?_
          obtain ⟨rfl, hb⟩ := hh
          refine ⟨φ, _, Phi.le_refl φ, rfl, hR.below hb, ?_⟩
          rw [crcZ_eq]
          have := crcF_ok s l (by omega) e2
          have h2 : Go.Proofs.YteaacjabcfopgaaGreat.Am.crcZ (Int.ofNat s) (l.map Int.ofNat) = ((crcF s l : Nat) : Int) := this
          rw [h2]
          exact .int _ _
      · cases ho
    · cases ho
  · cases ho
theorem bc_at : ∀ (l : List Nat) (i : Nat) (av : AV), (byteCells l)[i]? = some av → ∃ x, l[i]? = some x ∧ av = .int .u8 (Int.ofNat x)
  | [], _, _, h => by cases h
  | y :: _, 0, _, h => ⟨y, rfl, (Option.some.inj h).symm⟩
  | _ :: l, i + 1, av, h => bc_at l i av h
theorem row_ok {w0 : Base} {φ : Phi} {h : H} {w w' : World} {l : List Nat} {v : Value} (hR : RH w0 φ h w) (hb : Below w.heap.size w w') (hl : 1 ≤ l.length)
    (hv : Kd.R (Kd.int .u8) 5 w' w.heap.size (fun _ => True) v (l.map Int.ofNat)) : ∃ ψ, φ.le ψ ∧ RH w0 ψ (mkRow h l).2 w' ∧ RV ψ (mkRow h l).1 v := by
  obtain ⟨_, inner, ⟨h1, h2⟩, h3, h4⟩ := hv
  rcases h2 with ⟨rfl, h2⟩ | ⟨g, cap, cur, rfl, hg, hh, hn, hmax, hcs, htk⟩
  · have h2' : (l.map Int.ofNat).length = 0 := h2
    rw [List.length_map] at h2'
    omega
  · have hsz1 : (Kd.int IntKind.u8).sz = 1 := rfl
    rw [hsz1] at h1 h3 hcs htk
    simp only [List.length_map, Nat.mul_one] at h1 h3 hn hcs htk
    have hlt : g < w'.heap.size := (Array.getElem?_eq_some_iff.1 hh).1
    have hle : φ.le (φ.add h.next ⟨g, 0, cap⟩) := Phi.le_add hR.none_at
    have old : ∀ id, id ≠ h.next → (φ.add h.next ⟨g, 0, cap⟩) id = φ id := fun id hi => by unfold Phi.add; rw [if_neg hi]
    have hRb := hR.below hb
    refine ⟨φ.add h.next ⟨g, 0, cap⟩, hle, ⟨?_, ?_, ?_, ?_, hRb.bel, fun id hi => ⟨by rw [old _ (Nat.ne_of_lt (hR.rsv id hi).2)]; exact (hR.rsv id hi).1, Nat.lt_succ_of_lt (hR.rsv id hi).2⟩, Phi.le_trans hR.up hle⟩, ?_⟩
    · intro id b1 q hg1 hq
      rcases T.get_put hg1 with ⟨rfl, rfl⟩ | ⟨hne, hg1⟩
      · rw [Phi.add_at] at hq
        cases hq
        refine ⟨_, hh, cur, 5, 0, 0, rfl, hcs, by show 0 + l.length ≤ cap; omega, fun i _ => by omega, fun _ => by omega, fun i av e hi => ?_⟩
        have e1 := T.get_ofList e
        have e2 : ∃ x, l[i]? = some x ∧ av = .int .u8 (Int.ofNat x) := by
          exact bc_at l i av e1
        obtain ⟨x, e3, rfl⟩ := e2
        have e4 := h4 i (Int.ofNat x) (by rw [List.getElem?_map, e3]; rfl)
        have e5 : (inner.drop (i * 1)).take 1 = [Value.int .u8 (Int.ofNat x)] := e4
        have e6 : inner[i]? = some (Value.int .u8 (Int.ofNat x)) := by
          have := congrArg (fun l => l[0]?) e5
          simpa using this
        have hil : i < inner.length := (List.getElem?_eq_some_iff.1 e6).1
        have e7 : cur[i]? = some (Value.int .u8 (Int.ofNat x)) := by
          rw [← e6, ← htk, List.getElem?_take, ← Array.getElem?_toList]
          rw [if_pos (by omega)]
        refine ⟨_, by show cur[0 + i]? = _; rw [Nat.zero_add]; exact e7, .int _ _, rfl⟩
      · rw [old _ hne] at hq
        obtain ⟨o', h2, h3⟩ := hRb.blk id b1 q hg1 hq
        exact ⟨o', h2, h3.mono hle⟩
    · intro id id' b1 b2 p1 p2 g1 g2 e1 e2 hbk
      rcases T.get_put g1 with ⟨rfl, rfl⟩ | ⟨hne, g1⟩
      · rcases T.get_put g2 with ⟨rfl, rfl⟩ | ⟨hne2, g2⟩
        · rfl
        · rw [Phi.add_at] at e1
          rw [old _ hne2] at e2
          cases e1
          have := (hR.own _ _ e2).2
          simp only at hbk
          omega
      · rw [old _ hne] at e1
        rcases T.get_put g2 with ⟨rfl, rfl⟩ | ⟨hne2, g2⟩
        · rw [Phi.add_at] at e2
          cases e2
          have := (hR.own _ _ e1).2
          simp only at hbk
          omega
        · rw [old _ hne2] at e2
          exact hR.inj _ _ _ _ _ _ g1 g2 e1 e2 hbk
    · intro id q e
      by_cases hi : id = h.next
      · subst hi
        rw [Phi.add_at] at e
        cases e
        exact ⟨Nat.le_trans hR.bel.size hg, hlt⟩
      · rw [old _ hi] at e
        exact hRb.own _ _ e
    · intro id hid
      have hid' : h.next + 1 ≤ id := hid
      have := hR.fresh id (by omega)
      refine ⟨by rw [old _ (by omega)]; exact this.1, ?_⟩
      show (h.h.put h.next _).get id = none
      cases e : (h.h.put h.next (.cells l.length (T.ofList (byteCells l)) false)).get id with
      | none => rfl
      | some y =>
        rcases T.get_put e with ⟨rfl, _⟩ | ⟨_, g⟩
        · omega
        · rw [this.2] at g; cases g
    · show RV _ (.slice h.next 0 l.length (.own 1)) _
      have : (l.map Int.ofNat).length = l.length := by simp
      rw [this]
      exact .slice (p := ⟨g, 0, cap⟩) (Phi.add_at _ _ _) hn (by show 0 + 0 + cap * 1 = cap; omega)
end Go.Proofs.YteaacjabcfopgaaGreat.Run
