/-
  The plain law: the statement PathBelow, over what is computed.
-/
import Derived.Test.YtpnpbpgdclhbaaaDoorL1
import Derived.Test.YtpnpbpgdclhbaaaDoorPh
namespace Go.Proofs.YtpnpbpgdclhbaaaDoor.PQ
open Go.RowKit Go.Proofs.YtpnpbpgdclhbaaaDoorW.PrintWords Go.Proofs.YtpnpbpgdclhbaaaDoorW.PrintLast

theorem below_both {a b : List ByteArray} (h : a <+: b) : (decide (b <+: a) != decide (a = b)) = false := by
  by_cases e : a = b
  · subst e
    rw [decide_eq_true h, decide_eq_true rfl]; rfl
  · rw [decide_eq_false e, decide_eq_false]
    · rfl
    · intro h2
      exact e (h.eq_of_length (Nat.le_antisymm h.length_le h2.length_le))
theorem belowJ1 (a b c : List ByteArray) (ha : a.length ≤ 8796093021952) (hb : b.length ≤ 8796093021952) (hc : c.length ≤ 8796093021952) : Ev (fun k => ashlarlaw14_PathBelow.j1 k a b c false) true := by
  refine Ev.head ?_
  simp only [ashlarlaw14_PathBelow.j1]
  refine Ev.neg (by simp) (Ev.bind (progBelow a b (by omega)) ?_)
  by_cases h1 : a <+: b
  · refine Ev.pos (decide_eq_true h1) (Ev.bind (progBelow b c (by omega)) ?_)
    by_cases h2 : b <+: c
    · refine Ev.pos (decide_eq_true h2) (Ev.bind (progBelow a c (by omega)) (Ev.val (decide_eq_true (h1.trans h2))))
    · exact Ev.neg (by simpa using h2) (Ev.val rfl)
  · exact Ev.neg (by simpa using h1) (Ev.val rfl)
theorem pathBelow_pure (a b c : List ByteArray) (ha : a.length ≤ 8796093021952) (hb : b.length ≤ 8796093021952) (hc : c.length ≤ 8796093021952) : ∃ k, ashlarlaw14_PathBelow.f k a b c = some true := by
  refine Ev.rounds ?_
  unfold ashlarlaw14_PathBelow.f
  refine Ev.bind lives_ev (Ev.pos rfl (Ev.bind (progBelow [] a (by omega)) (Ev.pos (decide_eq_true List.nil_prefix) (Ev.bind (progBelow a a (by omega)) ?_))))
  rw [decide_eq_true (List.prefix_refl a)]
  refine Ev.head ?_
  simp only [ashlarlaw14_PathBelow.j0]
  refine Ev.neg (by simp) (Ev.bind (progBelow a b (by omega)) ?_)
  by_cases h1 : a <+: b
  · refine Ev.pos (decide_eq_true h1) (Ev.bind (progBelow b a (by omega)) (Ev.bind (refSame a b (by omega)) ?_))
    rw [below_both h1]
    exact belowJ1 a b c ha hb hc
  · exact Ev.neg (by simpa using h1) (belowJ1 a b c ha hb hc)
end Go.Proofs.YtpnpbpgdclhbaaaDoor.PQ
