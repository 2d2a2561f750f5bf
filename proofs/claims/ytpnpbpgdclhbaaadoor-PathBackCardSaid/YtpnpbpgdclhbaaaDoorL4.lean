/-
  The plain law, part 4: the reference's Join comes to the path of names; and the statement PathJoins, over what is computed.
-/
import Derived.Test.YtpnpbpgdclhbaaaDoorL2
import Derived.Test.YtpnpbpgdclhbaaaDoorPe
namespace Go.Proofs.YtpnpbpgdclhbaaaDoor.PQ
open Go.RowKit Go.Proofs.YtpnpbpgdclhbaaaDoorW.PrintWords Go.Proofs.YtpnpbpgdclhbaaaDoorW.PrintLast

theorem slashed_app : ∀ a b : List (List UInt8), Sp.slashed (a ++ b) = Sp.slashed a ++ Sp.slashed b
  | [], _ => rfl
  | c :: a, b => by simp [Sp.slashed, slashed_app a b]
theorem slashed_one (c : List UInt8) : Sp.slashed [c] = 47 :: c := by simp [Sp.slashed]
theorem slashed_take (l : List ByteArray) (i : Nat) (h : i < l.length) : Sp.slashed ((l.map ofBs).take (i + 1)) = Sp.slashed ((l.map ofBs).take i) ++ 47 :: ofBs l[i] := by
  rw [List.take_add_one, List.getElem?_map, List.getElem?_eq_getElem h, slashed_app]
  exact congrArg _ (slashed_one _)
theorem names_take_short {l : List ByteArray} {i : Nat} (h : Sp.namesE ((l.map ofBs).take i) = 0) : (Sp.slashed ((l.map ofBs).take i)).length ≤ 28 * i := by
  have h1 := slashed_short (l := (l.map ofBs).take i) (fun x hx => (name_short (names_all h x hx)).1)
  rw [List.length_take] at h1
  omega

/-- The second loop: the path is laid. -/
theorem joinL1 (l : List ByteArray) (hl : l.length ≤ 16) (hn : Sp.namesE (l.map ofBs) = 0) : ∀ (d i : Nat), i + d = l.length →
    Ev (fun k => ashlarref14_Join.l1 k l (bsOf (Sp.slashed ((l.map ofBs).take i))) i) (bsOf (Sp.slashed (l.map ofBs)), 0) := by
  intro d
  induction d with
  | zero =>
    intro i hi
    refine Ev.head ?_
    simp only [ashlarref14_Join.l1]
    refine Ev.neg (by omega) (Ev.val ?_)
    rw [List.take_of_length_le (by rw [List.length_map]; omega)]
  | succ d ih =>
    intro i hi
    have hlt : i < l.length := by omega
    have hb := slashed_short (l := l.map ofBs) (fun x hx => (name_short (names_all hn x hx)).1)
    rw [List.length_map] at hb
    have e := slashed_take l i hlt
    have hle : (Sp.slashed ((l.map ofBs).take (i + 1))).length ≤ (Sp.slashed (l.map ofBs)).length := by
      have := slashed_app ((l.map ofBs).take (i + 1)) ((l.map ofBs).drop (i + 1))
      rw [List.take_append_drop] at this
      rw [this, List.length_append]
      omega
    have el := congrArg List.length e
    rw [List.length_append, List.length_cons, size_ofBs] at el
    refine Ev.head ?_
    have hz : (⟨#[47]⟩ : ByteArray).size = 1 := rfl
    simp only [ashlarref14_Join.l1, rdOf_at l i hlt]
    rw [wrap_one (by omega) (by omega)]
    refine Ev.pos (by omega) (Ev.pos (by rw [size_bsOf]; omega) (Ev.pos (by omega) (Ev.pos (by rw [ByteArray.size_append, size_bsOf, hz]; omega) ?_)))
    rw [show (bsOf (Sp.slashed ((l.map ofBs).take i)) ++ (⟨#[47]⟩ : ByteArray)) ++ l[i] = bsOf (Sp.slashed ((l.map ofBs).take (i + 1))) by
      rw [e, ← bsOf_ofBs ((bsOf (Sp.slashed ((l.map ofBs).take i)) ++ (⟨#[47]⟩ : ByteArray)) ++ l[i]), ofBs_app, ofBs_app, ofBs_bsOf]
      simp [ofBs]]
    exact ih (i + 1) (by omega)
theorem joinL (l : List ByteArray) (hl : l.length ≤ 8796093021952) (hs : ∀ x ∈ l, x.size ≤ 140737488351232) : ∀ (d i : Nat), i + d = l.length → Sp.namesE ((l.map ofBs).take i) = 0 →
    Ev (fun k => ashlarref14_Join.l0 k l (((l.length - i : Nat) : Int) + ((Sp.slashed ((l.map ofBs).take i)).length : Int)) i) (bsOf (Sp.joinE (l.map ofBs)).1, (Sp.joinE (l.map ofBs)).2) := by
  intro d
  induction d with
  | zero =>
    intro i hi hn
    have ht : (l.map ofBs).take i = l.map ofBs := List.take_of_length_le (by rw [List.length_map]; omega)
    rw [ht] at hn ⊢
    have ej : Sp.joinE (l.map ofBs) = if 16 < l.length ∨ 255 < (Sp.slashed (l.map ofBs)).length then ([], 26) else (if l.map ofBs = [] then [47] else Sp.slashed (l.map ofBs), 0) := by
      unfold Sp.joinE
      rw [hn, if_neg (by simp), List.length_map]
    refine Ev.head ?_
    simp only [ashlarref14_Join.l0]
    refine Ev.neg (by omega) ?_
    by_cases h1 : 16 < l.length
    · refine Ev.pos (by omega) (Ev.head ?_)
      simp only [ashlarref14_Join.j1]
      rw [ej, if_pos (.inl h1)]
      exact Ev.pos trivial (Ev.val rfl)
    · refine Ev.neg (by omega) (Ev.head ?_)
      simp only [ashlarref14_Join.j1]
      by_cases h2 : 255 < (Sp.slashed (l.map ofBs)).length
      · rw [ej, if_pos (.inr h2)]
        exact Ev.pos (decide_eq_true (by omega)) (Ev.val rfl)
      · rw [ej, if_neg (by omega)]
        refine Ev.neg (by rw [decide_eq_true_eq]; omega) ?_
        by_cases h3 : l = []
        · subst h3
          exact Ev.pos rfl (Ev.val rfl)
        · have := List.length_pos_iff.2 h3
          refine Ev.neg (by omega) ?_
          rw [if_neg (by simpa using h3)]
          exact joinL1 l (by omega) hn l.length 0 (by omega)
  | succ d ih =>
    intro i hi hn
    have hlt : i < l.length := by omega
    refine Ev.head ?_
    simp only [ashlarref14_Join.l0, rdOf_at l i hlt]
    refine Ev.pos (by omega) (Ev.pos (by omega) (Ev.bind (refName l[i] (hs _ (List.getElem_mem hlt))) ?_))
    by_cases h : Sp.nameE (ofBs l[i]) = 0
    · refine Ev.pos h ?_
      have hn' := names_more (List.getElem?_eq_getElem hlt) hn h
      have hb := names_take_short hn'
      have el := congrArg List.length (slashed_take l i hlt)
      rw [List.length_append, List.length_cons, size_ofBs] at el
      rw [wrap_one (by omega) (by omega)]
      have : wrap64 ((((l.length - i : Nat) : Int) + ((Sp.slashed ((l.map ofBs).take i)).length : Int)) + (l[i].size : Int)) = ((l.length - (i + 1) : Nat) : Int) + ((Sp.slashed ((l.map ofBs).take (i + 1))).length : Int) := by
        unfold wrap64; omega
      rw [this]
      exact ih (i + 1) (by omega) hn'
    · refine Ev.neg h (Ev.val ?_)
      rw [join_bad (names_bad (List.getElem?_eq_getElem hlt) hn h) h]
      rfl
theorem refJoin (l : List ByteArray) (hl : l.length ≤ 8796093021952) (hs : ∀ x ∈ l, x.size ≤ 140737488351232) : Ev (fun k => ashlarref14_Join.f k l) (bsOf (Sp.joinE (l.map ofBs)).1, (Sp.joinE (l.map ofBs)).2) := by
  unfold ashlarref14_Join.f
  have := joinL l hl hs l.length 0 (by omega) rfl
  simpa [Sp.slashed] using this
theorem refBelow (a b : List ByteArray) (hb : b.length < 9223372036854775807) : Ev (fun k => ashlarref14_Below.f k a b) (decide (a <+: b)) := by
  unfold ashlarref14_Below.f
  by_cases hl : a.length ≤ b.length
  · refine Ev.pos hl ?_
    rw [show decide (a <+: b) = decide (a = b.take a.length) from decide_eq_decide.2 List.prefix_iff_eq_take]
    exact refSame _ _ (by omega)
  · exact Ev.neg hl (Ev.val (decide_eq_false (fun h => hl h.length_le)).symm)
theorem pathJoins_pure (l m : List ByteArray) (hl : l.length ≤ 8796093021952) (hs : ∀ x ∈ l, x.size ≤ 140737488351232) : ∃ k, ashlarlaw14_PathJoins.f k l m = some true := by
  refine Ev.rounds ?_
  unfold ashlarlaw14_PathJoins.f
  simp only [Option.bind_some, List.nil_append, List.length_nil, Nat.zero_add]
  refine Ev.pos (by omega) (Ev.bind (progJoin l hl hs) (Ev.bind (refJoin l hl hs) (Ev.bind lives_ev (Ev.pos rfl (Ev.pos rfl (Ev.pos rfl ?_))))))
  refine Ev.bind (progBelow m l (by omega)) (Ev.bind (refBelow m l (by omega)) (Ev.pos (beq_self_eq_true _) (Ev.bind (refSame l l (by omega)) (Ev.val (decide_eq_true rfl)))))
end Go.Proofs.YtpnpbpgdclhbaaaDoor.PQ
