/-
  A map of up to 60 things, and the row in which the law keeps which of them it took.
-/
import Derived.Test.YteaacjabcfopgaaGreatHl
namespace Go.Proofs.YteaacjabcfopgaaGreat.Run
open Go Go.Proofs.YteaacjabcfopgaaGreat.Am Go.Proofs.YteaacjabcfopgaaGreat.Am.G Go.RowKit Go.Proofs Go.Proofs.YteaacjabcfopgaaGreat.PQ
set_option maxRecDepth 100000
noncomputable section
theorem one_at {α : Type} (x : α) : ∀ (f k : Nat), k + 1 < 2 ^ f → (T.one f k (some x)).get k = some x
  | 0, k, h => by
    have : (2 : Nat) ^ 0 = 1 := rfl
    omega
  | f + 1, k, h => by
    rw [T.one_succ]
    have hp : 2 ^ (f + 1) = 2 ^ f * 2 := Nat.pow_succ 2 f
    by_cases h0 : k = 0
    · rw [if_pos h0, T.get_n, if_pos h0]
    · rw [if_neg h0]
      by_cases h1 : k % 2 = 1
      · rw [if_pos h1, T.get_n, if_neg h0, if_pos h1]
        exact one_at x f (k / 2) (by omega)
      · rw [if_neg h1, T.get_n, if_neg h0, if_neg h1]
        exact one_at x f (k / 2 - 1) (by omega)
theorem one_ne {α : Type} (x : Option α) : ∀ (f k j : Nat), j ≠ k → (T.one f k x).get j = none
  | 0, k, j, _ => by rw [T.one_zero]; exact T.get_e j
  | f + 1, k, j, h => by
    rw [T.one_succ]
    by_cases h0 : k = 0
    · rw [if_pos h0, T.get_n, if_neg (by omega)]
      split <;> exact T.get_e _
    · rw [if_neg h0]
      by_cases h1 : k % 2 = 1
      · rw [if_pos h1, T.get_n]
        by_cases j0 : j = 0
        · rw [if_pos j0]
        · rw [if_neg j0]
          by_cases j1 : j % 2 = 1
          · rw [if_pos j1]; exact one_ne x f (k / 2) (j / 2) (by omega)
          · rw [if_neg j1]; exact T.get_e _
      · rw [if_neg h1, T.get_n]
        by_cases j0 : j = 0
        · rw [if_pos j0]
        · rw [if_neg j0]
          by_cases j1 : j % 2 = 1
          · rw [if_pos j1]; exact T.get_e _
          · rw [if_neg j1]; exact one_ne x f (k / 2 - 1) (j / 2 - 1) (by omega)
theorem put_at {α : Type} (x : α) : ∀ (t : T α) (k : Nat), k < 1099511627775 → (t.put k x).get k = some x
  | .e, k, h => by
    show (T.set .e k (some x)).get k = _
    rw [T.set_e]
    exact one_at x 40 k (by have : (2 : Nat) ^ 40 = 1099511627776 := by decide
                            omega)
  | .n l v r, k, h => by
    show (T.set (.n l v r) k (some x)).get k = _
    rw [T.set_n]
    by_cases h0 : k = 0
    · rw [if_pos h0, T.get_n, if_pos h0]
    · rw [if_neg h0]
      by_cases h1 : k % 2 = 1
      · rw [if_pos h1, T.get_n, if_neg h0, if_pos h1]
        exact put_at x l (k / 2) (by omega)
      · rw [if_neg h1, T.get_n, if_neg h0, if_neg h1]
        exact put_at x r (k / 2 - 1) (by omega)
theorem put_ne {α : Type} (x : α) : ∀ (t : T α) (k j : Nat), j ≠ k → (t.put k x).get j = t.get j
  | .e, k, j, h => by
    show (T.set .e k (some x)).get j = _
    rw [T.set_e, one_ne _ _ _ _ h, T.get_e]
  | .n l v r, k, j, h => by
    show (T.set (.n l v r) k (some x)).get j = _
    rw [T.set_n]
    by_cases h0 : k = 0
    · have hj : ¬ j = 0 := by omega
      rw [if_pos h0, T.get_n, T.get_n, if_neg hj, if_neg hj]
    · rw [if_neg h0]
      by_cases h1 : k % 2 = 1
      · rw [if_pos h1, T.get_n, T.get_n]
        by_cases j0 : j = 0
        · rw [if_pos j0, if_pos j0]
        · rw [if_neg j0, if_neg j0]
          by_cases j1 : j % 2 = 1
          · rw [if_pos j1, if_pos j1]; exact put_ne x l (k / 2) (j / 2) (by omega)
          · rw [if_neg j1, if_neg j1]
      · rw [if_neg h1, T.get_n, T.get_n]
        by_cases j0 : j = 0
        · rw [if_pos j0, if_pos j0]
        · rw [if_neg j0, if_neg j0]
          by_cases j1 : j % 2 = 1
          · rw [if_pos j1, if_pos j1]
          · rw [if_neg j1, if_neg j1]; exact put_ne x r (k / 2 - 1) (j / 2 - 1) (by omega)
theorem from_low {α : Type} : ∀ (l : List α) (i : Nat) (t : T α) (k : Nat), k < i → (T.ofListFrom i l t).get k = t.get k
  | [], _, _, _, _ => rfl
  | x :: l, i, t, k, h => by
    show (T.ofListFrom (Nat.succ i) l (t.put i x)).get k = _
    rw [from_low l (Nat.succ i) (t.put i x) k (by omega), put_ne x t i k (by omega)]
theorem from_get {α : Type} : ∀ (l : List α) (i : Nat) (t : T α) (m : Nat) (y : α), i + l.length ≤ 1099511627775 → l[m]? = some y → (T.ofListFrom i l t).get (i + m) = some y
  | [], _, _, _, _, _, h => by simp at h
  | x :: l, i, t, 0, y, hl, h => by
    show (T.ofListFrom (Nat.succ i) l (t.put i x)).get i = _
    rw [from_low l (Nat.succ i) (t.put i x) i (by omega), put_at x t i (by simp only [List.length_cons] at hl; omega)]
    simpa using h
  | x :: l, i, t, m + 1, y, hl, h => by
    show (T.ofListFrom (Nat.succ i) l (t.put i x)).get (i + (m + 1)) = _
    have e : i + (m + 1) = Nat.succ i + m := by omega
    rw [e]
    exact from_get l (Nat.succ i) (t.put i x) m y (by simp only [List.length_cons] at hl; omega) (by simpa using h)
theorem ofList_at {α : Type} {l : List α} {k : Nat} {y : α} (hl : l.length ≤ 1099511627775) (h : l[k]? = some y) : (T.ofList l).get k = some y := by
  have := from_get l 0 .e k y (by omega) h
  rwa [Nat.zero_add] at this
/-- A row of bools. -/
def btOf (k : Nat) (t : Nat → Bool) : Blk := .cells k (T.ofList ((List.range k).map fun j => .bool (t j))) false
theorem bt_get {k : Nat} {t : Nat → Bool} {i : Nat} {av : AV} (h : (T.ofList ((List.range k).map fun j => AV.bool (t j))).get i = some av) : i < k ∧ av = .bool (t i) := by
  have h' := T.get_ofList h
  rw [List.getElem?_map, Option.map_eq_some_iff] at h'
  obtain ⟨j, h1, h2⟩ := h'
  obtain ⟨h3, h4⟩ := List.getElem?_eq_some_iff.1 h1
  have h5 : i < k := by simpa using h3
  have h6 : j = i := by rw [← h4]; simp
  subst h6
  exact ⟨h5, h2.symm⟩
theorem okBt (n k : Nat) (t : Nat → Bool) : OkB n (btOf k t) := .cells fun i av g => by rw [(bt_get g).2]; rfl
theorem bt_rb {φ : Phi} {b k : Nat} : RB φ ⟨b, 0, k⟩ (btOf k fun _ => false) (.cells (Array.replicate k (.bool false)) 4) := by
  refine ⟨_, _, 0, 0, rfl, by simp, by simp, fun i hi => by omega, fun _ => rfl, fun i av hg hi => ?_⟩
  obtain ⟨h1, rfl⟩ := bt_get hg
  exact ⟨.bool false, by simp [h1], .bool _, rfl⟩
/-- What stands in the row. -/
def RowAt (w0 : World) (Φ : Phi) (h : H) (tb k : Nat) (t : Nat → Bool) : Prop := ∀ w, At w0 Φ h w → (∀ j, j < k → w.cell? ⟨tb, j, none⟩ = some (.bool (t j))) ∧ (∀ j, j < k → w.frozen? ⟨tb, j, none⟩ = false) ∧ tb < w.heap.size ∧ w0.heap.size ≤ tb
theorem rowAt_of {w0 : World} {Φ : Phi} {h : H} {id tb k : Nat} {t : Nat → Bool} (hk : k ≤ 4096) (hg : h.h.get id = some (btOf k t)) (hM : Φ id = some ⟨tb, 0, k⟩) : RowAt w0 Φ h tb k t := by
  intro w hA
  obtain ⟨φ, hle, hR⟩ := hA
  obtain ⟨o, h1, a, e, lo, hi, rfl, h2, h3, h4, h5, h6⟩ := hR.blk id _ _ hg (hle _ _ hM)
  have hat : ∀ j, j < k → (T.ofList ((List.range k).map fun j => AV.bool (t j))).get j = some (.bool (t j)) := fun j hj => ofList_at (by simp; omega) (by rw [List.getElem?_map, List.getElem?_range (by simpa using hj)]; rfl)
  have h1' : w.heap[tb]? = some (.cells a e (lo, hi)) := h1
  refine ⟨fun j hj => ?_, fun j hj => ?_, (hR.own _ _ (hle _ _ hM)).2, (hR.own _ _ (hle _ _ hM)).1⟩
  · obtain ⟨v, x, y, z⟩ := h6 j _ (hat j hj) hj
    cases y
    unfold World.cell?
    simp only [h1']
    have : (⟨tb, 0, k⟩ : PB).sh + j = j := Nat.zero_add j
    rw [this] at x
    exact x
  · have := h4 j hj
    unfold World.frozen?
    simp only [h1']
    simp
    omega
theorem At.setBool {w0 : World} {Φ : Phi} {h h' : H} {w : World} {id tb k n : Nat} {t : Nat → Bool} (hk : k ≤ 4096) (hA : At w0 Φ h w) (hg : h.h.get id = some (btOf k t)) (hM : Φ id = some ⟨tb, 0, k⟩) (hn : n < k) (b : Bool) (hh : h.upd id (btOf k (updT t n b)) = h') : At w0 Φ h' (w.setCell ⟨tb, n, none⟩ (.bool b)) := by
  obtain ⟨φ, hle, hR⟩ := hA
  have hp := hle _ _ hM
  obtain ⟨o, h1, a, e, lo, hi, rfl, h2, h3, h4, h5, h6⟩ := hR.blk id _ _ hg hp
  have hs := set_at h1 n (.bool b)
  have ead : (⟨tb, 0, k⟩ : PB).addr n = ⟨tb, n, none⟩ := by unfold PB.addr; simp
  rw [ead] at hs
  rw [← hh]
  refine ⟨φ, hle, hR.upd hg hp (One.set w ⟨tb, n, none⟩ (.bool b)) hs ⟨_, e, lo, hi, rfl, by simpa using h2, h3, h4, h5, fun i av hget hi' => ?_⟩⟩
  obtain ⟨h7, rfl⟩ := bt_get hget
  have hat : (T.ofList ((List.range k).map fun j => AV.bool (t j))).get i = some (.bool (t i)) := ofList_at (by simp; omega) (by rw [List.getElem?_map, List.getElem?_range (by simpa using h7)]; rfl)
  obtain ⟨v, x, y, z⟩ := h6 i _ hat hi'
  have e0 : ∀ q, (⟨tb, 0, k⟩ : PB).sh + q = q := fun q => Nat.zero_add q
  have h2' : a.size = k := h2
  rw [e0] at x ⊢
  rw [e0]
  unfold updT
  by_cases hin : i = n
  · subst hin
    rw [if_pos rfl]
    exact ⟨.bool b, by rw [Array.getElem?_setIfInBounds_self_of_lt (by omega)], .bool _, rfl⟩
  · rw [if_neg hin]
    exact ⟨v, by rw [Array.getElem?_setIfInBounds_ne (by omega)]; exact x, y, z⟩
end
end Go.Proofs.YteaacjabcfopgaaGreat.Run
