/-
  The plain law, part 1: what the printed functions come to: names, sameness, beginnings, and what must come of every program.
-/
import Derived.Test.YtpnpbpgdclhbaaaDoorPc
namespace Go.Proofs.YtpnpbpgdclhbaaaDoor.PQ
open Go.RowKit Go.Proofs.YtpnpbpgdclhbaaaDoorW.PrintWords Go.Proofs.YtpnpbpgdclhbaaaDoorW.PrintLast

theorem Ev.head {α : Type} {g : Nat → Option α} {r : α} (h : Ev (fun k => g (k + 1)) r) : Ev g r := Ev.step (f := fun k => g (k + 1)) (fun _ => rfl) h
theorem Ev.pos {α : Type} {f g : Nat → Option α} {r : α} {c : Prop} [Decidable c] (hc : c) (h : Ev f r) : Ev (fun k => if c then f k else g k) r := by
  simp only [if_pos hc]; exact h
theorem Ev.neg {α : Type} {f g : Nat → Option α} {r : α} {c : Prop} [Decidable c] (hc : ¬ c) (h : Ev g r) : Ev (fun k => if c then f k else g k) r := by
  simp only [if_neg hc]; exact h
theorem Ev.val {α : Type} {r q : α} (h : q = r) : Ev (fun _ => some q) r := by subst h; exact Ev.now _

theorem wrap_one {i : Int} (h0 : 0 ≤ i) (h : i < 9223372036854775807) : wrap64 (i + 1) = i + 1 := by unfold wrap64; omega

/-! ### Name -/
theorem bt_at (s : ByteArray) (n : Nat) (h : n < s.size) : ∃ x : UInt8, (ofBs s)[n]? = some x ∧ bt s n = x.toNat := by
  refine ⟨s[n]'h, getElem_ofBs s n h, ?_⟩
  unfold bt
  rw [dif_pos (by simpa using h)]
  rfl
theorem nameL (s : ByteArray) (hs : s.size ≤ 140737488351232) (h3 : ¬(ofBs s = [] ∨ ofBs s = [46] ∨ ofBs s = [46, 46])) : ∀ (d : Nat) (i : Nat), i + d = s.size → clean ((ofBs s).take i) →
    Ev (fun k => ashlarref14_Name.l0 k s i) (Sp.nameE (ofBs s)) := by
  intro d
  induction d with
  | zero =>
    intro i hi hc
    obtain rfl : i = s.size := by omega
    rw [List.take_of_length_le (by rw [size_ofBs]; exact Nat.le_refl _)] at hc
    refine Ev.head ?_
    simp only [ashlarref14_Name.l0]
    refine Ev.neg (by omega) ?_
    have : Sp.nameE (ofBs s) = if 27 < s.size then 26 else 0 := by
      unfold Sp.nameE
      rw [if_neg, size_ofBs]
      rintro (h | h | h | h | h)
      · exact h3 (.inl h)
      · exact h3 (.inr (.inl h))
      · exact h3 (.inr (.inr h))
      · exact hc.1 h
      · exact hc.2 h
    rw [this]
    by_cases h : 27 < s.size
    · exact Ev.pos (by omega) (Ev.val (by rw [if_pos h]))
    · exact Ev.neg (by omega) (Ev.val (by rw [if_neg h]))
  | succ d ih =>
    intro i hi hc
    have hlt : i < s.size := by omega
    obtain ⟨x, hx, hb⟩ := bt_at s i hlt
    refine Ev.head ?_
    simp only [ashlarref14_Name.l0, hb]
    refine Ev.pos (by omega) (Ev.pos (by omega) ?_)
    by_cases h0 : (x.toNat : Int) = 0
    · have : x = 0 := UInt8.toNat_inj.1 (by simpa using h0)
      subst this
      refine Ev.pos h0 (Ev.val ?_)
      unfold Sp.nameE
      rw [if_pos (.inr (.inr (.inr (.inr (List.mem_of_getElem? hx)))))]
    · refine Ev.neg h0 ?_
      by_cases h47 : (x.toNat : Int) = 47
      · have : x = 47 := UInt8.toNat_inj.1 (by simpa using (by omega : x.toNat = 47))
        subst this
        refine Ev.pos h47 (Ev.val ?_)
        unfold Sp.nameE
        rw [if_pos (.inr (.inr (.inr (.inl (List.mem_of_getElem? hx)))))]
      · rw [wrap_one (by omega) (by omega)]
        refine Ev.neg h47 (ih (i + 1) (by omega) (clean_succ hc hx ?_))
        simp only [List.contains_cons, List.contains_nil, Bool.or_false, Bool.or_eq_false_iff, beq_eq_false_iff_ne]
        exact ⟨fun e => h47 (by rw [e]; rfl), fun e => h0 (by rw [e]; rfl)⟩
theorem refName (s : ByteArray) (hs : s.size ≤ 140737488351232) : Ev (fun k => ashlarref14_Name.f k s) (Sp.nameE (ofBs s)) := by
  have bad : (ofBs s = [] ∨ ofBs s = [46] ∨ ofBs s = [46, 46]) → Ev (fun k => ashlarref14_Name.j0 k s true) (Sp.nameE (ofBs s)) := fun h => by
    refine Ev.head ?_
    simp only [ashlarref14_Name.j0]
    refine Ev.pos trivial (Ev.val ?_)
    unfold Sp.nameE
    rw [if_pos]
    rcases h with h | h | h
    · exact .inl h
    · exact .inr (.inl h)
    · exact .inr (.inr (.inl h))
  unfold ashlarref14_Name.f
  rw [toList_ofBs]
  by_cases h1 : ofBs s = []
  · exact Ev.pos h1 (bad (.inl h1))
  · refine Ev.neg h1 ?_
    by_cases h2 : ofBs s = [46]
    · exact Ev.pos h2 (bad (.inr (.inl h2)))
    · refine Ev.neg h2 ?_
      by_cases h3 : ofBs s = [46, 46]
      · rw [show (ofBs s == [46, 46]) = true by simp [h3]]
        exact bad (.inr (.inr h3))
      · rw [show (ofBs s == [46, 46]) = false by simp [h3]]
        refine Ev.head ?_
        simp only [ashlarref14_Name.j0]
        exact Ev.neg (by simp) (nameL s hs (by rintro (h | h | h) <;> contradiction) s.size 0 (by omega) (by simp [clean]))

/-! ### Same, Below -/
theorem toList_inj {a b : ByteArray} (h : a.toList = b.toList) : a = b := by
  rw [toList_ofBs, toList_ofBs] at h
  rw [← bsOf_ofBs a, ← bsOf_ofBs b, h]
theorem rdOf_at (l : List ByteArray) (i : Nat) (h : i < l.length) : rdOf ByteArray.empty l i = l[i] := by
  unfold rdOf
  simp [h]
theorem sameL (a b : List ByteArray) (hl : a.length = b.length) (hb : a.length < 9223372036854775807) : ∀ (d i : Nat), i + d = a.length → a.take i = b.take i →
    Ev (fun k => ashlarref14_Same.l0 k a b i) (decide (a = b)) := by
  intro d
  induction d with
  | zero =>
    intro i hi ht
    have hia : i = a.length := by omega
    rw [List.take_of_length_le (by omega), List.take_of_length_le (by omega)] at ht
    refine Ev.head ?_
    simp only [ashlarref14_Same.l0]
    exact Ev.neg (by omega) (Ev.val (decide_eq_true ht).symm)
  | succ d ih =>
    intro i hi ht
    refine Ev.head ?_
    have h1 : i < a.length := by omega
    have h2 : i < b.length := by omega
    simp only [ashlarref14_Same.l0, rdOf_at a i h1, rdOf_at b i h2]
    refine Ev.pos (by omega) (Ev.pos (by omega) (Ev.pos (by omega) ?_))
    by_cases he : a[i] = b[i]
    · rw [wrap_one (by omega) (by omega)]
      refine Ev.pos (by rw [he]) (ih (i + 1) (by omega) ?_)
      rw [List.take_add_one, List.take_add_one, ht, List.getElem?_eq_getElem h1, List.getElem?_eq_getElem h2, he]
    · exact Ev.neg (fun h => he (toList_inj h)) (Ev.val (decide_eq_false (fun h => he (by subst h; rfl))).symm)
theorem refSame (a b : List ByteArray) (hb : a.length < 9223372036854775807) : Ev (fun k => ashlarref14_Same.f k a b) (decide (a = b)) := by
  unfold ashlarref14_Same.f
  by_cases hl : a.length = b.length
  · exact Ev.pos (by omega) (sameL a b hl hb a.length 0 (by omega) rfl)
  · exact Ev.neg (by omega) (Ev.val (decide_eq_false (fun h => hl (by rw [h]))).symm)
theorem belowL (a b : List ByteArray) (hl : a.length ≤ b.length) (hb : b.length < 9223372036854775807) : ∀ (d i : Nat), i + d = a.length → a.take i = b.take i →
    Ev (fun k => path_Below.l0 k b a a.length i) (decide (a <+: b)) := by
  intro d
  induction d with
  | zero =>
    intro i hi ht
    have hia : i = a.length := by omega
    rw [List.take_of_length_le (by omega), hia] at ht
    refine Ev.head ?_
    simp only [path_Below.l0]
    exact Ev.neg (by omega) (Ev.val (decide_eq_true (List.prefix_iff_eq_take.2 ht)).symm)
  | succ d ih =>
    intro i hi ht
    refine Ev.head ?_
    have h1 : i < a.length := by omega
    have h2 : i < b.length := by omega
    simp only [path_Below.l0, rdOf_at a i h1, rdOf_at b i h2]
    refine Ev.pos (by omega) (Ev.pos (by omega) (Ev.pos (by omega) (Ev.pos (by omega) ?_)))
    by_cases he : b[i] = a[i]
    · rw [wrap_one (by omega) (by omega)]
      refine Ev.pos (by rw [he]) (ih (i + 1) (by omega) ?_)
      rw [List.take_add_one, List.take_add_one, ht, List.getElem?_eq_getElem h1, List.getElem?_eq_getElem h2, he]
    · refine Ev.neg (fun h => he (toList_inj h)) (Ev.val (decide_eq_false (fun h => he ?_)).symm)
      obtain ⟨t, rfl⟩ := h
      rw [List.getElem_append_left h1]
theorem progBelow (a b : List ByteArray) (hb : b.length < 9223372036854775807) : Ev (fun k => path_Below.f k a b) (decide (a <+: b)) := by
  unfold path_Below.f
  by_cases hl : a.length ≤ b.length
  · exact Ev.neg (by omega) (belowL a b hl hb a.length 0 (by omega) rfl)
  · exact Ev.pos (by omega) (Ev.val (decide_eq_false (fun h => hl h.length_le)).symm)

/-! ### The program's own -/
theorem progName (s : ByteArray) (hs : s.size ≤ 140737488351232) : Ev (fun k => path_Name.f k s) (Sp.nameE (ofBs s)) := by
  unfold path_Name.f
  exact Ev.pos hs (Ev.now _)
theorem progSplit (s : ByteArray) (hs : s.size ≤ 140737488351232) : Ev (fun k => path_Split.f k s) ((Sp.splitE (ofBs s)).1.map bsOf, (Sp.splitE (ofBs s)).2) := by
  unfold path_Split.f
  exact Ev.pos hs (Ev.now _)
theorem progParent (s : ByteArray) (hs : s.size ≤ 140737488351232) : Ev (fun k => path_Parent.f k s) ((parentE (ofBs s)).1.map bsOf, bsOf (parentE (ofBs s)).2.1, (parentE (ofBs s)).2.2) := by
  unfold path_Parent.f
  exact Ev.pos hs (Ev.now _)
theorem progJoin (l : List ByteArray) (hl : l.length ≤ 8796093021952) (hs : ∀ x ∈ l, x.size ≤ 140737488351232) : Ev (fun k => path_Join.f k l) (bsOf (Sp.joinE (l.map ofBs)).1, (Sp.joinE (l.map ofBs)).2) := by
  unfold path_Join.f
  exact Ev.pos ⟨hl, List.all_eq_true.2 fun x hx => decide_eq_true (hs x hx)⟩ (Ev.now _)

/-! ### lives -/
theorem lives_ev : Ev (fun k => ashlarlaw14_lives.f k) true := by
  refine Ev.of ashlarlaw14_lives.mono (k := 20) ?_
  decide +kernel

theorem pathNames_pure : ashlarlaw14_PathNames.Pure := by
  intro s hs
  refine Ev.rounds ?_
  unfold ashlarlaw14_PathNames.f
  refine Ev.bind lives_ev ?_
  refine Ev.pos rfl (Ev.bind (progName s hs) (Ev.bind (refName s hs) (Ev.val (beq_self_eq_true _))))
end Go.Proofs.YtpnpbpgdclhbaaaDoor.PQ
