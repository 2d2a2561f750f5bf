/-
  The plain law, part 5: a path that was joined is split into the names it was joined of; what was split can be joined and is no longer than it was.
-/
import Derived.Test.YtpnpbpgdclhbaaaDoorL4
import Derived.Test.YtpnpbpgdclhbaaaDoorL3
namespace Go.Proofs.YtpnpbpgdclhbaaaDoor.PQ
open Go.RowKit Go.Proofs.YtpnpbpgdclhbaaaDoorW.PrintWords Go.Proofs.YtpnpbpgdclhbaaaDoorW.PrintLast

theorem pieces_clean : ∀ c : List UInt8, 47 ∉ c → Sp.pieces c = [c]
  | [], _ => rfl
  | a :: c, h => by
    have ih := pieces_clean c (fun hc => h (List.mem_cons_of_mem _ hc))
    have ha : a ≠ 47 := fun e => h (by rw [e]; exact List.mem_cons_self)
    unfold Sp.pieces at ih ⊢
    simp only [List.cons.injEq] at ih
    simp [Sp.cuts, ha, ih.1, ih.2]
theorem pieces_slashed : ∀ (c : List UInt8) (cs : List (List UInt8)), (∀ x ∈ c :: cs, 47 ∉ x) → Sp.pieces (c ++ Sp.slashed cs) = c :: cs
  | c, [], h => by rw [Sp.slashed, List.append_nil]; exact pieces_clean c (h c List.mem_cons_self)
  | c, d :: cs, h => by
    rw [Sp.slashed, pieces_app, pieces_slashed d cs (fun x hx => h x (List.mem_cons_of_mem _ hx)), pieces_clean c (h c List.mem_cons_self)]
    rfl
theorem slashed_pieces : ∀ l : List UInt8, Sp.slashed (Sp.pieces l) = 47 :: l
  | [] => rfl
  | a :: l => by
    have ih := slashed_pieces l
    unfold Sp.pieces at ih ⊢
    simp only [Sp.slashed, List.cons.injEq, true_and] at ih
    by_cases h : a = 47
    · subst h
      simp [Sp.cuts, Sp.slashed, ih]
    · simp [Sp.cuts, h, Sp.slashed, ih]
theorem name_noslash {x : List UInt8} (h : Sp.nameE x = 0) : 47 ∉ x := by
  intro hx
  unfold Sp.nameE at h
  rw [if_pos (.inr (.inr (.inr (.inl hx))))] at h
  exact absurd h (by decide)
theorem scan_all : ∀ (ns acc : List (List UInt8)), (∀ x ∈ ns, Sp.nameE x = 0) → acc.length + ns.length ≤ 16 → Sp.scan ns acc = (acc ++ ns, 0)
  | [], acc, _, _ => by simp [Sp.scan]
  | c :: ns, acc, h, hl => by
    have hc := h c List.mem_cons_self
    simp only [List.length_cons] at hl
    rw [Sp.scan, if_neg (name_short hc).2, if_neg (by simpa using hc), if_neg (by omega), scan_all ns (acc ++ [c]) (fun x hx => h x (List.mem_cons_of_mem _ hx)) (by simp; omega)]
    simp
theorem join_facts {ns : List (List UInt8)} (h : (Sp.joinE ns).2 = 0) : Sp.namesE ns = 0 ∧ ns.length ≤ 16 ∧ (Sp.slashed ns).length ≤ 255 ∧ (Sp.joinE ns).1 = if ns = [] then [47] else Sp.slashed ns := by
  unfold Sp.joinE at h ⊢
  by_cases h1 : Sp.namesE ns ≠ 0
  · rw [if_pos h1] at h
    exact absurd h h1
  · rw [if_neg h1] at h ⊢
    by_cases h2 : 16 < ns.length ∨ 255 < (Sp.slashed ns).length
    · rw [if_pos h2] at h
      exact absurd h (by decide)
    · rw [if_neg h2]
      exact ⟨by simpa using h1, by omega, by omega, rfl⟩
theorem split_join {ns : List (List UInt8)} (h : (Sp.joinE ns).2 = 0) : Sp.splitE (Sp.joinE ns).1 = (ns, 0) := by
  obtain ⟨h1, h2, h3, h4⟩ := join_facts h
  rw [h4]
  cases ns with
  | nil => rfl
  | cons c cs =>
    rw [if_neg (by simp)]
    have e : Sp.slashed (c :: cs) = 47 :: (c ++ Sp.slashed cs) := rfl
    unfold Sp.splitE
    rw [if_neg (by simp [e]), if_neg (by omega), e, show (47 :: (c ++ Sp.slashed cs) : List UInt8) = [] ++ 47 :: (c ++ Sp.slashed cs) from rfl, pieces_app,
      pieces_slashed c cs (fun x hx => name_noslash (names_all h1 x hx))]
    rw [show Sp.scan (Sp.pieces [] ++ c :: cs) [] = Sp.scan (c :: cs) [] by simp [Sp.pieces, Sp.cuts, Sp.scan]]
    exact scan_all (c :: cs) [] (fun x hx => names_all h1 x hx) (by simpa using h2)
theorem names_zero : ∀ (a : List (List UInt8)), (∀ x ∈ a, Sp.nameE x = 0) → Sp.namesE a = 0
  | [], _ => rfl
  | c :: a, h => by
    rw [Sp.namesE, if_neg (by simpa using h c List.mem_cons_self)]
    exact names_zero a (fun x hx => h x (List.mem_cons_of_mem _ hx))
theorem scan_good : ∀ (ps acc : List (List UInt8)), (Sp.scan ps acc).2 = 0 → (∀ x ∈ acc, Sp.nameE x = 0) →
    (∀ x ∈ (Sp.scan ps acc).1, Sp.nameE x = 0) ∧ (Sp.slashed (Sp.scan ps acc).1).length ≤ (Sp.slashed acc).length + (Sp.slashed ps).length
  | [], acc, _, ha => ⟨ha, by simp [Sp.scan]⟩
  | c :: ps, acc, h, ha => by
    unfold Sp.scan at h ⊢
    by_cases h0 : c = []
    · rw [if_pos h0] at h ⊢
      have := scan_good ps acc h ha
      refine ⟨this.1, Nat.le_trans this.2 ?_⟩
      simp only [Sp.slashed, List.length_cons, List.length_append]; omega
    · rw [if_neg h0] at h ⊢
      by_cases h1 : Sp.nameE c ≠ 0
      · rw [if_pos h1] at h
        exact absurd h h1
      · rw [if_neg h1] at h ⊢
        by_cases h2 : acc.length = 16
        · rw [if_pos h2] at h
          exact absurd h (by decide)
        · rw [if_neg h2] at h ⊢
          have := scan_good ps (acc ++ [c]) h (fun x hx => by
            rcases List.mem_append.1 hx with hx | hx
            · exact ha x hx
            · rw [List.mem_singleton.1 hx]; simpa using h1)
          refine ⟨this.1, Nat.le_trans this.2 ?_⟩
          rw [slashed_app, slashed_one]
          simp only [Sp.slashed, List.length_cons, List.length_append]; omega
theorem split_good {l : List UInt8} (h : (Sp.splitE l).2 = 0) : (Sp.joinE (Sp.splitE l).1).2 = 0 ∧ (Sp.joinE (Sp.splitE l).1).1.length ≤ l.length := by
  have hs := split_small l
  have key : l.head? = some 47 ∧ l.length ≤ 255 ∧ Sp.splitE l = Sp.scan (Sp.pieces l) [] := by
    by_cases h1 : l.head? ≠ some 47
    · unfold Sp.splitE at h
      rw [if_pos h1] at h
      exact absurd h (by decide)
    · by_cases h2 : 255 < l.length
      · unfold Sp.splitE at h
        rw [if_neg h1, if_pos h2] at h
        exact absurd h (by decide)
      · refine ⟨by simpa using h1, by omega, ?_⟩
        unfold Sp.splitE
        rw [if_neg h1, if_neg h2]
  obtain ⟨h1, h2, h3⟩ := key
  obtain ⟨r, rfl⟩ : ∃ r, l = 47 :: r := by
    cases l with
    | nil => simp at h1
    | cons c r => simp at h1; exact ⟨r, by rw [h1]⟩
  have h4 : Sp.splitE (47 :: r) = Sp.scan (Sp.pieces r) [] := by
    rw [h3]
    simp [Sp.pieces, Sp.cuts, Sp.scan]
  rw [h4] at h hs ⊢
  obtain ⟨g1, g2⟩ := scan_good (Sp.pieces r) [] h (by simp)
  rw [slashed_pieces] at g2
  simp only [Sp.slashed, List.length_nil, Nat.zero_add, List.length_cons] at g2 h2
  have hn := names_zero _ g1
  have e : Sp.joinE (Sp.scan (Sp.pieces r) []).1 = (if (Sp.scan (Sp.pieces r) []).1 = [] then [47] else Sp.slashed (Sp.scan (Sp.pieces r) []).1, 0) := by
    unfold Sp.joinE
    rw [if_neg (by simpa using hn), if_neg (by omega)]
  rw [e]
  refine ⟨rfl, ?_⟩
  by_cases h5 : (Sp.scan (Sp.pieces r) []).1 = []
  · rw [if_pos h5]; simp
  · rw [if_neg h5]; simpa using g2
end Go.Proofs.YtpnpbpgdclhbaaaDoor.PQ
