/-
  Calls behind which a block is numbered anew, and lists of blocks that are wanted on.
-/
import Derived.Test.YteaacjabcfopgaaGreatHg
import Derived.KernelRfl
set_option linter.unusedVariables false
set_option linter.unusedSimpArgs false
namespace Go.Proofs.YteaacjabcfopgaaGreat.Run
open Go Go.Proofs.YteaacjabcfopgaaGreat.Am Go.Proofs.YteaacjabcfopgaaGreat.Am.G Go.RowKit Go.Proofs Go.Proofs.YteaacjabcfopgaaGreat.PQ
set_option maxRecDepth 100000
noncomputable section
def AllP {α : Type} (P : α → Prop) : List α → Prop
  | [] => True
  | a :: l => P a ∧ AllP P l
theorem AllP.mem {α : Type} {P : α → Prop} : ∀ {l : List α}, AllP P l → ∀ a, a ∈ l → P a
  | _ :: _, h, a, ha => by
    rcases List.mem_cons.1 ha with rfl | ha
    · exact h.1
    · exact h.2.mem a ha
theorem pairs_mem {l : List (Nat × Blk)} {i : Nat} {b : Blk} (h : (ofPairs l).get i = some b) : (i, b) ∈ l := by
  rcases get_pairT h with h | h
  · exact h
  · rw [T.get_e] at h; cases h
def Subs (h1 : H) (n : Nat) (l : List (Nat × Blk)) : Prop := AllP (fun q => h1.h.get q.1 = some q.2 ∧ Nat.blt q.1 n = true ∧ OkB n q.2) l
theorem Subs.sub {h1 : H} {n : Nat} {l : List (Nat × Blk)} (h : Subs h1 n l) : ∀ i b, (ofPairs l).get i = some b → h1.h.get i = some b ∧ i < n ∧ OkB n b := fun i b g => by
  obtain ⟨x, y, z⟩ := AllP.mem h _ (pairs_mem g)
  exact ⟨x, Nat.le_of_ble_eq_true y, z⟩
structure Moves (h1 : H) (m i j c : Nat) (T2 : T AV) (B : Blk) (h' : H) : Prop where
  src : h1.h.get i = some B
  okB : OkB m B
  cell : ∃ n T1 ish, h1.h.get c = some (.cells n T1 ish) ∧ h'.h.get c = some (.cells n T2 ish) ∧ ∀ k av, T2.get k = some av → (T1.get k = some av ∧ okV 9 m av = true) ∨ ∃ o l cap, av = .slice j o l cap ∧ T1.get k = some (.slice i o l cap)
  rest : ∀ id b, h'.h.get id = some b → id < h'.next ∧ (id = c ∨ (id = j ∧ b = B) ∨ (id ≠ j ∧ h1.h.get id = some b ∧ OkB m b))
  lt : c < m ∧ m ≤ j ∧ j < h'.next ∧ h'.next ≤ i
def Phi.mv (ψ : Phi) (nx i j : Nat) : Phi := fun id => if id = j then ψ i else ψ.to nx id
theorem RH.move {w0 : World} {φ0 ψ : Phi} {h1 h' : H} {w : World} {m i j c : Nat} {T2 : T AV} {B : Blk} (hR : RH ⟨⟨w0, φ0⟩, []⟩ ψ h1 w) (hm : Moves h1 m i j c T2 B h') (hj0 : φ0 j = none) (h0 : ∀ id, h'.next ≤ id → φ0 id = none) :
    RH ⟨⟨w0, φ0⟩, []⟩ (Phi.mv ψ h'.next i j) h' w := by
  obtain ⟨src, okB, ⟨n, T1, ish, c1, c2, hT⟩, rest, l1, l2, l3, l4⟩ := hm
  have hj : Phi.mv ψ h'.next i j j = ψ i := by unfold Phi.mv; rw [if_pos rfl]
  have hlow : ∀ id, id ≠ j → id < h'.next → Phi.mv ψ h'.next i j id = ψ id := fun id hn h => by unfold Phi.mv; rw [if_neg hn, Phi.to_at h]
  have hle : (ψ.to m).le (Phi.mv ψ h'.next i j) := fun id p e => by
    obtain ⟨a, b⟩ := Phi.to_some e
    rw [hlow id (by omega) (by omega)]; exact b
  have hsome : ∀ id p, Phi.mv ψ h'.next i j id = some p → (id = j ∧ ψ i = some p) ∨ (id < h'.next ∧ ψ id = some p) := fun id p e => by
    unfold Phi.mv at e
    by_cases h : id = j
    · rw [if_pos h] at e; exact .inl ⟨h, e⟩
    · rw [if_neg h] at e; exact .inr (Phi.to_some e)
  have back : ∀ id b, h'.h.get id = some b → ∃ id1 b1, h1.h.get id1 = some b1 ∧ Phi.mv ψ h'.next i j id = ψ id1 ∧ (id = j ∧ id1 = i ∨ id ≠ j ∧ id < h'.next ∧ id1 = id) := fun id b g => by
    obtain ⟨hlt, hr⟩ := rest id b g
    rcases hr with rfl | ⟨rfl, rfl⟩ | ⟨x, y, z⟩
    · exact ⟨id, _, c1, hlow _ (by omega) hlt, .inr ⟨by omega, hlt, rfl⟩⟩
    · exact ⟨i, _, src, hj, .inl ⟨rfl, rfl⟩⟩
    · exact ⟨id, _, y, hlow _ x hlt, .inr ⟨x, hlt, rfl⟩⟩
  refine ⟨fun id b p g e => ?_, fun a b b1 b2 p1 p2 g1 g2 e1 e2 e => ?_, fun id p e => ?_, fun id hid => ⟨?_, ?_⟩, hR.bel, fun i h => (by cases h), fun id p e => ?_⟩
  · obtain ⟨hlt, hr⟩ := rest id b g
    rcases hr with rfl | ⟨rfl, rfl⟩ | ⟨x, y, z⟩
    · rw [c2] at g
      cases g
      rw [hlow _ (by omega) hlt] at e
      obtain ⟨o, q1, q2⟩ := hR.blk _ _ _ c1 e
      refine ⟨o, q1, ?_⟩
      obtain ⟨ar, et, lo, hi, r1, r2, r3, r4, r5, r6⟩ := q2
      refine ⟨ar, et, lo, hi, r1, r2, r3, r4, r5, fun k av gk hk => ?_⟩
      rcases hT k av gk with ⟨t1, t2⟩ | ⟨of, ln, cap, rfl, t1⟩
      · obtain ⟨v, v1, v2, v3⟩ := r6 k av t1 hk
        exact ⟨v, v1, (okV_ok 9 t2 v2).mono hle, v3⟩
      · obtain ⟨v, v1, v2, v3⟩ := r6 k _ t1 hk
        refine ⟨v, v1, ?_, v3⟩
        cases v2 with
        | slice a1 a2 a3 => exact .slice (hj.trans a1) a2 a3
    · rw [hj] at e
      obtain ⟨o, q1, q2⟩ := hR.blk _ _ _ src e
      exact ⟨o, q1, (okB _ _ _ q2).mono hle⟩
    · rw [hlow _ x hlt] at e
      obtain ⟨o, q1, q2⟩ := hR.blk _ _ _ y e
      exact ⟨o, q1, (z _ _ _ q2).mono hle⟩
  · obtain ⟨a1, c1', ga, ea, ha⟩ := back a b1 g1
    obtain ⟨b1', c2', gb, eb, hb⟩ := back b b2 g2
    rw [ea] at e1
    rw [eb] at e2
    have := hR.inj _ _ _ _ _ _ ga gb e1 e2 e
    omega
  · rcases hsome id p e with ⟨_, e⟩ | ⟨_, e⟩
    · exact hR.own _ p e
    · exact hR.own _ p e
  · unfold Phi.mv
    rw [if_neg (by omega), Phi.to_none (by omega)]
  · cases g : h'.h.get id with
    | none => rfl
    | some b =>
      have := (rest id b g).1
      omega
  · have e' : φ0 id = some p := e
    by_cases hjd : id = j
    · subst hjd; rw [hj0] at e'; cases e'
    · by_cases hlt : id < h'.next
      · rw [hlow _ hjd hlt]; exact hR.up id p e'
      · rw [h0 id (by omega)] at e'; cases e'
theorem reads_mv {w0 : World} {Φ : Phi} {pJ : PB} {X : M} (hX : Right Tryz.prog X) (hs : (X.C.fs.get 17).isSome = true) {h h1 h' : H} {b : Int} {id n m i j c : Nat} {ids : List Nat} {x : Nat → Nat} {T2 : T AV} {B : Blk} (hJ : Φ 6300 = some pJ)
    (hrun : gcD ids (runF X n (startH (X.C.fs.get 17) 17 [.ptr 6300 0, .int .i64 b] h)) = .done (.tup [.slice id 0 128 (.own 1), .int .i64 0]) h1)
    (hl : h1.load id 0 128 = some (byteCells (rowX x))) (hj0 : Φ j = none) (h0 : ∀ i, h'.next ≤ i → Φ i = none) (hm : Moves h1 m i j c T2 B h') :
    Reads w0 Φ (.pointer (some (pJ.addr 0))) h b x h' := by
  intro w ⟨φ, hle, hR⟩
  refine (RH.calls (args' := [.pointer (some (pJ.addr 0)), .int .i64 b]) hX hs hR (.cons (.ptr (hle _ _ hJ)) (.cons (.int _ _) .nil)) (Leads.partD hX hrun)).mono fun e w' hh => ?_
  obtain ⟨ψ, v', hle2, rfl, hv, hR'⟩ := hh
  cases hv with
  | tup ha =>
  cases ha with
  | cons a1 a2 =>
  cases a2 with
  | cons a2 a3 =>
  cases a3
  cases a2
  obtain ⟨A, cp, rfl, hc, hC⟩ := row_of (l := rowX x) hR' (by rw [rowX_len]; exact hl) (by rw [rowX_len]; omega) (by rw [rowX_len]; exact a1)
  rw [rowX_len] at hc hC
  have hup : Φ.le ψ := Phi.le_trans hle hle2
  refine ⟨A, cp, by rw [rowX_len], hc, hC, Phi.mv ψ h'.next i j, ?_, RH.move (hR'.rebase hup) hm hj0 h0⟩
  intro k p e
  have hk : k < h'.next := by
    by_cases hk : k < h'.next
    · exact hk
    · rw [h0 k (by omega)] at e; cases e
  have hkj : k ≠ j := fun ek => by subst ek; rw [hj0] at e; cases e
  unfold Phi.mv
  rw [if_neg hkj, Phi.to_at hk]
  exact hup _ _ e
theorem cell_mv {m i j o l : Nat} {cap : Cap} {a b d : AV} (ha : okV 9 m a = true) (hb : okV 9 m b = true) (hd : okV 9 m d = true) : ∀ k av, (T.ofList [a, b, d, .slice j o l cap]).get k = some av → ((T.ofList [a, b, d, .slice i o l cap]).get k = some av ∧ okV 9 m av = true) ∨ ∃ o l cap, av = .slice j o l cap ∧ (T.ofList [a, b, d, AV.slice i o l cap]).get k = some (.slice i o l cap) := fun k av g => by
  have g' := T.get_ofList g
  match k with
  | 0 => cases g'; exact .inl ⟨rfl, ha⟩
  | 1 => cases g'; exact .inl ⟨rfl, hb⟩
  | 2 => cases g'; exact .inl ⟨rfl, hd⟩
  | 3 => cases g'; exact .inr ⟨_, _, _, rfl, rfl⟩
  | k + 4 => simp at g'
def Mv (h1 : H) (m j c nx : Nat) (B : Blk) (l : List (Nat × Blk)) : Prop := AllP (fun q => Nat.blt q.1 nx = true ∧ (q.1 = c ∨ (q.1 = j ∧ q.2 = B) ∨ (Nat.beq q.1 j = false ∧ h1.h.get q.1 = some q.2 ∧ OkB m q.2))) l
theorem Moves.ofL {h1 h' : H} {m i j c nx : Nat} {B : Blk} {L : List (Nat × Blk)} {a b d : AV} {o l : Nat} {cap : Cap} (eh : h' = ⟨ofPairs L, nx⟩) (src : h1.h.get i = some B) (okB : OkB m B) (c1 : h1.h.get c = some (lB [a, b, d, .slice i o l cap] false)) (c2 : (ofPairs L).get c = some (lB [a, b, d, .slice j o l cap] false))
    (ha : okV 9 m a = true) (hb : okV 9 m b = true) (hd : okV 9 m d = true) (hL : Mv h1 m j c nx B L) (lt : c < m ∧ m ≤ j ∧ j < nx ∧ nx ≤ i) : Moves h1 m i j c (T.ofList [a, b, d, .slice j o l cap]) B h' := by
  subst eh
  refine ⟨src, okB, ⟨_, _, _, c1, c2, ?_⟩, fun id bl g => ?_, lt⟩
  · intro k av g
    rcases cell_mv (i := i) ha hb hd k av g with h | ⟨o', l', cap', rfl, h⟩
    · exact .inl h
    · refine .inr ⟨o', l', cap', rfl, ?_⟩
      have g2 := T.get_ofList g
      match k with
      | 0 => cases g2; have := T.get_ofList h; cases this; exact g
      | 1 => cases g2; have := T.get_ofList h; cases this; exact g
      | 2 => cases g2; have := T.get_ofList h; cases this; exact g
      | 3 => cases g2; rfl
      | k + 4 => simp at g2
  · obtain ⟨hn, hr⟩ := AllP.mem hL _ (pairs_mem g)
    refine ⟨Nat.le_of_ble_eq_true hn, ?_⟩
    rcases hr with h | h | ⟨x, y, z⟩
    · exact .inl h
    · exact .inr (.inl h)
    · exact .inr (.inr ⟨fun e => (by subst e; rw [Nat.beq_refl] at x; cases x), y, z⟩)
theorem writes_of2 {w0 : World} {Φ : Phi} {pJ : PB} {h hw h1 h' : H} {b : Int} {nx n : Nat} {ids : List Nat} {y : Nat → Nat} (hJ : Φ 6300 = some pJ)
    (hn : h.next = nx) (hw_ : h.new (rB y false) = hw)
    (hrun : gcD ids (runF X1 n (startH (X1.C.fs.get 13) 13 [.ptr 6300 0, .int .i64 b, .slice nx 0 128 (.own 1)] hw)) = .done (.int .i64 0) h1)
    (h0 : ∀ i, h'.next ≤ i → Φ i = none) (hsub : ∀ i bl, h'.h.get i = some bl → h1.h.get i = some bl ∧ i < h'.next ∧ OkB h'.next bl) :
    Writes w0 Φ (.pointer (some (pJ.addr 0))) h b y h' := by
  subst hn
  exact writes_of hJ hw_ hrun h0 hsub
theorem write_b {w0 w : World} {Φ : Phi} {pJ : PB} {h h1 h' : H} {b : Int} {n bk ib : Nat} {ids : List Nat} (hA : At w0 Φ h w) (hJ : Φ 6300 = some pJ) (hB : Φ ib = some ⟨bk, 0, 128⟩)
    (hrun : gcD ids (runF X1 n (startH (X1.C.fs.get 13) 13 [.ptr 6300 0, .int .i64 b, .slice ib 0 128 (.own 1)] h)) = .done (.int .i64 0) h1)
    (h0 : ∀ i, h'.next ≤ i → Φ i = none) (hsub : ∀ i bl, h'.h.get i = some bl → h1.h.get i = some bl ∧ i < h'.next ∧ OkB h'.next bl) :
    Calls Tryz.prog 13 #[.pointer (some (pJ.addr 0)), .int .i64 b, .slice (some ⟨bk, 0, none⟩) 128 128] w (WrPost w0 Φ h') := by
  obtain ⟨φ, hle, hR⟩ := hA
  have hv : RV φ (.slice ib 0 128 (.own 1)) (.slice (some ⟨bk, 0, none⟩) 128 128) := .slice (p := ⟨bk, 0, 128⟩) (hle _ _ hB) (Nat.le_refl _) rfl
  refine (RH.calls (args' := [.pointer (some (pJ.addr 0)), .int .i64 b, .slice (some ⟨bk, 0, none⟩) 128 128]) x1_right x1_has13 hR (.cons (.ptr (hle _ _ hJ)) (.cons (.int _ _) (.cons hv .nil))) (Leads.partD x1_right hrun)).mono fun e w' hh => ?_
  obtain ⟨ψ, v', hle2, rfl, hv, hR'⟩ := hh
  cases hv
  refine ⟨rfl, ψ.to h'.next, ?_, (hR'.rebase (Phi.le_trans hle hle2)).reset hsub h0⟩
  intro i p e
  have hi : i < h'.next := by
    by_cases hi : i < h'.next
    · exact hi
    · rw [h0 i (by omega)] at e; cases e
  rw [Phi.to_at hi]
  exact hle2 _ _ (hle _ _ e)
end
end Go.Proofs.YteaacjabcfopgaaGreat.Run
