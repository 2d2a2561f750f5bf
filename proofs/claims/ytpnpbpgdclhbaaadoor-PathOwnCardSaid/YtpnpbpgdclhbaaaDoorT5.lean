/-
  The law of a loop over the pieces of a text (a range over strings.SplitSeq), the loop body told by an invariant; condition: as the iterator.
-/
import Derived.Test.YtpnpbpgdclhbaaaDoorT4
namespace Go.Proofs.YtpnpbpgdclhbaaaDoor.PQ
open Go.RowKit Go.Shelf
attribute [local go_sem] Oper.semAt_some

set_option maxRecDepth 100000 in
theorem splitSeq_any (s : ByteArray) (w : World) :
    Calls Tryd.prog 28 #[.string s, .string ⟨#[47]⟩, .int .i64 0] w fun e w' =>
      e = .returned (.func (.func 36) #[] #[.pointer (some ⟨w.heap.size + 1, 0, none⟩), .pointer (some ⟨w.heap.size, 0, none⟩), .pointer (some ⟨w.heap.size + 2, 0, none⟩)]) ∧
      w' = ((w.alloc (.cells #[.string s] 9)).alloc (.cells #[.string ⟨#[47]⟩] 9)).alloc (.cells #[.int .i64 0] 3) := by
  go_enter Tryd.func28, Tryd.ntmps28
  go_wp2
  go_ret
  exact ⟨rfl, rfl⟩
theorem SplitSeq_any (s : ByteArray) (w : World) :
    Calls Tryd.prog 23 #[.string s, .string ⟨#[47]⟩] w fun e w' =>
      e = .returned (.func (.func 36) #[] #[.pointer (some ⟨w.heap.size + 1, 0, none⟩), .pointer (some ⟨w.heap.size, 0, none⟩), .pointer (some ⟨w.heap.size + 2, 0, none⟩)]) ∧
      w' = ((w.alloc (.cells #[.string s] 9)).alloc (.cells #[.string ⟨#[47]⟩] 9)).alloc (.cells #[.int .i64 0] 3) := by
  go_enter Tryd.func23, Tryd.ntmps23
  go_wp2_with (go_at_call 28; refine (splitSeq_any s _).mono ?_; rintro e w' ⟨rfl, hw⟩; rw [hw])
  go_ret
  exact ⟨rfl, rfl⟩

/-- How a round may be left. -/
def roundOut (B bp bs bv : Nat) (I : List ByteArray → World → Prop) (Ix : Code → List ByteArray → World → Prop) (xs : List ByteArray) (W : World) : Exit → Act → World → Prop
  | .normal, _, W' => KeepsFrom B W W' ∧ Kept3 bp bs bv W W' ∧ I xs W'
  | .ret, _, W' => KeepsFrom B W W' ∧ Ix .ret xs W'
  | _, _, _ => False

/-- 'for x := range strings.SplitSeq(s0, "/") { .. }': the loop over the pieces, its body told by I (all rounds so far have gone on) and Ix (a round has returned). -/
theorem range_pieces {ps : Array Tmp} {g : Operand} {assign body : Code} {Q : Exit → Act → World → Prop} {a : Act} {w : World} (n : Nat) (hn : 6 ≤ n)
    (bp bs bv : Nat) (hne : bs ≠ bp) (hnv : bs ≠ bv) (hg : a.eval g = .func (.func 36) #[] #[.pointer (some ⟨bp, 0, none⟩), .pointer (some ⟨bs, 0, none⟩), .pointer (some ⟨bv, 0, none⟩)])
    (s0 : ByteArray) (hs0 : s0.size ≤ 140737488351232) (hbp : Boxed w bp 9 (.string ⟨#[47]⟩)) (hbs : Boxed w bs 9 (.string s0)) (hbv : Boxed w bv 3 (.int .i64 0)) (hps : ps.size = 1)
    (I : List ByteArray → World → Prop) (Ix : Code → List ByteArray → World → Prop) (hI : OwnFrom w.heap.size I) (hIx : ∀ c, OwnFrom w.heap.size (Ix c))
    (hIs : ∀ pre A v, I pre A → I pre (A.setCell ⟨bs, 0, none⟩ v)) (h0 : I [] w) (a₁ : ByteArray → Act)
    (hassign : ∀ (l : Nat) (x : ByteArray) (W : World) (K : Act → World → Prop), K (a₁ x) W →
      assign.wpIn (Fence.wide.inRound l) (n - 1 - 1) Tryd.prog (Exit.then K (fun _ _ _ => False)) { tmps := (ps.zip #[Value.string x]).foldl (fun t (p, v) => t.setIfInBounds p v) a.tmps, defers := [] } W)
    (hbody : ∀ (l : Nat) (pre : List ByteArray) (x : ByteArray) (post : List ByteArray) (W : World), piecesB s0 = pre ++ x :: post → I pre W →
      body.wpIn (Fence.wide.inRound l) (n - 1 - 1) Tryd.prog (roundOut w.heap.size bp bs bv I Ix (pre ++ [x]) W) (a₁ x) W)
    (hdone : ∀ (D : Nat) (W : World), w.heap.size ≤ D → I (piecesB s0) W → W.heap[D]? = some (.deferred (some [])) → Q .normal { a with defers := { target := .collected D, args := #[] } :: a.defers } W)
    (hstop : ∀ (D : Nat) (c : Code) (pre : List ByteArray) (x : ByteArray) (post : List ByteArray) (W : World), w.heap.size ≤ D → piecesB s0 = pre ++ x :: post → Ix c (pre ++ [x]) W → W.heap[D]? = some (.deferred (some [])) →
      c.wpIn Fence.wide n Tryd.prog Q { a with defers := { target := .collected D, args := #[] } :: a.defers } W) :
    (Code.rangeFunc g ps assign body).wpIn Fence.wide n Tryd.prog Q a w := by
  refine wpIn_rangeFunc ?_
  intro fn hfn
  show ∃ l mark w₁ d w₁' f args w₂, (Instr.enterLoop fn a.tmps ps assign body none).run Tryd.prog w = _ ∧ _
  -- the record of the loop
  generalize hD : w.heap.size = D
  obtain ⟨rec, hrec⟩ : ∃ rec : LoopState → Option Code → Loop, rec = fun st pe => { state := st, pending := pe, fn, tmps := a.tmps, params := ps, assign, body, defers := D } := ⟨_, rfl⟩
  have hrp : ∀ st pe, (rec st pe).params = ps := fun st pe => by rw [hrec]
  have hrs : ∀ st pe, (rec st pe).state = st := fun st pe => by rw [hrec]
  have henter := run_enterLoop_outer (P := Tryd.prog) (w := w) fn a.tmps ps assign body
  rw [hD] at henter
  have henter' : (Instr.enterLoop fn a.tmps ps assign body none).run Tryd.prog w = .ok (D + 1, [{ target := .collected D, args := #[] }]) ((w.alloc (.deferred (some []))).alloc (.loop (rec .ready none))) := by
    rw [henter, hrec]
  obtain ⟨W1, hW1⟩ : ∃ W1, (w.alloc (.deferred (some []))).alloc (.loop (rec .ready none)) = W1 := ⟨_, rfl⟩
  rw [hW1] at henter'
  have ho1 : w.grownBy W1 none := by rw [← hW1]; exact (World.grownBy_alloc w _ none).trans (World.grownBy_alloc _ _ none)
  have hL1 : W1.heap[D + 1]? = some (.loop (rec .ready none)) := by
    rw [← hW1, ← hD]
    have := World.alloc_heap_new (w.alloc (.deferred (some []))) (.loop (rec .ready none))
    rwa [World.size_alloc] at this
  have hK1 : W1.heap[D]? = some (.deferred (some [])) := by
    rw [← hW1, ← hD]
    exact (Below.heap_alloc _ _ _ (by simp)).trans (World.alloc_heap_new w _)
  have hlt : bs < D := by rw [← hD]; exact hbs.lt
  rw [hD] at hI hIx hbody hdone hstop
  have hI1 : I [] W1 := hI _ _ _ none h0 ho1 (fun r e => by cases e)
  refine ⟨D + 1, [{ target := .collected D, args := #[] }], W1, { target := .fn (.func 36) #[.pointer (some ⟨bp, 0, none⟩), .pointer (some ⟨bs, 0, none⟩), .pointer (some ⟨bv, 0, none⟩)], args := #[.func (.yield (D + 1)) #[] #[]] }, W1, 36,
    #[.func (.yield (D + 1)) #[] #[], .pointer (some ⟨bp, 0, none⟩), .pointer (some ⟨bs, 0, none⟩), .pointer (some ⟨bv, 0, none⟩)], W1, henter', ?_, fun f' _ => trivial, ?_, fun _ => by omega, ?_⟩
  · simp only [resolve, hg]
    simp [go_sem]
  · have e36 : ∀ args w, (callFunc 36 args).run Tryd.prog w = .ok (.enter 36 args) w := enters_of Tryd.func36 (by kernel_rfl) rfl
    simp [invoke, e36]
  · -- the iterator, at the loop's own invariant with the record beside it
    refine (iter_in (n - 1) (by omega) (D + 1) bp bs bv hne hnv s0 hs0
      (fun pre W => I pre W ∧ W.heap[D + 1]? = some (.loop (rec .ready none)) ∧ W.heap[D]? = some (.deferred (some [])))
      (fun pre W => ∃ c, Ix c pre W ∧ W.heap[D + 1]? = some (.loop (rec .done (some c))) ∧ W.heap[D]? = some (.deferred (some [])))
      ?_ ?_ W1 (hbp.kept ho1 (by simp)) (hbs.kept ho1 (by simp)) (hbv.kept ho1 (by simp)) ⟨hI1, hL1, hK1⟩).mono ?_
    · rintro pre A v ⟨h1, h2, h3⟩
      exact ⟨hIs _ _ _ h1, (Below.heap_setCell A _ v _ (by show D + 1 ≠ bs; omega)).trans h2, (Below.heap_setCell A _ v _ (by show D ≠ bs; omega)).trans h3⟩
    · rintro pre x post A hsplit ⟨h1, h2, h3⟩
      have hy := run_yield (P := Tryd.prog) (args := #[Value.string x]) h2 (by rw [hrp, hps]; rfl)
      rw [hrec] at hy
      have h2lt : D + 1 < A.heap.size := (Array.getElem?_eq_some_iff.1 h2).1
      obtain ⟨A2, hA2⟩ : ∃ A2, A.putObj (D + 1) (.loop { rec .ready none with state := .busy }) = A2 := ⟨_, rfl⟩
      have hbegin := run_beginRound (P := Tryd.prog) h2 (hrs _ _)
      rw [hA2] at hbegin
      refine ⟨fn, _, assign, body, hy, roundIn_of_wpIn trivial (hassign _ x A _ ⟨A2, hbegin, ?_⟩)⟩
      have hg2 : A.grownBy A2 (some (D + 1)) := by rw [← hA2]; exact grownBy_putObj' A _ _
      have hL2 : A2.heap[D + 1]? = some (.loop { rec .ready none with state := .busy }) := by rw [← hA2]; exact World.putObj_heap_same h2lt
      have hK2 : A2.heap[D]? = some (.deferred (some [])) := by rw [← hA2]; exact (World.putObj_heap_other (by omega)).trans h3
      have hI2 : I pre A2 := hI _ _ _ _ h1 hg2 (fun r e => by cases e; exact ⟨by omega, _, h2, rfl⟩)
      refine wpIn_mono (hbody _ pre x post A2 hsplit hI2) ?_
      have fin : ∀ (jump : Option Code) (B : World), KeepsFrom D A2 B → ∃ B', (Instr.endRound (D + 1) jump).run Tryd.prog B = .ok (.bool jump.isNone) B' ∧
          B.grownBy B' (some (D + 1)) ∧ (∃ o : Obj, B.heap[D + 1]? = some o ∧ o.isCells = false) ∧
          B'.heap[D + 1]? = some (.loop (rec (if jump.isNone then .ready else .done) jump)) ∧ B'.heap[D]? = some (.deferred (some [])) ∧ (∀ k, k ≠ D + 1 → B'.heap[k]? = B.heap[k]?) := fun jump B hk => by
        have hL3 := hk.same _ _ (by omega) hL2 rfl
        have hK3 := hk.same _ _ (Nat.le_refl _) hK2 rfl
        refine ⟨_, run_endRound (P := Tryd.prog) jump hL3, grownBy_putObj' B _ _, ⟨_, hL3, rfl⟩, ?_, (World.putObj_heap_other (by omega)).trans hK3, fun k hk => World.putObj_heap_other hk⟩
        rw [World.putObj_heap_same (Array.getElem?_eq_some_iff.1 hL3).1]
        rw [hrec]
      rintro e a3 B hp
      cases e with
      | normal =>
        obtain ⟨hk, ⟨k1, k2, k3⟩, hi⟩ := hp
        obtain ⟨B', hr, hg3, ho, hL4, hK4, hoth⟩ := fin none B hk
        refine ⟨_, B', hr, .inl ⟨rfl, ⟨hI _ _ _ _ hi hg3 (fun r e => by cases e; exact ⟨by omega, ho⟩), hL4, hK4⟩, ?_⟩⟩
        have hA : ∀ k, k ≠ D + 1 → A2.heap[k]? = A.heap[k]? := fun k hk => by rw [← hA2]; exact World.putObj_heap_other hk
        have hp1 : bp < D := by rw [← hD]; exact hbp.lt
        have hv1 : bv < D := by rw [← hD]; exact hbv.lt
        exact ⟨(hoth bp (by omega)).trans (k1.trans (hA bp (by omega))), (hoth bs (by omega)).trans (k2.trans (hA bs (by omega))), (hoth bv (by omega)).trans (k3.trans (hA bv (by omega)))⟩
      | ret =>
        obtain ⟨hk, hi⟩ := hp
        obtain ⟨B', hr, hg3, ho, hL4, hK4, _⟩ := fin (some .ret) B hk
        exact ⟨_, B', hr, .inr ⟨rfl, .ret, hIx _ _ _ _ _ hi hg3 (fun r e => by cases e; exact ⟨by omega, ho⟩), hL4, hK4⟩⟩
      | exit id => exact hp.elim
      | goto t => exact hp.elim
      | panic ch => exact hp.elim
      | outgrown => exact hp.elim
    · rintro e W2 ⟨⟨v, rfl⟩, (⟨hi, hl, hk⟩ | ⟨pre, x, post, hsplit, c, hi, hl, hk⟩)⟩
      · exact ⟨none, _, by have := run_endLoop (P := Tryd.prog) hl (by rw [hrs]; simp); rw [hrec] at this; exact this,
          hdone _ _ (Nat.le_refl _) (hI _ _ _ _ hi (grownBy_putObj' W2 _ _) (fun r e => by cases e; exact ⟨by omega, _, hl, rfl⟩)) ((World.putObj_heap_other (by omega)).trans hk)⟩
      · exact ⟨some c, _, by have := run_endLoop (P := Tryd.prog) hl (by rw [hrs]; simp); rw [hrec] at this; exact this,
          hstop _ c pre x post _ (Nat.le_refl _) hsplit (hIx _ _ _ _ _ hi (grownBy_putObj' W2 _ _) (fun r e => by cases e; exact ⟨by omega, _, hl, rfl⟩)) ((World.putObj_heap_other (by omega)).trans hk)⟩
end Go.Proofs.YtpnpbpgdclhbaaaDoor.PQ
