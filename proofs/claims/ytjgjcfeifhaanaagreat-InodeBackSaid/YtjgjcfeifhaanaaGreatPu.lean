/-
  Cells that are put one behind the other; what 'copy' does between two blocks that are known.
-/
import Derived.Test.YtjgjcfeifhaanaaGreatPe
namespace Go.Proofs.YtjgjcfeifhaanaaGreat.PQ
open Go.RowKit Go.Proofs.YtjgjcfeifhaanaaGreatW.PrintWords Go.Proofs.YtjgjcfeifhaanaaGreatW.PrintLast Go.Proofs.YtjgjcfeifhaanaaGreatW.PrintMore
set_option linter.unusedVariables false
set_option linter.unusedSimpArgs false
def setCells (W : World) (g : Nat) : Nat → List Value → World
  | _, [] => W
  | o, v :: vs => setCells (W.setCell ⟨g, o, none⟩ v) g (o + 1) vs
def putCells13 (cs : Array Value) : Nat → List Value → Array Value
  | _, [] => cs
  | o, v :: vs => putCells13 (cs.setIfInBounds o v) (o + 1) vs
theorem setCells_blk {g t : Nat} : ∀ {vs : List Value} {W : World} {o : Nat} {cs : Array Value}, W.heap[g]? = some (.cells cs t (0, 0)) → (setCells W g o vs).heap[g]? = some (.cells (putCells13 cs o vs) t (0, 0))
  | [], _, _, _, h => h
  | v :: vs, W, o, cs, h => setCells_blk (vs := vs) (blk_put h o v rfl)
theorem setCells_far {g k t : Nat} {cs : Array Value} (hne : k ≠ g) : ∀ {vs : List Value} {W : World} {o : Nat}, W.heap[k]? = some (.cells cs t (0, 0)) → (setCells W g o vs).heap[k]? = some (.cells cs t (0, 0))
  | [], _, _, h => h
  | v :: vs, W, o, h => setCells_far hne (vs := vs) (blk_far h (p := ⟨g, o, none⟩) hne v)
theorem setCells_below {w : World} {g : Nat} (hg : w.heap.size ≤ g) : ∀ {vs : List Value} {W : World} {o : Nat}, Below w.heap.size w W → Below w.heap.size w (setCells W g o vs)
  | [], _, _, h => h
  | v :: vs, W, o, h => setCells_below hg (vs := vs) (below_set h hg)
theorem run_put {P : Program} {g t : Nat} : ∀ (vs : List Value) (i o : Nat) (W : World) (cs : Array Value), W.heap[g]? = some (.cells cs t (0, 0)) → o + i + vs.length ≤ cs.size → (∀ v ∈ vs, v.oneCell' = true) → (storeCells ⟨g, o, none⟩ vs i).run P W = .ok () (setCells W g (o + i) vs)
  | [], _, _, _, _, _, _, _ => rfl
  | v :: vs, i, o, W, cs, h, hl, h1 => by
    have e : (⟨g, o, none⟩ : Addr).add i = ⟨g, o + i, none⟩ := by unfold Addr.add; split <;> simp_all
    have hlt : o + i < cs.size := by simp at hl; omega
    have hc : W.cell? ⟨g, o + i, none⟩ = some cs[o + i] := (blk_cell h (o + i)).trans (Array.getElem?_eq_getElem hlt)
    have hf := blk_frozen h (o + i)
    have hv := h1 v List.mem_cons_self
    have hs : (store ((⟨g, o, none⟩ : Addr).add i) v).run P W = .ok () (W.setCell ⟨g, o + i, none⟩ v) := by
      rw [e]
      cases v <;> first | (simp only [store, Sem.bind, Sem.run, hc, hf]; rfl) | (simp [Value.oneCell'] at hv)
    have ih := run_put (P := P) vs (i + 1) o (W.setCell ⟨g, o + i, none⟩ v) (cs.setIfInBounds (o + i) v) (blk_put h (o + i) v rfl) (by simp at hl ⊢; omega) (fun u hu => h1 u (List.mem_cons_of_mem _ hu))
    unfold storeCells
    rw [Sem.run_bind, hs, Result.andThen_ok, ih]
    rfl
theorem run_copy {P : Program} {W : World} {g h o p t u m c c' n : Nat} {cs ds : Array Value} {vs : List Value} {s e ty : TypeId} (hs : P.underlying s = some (.slice e)) (he : ∃ i, P.info? e = some i ∧ i.size = 1)
    (hg : W.heap[g]? = some (.cells cs t (0, 0))) (hh : W.heap[h]? = some (.cells ds u (0, 0))) (hn : n = vs.length) (hm : n ≤ m) (hl : o + n ≤ cs.size) (hv : ∀ j, j < n → ds[p + j]? = vs[j]?) (h1 : ∀ v ∈ vs, v.oneCell' = true) :
    (Builtin.copy_ #[s, s] ty #[.slice (some ⟨g, o, none⟩) n c, .slice (some ⟨h, p, none⟩) m c']).run P W = .ok (.int .i64 n) (setCells W g o vs) := by
  subst hn
  obtain ⟨i, hi, hi1⟩ := he
  have hld : (loadCells ⟨h, p, none⟩ vs.length).run P W = .ok vs.toArray W := by
    refine run_loadCells_list (P := P) W ⟨h, p, none⟩ vs fun j v hj => ?_
    have e : (⟨h, p, none⟩ : Addr).add j = ⟨h, p + j, none⟩ := by unfold Addr.add; split <;> simp_all
    have hlt : j < vs.length := (List.getElem?_eq_some_iff.1 hj).1
    rw [e]
    exact ((blk_cell hh (p + j)).trans (hv j hlt)).trans hj
  have hst := run_put (P := P) vs 0 o W cs hg (by omega) h1
  have hmin : Nat.min m vs.length = vs.length := Nat.min_eq_right hm
  simp [Builtin.copy_, run_underlying hs, sizeOf, typeInfo, hi, hi1, Builtin.lenOf, Builtin.firstCells, hmin, hld, hst, goInt]
end Go.Proofs.YtjgjcfeifhaanaaGreat.PQ
