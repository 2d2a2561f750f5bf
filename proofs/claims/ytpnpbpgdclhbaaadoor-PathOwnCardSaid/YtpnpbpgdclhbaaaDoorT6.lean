/-
  The walk of path.Split where the text begins with a slash and is not too long: its names in memory of its own; conditions: those two.
-/
import Derived.Test.YtpnpbpgdclhbaaaDoorT5
import Derived.WalkMore
import Derived.Scope
import Derived.ScopeJumps
namespace Go.Proofs.YtpnpbpgdclhbaaaDoor.PQ
open Go.RowKit Go.Shelf
attribute [local go_sem] Oper.semAt_some

theorem pieces_le : ∀ (l x : List UInt8), x ∈ Sp.pieces l → x.length ≤ l.length := by
  have key : ∀ l : List UInt8, (Sp.cuts l).1.length ≤ l.length ∧ ∀ x ∈ (Sp.cuts l).2, x.length ≤ l.length := by
    intro l
    induction l with
    | nil => exact ⟨Nat.le_refl _, fun x h => by cases h⟩
    | cons c l ih =>
      by_cases hc : c = 47
      · simp only [Sp.cuts, hc, if_true]
        refine ⟨by simp, fun x hx => ?_⟩
        rcases List.mem_cons.1 hx with rfl | hx
        · simp; omega
        · have := ih.2 x hx; simp; omega
      · simp only [Sp.cuts, hc, if_false]
        refine ⟨by simp; omega, fun x hx => ?_⟩
        have := ih.2 x hx; simp; omega
  intro l x hx
  rcases List.mem_cons.1 hx with rfl | hx
  · exact (key l).1
  · exact (key l).2 x hx
theorem piece_small {s0 x : ByteArray} {pre post : List ByteArray} (h : piecesB s0 = pre ++ x :: post) : x.size ≤ s0.size := by
  have hm : x ∈ piecesB s0 := by rw [h]; simp
  unfold piecesB at hm
  obtain ⟨y, hy, rfl⟩ := List.mem_map.1 hm
  have := pieces_le _ _ hy
  rw [size_ofBs] at this
  rw [← size_ofBs (bsOf y), ofBs_bsOf]
  exact this

/-- What the rounds so far have come to. -/
def SoFar (pre acc : List ByteArray) : Prop := ∀ rest, Sp.scan (pre.map ofBs ++ rest) [] = Sp.scan rest (acc.map ofBs)
def Ends (pre : List ByteArray) (r : Int) : Prop := ∀ rest, Sp.scan (pre.map ofBs ++ rest) [] = ([], r)
theorem SoFar.nil : SoFar [] [] := fun _ => rfl
theorem SoFar.skip {pre acc : List ByteArray} {x : ByteArray} (h : SoFar pre acc) (hx : x.toList = []) : SoFar (pre ++ [x]) acc := fun rest => by
  rw [List.map_append, List.append_assoc, h]
  rw [toList_ofBs] at hx
  simp [Sp.scan, hx]
theorem SoFar.bad {pre acc : List ByteArray} {x : ByteArray} (h : SoFar pre acc) (hx : ¬ x.toList = []) (hn : Sp.nameE (ofBs x) ≠ 0) : Ends (pre ++ [x]) (Sp.nameE (ofBs x)) := fun rest => by
  rw [List.map_append, List.append_assoc, h]
  rw [toList_ofBs] at hx
  simp [Sp.scan, hx, hn]
theorem SoFar.full {pre acc : List ByteArray} {x : ByteArray} (h : SoFar pre acc) (hx : ¬ x.toList = []) (hn : Sp.nameE (ofBs x) = 0) (hl : acc.length = 16) : Ends (pre ++ [x]) 26 := fun rest => by
  rw [List.map_append, List.append_assoc, h]
  rw [toList_ofBs] at hx
  simp [Sp.scan, hx, hn, hl]
theorem SoFar.more {pre acc : List ByteArray} {x : ByteArray} (h : SoFar pre acc) (hx : ¬ x.toList = []) (hn : Sp.nameE (ofBs x) = 0) (hl : acc.length ≠ 16) : SoFar (pre ++ [x]) (acc ++ [x]) := fun rest => by
  rw [List.map_append, List.append_assoc, h]
  rw [toList_ofBs] at hx
  simp [Sp.scan, hx, hn, hl]

theorem cells_apart {A : World} {k : Nat} {t : TypeId} {v : Value} {row : Option Nat} {B : Nat} (h : Boxed A k t v) (hr : ∀ r, row = some r → B ≤ r ∧ ∃ o : Obj, A.heap[r]? = some o ∧ o.isCells = false) : some k ≠ row := by
  intro e
  obtain ⟨_, o, ho, hc⟩ := hr k e.symm
  rw [show A.heap[k]? = _ from h] at ho
  cases ho; cases hc
theorem row_apart {A : World} {b e size n : Nat} {v : Value} {xs : List Value} {row : Option Nat} {B : Nat} (h : A.ownsRow b e size v n xs) (hr : ∀ r, row = some r → B ≤ r ∧ ∃ o : Obj, A.heap[r]? = some o ∧ o.isCells = false) : v.ownBlock = none ∨ v.ownBlock ≠ row := by
  rcases h.2 with ⟨rfl, _⟩ | ⟨g, cap, cur, rfl, _, hgb, _⟩
  · exact .inl rfl
  · refine .inr fun e' => ?_
    obtain ⟨_, o, ho, hc⟩ := hr g (by simpa [Value.ownBlock] using e'.symm)
    rw [hgb] at ho; cases ho; cases hc

/-- Between two rounds. -/
def Inv (n₀ : Nat) (w : World) (pre : List ByteArray) (W : World) : Prop :=
  ∃ acc v, SoFar pre acc ∧ acc.length ≤ 16 ∧ Boxed W (n₀ + 2) 26 v ∧ W.ownsRow (n₀ + 6) 9 1 v acc.length (acc.map .string) ∧ Boxed W n₀ 26 (.slice none 0 0) ∧ Boxed W (n₀ + 1) 23 (.int .i64 0) ∧ Below n₀ w W ∧ n₀ + 6 ≤ W.heap.size
/-- A round has returned. -/
def Out (n₀ : Nat) (w : World) (c : Code) (pre : List ByteArray) (W : World) : Prop :=
  c = .ret ∧ ∃ r : Int, Ends pre r ∧ Boxed W n₀ 26 (.slice none 0 0) ∧ Boxed W (n₀ + 1) 23 (.int .i64 r) ∧ Below n₀ w W

theorem Inv.own (n₀ B : Nat) (hB : n₀ ≤ B) (w : World) (hn : n₀ ≤ w.heap.size) : OwnFrom B (Inv n₀ w) := by
  rintro pre A C row ⟨acc, v, h1, h2, h3, h4, h5, h6, h7, h8⟩ hg hr
  exact ⟨acc, v, h1, h2, h3.kept hg (cells_apart h3 hr), h4.kept hg (row_apart h4 hr), h5.kept hg (cells_apart h5 hr), h6.kept hg (cells_apart h6 hr),
    h7.grown hg (Nat.le_trans hn h7.size) (fun k e => by have := (hr k e).1; omega), Nat.le_trans h8 hg.size⟩
theorem Out.own (n₀ B : Nat) (hB : n₀ ≤ B) (w : World) (hn : n₀ ≤ w.heap.size) (c : Code) : OwnFrom B (Out n₀ w c) := by
  rintro pre A C row ⟨hc, r, h1, h5, h6, h7⟩ hg hr
  exact ⟨hc, r, h1, h5.kept hg (cells_apart h5 hr), h6.kept hg (cells_apart h6 hr), h7.grown hg (Nat.le_trans hn h7.size) (fun k e => by have := (hr k e).1; omega)⟩
theorem Inv.set {n₀ : Nat} {w : World} {pre : List ByteArray} {A : World} (h : Inv n₀ w pre A) (u : Value) : Inv n₀ w pre (A.setCell ⟨n₀ + 3, 0, none⟩ u) := by
  obtain ⟨acc, v, h1, h2, h3, h4, h5, h6, h7, h8⟩ := h
  refine ⟨acc, v, h1, h2, h3.other (by omega) _, h4.kept (grownBy_setCell' A _ u) ?_, h5.other (by omega) _, h6.other (by omega) _, h7.setCell (p := ⟨n₀ + 3, 0, none⟩) (by show n₀ ≤ n₀ + 3; omega) _, by simpa [World.setCell] using h8⟩
  rcases h4.2 with ⟨rfl, _⟩ | ⟨g, cap, cur, rfl, hg, _⟩
  · exact .inl rfl
  · refine .inr fun e => ?_
    have : g = n₀ + 3 := by simpa [Value.ownBlock] using e
    omega

theorem others_below {A B : World} (h : Below A.heap.size A B) : KeepsOthers A B := ⟨h.size, fun k _ hk _ => (h.block k (Array.getElem?_eq_some_iff.1 hk).1).trans hk⟩
theorem row_slice {A : World} {b e size n : Nat} {v : Value} {xs : List Value} (h : A.ownsRow b e size v n xs) : ∃ p c, v = .slice p n c := by
  rcases h.2 with ⟨rfl, rfl⟩ | ⟨g, cap, cur, rfl, _⟩
  · exact ⟨none, 0, rfl⟩
  · exact ⟨_, _, rfl⟩
theorem isEmpty_toList {x : ByteArray} (h : x.toList.isEmpty = true) : x.toList = [] := List.isEmpty_iff.1 h
theorem not_isEmpty {x : ByteArray} (h : x.toList.isEmpty = false) : ¬ x.toList = [] := fun e => by rw [e] at h; cases h
theorem name_ne {x : ByteArray} (h : (Sp.nameE (ofBs x) != 0) = true) : Sp.nameE (ofBs x) ≠ 0 := by simpa using h
theorem name_eq {x : ByteArray} (h : (Sp.nameE (ofBs x) != 0) = false) : Sp.nameE (ofBs x) = 0 := by simpa using h
/-- The two results are laid. -/
theorem out_laid {n₀ : Nat} {w W w2 : World} {pre : List ByteArray} {r : Int} (he : Ends pre r) (hb : Below W.heap.size W w2) (hw : Below n₀ w W) (hn : n₀ + 2 ≤ W.heap.size) {v0 v1 : Value} (g5 : Boxed w2 n₀ 26 v0) (g6 : Boxed w2 (n₀ + 1) 23 v1) (B : Nat) :
    KeepsFrom B W ((w2.setCell ⟨n₀, 0, none⟩ (.slice none 0 0)).setCell ⟨n₀ + 1, 0, none⟩ (.int .i64 r)) ∧ Out n₀ w .ret pre ((w2.setCell ⟨n₀, 0, none⟩ (.slice none 0 0)).setCell ⟨n₀ + 1, 0, none⟩ (.int .i64 r)) := by
  refine ⟨(((others_below hb).trans (KeepsOthers.setCell _ _ _)).trans (KeepsOthers.setCell _ _ _)).from B, rfl, r, he, (g5.set _).other (by omega) _, (g6.other (by omega) _).set _, ?_⟩
  exact ((hw.trans (hb.mono (by omega))).setCell (p := ⟨n₀, 0, none⟩) (Nat.le_refl _) _).setCell (p := ⟨n₀ + 1, 0, none⟩) (by show n₀ ≤ n₀ + 1; omega) _

theorem grown_below {A B : World} (h : Below A.heap.size A B) (row : Option Nat) : A.grownBy B row := ⟨h.os, h.tape, h.output, h.size, fun k hk _ => h.block k hk⟩
theorem row_below {A B : World} {b e size n : Nat} {v : Value} {xs : List Value} (h : A.ownsRow b e size v n xs) (hb : Below A.heap.size A B) : B.ownsRow b e size v n xs := h.kept (grown_below hb none) (by
  rcases h.2 with ⟨rfl, _⟩ | ⟨g, cap, cur, rfl, _⟩
  · exact .inl rfl
  · exact .inr (by simp [Value.ownBlock]))

theorem row_lower {A : World} {b b' e size n : Nat} {v : Value} {xs : List Value} (h : A.ownsRow b e size v n xs) (hb : b' ≤ b) : A.ownsRow b' e size v n xs := by
  obtain ⟨h1, h2 | ⟨g, cap, cur, h3, h4, h5⟩⟩ := h
  · exact ⟨h1, .inl h2⟩
  · exact ⟨h1, .inr ⟨g, cap, cur, h3, Nat.le_trans hb h4, h5⟩⟩
theorem own_ge {A : World} {b e size n : Nat} {v : Value} {xs : List Value} (h : A.ownsRow b e size v n xs) : ∀ k, v.ownBlock = some k → b ≤ k := fun k hk => (h.lt k hk).1
theorem app_block {n₀ : Nat} {W w2 w1 : World} {tmp : Obj} {row : Option Nat} (hb : Below W.heap.size W w2) (hg : (w2.alloc tmp).grownBy w1 row) (hrow : ∀ k, row = some k → n₀ + 6 ≤ k) (hn : n₀ + 6 ≤ W.heap.size) (v : Value) (k : Nat) (h1 : k < n₀ + 6) (h2 : k ≠ n₀ + 2) :
    (w1.setCell ⟨n₀ + 2, 0, none⟩ v).heap[k]? = W.heap[k]? := by
  have hs := hb.size
  exact (Below.heap_setCell w1 _ v k h2).trans ((hg.block k (by simp; omega) (fun e => by have := hrow k e.symm; omega)).trans ((Below.heap_alloc w2 tmp k (by omega)).trans (hb.block k (by omega))))
theorem kept3_app {n₀ : Nat} {W w2 w1 : World} {tmp : Obj} {row : Option Nat} (hb : Below W.heap.size W w2) (hg : (w2.alloc tmp).grownBy w1 row) (hrow : ∀ k, row = some k → n₀ + 6 ≤ k) (hn : n₀ + 6 ≤ W.heap.size) (v : Value) :
    Kept3 (n₀ + 1 + 1 + 1 + 1) (n₀ + 1 + 1 + 1) (n₀ + 1 + 1 + 1 + 2) W (w1.setCell ⟨n₀ + 2, 0, none⟩ v) :=
  ⟨app_block hb hg hrow hn v _ (by omega) (by omega), app_block hb hg hrow hn v _ (by omega) (by omega), app_block hb hg hrow hn v _ (by omega) (by omega)⟩

theorem results_two {b : Nat} {tmps : Array Value} {W : World} {A : Option Addr} {n c : Nat} {r : Int} (h2 : tmps[2]?.getD undef = .pointer (some ⟨b, 0, none⟩)) (h3 : tmps[3]?.getD undef = .pointer (some ⟨b + 1, 0, none⟩))
    (c2 : W.cell? ⟨b, 0, none⟩ = some (.slice A n c)) (c3 : W.cell? ⟨b + 1, 0, none⟩ = some (.int .i64 r)) :
    (results Tryd.f13 tmps).run Tryd.prog W = .ok (.tuple #[.slice A n c, .int .i64 r]) W := by
  simp [results, Tryd.results13, h2, h3, c2, c3, go_sem]

theorem scope_wide {n : Nat} {P : Program} {c : Code} {Q : Exit → Act → World → Prop} {a : Act} {w : World} (h : c.wpIn Fence.wide n P (Exit.noGoto Q) a w) : (Code.scope c).wpIn Fence.wide n P Q a w :=
  wpIn_wide.2 (wp_scope_straight (wpIn_wide.1 h))
theorem info9' : (Tryd.prog.info? 9).map (fun i => (i.zero, i.size, i.bytes)) = some (some (.string ⟨#[]⟩), 1, 16) := by kernel_rfl

set_option maxRecDepth 100000 in
set_option maxHeartbeats 2000000 in
theorem split_path (s : ByteArray) (hs : s.size ≤ 140737488351232) (h47 : Lib.hasPrefix s.data.toList [47] = true) (hlen : s.size ≤ 255) (w : World) :
    Calls Tryd.prog 13 #[.string s] w fun e w' => ∃ v0_ : Value, e = .returned (.tuple #[v0_, .int .i64 (Sp.scan (Sp.pieces (ofBs s)) []).2]) ∧
      w'.ownsRow w.heap.size 9 1 v0_ (Sp.scan (Sp.pieces (ofBs s)) []).1.length ((Sp.scan (Sp.pieces (ofBs s)) []).1.map fun l => .string (bsOf l)) ∧ Below w.heap.size w w' := by
  obtain ⟨i0, hi, hz0, hz1, hz2⟩ := info_parts info9'
  refine (callsIn_wide (n := 20)).1 ?_
  refine callsIn_of_wp_marks Tryd.func13 rfl trivial ?_
  simp only [Tryd.ntmps13, List.size_toArray, List.length_cons, List.length_nil, Nat.reduceAdd, Nat.reduceSub, Array.replicate_succ, Array.replicate_zero, List.push_toArray, List.append_toArray, List.nil_append, List.cons_append]
  gi_wp2
  refine scope_wide ?_
  have hl : (s.size : Int) ≤ 255 := by omega
  gi_wp2_with (refine ⟨trivial, ?_⟩; first | (gi_at_call 22; refine (callsIn_wide.2 (Tryd.strings_HasPrefix _ _ _)).mono ?_; rintro e w' ⟨rfl, hw⟩; rw [hw, h47]) | (gi_at_call 23; refine (callsIn_wide.2 (SplitSeq_any _ _)).mono ?_; rintro e w' ⟨rfl, hw⟩; rw [hw]))
  refine wpIn_label ?_
  gi_wp2_with (refine ⟨trivial, ?_⟩; (gi_at_call 23; refine (callsIn_wide.2 (SplitSeq_any _ _)).mono ?_; rintro e w' ⟨rfl, hw⟩; rw [hw]))
  have b0 := (((((Boxed.new w 26 (.slice none 0 0)).alloc (.cells #[.int .i64 0] 23)).alloc (.cells #[.slice none 0 0] 26)).alloc (.cells #[.string s] 9)).alloc (.cells #[.string ⟨#[47]⟩] 9)).alloc (.cells #[.int .i64 0] 3)
  have b1 := ((((Boxed.new (w.alloc (.cells #[.slice none 0 0] 26)) 23 (.int .i64 0)).alloc (.cells #[.slice none 0 0] 26)).alloc (.cells #[.string s] 9)).alloc (.cells #[.string ⟨#[47]⟩] 9)).alloc (.cells #[.int .i64 0] 3)
  have b2 := (((Boxed.new ((w.alloc (.cells #[.slice none 0 0] 26)).alloc (.cells #[.int .i64 0] 23)) 26 (.slice none 0 0)).alloc (.cells #[.string s] 9)).alloc (.cells #[.string ⟨#[47]⟩] 9)).alloc (.cells #[.int .i64 0] 3)
  have b3 := ((Boxed.new (((w.alloc (.cells #[.slice none 0 0] 26)).alloc (.cells #[.int .i64 0] 23)).alloc (.cells #[.slice none 0 0] 26)) 9 (.string s)).alloc (.cells #[.string ⟨#[47]⟩] 9)).alloc (.cells #[.int .i64 0] 3)
  have b4 := (Boxed.new ((((w.alloc (.cells #[.slice none 0 0] 26)).alloc (.cells #[.int .i64 0] 23)).alloc (.cells #[.slice none 0 0] 26)).alloc (.cells #[.string s] 9)) 9 (.string ⟨#[47]⟩)).alloc (.cells #[.int .i64 0] 3)
  have b5 := Boxed.new (((((w.alloc (.cells #[.slice none 0 0] 26)).alloc (.cells #[.int .i64 0] 23)).alloc (.cells #[.slice none 0 0] 26)).alloc (.cells #[.string s] 9)).alloc (.cells #[.string ⟨#[47]⟩] 9)) 3 (.int .i64 0)
  have hB0 : Below w.heap.size w ((((((w.alloc (.cells #[.slice none 0 0] 26)).alloc (.cells #[.int .i64 0] 23)).alloc (.cells #[.slice none 0 0] 26)).alloc (.cells #[.string s] 9)).alloc (.cells #[.string ⟨#[47]⟩] 9)).alloc (.cells #[.int .i64 0] 3)) :=
    ((((((Below.refl _ w).alloc (Nat.le_refl _) _).alloc (by simp) _).alloc (by simp; omega) _).alloc (by simp; omega) _).alloc (by simp; omega) _).alloc (by simp; omega) _
  have hzz : ((((((w.alloc (.cells #[.slice none 0 0] 26)).alloc (.cells #[.int .i64 0] 23)).alloc (.cells #[.slice none 0 0] 26)).alloc (.cells #[.string s] 9)).alloc (.cells #[.string ⟨#[47]⟩] 9)).alloc (.cells #[.int .i64 0] 3)).heap.size = w.heap.size + 6 := by simp
  simp only [World.size_alloc] at b1 b2 b3 b4 b5
  generalize ((((((w.alloc (.cells #[.slice none 0 0] 26)).alloc (.cells #[.int .i64 0] 23)).alloc (.cells #[.slice none 0 0] 26)).alloc (.cells #[.string s] 9)).alloc (.cells #[.string ⟨#[47]⟩] 9)).alloc (.cells #[.int .i64 0] 3)) = W0 at *
  have hnw : w.heap.size ≤ W0.heap.size := by omega
  refine range_pieces 20 (by omega) (w.heap.size + 1 + 1 + 1 + 1) (w.heap.size + 1 + 1 + 1) (w.heap.size + 1 + 1 + 1 + 2) (by omega) (by omega) rfl s hs b4 b3 b5 rfl (Inv w.heap.size w) (Out w.heap.size w)
    (Inv.own _ _ hnw w (Nat.le_refl _)) (Out.own _ _ hnw w (Nat.le_refl _)) (fun pre A v h => h.set v) ⟨[], _, SoFar.nil, by simp, b2, World.ownsRow_nil _ _ _ _, b0, b1, hB0, by omega⟩
    (fun x => { tmps := #[.string s, undef, .pointer (some ⟨w.heap.size, 0, none⟩), .pointer (some ⟨w.heap.size + 1, 0, none⟩), .pointer (some ⟨w.heap.size + 1 + 1, 0, none⟩), .string x, undef, .string s, .bool true, .bool false, .string s, .int .i64 s.size,
      .bool (decide ((255 : Int) < s.size)), .string s, .func (.func 36) #[] #[.pointer (some ⟨w.heap.size + 1 + 1 + 1 + 1, 0, none⟩), .pointer (some ⟨w.heap.size + 1 + 1 + 1, 0, none⟩), .pointer (some ⟨w.heap.size + 1 + 1 + 1 + 2, 0, none⟩)],
      .string x, undef, undef, undef, undef, undef, undef, undef, undef, undef, undef, undef, undef, undef, undef, undef], defers := [] }) ?assign ?body ?done ?stop
  case assign =>
    intro l x W K hK
    gi_wp2
    exact hK
  case body =>
    rintro l pre x post W hsplit ⟨acc, v, h1, h2, h3, h4, h5, h6, h7, h8⟩
    have hxs := piece_small hsplit
    have hxb : x.size ≤ 140737488351232 := by omega
    have hc := h3.cell; have hc0 := h5.cell; have hc1 := h6.cell
    have hf := h3.frozen; have hf0 := h5.frozen; have hf1 := h6.frozen
    have H1 := Lib.hid h1
    clear h1
    obtain ⟨A, cap, rfl⟩ := row_slice h4
    have hm1 : acc.length + 1 ≤ maxLen := by unfold maxLen; omega
    have hn2 : w.heap.size + 2 ≤ W.heap.size := by have := h3.lt; omega
    gi_wp2_with (first
      | (gi_at_builtin; refine wpListIn_append_own _ rfl _ _ 26 rfl (w.heap.size + 6) 9 i0 (.string ⟨#[]⟩) 1 16 Tryd.underlying26 hi hz0 hz1 hz2 rfl (by decide) _ _ _ rfl (g4.alloc _) ⟨w2.heap.size, 0, none⟩ 1 1 [.string x] rfl rfl (cell_one_new _ _ _) (by simp [Value.oneCell']) (by omega) (by omega) (by have := hn6; simp; omega) ?_; intro v' w1 hown' hgrow _; obtain ⟨g', cap', rfl⟩ := ownsRow_succ hown'; obtain ⟨hv1, hv2, _, hk2, hb2⟩ := Boxed.appended g3 (by decide) (row_lower g4 (Nat.le_add_right _ 6)) (Nat.le_trans (Nat.le_add_right _ 6) hn6) (Nat.le_add_right _ 2) (row_lower hown' (Nat.le_add_right _ 6)) hgrow; have hr2 := hown'.kept (grownBy_setCell' _ (w.heap.size + 2) (.slice (some ⟨g', 0, none⟩) (acc.length + 1) cap')) (.inr (hv1.not_row (by decide) hown').symm); have hc9 := hv1.cell; have hf9 := hv1.frozen)
      | (refine ⟨trivial, ?_⟩; (gi_at_call 11; refine (CallsIn.inRound l (callsIn_wide.2 (name_any x hxb _))).mono ?_; rintro e w2 ⟨rfl, hb⟩; have Hb := Lib.hid hb; have g3 := (hb.block _ h3.lt).trans h3; have g4 := row_below h4 hb; have hn6 : w.heap.size + 6 ≤ w2.heap.size := Nat.le_trans h8 hb.size; have g5 := (hb.block _ h5.lt).trans h5; have g6 := (hb.block _ h6.lt).trans h6; clear hc hc0 hc1 hf hf0 hf1 hb; have hc := Boxed.cell g3; have hc0 := Boxed.cell g5; have hc1 := Boxed.cell g6; have hf := Boxed.frozen g3; have hf0 := Boxed.frozen g5; have hf1 := Boxed.frozen g6)))
    · have hx := isEmpty_toList (by assumption)
      exact ⟨KeepsFrom.refl _ _, ⟨rfl, rfl, rfl⟩, acc, _, H1.out.skip hx, h2, h3, h4, h5, h6, h7, h8⟩
    · exact out_laid (H1.out.bad (not_isEmpty (by assumption)) (name_ne (by assumption))) Hb.out h7 hn2 g5 g6 _
    · have h16 : ((acc.length : Int) == 16) = true := by assumption
      exact out_laid (H1.out.full (not_isEmpty (by assumption)) (name_eq (by assumption)) (by have := beq_iff_eq.1 h16; omega)) Hb.out h7 hn2 g5 g6 _
    · have h16 : ((acc.length : Int) == 16) = false := by assumption
      have h16' : acc.length ≠ 16 := by have := beq_eq_false_iff_ne.1 h16; omega
      refine ⟨((others_below Hb.out).trans hk2).from _, kept3_app Hb.out hgrow (own_ge g4) h8 _, acc ++ [x], _, H1.out.more (not_isEmpty (by assumption)) (name_eq (by assumption)) h16', ?_, hv2, ?_, ?_, ?_, ?_, ?_⟩
      · rw [List.length_append, List.length_singleton]; omega
      · rw [List.length_append, List.map_append]; exact hr2
      · exact (app_block Hb.out hgrow (own_ge g4) h8 _ _ (by omega) (by omega)).trans h5
      · exact (app_block Hb.out hgrow (own_ge g4) h8 _ _ (by omega) (by omega)).trans h6
      · exact h7.trans ((Hb.out.mono (Nat.le_trans (Nat.le_add_right _ 6) h8)).trans hb2)
      · exact Nat.le_trans hn6 hb2.size
  case done =>
    rintro D W hD ⟨acc, v, h1, h2, h3, h4, h5, h6, h7, h8⟩ hK
    have hc := h3.cell; have hc0 := h5.cell; have hc1 := h6.cell
    have hf := h3.frozen; have hf0 := h5.frozen; have hf1 := h6.frozen
    have H1 := Lib.hid h1
    clear h1
    obtain ⟨A, cap, rfl⟩ := row_slice h4
    gi_wp2
    rw [Exit.noGoto_ret]
    have hK2 : ((W.setCell ⟨w.heap.size, 0, none⟩ (.slice A acc.length cap)).setCell ⟨w.heap.size + 1, 0, none⟩ (.int .i64 0)).heap[D]? = some (.deferred (some [])) :=
      (Below.heap_setCell _ _ _ _ (by show D ≠ w.heap.size + 1; omega)).trans ((Below.heap_setCell _ _ _ _ (by show D ≠ w.heap.size; omega)).trans hK)
    have g5 := (h5.set (.slice A acc.length cap)).other (B' := w.heap.size + 1) (by omega) (.int .i64 0)
    have g6 := (h6.other (B' := w.heap.size) (by omega) (.slice A acc.length cap)).set (.int .i64 0)
    have g4 : ((W.setCell ⟨w.heap.size, 0, none⟩ (.slice A acc.length cap)).setCell ⟨w.heap.size + 1, 0, none⟩ (.int .i64 0)).ownsRow (w.heap.size + 6) 9 1 (.slice A acc.length cap) acc.length (acc.map .string) := by
      have ne : ∀ b, b < w.heap.size + 6 → (Value.slice A acc.length cap).ownBlock = none ∨ (Value.slice A acc.length cap).ownBlock ≠ some b := fun b hb => .inr fun e => by have := own_ge h4 _ e; omega
      exact (h4.kept (grownBy_setCell' _ _ _) (ne _ (by omega))).kept (grownBy_setCell' _ _ _) (ne _ (by omega))
    have hbl := (h7.setCell (p := ⟨w.heap.size, 0, none⟩) (Nat.le_refl _) (.slice A acc.length cap)).setCell (p := ⟨w.heap.size + 1, 0, none⟩) (by show w.heap.size ≤ w.heap.size + 1; omega) (.int .i64 0)
    have hres := H1.out []
    rw [List.append_nil] at hres
    have hp : (piecesB s).map ofBs = Sp.pieces (ofBs s) := by
      unfold piecesB
      rw [List.map_map]
      exact List.map_id' _
    rw [hp] at hres
    have hres2 : Sp.scan (Sp.pieces (ofBs s)) [] = (acc.map ofBs, 0) := hres
    refine ⟨by simp, .inl ⟨_, _, rfl, run_takeDeferred hK2, ?_⟩⟩
    refine ⟨_, results_two (b := w.heap.size) rfl rfl (cell_kept g5.cell (grownBy_putObj' _ D _) (fun r e => by cases e; exact ⟨_, hK2, rfl⟩)) (cell_kept g6.cell (grownBy_putObj' _ D _) (fun r e => by cases e; exact ⟨_, hK2, rfl⟩)), .slice A acc.length cap, ?_, ?_, ?_⟩
    · rw [hres2]
    · rw [hres2]
      simp only [List.length_map, List.map_map]
      have e : ((fun l => Value.string (bsOf l)) ∘ ofBs) = Value.string := by funext x; exact congrArg Value.string (bsOf_ofBs x)
      rw [e]
      exact ownsRow_putObj (row_lower g4 (Nat.le_add_right _ 6)) _ hK2 rfl
    · exact hbl.trans (belowK_b (w := w) (Nat.le_refl _) _ D _ _ (by omega) hK2 rfl rfl)
  case stop =>
    rintro D c pre x post W hD hsplit ⟨rfl, r, h1, h5, h6, h7⟩ hK
    gi_wp2
    rw [Exit.noGoto_ret]
    have hres := h1 (post.map ofBs)
    have hp : (piecesB s).map ofBs = Sp.pieces (ofBs s) := by
      unfold piecesB
      rw [List.map_map]
      exact List.map_id' _
    rw [← List.map_append, List.append_assoc, List.singleton_append, ← hsplit, hp] at hres
    refine ⟨by simp, .inl ⟨_, _, rfl, run_takeDeferred hK, ?_⟩⟩
    refine ⟨_, results_two (b := w.heap.size) rfl rfl (cell_kept h5.cell (grownBy_putObj' _ D _) (fun r e => by cases e; exact ⟨_, hK, rfl⟩)) (cell_kept h6.cell (grownBy_putObj' _ D _) (fun r e => by cases e; exact ⟨_, hK, rfl⟩)), .slice none 0 0, ?_, ?_, ?_⟩
    · rw [hres]
    · rw [hres]
      exact World.ownsRow_nil _ _ _ _
    · exact h7.trans (belowK_b (w := w) (Nat.le_refl _) _ D _ _ (by omega) hK rfl rfl)
end Go.Proofs.YtpnpbpgdclhbaaaDoor.PQ
