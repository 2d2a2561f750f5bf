/-
  A machine of this session's own that runs calls of the program on values that are known in part, and its proof, part 2 of 4: what it answers, the model answers.
-/
import Derived.Test.YteaacjabcfopgaaGreatA1
import Derived.Laws.StructEq
import Derived.Control
import Derived.Calls
import Derived.Orders
set_option linter.unusedVariables false
set_option linter.unusedSimpArgs false
namespace Go.Proofs.YteaacjabcfopgaaGreat.Am
open Go.RowKit
noncomputable section
section
variable {P : Program} {w0 : Base} {φ : Phi} {h : H} {w : World} {C : Ctx} {tmps : T AV} {ρ : Operand → Value}
theorem RH.move (hR : RH w0 φ h w) {id : Nat} {b b' : Blk} {p q : PB} {w' : World} {o : Obj} (hg : h.h.get id = some b) (hp : φ id = some p) (hw : One p.blk w w') (ho : w'.heap[p.blk]? = some o) (hq : q.blk = p.blk) (hb : RB (φ.add h.next q) q b' o) :
    RH w0 (φ.add h.next q) ((h.drop id).new b') w' := by
  have hle : φ.le (φ.add h.next q) := Phi.le_add hR.none_at
  have old : ∀ i, i ≠ h.next → (φ.add h.next q) i = φ i := fun i hi => by unfold Phi.add; rw [if_neg hi]
  have stay : ∀ i b1, ((h.drop id).h.put h.next b').get i = some b1 → i ≠ h.next → i ≠ id ∧ h.h.get i = some b1 := fun i b1 g hi => by
    rcases T.get_put g with ⟨e, _⟩ | ⟨_, g⟩
    · exact absurd e hi
    · exact T.get_del g
  refine ⟨?_, ?_, ?_, ?_, ?_, fun id hi => ⟨by rw [old _ (Nat.ne_of_lt (hR.rsv id hi).2)]; exact (hR.rsv id hi).1, Nat.lt_succ_of_lt (hR.rsv id hi).2⟩, Phi.le_trans hR.up hle⟩
  · intro i b1 r g1 h1
    by_cases hi : i = h.next
    · subst hi
      rw [Phi.add_at] at h1
      cases h1
      rcases T.get_put g1 with ⟨_, rfl⟩ | ⟨e, _⟩
      · exact ⟨o, by rw [hq]; exact ho, hb⟩
      · exact absurd rfl e
    · obtain ⟨hne, g1⟩ := stay i b1 g1 hi
      rw [old _ hi] at h1
      obtain ⟨o', h2, h3⟩ := hR.blk i b1 r g1 h1
      refine ⟨o', (hw.block _ ?_).trans h2, h3.mono hle⟩
      intro e
      exact hne (hR.inj _ _ _ _ _ _ g1 hg h1 hp e)
  · intro i j b1 b2 p1 p2 g1 g2 e1 e2 e
    by_cases hi : i = h.next
    · by_cases hj : j = h.next
      · rw [hi, hj]
      · subst hi
        rw [Phi.add_at] at e1
        cases e1
        rw [old _ hj] at e2
        obtain ⟨hne, g2⟩ := stay j b2 g2 hj
        exact absurd (hR.inj _ _ _ _ _ _ g2 hg e2 hp (e.symm.trans hq)) hne
    · rw [old _ hi] at e1
      obtain ⟨hne, g1⟩ := stay i b1 g1 hi
      by_cases hj : j = h.next
      · subst hj
        rw [Phi.add_at] at e2
        cases e2
        exact absurd (hR.inj _ _ _ _ _ _ g1 hg e1 hp (e.trans hq)) hne
      · rw [old _ hj] at e2
        obtain ⟨_, g2⟩ := stay j b2 g2 hj
        exact hR.inj _ _ _ _ _ _ g1 g2 e1 e2 e
  · intro i r e
    rw [hw.size]
    by_cases hi : i = h.next
    · subst hi
      rw [Phi.add_at] at e
      cases e
      rw [hq]
      exact hR.own id p hp
    · rw [old _ hi] at e
      exact hR.own i r e
  · intro i hi
    have hi' : h.next + 1 ≤ i := hi
    have := hR.fresh i (by omega)
    refine ⟨by rw [old _ (by omega)]; exact this.1, ?_⟩
    show ((h.drop id).h.put h.next b').get i = none
    cases e : ((h.drop id).h.put h.next b').get i with
    | none => rfl
    | some y =>
      obtain ⟨_, g⟩ := stay i y e (by omega)
      rw [this.2] at g
      cases g
  · exact hR.bel.trans (hw.below (hR.own id p hp).1)
def growR (h : H) (size need : Nat) (all : List AV) (ish : Bool) : R := .val (.slice h.next 0 need (.own size)) (h.new (.cells all.length (T.ofList all) ish))
theorem growR_ok (hR : RH w0 φ h w) {s : Sem Value} {size need c : Nat} {e : TypeId} {all : List AV} {ish : Bool} {us rest : List Value} (hr : RL φ all us) (ho : ∀ v ∈ us, v.oneCell' = true) (hlen : us.length + rest.length = c * size) (hc : need ≤ c)
    (hs : s.run P w = .ok (.slice (some ⟨w.heap.size, 0, none⟩) need c) (w.drew.alloc (.cells (us ++ rest).toArray e))) : OkR P w0 φ w (vN s) (growR h size need all ish) := by
  obtain ⟨ψ, p, g1, g2, g3, g4, g5, g7, g8⟩ := new_row (hR.drew (w.drawn + 1)) e hr ho (c * size) (by omega) rest hlen ish
  refine OkR.vw g1 g8 (.slice g2 hc (by show p.sh + 0 + c * size = p.N; omega)) ?_
  rw [g3]
  exact hs
theorem zero_cells_length (z : Array Value) (n : Nat) : (Builtin.zeroCells z n).toList.length = n * z.size := by simp [Builtin.zeroCells]
def appendR (C : Ctx) (h : H) (ds dx : Option TI) (s x : AV) : R :=
  match ds with
  | none => .stuck 26
  | some ds => (match ds.d with
    | .slice e => (match C.ty.get e with
      | none => .stuck 26
      | some i => cond (Nat.blt 0 i.size) (match appArg h i dx i.size x with
        | none => .stuck 26
        | some (n, news) => (match s with
          | .nils => cond (Nat.beq n 0) (.val .nils h) (cond (Nat.ble (Nat.mul n i.bytes) 140737488355328 && Nat.ble n 1099511627776) (growR h i.size n news false) (.stuck 26))
          | .slice id off len cap => (match h.load id off (Nat.mul len i.size) with
            | none => .stuck 26
            | some old => cond (Nat.ble (Nat.mul (Nat.add len n) i.bytes) 140737488355328 && Nat.ble (Nat.add len n) 1099511627776) (match cap with
              | .k c => cond (Nat.ble (Nat.add len n) c) (match h.store id (Nat.add off (Nat.mul len i.size)) news with
                | some h' => .val (.slice id off (Nat.add len n) (.k c)) h'
                | none => .stuck 26) (growR h i.size (Nat.add len n) (old ++ news) false)
              | .own es => cond (Nat.beq es i.size) (growR (h.drop id) i.size (Nat.add len n) (old ++ news) true) (.stuck 26)
              | .any => .stuck 26) (.stuck 26))
          | _ => .stuck 26)) (.stuck 26))
    | _ => .stuck 26)
theorem append_ok (hA : Agrees P C) (hR : RH w0 φ h w) {t tx ty : TypeId} {s x : AV} {s' x' : Value} (hs : RV φ s s') (hx : RV φ x x') :
    OkR P w0 φ w (vN (Builtin.append_ #[t, tx] ty #[s', x'])) (appendR C h (C.ty.get t) (C.ty.get tx) s x) := by
  unfold appendR
  split
  · trivial
  · rename_i ds hds
    have okd := hA.ty t ds hds
    split
    · rename_i e he
      have hut : P.underlying t = some (.slice e) := by rw [okd.und, he]
      split
      · trivial
      · rename_i i hi
        have oke := hA.ty e i hi
        obtain ⟨info, z, i1, i2, i3, i4, i5, i6, i7, i8, i9, i10⟩ := oke.info
        cases hz : Nat.blt 0 i.size with
        | false => trivial
        | true =>
          have hpos : 0 < i.size := Nat.le_of_ble_eq_true hz
          simp only [cond_true]
          split
          · trivial
          · rename_i n news ha
            obtain ⟨us, u1, u2, u3, u4⟩ := appArg_ok hA hR (e := e) i2 rfl i3 i4 i5 (i6 φ) i7 hx ha
            split
            · cases hs
              cases hn : Nat.beq n 0 with
              | true =>
                have := Nat.eq_of_beq_eq_true hn
                subst this
                refine OkR.v (v' := .slice none 0 0) hR .nils ?_
                rw [run_app_room hut i1 u4 (by omega)]
              | false =>
                have hn' : 0 < n := by
                  rcases Nat.eq_zero_or_pos n with h | h
                  · subst h; cases hn
                  · exact h
                simp only [cond_false]
                cases hb : (Nat.ble (Nat.mul n i.bytes) 140737488355328 && Nat.ble n 1099511627776) with
                | false => trivial
                | true =>
                  simp only [Bool.and_eq_true] at hb
                  have b1 : n * i.bytes ≤ 140737488355328 := Nat.le_of_ble_eq_true hb.1
                  have b2 := Nat.le_of_ble_eq_true hb.2
                  obtain ⟨c, c1, c2⟩ := run_app_grow (ty := ty) (olds := []) hut i1 i4 u4 (base := none) (sLen := 0) (sCap := 0) (fun w' _ => by simp [Builtin.firstCells]) (by omega) (by omega) (by rw [i3, Nat.zero_add]; exact b1)
                  simp only [Nat.zero_add] at c1 c2
                  refine growR_ok (rest := (Builtin.zeroCells z.cells (c - n)).toList) hR u1 u2 ?_ c1 (e := e) ?_
                  · rw [u3, zero_cells_length, i5, ← Nat.add_mul]
                    congr 1
                    omega
                  · rw [c2]
                    congr 3
                    apply Array.toList_inj.1
                    simp
            · cases hs with
              | slice hp hl hc =>
              rename_i id off len cap c p
              split
              · trivial
              · rename_i old hold
                obtain ⟨vs, v1, v2, v3, v4, v5⟩ := hR.load hold hp
                cases hb : (Nat.ble (Nat.mul (Nat.add len n) i.bytes) 140737488355328 && Nat.ble (Nat.add len n) 1099511627776) with
                | false => trivial
                | true =>
                  simp only [Bool.and_eq_true] at hb
                  have b1 : (len + n) * i.bytes ≤ 140737488355328 := Nat.le_of_ble_eq_true hb.1
                  have b2 : len + n ≤ 1099511627776 := Nat.le_of_ble_eq_true hb.2
                  simp only [cond_true]
                  have hfirst : ∀ w' : World, w'.heap = w.heap → (Builtin.firstCells info.size len (.slice (some (p.addr off)) len c)).run P w' = .ok vs.toArray w' := fun w' hw => by
                    have hc : ∀ j, j < vs.length → w'.cell? ((p.addr off).add j) = vs[j]? := fun j hj => by
                      have hcw : w'.cell? ((p.addr off).add j) = w.cell? ((p.addr off).add j) := by unfold World.cell?; rw [hw]
                      rw [hcw, addr_add]
                      have hj' : j < Nat.mul len i.size := by omega
                      exact v4 j hj'
                    have := run_loadCells (P := P) (w := w') (a := p.addr off) vs hc
                    rw [v1] at this
                    rw [i2]
                    simpa [Builtin.firstCells] using this
                  have hall : RL φ (old ++ news) (vs ++ us) := v2.append u1
                  have hone : ∀ v ∈ vs ++ us, v.oneCell' = true := fun v hv => by
                    rcases List.mem_append.1 hv with hv | hv
                    · exact v3 v hv
                    · exact u2 v hv
                  have hvl : vs.length = len * i.size := v1
                  have grow : ∀ (h' : H) (ish : Bool), RH w0 φ h' w → c < len + n → OkR P w0 φ w (vN (Builtin.append_ #[t, tx] ty #[.slice (some (p.addr off)) len c, x'])) (growR h' i.size (Nat.add len n) (old ++ news) ish) := fun h' ish hR' hlt => by
                    obtain ⟨c', c1, c2⟩ := run_app_grow (ty := ty) hut i1 i4 u4 (base := some (p.addr off)) (sLen := len) (sCap := c) hfirst hlt (by omega) (by rw [i3]; exact b1)
                    refine growR_ok (rest := (Builtin.zeroCells z.cells (c' - (len + n))).toList) hR' hall hone ?_ c1 (e := e) ?_
                    · rw [List.length_append, u3, hvl, zero_cells_length, i5, ← Nat.add_mul, ← Nat.add_mul]
                      congr 1
                      omega
                    · rw [c2]
                      congr 3
                      apply Array.toList_inj.1
                      simp
                  cases cap with
                  | k m =>
                    have hcm : c = m := hc
                    subst hcm
                    simp only
                    cases hroom : Nat.ble (Nat.add len n) c with
                    | true =>
                      have room : len + n ≤ c := Nat.le_of_ble_eq_true hroom
                      simp only [cond_true]
                      cases e1 : h.store id (Nat.add off (Nat.mul len i.size)) news with
                      | none => trivial
                      | some h' =>
                        obtain ⟨w', r1, r2⟩ := hR.store e1 hp u1
                        refine OkR.vw φ.le_refl r1 (v' := .slice (some (p.addr off)) (len + n) c) (.slice hp room rfl) ?_
                        rw [run_app_room hut i1 u4 room]
                        simp only
                        rw [addr_add, i2]
                        have r3 : (storeCells (p.addr (off + len * i.size)) us).run P w = .ok () w' := r2 P
                        rw [r3]
                        rfl
                    | false =>
                      simp only [cond_false]
                      refine grow h false hR ?_
                      rcases Nat.lt_or_ge c (len + n) with h | h
                      · exact h
                      · have : Nat.ble (Nat.add len n) c = true := Nat.ble_eq_true_of_le h
                        rw [this] at hroom
                        cases hroom
                  | any => trivial
                  | own es =>
                    simp only
                    cases hes : Nat.beq es i.size with
                    | false => trivial
                    | true =>
                      have := Nat.eq_of_beq_eq_true hes
                      subst this
                      simp only [cond_true]
                      by_cases room : len + n ≤ c
                      · have hown : p.sh + off + c * i.size = p.N := hc
                        have hget : ∃ k cc ish, h.h.get id = some (.cells k cc ish) := by
                          unfold H.load loadB at hold
                          split at hold
                          · rename_i k cc ish hg
                            exact ⟨k, cc, ish, hg⟩
                          · cases hold
                        obtain ⟨k, cc, ish, hg⟩ := hget
                        obtain ⟨q, o, h1, h2, a, e', lo, hi', rfl, h3, h4, h5, h6, h7⟩ := hR.at hp hg
                        rw [hp] at h1
                        cases h1
                        have hmul : (len + n) * i.size ≤ c * i.size := Nat.mul_le_mul_right _ room
                        rw [Nat.add_mul] at hmul
                        obtain ⟨w', a', r1, r2, r3, r4, _, r6⟩ := run_storeCells (P := P) (p := p) (off := off + len * i.size) us 0 w a h2 (by omega) (fun j hj => h5 j (by omega)) u2
                        refine OkR.vw (ψ := φ.add h.next ⟨p.blk, p.sh + off, p.N⟩) (w' := w') (v' := .slice (some (p.addr off)) (len + n) c) (Phi.le_add hR.none_at) (hR.move hg hp r2 r3 rfl ⟨a', e', lo, hi', rfl, by rw [r4, h3], ?_, h5, (fun hf => by cases hf), ?_⟩) ?_ ?_
                        · simp only [hall.length, List.length_append, hvl, u3]
                          omega
                        · intro j av hgj hj
                          have hj' := T.get_ofList hgj
                          obtain ⟨v, w1, w2⟩ := hall.get j av hj'
                          refine ⟨v, ?_, w2.mono (Phi.le_add hR.none_at), hone v (List.mem_of_getElem? w1)⟩
                          have hjl : j < (vs ++ us).length := (List.getElem?_eq_some_iff.1 w1).1
                          rw [List.length_append, hvl] at hjl
                          show a'[p.sh + off + j]? = some v
                          rw [r6]
                          by_cases hjv : j < len * i.size
                          · rw [if_neg (by omega)]
                            rw [List.getElem?_append_left (by omega)] at w1
                            have := v4 j hjv
                            rw [cell_at h2, w1] at this
                            rw [← this]
                            congr 1
                            omega
                          · rw [if_pos (by omega)]
                            rw [List.getElem?_append_right (by omega), hvl] at w1
                            rw [← w1]
                            congr 1
                            omega
                        · exact .slice (p := ⟨p.blk, p.sh + off, p.N⟩) (Phi.add_at _ _ _) room hown
                        · rw [run_app_room hut i1 u4 room]
                          simp only
                          rw [addr_add, i2, r1]
                          rfl
                      · exact grow (h.drop id) true (hR.drop id) (by omega)
            · trivial
    · trivial
end
end
end Go.Proofs.YteaacjabcfopgaaGreat.Am
namespace Go.Proofs.YteaacjabcfopgaaGreat.Am
open Go.RowKit
noncomputable section
section
variable {P : Program} {w0 : Base} {φ : Phi} {h : H} {w : World} {C : Ctx} {tmps : T AV} {ρ : Operand → Value}
def copySrc (h : H) (size n : Nat) (x : AV) : Option (List AV) :=
  match x with
  | .nils => some []
  | .slice id off _ _ => h.load id off (Nat.mul n size)
  | .str s => cond (Nat.beq size 1) (some (byteCells (s.take n))) none
  | _ => none
def lenA : AV → Option Nat
  | .nils => some 0
  | .slice _ _ n _ => some n
  | .str s => some s.length
  | _ => none
theorem lenA_ok {x : AV} {x' : Value} {n : Nat} (hx : RV φ x x') (hl : lenA x = some n) : ∀ w, (Builtin.lenOf x').run P w = .ok n w := by
  intro w
  unfold lenA at hl
  split at hl
  · cases hx; cases hl; simp [Builtin.lenOf]
  · cases hx; cases hl; simp [Builtin.lenOf]
  · cases hx
    cases hl
    rename_i s
    have : (s.data.toList.map UInt8.toNat).length = s.size := by rw [List.length_map, Array.length_toList]; rfl
    rw [this]
    simp [Builtin.lenOf]
  · cases hl
theorem copySrc_ok (hR : RH w0 φ h w) {size n : Nat} {x : AV} {x' : Value} {l : List AV} (hx : RV φ x x') (hl : copySrc h size n x = some l) (hn : ∀ m, lenA x = some m → n ≤ m) :
    ∃ us : List Value, RL φ l us ∧ (Builtin.firstCells size n x').run P w = .ok us.toArray w := by
  unfold copySrc at hl
  split at hl
  · cases hx; cases hl
    exact ⟨[], .nil, by simp [Builtin.firstCells]⟩
  · cases hx with
    | slice hp h1 h2 =>
    obtain ⟨vs, v1, v2, v3, v4, v5⟩ := hR.load hl hp
    exact ⟨vs, v2, by simpa [Builtin.firstCells] using v5 P⟩
  · cases hx with
    | str s =>
    cases hs : Nat.beq size 1 with
    | false => rw [hs] at hl; cases hl
    | true =>
      rw [hs] at hl
      have hl' := Option.some.inj hl
      subst hl'
      refine ⟨(s.data.toList.take n).map fun b => Value.int .u8 b.toNat, ?_, ?_⟩
      · rw [← List.map_take]
        exact byteCells_RL φ _
      · simp only [Builtin.firstCells, Sem.run_pure]
        congr 1
        apply Array.toList_inj.1
        rw [Array.toList_map, ByteArray.data_extract, Array.toList_extract, List.extract_eq_take_drop]
        simp
  · cases hl
def copyR (C : Ctx) (h : H) (ds : Option TI) (d x : AV) : R :=
  match ds with
  | none => .stuck 27
  | some ds => (match ds.d with
    | .slice e => (match sizeT C e with
      | none => .stuck 27
      | some size => (match lenA x with
        | none => .stuck 27
        | some m => (match d with
          | .nils => (match copySrc h size 0 x with
            | some _ => .val (.int .i64 (Int.ofNat 0)) h
            | none => .stuck 27)
          | .slice id off len _ => (match copySrc h size (Nat.min m len) x with
            | none => .stuck 27
            | some l => (match h.store id off l with
              | some h' => .val (.int .i64 (Int.ofNat (Nat.min m len))) h'
              | none => .stuck 27))
          | _ => .stuck 27)))
    | _ => .stuck 27)
theorem copy_ok (hA : Agrees P C) (hR : RH w0 φ h w) {t ty : TypeId} {ts : Array TypeId} (ht : ts[0]? = some t) {d x : AV} {d' x' : Value} (hd : RV φ d d') (hx : RV φ x x') :
    OkR P w0 φ w (vN (Builtin.copy_ ts ty #[d', x'])) (copyR C h (C.ty.get t) d x) := by
  unfold copyR
  split
  · trivial
  · rename_i ds hds
    have okd := hA.ty t ds hds
    split
    · rename_i e he
      have hu : ∀ w, (underlying t).run P w = .ok (.slice e) w := fun w => by rw [okd.underlying, he]
      split
      · trivial
      · rename_i size hsz
        have hs := sizeT_ok hA hsz
        split
        · trivial
        · rename_i m hm
          have hlen := lenA_ok (P := P) hx hm
          split
          · cases hd
            split
            · rename_i l hl
              obtain ⟨us, u1, u2⟩ := copySrc_ok (P := P) hR hx hl (fun m _ => Nat.zero_le _)
              refine OkR.v (v' := .int .i64 (Int.ofNat 0)) hR (.int _ _) ?_
              simp [Builtin.copy_, ht, hu, hlen, hs, u2, goInt]
            · trivial
          · cases hd with
            | slice hp h1 h2 =>
            rename_i id off len cap c p
            split
            · trivial
            · rename_i l hl
              obtain ⟨us, u1, u2⟩ := copySrc_ok (P := P) hR hx hl (fun m' hm' => by
                rw [hm] at hm'
                cases hm'
                exact Nat.min_le_left _ _)
              cases e1 : h.store id off l with
              | none => trivial
              | some h' =>
                obtain ⟨w', r1, r2⟩ := hR.store e1 hp u1
                refine OkR.vw φ.le_refl r1 (v' := .int .i64 (Int.ofNat (Nat.min m len))) (.int _ _) ?_
                have r3 := r2 P
                have u3 : (Builtin.firstCells size (min m len) x').run P w = .ok us.toArray w := u2
                simp [Builtin.copy_, ht, hu, hlen, hs, u3, r3, goInt]
          · trivial
    · trivial
def mx2 (mx : Bool) (a b : Int) : Int := cond mx (if b > a then b else a) (if b < a then b else a)
theorem mx2_mono (mx : Bool) {al ah bl bh a b : Int} (a1 : al ≤ a) (a2 : a ≤ ah) (b1 : bl ≤ b) (b2 : b ≤ bh) : mx2 mx al bl ≤ mx2 mx a b ∧ mx2 mx a b ≤ mx2 mx ah bh := by
  cases mx <;> simp only [mx2, cond_true, cond_false] <;> constructor <;> repeat' split <;> omega
def mmB (mx : Bool) (x y : AV) : Option AV :=
  match bnd x, bnd y with
  | some (al, ah), some (bl, bh) => mkI (mx2 mx al bl) (mx2 mx ah bh)
  | _, _ => none
theorem mmB_ok {mx : Bool} {x y : AV} {x' y' : Value} {v : AV} (h : mmB mx x y = some v) (hx : RV φ x x') (hy : RV φ y y') : ∃ a b, x' = .int .i64 a ∧ y' = .int .i64 b ∧ RV φ v (.int .i64 (mx2 mx a b)) := by
  unfold mmB at h
  split at h
  · rename_i al ah bl bh e1 e2
    obtain ⟨n, rfl, p1, p2⟩ := bnd_ok hx e1
    obtain ⟨m, rfl, q1, q2⟩ := bnd_ok hy e2
    have hm := mx2_mono mx p1 p2 q1 q2
    exact ⟨n, m, rfl, rfl, (mkI_ok (φ := φ) h hm.1 hm.2).2⟩
  · cases h
def mmR (h : H) (mx : Bool) (x y : AV) : R :=
  match x with
  | .int k a => (match y with
    | .int _ b => .val (.int k (cond mx (if b > a then b else a) (if b < a then b else a))) h
    | y => (match mmB mx (.int k a) y with
      | some v => .val v h
      | none => .stuck 28))
  | x => (match mmB mx x y with
      | some v => .val v h
      | none => .stuck 28)
theorem max_ok (hR : RH w0 φ h w) {ts : Array TypeId} {ty : TypeId} {x y : AV} {x' y' : Value} (hx : RV φ x x') (hy : RV φ y y') : OkR P w0 φ w (vN (Builtin.max_ ts ty #[x', y'])) (mmR h true x y) := by
  unfold mmR
  split
  · split
    · cases hx; cases hy
      exact OkR.v (v' := .int _ _) hR (.int _ _) (by simp [Builtin.max_, Builtin.max2])
    · split
      · rename_i e
        obtain ⟨a, b, rfl, rfl, r⟩ := mmB_ok e hx hy
        exact OkR.v (v' := .int _ _) hR r (by simp [Builtin.max_, Builtin.max2, mx2])
      · trivial
  · split
    · rename_i e
      obtain ⟨a, b, rfl, rfl, r⟩ := mmB_ok e hx hy
      exact OkR.v (v' := .int _ _) hR r (by simp [Builtin.max_, Builtin.max2, mx2])
    · trivial
theorem min_ok (hR : RH w0 φ h w) {ts : Array TypeId} {ty : TypeId} {x y : AV} {x' y' : Value} (hx : RV φ x x') (hy : RV φ y y') : OkR P w0 φ w (vN (Builtin.min_ ts ty #[x', y'])) (mmR h false x y) := by
  unfold mmR
  split
  · split
    · cases hx; cases hy
      exact OkR.v (v' := .int _ _) hR (.int _ _) (by simp [Builtin.min_, Builtin.min2])
    · split
      · rename_i e
        obtain ⟨a, b, rfl, rfl, r⟩ := mmB_ok e hx hy
        exact OkR.v (v' := .int _ _) hR r (by simp [Builtin.min_, Builtin.min2, mx2])
      · trivial
  · split
    · rename_i e
      obtain ⟨a, b, rfl, rfl, r⟩ := mmB_ok e hx hy
      exact OkR.v (v' := .int _ _) hR r (by simp [Builtin.min_, Builtin.min2, mx2])
    · trivial
def clearR (C : Ctx) (h : H) (ds : Option TI) (x : AV) : R :=
  match ds with
  | none => .stuck 29
  | some ds => (match ds.d with
    | .slice e => (match x with
      | .nils => .val (.tup []) h
      | .slice id off len _ => (match C.ty.get e with
        | none => .stuck 29
        | some i => cond (Nat.blt 0 i.size && Nat.blt 0 len) (match h.store id off (repL i.zero len) with
          | some h' => .val (.tup []) h'
          | none => .stuck 29) (cond (Nat.beq len 0) (.val (.tup []) h) (.stuck 29)))
      | _ => .stuck 29)
    | .map _ _ => (match x with
      | .nilm => .val (.tup []) h
      | .map id => (match h.h.get id with
        | some (.map _ cl) => .val (.tup []) (h.upd id (.map [] cl))
        | _ => .stuck 29)
      | _ => .stuck 29)
    | _ => .stuck 29)
theorem clear_ok (hA : Agrees P C) (hR : RH w0 φ h w) {t ty : TypeId} {ts : Array TypeId} (ht : ts[0]? = some t) {x : AV} {x' : Value} (hx : RV φ x x') : OkR P w0 φ w (vN (Builtin.clear_ ts ty #[x'])) (clearR C h (C.ty.get t) x) := by
  unfold clearR
  split
  · trivial
  · rename_i ds hds
    have okd := hA.ty t ds hds
    split
    · rename_i e he
      have hu : ∀ w, (underlying t).run P w = .ok (.slice e) w := fun w => by rw [okd.underlying, he]
      split
      · cases hx
        exact OkR.v (v' := .tuple #[]) hR (.tup .nil) (by simp [Builtin.clear_, ht, hu])
      · cases hx with
        | slice hp h1 h2 =>
        rename_i id off len cap c p
        split
        · trivial
        · rename_i i hi
          have oke := hA.ty e i hi
          cases hb : (Nat.blt 0 i.size && Nat.blt 0 len) with
          | true =>
            simp only [Bool.and_eq_true] at hb
            have b1 : 0 < i.size := Nat.le_of_ble_eq_true hb.1
            have b2 : 0 < len := Nat.le_of_ble_eq_true hb.2
            simp only [cond_true]
            cases e1 : h.store id off (repL i.zero len) with
            | none => trivial
            | some h' =>
              obtain ⟨z, z1, z2, z3, z4, _⟩ := oke.zero φ
              obtain ⟨rp1, rp2⟩ := rep_ok z3 z4 len
              obtain ⟨w', r1, r2⟩ := hR.store e1 hp rp1
              refine OkR.vw φ.le_refl r1 (v' := .tuple #[]) (.tup .nil) ?_
              have hzl : z.cells.toList.length = i.size := by rw [Array.length_toList]; exact z2
              have hrow : (Builtin.zeroCells z.cells len).toList = repV z.cells.toList len := by
                have := rowOf z.cells.toList len (by rw [hzl]; exact b1)
                unfold Builtin.zeroCells
                have h2 : len * z.cells.size = len * z.cells.toList.length := by rw [Array.length_toList]
                rw [h2]
                have h3 := congrArg Array.toList this
                simpa using h3
              obtain ⟨n, rfl⟩ : ∃ n, len = n + 1 := ⟨len - 1, by omega⟩
              have r3 := r2 P
              simp [Builtin.clear_, ht, hu, z1, hrow, r3]
          | false =>
            simp only [cond_false]
            cases h0 : Nat.beq len 0 with
            | false => trivial
            | true =>
              have := Nat.eq_of_beq_eq_true h0
              subst this
              exact OkR.v (v' := .tuple #[]) hR (.tup .nil) (by simp [Builtin.clear_, ht, hu])
      · trivial
    · rename_i k e he
      have hu : ∀ w, (underlying t).run P w = .ok (.map k e) w := fun w => by rw [okd.underlying, he]
      split
      · cases hx
        exact OkR.v (v' := .tuple #[]) hR (.tup .nil) (by simp [Builtin.clear_, ht, hu])
      · cases hx with
        | map hp =>
        rename_i id p
        split
        · rename_i es cl hg
          obtain ⟨q, o, h1, h2, es', rfl, hes⟩ := hR.at hp hg
          rw [hp] at h1
          cases h1
          have hlt := (hR.own id p hp).2
          refine OkR.vw (w' := { w with heap := w.heap.setIfInBounds p.blk (.map #[] cl) }) φ.le_refl (hR.upd hg hp (One.obj w p.blk _) (o := .map #[] cl) (by simp [hlt]) ⟨#[], rfl, .nil⟩) (v' := .tuple #[]) (.tup .nil) ?_
          simp [Builtin.clear_, ht, hu, getObj, setObj, Sem.run, h2]
        · trivial
      · trivial
    · trivial
end
end
end Go.Proofs.YteaacjabcfopgaaGreat.Am
namespace Go.Proofs.YteaacjabcfopgaaGreat.Am
open Go.RowKit
noncomputable section
section
variable {P : Program} {w0 : Base} {φ : Phi} {h : H} {w : World} {C : Ctx} {tmps : T AV} {ρ : Operand → Value}
def eqInt : AV → AV → Option Bool
  | .int k a, .int k' b => cond (decide (k = k')) (some (decide (a = b))) none
  | _, _ => none
def pairE (x y : AV) : Option Bool :=
  match x, y with
  | .agg [a, b], .agg [c, f] => (match eqInt a c with
    | some true => eqInt b f
    | some false => (match eqInt b f with
      | some _ => some false
      | none => none)
    | none => none)
  | _, _ => none
def okF2 (C : Ctx) (fs : Array Field) : Bool :=
  match fs.toList with
  | [f, g] => f.name != "_" && g.name != "_" && Nat.beq f.offset 0 && Nat.beq g.offset 1 && isInt1 (C.ty.get f.type) && isInt1 (C.ty.get g.type)
  | _ => false
def eqK (C : Ctx) (i : TI) (x y : AV) : Option Bool :=
  match i.d with
  | .int _ => eqInt x y
  | .string => (match x, y with
    | .str a, .str b => some (beqL a b)
    | _, _ => none)
  | .array n e => cond (Nat.beq n 2 && isInt1 (C.ty.get e)) (pairE x y) none
  | .struct fs => cond (i.sp && okF2 C fs) (pairE x y) none
  | _ => none
theorem eqInt_ok {x y : AV} {x' y' : Value} {b : Bool} (hx : RV φ x x') (hy : RV φ y y') (he : eqInt x y = some b) : ∃ k a c, x' = .int k a ∧ y' = .int k c ∧ b = decide (a = c) := by
  unfold eqInt at he
  split at he
  · rename_i k a k' c
    by_cases hk : k = k'
    · subst hk
      rw [decide_eq_true rfl] at he
      cases hx; cases hy
      exact ⟨k, a, c, rfl, rfl, (Option.some.inj he).symm⟩
    · rw [decide_eq_false hk] at he
      cases he
  · cases he
theorem bytes_beq (a b : ByteArray) : (a == b) = (a.data.toList == b.data.toList) := by
  show (a.data == b.data) = _
  rw [Array.beq_toList]
theorem eqInt_run {e : TypeId} {kk k : IntKind} {a c : Int} (hue : ∀ w, (underlying e).run P w = .ok (.int kk) w) (m : Nat) (w : World) : (Op.equalIn (m + 1) e (.int k a) (.int k c)).run P w = .ok (a == c) w := by
  simp [Op.equalIn, hue]
theorem eqPair_run {t e : TypeId} {kk k1 k2 : IntKind} {a1 c1 a2 c2 : Int} (hu : ∀ w, (underlying t).run P w = .ok (.array 2 e) w) (hue : ∀ w, (underlying e).run P w = .ok (.int kk) w) (hse : ∀ w, (sizeOf e).run P w = .ok 1 w) (hag : ∀ w, (Go.isAgg e).run P w = .ok false w) (m : Nat) (w : World) :
    (Op.equalIn (m + 1 + 1) t (.agg #[.int k1 a1, .int k2 a2]) (.agg #[.int k1 c1, .int k2 c2])).run P w = .ok (decide (a1 = c1) && decide (a2 = c2)) w := by
  have h1 := eqInt_run (k := k1) (a := a1) (c := c1) hue m
  have h2 := eqInt_run (k := k2) (a := a2) (c := c2) hue m
  unfold Op.equalIn
  simp only [Sem.run_bind, hu, Result.andThen_ok]
  simp [hse, part, hag, Std.Legacy.Range.forIn_eq_forIn_range', Std.Legacy.Range.size, List.range', h1, h2]
  by_cases e1 : a1 = c1 <;> by_cases e2 : a2 = c2 <;> simp [e1, e2]
theorem pairE_ok {x y : AV} {x' y' : Value} {b : Bool} (hx : RV φ x x') (hy : RV φ y y') (he : pairE x y = some b) :
    ∃ k1 k2 a1 a2 c1 c2, x' = .agg #[.int k1 a1, .int k2 a2] ∧ y' = .agg #[.int k1 c1, .int k2 c2] ∧ b = (decide (a1 = c1) && decide (a2 = c2)) := by
  unfold pairE at he
  split at he
  · rename_i a b' c f
    cases hx with
    | agg ha ho =>
    cases hy with
    | agg hb ho2 =>
    cases ha with
    | cons ha1 ha2 =>
    cases ha2 with
    | cons ha3 ha4 =>
    cases ha4
    cases hb with
    | cons hb1 hb2 =>
    cases hb2 with
    | cons hb3 hb4 =>
    cases hb4
    split at he
    · rename_i e1
      obtain ⟨k1, a1, c1, rfl, rfl, q1⟩ := eqInt_ok ha1 hb1 e1
      obtain ⟨k2, a2, c2, rfl, rfl, q2⟩ := eqInt_ok ha3 hb3 he
      exact ⟨k1, k2, a1, a2, c1, c2, rfl, rfl, by rw [← q1, Bool.true_and]; exact q2⟩
    · rename_i e1
      obtain ⟨k1, a1, c1, rfl, rfl, q1⟩ := eqInt_ok ha1 hb1 e1
      split at he
      · cases he
        rename_i e2
        obtain ⟨k2, a2, c2, rfl, rfl, q2⟩ := eqInt_ok ha3 hb3 e2
        exact ⟨k1, k2, a1, a2, c1, c2, rfl, rfl, by rw [← q1, Bool.false_and]⟩
      · cases he
    · cases he
  · cases he
theorem okF2_ok {fs : Array Field} (h : okF2 C fs = true) : ∃ f g, fs = #[f, g] ∧ f.name ≠ "_" ∧ g.name ≠ "_" ∧ f.offset = 0 ∧ g.offset = 1 ∧ isInt1 (C.ty.get f.type) = true ∧ isInt1 (C.ty.get g.type) = true := by
  unfold okF2 at h
  split at h
  · rename_i f g e
    simp only [Bool.and_eq_true, bne_iff_ne, ne_eq] at h
    exact ⟨f, g, Array.toList_inj.1 e, h.1.1.1.1.1, h.1.1.1.1.2, Nat.eq_of_beq_eq_true h.1.1.1.2, Nat.eq_of_beq_eq_true h.1.1.2, h.1.2, h.2⟩
  · cases h
theorem eqPairS_run {t : TypeId} {f g : Field} {q1 q2 k1 k2 : IntKind} {a1 c1 a2 c2 : Int} (hd : P.underlying t = some (.struct #[f, g])) (hp : P.stoodInHeld t = false) (hf : f.name ≠ "_") (hg : g.name ≠ "_") (of : f.offset = 0) (og : g.offset = 1)
    (hu1 : ∀ w, (underlying f.type).run P w = .ok (.int q1) w) (hu2 : ∀ w, (underlying g.type).run P w = .ok (.int q2) w) (hag1 : ∀ w, (Go.isAgg f.type).run P w = .ok false w) (hag2 : ∀ w, (Go.isAgg g.type).run P w = .ok false w) (m : Nat) (w : World) :
    (Op.equalIn (m + 1 + 1) t (.agg #[.int k1 a1, .int k2 a2]) (.agg #[.int k1 c1, .int k2 c2])).run P w = .ok (decide (a1 = c1) && decide (a2 = c2)) w := by
  have h1 := eqInt_run (k := k1) (a := a1) (c := c1) hu1 m
  have h2 := eqInt_run (k := k2) (a := a2) (c := c2) hu2 m
  have hfs : P.fieldsOf t = #[f, g] := by simp [Program.fieldsOf, hd]
  rw [run_equalIn_struct (P := P) w (m + 1) t _ _ (by rw [hfs]; exact hd) hp, hfs]
  simp only [Op.eqFields, if_pos hf, if_pos hg, of, og, Sem.run_bind, part, hag1, hag2, Result.andThen_ok, Bool.false_eq_true, if_false]
  simp [h1, h2]
  by_cases e1 : a1 = c1 <;> by_cases e2 : a2 = c2 <;> simp [e1, e2, hag2, h2]
theorem eqK_in (hA : Agrees P C) {t : TypeId} {i : TI} (hi : C.ty.get t = some i) {x y : AV} {x' y' : Value} {b : Bool} (hx : RV φ x x') (hy : RV φ y y') (he : eqK C i x y = some b) (w : World) (m : Nat) :
    (Op.equalIn (m + 1 + 1) t x' y').run P w = .ok b w := by
  have ok := hA.ty t i hi
  have hu : ∀ w, (underlying t).run P w = .ok i.d w := fun w => ok.underlying
  unfold eqK at he
  split at he
  · rename_i k hk
    rw [hk] at hu
    obtain ⟨k', a, c, rfl, rfl, rfl⟩ := eqInt_ok hx hy he
    simp [Op.equalIn, hu]
    by_cases e : a = c <;> simp [e]
  · rename_i hk
    rw [hk] at hu
    split at he
    · cases hx with
      | str s =>
      cases hy with
      | str s' =>
      have he' := Option.some.inj he
      rw [beqL_ok, ← bytes_beq] at he'
      simp [Op.equalIn, hu, he']
    · cases he
  · rename_i n e hk
    rw [hk] at hu
    cases hc : (Nat.beq n 2 && isInt1 (C.ty.get e)) with
    | false => rw [hc] at he; cases he
    | true =>
      rw [hc] at he
      simp only [Bool.and_eq_true] at hc
      have hn := Nat.eq_of_beq_eq_true hc.1
      subst hn
      obtain ⟨kk, hue, hse, hag⟩ := isInt1_ok hA hc.2
      obtain ⟨k1, k2, a1, a2, c1, c2, rfl, rfl, rfl⟩ := pairE_ok hx hy he
      exact eqPair_run hu hue hse hag m w
  · rename_i fs hk
    cases hc : (i.sp && okF2 C fs) with
    | false => rw [hc] at he; cases he
    | true =>
      rw [hc] at he
      simp only [Bool.and_eq_true] at hc
      obtain ⟨f, g, rfl, n1, n2, o1, o2, i1, i2⟩ := okF2_ok hc.2
      obtain ⟨q1, hu1, _, hag1⟩ := isInt1_ok hA i1
      obtain ⟨q2, hu2, _, hag2⟩ := isInt1_ok hA i2
      obtain ⟨k1, k2, a1, a2, c1, c2, rfl, rfl, rfl⟩ := pairE_ok hx hy he
      exact eqPairS_run (by rw [ok.und, hk]) (ok.sp hc.1) n1 n2 o1 o2 hu1 hu2 hag1 hag2 m w
  · cases he
theorem eqK_ok (hA : Agrees P C) {t : TypeId} {i : TI} (hi : C.ty.get t = some i) {x y : AV} {x' y' : Value} {b : Bool} (hx : RV φ x x') (hy : RV φ y y') (he : eqK C i x y = some b) (w : World) :
    (Op.equal t x' y').run P w = .ok b w := eqK_in hA hi hx hy he w 9998
end
end
end Go.Proofs.YteaacjabcfopgaaGreat.Am
namespace Go.Proofs.YteaacjabcfopgaaGreat.Am
open Go.RowKit
noncomputable section
section
variable {P : Program} {w0 : Base} {φ : Phi} {h : H} {w : World} {C : Ctx} {tmps : T AV} {ρ : Operand → Value}
def isIntA : AV → Bool
  | .int _ _ => true
  | _ => false
def isPair (x : AV) : Bool :=
  match x with
  | .agg [a, b] => isIntA a && isIntA b
  | _ => false
def okKey (C : Ctx) (d : TypeDesc) (x : AV) : Bool :=
  match d with
  | .int _ => isIntA x
  | .string => (match x with
    | .str _ => true
    | _ => false)
  | .array n e => cond (Nat.beq n 2 && isInt1 (C.ty.get e)) (isPair x) false
  | .struct fs => cond (okF2 C fs) (isPair x) false
  | _ => false
theorem isIntA_ok {a : AV} {v : Value} (hv : RV φ a v) (hi : isIntA a = true) : ∃ k n, v = .int k n := by
  cases hv <;> first | (cases hi; done) | exact ⟨_, _, rfl⟩
theorem checkInt_run {em : Bool} {e : TypeId} {kk k : IntKind} {a : Int} (hue : ∀ w, (underlying e).run P w = .ok (.int kk) w) (m : Nat) (w : World) : (Instr.checkKey em (m + 1) e (.int k a)).run P w = .ok () w := by
  unfold Instr.checkKey
  simp only [Sem.run_bind, hue, Result.andThen_ok]
  rfl
theorem checkPair_run {em : Bool} {t e : TypeId} {kk k1 k2 : IntKind} {a1 a2 : Int} (hu : ∀ w, (underlying t).run P w = .ok (.array 2 e) w) (hue : ∀ w, (underlying e).run P w = .ok (.int kk) w) (hse : ∀ w, (sizeOf e).run P w = .ok 1 w) (hag : ∀ w, (Go.isAgg e).run P w = .ok false w) (m : Nat) (w : World) :
    (Instr.checkKey em (m + 1 + 1) t (.agg #[.int k1 a1, .int k2 a2])).run P w = .ok () w := by
  have h1 := checkInt_run (em := em) (k := k1) (a := a1) hue m
  have h2 := checkInt_run (em := em) (k := k2) (a := a2) hue m
  unfold Instr.checkKey
  simp only [Sem.run_bind, hu, Result.andThen_ok]
  simp [hse, part, hag, Std.Legacy.Range.forIn_eq_forIn_range', Std.Legacy.Range.size, List.range', h1, h2]
theorem isPair_ok {x : AV} {x' : Value} (hx : RV φ x x') (hk : isPair x = true) : ∃ k1 k2 a1 a2, x' = .agg #[.int k1 a1, .int k2 a2] := by
  unfold isPair at hk
  split at hk
  · simp only [Bool.and_eq_true] at hk
    cases hx with
    | agg ha ho =>
    cases ha with
    | cons ha1 ha2 =>
    cases ha2 with
    | cons ha3 ha4 =>
    cases ha4
    obtain ⟨_, _, rfl⟩ := isIntA_ok ha1 hk.1
    obtain ⟨_, _, rfl⟩ := isIntA_ok ha3 hk.2
    exact ⟨_, _, _, _, rfl⟩
  · cases hk
theorem checkPairS_run {em : Bool} {t : TypeId} {f g : Field} {q1 q2 k1 k2 : IntKind} {a1 a2 : Int} (hu : ∀ w, (underlying t).run P w = .ok (.struct #[f, g]) w) (hf : f.name ≠ "_") (hg : g.name ≠ "_") (of : f.offset = 0) (og : g.offset = 1)
    (hu1 : ∀ w, (underlying f.type).run P w = .ok (.int q1) w) (hu2 : ∀ w, (underlying g.type).run P w = .ok (.int q2) w) (hag1 : ∀ w, (Go.isAgg f.type).run P w = .ok false w) (hag2 : ∀ w, (Go.isAgg g.type).run P w = .ok false w) (m : Nat) (w : World) :
    (Instr.checkKey em (m + 1 + 1) t (.agg #[.int k1 a1, .int k2 a2])).run P w = .ok () w := by
  have h1 := checkInt_run (em := em) (k := k1) (a := a1) hu1 m
  have h2 := checkInt_run (em := em) (k := k2) (a := a2) hu2 m
  unfold Instr.checkKey
  simp only [Sem.run_bind, hu, Result.andThen_ok]
  simp [hf, hg, of, og, part, hag1, hag2, h1, h2]
theorem checkKey_in (hA : Agrees P C) {t : TypeId} {i : TI} (hi : C.ty.get t = some i) {x : AV} {x' : Value} (hx : RV φ x x') (hk : okKey C i.d x = true) (em : Bool) (m : Nat) (w : World) :
    (Instr.checkKey em (m + 1 + 1) t x').run P w = .ok () w := by
  have ok := hA.ty t i hi
  have hu : ∀ w, (underlying t).run P w = .ok i.d w := fun w => ok.underlying
  unfold okKey at hk
  split at hk
  · rename_i k hd
    rw [hd] at hu
    obtain ⟨_, _, rfl⟩ := isIntA_ok hx hk
    exact checkInt_run hu (m + 1) w
  · rename_i hd
    rw [hd] at hu
    split at hk
    · cases hx
      unfold Instr.checkKey
      simp only [Sem.run_bind, hu, Result.andThen_ok]
      rfl
    · cases hk
  · rename_i n e hd
    rw [hd] at hu
    cases hc : (Nat.beq n 2 && isInt1 (C.ty.get e)) with
    | false => rw [hc] at hk; cases hk
    | true =>
      rw [hc] at hk
      simp only [Bool.and_eq_true] at hc
      have hn := Nat.eq_of_beq_eq_true hc.1
      subst hn
      obtain ⟨kk, hue, hse, hag⟩ := isInt1_ok hA hc.2
      obtain ⟨k1, k2, a1, a2, rfl⟩ := isPair_ok hx hk
      exact checkPair_run hu hue hse hag m w
  · rename_i fs hd
    rw [hd] at hu
    cases hc : okF2 C fs with
    | false => rw [hc] at hk; cases hk
    | true =>
      rw [hc] at hk
      obtain ⟨f, g, rfl, n1, n2, o1, o2, i1, i2⟩ := okF2_ok hc
      obtain ⟨q1, hu1, _, hag1⟩ := isInt1_ok hA i1
      obtain ⟨q2, hu2, _, hag2⟩ := isInt1_ok hA i2
      obtain ⟨k1, k2, a1, a2, rfl⟩ := isPair_ok hx hk
      exact checkPairS_run hu n1 n2 o1 o2 hu1 hu2 hag1 hag2 m w
  · cases hk
theorem sameNow_eq {i : TI} {x y : AV} {x' y' : Value} {b c : Bool} (hx : RV φ x x') (hy : RV φ y y') (he : eqK C i x y = some b) (hs : Instr.sameNow i.d x' y' = some c) : c = b := by
  unfold eqK at he
  split at he
  · rename_i hd
    rw [hd] at hs
    obtain ⟨k, a, c', rfl, rfl, rfl⟩ := eqInt_ok hx hy he
    simp [Instr.sameNow] at hs
    rw [← hs]
    by_cases e : a = c' <;> simp [e]
  · rename_i hd
    rw [hd] at hs
    split at he
    · cases hx with
      | str s =>
      cases hy with
      | str s' =>
      have he' := Option.some.inj he
      rw [beqL_ok, ← bytes_beq] at he'
      simp [Instr.sameNow] at hs
      rw [← hs, he']
    · cases he
  · rename_i hd
    rw [hd] at hs
    simp [Instr.sameNow] at hs
  · rename_i hd
    rw [hd] at hs
    simp [Instr.sameNow] at hs
  · cases he
def findE (C : Ctx) (d : TI) (k : AV) : List (AV × AV × Nat) → Nat → Option (Option (Nat × AV × Nat))
  | [], _ => some none
  | (k', v, b) :: l, i => match eqK C d k k' with
    | none => none
    | some true => some (some (i, v, b))
    | some false => findE C d k l (Nat.succ i)
theorem findE_ok (hA : Agrees P C) {t : TypeId} {i : TI} (hi : C.ty.get t = some i) {k : AV} {k' : Value} (hk : RV φ k k') {es : List (AV × AV × Nat)} {ms : List MapEntry} (hr : REs φ es ms) : ∀ (n : Nat) (r : Option (Nat × AV × Nat)), findE C i k es n = some r →
    ∃ q : Option (Nat × Value), (∀ w, (Instr.findAsking t k' ms n).run P w = .ok q w) ∧ (∀ q', Instr.findNow i.d k' ms n = some q' → q' = q) ∧
      (match r with
        | none => q = none
        | some (j, v, b) => ∃ v', q = some (j, v') ∧ RV φ v v' ∧ n ≤ j ∧ ∃ e m, es[j - n]? = some e ∧ ms[j - n]? = some m ∧ e.2.1 = v ∧ e.2.2 = b ∧ m.val = v' ∧ m.born = b ∧ RV φ e.1 m.key) := by
  induction hr with
  | nil =>
    intro n r h
    cases h
    exact ⟨none, fun w => by simp [Instr.findAsking], fun q' h => by simp [Instr.findNow] at h; exact h.symm, rfl⟩
  | @cons e m l ms' he _ ih =>
    intro n r h
    obtain ⟨e1, e2, e3⟩ := e
    obtain ⟨h1, h2, h3⟩ := he
    unfold findE at h
    split at h
    · cases h
    · rename_i hq
      cases h
      have hrun := eqK_ok hA hi hk h1 hq
      refine ⟨some (n, m.val), fun w => by simp [Instr.findAsking, hrun], fun q' hn => ?_, m.val, rfl, h2, Nat.le_refl _, (e1, e2, e3), m, by simp, by simp, rfl, rfl, rfl, h3.symm, h1⟩
      unfold Instr.findNow at hn
      cases hs : Instr.sameNow i.d k' m.key with
      | none => rw [hs] at hn; cases hn
      | some c =>
        have := sameNow_eq hk h1 hq hs
        subst this
        rw [hs] at hn
        exact (Option.some.inj hn).symm
    · rename_i hq
      obtain ⟨q, a1, a2, a3⟩ := ih (Nat.succ n) r h
      have hrun := eqK_ok hA hi hk h1 hq
      refine ⟨q, fun w => by simp only [Instr.findAsking, Sem.run_bind, hrun, Result.andThen_ok]; exact a1 w, fun q' hn => ?_, ?_⟩
      · unfold Instr.findNow at hn
        cases hs : Instr.sameNow i.d k' m.key with
        | none => rw [hs] at hn; cases hn
        | some c =>
          have := sameNow_eq hk h1 hq hs
          subst this
          rw [hs] at hn
          exact a2 q' hn
      · cases r with
        | none => exact a3
        | some r =>
          obtain ⟨j, v, b⟩ := r
          obtain ⟨v', b1, b2, b3, e, m', b4, b5, b6⟩ := a3
          refine ⟨v', b1, b2, by omega, e, m', ?_, ?_, b6⟩
          · rw [show j - n = (j - Nat.succ n) + 1 by omega, List.getElem?_cons_succ]; exact b4
          · rw [show j - n = (j - Nat.succ n) + 1 by omega, List.getElem?_cons_succ]; exact b5
theorem findKey_ok (hA : Agrees P C) {t : TypeId} {i : TI} (hi : C.ty.get t = some i) {k : AV} {k' : Value} (hk : RV φ k k') {es : List (AV × AV × Nat)} {ms : List MapEntry} (hr : REs φ es ms) {r : Option (Nat × AV × Nat)} (hf : findE C i k es 0 = some r) :
    ∃ q : Option (Nat × Value), (∀ w, (Instr.findKey t k' ms).run P w = .ok q w) ∧
      (match r with
        | none => q = none
        | some (j, v, b) => ∃ v', q = some (j, v') ∧ RV φ v v' ∧ ∃ e m, es[j]? = some e ∧ ms[j]? = some m ∧ e.2.1 = v ∧ e.2.2 = b ∧ m.val = v' ∧ m.born = b ∧ RV φ e.1 m.key) := by
  have hu : ∀ w, (underlying t).run P w = .ok i.d w := fun w => (hA.ty t i hi).underlying
  obtain ⟨q, a1, a2, a3⟩ := findE_ok hA hi hk hr 0 r hf
  refine ⟨q, fun w => ?_, ?_⟩
  · unfold Instr.findKey
    simp only [Sem.run_bind, hu, Result.andThen_ok]
    cases hn : Instr.findNow i.d k' ms 0 with
    | none => exact a1 w
    | some q' =>
      rw [a2 q' hn]
      rfl
  · cases r with
    | none => exact a3
    | some r =>
      obtain ⟨j, v, b⟩ := r
      obtain ⟨v', b1, b2, _, e, m, b4, b5, b6⟩ := a3
      exact ⟨v', b1, b2, e, m, by simpa using b4, by simpa using b5, b6⟩
def zeroOf (i : TI) : AV := cond (isAgg i.d) (.agg i.zero) (i.zero.headD .unk)
def lookupE (C : Ctx) (h : H) (kt et : TI) (m k : AV) : Option (AV × Bool) :=
  cond (okKey C kt.d k) (match m with
    | .nilm => some (zeroOf et, false)
    | .map id => (match h.h.get id with
      | some (.map es _) => (match findE C kt k es 0 with
        | some (some (_, v, _)) => some (v, true)
        | some none => some (zeroOf et, false)
        | none => none)
      | _ => none)
    | _ => none) none
def lookupR (C : Ctx) (h : H) (d : Option TI) (m k : AV) (ok : Bool) : R :=
  match d with
  | none => .stuck 30
  | some d => (match d.d with
    | .map kt et => (match C.ty.get kt with
      | none => .stuck 30
      | some ki => (match C.ty.get et with
        | none => .stuck 30
        | some ei => (match lookupE C h ki ei m k with
          | some (v, b) => .val (cond ok (.tup [v, .bool b]) v) h
          | none => .stuck 30)))
    | _ => .stuck 30)
theorem ex_lookup_ok (hA : Agrees P C) (hR : RH w0 φ h w) (hE : Evals φ tmps ρ) (t : TypeId) (x ix : Operand) (b : Bool) : OkR P w0 φ w (vN (Instr.lookup t (ρ x) (ρ ix) b)) (lookupR C h (C.ty.get t) (evalA tmps x) (evalA tmps ix) b) := by
  have hx := hE x
  have hk := hE ix
  generalize evalA tmps x = ax at hx
  generalize ρ x = x' at hx ⊢
  generalize evalA tmps ix = ak at hk
  generalize ρ ix = k' at hk ⊢
  unfold lookupR
  split
  · trivial
  · rename_i d hd
    have okd := hA.ty t d hd
    split
    · rename_i kt et he
      have hu : ∀ w, (underlying t).run P w = .ok (.map kt et) w := fun w => by rw [okd.underlying, he]
      split
      · trivial
      · rename_i ki hki
        split
        · trivial
        · rename_i ei hei
          obtain ⟨z, z1, _, _, _, z5⟩ := (hA.ty et ei hei).zero φ
          split
          · rename_i v bb hl
            unfold lookupE at hl
            cases hok : okKey C ki.d ak with
            | false => rw [hok] at hl; cases hl
            | true =>
              rw [hok] at hl
              simp only [cond_true] at hl
              have hchk : ∀ em w, (Instr.checkKey em 10000 kt k').run P w = .ok () w := fun em w => checkKey_in hA hki hk hok em 9998 w
              have fin : ∀ v', RV φ v v' → (Instr.lookup t x' k' b).run P w = .ok (if b then .tuple #[v', .bool bb] else v') w → OkR P w0 φ w (vN (Instr.lookup t x' k' b)) (.val (cond b (.tup [v, .bool bb]) v) h) := fun v' hv hr => by
                refine OkR.v hR ?_ hr
                cases b with
                | true => exact .tup (.cons hv (.cons (.bool _) .nil))
                | false => exact hv
              split at hl
              · cases hx
                cases hl
                refine fin z z5 ?_
                simp [Instr.lookup, hu, hchk, Instr.findKey, (hA.ty kt ki hki).underlying, Instr.findNow, z1]
              · cases hx with
                | map hp =>
                rename_i id p
                split at hl
                · rename_i es cl hg
                  obtain ⟨q, o, h1, h2, es', rfl, hes⟩ := hR.at hp hg
                  rw [hp] at h1
                  cases h1
                  split at hl
                  · rename_i j v1 b1 hf
                    cases hl
                    obtain ⟨q1, f1, v', rfl, f3, _⟩ := findKey_ok hA hki hk hes hf
                    refine fin v' f3 ?_
                    simp [Instr.lookup, hu, hchk, getObj, Sem.run, h2, f1]
                  · rename_i hf
                    cases hl
                    obtain ⟨q1, f1, rfl⟩ := findKey_ok hA hki hk hes hf
                    refine fin z z5 ?_
                    simp [Instr.lookup, hu, hchk, getObj, Sem.run, h2, f1, z1]
                  · cases hl
                · cases hl
              · cases hl
          · trivial
    · trivial
end
end
end Go.Proofs.YteaacjabcfopgaaGreat.Am
namespace Go.Proofs.YteaacjabcfopgaaGreat.Am
open Go.RowKit
noncomputable section
section
variable {P : Program} {w0 : Base} {φ : Phi} {h : H} {w : World} {C : Ctx} {tmps : T AV} {ρ : Operand → Value}
theorem pair_bits {x y : AV} {x' y' : Value} (hx : RV φ x x') (hy : RV φ y y') (he : pairE x y = some true) (m : Nat) : Instr.sameBits (m + 1) y' x' = true := by
  obtain ⟨k1, k2, a1, a2, c1, c2, rfl, rfl, q⟩ := pairE_ok hx hy he
  have q' := q.symm
  simp only [Bool.and_eq_true, decide_eq_true_eq] at q'
  obtain ⟨rfl, rfl⟩ := q'
  simp [Instr.sameBits]
theorem eqK_bits {i : TI} {x y : AV} {x' y' : Value} (hx : RV φ x x') (hy : RV φ y y') (he : eqK C i x y = some true) (m : Nat) : Instr.sameBits (m + 1) y' x' = true := by
  unfold eqK at he
  split at he
  · obtain ⟨k, a, c', rfl, rfl, q⟩ := eqInt_ok hx hy he
    have := of_decide_eq_true q.symm
    simp [Instr.sameBits, this]
  · split at he
    · cases hx with
      | str s =>
      cases hy with
      | str s' =>
      have he' := Option.some.inj he
      rw [beqL_ok] at he'
      have h2 : (s' == s) = true := by
        rw [bytes_beq, beq_iff_eq]
        exact (beq_iff_eq.1 he').symm
      simp [Instr.sameBits, h2]
    · cases he
  · rename_i n e hd
    cases hc : (Nat.beq n 2 && isInt1 (C.ty.get e)) with
    | false => rw [hc] at he; cases he
    | true => rw [hc] at he; exact pair_bits hx hy he m
  · rename_i fs hd
    cases hc : (i.sp && okF2 C fs) with
    | false => rw [hc] at he; cases he
    | true => rw [hc] at he; exact pair_bits hx hy he m
  · cases he
theorem REs.modify {es : List (AV × AV × Nat)} {ms : List MapEntry} (hr : REs φ es ms) : ∀ (j : Nat) (m : MapEntry) (e' : AV × AV × Nat) (f : MapEntry → MapEntry), ms[j]? = some m → RE φ e' (f m) → REs φ (es.set j e') (ms.modify j f) := by
  induction hr with
  | nil => intro j m e' f h; simp at h
  | cons he ht ih =>
    intro j m e' f hm hf
    cases j with
    | zero =>
      simp only [List.getElem?_cons_zero, Option.some.injEq] at hm
      subst hm
      simp only [List.set_cons_zero, List.modify_zero_cons]
      exact .cons hf ht
    | succ j =>
      simp only [List.getElem?_cons_succ] at hm
      simp only [List.set_cons_succ, List.modify_succ_cons]
      exact .cons he (ih j m e' f hm hf)
theorem REs.append {es : List (AV × AV × Nat)} {ms : List MapEntry} (hr : REs φ es ms) {e : AV × AV × Nat} {m : MapEntry} (he : RE φ e m) : REs φ (es ++ [e]) (ms ++ [m]) := by
  induction hr with
  | nil => exact .cons he .nil
  | cons h _ ih => exact .cons h ih
theorem REs.erase {es : List (AV × AV × Nat)} {ms : List MapEntry} (hr : REs φ es ms) : ∀ j, REs φ (es.eraseIdx j) (ms.eraseIdx j) := by
  induction hr with
  | nil => intro j; simpa using REs.nil
  | cons h t ih =>
    intro j
    cases j with
    | zero => exact t
    | succ j => exact .cons h (ih j)
theorem findE_key {es : List (AV × AV × Nat)} {d : TI} {k : AV} : ∀ (n : Nat) {j : Nat} {v : AV} {b : Nat}, findE C d k es n = some (some (j, v, b)) → n ≤ j ∧ ∃ e, es[j - n]? = some e ∧ eqK C d k e.1 = some true ∧ e.2.1 = v ∧ e.2.2 = b := by
  induction es with
  | nil => intro n j v b h; cases h
  | cons e l ih =>
    intro n j v b h
    obtain ⟨e1, e2, e3⟩ := e
    unfold findE at h
    split at h
    · cases h
    · rename_i hq
      cases h
      exact ⟨Nat.le_refl _, _, by simp; rfl, hq, rfl, rfl⟩
    · obtain ⟨a, e, b1, b2, b3⟩ := ih (Nat.succ n) h
      exact ⟨by omega, e, by rw [show j - n = (j - Nat.succ n) + 1 by omega, List.getElem?_cons_succ]; exact b1, b2, b3⟩
def updE (C : Ctx) (ki : TI) (es : List (AV × AV × Nat)) (cl : Nat) (k v : AV) : Option (List (AV × AV × Nat) × Nat) :=
  cond (okKey C ki.d k) (match findE C ki k es 0 with
    | some (some (j, _, b)) => some (es.set j (k, v, b), cl)
    | some none => some (es ++ [(k, v, cl)], Nat.succ cl)
    | none => none) none
def mapUpdR (C : Ctx) (h : H) (d : Option TI) (m k v : AV) : R :=
  match d with
  | none => .stuck 31
  | some d => (match d.d with
    | .map kt _ => (match C.ty.get kt with
      | none => .stuck 31
      | some ki => (match m with
        | .map id => (match h.h.get id with
          | some (.map es cl) => (match updE C ki es cl k v with
            | some (es', cl') => .val .unk (h.upd id (.map es' cl'))
            | none => .stuck 31)
          | _ => .stuck 31)
        | _ => .stuck 31))
    | _ => .stuck 31)
theorem ex_mapUpd_ok (hA : Agrees P C) (hR : RH w0 φ h w) (hE : Evals φ tmps ρ) (t : TypeId) (x ix y : Operand) : OkR P w0 φ w (uN (Instr.mapUpdate t (ρ x) (ρ ix) (ρ y))) (mapUpdR C h (C.ty.get t) (evalA tmps x) (evalA tmps ix) (evalA tmps y)) := by
  have hx := hE x
  have hk := hE ix
  have hv := hE y
  generalize evalA tmps x = ax at hx
  generalize ρ x = x' at hx ⊢
  generalize evalA tmps ix = ak at hk
  generalize ρ ix = k' at hk ⊢
  generalize evalA tmps y = av at hv
  generalize ρ y = v' at hv ⊢
  unfold mapUpdR
  split
  · trivial
  · rename_i d hd
    have okd := hA.ty t d hd
    split
    · rename_i kt et he
      have hu : ∀ w, (underlying t).run P w = .ok (.map kt et) w := fun w => by rw [okd.underlying, he]
      split
      · trivial
      · rename_i ki hki
        split
        · cases hx with
          | map hp =>
          rename_i id p
          split
          · rename_i es cl hg
            obtain ⟨q, o, h1, h2, es', rfl, hes⟩ := hR.at hp hg
            rw [hp] at h1
            cases h1
            have hlt := (hR.own id p hp).2
            split
            · rename_i es2 cl2 hup
              unfold updE at hup
              cases hok : okKey C ki.d ak with
              | false => rw [hok] at hup; cases hup
              | true =>
                rw [hok] at hup
                simp only [cond_true] at hup
                have hchk : ∀ em w, (Instr.checkKey em 10000 kt k').run P w = .ok () w := fun em w => checkKey_in hA hki hk hok em 9998 w
                split at hup
                · rename_i j v1 b1 hf
                  cases hup
                  obtain ⟨q1, f1, w1, rfl, f3, e, m, g1, g2, g3, g4, g5, g6, g7⟩ := findKey_ok hA hki hk hes hf
                  obtain ⟨_, e', k1, k2, k3, k4⟩ := findE_key 0 hf
                  rw [Nat.sub_zero, g1] at k1
                  cases k1
                  have hm : es'[j]? = some m := by rw [← Array.getElem?_toList]; exact g2
                  have hbits := eqK_bits hk g7 k2 9999
                  have hstay : ∀ w, (Instr.keyThatStays m.key k').run P w = .ok k' w := fun w => by
                    unfold Instr.keyThatStays
                    rw [hbits]
                    rfl
                  refine OkR.u (w' := { w with heap := w.heap.setIfInBounds p.blk (.map (es'.modify j fun e => { e with key := k', val := v' }) cl) })
                    (hR.upd hg hp (One.obj w p.blk _) (o := .map (es'.modify j fun e => { e with key := k', val := v' }) cl) (by simp [hlt]) ⟨_, rfl, ?_⟩) ?_
                  · rw [Array.toList_modify]
                    exact hes.modify j m _ _ g2 ⟨hk, hv, by rw [← g6]⟩
                  · simp [Instr.mapUpdate, hu, hchk, getObj, setObj, Sem.run, h2, f1, hm, hstay]
                · rename_i hf
                  cases hup
                  obtain ⟨q1, f1, rfl⟩ := findKey_ok hA hki hk hes hf
                  refine OkR.u (w' := { w with heap := w.heap.setIfInBounds p.blk (.map (es'.push { key := k', val := v', born := cl }) (cl + 1)) })
                    (hR.upd hg hp (One.obj w p.blk _) (o := .map (es'.push { key := k', val := v', born := cl }) (cl + 1)) (by simp [hlt]) ⟨_, rfl, ?_⟩) ?_
                  · rw [Array.toList_push]
                    exact hes.append ⟨hk, hv, rfl⟩
                  · simp [Instr.mapUpdate, hu, hchk, getObj, setObj, Sem.run, h2, f1]
                · cases hup
            · trivial
          · trivial
        · trivial
    · trivial
def mapEntR (C : Ctx) (h : H) (d : Option TI) (m k : AV) : R :=
  match d with
  | none => .stuck 32
  | some d => (match d.d with
    | .map kt et => (match C.ty.get kt with
      | none => .stuck 32
      | some ki => (match C.ty.get et with
        | none => .stuck 32
        | some ei => (match m with
          | .map id => (match h.h.get id with
            | some (.map es cl) => cond (okKey C ki.d k) (match findE C ki k es 0 with
              | some (some (j, v, b)) => .val (.tup [v, .int .i64 (Int.ofNat b)]) (h.upd id (.map (es.set j (k, v, b)) cl))
              | some none => .val (.tup [zeroOf ei, .int .i64 (Int.ofNat cl)]) (h.upd id (.map (es ++ [(k, zeroOf ei, cl)]) (Nat.succ cl)))
              | none => .stuck 32) (.stuck 32)
            | _ => .stuck 32)
          | _ => .stuck 32)))
    | _ => .stuck 32)
theorem ex_mapEnt_ok (hA : Agrees P C) (hR : RH w0 φ h w) (hE : Evals φ tmps ρ) (t : TypeId) (x ix : Operand) : OkR P w0 φ w (vN (Instr.mapEntry t (ρ x) (ρ ix))) (mapEntR C h (C.ty.get t) (evalA tmps x) (evalA tmps ix)) := by
  have hx := hE x
  have hk := hE ix
  generalize evalA tmps x = ax at hx
  generalize ρ x = x' at hx ⊢
  generalize evalA tmps ix = ak at hk
  generalize ρ ix = k' at hk ⊢
  unfold mapEntR
  split
  · trivial
  · rename_i d hd
    have okd := hA.ty t d hd
    split
    · rename_i kt et he
      have hu : ∀ w, (underlying t).run P w = .ok (.map kt et) w := fun w => by rw [okd.underlying, he]
      split
      · trivial
      · rename_i ki hki
        split
        · trivial
        · rename_i ei hei
          obtain ⟨z, z1, _, _, _, z5⟩ := (hA.ty et ei hei).zero φ
          split
          · cases hx with
            | map hp =>
            rename_i id p
            split
            · rename_i es cl hg
              obtain ⟨q, o, h1, h2, es', rfl, hes⟩ := hR.at hp hg
              rw [hp] at h1
              cases h1
              have hlt := (hR.own id p hp).2
              cases hok : okKey C ki.d ak with
              | false => trivial
              | true =>
                simp only [cond_true]
                have hchk : ∀ em w, (Instr.checkKey em 10000 kt k').run P w = .ok () w := fun em w => checkKey_in hA hki hk hok em 9998 w
                split
                · rename_i j v1 b1 hf
                  obtain ⟨q1, f1, w1, rfl, f3, e, m, g1, g2, g3, g4, g5, g6, g7⟩ := findKey_ok hA hki hk hes hf
                  obtain ⟨_, e', k1, k2, k3, k4⟩ := findE_key 0 hf
                  rw [Nat.sub_zero, g1] at k1
                  cases k1
                  have hm : es'[j]? = some m := by rw [← Array.getElem?_toList]; exact g2
                  have hbits := eqK_bits hk g7 k2 9999
                  have hstay : ∀ w, (Instr.keyThatStays m.key k').run P w = .ok k' w := fun w => by
                    unfold Instr.keyThatStays
                    rw [hbits]
                    rfl
                  refine OkR.vw (w' := { w with heap := w.heap.setIfInBounds p.blk (.map (es'.modify j fun e => { e with key := k' }) cl) }) φ.le_refl
                    (hR.upd hg hp (One.obj w p.blk _) (o := .map (es'.modify j fun e => { e with key := k' }) cl) (by simp [hlt]) ⟨_, rfl, ?_⟩) (v' := .tuple #[w1, .int .i64 (Int.ofNat b1)]) (.tup (.cons f3 (.cons (.int _ _) .nil))) ?_
                  · rw [Array.toList_modify]
                    exact hes.modify j m _ _ g2 ⟨hk, by rw [g5]; exact f3, by rw [← g6]⟩
                  · simp [Instr.mapEntry, hu, hchk, getObj, setObj, Sem.run, h2, f1, hm, hstay, goInt, g6]
                · rename_i hf
                  obtain ⟨q1, f1, rfl⟩ := findKey_ok hA hki hk hes hf
                  refine OkR.vw (w' := { w with heap := w.heap.setIfInBounds p.blk (.map (es'.push { key := k', val := z, born := cl }) (cl + 1)) }) φ.le_refl
                    (hR.upd hg hp (One.obj w p.blk _) (o := .map (es'.push { key := k', val := z, born := cl }) (cl + 1)) (by simp [hlt]) ⟨_, rfl, ?_⟩) (v' := .tuple #[z, .int .i64 (Int.ofNat cl)]) (.tup (.cons z5 (.cons (.int _ _) .nil))) ?_
                  · rw [Array.toList_push]
                    exact hes.append ⟨hk, z5, rfl⟩
                  · simp [Instr.mapEntry, hu, hchk, getObj, setObj, Sem.run, h2, f1, z1, goInt]
                · trivial
            · trivial
          · trivial
    · trivial
def deleteR (C : Ctx) (h : H) (d : Option TI) (m k : AV) : R :=
  match d with
  | none => .stuck 33
  | some d => (match d.d with
    | .map kt _ => (match C.ty.get kt with
      | none => .stuck 33
      | some ki => cond (okKey C ki.d k) (match m with
        | .nilm => .val (.tup []) h
        | .map id => (match h.h.get id with
          | some (.map es cl) => (match findE C ki k es 0 with
            | some (some (j, _, _)) => .val (.tup []) (h.upd id (.map (es.eraseIdx j) cl))
            | some none => .val (.tup []) (h.upd id (.map es cl))
            | none => .stuck 33)
          | _ => .stuck 33)
        | _ => .stuck 33) (.stuck 33))
    | _ => .stuck 33)
theorem delete_ok (hA : Agrees P C) (hR : RH w0 φ h w) {t ty : TypeId} {ts : Array TypeId} (ht : ts[0]? = some t) {m k : AV} {m' k' : Value} (hx : RV φ m m') (hk : RV φ k k') : OkR P w0 φ w (vN (Builtin.delete_ ts ty #[m', k'])) (deleteR C h (C.ty.get t) m k) := by
  unfold deleteR
  split
  · trivial
  · rename_i d hd
    have okd := hA.ty t d hd
    split
    · rename_i kt et he
      have hu : ∀ w, (underlying t).run P w = .ok (.map kt et) w := fun w => by rw [okd.underlying, he]
      split
      · trivial
      · rename_i ki hki
        cases hok : okKey C ki.d k with
        | false => trivial
        | true =>
          simp only [cond_true]
          have hchk : ∀ em w, (Instr.checkKey em 10000 kt k').run P w = .ok () w := fun em w => checkKey_in hA hki hk hok em 9998 w
          split
          · cases hx
            exact OkR.v (v' := .tuple #[]) hR (.tup .nil) (by simp [Builtin.delete_, ht, hu, hchk])
          · cases hx with
            | map hp =>
            rename_i id p
            split
            · rename_i es cl hg
              obtain ⟨q, o, h1, h2, es', rfl, hes⟩ := hR.at hp hg
              rw [hp] at h1
              cases h1
              have hlt := (hR.own id p hp).2
              split
              · rename_i j v1 b1 hf
                obtain ⟨q1, f1, w1, rfl, f3, e, m, g1, g2, _⟩ := findKey_ok hA hki hk hes hf
                refine OkR.vw (w' := { w with heap := w.heap.setIfInBounds p.blk (.map (es'.eraseIdxIfInBounds j) cl) }) φ.le_refl
                  (hR.upd hg hp (One.obj w p.blk _) (o := .map (es'.eraseIdxIfInBounds j) cl) (by simp [hlt]) ⟨_, rfl, ?_⟩) (v' := .tuple #[]) (.tup .nil) ?_
                · rw [Array.toList_eraseIdxIfInBounds]
                  exact hes.erase j
                · simp [Builtin.delete_, ht, hu, hchk, getObj, setObj, Sem.run, h2, f1]
              · rename_i hf
                obtain ⟨q1, f1, rfl⟩ := findKey_ok hA hki hk hes hf
                refine OkR.vw (w' := { w with heap := w.heap.setIfInBounds p.blk (.map es' cl) }) φ.le_refl
                  (hR.upd hg hp (One.obj w p.blk _) (o := .map es' cl) (by simp [hlt]) ⟨_, rfl, hes⟩) (v' := .tuple #[]) (.tup .nil) ?_
                simp [Builtin.delete_, ht, hu, hchk, getObj, setObj, Sem.run, h2, f1]
              · trivial
            · trivial
          · trivial
    · trivial
end
end
end Go.Proofs.YteaacjabcfopgaaGreat.Am
namespace Go.Proofs.YteaacjabcfopgaaGreat.Am
open Go.RowKit
noncomputable section
section
variable {P : Program} {w0 : Base} {φ : Phi} {h : H} {w : World} {C : Ctx} {tmps : T AV} {ρ : Operand → Value}
def setBorn (b : Nat) (v : AV) : List (AV × AV × Nat) → Option (List (AV × AV × Nat))
  | [] => none
  | e :: l => cond (Nat.beq b e.2.2) (some ((e.1, v, e.2.2) :: l)) (match setBorn b v l with
    | some m => some (e :: m)
    | none => none)
theorem setBorn_ok {b : Nat} {v : AV} {v' : Value} (hv : RV φ v v') {es : List (AV × AV × Nat)} {ms : List MapEntry} (hr : REs φ es ms) : ∀ {es2 : List (AV × AV × Nat)}, setBorn b v es = some es2 →
    ∃ i, ms.findIdx? (fun e => ((e.born : Int) == (b : Int))) = some i ∧ REs φ es2 (ms.modify i fun e => { e with val := v' }) := by
  induction hr with
  | nil => intro es2 h; cases h
  | @cons e m l k he ht ih =>
    intro es2 h
    unfold setBorn at h
    cases hb : Nat.beq b e.2.2 with
    | true =>
      rw [hb] at h
      have h' := Option.some.inj h
      subst h'
      have hb' := Nat.eq_of_beq_eq_true hb
      refine ⟨0, ?_, ?_⟩
      · rw [List.findIdx?_cons]
        have : ((m.born : Int) == (b : Int)) = true := by rw [beq_iff_eq, hb', he.2.2]
        simp [this]
      · simp only [List.modify_zero_cons]
        exact .cons ⟨he.1, hv, he.2.2⟩ ht
    | false =>
      rw [hb] at h
      simp only [cond_false] at h
      split at h
      · rename_i m2 hm2
        cases h
        obtain ⟨i, h1, h2⟩ := ih hm2
        refine ⟨i + 1, ?_, ?_⟩
        · rw [List.findIdx?_cons]
          have : ((m.born : Int) == (b : Int)) = false := by
            rw [beq_eq_false_iff_ne]
            intro e'
            have e2 : b = e.2.2 := by rw [he.2.2]; omega
            rw [e2] at hb
            simp at hb
          simp [this, h1]
        · simp only [List.modify_succ_cons]
          exact .cons he h2
      · cases h
def entStR (h : H) (m : AV) (s : Option Nat) (v : AV) : R :=
  match m with
  | .map id => (match h.h.get id with
    | some (.map es cl) => (match s with
      | some b => (match setBorn b v es with
        | some es2 => .val .unk (h.upd id (.map es2 cl))
        | none => .stuck 34)
      | none => .stuck 34)
    | _ => .stuck 34)
  | _ => .stuck 34
theorem ex_entSt_ok (hR : RH w0 φ h w) (hE : Evals φ tmps ρ) (t : TypeId) (x s y : Operand) : OkR P w0 φ w (uN (Instr.entryStore t (ρ x) (ρ s) (ρ y))) (entStR h (evalA tmps x) (natI (evalA tmps s)) (evalA tmps y)) := by
  have hx := hE x
  have hs := hE s
  have hv := hE y
  generalize evalA tmps x = ax at hx
  generalize ρ x = x' at hx ⊢
  generalize ρ y = v' at hv ⊢
  unfold entStR
  split
  · cases hx with
    | map hp =>
    rename_i id p
    split
    · rename_i es cl hg
      obtain ⟨q, o, h1, h2, es', rfl, hes⟩ := hR.at hp hg
      rw [hp] at h1
      cases h1
      have hlt := (hR.own id p hp).2
      split
      · rename_i b hb
        obtain ⟨j, hj⟩ := natI_ok hs hb
        split
        · rename_i es2 h2'
          obtain ⟨i, i1, i2⟩ := setBorn_ok hv hes h2'
          have i3 : es'.findIdx? (fun e => ((e.born : Int) == (b : Int))) = some i := by
            have := List.findIdx?_toArray (fun e : MapEntry => ((e.born : Int) == (b : Int))) es'.toList
            rw [Array.toArray_toList] at this
            rw [this]; exact i1
          refine OkR.u (w' := { w with heap := w.heap.setIfInBounds p.blk (.map (es'.modify i fun e => { e with val := v' }) cl) })
            (hR.upd hg hp (One.obj w p.blk _) (o := .map (es'.modify i fun e => { e with val := v' }) cl) (by simp [hlt]) ⟨_, rfl, by rw [Array.toList_modify]; exact i2⟩) ?_
          rw [hj]
          simp [Instr.entryStore, getObj, setObj, Sem.run, h2, asInt, asIntOf, i3]
        · trivial
      · trivial
    · trivial
  · trivial
def rangeR (h : H) (d : Option TI) (x : AV) : R :=
  match d with
  | none => .stuck 35
  | some d => (match d.d with
    | .map _ _ => (match x with
      | .nilm => .val (.ptr h.next 0) (h.new (.iter none 0 [] 0))
      | .map id => (match h.h.get id with
        | some (.map _ cl) => .val (.ptr h.next 0) (h.new (.iter (some id) cl [] cl))
        | _ => .stuck 35)
      | _ => .stuck 35)
    | .string => (match x with
      | .str s => .val (.ptr h.next 0) (h.new (.siter s 0))
      | _ => .stuck 35)
    | _ => .stuck 35)
theorem ex_range_ok (hA : Agrees P C) (hR : RH w0 φ h w) (hE : Evals φ tmps ρ) (t : TypeId) (x : Operand) : OkR P w0 φ w (vN (Instr.range t (ρ x))) (rangeR h (C.ty.get t) (evalA tmps x)) := by
  have hx := hE x
  generalize evalA tmps x = ax at hx
  generalize ρ x = x' at hx ⊢
  have hle : ∀ p, φ.le (φ.add h.next p) := fun p => Phi.le_add hR.none_at
  unfold rangeR
  split
  · trivial
  · rename_i d hd
    have okd := hA.ty t d hd
    split
    · rename_i kt et he
      have hu : ∀ w, (underlying t).run P w = .ok (.map kt et) w := fun w => by rw [okd.underlying, he]
      split
      · cases hx
        refine OkR.vw (ψ := φ.add h.next ⟨w.heap.size, 0, 0⟩) (w' := w.alloc (.mapIter none 0 #[] 0)) (hle _) (hR.new rfl ⟨rfl, none, rfl, rfl⟩) (v' := .pointer (some ⟨w.heap.size, 0, none⟩)) (.ptr (p := ⟨w.heap.size, 0, 0⟩) (Phi.add_at _ _ _)) ?_
        simp [Instr.range, hu]
      · cases hx with
        | map hp =>
        rename_i id p
        split
        · rename_i es cl hg
          obtain ⟨q, o, h1, h2, es', rfl, hes⟩ := hR.at hp hg
          rw [hp] at h1
          cases h1
          refine OkR.vw (ψ := φ.add h.next ⟨w.heap.size, 0, 0⟩) (w' := w.alloc (.mapIter (some p.blk) cl #[] cl)) (hle _) (hR.new rfl ⟨rfl, some p.blk, rfl, p, hle _ _ _ hp, rfl⟩) (v' := .pointer (some ⟨w.heap.size, 0, none⟩)) (.ptr (p := ⟨w.heap.size, 0, 0⟩) (Phi.add_at _ _ _)) ?_
          simp [Instr.range, hu, getObj, Sem.run, h2]
        · trivial
      · trivial
    · rename_i he
      have hu : ∀ w, (underlying t).run P w = .ok .string w := fun w => by rw [okd.underlying, he]
      split
      · cases hx with
        | str b =>
        refine OkR.vw (ψ := φ.add h.next ⟨w.heap.size, 0, 0⟩) (w' := w.alloc (.stringIter b 0)) (hle _) (hR.new rfl ⟨rfl, b, rfl, rfl⟩) (v' := .pointer (some ⟨w.heap.size, 0, none⟩)) (.ptr (p := ⟨w.heap.size, 0, 0⟩) (Phi.add_at _ _ _)) ?_
        simp [Instr.range, hu]
      · trivial
    · trivial
end
end
end Go.Proofs.YteaacjabcfopgaaGreat.Am
namespace Go.Proofs.YteaacjabcfopgaaGreat.Am
open Go.RowKit
noncomputable section
section
variable {P : Program} {w0 : Base} {φ : Phi} {h : H} {w : World} {C : Ctx} {tmps : T AV} {ρ : Operand → Value}
theorem OkR.congr {s s' : Sem Next} {r : R} (he : s.run P w = s'.run P w) (hk : OkR P w0 φ w s' r) : OkR P w0 φ w s r := by
  cases r with
  | val v h' =>
    obtain ⟨ψ, v', w', n, a, b, c, d, e⟩ := hk
    exact ⟨ψ, v', w', n, a, b, c, he.trans d, e⟩
  | enter f args h' =>
    obtain ⟨args', a, b, c⟩ := hk
    exact ⟨args', a, b, he.trans c⟩
  | round l f nt tm as bd h' =>
    obtain ⟨p, t, a, b, c, d, e⟩ := hk
    exact ⟨p, t, a, b, c, d, he.trans e⟩
  | stuck n => trivial
def mkFn (P : Program) (f : FuncId) : Option Func :=
  match P.funcs[f]? with
  | some fn => cond (fn.body.isSome && !(fn.name == "runtime.NumGoroutine")) (some fn) none
  | none => none
structure Enters (P : Program) (C : Ctx) : Prop where
  ty : Agrees P C
  fs : ∀ f fn, C.fs.get f = some fn → mkFn P f = some fn
theorem mkFn_ok {f : FuncId} {fn : Func} (h : mkFn P f = some fn) : P.funcs[f]? = some fn ∧ fn.body.isSome = true ∧ (fn.name == "runtime.NumGoroutine") = false := by
  unfold mkFn at h
  split at h
  · rename_i g hg
    cases hc : (g.body.isSome && !(g.name == "runtime.NumGoroutine")) with
    | false => rw [hc] at h; cases h
    | true =>
      rw [hc] at h
      cases h
      simp only [Bool.and_eq_true, Bool.not_eq_true'] at hc
      exact ⟨hg, hc.1, hc.2⟩
  · cases h
def callR (C : Ctx) (h : H) (f : FuncId) (args : List AV) : R :=
  match C.fs.get f with
  | some _ => .enter f args h
  | none => .stuck 36
theorem call_run (hF : Enters P C) {f : FuncId} {fn : Func} (hg : C.fs.get f = some fn) (args : Array Value) : (callFunc f args).run P w = .ok (.enter f args) w := by
  obtain ⟨h1, h2, h3⟩ := mkFn_ok (hF.fs f fn hg)
  have h4 : fn.body.isNone = false := by cases hb : fn.body <;> simp_all
  have h5 : fn.name ≠ "runtime.NumGoroutine" := by simpa using h3
  have h6 : fn.body ≠ none := fun e => by rw [e] at h4; cases h4
  simp [callFunc, h1, h5, h6]
def yieldR (h : H) (l : Nat) (args : List AV) (b : Option Blk) : R :=
  match b with
  | some (.loop _ _ fn nt tmps ps as bd _) => cond (Nat.beq args.length ps.size && ps.toList.all fun p => Nat.blt p nt) (.round l fn nt ((ps.toList.zip args).foldl (fun t x => t.put x.1 x.2) tmps) as bd h) (.stuck 37)
  | _ => .stuck 37
def invokeR (C : Ctx) (h : H) (f : AV) (args : List AV) : R :=
  match f with
  | .fn g a b => callR C h g (a ++ args ++ b)
  | .yld l => yieldR h l args (h.h.get l)
  | _ => .stuck 38
theorem RT.put {tm : T AV} {a : Array Value} (h : RT φ tm a) {d : Nat} {v : AV} {v' : Value} (hd : d < a.size) (hv : RV φ v v') : RT φ (tm.put d v) (a.setIfInBounds d v') := fun t av e => by
  rcases T.get_put e with ⟨rfl, rfl⟩ | ⟨hne, e⟩
  · refine ⟨by simpa using hd, ?_⟩
    rw [Array.getD_eq_getD_getElem?, Array.getElem?_setIfInBounds_self_of_lt hd]
    exact hv
  · obtain ⟨x, y⟩ := h t av e
    refine ⟨by simpa using x, ?_⟩
    rw [Array.getD_eq_getD_getElem?, Array.getElem?_setIfInBounds_ne (Ne.symm hne), ← Array.getD_eq_getD_getElem?]
    exact y
theorem RT.puts : ∀ (ps : List Nat) {args : List AV} {vs : List Value} {tm : T AV} {a : Array Value}, RL φ args vs → RT φ tm a → (∀ p ∈ ps, p < a.size) →
    RT φ ((ps.zip args).foldl (fun t x => t.put x.1 x.2) tm) ((ps.zip vs).foldl (fun t x => t.setIfInBounds x.1 x.2) a) ∧ ((ps.zip vs).foldl (fun t x => t.setIfInBounds x.1 x.2) a).size = a.size
  | [], _, _, _, _, _, h, _ => ⟨h, rfl⟩
  | _ :: _, _, _, _, _, .nil, h, _ => ⟨h, rfl⟩
  | p :: ps, _, _, _, a, .cons hv ht, h, hp => by
    have h1 := h.put (hp p List.mem_cons_self) hv
    obtain ⟨r1, r2⟩ := RT.puts ps ht h1 (fun q hq => by simpa using hp q (List.mem_cons_of_mem _ hq))
    exact ⟨r1, by simpa using r2⟩
theorem invoke_ok (hF : Enters P C) (hR : RH w0 φ h w) {f : AV} {f' : Value} {args : List AV} {args' : List Value} (hf : RV φ f f') (ha : RL φ args args') :
    OkR P w0 φ w (do let d ← Deferred.ofValue f' args'.toArray; invoke d.target d.args) (invokeR C h f args) := by
  unfold invokeR
  split
  · cases hf with
    | fn h1 h2 =>
    rename_i g a b a' b'
    unfold callR
    split
    · rename_i fn hg
      refine ⟨a' ++ args' ++ b', hR, (h1.append ha).append h2, ?_⟩
      have := call_run (w := w) hF hg (a'.toArray ++ args'.toArray ++ b'.toArray)
      simp only [Deferred.ofValue, Sem.run_bind, Sem.run_pure, Result.andThen_ok, invoke]
      rw [this]
      simp
    · trivial
  · cases hf with
    | yld hp =>
    rename_i l p
    unfold yieldR
    split
    · rename_i s pend fn nt tm ps as bd df hg
      obtain ⟨q, o, h1, h2, tm', d', rfl, h4, h5, h6⟩ := hR.at hp hg
      rw [hp] at h1
      cases h1
      cases hc : (Nat.beq args.length ps.size && ps.toList.all fun p => Nat.blt p nt) with
      | false => trivial
      | true =>
        simp only [Bool.and_eq_true, List.all_eq_true] at hc
        have c1 := Nat.eq_of_beq_eq_true hc.1
        obtain ⟨r1, r2⟩ := RT.puts ps.toList ha h5 (fun q hq => by rw [h4]; exact Nat.le_of_ble_eq_true (hc.2 q hq))
        refine ⟨p, _, hR, hp, r2.trans h4, r1, ?_⟩
        have hsz : args'.length = ps.size := by rw [← ha.length]; exact c1
        simp [Deferred.ofValue, invoke, Instr.yield, Instr.getLoop, getObj, Sem.run, h2, hsz]
        have hz : (ps.zip args'.toArray).size = ps.size := by simp [hsz]
        rw [← hz, ← Array.foldl_toList]
        congr 1
        simp
    · trivial
  · trivial
end
end
end Go.Proofs.YteaacjabcfopgaaGreat.Am
namespace Go.Proofs.YteaacjabcfopgaaGreat.Am
open Go.RowKit
noncomputable section
section
variable {P : Program} {w0 : Base} {φ : Phi} {h : H} {w : World} {C : Ctx} {tmps : T AV} {ρ : Operand → Value}
def bornE (b : Nat) : List (AV × AV × Nat) → Option (AV × AV × Nat)
  | [] => none
  | e :: l => cond (Nat.beq e.2.2 b) (some e) (bornE b l)
theorem bornE_ok {b : Nat} {es : List (AV × AV × Nat)} {ms : List MapEntry} (hr : REs φ es ms) : ∀ {e : AV × AV × Nat}, bornE b es = some e → ∃ m, ms.find? (fun m => m.born == b) = some m ∧ RE φ e m := by
  induction hr with
  | nil => intro e h; cases h
  | @cons e' m l k he ht ih =>
    intro e h
    unfold bornE at h
    cases hb : Nat.beq e'.2.2 b with
    | true =>
      rw [hb] at h
      have h' := Option.some.inj h
      subst h'
      have hb' := Nat.eq_of_beq_eq_true hb
      refine ⟨m, ?_, he⟩
      rw [List.find?_cons_of_pos]
      rw [beq_iff_eq, ← he.2.2]
      exact hb'
    | false =>
      rw [hb] at h
      obtain ⟨m', h1, h2⟩ := ih h
      refine ⟨m', ?_, h2⟩
      rw [List.find?_cons_of_neg]
      · exact h1
      · rw [beq_iff_eq, ← he.2.2]
        intro e2
        rw [e2] at hb
        simp at hb
def entryR (h : H) (x : AV) : R :=
  match x with
  | .ptr id off => cond (Nat.beq off 0) (match h.h.get id with
    | some (.iter (some mid) _ seen last) => (match h.h.get mid with
      | some (.map es cl) => (match seen.getLast? with
        | some b => cond (Nat.beq cl last) (match bornE b es with
          | some e => .val (.tup [e.1, e.2.1]) h
          | none => .stuck 50) (.stuck 50)
        | none => .stuck 50)
      | _ => .stuck 50)
    | _ => .stuck 50) (.stuck 50)
  | _ => .stuck 50
theorem ex_entry_ok (hR : RH w0 φ h w) (hE : Evals φ tmps ρ) (x : Operand) : OkR P w0 φ w (vN (Instr.entry (ρ x))) (entryR h (evalA tmps x)) := by
  have hx := hE x
  generalize evalA tmps x = ax at hx
  generalize ρ x = x' at hx ⊢
  unfold entryR
  split
  · cases hx with
    | ptr hp =>
    rename_i id off p
    cases h0 : Nat.beq off 0 with
    | false => trivial
    | true =>
      have := Nat.eq_of_beq_eq_true h0
      subst this
      simp only [cond_true]
      split
      · rename_i mid since seen last hg
        obtain ⟨q, o, h1, h2, hsh, m', rfl, r, h3, rfl⟩ := hR.at hp hg
        rw [hp] at h1
        cases h1
        split
        · rename_i es cl hg2
          obtain ⟨q2, o2, k1, k2, es', rfl, hes⟩ := hR.at h3 hg2
          rw [h3] at k1
          cases k1
          split
          · rename_i b hb
            cases hc : Nat.beq cl last with
            | false => trivial
            | true =>
              have hcl := Nat.eq_of_beq_eq_true hc
              subst hcl
              simp only [cond_true]
              split
              · rename_i e he
                obtain ⟨m, f1, f2⟩ := bornE_ok hes he
                have f3 : es'.find? (fun m => m.born == b) = some m := by rw [← Array.find?_toList]; exact f1
                have hback : seen.toArray.back? = some b := by simpa using hb
                refine OkR.v (v' := .tuple #[m.key, m.val]) hR (.tup (.cons f2.1 (.cons f2.2.1 .nil))) ?_
                have ha : p.addr 0 = ⟨p.blk, 0, none⟩ := by unfold PB.addr; rw [hsh]
                rw [ha]
                simp [Instr.entry, getObj, Sem.run, h2, k2, hback, f3]
              · trivial
          · trivial
        · trivial
      · trivial
  · trivial
end
end
end Go.Proofs.YteaacjabcfopgaaGreat.Am
namespace Go.Proofs.YteaacjabcfopgaaGreat.Am
open Go.RowKit
noncomputable section
section
variable {P : Program} {w0 : Base} {φ : Phi} {h : H} {w : World} {C : Ctx} {tmps : T AV} {ρ : Operand → Value}
def memN (b : Nat) : List Nat → Bool
  | [] => false
  | a :: l => cond (Nat.beq b a) true (memN b l)
theorem memN_ok (b : Nat) : ∀ l : List Nat, memN b l = l.contains b
  | [] => rfl
  | a :: l => by
    unfold memN
    rw [memN_ok b l, List.contains_cons]
    by_cases h : b = a
    · subst h; simp
    · have : Nat.beq b a = false := by
        cases e : Nat.beq b a with
        | false => rfl
        | true => exact absurd (Nat.eq_of_beq_eq_true e) h
      rw [this]
      simp [h]
def leftE (seen : List Nat) : List (AV × AV × Nat) → List (AV × AV × Nat)
  | [] => []
  | e :: l => cond (memN e.2.2 seen) (leftE seen l) (e :: leftE seen l)
theorem leftE_ok {seen : List Nat} {es : List (AV × AV × Nat)} {ms : List MapEntry} (hr : REs φ es ms) : REs φ (leftE seen es) (ms.filter fun m => !seen.contains m.born) := by
  induction hr with
  | nil => exact .nil
  | @cons e m l k he ht ih =>
    unfold leftE
    rw [memN_ok, he.2.2, List.filter_cons]
    cases seen.contains m.born with
    | true => exact ih
    | false => exact .cons he ih
def anyOld (last : Nat) : List (AV × AV × Nat) → Bool
  | [] => false
  | e :: l => cond (Nat.blt e.2.2 last) true (anyOld last l)
theorem anyOld_ok {last : Nat} {es : List (AV × AV × Nat)} {ms : List MapEntry} (hr : REs φ es ms) (h : anyOld last es = true) : (ms.all fun m => decide (m.born ≥ last)) = false := by
  induction hr with
  | nil => cases h
  | @cons e m l k he ht ih =>
    unfold anyOld at h
    rw [List.all_cons]
    cases hb : Nat.blt e.2.2 last with
    | true =>
      have hb' : e.2.2 < last := Nat.le_of_ble_eq_true hb
      rw [he.2.2] at hb'
      have : decide (m.born ≥ last) = false := decide_eq_false (by omega)
      rw [this]
      rfl
    | false =>
      rw [hb] at h
      rw [ih h]
      simp
def stepOk (seen : List Nat) (last : Nat) (es : List (AV × AV × Nat)) : Bool := seen.isEmpty || es.isEmpty || anyOld last es
theorem getObj_run {r : Nat} {o : Obj} (h : w.heap[r]? = some o) (hne : ∀ c e f, o ≠ .cells c e f) : (getObj r).run P w = .ok o w := by
  unfold getObj
  cases o <;> first | (exact absurd rfl (hne _ _ _)) | (simp only [Sem.run, h])
theorem next_none {r m : Nat} {since last cl : Nat} {seen : Array Nat} {es : Array MapEntry} {ty : TypeId} (h1 : w.heap[r]? = some (.mapIter (some m) since seen last)) (h2 : w.heap[m]? = some (.map es cl))
    (hg : (!seen.isEmpty && !es.isEmpty && es.all fun e => decide (e.born ≥ last)) = false) (hl : (es.filter fun e => !seen.contains e.born) = #[]) :
    (Instr.next (.pointer (some ⟨r, 0, none⟩)) false ty).run P w = .ok (.tuple #[.bool false]) w := by
  have g1 := getObj_run (P := P) h1 (fun _ _ _ h => by cases h)
  have g2 := getObj_run (P := P) h2 (fun _ _ _ h => by cases h)
  unfold Instr.next
  simp only [Sem.run_bind, g1, g2, Result.andThen_ok, hg, hl]
  simp [Question.forced]
theorem next_one {r m : Nat} {since last cl : Nat} {seen : Array Nat} {es : Array MapEntry} {e : MapEntry} {ty : TypeId} (h1 : w.heap[r]? = some (.mapIter (some m) since seen last)) (h2 : w.heap[m]? = some (.map es cl))
    (hg : (!seen.isEmpty && !es.isEmpty && es.all fun e => decide (e.born ≥ last)) = false) (hl : (es.filter fun e => !seen.contains e.born) = #[e]) (hb : e.born < since) :
    (Instr.next (.pointer (some ⟨r, 0, none⟩)) false ty).run P w = .ok (.tuple #[.bool true, e.key, e.val]) { w with heap := w.heap.setIfInBounds r (.mapIter (some m) since (seen.push e.born) cl) } := by
  have g1 := getObj_run (P := P) h1 (fun _ _ _ h => by cases h)
  have g2 := getObj_run (P := P) h2 (fun _ _ _ h => by cases h)
  have f1 : (#[e].filter fun e => decide (e.born < since)) = #[e] := by simp [hb]
  have f2 : (#[e].filter fun e => decide (e.born ≥ since)) = #[] := by simp; omega
  unfold Instr.next
  simp only [Sem.run_bind, g1, g2, Result.andThen_ok, hg, hl, f1, f2]
  simp [Question.forced, setObj, Sem.run, h1]
def nextM (h : H) (id mid since : Nat) (seen : List Nat) (cl : Nat) : List (AV × AV × Nat) → R
  | [] => .val (.tup [.bool false]) h
  | [e] => cond (Nat.blt e.2.2 since) (.val (.tup [.bool true, e.1, e.2.1]) (h.upd id (.iter (some mid) since (seen ++ [e.2.2]) cl))) (.stuck 51)
  | _ => .stuck 51
def nextRm (h : H) (x : AV) (s : Bool) : R :=
  match x with
  | .ptr id off => cond (Nat.beq off 0 && !s) (match h.h.get id with
    | some (.iter none _ _ _) => .val (.tup [.bool false]) h
    | some (.iter (some mid) since seen last) => (match h.h.get mid with
      | some (.map es cl) => cond (stepOk seen last es) (nextM h id mid since seen cl (leftE seen es)) (.stuck 51)
      | _ => .stuck 51)
    | _ => .stuck 51) (.stuck 51)
  | _ => .stuck 51
def nextSB (h : H) (id : Nat) (s : List Nat) (pos : Nat) (c : Option Nat) : R :=
  match c with
  | some c => cond (Nat.blt c 128) (.val (.tup [.bool true, .int .i64 (Int.ofNat pos), .int .i32 (Int.ofNat c)]) (h.upd id (.siter s (Nat.succ pos)))) (.stuck 53)
  | none => .val (.tup [.bool false]) h
def nextSR (h : H) (x : AV) : R :=
  match x with
  | .ptr id off => cond (Nat.beq off 0) (match h.h.get id with
    | some (.siter s pos) => nextSB h id s pos s[pos]?
    | _ => .stuck 53) (.stuck 53)
  | _ => .stuck 53
def nextR (h : H) (x : AV) (s : Bool) : R := cond s (nextSR h x) (nextRm h x s)
theorem next_sign {r pos : Nat} {b : ByteArray} {x : UInt8} {ty : TypeId} (h1 : w.heap[r]? = some (.stringIter b pos)) (hx : b.data.toList[pos]? = some x) (hc : x.toNat < 128) :
    (Instr.next (.pointer (some ⟨r, 0, none⟩)) true ty).run P w = .ok (.tuple #[.bool true, .int .i64 pos, .int .i32 x.toNat]) { w with heap := w.heap.setIfInBounds r (.stringIter b (pos + 1)) } := by
  have g1 := getObj_run (P := P) h1 (fun _ _ _ h => by cases h)
  have hlt : pos < b.size := by
    have := (List.getElem?_eq_some_iff.1 hx).1
    simpa using this
  have hg : (b.get! pos) = x := by
    have hl : pos < b.data.size := hlt
    show b.data[pos]! = x
    rw [Array.getElem!_eq_getD, Array.getD_eq_getD_getElem?, ← Array.getElem?_toList, hx]
    rfl
  have hd : Utf8.decode b pos = (x.toNat, 1) := by
    unfold Utf8.decode
    simp only [Nat.add_zero, hg]
    rw [if_pos hc]
  unfold Instr.next
  simp only [Sem.run_bind, g1, Result.andThen_ok]
  simp [hlt, hd, setObj, Sem.run, h1, goInt]
theorem next_signs_over {r pos : Nat} {b : ByteArray} {ty : TypeId} (h1 : w.heap[r]? = some (.stringIter b pos)) (hx : b.data.toList[pos]? = none) :
    (Instr.next (.pointer (some ⟨r, 0, none⟩)) true ty).run P w = .ok (.tuple #[.bool false]) w := by
  have g1 := getObj_run (P := P) h1 (fun _ _ _ h => by cases h)
  have hge : ¬ pos < b.size := by
    have := List.getElem?_eq_none_iff.1 hx
    have h2 : b.data.toList.length = b.size := by rw [Array.length_toList]; rfl
    omega
  unfold Instr.next
  simp only [Sem.run_bind, g1, Result.andThen_ok]
  simp [hge]
theorem ex_nextS_ok (hR : RH w0 φ h w) (hE : Evals φ tmps ρ) (x : Operand) (ty : TypeId) : OkR P w0 φ w (vN (Instr.next (ρ x) true ty)) (nextSR h (evalA tmps x)) := by
  have hx := hE x
  generalize evalA tmps x = ax at hx
  generalize ρ x = x' at hx ⊢
  unfold nextSR
  split
  · cases hx with
    | ptr hp =>
    rename_i id off p
    cases h0 : Nat.beq off 0 with
    | false => trivial
    | true =>
      have := Nat.eq_of_beq_eq_true h0
      subst this
      simp only [cond_true]
      split
      · rename_i s pos hg
        obtain ⟨q, o, h1, h2, hsh, b, rfl, rfl⟩ := hR.at hp hg
        rw [hp] at h1
        cases h1
        have ha : p.addr 0 = ⟨p.blk, 0, none⟩ := by unfold PB.addr; rw [hsh]
        have hlt := (hR.own id p hp).2
        rw [ha]
        cases hb : b.data.toList[pos]? with
        | none =>
          have e : (b.data.toList.map UInt8.toNat)[pos]? = none := by rw [List.getElem?_map, hb]; rfl
          rw [e]
          exact OkR.v (v' := .tuple #[.bool false]) hR (.tup (.cons (.bool _) .nil)) (next_signs_over h2 hb)
        | some c =>
          have e : (b.data.toList.map UInt8.toNat)[pos]? = some c.toNat := by rw [List.getElem?_map, hb]; rfl
          rw [e]
          show OkR P w0 φ w _ (cond (Nat.blt c.toNat 128) _ _)
          cases hc : Nat.blt c.toNat 128 with
          | false => trivial
          | true =>
            have hc' : c.toNat < 128 := Nat.le_of_ble_eq_true hc
            simp only [cond_true]
            exact OkR.vw φ.le_refl (hR.upd hg hp (One.obj w p.blk _) (o := .stringIter b (pos + 1)) (by simp [hlt]) ⟨hsh, b, rfl, rfl⟩) (v' := .tuple #[.bool true, .int .i64 pos, .int .i32 c.toNat]) (.tup (.cons (.bool _) (.cons (.int _ _) (.cons (.int _ _) .nil)))) (next_sign h2 hb hc')
      · trivial
  · trivial
theorem ex_nextM_ok (hR : RH w0 φ h w) (hE : Evals φ tmps ρ) (x : Operand) (s : Bool) (ty : TypeId) : OkR P w0 φ w (vN (Instr.next (ρ x) s ty)) (nextRm h (evalA tmps x) s) := by
  have hx := hE x
  generalize evalA tmps x = ax at hx
  generalize ρ x = x' at hx ⊢
  unfold nextRm
  split
  · cases hx with
    | ptr hp =>
    rename_i id off p
    cases h0 : (Nat.beq off 0 && !s) with
    | false => trivial
    | true =>
      simp only [Bool.and_eq_true, Bool.not_eq_true'] at h0
      have := Nat.eq_of_beq_eq_true h0.1
      subst this
      have hs := h0.2
      subst hs
      simp only [cond_true]
      split
      · rename_i a1 a2 a3 hg
        obtain ⟨q, o, h1, h2, hsh, m', rfl, rfl⟩ := hR.at hp hg
        rw [hp] at h1
        cases h1
        have ha : p.addr 0 = ⟨p.blk, 0, none⟩ := by unfold PB.addr; rw [hsh]
        rw [ha]
        exact OkR.v (v' := .tuple #[.bool false]) hR (.tup (.cons (.bool _) .nil)) (by simp [Instr.next, getObj, Sem.run, h2])
      · rename_i mid since seen last hg
        obtain ⟨q, o, h1, h2, hsh, m', rfl, r, h3, rfl⟩ := hR.at hp hg
        rw [hp] at h1
        cases h1
        have ha : p.addr 0 = ⟨p.blk, 0, none⟩ := by unfold PB.addr; rw [hsh]
        have hlt := (hR.own id p hp).2
        rw [ha]
        split
        · rename_i es cl hg2
          obtain ⟨q2, o2, k1, k2, es', rfl, hes⟩ := hR.at h3 hg2
          rw [h3] at k1
          cases k1
          cases hok : stepOk seen last es with
          | false => trivial
          | true =>
            simp only [cond_true]
            have hguard : (!seen.toArray.isEmpty && !es'.isEmpty && es'.all fun e => decide (e.born ≥ last)) = false := by
              unfold stepOk at hok
              simp only [Bool.or_eq_true] at hok
              rcases hok with (h | h) | h
              · have : seen.toArray.isEmpty = true := by simpa using h
                rw [this]; rfl
              · have he : es'.isEmpty = true := by
                  have hl := hes.length
                  have : es = [] := by simpa using h
                  rw [this] at hl
                  simp only [List.length_nil, Array.length_toList] at hl
                  simp [Array.isEmpty, ← hl]
                rw [he]; simp
              · have := anyOld_ok hes h
                rw [Array.all_toList] at this
                rw [this]; simp
            have hleft := leftE_ok (seen := seen) hes
            have hl2 : (es'.filter fun e => !seen.toArray.contains e.born).toList = es'.toList.filter fun m => !seen.contains m.born := by
              rw [Array.toList_filter]
              congr 1
              funext m
              simp
            rw [← hl2] at hleft
            generalize hla : (es'.filter fun e => !seen.toArray.contains e.born) = la at hleft
            cases hle : leftE seen es with
            | nil =>
              rw [hle] at hleft
              have : la = #[] := by
                have hl := hleft.length
                simp only [List.length_nil, Array.length_toList] at hl
                exact Array.eq_empty_of_size_eq_zero hl.symm
              subst this
              exact OkR.v (v' := .tuple #[.bool false]) hR (.tup (.cons (.bool _) .nil)) (next_none h2 k2 hguard hla)
            | cons e l =>
              cases l with
              | cons e2 l2 => trivial
              | nil =>
                rw [hle] at hleft
                show OkR P w0 φ w _ (cond (Nat.blt e.2.2 since) (.val (.tup [.bool true, e.1, e.2.1]) (h.upd id (.iter (some mid) since (seen ++ [e.2.2]) cl))) (.stuck 51))
                cases hb : Nat.blt e.2.2 since with
                | false => trivial
                | true =>
                  have hb' : e.2.2 < since := Nat.le_of_ble_eq_true hb
                  obtain ⟨m, hm⟩ : ∃ m, la = #[m] := by
                    have hl := hleft.length
                    simp only [List.length_singleton, Array.length_toList] at hl
                    exact Array.size_eq_one_iff.1 hl.symm
                  subst hm
                  obtain ⟨r1, r2, r3⟩ : RE φ e m := by
                    cases hleft with
                    | cons h _ => exact h
                  simp only [cond_true]
                  refine OkR.vw φ.le_refl (hR.upd hg hp (One.obj w p.blk _) (o := .mapIter (some r.blk) since (seen.toArray.push m.born) cl) (by simp [hlt]) ⟨hsh, some r.blk, ?_, r, h3, rfl⟩) (v' := .tuple #[.bool true, m.key, m.val]) (.tup (.cons (.bool _) (.cons r1 (.cons r2 .nil)))) (next_one h2 k2 hguard hla (by rw [← r3]; exact hb'))
                  rw [r3]
                  simp
        · trivial
      · trivial
  · trivial
theorem ex_next_ok (hR : RH w0 φ h w) (hE : Evals φ tmps ρ) (x : Operand) (s : Bool) (ty : TypeId) : OkR P w0 φ w (vN (Instr.next (ρ x) s ty)) (nextR h (evalA tmps x) s) := by
  cases s with
  | true => exact ex_nextS_ok hR hE x ty
  | false => exact ex_nextM_ok hR hE x false ty
end
end
end Go.Proofs.YteaacjabcfopgaaGreat.Am
namespace Go.Proofs.YteaacjabcfopgaaGreat.Am
open Go.RowKit
noncomputable section
section
variable {P : Program} {w0 : Base} {φ : Phi} {h : H} {w : World} {C : Ctx} {tmps : T AV} {ρ : Operand → Value}
def builtinR (C : Ctx) (h : H) (b : Builtin) (ts : Array TypeId) (args : List AV) : R :=
  match b with
  | .len => (match args with
    | [x] => (match ts[0]? with
      | some t => lenR h (C.ty.get t) x
      | none => .stuck 40)
    | _ => .stuck 40)
  | .append => (match args with
    | [s, x] => (match ts.toList with
      | [t, tx] => appendR C h (C.ty.get t) (C.ty.get tx) s x
      | _ => .stuck 41)
    | _ => .stuck 41)
  | .copy => (match args with
    | [d, x] => (match ts[0]? with
      | some t => copyR C h (C.ty.get t) d x
      | none => .stuck 42)
    | _ => .stuck 42)
  | .clear => (match args with
    | [x] => (match ts[0]? with
      | some t => clearR C h (C.ty.get t) x
      | none => .stuck 43)
    | _ => .stuck 43)
  | .delete => (match args with
    | [m, k] => (match ts[0]? with
      | some t => deleteR C h (C.ty.get t) m k
      | none => .stuck 44)
    | _ => .stuck 44)
  | .max => (match args with
    | [x, y] => mmR h true x y
    | _ => .stuck 45)
  | .min => (match args with
    | [x, y] => mmR h false x y
    | _ => .stuck 45)
  | _ => .stuck 46
theorem builtin_ok (hA : Agrees P C) (hR : RH w0 φ h w) (b : Builtin) (ts : Array TypeId) (ty : TypeId) (cs : Array Bool) {args : List AV} {args' : List Value} (ha : RL φ args args') :
    OkR P w0 φ w (builtin b ts ty cs args'.toArray) (builtinR C h b ts args) := by
  unfold builtinR
  split
  · split
    · cases ha with
      | cons h1 t1 =>
      cases t1
      split
      · rename_i t ht
        exact len_ok hA hR ht h1
      · trivial
    · trivial
  · split
    · cases ha with
      | cons h1 t1 =>
      cases t1 with
      | cons h2 t2 =>
      cases t2
      split
      · rename_i t tx ht
        obtain rfl : ts = #[t, tx] := Array.toList_inj.1 ht
        exact append_ok hA hR h1 h2
      · trivial
    · trivial
  · split
    · cases ha with
      | cons h1 t1 =>
      cases t1 with
      | cons h2 t2 =>
      cases t2
      split
      · rename_i t ht
        exact copy_ok hA hR ht h1 h2
      · trivial
    · trivial
  · split
    · cases ha with
      | cons h1 t1 =>
      cases t1
      split
      · rename_i t ht
        exact clear_ok hA hR ht h1
      · trivial
    · trivial
  · split
    · cases ha with
      | cons h1 t1 =>
      cases t1 with
      | cons h2 t2 =>
      cases t2
      split
      · rename_i t ht
        exact delete_ok hA hR ht h1 h2
      · trivial
    · trivial
  · split
    · cases ha with
      | cons h1 t1 =>
      cases t1 with
      | cons h2 t2 =>
      cases t2
      exact max_ok hR h1 h2
    · trivial
  · split
    · cases ha with
      | cons h1 t1 =>
      cases t1 with
      | cons h2 t2 =>
      cases t2
      exact min_ok hR h1 h2
    · trivial
  · trivial
def ccallR (C : Ctx) (h : H) (tmps : T AV) (c : Call) : R :=
  match c.callee with
  | .builtin b => builtinR C h b c.argTypes (evalL tmps c.args.toList)
  | .value f => invokeR C h (evalA tmps f) (evalL tmps c.args.toList)
  | .invoke _ _ => .stuck 47
theorem map_args (ρ : Operand → Value) (a : Array Operand) : a.map ρ = (a.toList.map ρ).toArray := by
  apply Array.toList_inj.1
  simp
theorem ccall_ok (hF : Enters P C) (hR : RH w0 φ h w) (hE : Evals φ tmps ρ) (c : Call) (ty : TypeId) :
    OkR P w0 φ w (do let d ← resolve ρ c ty; invoke d.target d.args) (ccallR C h tmps c) := by
  unfold ccallR
  split
  · rename_i b hb
    have := builtin_ok hF.ty hR b c.argTypes ty (c.args.map fun | .const _ => true | _ => false) (hE.list c.args.toList)
    refine OkR.congr ?_ this
    unfold resolve
    rw [hb]
    simp only [Sem.run_bind, Sem.run_pure, Result.andThen_ok, invoke, map_args]
    rfl
  · rename_i f hf
    have := invoke_ok hF hR (hE f) (hE.list c.args.toList)
    refine OkR.congr ?_ this
    unfold resolve
    rw [hf]
    simp only [map_args]
  · trivial
def execR (C : Ctx) (h : H) (tmps : T AV) (o : Op) : R :=
  match o with
  | .move x => ex_move h tmps x
  | .assign x => ex_move h tmps x
  | .pick c a b => ex_pick h tmps c a b
  | .alloc e => allocR h (C.ty.get e)
  | .box _ x => boxR h (evalA tmps x)
  | .build t ps => buildR C h (C.ty.get t) (evalP tmps ps.toList)
  | .buildSlice t n ps => buildSliceR C h (C.ty.get t) n (evalP tmps ps.toList)
  | .load t a => loadR C h t (evalA tmps a)
  | .store t a x => storeR C h t (evalA tmps x) (evalA tmps a)
  | .nilCheck x => nilR h (evalA tmps x)
  | .binOp op t x y _ => binR C h op t (evalA tmps x) (evalA tmps y)
  | .unOp op _ x => unR h op (evalA tmps x)
  | .convert s d x => convR C h (Nat.beq s d) (C.ty.get s) (C.ty.get d) (evalA tmps x)
  | .makeFunc f a b => makeFuncR h f (evalL tmps a.toList) (evalL tmps b.toList)
  | .makeMap t r => cond (hintOk (C.ty.get t) (evalO tmps r)) (makeMapR h) (.stuck 23)
  | .makeSlice t l c => makeSliceR C h (C.ty.get t) (natI (evalA tmps l)) (natI (evalA tmps c))
  | .slice t x lo hi mx => sliceR C h (C.ty.get t) (evalA tmps x) (evalO tmps lo) (evalO tmps hi) (evalO tmps mx)
  | .fieldAddr s x f => fieldAddrR C h (C.ty.get s) f (evalA tmps x)
  | .field s x f => fieldR C h (C.ty.get s) f (evalA tmps x)
  | .indexAddr t x ix => indexAddrR C h (C.ty.get t) (evalA tmps x) (natI (evalA tmps ix))
  | .index t x ix => indexR C h (C.ty.get t) (evalA tmps x) (natI (evalA tmps ix))
  | .lookup t x ix ok => lookupR C h (C.ty.get t) (evalA tmps x) (evalA tmps ix) ok
  | .mapUpdate t m k x => mapUpdR C h (C.ty.get t) (evalA tmps m) (evalA tmps k) (evalA tmps x)
  | .insert t m k x => mapUpdR C h (C.ty.get t) (evalA tmps m) (evalA tmps k) (evalA tmps x)
  | .mapEntry t m k => mapEntR C h (C.ty.get t) (evalA tmps m) (evalA tmps k)
  | .entryStore _ m s x => entStR h (evalA tmps m) (natI (evalA tmps s)) (evalA tmps x)
  | .range t x => rangeR h (C.ty.get t) (evalA tmps x)
  | .next it s => nextR h (evalA tmps it) s
  | .entry it => entryR h (evalA tmps it)
  | .extract t i => extractR h i (evalA tmps t)
  | .call c => ccallR C h tmps c
  | _ => .stuck 48
theorem exec_ok (hF : Enters P C) (hR : RH w0 φ h w) (hE : Evals φ tmps ρ) (o : Oper) : OkR P w0 φ w (execOp ρ o) (execR C h tmps o.op) := by
  have hA := hF.ty
  cases hop : o.op with
  | nilCheck x => exact ex_nilCheck_ok hR hE o x hop
  | move x => unfold execOp; rw [hop]; exact ex_move_ok hR hE x
  | assign x => unfold execOp; rw [hop]; exact ex_move_ok hR hE x
  | pick c a b => unfold execOp; rw [hop]; exact ex_pick_ok hR hE c a b
  | alloc e => unfold execOp; rw [hop]; exact ex_alloc_ok hA hR e
  | box e x => unfold execOp; rw [hop]; exact ex_box_ok hR hE e x
  | build t ps => unfold execOp; rw [hop]; exact ex_build_ok hA hR hE t ps
  | buildSlice t n ps => unfold execOp; rw [hop]; exact ex_buildSlice_ok hA hR hE t n ps
  | load t a => unfold execOp; rw [hop]; exact ex_load_ok hA hR hE t a
  | store t a x => unfold execOp; rw [hop]; exact ex_store_ok hA hR hE t a x
  | binOp op t x y u => unfold execOp; rw [hop]; exact ex_binOp_ok hA hR hE op t x y
  | unOp op t x => unfold execOp; rw [hop]; exact ex_unOp_ok hR hE op x
  | convert s d x => unfold execOp; rw [hop]; exact ex_convert_ok hA hR hE s d x
  | makeFunc f a b => unfold execOp; rw [hop]; exact ex_makeFunc_ok hR hE f a b
  | makeMap t r => unfold execOp; rw [hop]; exact ex_makeMap_ok hA hR hE t r
  | makeSlice t l c => unfold execOp; rw [hop]; exact ex_makeSlice_ok hA hR hE t l c
  | slice t x lo hi mx => unfold execOp; rw [hop]; exact ex_slice_ok hA hR hE t x lo hi mx
  | fieldAddr s x f => unfold execOp; rw [hop]; exact ex_fieldAddr_ok hA hR hE s x f
  | field s x f => unfold execOp; rw [hop]; exact ex_field_ok hA hR hE s x f
  | indexAddr t x ix => unfold execOp; rw [hop]; exact ex_indexAddr_ok hA hR hE t x ix
  | index t x ix => unfold execOp; rw [hop]; exact ex_index_ok hA hR hE t x ix
  | lookup t x ix ok => unfold execOp; rw [hop]; exact ex_lookup_ok hA hR hE t x ix ok
  | mapUpdate t m k x => unfold execOp; rw [hop]; exact ex_mapUpd_ok hA hR hE t m k x
  | insert t m k x => unfold execOp; rw [hop]; exact ex_mapUpd_ok hA hR hE t m k x
  | mapEntry t m k => unfold execOp; rw [hop]; exact ex_mapEnt_ok hA hR hE t m k
  | entryStore t m s x => unfold execOp; rw [hop]; exact ex_entSt_ok hR hE t m s x
  | range t x => unfold execOp; rw [hop]; exact ex_range_ok hA hR hE t x
  | next it s => unfold execOp; rw [hop]; exact ex_next_ok hR hE it s o.type
  | entry it => unfold execOp; rw [hop]; exact ex_entry_ok hR hE it
  | extract t i => unfold execOp; rw [hop]; exact ex_extract_ok hR hE t i
  | call c => unfold execOp; rw [hop]; exact ccall_ok hF hR hE c o.type
  | _ => trivial
end
end
end Go.Proofs.YteaacjabcfopgaaGreat.Am
namespace Go.Proofs.YteaacjabcfopgaaGreat.Am
open Go.RowKit
noncomputable section
section
variable {P : Program} {fn : FuncId} {tm : Array Value} {k : List Item} {df : List Deferred} {rd : Option Nat} {cs : List Frame} {w : World}
def mkF (fn : FuncId) (tm : Array Value) (todo : List Item) (df : List Deferred) (rd : Option Nat) : Frame := { fn, tmps := tm, todo, defers := df, mode := .run, kind := .normal, roundOf := rd }
theorem st_skip : step P (lone (mkF fn tm (.code .skip :: k) df rd) cs w) = .next (lone (mkF fn tm k df rd) cs w) := step_lone_go (by simp [stepG, stepG.exec, mkF])
theorem st_label {l : Nat} : step P (lone (mkF fn tm (.code (.label l) :: k) df rd) cs w) = .next (lone (mkF fn tm k df rd) cs w) := step_lone_go (by simp [stepG, stepG.exec, mkF])
theorem st_inBlock {id : Nat} : step P (lone (mkF fn tm (.inBlock id :: k) df rd) cs w) = .next (lone (mkF fn tm k df rd) cs w) := step_lone_go (by simp [stepG, stepG.exec, mkF])
theorem st_inScope {c : Code} : step P (lone (mkF fn tm (.inScope c :: k) df rd) cs w) = .next (lone (mkF fn tm k df rd) cs w) := step_lone_go (by simp [stepG, stepG.exec, mkF])
theorem st_seq {x y : Code} : step P (lone (mkF fn tm (.code (.seq x y) :: k) df rd) cs w) = .next (lone (mkF fn tm (.code x :: .code y :: k) df rd) cs w) := step_lone_go (by simp [stepG, stepG.exec, mkF])
theorem st_block {id : Nat} {c : Code} : step P (lone (mkF fn tm (.code (.block id c) :: k) df rd) cs w) = .next (lone (mkF fn tm (.code c :: .inBlock id :: k) df rd) cs w) := step_lone_go (by simp [stepG, stepG.exec, mkF])
theorem st_loop {c : Code} : step P (lone (mkF fn tm (.code (.loop c) :: k) df rd) cs w) = .next (lone (mkF fn tm (.code c :: .inLoop c :: k) df rd) cs w) := step_lone_go (by simp [stepG, stepG.exec, mkF])
theorem st_inLoop {c : Code} : step P (lone (mkF fn tm (.inLoop c :: k) df rd) cs w) = .next (lone (mkF fn tm (.code c :: .inLoop c :: k) df rd) cs w) := step_lone_go (by simp [stepG, stepG.exec, mkF])
theorem st_scope {c : Code} : step P (lone (mkF fn tm (.code (.scope c) :: k) df rd) cs w) = .next (lone (mkF fn tm (.code c :: .inScope c :: k) df rd) cs w) := step_lone_go (by simp [stepG, stepG.exec, mkF])
theorem st_exit {id : Nat} {k' : List Item} (h : exitTo id k = some k') : step P (lone (mkF fn tm (.code (.exit id) :: k) df rd) cs w) = .next (lone (mkF fn tm k' df rd) cs w) := step_lone_go (by simp [stepG, stepG.exec, mkF, h])
theorem st_goto {l : Nat} {k' : List Item} (h : gotoIn l k = some k') : step P (lone (mkF fn tm (.code (.goto l) :: k) df rd) cs w) = .next (lone (mkF fn tm k' df rd) cs w) := step_lone_go (by simp [stepG, stepG.exec, mkF, h])
theorem st_cond {c : Operand} {x y : Code} {t : Bool} (h : (mkF fn tm k df rd).eval c = .bool t) : step P (lone (mkF fn tm (.code (.cond c x y) :: k) df rd) cs w) = .next (lone (mkF fn tm (.code (if t then x else y) :: k) df rd) cs w) :=
  step_lone_go (by
    have h' : (mkF fn tm (.code (.cond c x y) :: k) df rd).eval c = .bool t := by rw [← h]; cases c <;> rfl
    unfold mkF at h' ⊢
    simp [stepG, stepG.exec, h'])
theorem st_region {id : Nat} {ops : Array Oper} : step P (lone (mkF fn tm (.code (.region id ops false) :: k) df rd) cs w) = .next (lone (mkF fn tm (.inRegion ops (List.range ops.size) :: k) df rd) cs w) := step_lone_go (by simp [stepG, stepG.exec, mkF])
theorem st_region_draw {id : Nat} {ops : Array Oper} : step P (lone (mkF fn tm (.code (.region id ops true) :: k) df rd) cs w) =
    .next (lone (mkF fn tm (.inRegion ops (Region.schedule (P.follows .mixedOrders) ops (w.tape w.drawn (.order fn id))) :: k) df rd) cs { w with drawn := w.drawn + 1 }) :=
  step_lone_go (by simp [stepG, stepG.exec, mkF, choose, Sem.run, Question.forced, Question.cut])
theorem st_region_end {ops : Array Oper} : step P (lone (mkF fn tm (.inRegion ops [] :: k) df rd) cs w) = .next (lone (mkF fn tm k df rd) cs w) := step_lone_go (by simp [stepG, stepG.exec, mkF])
end
end
end Go.Proofs.YteaacjabcfopgaaGreat.Am
namespace Go.Proofs.YteaacjabcfopgaaGreat.Am
open Go.RowKit
noncomputable section
section
variable {P : Program} {fn : FuncId} {tm : Array Value} {k : List Item} {df : List Deferred} {rd : Option Nat} {cs : List Frame} {w : World}
def putT (tm : Array Value) (d : Option Tmp) (v : Value) : Array Value := match d with | some d => tm.setIfInBounds d v | none => tm
theorem stepG_operR {ops : Array Oper} {i : Nat} {rest : List Nat} {o : Oper} (ho : ops[i]? = some o) (hw : Region.wanted o (yielded ops tm) = true) (hnd : ∀ c, o.op ≠ .defer c) :
    stepG P true { frame := mkF fn tm (.inRegion ops (i :: rest) :: k) df rd, callers := cs, status := .running, dying := none } w =
      stepG.apply P true (mkF fn tm (.inRegion ops (i :: rest) :: k) df rd) cs none (execOp (mkF fn tm (.inRegion ops (i :: rest) :: k) df rd).eval o) w := by
  unfold mkF
  simp only [stepG, stepG.exec, ho, Option.map_some, hw, Option.getD_some, if_true, stepG.oper, Frame.oper?]
  cases rd with
  | none => rfl
  | some l =>
    cases hop : o.op <;> first | rfl | exact absurd hop (hnd _)
theorem fin_at {ops : Array Oper} {i : Nat} {rest : List Nat} {o : Oper} (ho : ops[i]? = some o) (v : Value) :
    (mkF fn tm (.inRegion ops (i :: rest) :: k) df rd).finish v = mkF fn (putT tm o.dst v) (.inRegion ops rest :: k) df rd := by
  unfold mkF Frame.finish putT
  simp only [ho, Option.bind_some]
  rfl
theorem st_op_value {ops : Array Oper} {i : Nat} {rest : List Nat} {o : Oper} {v : Value} {n : Next} {w' : World} (ho : ops[i]? = some o) (hw : Region.wanted o (yielded ops tm) = true) (hnd : ∀ c, o.op ≠ .defer c)
    (hr : (execOp (mkF fn tm (.inRegion ops (i :: rest) :: k) df rd).eval o).run P w = .ok n w') (hn : n = .value v ∨ (n = .skip ∧ v = undef)) :
    step P (lone (mkF fn tm (.inRegion ops (i :: rest) :: k) df rd) cs w) = .next (lone (mkF fn (putT tm o.dst v) (.inRegion ops rest :: k) df rd) cs w') := by
  refine step_lone_go ?_
  rw [stepG_operR ho hw hnd]
  rcases hn with rfl | ⟨rfl, rfl⟩
  · simp [stepG.apply, hr, fin_at ho]
  · simp [stepG.apply, hr, fin_at ho]
theorem st_op_enter {ops : Array Oper} {i : Nat} {rest : List Nat} {o : Oper} {f : FuncId} {args : Array Value} {w' : World} (ho : ops[i]? = some o) (hw : Region.wanted o (yielded ops tm) = true) (hnd : ∀ c, o.op ≠ .defer c)
    (hr : (execOp (mkF fn tm (.inRegion ops (i :: rest) :: k) df rd).eval o).run P w = .ok (.enter f args) w') :
    step P (lone (mkF fn tm (.inRegion ops (i :: rest) :: k) df rd) cs w) = .next (lone (Frame.enter P f args .normal) (mkF fn tm (.inRegion ops (i :: rest) :: k) df rd :: cs) w') := by
  refine step_lone_go ?_
  rw [stepG_operR ho hw hnd]
  simp [stepG.apply, hr]
  rfl
theorem st_op_round {ops : Array Oper} {i : Nat} {rest : List Nat} {o : Oper} {l : Nat} {f : FuncId} {t2 : Array Value} {as bd : Code} {w' : World} (ho : ops[i]? = some o) (hw : Region.wanted o (yielded ops tm) = true) (hnd : ∀ c, o.op ≠ .defer c)
    (hr : (execOp (mkF fn tm (.inRegion ops (i :: rest) :: k) df rd).eval o).run P w = .ok (.round l f t2 as bd) w') :
    step P (lone (mkF fn tm (.inRegion ops (i :: rest) :: k) df rd) cs w) = .next (lone (mkF f t2 [.code as, .beginRound, .code bd] [] (some l)) (mkF fn tm (.inRegion ops (i :: rest) :: k) df rd :: cs) w') := by
  refine step_lone_go ?_
  rw [stepG_operR ho hw hnd]
  simp [stepG.apply, hr]
  rfl
theorem st_op_skip {ops : Array Oper} {i : Nat} {rest : List Nat} {o : Oper} (ho : ops[i]? = some o) (hw : Region.wanted o (yielded ops tm) = false) :
    step P (lone (mkF fn tm (.inRegion ops (i :: rest) :: k) df rd) cs w) = .next (lone (mkF fn (putT tm o.dst undef) (.inRegion ops rest :: k) df rd) cs w) := by
  refine step_lone_go ?_
  have := fin_at (fn := fn) (tm := tm) (k := k) (df := df) (rd := rd) (rest := rest) ho undef
  unfold mkF at this ⊢
  simp [stepG, stepG.exec, ho, hw, this]
end
end
end Go.Proofs.YteaacjabcfopgaaGreat.Am
namespace Go.Proofs.YteaacjabcfopgaaGreat.Am
open Go.RowKit
noncomputable section
section
variable {P : Program} {fn : FuncId} {tm : Array Value} {k : List Item} {df : List Deferred} {rd : Option Nat} {cs : List Frame} {w : World}
def retF (fn : FuncId) (tm : Array Value) (todo : List Item) (df : List Deferred) : Frame := { fn, tmps := tm, todo, defers := df, mode := .returning, kind := .normal, roundOf := none }
theorem st_ret : step P (lone (mkF fn tm (.code .ret :: k) df none) cs w) = .next (lone (retF fn tm (.code .ret :: k) df) cs w) :=
  step_lone_go (by simp [stepG, stepG.exec, mkF, retF])
theorem st_end : step P (lone (mkF fn tm [] df none) cs w) = .next (lone (retF fn tm [] df) cs w) :=
  step_lone_go (by simp [stepG, stepG.exec, mkF, retF])
theorem st_pop {c : Frame} {f : Func} {v : Value} (hf : P.funcs[fn]? = some f) (hr : (results f tm).run P w = .ok v w) :
    step P (lone (retF fn tm k []) (c :: cs) w) = .next (lone (c.finish v) cs w) :=
  step_lone_go (by simp [stepG, unwind, doReturn, retF, hf, hr])
theorem st_collect {r : Nat} {ds : List Deferred} (h : w.heap[r]? = some (.deferred (some []))) :
    step P (lone (retF fn tm k ({ target := .collected r, args := #[] } :: ds)) cs w) = .next (lone (retF fn tm k ds) cs { w with heap := w.heap.setIfInBounds r (.deferred none) }) :=
  step_lone_go (by simp [stepG, unwind, retF, Instr.takeDeferred, getObj, setObj, Sem.run, h])
theorem st_round_end {l : Nat} {L : Loop} {c : Frame} {jump : Option Code} {todo : List Item} (h : w.heap[l]? = some (.loop L)) (ht : (todo = [] ∧ jump = none) ∨ (∃ k, todo = .code .ret :: k ∧ jump = some .ret)) :
    step P (lone (mkF fn tm todo df (some l)) (c :: cs) w) = .next (lone (c.finish (.bool jump.isNone)) cs { w with heap := w.heap.setIfInBounds l (.loop { L with state := if jump.isNone then .ready else .done, pending := jump }) }) := by
  refine step_lone_go ?_
  rcases ht with ⟨rfl, rfl⟩ | ⟨k, rfl, rfl⟩
  · simp [stepG, stepG.exec, mkF, Instr.endRound, Instr.getLoop, getObj, setObj, Sem.run, h, doReturn]
  · simp [stepG, stepG.exec, mkF, Instr.endRound, Instr.getLoop, getObj, setObj, Sem.run, h, doReturn]
theorem st_round_exit {l id : Nat} {L : Loop} {c : Frame} (h : w.heap[l]? = some (.loop L)) (ht : exitTo id k = none) :
    step P (lone (mkF fn tm (.code (.exit id) :: k) df (some l)) (c :: cs) w) = .next (lone (c.finish (.bool false)) cs { w with heap := w.heap.setIfInBounds l (.loop { L with state := .done, pending := some (.exit id) }) }) :=
  step_lone_go (by simp [stepG, stepG.exec, mkF, ht, Instr.endRound, Instr.getLoop, getObj, setObj, Sem.run, h, doReturn])
theorem st_round_goto {l lb : Nat} {L : Loop} {c : Frame} (h : w.heap[l]? = some (.loop L)) (ht : gotoIn lb k = none) :
    step P (lone (mkF fn tm (.code (.goto lb) :: k) df (some l)) (c :: cs) w) = .next (lone (c.finish (.bool false)) cs { w with heap := w.heap.setIfInBounds l (.loop { L with state := .done, pending := some (.goto lb) }) }) :=
  step_lone_go (by simp [stepG, stepG.exec, mkF, ht, Instr.endRound, Instr.getLoop, getObj, setObj, Sem.run, h, doReturn])
end
end
end Go.Proofs.YteaacjabcfopgaaGreat.Am
namespace Go.Proofs.YteaacjabcfopgaaGreat.Am
open Go.RowKit
noncomputable section
section
variable {P : Program} {fn : FuncId} {tm : Array Value} {k : List Item} {df : List Deferred} {rd : Option Nat} {cs : List Frame} {w : World}
theorem st_begin {l : Nat} {L : Loop} (h : w.heap[l]? = some (.loop L)) (hs : L.state = .ready) :
    step P (lone (mkF fn tm (.beginRound :: k) df (some l)) cs w) = .next (lone (mkF fn tm k df (some l)) cs { w with heap := w.heap.setIfInBounds l (.loop { L with state := .busy }) }) :=
  step_lone_go (by simp [stepG, stepG.exec, mkF, stepG.apply, Instr.beginRound, Instr.getLoop, getObj, setObj, Sem.run, h, hs, Frame.finish])
theorem st_rf_end {l : Nat} {L : Loop} (h : w.heap[l]? = some (.loop L)) (hs : L.state ≠ .busy) :
    step P (lone (mkF fn tm (.endRangeFunc l :: k) df rd) cs w) = .next (lone (mkF fn tm ((L.pending.map Item.code).toList ++ k) df rd) cs { w with heap := w.heap.setIfInBounds l (.loop { L with state := .exhausted }) }) :=
  step_lone_go (by simp [stepG, stepG.exec, mkF, Instr.endLoop, Instr.getLoop, getObj, setObj, Sem.run, h, hs])
def rfCall (f : Operand) (l : Nat) : Call := { callee := .value f, args := #[.const (.func (.yield l) #[] #[])], argTypes := #[] }
theorem st_rf_enter {f : Operand} {ps : Array Tmp} {as bd : Code} {g : FuncId} {args : Array Value} {w2 : World}
    (h2 : w2 = (w.alloc (.deferred (some []))).alloc (.loop { state := .ready, pending := none, fn, tmps := tm, params := ps, assign := as, body := bd, defers := w.heap.size }))
    (hr : (do let d ← resolve (mkF fn tm (.inRangeFunc (w.heap.size + 1) :: k) ({ target := .collected w.heap.size, args := #[] } :: df) none).eval (rfCall f (w.heap.size + 1)) 0; invoke d.target d.args : Sem Next).run P w2 = .ok (.enter g args) w2) :
    step P (lone (mkF fn tm (.code (.rangeFunc f ps as bd) :: k) df none) cs w) =
      .next (lone (Frame.enter P g args .normal) (mkF fn tm (.inRangeFunc (w.heap.size + 1) :: k) ({ target := .collected w.heap.size, args := #[] } :: df) none :: cs) w2) := by
  refine step_lone_go ?_
  have he : (Instr.enterLoop fn tm ps as bd none).run P w = .ok (w.heap.size + 1, [{ target := .collected w.heap.size, args := #[] }]) w2 := by
    rw [h2]
    simp [Instr.enterLoop]
  unfold rfCall at hr
  simp only [stepG, stepG.exec, mkF, Sem.runT_eq, he]
  unfold mkF at hr
  simp [stepG.apply, hr]
end
end
end Go.Proofs.YteaacjabcfopgaaGreat.Am
namespace Go.Proofs.YteaacjabcfopgaaGreat.Am
open Go.RowKit
noncomputable section
section
variable {P : Program} {w0 : Base} {φ : Phi} {h : H} {w : World} {C : Ctx} {tmps : T AV} {ρ : Operand → Value}
inductive AK where
  | p
  | s (len c : Nat)
  | b (len : Nat)
  | m
def AK.at (k : AK) (id : Nat) : AV :=
  match k with
  | .p => .ptr id 0
  | .s n c => .slice id 0 n (.k c)
  | .b n => .slice id 0 n (.own 1)
  | .m => .map id
def cellsB (l : List AV) (ish : Bool) : Blk := .cells l.length (T.ofList l) ish
def rowA (l : List AV) (n c : Nat) : Option (AK × Blk) := some (.s n c, cellsB l false)
def allocA : Option TI → Option (AK × Blk)
  | some i => some (.p, cellsB i.zero false)
  | none => none
def boxA (v : AV) : Option (AK × Blk) := cond (allOne (cellsV v)) (some (.p, cellsB (cellsV v) false)) none
def buildSliceA (C : Ctx) (d : Option TI) (len : Nat) (parts : List (Nat × AV)) : Option (AK × Blk) :=
  match d with
  | none => none
  | some d => (match d.d with
    | .slice e => (match C.ty.get e with
      | some i => cond (Nat.blt 0 i.size && Nat.ble (Nat.mul len i.size) 16777216) (match fillA (fun j => some (Nat.mul j i.size, i.size)) (repL i.zero len) parts with
        | some cs => rowA cs len len
        | none => none) none
      | none => none)
    | _ => none)
def makeSliceA (C : Ctx) (d : Option TI) (l c : Option Nat) : Option (AK × Blk) :=
  match d, l, c with
  | some d, some l, some c => (match d.d with
    | .slice e => (match C.ty.get e with
      | some i => cond (Nat.blt 0 i.size && Nat.ble l c && Nat.ble c 1099511627776 && Nat.ble (Nat.mul i.bytes c) 140737488355328) (rowA (repL i.zero c) l c) none
      | none => none)
    | _ => none)
  | _, _, _ => none
def makeMapA (d : Option TI) (r : Option AV) : Option (AK × Blk) := cond (hintOk d r) (some (.m, .map [] 0)) none
def convA (C : Ctx) (dd : Option TI) (ds : Option TI) (x : AV) : Option (AK × Blk) :=
  match ds, dd with
  | some _, some dd => (match dd.d with
    | .slice e => (match x with
      | .str s => cond (isU8 C e) (some (.b s.length, .cells s.length (T.ofList (byteCells s)) true)) none
      | _ => none)
    | _ => none)
  | _, _ => none
def allocOf (C : Ctx) (tmps : T AV) (o : Op) : Option (AK × Blk) :=
  match o with
  | .alloc e => allocA (C.ty.get e)
  | .box _ x => boxA (evalA tmps x)
  | .buildSlice t n ps => buildSliceA C (C.ty.get t) n (evalP tmps ps.toList)
  | .makeSlice t l c => makeSliceA C (C.ty.get t) (natI (evalA tmps l)) (natI (evalA tmps c))
  | .makeMap t r => makeMapA (C.ty.get t) (evalO tmps r)
  | .convert s d x => convA C (C.ty.get d) (C.ty.get s) (evalA tmps x)
  | _ => none
def OkA (P : Program) (φ : Phi) (w : World) (s : Sem Next) (k : AK) (b : Blk) : Prop :=
  ∃ (v' : Value) (n N : Nat) (o : Obj), s.run P w = .ok (.value v') (World.alloc { w with drawn := n } o) ∧ ∀ (ψ : Phi) (id : Nat), φ.le ψ → ψ id = some ⟨w.heap.size, 0, N⟩ → RB ψ ⟨w.heap.size, 0, N⟩ b o ∧ RV ψ (k.at id) v'
theorem row_rb {ψ : Phi} {b N : Nat} {l : List AV} {vs : List Value} (e : TypeId) (hle : φ.le ψ) (hl : RL φ l vs) (ho : ∀ v ∈ vs, v.oneCell' = true) (hN : vs.length = N) : RB ψ ⟨b, 0, N⟩ (cellsB l false) (.cells vs.toArray e) := by
  refine ⟨_, e, 0, 0, rfl, by simp [hN], by simp [hl.length, hN], fun i _ => by omega, fun _ => by simp, fun i av hg hi => ?_⟩
  obtain ⟨v, h1, h2⟩ := hl.get i av (T.get_ofList hg)
  refine ⟨v, ?_, h2.mono hle, ho v (List.mem_of_getElem? h1)⟩
  simp only [Nat.zero_add, List.getElem?_toArray]
  exact h1
theorem OkA.row {s : Sem Value} {e : TypeId} {cs : List AV} {us : List Value} {len c : Nat} (hr : RL φ cs us) (ho : ∀ v ∈ us, v.oneCell' = true) (hl : len ≤ c)
    (hs : s.run P w = .ok (.slice (some ⟨w.heap.size, 0, none⟩) len c) (w.alloc (.cells us.toArray e))) : OkA P φ w (vN s) (.s len c) (cellsB cs false) :=
  ⟨_, w.drawn, us.length, _, by simp only [vN, Sem.run_bind, hs, Result.andThen_ok]; rfl, fun ψ id hle hp => ⟨row_rb e hle hr ho rfl, .slice (p := ⟨w.heap.size, 0, us.length⟩) hp hl rfl⟩⟩
theorem OkA.var {s : Sem Value} {e : TypeId} {cs : List AV} {us : List Value} (hr : RL φ cs us) (ho : ∀ v ∈ us, v.oneCell' = true)
    (hs : s.run P w = .ok (.pointer (some ⟨w.heap.size, 0, none⟩)) (w.alloc (.cells us.toArray e))) : OkA P φ w (vN s) .p (cellsB cs false) :=
  ⟨_, w.drawn, us.length, _, by simp only [vN, Sem.run_bind, hs, Result.andThen_ok]; rfl, fun ψ id hle hp => ⟨row_rb e hle hr ho rfl, .ptr (p := ⟨w.heap.size, 0, us.length⟩) hp⟩⟩
theorem allocA_ok (hA : Agrees P C) (t : TypeId) {k : AK} {b : Blk} (h : allocA (C.ty.get t) = some (k, b)) : OkA P φ w (vN (Instr.alloc t true (.tuple #[]))) k b := by
  unfold allocA at h
  split at h
  · rename_i i hi
    cases h
    have ok := hA.ty t i hi
    obtain ⟨z, h1, h2, h3, h4, _⟩ := ok.zero φ
    exact OkA.var (e := t) h3 h4 (by simp [Instr.alloc, h1, newVar, newRow])
  · cases h
theorem boxA_ok (hE : Evals φ tmps ρ) (t : TypeId) (x : Operand) {k : AK} {b : Blk} (h : boxA (evalA tmps x) = some (k, b)) : OkA P φ w (vN (Instr.box t (ρ x))) k b := by
  have hx := hE x
  unfold boxA at h
  cases ho : allOne (cellsV (evalA tmps x)) with
  | false => rw [ho] at h; cases h
  | true =>
    rw [ho] at h
    cases h
    have hc := cellsV_ok hx ho
    exact OkA.var (e := t) hc (allOne_RL hc ho) (by simp [Instr.box, newVar, newRow])
theorem buildSliceA_ok (hA : Agrees P C) (hE : Evals φ tmps ρ) (t : TypeId) (len : Nat) (parts : Array (Nat × Operand)) {k : AK} {b : Blk} (h : buildSliceA C (C.ty.get t) len (evalP tmps parts.toList) = some (k, b)) :
    OkA P φ w (vN (Instr.buildSlice t len (parts.map fun (i, x) => (i, ρ x)))) k b := by
  unfold buildSliceA at h
  split at h
  · cases h
  · rename_i d hd
    have ok := hA.ty t d hd
    split at h
    · rename_i e he
      have hu : (underlying t).run P w = .ok (.slice e) w := by rw [ok.underlying, he]
      split at h
      · rename_i i hi
        have oke := hA.ty e i hi
        cases hb : (Nat.blt 0 i.size && Nat.ble (Nat.mul len i.size) 16777216) with
        | false => rw [hb] at h; cases h
        | true =>
          rw [hb] at h
          simp only [Bool.and_eq_true] at hb
          have b1 : 0 < i.size := Nat.le_of_ble_eq_true hb.1
          have b2 : len * i.size ≤ 16777216 := Nat.le_of_ble_eq_true hb.2
          simp only [cond_true] at h
          split at h
          · rename_i cs hcs
            cases h
            obtain ⟨z, z1, z2, z3, z4, _⟩ := oke.zero φ
            obtain ⟨rp1, rp2⟩ := rep_ok z3 z4 len
            obtain ⟨us, r1, r2, r3, r4⟩ := fillA_ok (evalP_ok hE parts.toList) rp1 rp2 hcs
            have hzl : z.cells.toList.length = i.size := by rw [Array.length_toList]; exact z2
            refine OkA.row (e := e) r2 r3 (Nat.le_refl _) ?_
            have hrow : (Array.range (len * i.size)).map (fun x => (if len * i.size = 0 then (#[] : Array Value) else z.cells)[x % (if len * i.size = 0 then (#[] : Array Value) else z.cells).size]!) = (repV z.cells.toList len).toArray := by
              by_cases h0 : len * i.size = 0
              · have hl0 : len = 0 := by
                  rcases Nat.mul_eq_zero.1 h0 with h | h
                  · exact h
                  · omega
                subst hl0
                simp [repV]
              · rw [if_neg h0]
                have := rowOf z.cells.toList len (by rw [hzl]; exact b1)
                rw [hzl] at this
                simpa using this
            have h24 : ¬ (len * i.size > 2 ^ 24) := by omega
            unfold Instr.buildSlice
            rw [Sem.run_bind, hu, Result.andThen_ok]
            simp only
            rw [Sem.run_bind, oke.sizeOf, Result.andThen_ok, if_neg h24]
            have e1 : (parts.map fun (i, x) => (i, ρ x)).toList = parts.toList.map fun (i, x) => (i, ρ x) := by simp
            have r1' : Instr.fill (fun j => some (j * i.size, i.size)) (repV z.cells.toList len).toArray (parts.toList.map fun (i, x) => (i, ρ x)) = some us.toArray := r1
            by_cases h0 : len * i.size = 0
            · rw [if_pos h0]
              simp only [if_pos h0] at hrow
              rw [Sem.run_bind, Sem.run_pure, Result.andThen_ok, hrow, e1, r1']
              simp [newRow]
            · rw [if_neg h0]
              simp only [if_neg h0] at hrow
              rw [Sem.run_bind, z1, Result.andThen_ok, Sem.run_bind, Sem.run_pure, Result.andThen_ok, hrow, e1, r1']
              simp [newRow]
          · cases h
      · cases h
    · cases h
theorem makeSliceA_ok (hA : Agrees P C) (hE : Evals φ tmps ρ) (t : TypeId) (l c : Operand) {k : AK} {b : Blk} (h : makeSliceA C (C.ty.get t) (natI (evalA tmps l)) (natI (evalA tmps c)) = some (k, b)) :
    OkA P φ w (vN (Instr.makeSlice t (ρ l) (ρ c))) k b := by
  unfold makeSliceA at h
  split at h
  · rename_i d l' c' hd hl hc
    have ok := hA.ty t d hd
    obtain ⟨j1, e1⟩ := natI_ok (hE l) hl
    obtain ⟨j2, e2⟩ := natI_ok (hE c) hc
    rw [e1, e2]
    split at h
    · rename_i e he
      have hu : (underlying t).run P w = .ok (.slice e) w := by rw [ok.underlying, he]
      split at h
      · rename_i i hi
        have oke := hA.ty e i hi
        cases hb : (Nat.blt 0 i.size && Nat.ble l' c' && Nat.ble c' 1099511627776 && Nat.ble (Nat.mul i.bytes c') 140737488355328) with
        | false => rw [hb] at h; cases h
        | true =>
          rw [hb] at h
          cases h
          simp only [Bool.and_eq_true] at hb
          have b1 : 0 < i.size := Nat.le_of_ble_eq_true hb.1.1.1
          have b2 := Nat.le_of_ble_eq_true hb.1.1.2
          have b3 := Nat.le_of_ble_eq_true hb.1.2
          have b4 : i.bytes * c' ≤ 140737488355328 := Nat.le_of_ble_eq_true hb.2
          obtain ⟨z, z1, z2, z3, z4, _⟩ := oke.zero φ
          obtain ⟨rp1, rp2⟩ := rep_ok z3 z4 c'
          have hzl : z.cells.toList.length = i.size := by rw [Array.length_toList]; exact z2
          obtain ⟨info, y1, y2⟩ := oke.bytes (w := w)
          refine OkA.row (e := e) rp1 rp2 b2 ?_
          have w1 : IntKind.i64.wrap (l' : Int) = l' := wrap_small (by omega)
          have w2 : IntKind.i64.wrap (c' : Int) = c' := wrap_small b3
          have t1 : ((c' : Int) < 0) = False := eq_false (by omega)
          have t2 : ¬ (281474976710656 < (i.bytes : Int) * (c' : Int)) := by
            have : ((i.bytes * c' : Nat) : Int) ≤ ((140737488355328 : Nat) : Int) := Int.ofNat_le.2 b4
            rw [Int.natCast_mul] at this
            omega
          have t3 : ((l' : Int) < 0) = False := eq_false (by omega)
          have t4 : ((l' : Int) > (c' : Int)) = False := eq_false (by omega)
          have hrow : (Array.range (c' * i.size)).map (fun x => (if c' * i.size = 0 then (#[] : Array Value) else z.cells)[x % (if c' * i.size = 0 then (#[] : Array Value) else z.cells).size]!) = (repV z.cells.toList c').toArray := by
            by_cases h0 : c' * i.size = 0
            · have hl0 : c' = 0 := by
                rcases Nat.mul_eq_zero.1 h0 with h | h
                · exact h
                · omega
              subst hl0
              simp [repV]
            · rw [if_neg h0]
              have := rowOf z.cells.toList c' (by rw [hzl]; exact b1)
              rw [hzl] at this
              simpa using this
          unfold Instr.makeSlice
          by_cases h0 : c' * i.size = 0
          · simp only [if_pos h0] at hrow
            simp [hu, asInt, asIntOf, y1, y2, w1, w2, t1, t3, t4, oke.sizeOf, h0, newRow] at hrow ⊢
            rw [← hrow]
            simp
            intro hx
            exact absurd hx t2
          · simp only [if_neg h0] at hrow
            simp [hu, asInt, asIntOf, y1, y2, w1, w2, t1, t3, t4, oke.sizeOf, h0, z1, newRow] at hrow ⊢
            rw [← hrow]
            simp
            intro hx
            exact absurd hx t2
      · cases h
    · cases h
  · cases h
theorem makeMapA_ok (hA : Agrees P C) (hE : Evals φ tmps ρ) (t : TypeId) (r : Option Operand) {k : AK} {b : Blk} (h : makeMapA (C.ty.get t) (evalO tmps r) = some (k, b)) : OkA P φ w (vN (Instr.makeMap t (r.map ρ))) k b := by
  unfold makeMapA at h
  cases hh : hintOk (C.ty.get t) (evalO tmps r) with
  | false => rw [hh] at h; cases h
  | true =>
    rw [hh] at h
    cases h
    refine ⟨.map (some w.heap.size), w.drawn, 0, .map #[] 0, ?_, fun ψ id hle hp => ⟨⟨#[], rfl, .nil⟩, .map (p := ⟨w.heap.size, 0, 0⟩) hp⟩⟩
    cases r with
    | none => simp [vN, Instr.makeMap]
    | some o =>
      have hh' : (match C.ty.get t with | some d => (match d.d with | .map _ _ => (match natI (evalA tmps o) with | some _ => true | none => false) | _ => false) | none => false) = true := hh
      split at hh'
      · rename_i d hd
        have ok := hA.ty t d hd
        split at hh'
        · rename_i k e he
          split at hh'
          · rename_i n hn
            obtain ⟨j, hj⟩ := natI_ok (hE o) hn
            have hu : (underlying t).run P w = .ok (.map k e) w := by rw [ok.underlying, he]
            simp [vN, Instr.makeMap, hj, hu, asInt, asIntOf]
          · cases hh'
        · cases hh'
      · cases hh'
theorem convA_ok (hA : Agrees P C) (hE : Evals φ tmps ρ) (src dst : TypeId) (x : Operand) {k : AK} {b : Blk} (h : convA C (C.ty.get dst) (C.ty.get src) (evalA tmps x) = some (k, b)) : OkA P φ w (vN (convert src dst (ρ x))) k b := by
  have hx := hE x
  generalize evalA tmps x = ax at hx h
  generalize ρ x = x' at hx ⊢
  unfold convA at h
  split at h
  · rename_i ds dd hs hd
    have oks := hA.ty src ds hs
    have okd := hA.ty dst dd hd
    have us : ∀ w, (underlying src).run P w = .ok ds.d w := fun w => oks.underlying
    have ud : ∀ w, (underlying dst).run P w = .ok dd.d w := fun w => okd.underlying
    split at h
    · rename_i e hk
      rw [hk] at ud
      split at h
      · cases hx with
        | str s =>
        cases hu8 : isU8 C e with
        | false => rw [hu8] at h; cases h
        | true =>
          rw [hu8] at h
          cases h
          have hlen : (s.data.toList.map UInt8.toNat).length = s.size := by rw [List.length_map, Array.length_toList]; rfl
          have hlen2 : s.data.toList.length = s.size := by rw [Array.length_toList]; rfl
          generalize hcap : (Question.appendCap s.size 0 e).cut (w.tape w.drawn (.appendCap s.size 0 e)) = cap
          have hge : s.size ≤ cap := by rw [← hcap]; exact Nat.le_add_right _ _
          rw [hlen]
          refine ⟨.slice (some ⟨w.heap.size, 0, none⟩) s.size cap, w.drawn + 1, cap, .cells ((s.data.toList.map fun (b : UInt8) => Value.int .u8 b.toNat) ++ List.replicate (cap - s.size) (Value.int .u8 0)).toArray e (cap, cap + 1), ?_, fun ψ id hle hp => ⟨?_, .slice (p := ⟨w.heap.size, 0, cap⟩) hp hge (by show 0 + 0 + cap * 1 = cap; omega)⟩⟩
          · have hf : (Question.appendCap s.size 0 e).forced = false := rfl
            have hshape : ∀ (w : World) (c : Array Value), (w.alloc (.cells c e)).shape? w.heap.size = some (e, c.size) := fun w c => by
              unfold World.shape?
              have : (w.alloc (.cells c e)).heap[w.heap.size]? = some (.cells c e) := by
                show (w.heap.push _)[w.heap.size]? = _
                simp
              rw [this]
            have hfz := freeze_new w.drew (s.data.map (fun (b : UInt8) => Value.int .u8 b.toNat) ++ Array.replicate (cap - s.size) (Value.int .u8 0)) e
            have hsz : (s.data.map (fun (b : UInt8) => Value.int .u8 b.toNat) ++ Array.replicate (cap - s.size) (Value.int .u8 0)).size = cap := by
              rw [Array.size_append, Array.size_map, Array.size_replicate]
              have : s.data.size = s.size := rfl
              omega
            have harr : ((s.data.toList.map fun (b : UInt8) => Value.int .u8 b.toNat) ++ List.replicate (cap - s.size) (Value.int .u8 0)).toArray = s.data.map (fun (b : UInt8) => Value.int .u8 b.toNat) ++ Array.replicate (cap - s.size) (Value.int .u8 0) := by
              apply Array.toList_inj.1
              simp
            rw [harr]
            have hsh := hshape w.drew (s.data.map (fun (b : UInt8) => Value.int .u8 b.toNat) ++ Array.replicate (cap - s.size) (Value.int .u8 0))
            rw [hsz] at hsh hfz
            simp [vN, convert, us, ud, isU8_ok hA hu8, Conv.stringToBytes, hf, hcap, newRow, markStringish]
            have hsh' := (show w.drew.heap.size = w.heap.size from rfl) ▸ hsh
            rw [hsh']
            simp only [run_freeze, Result.andThen_ok]
            congr 1
          · refine ⟨_, e, cap, cap + 1, rfl, by simp [hlen2]; omega, by simp [hge], fun i hi => by have : i < cap := hi; omega, (fun hf => by cases hf), fun i av hg hi => ?_⟩
            obtain ⟨v, h1, h2⟩ := (byteCells_RL φ s.data.toList).get i av (T.get_ofList hg)
            have hlt : i < (s.data.toList.map fun b => Value.int .u8 b.toNat).length := (List.getElem?_eq_some_iff.1 h1).1
            refine ⟨v, ?_, h2.mono hle, ?_⟩
            · simp only [Nat.zero_add, List.getElem?_toArray]
              rw [List.getElem?_append_left hlt]
              exact h1
            · rw [List.getElem?_map, Option.map_eq_some_iff] at h1
              obtain ⟨b, _, rfl⟩ := h1
              rfl
      · cases h
    · cases h
  · cases h
theorem allocOf_ok (hA : Agrees P C) (hE : Evals φ tmps ρ) (o : Oper) {k : AK} {b : Blk} (h : allocOf C tmps o.op = some (k, b)) : OkA P φ w (execOp ρ o) k b := by
  unfold allocOf at h
  cases hop : o.op with
  | alloc e => rw [hop] at h; unfold execOp; rw [hop]; exact allocA_ok hA e h
  | box e x => rw [hop] at h; unfold execOp; rw [hop]; exact boxA_ok hE e x h
  | buildSlice t n ps => rw [hop] at h; unfold execOp; rw [hop]; exact buildSliceA_ok hA hE t n ps h
  | makeSlice t l c => rw [hop] at h; unfold execOp; rw [hop]; exact makeSliceA_ok hA hE t l c h
  | makeMap t r => rw [hop] at h; unfold execOp; rw [hop]; exact makeMapA_ok hA hE t r h
  | convert s d x => rw [hop] at h; unfold execOp; rw [hop]; exact convA_ok hA hE s d x h
  | _ => rw [hop] at h; cases h
end
end
end Go.Proofs.YteaacjabcfopgaaGreat.Am
namespace Go.Proofs.YteaacjabcfopgaaGreat.Am
open Go.RowKit
noncomputable section
section
variable {P : Program} {w0 : Base} {φ : Phi} {h : H} {w : World} {C : Ctx} {tmps : T AV} {ρ : Operand → Value}
inductive QK where
  | q
  | a
  | l
def isStrD : Option TypeDesc → Bool
  | some .string => true
  | _ => false
def descOf (C : Ctx) (t : TypeId) : Option TypeDesc := match C.ty.get t with | some i => some i.d | none => none
def isSlcD : Option TypeDesc → Bool
  | some (.slice _) => true
  | _ => false
def qkB : Builtin → QK
  | .len => .q
  | .max => .q
  | .min => .q
  | _ => .l
def qkC (c : Call) : QK := match c.callee with | .builtin b => qkB b | _ => .l
def qk (C : Ctx) (o : Op) : QK :=
  match o with
  | .move _ => .q
  | .pick _ _ _ => .q
  | .build _ _ => .q
  | .nilCheck _ => .q
  | .binOp _ _ _ _ _ => .q
  | .unOp _ _ _ => .q
  | .makeFunc _ _ _ => .q
  | .slice _ _ _ _ _ => .q
  | .fieldAddr _ _ _ => .q
  | .field _ _ _ => .q
  | .indexAddr _ _ _ => .q
  | .index _ _ _ => .q
  | .extract _ _ => .q
  | .load _ _ => .q
  | .lookup _ _ _ _ => .q
  | .alloc _ => .a
  | .box _ _ => .a
  | .buildSlice _ _ _ => .a
  | .makeSlice _ _ _ => .a
  | .makeMap _ _ => .a
  | .convert _ d _ => cond (isSlcD (descOf C d)) .a (cond (C.mb && isStrD (descOf C d)) .l .q)
  | .call c => qkC c
  | _ => .l
def Keeps (h : H) : R → Prop
  | .val _ h' => h' = h
  | .enter _ _ _ => False
  | .round _ _ _ _ _ _ _ => False
  | .stuck _ => True
theorem Keeps.cond {c : Bool} {a b : R} (ha : Keeps h a) (hb : Keeps h b) : Keeps h (cond c a b) := by cases c <;> assumption
theorem Keeps.oR (o : Option AV) : Keeps h (oR h o) := by cases o <;> first | exact rfl | exact True.intro
theorem sliceR_keeps (d : Option TI) (x : AV) (lo hi mx : Option AV) : Keeps h (sliceR C h d x lo hi mx) := by
  unfold sliceR sliceStr sliceS
  repeat' (first | exact True.intro | exact rfl | exact Keeps.oR _ | refine Keeps.cond ?_ ?_ | split)
theorem conv_keeps (s d : TypeId) (x : AV) (hq : isSlcD (descOf C d) = false) : Keeps h (convR C h (Nat.beq s d) (C.ty.get s) (C.ty.get d) x) := by
  unfold convR
  split
  · rename_i ds dd hs hd
    split
    · split <;> first | exact rfl | exact True.intro
    · split
      · exact rfl
      · split
        · exact Keeps.cond rfl True.intro
        · exact True.intro
      · split
        · refine Keeps.cond ?_ True.intro
          unfold strOfR
          repeat' (first | exact True.intro | exact rfl | split)
        · exact True.intro
      · exact True.intro
    · rename_i e he
      exfalso
      unfold descOf at hq
      rw [hd] at hq
      simp only [he, isSlcD, reduceCtorEq] at hq
    · exact True.intro
  · exact True.intro
theorem quiet_heap (o : Op) (hq : qk C o = .q) : Keeps h (execR C h tmps o) := by
  cases o <;> (try (simp only [qk, reduceCtorEq] at hq; done)) <;> simp only [execR]
  case move => exact rfl
  case pick => unfold ex_pick pickR; repeat' (first | exact True.intro | exact rfl | split)
  case build => unfold buildR; repeat' (first | exact True.intro | exact rfl | exact Keeps.oR _ | refine Keeps.cond ?_ ?_ | split)
  case load => unfold loadR; repeat' (first | exact True.intro | exact rfl | exact Keeps.oR _ | refine Keeps.cond ?_ ?_ | split)
  case nilCheck => unfold nilR; repeat' (first | exact True.intro | exact rfl | exact Keeps.oR _ | refine Keeps.cond ?_ ?_ | split)
  case binOp => unfold binR eqR aggR structR stR; repeat' (first | exact True.intro | exact rfl | exact Keeps.oR _ | refine Keeps.cond ?_ ?_ | split)
  case unOp => unfold unR; repeat' (first | exact True.intro | exact rfl | exact Keeps.oR _ | refine Keeps.cond ?_ ?_ | split)
  case makeFunc => unfold makeFuncR; repeat' (first | exact True.intro | exact rfl | exact Keeps.oR _ | refine Keeps.cond ?_ ?_ | split)
  case slice => exact sliceR_keeps _ _ _ _ _
  case fieldAddr => unfold fieldAddrR; repeat' (first | exact True.intro | exact rfl | exact Keeps.oR _ | refine Keeps.cond ?_ ?_ | split)
  case field => unfold fieldR; repeat' (first | exact True.intro | exact rfl | exact Keeps.oR _ | refine Keeps.cond ?_ ?_ | split)
  case indexAddr => unfold indexAddrR; repeat' (first | exact True.intro | exact rfl | exact Keeps.oR _ | refine Keeps.cond ?_ ?_ | split)
  case index => unfold indexR; repeat' (first | exact True.intro | exact rfl | exact Keeps.oR _ | refine Keeps.cond ?_ ?_ | split)
  case extract => unfold extractR; repeat' (first | exact True.intro | exact rfl | exact Keeps.oR _ | refine Keeps.cond ?_ ?_ | split)
  case lookup => unfold lookupR; repeat' (first | exact True.intro | exact rfl | exact Keeps.oR _ | refine Keeps.cond ?_ ?_ | split)
  case convert s d x =>
    simp only [qk] at hq
    cases hc : isSlcD (descOf C d) with
    | true => rw [hc] at hq; cases hq
    | false => exact conv_keeps s d _ hc
  case call c =>
    simp only [qk, qkC] at hq
    unfold ccallR
    split
    · rename_i b hb
      rw [hb] at hq
      unfold builtinR
      cases b <;> (try (simp only [qkB, reduceCtorEq] at hq; done)) <;> simp only
      case len => split <;> (try split) <;> (try unfold lenR) <;> repeat' (first | exact True.intro | exact rfl | exact Keeps.oR _ | refine Keeps.cond ?_ ?_ | split)
      case max => split <;> (try unfold mmR) <;> repeat' (first | exact True.intro | exact rfl | exact Keeps.oR _ | refine Keeps.cond ?_ ?_ | split)
      case min => split <;> (try unfold mmR) <;> repeat' (first | exact True.intro | exact rfl | exact Keeps.oR _ | refine Keeps.cond ?_ ?_ | split)
    · rename_i f hf
      rw [hf] at hq
      cases hq
    · exact True.intro
variable {t1 t2 : T AV}
theorem evalL_congr : ∀ (l : List Operand), (∀ x ∈ l, evalA t1 x = evalA t2 x) → evalL t1 l = evalL t2 l
  | [], _ => rfl
  | o :: l, hh => by
    show evalA t1 o :: evalL t1 l = evalA t2 o :: evalL t2 l
    rw [hh o List.mem_cons_self, evalL_congr l fun x hx => hh x (List.mem_cons_of_mem _ hx)]
theorem evalP_congr : ∀ (l : List (Nat × Operand)), (∀ x ∈ l.map (·.2), evalA t1 x = evalA t2 x) → evalP t1 l = evalP t2 l
  | [], _ => rfl
  | (i, o) :: l, hh => by
    show (i, evalA t1 o) :: evalP t1 l = (i, evalA t2 o) :: evalP t2 l
    rw [hh o List.mem_cons_self, evalP_congr l fun x hx => hh x (List.mem_cons_of_mem _ hx)]
theorem evalO_congr (o : Option Operand) (hh : ∀ x ∈ o.toArray, evalA t1 x = evalA t2 x) : evalO t1 o = evalO t2 o := by
  cases o with
  | none => rfl
  | some o => exact congrArg some (hh o (by simp))
theorem execR_congr (o : Op) (hh : ∀ x ∈ o.operands, evalA t1 x = evalA t2 x) : execR C h t1 o = execR C h t2 o := by
  cases o <;> simp only [Op.operands] at hh <;> simp only [execR] <;> try rfl
  case move x => simp only [ex_move]; rw [hh x (by simp)]
  case assign x => simp only [ex_move]; rw [hh x (by simp)]
  case pick a b c => simp only [ex_pick]; rw [hh a (by simp), hh b (by simp), hh c (by simp)]
  case box x => rw [hh x (by simp)]
  case build t ps => rw [evalP_congr _ fun x hx => hh x (by simpa using hx)]
  case buildSlice t n ps => rw [evalP_congr _ fun x hx => hh x (by simpa using hx)]
  case load t x => rw [hh x (by simp)]
  case store t a x => rw [hh a (by simp), hh x (by simp)]
  case nilCheck x => rw [hh x (by simp)]
  case binOp op t x y u => rw [hh x (by simp), hh y (by simp)]
  case unOp op t x => rw [hh x (by simp)]
  case convert s d x => rw [hh x (by simp)]
  case makeFunc f a b => rw [evalL_congr _ fun x hx => hh x (by simp at hx; simp [hx]), evalL_congr _ fun x hx => hh x (by simp at hx; simp [hx])]
  case makeMap t r => rw [evalO_congr r hh]
  case makeSlice t l c => rw [hh l (by simp), hh c (by simp)]
  case slice t x lo hi mx => rw [hh x (by simp), evalO_congr lo fun y hy => hh y (by simp at hy; simp [hy]), evalO_congr hi fun y hy => hh y (by simp at hy; simp [hy]), evalO_congr mx fun y hy => hh y (by simp at hy; simp [hy])]
  case fieldAddr s x f => rw [hh x (by simp)]
  case field s x f => rw [hh x (by simp)]
  case indexAddr t x i => rw [hh x (by simp), hh i (by simp)]
  case index t x i => rw [hh x (by simp), hh i (by simp)]
  case lookup t x i ok => rw [hh x (by simp), hh i (by simp)]
  case mapUpdate t m k x => rw [hh m (by simp), hh k (by simp), hh x (by simp)]
  case insert t m k x => rw [hh m (by simp), hh k (by simp), hh x (by simp)]
  case mapEntry t m k => rw [hh m (by simp), hh k (by simp)]
  case entryStore t m s x => rw [hh m (by simp), hh s (by simp), hh x (by simp)]
  case range t x => rw [hh x (by simp)]
  case next x s => rw [hh x (by simp)]
  case entry x => rw [hh x (by simp)]
  case extract x i => rw [hh x (by simp)]
  case call c =>
    unfold ccallR
    unfold Call.operands at hh
    split
    · rename_i b hb
      rw [hb] at hh
      rw [evalL_congr _ fun x hx => hh x (by simp at hx; simp [hx])]
    · rename_i f hf
      rw [hf] at hh
      rw [hh f (by simp), evalL_congr _ fun x hx => hh x (by simp at hx; simp [hx])]
    · rfl
theorem allocOf_congr (o : Op) (hh : ∀ x ∈ o.operands, evalA t1 x = evalA t2 x) : allocOf C t1 o = allocOf C t2 o := by
  cases o <;> simp only [Op.operands] at hh <;> simp only [allocOf] <;> try rfl
  case box x => rw [hh x (by simp)]
  case buildSlice t n ps => rw [evalP_congr _ fun x hx => hh x (by simpa using hx)]
  case makeMap t r => rw [evalO_congr r hh]
  case makeSlice t l c => rw [hh l (by simp), hh c (by simp)]
  case convert s d x => rw [hh x (by simp)]
end
end
end Go.Proofs.YteaacjabcfopgaaGreat.Am
namespace Go.Proofs.YteaacjabcfopgaaGreat.Am
open Go.RowKit
noncomputable section
structure PS where
  k : QK
  i : Nat
  o : Oper
  anc : List Nat
def bindE (e : Edge) : Bool :=
  match e.ground with
  | .textOnly _ => false
  | .gcOnly _ => false
  | _ => true
theorem bindE_ok (e : Edge) : bindE e = Region.binds .any e := by
  unfold bindE Region.binds
  cases e.ground <;> rfl
def prdL : List Edge → List Nat
  | [] => []
  | e :: l => cond (bindE e) (e.on :: prdL l) (prdL l)
def prd (o : Oper) : List Nat := prdL o.after.toList
theorem mem_prdL {l : List Edge} {x : Nat} : x ∈ prdL l ↔ ∃ e ∈ l, Region.binds .any e = true ∧ e.on = x := by
  induction l with
  | nil => simp [prdL]
  | cons e l ih =>
    unfold prdL
    rw [bindE_ok]
    cases h : Region.binds .any e with
    | false =>
      simp only [cond_false, ih]
      constructor
      · rintro ⟨e', h1, h2⟩
        exact ⟨e', List.mem_cons_of_mem _ h1, h2⟩
      · rintro ⟨e', h1, h2, h3⟩
        rcases List.mem_cons.1 h1 with rfl | h1
        · rw [h] at h2; cases h2
        · exact ⟨e', h1, h2, h3⟩
    | true =>
      simp only [cond_true, List.mem_cons, ih]
      constructor
      · rintro (rfl | ⟨e', h1, h2⟩)
        · exact ⟨e, .inl rfl, h, rfl⟩
        · exact ⟨e', .inr h1, h2⟩
      · rintro ⟨e', h1, h2, h3⟩
        rcases h1 with rfl | h1
        · exact .inl h3.symm
        · exact .inr ⟨e', h1, h2, h3⟩
theorem mem_prd {o : Oper} {x : Nat} : x ∈ prd o ↔ ∃ e ∈ o.after, Region.binds .any e = true ∧ e.on = x := by
  unfold prd
  rw [mem_prdL]
  simp
def tmpsL : List Operand → List Tmp
  | [] => []
  | .tmp t :: l => t :: tmpsL l
  | _ :: l => tmpsL l
theorem mem_tmpsL {l : List Operand} {t : Tmp} : t ∈ tmpsL l ↔ .tmp t ∈ l := by
  induction l with
  | nil => simp [tmpsL]
  | cons x l ih => cases x <;> simp [tmpsL, ih]
def dstAt (L : List Oper) (j : Nat) : Option Tmp := match L[j]? with | some o => o.dst | none => none
def gdst (L : List Oper) (o : Oper) : List Tmp := match o.guard with | some (j, _) => (match dstAt L j with | some d => [d] | none => []) | none => []
def reads (L : List Oper) (o : Oper) : List Tmp := gdst L o ++ tmpsL o.op.operands.toList
inductive Reach (L : List Oper) : Nat → Nat → Prop where
  | one {x i : Nat} {o : Oper} (ho : L[i]? = some o) (h : x ∈ prd o) : Reach L x i
  | tr {x j i : Nat} {o : Oper} (h : Reach L x j) (ho : L[i]? = some o) (hj : j ∈ prd o) : Reach L x i
structure Valid (C : Ctx) (L : List Oper) (pl : List PS) : Prop where
  op : ∀ s ∈ pl, L[s.i]? = some s.o ∧ s.k = qk C s.o.op
  all : ∀ i, i < L.length → ∃ s ∈ pl, s.i = i
  nodup : (pl.map PS.i).Nodup
  pre : ∀ a s b, pl = a ++ s :: b → ∀ e ∈ prd s.o, e ∈ a.map PS.i
  loud : ∀ a s b, pl = a ++ s :: b → s.k = .l → ∀ s' ∈ b, ∃ e ∈ prd s'.o, e ∉ a.map PS.i
  dst : ∀ s ∈ pl, ∀ s' ∈ pl, ∀ d, s.o.dst = some d → s'.o.dst = some d → s.i = s'.i
  read : ∀ s ∈ pl, ∀ s' ∈ pl, ∀ d, s.o.dst = some d → d ∈ reads L s'.o → s.i ∈ prd s'.o ∨ (s.k = .l ∧ s'.i ∈ s.anc)
  anc : ∀ s ∈ pl, ∀ x ∈ s.anc, Reach L x s.i
  adst : ∀ s ∈ pl, s.k = .a → ∃ d, s.o.dst = some d
def allIn (t : List Nat) : List Nat → Bool
  | [] => true
  | e :: l => cond (memN e t) (allIn t l) false
theorem memN_iff {b : Nat} {l : List Nat} : memN b l = true ↔ b ∈ l := by rw [memN_ok]; simp
theorem allIn_ok {t : List Nat} : ∀ {l : List Nat}, allIn t l = true → ∀ e ∈ l, e ∈ t
  | [], _, _, h => by cases h
  | x :: l, h, e, he => by
    unfold allIn at h
    cases hm : memN x t with
    | false => rw [hm] at h; cases h
    | true =>
      rw [hm] at h
      rcases List.mem_cons.1 he with rfl | he
      · exact memN_iff.1 hm
      · exact allIn_ok h e he
def someOut (t : List Nat) : List Nat → Bool
  | [] => false
  | e :: l => cond (memN e t) (someOut t l) true
theorem someOut_ok {t : List Nat} : ∀ {l : List Nat}, someOut t l = true → ∃ e ∈ l, e ∉ t
  | [], h => by cases h
  | x :: l, h => by
    unfold someOut at h
    cases hm : memN x t with
    | false => exact ⟨x, List.mem_cons_self, fun hx => by rw [memN_iff.2 hx] at hm; cases hm⟩
    | true =>
      rw [hm] at h
      obtain ⟨e, h1, h2⟩ := someOut_ok h
      exact ⟨e, List.mem_cons_of_mem _ h1, h2⟩
def isLoud : QK → Bool
  | .l => true
  | _ => false
def restOut (t : List Nat) : List PS → Bool
  | [] => true
  | s :: b => cond (someOut t (prd s.o)) (restOut t b) false
theorem restOut_ok {t : List Nat} : ∀ {b : List PS}, restOut t b = true → ∀ s ∈ b, ∃ e ∈ prd s.o, e ∉ t
  | [], _, _, h => by cases h
  | x :: b, h, s, hs => by
    unfold restOut at h
    cases hm : someOut t (prd x.o) with
    | false => rw [hm] at h; cases h
    | true =>
      rw [hm] at h
      rcases List.mem_cons.1 hs with rfl | hs
      · exact someOut_ok hm
      · exact restOut_ok h s hs
def chkPre (t : List Nat) : List PS → Bool
  | [] => true
  | s :: b => cond (allIn t (prd s.o) && !memN s.i t && cond (isLoud s.k) (restOut t b) true) (chkPre (s.i :: t) b) false
theorem chkPre_ok : ∀ {pl : List PS} {t : List Nat}, chkPre t pl = true → ∀ a s b, pl = a ++ s :: b → (∀ e ∈ prd s.o, e ∈ t ∨ e ∈ a.map PS.i) ∧ (s.i ∉ t ∧ s.i ∉ a.map PS.i) ∧ (s.k = .l → ∀ s' ∈ b, ∃ e ∈ prd s'.o, e ∉ t ∧ e ∉ a.map PS.i)
  | [], _, _, a, s, b, e => by cases a <;> cases e
  | x :: pl, t, h, a, s, b, e => by
    unfold chkPre at h
    cases hc : (allIn t (prd x.o) && !memN x.i t && cond (isLoud x.k) (restOut t pl) true) with
    | false => rw [hc] at h; cases h
    | true =>
      rw [hc] at h
      simp only [Bool.and_eq_true, Bool.not_eq_true'] at hc
      cases a with
      | nil =>
        simp only [List.nil_append, List.cons.injEq] at e
        obtain ⟨rfl, rfl⟩ := e
        refine ⟨fun e he => .inl (allIn_ok hc.1.1 e he), ⟨fun hx => by rw [memN_iff.2 hx] at hc; exact absurd hc.1.2 (by simp), by simp⟩, fun hk s' hs' => ?_⟩
        rw [hk] at hc
        obtain ⟨e, h1, h2⟩ := restOut_ok hc.2 s' hs'
        exact ⟨e, h1, h2, by simp⟩
      | cons y a =>
        simp only [List.cons_append, List.cons.injEq] at e
        obtain ⟨rfl, e⟩ := e
        obtain ⟨r1, r2, r3⟩ := chkPre_ok h a s b e
        refine ⟨fun e he => ?_, ?_, fun hk s' hs' => ?_⟩
        · rcases r1 e he with h | h
          · rcases List.mem_cons.1 h with rfl | h
            · exact .inr (by simp)
            · exact .inl h
          · exact .inr (by simp only [List.map_cons, List.mem_cons]; exact .inr h)
        · simp only [List.mem_cons, not_or] at r2
          simp only [List.map_cons, List.mem_cons, not_or]
          exact ⟨r2.1.2, r2.1.1, r2.2⟩
        · obtain ⟨e, h1, h2, h3⟩ := r3 hk s' hs'
          simp only [List.mem_cons, not_or] at h2
          simp only [List.map_cons, List.mem_cons, not_or]
          exact ⟨e, h1, h2.2, h2.1, h3⟩
def chkAll (il : List Nat) : Nat → Bool
  | 0 => true
  | n + 1 => cond (memN n il) (chkAll il n) false
theorem chkAll_ok {il : List Nat} : ∀ {n : Nat}, chkAll il n = true → ∀ i, i < n → i ∈ il
  | 0, _, _, h => absurd h (by omega)
  | n + 1, h, i, hi => by
    unfold chkAll at h
    cases hm : memN n il with
    | false => rw [hm] at h; cases h
    | true =>
      rw [hm] at h
      by_cases e : i = n
      · subst e; exact memN_iff.1 hm
      · exact chkAll_ok h i (by omega)
def chkDst (s : PS) (d : Tmp) : List PS → Bool
  | [] => true
  | s' :: b => cond (match s'.o.dst with | some d' => cond (Nat.beq d d') (Nat.beq s.i s'.i) true | none => true) (chkDst s d b) false
theorem chkDst_ok {s : PS} {d : Tmp} : ∀ {b : List PS}, chkDst s d b = true → ∀ s' ∈ b, s'.o.dst = some d → s.i = s'.i
  | [], _, _, h, _ => by cases h
  | x :: b, h, s', hs', hd => by
    unfold chkDst at h
    cases hm : (match x.o.dst with | some d' => cond (Nat.beq d d') (Nat.beq s.i x.i) true | none => true) with
    | false => rw [hm] at h; cases h
    | true =>
      rw [hm] at h
      rcases List.mem_cons.1 hs' with rfl | hs'
      · rw [hd] at hm
        simp only [Nat.beq_refl, cond_true] at hm
        exact Nat.eq_of_beq_eq_true hm
      · exact chkDst_ok h s' hs' hd
def chkRead (L : List Oper) (s : PS) (d : Tmp) : List PS → Bool
  | [] => true
  | s' :: b => cond (cond (memN d (reads L s'.o)) (memN s.i (prd s'.o) || (isLoud s.k && memN s'.i s.anc)) true) (chkRead L s d b) false
theorem isLoud_ok {k : QK} (h : isLoud k = true) : k = .l := by cases k <;> first | rfl | cases h
theorem chkRead_ok {L : List Oper} {s : PS} {d : Tmp} : ∀ {b : List PS}, chkRead L s d b = true → ∀ s' ∈ b, d ∈ reads L s'.o → s.i ∈ prd s'.o ∨ (s.k = .l ∧ s'.i ∈ s.anc)
  | [], _, _, h, _ => by cases h
  | x :: b, h, s', hs', hd => by
    unfold chkRead at h
    cases hm : (cond (memN d (reads L x.o)) (memN s.i (prd x.o) || (isLoud s.k && memN x.i s.anc)) true) with
    | false => rw [hm] at h; cases h
    | true =>
      rw [hm] at h
      rcases List.mem_cons.1 hs' with rfl | hs'
      · rw [memN_iff.2 hd] at hm
        simp only [cond_true, Bool.or_eq_true, Bool.and_eq_true] at hm
        rcases hm with hm | hm
        · exact .inl (memN_iff.1 hm)
        · exact .inr ⟨isLoud_ok hm.1, memN_iff.1 hm.2⟩
      · exact chkRead_ok h s' hs' hd
def chkD (L : List Oper) (pl : List PS) : List PS → Bool
  | [] => true
  | s :: b => cond (match s.o.dst with | some d => chkDst s d pl && chkRead L s d pl | none => (match s.k with | .a => false | _ => true)) (chkD L pl b) false
theorem chkD_ok {L : List Oper} {pl : List PS} : ∀ {b : List PS}, chkD L pl b = true → ∀ s ∈ b, (∀ d, s.o.dst = some d → chkDst s d pl = true ∧ chkRead L s d pl = true) ∧ (s.k = .a → ∃ d, s.o.dst = some d)
  | [], _, _, h => by cases h
  | x :: b, h, s, hs => by
    unfold chkD at h
    cases hm : (match x.o.dst with | some d => chkDst x d pl && chkRead L x d pl | none => (match x.k with | .a => false | _ => true)) with
    | false => rw [hm] at h; cases h
    | true =>
      rw [hm] at h
      rcases List.mem_cons.1 hs with rfl | hs
      · cases hd : s.o.dst with
        | none =>
          rw [hd] at hm
          refine ⟨fun d e => (by cases e), fun hk => ?_⟩
          rw [hk] at hm
          cases hm
        | some d =>
          rw [hd] at hm
          simp only [Bool.and_eq_true] at hm
          exact ⟨fun d' e => by cases e; exact hm, fun _ => ⟨d, rfl⟩⟩
      · exact chkD_ok h s hs
def insN (x : Nat) (l : List Nat) : List Nat := cond (memN x l) l (x :: l)
def uniN : List Nat → List Nat → List Nat
  | [], l => l
  | x :: m, l => uniN m (insN x l)
theorem mem_uniN : ∀ {m l : List Nat} {x : Nat}, x ∈ uniN m l → x ∈ m ∨ x ∈ l
  | [], _, _, h => .inr h
  | y :: m, l, x, h => by
    rcases mem_uniN (m := m) h with h | h
    · exact .inl (List.mem_cons_of_mem _ h)
    · unfold insN at h
      cases hm : memN y l with
      | true => rw [hm] at h; exact .inr h
      | false =>
        rw [hm] at h
        rcases List.mem_cons.1 h with rfl | h
        · exact .inl List.mem_cons_self
        · exact .inr h
def lookA (x : Nat) : List PS → List Nat
  | [] => []
  | s :: l => cond (Nat.beq x s.i) s.anc (lookA x l)
def ancOf (tb : List PS) : List Nat → List Nat
  | [] => []
  | x :: l => insN x (uniN (lookA x tb) (ancOf tb l))
def mkPS (C : Ctx) (L : List Oper) (tb : List PS) : List Nat → Option (List PS)
  | [] => some tb
  | i :: l => match L[i]? with
    | some o => mkPS C L (⟨qk C o.op, i, o, ancOf tb (prd o)⟩ :: tb) l
    | none => none
theorem lookA_mem {x y : Nat} : ∀ {tb : List PS}, y ∈ lookA x tb → ∃ s ∈ tb, s.i = x ∧ y ∈ s.anc
  | [], h => by cases h
  | s :: tb, h => by
    unfold lookA at h
    cases hb : Nat.beq x s.i with
    | true =>
      rw [hb] at h
      exact ⟨s, List.mem_cons_self, (Nat.eq_of_beq_eq_true hb).symm, h⟩
    | false =>
      rw [hb] at h
      obtain ⟨s', h1, h2⟩ := lookA_mem h
      exact ⟨s', List.mem_cons_of_mem _ h1, h2⟩
theorem ancOf_mem {y : Nat} {tb : List PS} : ∀ {l : List Nat}, y ∈ ancOf tb l → y ∈ l ∨ ∃ x ∈ l, ∃ s ∈ tb, s.i = x ∧ y ∈ s.anc
  | [], h => by cases h
  | x :: l, h => by
    have go : y ∈ uniN (lookA x tb) (ancOf tb l) → y ∈ x :: l ∨ ∃ z ∈ x :: l, ∃ s ∈ tb, s.i = z ∧ y ∈ s.anc := fun h => by
      rcases mem_uniN h with h | h
      · obtain ⟨s, h1, h2, h3⟩ := lookA_mem h
        exact .inr ⟨x, List.mem_cons_self, s, h1, h2, h3⟩
      · rcases ancOf_mem h with h | ⟨z, hz, r⟩
        · exact .inl (List.mem_cons_of_mem _ h)
        · exact .inr ⟨z, List.mem_cons_of_mem _ hz, r⟩
    have h' : y ∈ insN x (uniN (lookA x tb) (ancOf tb l)) := h
    unfold insN at h'
    cases hm : memN x (uniN (lookA x tb) (ancOf tb l)) with
    | true => rw [hm] at h'; exact go h'
    | false =>
      rw [hm] at h'
      rcases List.mem_cons.1 h' with rfl | h'
      · exact .inl List.mem_cons_self
      · exact go h'
def Good (C : Ctx) (L : List Oper) (s : PS) : Prop := L[s.i]? = some s.o ∧ s.k = qk C s.o.op ∧ ∀ x ∈ s.anc, Reach L x s.i
theorem mkPS_ok {C : Ctx} {L : List Oper} : ∀ {l : List Nat} {tb pl : List PS}, mkPS C L tb l = some pl → (∀ s ∈ tb, Good C L s) → ∀ s ∈ pl, Good C L s
  | [], tb, pl, h, hg => by cases h; exact hg
  | i :: l, tb, pl, h, hg => by
    unfold mkPS at h
    split at h
    · rename_i o ho
      refine mkPS_ok h fun s hs => ?_
      rcases List.mem_cons.1 hs with rfl | hs
      · refine ⟨ho, rfl, fun x hx => ?_⟩
        rcases ancOf_mem hx with hx | ⟨z, hz, s, h1, h2, h3⟩
        · exact .one ho hx
        · exact .tr (h2 ▸ (hg s h1).2.2 x h3) ho hz
      · exact hg s hs
    · cases h
def passQ (C : Ctx) : List (Nat × Oper) → List Nat → List (Nat × Oper) → List Nat × List (Nat × Oper)
  | [], t, k => (t, k.reverse)
  | (i, o) :: l, t, k => cond (!isLoud (qk C o.op) && allIn t (prd o)) (passQ C l (i :: t) k) (passQ C l t ((i, o) :: k))
def firstL : List (Nat × Oper) → List Nat → List (Nat × Oper) → Option (Nat × List (Nat × Oper))
  | [], _, _ => none
  | (i, o) :: l, t, k => cond (allIn t (prd o)) (some (i, k.reverse ++ l)) (firstL l t ((i, o) :: k))
def greedy (C : Ctx) : Nat → List (Nat × Oper) → List Nat → List Nat
  | 0, _, t => t
  | n + 1, l, t => match passQ C l t [] with
    | (t, []) => t
    | (t, l) => (match firstL l t [] with
      | some (i, l) => greedy C n l (i :: t)
      | none => t)
def withIdx : Nat → List Oper → List (Nat × Oper)
  | _, [] => []
  | i, o :: l => (i, o) :: withIdx (Nat.succ i) l
def revPS : List PS → List PS → List PS
  | [], m => m
  | s :: l, m => revPS l (s :: m)
def validB (L : List Oper) (pl : List PS) : Bool := chkPre [] pl && chkAll (pl.map PS.i) L.length && chkD L pl pl
def planIf (L : List Oper) (pl : List PS) : Option (List PS) := cond (validB L pl) (some pl) none
def planOf (C : Ctx) (L : List Oper) : Option (List PS) :=
  match mkPS C L [] (greedy C (Nat.succ L.length) (withIdx 0 L) []).reverse with
  | some tb => planIf L (revPS tb [])
  | none => none
theorem mem_revPS : ∀ {l m : List PS} {s : PS}, s ∈ revPS l m ↔ s ∈ l ∨ s ∈ m
  | [], m, s => by simp [revPS]
  | x :: l, m, s => by
    unfold revPS
    rw [mem_revPS]
    simp only [List.mem_cons]
    constructor
    · rintro (h | h | h)
      · exact .inl (.inr h)
      · exact .inl (.inl h)
      · exact .inr h
    · rintro ((h | h) | h)
      · exact .inr (.inl h)
      · exact .inl h
      · exact .inr (.inr h)
theorem nodup_of_chk : ∀ {pl : List PS}, (∀ a s b, pl = a ++ s :: b → s.i ∉ a.map PS.i) → (pl.map PS.i).Nodup := by
  intro pl
  have key : ∀ (b a : List PS), (∀ a' s b', a ++ b = a' ++ s :: b' → s.i ∉ a'.map PS.i) → (a.map PS.i).Nodup → ((a ++ b).map PS.i).Nodup := by
    intro b
    induction b with
    | nil => intro a _ h; simpa using h
    | cons x b ih =>
      intro a hh ha
      have hx := hh a x b rfl
      have := ih (a ++ [x]) (fun a' s b' e => hh a' s b' (by rw [← e]; simp)) (by
        rw [List.map_append, List.nodup_append]
        refine ⟨ha, by simp, fun y hy z hz => ?_⟩
        simp only [List.map_cons, List.map_nil, List.mem_singleton] at hz
        subst hz
        intro e
        subst e
        exact hx hy)
      simpa using this
  intro h
  simpa using key pl [] (by simpa using h) (by simp)
theorem planOf_ok {C : Ctx} {L : List Oper} {pl : List PS} (h : planOf C L = some pl) : Valid C L pl := by
  unfold planOf at h
  split at h
  · rename_i tb htb
    unfold planIf at h
    cases hv : validB L (revPS tb []) with
    | false => rw [hv] at h; cases h
    | true =>
      rw [hv] at h
      cases h
      unfold validB at hv
      simp only [Bool.and_eq_true] at hv
      have hg : ∀ s ∈ revPS tb [], Good C L s := fun s hs => by
        rcases mem_revPS.1 hs with hs | hs
        · exact mkPS_ok htb (fun s h => by cases h) s hs
        · cases hs
      generalize revPS tb [] = pl at hv hg
      have hp := chkPre_ok hv.1.1
      have hd := chkD_ok hv.2
      refine ⟨fun s hs => ⟨(hg s hs).1, (hg s hs).2.1⟩, fun i hi => ?_, nodup_of_chk fun a s b e => (hp a s b e).2.1.2, fun a s b e x hx => ?_, fun a s b e hk s' hs' => ?_, fun s hs s' hs' d h1 h2 => chkDst_ok ((hd s hs).1 d h1).1 s' hs' h2,
        fun s hs s' hs' d h1 h2 => chkRead_ok ((hd s hs).1 d h1).2 s' hs' h2, fun s hs x hx => (hg s hs).2.2 x hx, fun s hs hk => (hd s hs).2 hk⟩
      · obtain ⟨s, h1, h2⟩ := List.mem_map.1 (chkAll_ok hv.1.2 i hi)
        exact ⟨s, h1, h2⟩
      · rcases (hp a s b e).1 x hx with h | h
        · cases h
        · exact h
      · obtain ⟨x, h1, _, h3⟩ := (hp a s b e).2.2 hk s' hs'
        exact ⟨x, h1, h3⟩
  · cases h
inductive Sched (L : List Oper) : List Nat → List Nat → Prop where
  | nil {D : List Nat} (h : ∀ i, i < L.length → i ∈ D) : Sched L D []
  | cons {D : List Nat} {j : Nat} {l : List Nat} {o : Oper} (hj : L[j]? = some o) (hn : j ∉ D) (hp : ∀ e ∈ prd o, e ∈ D) (t : Sched L (j :: D) l) : Sched L D (j :: l)
theorem Valid.ready {C : Ctx} {L : List Oper} {pl : List PS} (hv : Valid C L pl) {D : List Nat} (hD : ∃ i, i < L.length ∧ i ∉ D) : ∃ i o, L[i]? = some o ∧ i ∉ D ∧ ∀ e ∈ prd o, e ∈ D := by
  have key : ∀ (b a : List PS), pl = a ++ b → (∀ s ∈ a, s.i ∈ D) → (∃ s ∈ b, s.i ∉ D) → ∃ i o, L[i]? = some o ∧ i ∉ D ∧ ∀ e ∈ prd o, e ∈ D := by
    intro b
    induction b with
    | nil => rintro a _ _ ⟨s, h, _⟩; cases h
    | cons x b ih =>
      intro a e ha hb
      by_cases hx : x.i ∈ D
      · refine ih (a ++ [x]) (by rw [e]; simp) (fun s hs => ?_) ?_
        · rcases List.mem_append.1 hs with hs | hs
          · exact ha s hs
          · rw [List.mem_singleton.1 hs]; exact hx
        · obtain ⟨s, h1, h2⟩ := hb
          rcases List.mem_cons.1 h1 with rfl | h1
          · exact absurd hx h2
          · exact ⟨s, h1, h2⟩
      · refine ⟨x.i, x.o, (hv.op x (by rw [e]; simp)).1, hx, fun y hy => ?_⟩
        obtain ⟨s, h1, h2⟩ := List.mem_map.1 (hv.pre a x b e y hy)
        rw [← h2]
        exact ha s h1
  obtain ⟨i, h1, h2⟩ := hD
  obtain ⟨s, h3, h4⟩ := hv.all i h1
  exact key pl [] rfl (fun s h => by cases h) ⟨s, h3, by rw [h4]; exact h2⟩
theorem nodup_lt : ∀ (n : Nat) (l : List Nat), l.Nodup → (∀ i ∈ l, i < n) → l.length ≤ n
  | 0, l, _, h => by
    cases l with
    | nil => simp
    | cons x l => exact absurd (h x List.mem_cons_self) (by omega)
  | n + 1, l, hn, h => by
    by_cases hm : n ∈ l
    · have := nodup_lt n (l.erase n) (hn.erase n) (fun i hi => by
        obtain ⟨h1, h2⟩ := hn.mem_erase_iff.1 hi
        have := h i h2
        omega)
      rw [List.length_erase_of_mem hm] at this
      omega
    · have := nodup_lt n l hn (fun i hi => by
        have := h i hi
        have : i ≠ n := fun e => hm (e ▸ hi)
        omega)
      omega
theorem sched_go {C : Ctx} {ops : Array Oper} {pl : List PS} (hv : Valid C ops.toList pl) : ∀ (fuel t : Nat) (listed : Array Bool) (D : List Nat), listed.size = ops.size → (∀ i, i < ops.size → (listed.getD i false = true ↔ i ∈ D)) → D.Nodup → (∀ i ∈ D, i < ops.size) → fuel + D.length = ops.size →
    Sched ops.toList D (Region.linearise.go .any ops fuel t listed []) := by
  intro fuel
  induction fuel with
  | zero =>
    intro t listed D _ _ hnd hlt hf
    simp only [Region.linearise.go]
    refine .nil fun i hi => ?_
    by_cases h : i ∈ D
    · exact h
    · exfalso
      have hnd' : (i :: D).Nodup := List.nodup_cons.2 ⟨h, hnd⟩
      have := nodup_lt ops.size (i :: D) hnd' (fun x hx => by
        rcases List.mem_cons.1 hx with rfl | hx
        · simpa using hi
        · exact hlt x hx)
      simp only [List.length_cons] at this
      omega
  | succ fuel ih =>
    intro t listed D hsz hD hnd hlt hf
    simp only [Region.linearise.go]
    change Sched ops.toList D (match (Region.ready .any ops listed)[t % (Region.ready .any ops listed).length]? with
      | some i => Region.linearise.go .any ops fuel (t / (Region.ready .any ops listed).length) (listed.setIfInBounds i true) [i]
      | none => [].reverse)
    have hgt : ∀ i, i < ops.size → listed.getD i true = listed.getD i false := fun i hi => by simp [hsz, hi]
    cases hi : (Region.ready .any ops listed)[t % (Region.ready .any ops listed).length]? with
    | none =>
      have hnil : Region.ready .any ops listed = [] := by
        cases hr : Region.ready .any ops listed with
        | nil => rfl
        | cons x xs =>
          rw [hr] at hi
          have hlt : t % (x :: xs).length < (x :: xs).length := Nat.mod_lt _ (by simp)
          simp at hi
          simp at hlt
          omega
      refine .nil fun i hi => ?_
      by_cases h : i ∈ D
      · exact h
      · exfalso
        obtain ⟨j, o, h1, h2, h3⟩ := hv.ready (D := D) ⟨i, hi, h⟩
        have hj : j < ops.size := by
          have := (List.getElem?_eq_some_iff.1 h1).1
          simpa using this
        have : j ∈ Region.ready .any ops listed := by
          refine mem_ready.2 ⟨?_, o, by rw [← Array.getElem?_toList]; exact h1, fun e he hb => ?_⟩
          · rw [hgt j hj]
            cases hc : listed.getD j false with
            | false => rfl
            | true => exact absurd ((hD j hj).1 hc) h2
          · have hm := h3 e.on (mem_prd.2 ⟨e, he, hb, rfl⟩)
            exact (hD e.on (hlt _ hm)).2 hm
        rw [hnil] at this
        cases this
    | some i =>
      have hm := mem_ready.1 (List.mem_of_getElem? hi)
      obtain ⟨h0, o, ho, he⟩ := hm
      have hio : i < ops.size := (Array.getElem?_eq_some_iff.1 ho).1
      have hni : i ∉ D := fun h => by
        rw [hgt i hio, (hD i hio).2 h] at h0
        cases h0
      simp only []
      rw [linearise_go_acc, List.reverse_singleton, List.singleton_append]
      refine .cons (o := o) (by rw [Array.getElem?_toList]; exact ho) hni (fun x hx => ?_) ?_
      · obtain ⟨e, h1, h2, rfl⟩ := mem_prd.1 hx
        have := he e h1 h2
        have hlt' : e.on < ops.size := by
          rw [← hsz]
          by_cases h : e.on < listed.size
          · exact h
          · rw [Array.getD_eq_getD_getElem?, Array.getElem?_eq_none (by omega)] at this
            cases this
        exact (hD e.on hlt').1 this
      · refine ih _ _ (i :: D) (by simpa using hsz) (fun j hj => ?_) (List.nodup_cons.2 ⟨hni, hnd⟩) (fun j hj => ?_) (by simp only [List.length_cons]; omega)
        · by_cases hij : i = j
          · subst hij
            simp [hsz, hio]
          · rw [getD_set_ne _ hij, hD j hj]
            simp only [List.mem_cons]
            constructor
            · exact .inr
            · rintro (h | h)
              · exact absurd h.symm hij
              · exact h
        · rcases List.mem_cons.1 hj with rfl | hj
          · exact hio
          · exact hlt j hj
theorem sched_ok {C : Ctx} {ops : Array Oper} {pl : List PS} (hv : Valid C ops.toList pl) (t : Nat) : Sched ops.toList [] (Region.schedule true ops t) := by
  unfold Region.schedule
  simp only [Bool.true_or, if_true]
  exact sched_go hv _ _ _ [] (by simp) (fun i hi => by simp [hi]) .nil (fun i h => by cases h) (by simp)
def Closed (L : List Oper) (D : List Nat) : Prop := ∀ i ∈ D, ∃ o, L[i]? = some o ∧ ∀ e ∈ prd o, e ∈ D
theorem Closed.reach {L : List Oper} {D : List Nat} (hc : Closed L D) {x i : Nat} (h : Reach L x i) : i ∈ D → x ∈ D := by
  induction h with
  | one ho h =>
    intro hi
    obtain ⟨o', h1, h2⟩ := hc _ hi
    rw [ho] at h1
    cases h1
    exact h2 _ h
  | tr _ ho hj ih =>
    intro hi
    obtain ⟨o', h1, h2⟩ := hc _ hi
    rw [ho] at h1
    cases h1
    exact ih (h2 _ hj)
end
end Go.Proofs.YteaacjabcfopgaaGreat.Am
namespace Go.Proofs.YteaacjabcfopgaaGreat.Am
open Go.RowKit
noncomputable section
def eqCap (a b : Cap) : Bool :=
  match a with
  | .k n => (match b with | .k m => Nat.beq n m | _ => false)
  | .own n => (match b with | .own m => Nat.beq n m | _ => false)
  | .any => (match b with | .any => true | _ => false)
theorem eqCap_ok {a b : Cap} (h : eqCap a b = true) : a = b := by
  cases a <;> cases b <;> first | (cases h; done) | rfl | (rw [Nat.eq_of_beq_eq_true h])
def eq0 (a b : AV) : Bool :=
  match a with
  | .unk => (match b with | .unk => true | _ => false)
  | .bool x => (match b with | .bool y => x == y | _ => false)
  | .int k x => (match b with | .int j y => decide (k = j) && decide (x = y) | _ => false)
  | .str x => (match b with | .str y => beqL x y | _ => false)
  | .ptr i o => (match b with | .ptr j p => Nat.beq i j && Nat.beq o p | _ => false)
  | .nilp => (match b with | .nilp => true | _ => false)
  | .slice i o l c => (match b with | .slice j p m d => Nat.beq i j && Nat.beq o p && Nat.beq l m && eqCap c d | _ => false)
  | .nils => (match b with | .nils => true | _ => false)
  | .map i => (match b with | .map j => Nat.beq i j | _ => false)
  | .nilm => (match b with | .nilm => true | _ => false)
  | .yld i => (match b with | .yld j => Nat.beq i j | _ => false)
  | .nilf => (match b with | .nilf => true | _ => false)
  | .nili => (match b with | .nili => true | _ => false)
  | .one => (match b with | .one => true | _ => false)
  | .rng l u => (match b with | .rng m v => decide (l = m) && decide (u = v) | _ => false)
  | _ => false
theorem beqL_eq : ∀ {l m : List Nat}, beqL l m = true → l = m
  | [], [], _ => rfl
  | [], _ :: _, h => by cases h
  | _ :: _, [], h => by cases h
  | a :: l, b :: m, h => by
    unfold beqL at h
    cases hb : Nat.beq a b with
    | false => rw [hb] at h; cases h
    | true =>
      rw [hb] at h
      rw [Nat.eq_of_beq_eq_true hb, beqL_eq h]
theorem eq0_ok {a b : AV} (h : eq0 a b = true) : a = b := by
  cases a <;> cases b <;> first
    | (cases h; done)
    | rfl
    | (simp only [eq0, Bool.and_eq_true, decide_eq_true_eq, beq_iff_eq] at h
       first
         | (obtain ⟨rfl, rfl⟩ := h; rfl)
         | (subst h; rfl)
         | (rw [beqL_eq h])
         | (rw [Nat.eq_of_beq_eq_true h])
         | (rw [Nat.eq_of_beq_eq_true h.1, Nat.eq_of_beq_eq_true h.2])
         | (rw [Nat.eq_of_beq_eq_true h.1.1.1, Nat.eq_of_beq_eq_true h.1.1.2, Nat.eq_of_beq_eq_true h.1.2, eqCap_ok h.2]))
def eqLw (f : AV → AV → Bool) : List AV → List AV → Bool
  | [], [] => true
  | a :: l, b :: m => cond (f a b) (eqLw f l m) false
  | _, _ => false
theorem eqLw_ok {f : AV → AV → Bool} (hf : ∀ a b, f a b = true → a = b) : ∀ {l m : List AV}, eqLw f l m = true → l = m
  | [], [], _ => rfl
  | [], _ :: _, h => by cases h
  | _ :: _, [], h => by cases h
  | a :: l, b :: m, h => by
    unfold eqLw at h
    cases hb : f a b with
    | false => rw [hb] at h; cases h
    | true =>
      rw [hb] at h
      rw [hf a b hb, eqLw_ok hf h]
def eq1 (a b : AV) : Bool :=
  match a with
  | .fn f x y => (match b with | .fn g z w => Nat.beq f g && eqLw eq0 x z && eqLw eq0 y w | _ => false)
  | .agg x => (match b with | .agg y => eqLw eq0 x y | _ => false)
  | a => eq0 a b
theorem eq1_ok {a b : AV} (h : eq1 a b = true) : a = b := by
  cases a with
  | fn f x y =>
    cases b <;> first | (cases h; done) | skip
    simp only [eq1, Bool.and_eq_true] at h
    rw [Nat.eq_of_beq_eq_true h.1.1, eqLw_ok (fun _ _ => eq0_ok) h.1.2, eqLw_ok (fun _ _ => eq0_ok) h.2]
  | agg x =>
    cases b <;> first | (cases h; done) | skip
    rw [eqLw_ok (fun _ _ => eq0_ok) h]
  | _ => exact eq0_ok h
def eqAV (a b : AV) : Bool :=
  match a with
  | .tup x => (match b with | .tup y => eqLw eq1 x y | _ => false)
  | a => eq1 a b
theorem eqAV_ok {a b : AV} (h : eqAV a b = true) : a = b := by
  cases a with
  | tup x =>
    cases b <;> first | (cases h; done) | skip
    rw [eqLw_ok (fun _ _ => eq1_ok) h]
  | _ => exact eq1_ok h
def eqOp (a b : Option AV) : Bool :=
  match a with
  | none => (match b with | none => true | some _ => false)
  | some x => (match b with | none => false | some y => eqAV x y)
theorem eqOp_ok {a b : Option AV} (h : eqOp a b = true) : a = b := by
  cases a <;> cases b <;> first | rfl | (cases h; done) | (rw [eqAV_ok h])
def eqTr : T AV → T AV → Bool
  | .e, .e => true
  | .n l v r, .n l' v' r' => cond (eqOp v v') (cond (eqTr l l') (eqTr r r') false) false
  | _, _ => false
theorem eqTr_ok : ∀ {s t : T AV}, eqTr s t = true → s = t
  | .e, .e, _ => rfl
  | .e, .n _ _ _, h => by cases h
  | .n _ _ _, .e, h => by cases h
  | .n l v r, .n l' v' r', h => by
    unfold eqTr at h
    cases h1 : eqOp v v' with
    | false => rw [h1] at h; cases h
    | true =>
      rw [h1] at h
      cases h2 : eqTr l l' with
      | false => rw [h2] at h; cases h
      | true =>
        rw [h2] at h
        rw [eqOp_ok h1, eqTr_ok h2, eqTr_ok h]
def eqBk (a b : Blk) : Bool :=
  match a with
  | .cells n c i => (match b with | .cells m d j => Nat.beq n m && i == j && eqTr c d | _ => false)
  | .map [] c => (match b with | .map [] d => Nat.beq c d | _ => false)
  | _ => false
theorem eqBk_ok {a b : Blk} (h : eqBk a b = true) : a = b := by
  unfold eqBk at h
  split at h
  · split at h
    · simp only [Bool.and_eq_true, beq_iff_eq] at h
      rw [Nat.eq_of_beq_eq_true h.1.1, h.1.2, eqTr_ok h.2]
    · cases h
  · split at h
    · rw [Nat.eq_of_beq_eq_true h]
    · cases h
  · cases h
def idOf : AV → Option Nat
  | .ptr i _ => some i
  | .slice i _ _ _ => some i
  | .map i => some i
  | _ => none
theorem idOf_at (k : AK) (id : Nat) : idOf (k.at id) = some id := by cases k <;> rfl
end
end Go.Proofs.YteaacjabcfopgaaGreat.Am
namespace Go.Proofs.YteaacjabcfopgaaGreat.Am
open Go.RowKit
noncomputable section
inductive It where
  | code (c : Code)
  | inBlock (id : Nat)
  | inLoop (body : Code)
  | inScope (body : Code)
  | reg (ops : Array Oper) (rest : List Oper)
  | dreg (ops : Array Oper) (cur rest : List PS)
  | rangeFunc (l : Nat)
  | endRangeFunc (l : Nat)
  | beginRound
structure F where
  fn : FuncId
  nt : Nat
  tmps : T AV
  todo : List It
  defers : List Nat
  round : Option Nat
inductive St where
  | run (f : F) (cs : List F) (h : H)
  | done (v : AV) (h : H)
  | stuck (why : Nat)
def RIt (φ : Phi) : It → Item → Prop
  | .code c, x => x = .code c
  | .inBlock id, x => x = .inBlock id
  | .inLoop b, x => x = .inLoop b
  | .inScope b, x => x = .inScope b
  | .reg ops rest, x => ∃ i, x = .inRegion ops ((List.range ops.size).drop i) ∧ rest = ops.toList.drop i
  | .dreg _ _ _, _ => False
  | .rangeFunc l, x => ∃ p, φ l = some p ∧ x = .inRangeFunc p.blk
  | .endRangeFunc l, x => ∃ p, φ l = some p ∧ x = .endRangeFunc p.blk
  | .beginRound, x => x = .beginRound
inductive RIts (φ : Phi) : List It → List Item → Prop where
  | nil : RIts φ [] []
  | cons {i : It} {x : Item} {l : List It} {m : List Item} (h : RIt φ i x) (t : RIts φ l m) : RIts φ (i :: l) (x :: m)
inductive RDs (φ : Phi) : List Nat → List Deferred → Prop where
  | nil : RDs φ [] []
  | cons {i : Nat} {p : PB} {l : List Nat} {m : List Deferred} (h : φ i = some p) (t : RDs φ l m) : RDs φ (i :: l) ({ target := .collected p.blk, args := #[] } :: m)
structure RDr (C : Ctx) (φ : Phi) (ops : Array Oper) (cur rest : List PS) (tmps : T AV) (tm : Array Value) (l : List Nat) (rs : List (Nat × Nat)) (pre : List PS) (D : List Nat) : Prop where
  valid : Valid C ops.toList (pre ++ rest)
  sched : Sched ops.toList D l
  closed : Closed ops.toList D
  sub : ∀ i ∈ D, i ∈ pre.map PS.i
  loud : ∀ s ∈ pre, s.k = .l → s.i ∈ D
  curm : ∀ s ∈ pre, s.k ≠ .l → s.i ∉ D → s ∈ cur
  curp : ∀ s ∈ cur, s ∈ pre ∧ s.k ≠ .l
  tmp : ∀ t av, tmps.get t = some av → t < tm.size ∧ ((∀ s ∈ pre, s.i ∉ D → s.o.dst ≠ some t) → RV φ av (tm.getD t undef))
  ids : ∀ s ∈ pre, s.k = .a → s.i ∉ D → ∀ d v, s.o.dst = some d → tmps.get d = some v → ∀ id, idOf v = some id → (s.i, id) ∈ rs
theorem RDr.mono {C : Ctx} {φ ψ : Phi} (hle : φ.le ψ) {ops : Array Oper} {cur rest : List PS} {tmps : T AV} {tm : Array Value} {l : List Nat} {rs : List (Nat × Nat)} {pre : List PS} {D : List Nat} (h : RDr C φ ops cur rest tmps tm l rs pre D) : RDr C ψ ops cur rest tmps tm l rs pre D :=
  ⟨h.valid, h.sched, h.closed, h.sub, h.loud, h.curm, h.curp, fun t av e => ⟨(h.tmp t av e).1, fun hh => ((h.tmp t av e).2 hh).mono hle⟩, h.ids⟩
inductive RTd (C : Ctx) (φ : Phi) (tmps : T AV) (tm : Array Value) : List It → List Item → List (Nat × Nat) → Prop where
  | plain {k : List It} {td : List Item} (ht : RT φ tmps tm) (hi : RIts φ k td) : RTd C φ tmps tm k td []
  | drawn {ops : Array Oper} {cur rest : List PS} {k : List It} {td : List Item} {l : List Nat} {rs : List (Nat × Nat)} {pre : List PS} {D : List Nat} (hd : RDr C φ ops cur rest tmps tm l rs pre D) (hi : RIts φ k td) :
      RTd C φ tmps tm (.dreg ops cur rest :: k) (.inRegion ops l :: td) rs
def RRd (φ : Phi) (r : Option Nat) (rd : Option Nat) : Prop := match r with | none => rd = none | some l => ∃ p, φ l = some p ∧ rd = some p.blk
structure RF (C : Ctx) (φ : Phi) (f : F) (tm : Array Value) (td : List Item) (df : List Deferred) (rd : Option Nat) (rs : List (Nat × Nat)) : Prop where
  size : tm.size = f.nt
  todo : RTd C φ f.tmps tm f.todo td rs
  defers : RDs φ f.defers df
  round : RRd φ f.round rd
def Waits : List It → List Item → Prop
  | .dreg _ _ rest :: _, td => ∃ s rest' ops l td', rest = s :: rest' ∧ s.k = .l ∧ td = .inRegion ops (s.i :: l) :: td'
  | _, _ => True
inductive RFs (C : Ctx) (φ : Phi) : List F → List Frame → List (Nat × Nat) → Prop where
  | nil : RFs C φ [] [] []
  | cons {f : F} {tm : Array Value} {td : List Item} {df : List Deferred} {rd : Option Nat} {rs : List (Nat × Nat)} {l : List F} {m : List Frame} {rss : List (Nat × Nat)} (h : RF C φ f tm td df rd rs) (hw : Waits f.todo td) (t : RFs C φ l m rss) : RFs C φ (f :: l) (mkF f.fn tm td df rd :: m) (rs ++ rss)
theorem RIt.mono {φ ψ : Phi} (hle : φ.le ψ) {i : It} {x : Item} (h : RIt φ i x) : RIt ψ i x := by
  cases i with
  | rangeFunc l => obtain ⟨p, a, b⟩ := h; exact ⟨p, hle _ _ a, b⟩
  | endRangeFunc l => obtain ⟨p, a, b⟩ := h; exact ⟨p, hle _ _ a, b⟩
  | _ => exact h
theorem RIts.mono {φ ψ : Phi} (hle : φ.le ψ) : ∀ {l : List It} {m : List Item}, RIts φ l m → RIts ψ l m
  | _, _, .nil => .nil
  | _, _, .cons h t => .cons (h.mono hle) (RIts.mono hle t)
theorem RDs.mono {φ ψ : Phi} (hle : φ.le ψ) : ∀ {l : List Nat} {m : List Deferred}, RDs φ l m → RDs ψ l m
  | _, _, .nil => .nil
  | _, _, .cons h t => .cons (hle _ _ h) (RDs.mono hle t)
theorem RRd.mono {φ ψ : Phi} (hle : φ.le ψ) {r rd : Option Nat} (h : RRd φ r rd) : RRd ψ r rd := by
  cases r with
  | none => exact h
  | some l => obtain ⟨p, a, b⟩ := h; exact ⟨p, hle _ _ a, b⟩
theorem RTd.mono {C : Ctx} {φ ψ : Phi} (hle : φ.le ψ) {tmps : T AV} {tm : Array Value} {k : List It} {td : List Item} {rs : List (Nat × Nat)} (h : RTd C φ tmps tm k td rs) : RTd C ψ tmps tm k td rs := by
  cases h with
  | plain ht hi => exact .plain (ht.mono hle) (hi.mono hle)
  | drawn hd hi => exact .drawn (hd.mono hle) (hi.mono hle)
theorem RF.mono {C : Ctx} {φ ψ : Phi} (hle : φ.le ψ) {f : F} {tm : Array Value} {td : List Item} {df : List Deferred} {rd : Option Nat} {rs : List (Nat × Nat)} (h : RF C φ f tm td df rd rs) : RF C ψ f tm td df rd rs :=
  ⟨h.size, h.todo.mono hle, h.defers.mono hle, h.round.mono hle⟩
theorem RFs.mono {C : Ctx} {φ ψ : Phi} (hle : φ.le ψ) {l : List F} {m : List Frame} {rss : List (Nat × Nat)} (h : RFs C φ l m rss) : RFs C ψ l m rss := by
  induction h with
  | nil => exact .nil
  | cons h hw t ih => exact .cons (h.mono hle) hw ih
def idsOf (rs : List (Nat × Nat)) : List Nat := rs.map (·.2)
structure RRun (P : Program) (C : Ctx) (W : Base0) (φ : Phi) (f : F) (cs : List F) (h : H) (tm : Array Value) (td : List Item) (df : List Deferred) (rd : Option Nat) (frs : List Frame) (w : World) (rs rss : List (Nat × Nat)) : Prop where
  top : RF C φ f tm td df rd rs
  below : RFs C φ cs frs rss
  heap : RH ⟨W, idsOf rs ++ idsOf rss⟩ φ h w
  nodup : (idsOf rs ++ idsOf rss).Nodup
def bot (f : F) : List F → FuncId
  | [] => f.fn
  | g :: l => bot g l
inductive RSt (P : Program) (C : Ctx) (W : Base0) (f0 : FuncId) (outer : List Frame) : St → Machine → Prop where
  | run {φ : Phi} {f : F} {cs : List F} {h : H} {tm : Array Value} {td : List Item} {df : List Deferred} {rd : Option Nat} {frs : List Frame} {w : World} {rs rss : List (Nat × Nat)} (hr : RRun P C W φ f cs h tm td df rd frs w rs rss) (hb : bot f cs = f0) :
      RSt P C W f0 outer (.run f cs h) (lone (mkF f.fn tm td df rd) (frs ++ outer) w)
  | done {φ : Phi} {v : AV} {v' : Value} {h : H} {fr : Frame} {w : World} (hv : RV φ v v') (hR : RH ⟨W, []⟩ φ h w) (hl : fr.leaving P w (.returned v')) (hf : fr.fn = f0) : RSt P C W f0 outer (.done v h) (lone fr outer w)
  | stuck {n : Nat} {m : Machine} : RSt P C W f0 outer (.stuck n) m
end
end Go.Proofs.YteaacjabcfopgaaGreat.Am
