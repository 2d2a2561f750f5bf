/-
  A machine of this session's own that runs calls of the program on values that are known in part, and its proof, part 2 of 4: what it answers, the model answers.
-/
import Derived.Test.YtiigjiaodmlfnaaGreatDoorA1
import Derived.Laws.Tables
import Derived.Laws.BytesString
import Derived.Laws.Append
import Derived.Laws.StructEq
import Derived.Control
import Derived.Calls
set_option linter.unusedVariables false
set_option linter.unusedSimpArgs false
namespace Go.Proofs.YtiigjiaodmlfnaaGreatDoor.Am
open Go.RowKit
noncomputable section
section
variable {P : Program} {w0 : Base} {φ : Phi} {h : H} {w : World} {C : Ctx} {tmps : T AV} {ρ : Operand → Value}
theorem splice_fold : ∀ (vs : List Value) (k off : Nat) (a : Array Value), off + k + vs.length ≤ a.size →
    ((vs.zipIdx k).foldl (fun cs (c, j) => cs.setIfInBounds (off + j) c) a).toList = a.toList.take (off + k) ++ vs ++ a.toList.drop (off + k + vs.length)
  | [], k, off, a, _ => by simp
  | v :: vs, k, off, a, h => by
    simp only [List.length_cons] at h
    rw [List.zipIdx_cons, List.foldl_cons, splice_fold vs (k + 1) off _ (by simp; omega), Array.toList_setIfInBounds]
    have hlt : off + k < a.toList.length := by rw [Array.length_toList]; omega
    rw [List.take_set, List.drop_set_of_lt (by omega), show off + (k + 1) = (off + k) + 1 by omega, List.take_add_one, List.getElem?_eq_getElem hlt]
    rw [List.set_append_right _ _ (by rw [List.length_take]; omega), List.length_take, show off + k - min (off + k) a.toList.length = 0 by omega]
    simp only [Option.toList_some, List.set_cons_zero, List.length_cons, List.append_assoc, List.nil_append, List.cons_append]
    rw [show off + k + 1 + vs.length = off + k + (vs.length + 1) by omega]
def fillA (place : Nat → Option (Nat × Nat)) (cells : List AV) : List (Nat × AV) → Option (List AV)
  | [] => some cells
  | (i, v) :: rest => match place i with
    | none => none
    | some (off, size) => cond (Nat.beq (cellsV v).length size && Nat.ble (Nat.add off size) cells.length && allOne (cellsV v)) (fillA place (cells.take off ++ cellsV v ++ cells.drop (Nat.add off size)) rest) none
inductive RP (φ : Phi) : List (Nat × AV) → List (Nat × Value) → Prop where
  | nil : RP φ [] []
  | cons {i : Nat} {a : AV} {v : Value} {l : List (Nat × AV)} {m : List (Nat × Value)} (h : RV φ a v) (t : RP φ l m) : RP φ ((i, a) :: l) ((i, v) :: m)
theorem fillA_ok {place : Nat → Option (Nat × Nat)} {l : List (Nat × AV)} {m : List (Nat × Value)} (hr : RP φ l m) : ∀ {cells : List AV} {vs : List Value} {out : List AV}, RL φ cells vs → (∀ v ∈ vs, v.oneCell' = true) → fillA place cells l = some out →
    ∃ us : List Value, Instr.fill place vs.toArray m = some us.toArray ∧ RL φ out us ∧ (∀ v ∈ us, v.oneCell' = true) ∧ us.length = vs.length := by
  induction hr with
  | nil => intro cells vs out hc ho he; cases he; exact ⟨vs, rfl, hc, ho, rfl⟩
  | @cons i a v l m hv _ ih =>
    intro cells vs out hc ho he
    unfold fillA at he
    cases hp : place i with
    | none => rw [hp] at he; cases he
    | some q =>
      obtain ⟨off, size⟩ := q
      rw [hp] at he
      simp only at he
      cases hb : (Nat.beq (cellsV a).length size && Nat.ble (Nat.add off size) cells.length && allOne (cellsV a)) with
      | false => rw [hb] at he; cases he
      | true =>
        rw [hb] at he
        simp only [Bool.and_eq_true] at hb
        have h1 := Nat.eq_of_beq_eq_true hb.1.1
        have h2 : off + size ≤ cells.length := Nat.le_of_ble_eq_true hb.1.2
        have hcv := cellsV_ok hv hb.2
        have hov := allOne_RL hcv hb.2
        have hlen : v.cells.size = size := by rw [← Array.length_toList, ← hcv.length]; exact h1
        have hcl := hc.length
        have hnew : RL φ (cells.take off ++ cellsV a ++ cells.drop (off + size)) (vs.take off ++ v.cells.toList ++ vs.drop (off + size)) := ((hc.take off).append hcv).append (hc.drop (off + size))
        obtain ⟨us, r1, r2, r3, r4⟩ := ih (vs := vs.take off ++ v.cells.toList ++ vs.drop (off + size)) hnew (fun u hu => by
          rcases List.mem_append.1 hu with hu | hu
          · rcases List.mem_append.1 hu with hu | hu
            · exact ho u (List.mem_of_mem_take hu)
            · exact hov u hu
          · exact ho u (List.mem_of_mem_drop hu)) he
        refine ⟨us, ?_, r2, r3, ?_⟩
        · unfold Instr.fill
          rw [hp]
          simp only
          have hlen' : v.cells.toList.length = size := by rw [Array.length_toList]; exact hlen
          rw [if_neg (by simp [hlen]; omega)]
          have hfold : v.cells.zipIdx.foldl (fun cs (c, j) => cs.setIfInBounds (off + j) c) vs.toArray = (vs.take off ++ v.cells.toList ++ vs.drop (off + size)).toArray := by
            apply Array.toList_inj.1
            rw [← Array.foldl_toList, Array.toList_zipIdx, splice_fold v.cells.toList 0 off vs.toArray (by simp only [Array.length_toList, List.size_toArray]; omega)]
            simp only [Nat.add_zero, Array.length_toList, hlen]
          rw [hfold]
          exact r1
        · rw [r4]
          simp only [List.length_append, List.length_take, List.length_drop, Array.length_toList, hlen]
          omega
def evalP (tmps : T AV) : List (Nat × Operand) → List (Nat × AV)
  | [] => []
  | (i, o) :: l => (i, evalA tmps o) :: evalP tmps l
theorem evalP_ok (hE : Evals φ tmps ρ) : ∀ l : List (Nat × Operand), RP φ (evalP tmps l) (l.map fun (i, x) => (i, ρ x))
  | [] => .nil
  | (_, o) :: l => .cons (hE o) (evalP_ok hE l)
def placesA (C : Ctx) : List Field → Option (List (Nat × Nat))
  | [] => some []
  | f :: l => match sizeT C f.type with
    | none => none
    | some s => match placesA C l with
      | none => none
      | some m => some ((f.offset, s) :: m)
theorem placesA_ok (hA : Agrees P C) : ∀ {l : List Field} {m : List (Nat × Nat)}, placesA C l = some m → l.mapM (fun f => (P.info? f.type).map fun i => (f.offset, i.size)) = some m
  | [], m, h => by cases h; rfl
  | f :: l, m, h => by
    unfold placesA at h
    split at h
    · cases h
    · rename_i s hs
      split at h
      · cases h
      · rename_i m' hm
        cases h
        unfold sizeT at hs
        split at hs
        · rename_i i hi
          cases hs
          obtain ⟨info, z, h1, h2, _⟩ := (hA.ty _ i hi).info
          simp [h1, h2, placesA_ok hA hm]
        · cases hs
def buildR (C : Ctx) (h : H) (d : Option TI) (parts : List (Nat × AV)) : R :=
  match d with
  | none => .stuck 20
  | some d => (match d.d with
    | .struct fields => (match placesA C fields.toList with
      | some pl => (match fillA (fun i => pl[i]?) d.zero parts with
        | some cs => .val (.agg cs) h
        | none => .stuck 20)
      | none => .stuck 20)
    | .array _ e => (match sizeT C e with
      | some s => (match fillA (fun i => some (Nat.mul i s, s)) d.zero parts with
        | some cs => .val (.agg cs) h
        | none => .stuck 20)
      | none => .stuck 20)
    | _ => .stuck 20)
theorem ex_build_ok (hA : Agrees P C) (hR : RH w0 φ h w) (hE : Evals φ tmps ρ) (t : TypeId) (parts : Array (Nat × Operand)) : OkR P w0 φ w (vN (Instr.build t (parts.map fun (i, x) => (i, ρ x)))) (buildR C h (C.ty.get t) (evalP tmps parts.toList)) := by
  unfold buildR
  split
  · trivial
  · rename_i d hd
    have ok := hA.ty t d hd
    obtain ⟨info, z, i1, i2, i3, i4, i5, i6, i7, i8, i9, i10⟩ := ok.info
    have hparts := evalP_ok hE parts.toList
    have hz : z.cells = z.cells.toList.toArray := by simp
    split
    · rename_i fields he
      split
      · rename_i pl hpl
        split
        · rename_i cs hcs
          obtain ⟨us, r1, r2, r3, _⟩ := fillA_ok hparts (i6 φ) i7 hcs
          refine OkR.v (v' := .agg us.toArray) hR (.agg r2 r3) (run_build w t _ _ ?_)
          unfold Program.built
          rw [i1, ok.und, he]
          simp only [i4, placesA_ok hA hpl, Array.toList_map]
          rw [hz]
          have : (fun x : Nat => (pl.toArray)[x]?) = fun i : Nat => pl[i]? := by funext x; simp
          rw [this]
          exact r1
        · trivial
      · trivial
    · rename_i n e he
      split
      · rename_i s hs
        split
        · rename_i cs hcs
          obtain ⟨us, r1, r2, r3, _⟩ := fillA_ok hparts (i6 φ) i7 hcs
          refine OkR.v (v' := .agg us.toArray) hR (.agg r2 r3) (run_build w t _ _ ?_)
          unfold sizeT at hs
          split at hs
          · rename_i ie hie
            cases hs
            obtain ⟨info2, z2, j1, j2, _⟩ := (hA.ty _ ie hie).info
            unfold Program.built
            rw [i1, ok.und, he]
            simp only [i4, j1, j2, Array.toList_map]
            rw [hz]
            exact r1
          · cases hs
        · trivial
      · trivial
    · trivial
def repL (z : List AV) : Nat → List AV
  | 0 => []
  | n + 1 => z ++ repL z n
def repV (z : List Value) : Nat → List Value
  | 0 => []
  | n + 1 => z ++ repV z n
theorem rep_ok {z : List AV} {z' : List Value} (h : RL φ z z') (ho : ∀ v ∈ z', v.oneCell' = true) : ∀ n, RL φ (repL z n) (repV z' n) ∧ (∀ v ∈ repV z' n, v.oneCell' = true)
  | 0 => ⟨.nil, fun _ h => by cases h⟩
  | n + 1 => by
    obtain ⟨a, b⟩ := rep_ok h ho n
    refine ⟨h.append a, fun v hv => ?_⟩
    rcases List.mem_append.1 hv with hv | hv
    · exact ho v hv
    · exact b v hv
theorem repV_length (z : List Value) : ∀ n, (repV z n).length = n * z.length
  | 0 => by simp [repV]
  | n + 1 => by simp [repV, repV_length z n, Nat.succ_mul, Nat.add_comm]
theorem repV_get (z : List Value) : ∀ (n i : Nat), i < n * z.length → (repV z n)[i]? = z[i % z.length]?
  | 0, i, h => by simp at h
  | n + 1, i, h => by
    unfold repV
    by_cases hi : i < z.length
    · rw [List.getElem?_append_left hi, Nat.mod_eq_of_lt hi]
    · rw [List.getElem?_append_right (by omega), repV_get z n (i - z.length) (by rw [Nat.succ_mul] at h; omega)]
      congr 1
      rw [Nat.mod_eq_sub_mod (by omega : i ≥ z.length)]
theorem rowOf (z : List Value) (n : Nat) (hz : 0 < z.length) : (Array.range (n * z.length)).map (fun i => z.toArray[i % z.toArray.size]!) = (repV z n).toArray := by
  apply Array.ext_getElem?
  intro i
  by_cases hi : i < n * z.length
  · rw [Array.getElem?_map, Array.getElem?_range, if_pos hi]
    have hm : i % z.length < z.length := Nat.mod_lt _ hz
    simp only [Option.map_some, List.size_toArray, List.getElem?_toArray, repV_get z n i hi]
    rw [List.getElem?_eq_getElem hm]
    simp [hm]
  · rw [Array.getElem?_eq_none (by simp; omega), Array.getElem?_eq_none (by simp [repV_length]; omega)]
end
end
end Go.Proofs.YtiigjiaodmlfnaaGreatDoor.Am
namespace Go.Proofs.YtiigjiaodmlfnaaGreatDoor.Am
open Go.RowKit
noncomputable section
section
variable {P : Program} {w0 : Base} {φ : Phi} {h : H} {w : World} {C : Ctx} {tmps : T AV} {ρ : Operand → Value}
def rowR (h : H) (cs : List AV) (len c : Nat) : R := .val (.slice h.next 0 len (.k c)) (h.new (.cells cs.length (T.ofList cs) false))
theorem rowR_ok {s : Sem Value} {e : TypeId} {cs : List AV} {us : List Value} {len c : Nat} (hR : RH w0 φ h w) (hr : RL φ cs us) (ho : ∀ v ∈ us, v.oneCell' = true) (hl : len ≤ c)
    (hs : s.run P w = .ok (.slice (some ⟨w.heap.size, 0, none⟩) len c) (w.alloc (.cells us.toArray e))) : OkR P w0 φ w (vN s) (rowR h cs len c) := by
  obtain ⟨ψ, p, g1, g2, g3, g4, g5, g7, g8⟩ := new_row hR e hr ho us.length (Nat.le_refl _) [] (by simp)
  rw [List.append_nil] at g8
  refine OkR.vw g1 g8 (.slice g2 hl rfl) ?_
  rw [g3]
  exact hs
def buildSliceR (C : Ctx) (h : H) (d : Option TI) (len : Nat) (parts : List (Nat × AV)) : R :=
  match d with
  | none => .stuck 21
  | some d => (match d.d with
    | .slice e => (match C.ty.get e with
      | some i => cond (Nat.blt 0 i.size && Nat.ble (Nat.mul len i.size) 16777216) (match fillA (fun j => some (Nat.mul j i.size, i.size)) (repL i.zero len) parts with
        | some cs => rowR h cs len len
        | none => .stuck 21) (.stuck 21)
      | none => .stuck 21)
    | _ => .stuck 21)
theorem ex_buildSlice_ok (hA : Agrees P C) (hR : RH w0 φ h w) (hE : Evals φ tmps ρ) (t : TypeId) (len : Nat) (parts : Array (Nat × Operand)) :
    OkR P w0 φ w (vN (Instr.buildSlice t len (parts.map fun (i, x) => (i, ρ x)))) (buildSliceR C h (C.ty.get t) len (evalP tmps parts.toList)) := by
  unfold buildSliceR
  split
  · trivial
  · rename_i d hd
    have ok := hA.ty t d hd
    split
    · rename_i e he
      have hu : (underlying t).run P w = .ok (.slice e) w := by rw [ok.underlying, he]
      split
      · rename_i i hi
        have oke := hA.ty e i hi
        cases hb : (Nat.blt 0 i.size && Nat.ble (Nat.mul len i.size) 16777216) with
        | false => trivial
        | true =>
          simp only [Bool.and_eq_true] at hb
          have b1 : 0 < i.size := Nat.le_of_ble_eq_true hb.1
          have b2 : len * i.size ≤ 16777216 := Nat.le_of_ble_eq_true hb.2
          simp only [cond_true]
          split
          · rename_i cs hcs
            obtain ⟨z, z1, z2, z3, z4, _⟩ := oke.zero φ
            obtain ⟨rp1, rp2⟩ := rep_ok z3 z4 len
            obtain ⟨us, r1, r2, r3, r4⟩ := fillA_ok (evalP_ok hE parts.toList) rp1 rp2 hcs
            have hzl : z.cells.toList.length = i.size := by rw [Array.length_toList]; exact z2
            refine rowR_ok (e := e) hR r2 r3 (Nat.le_refl _) ?_
            have hrow : (Array.range (len * i.size)).map (fun x => (if len * i.size = 0 then (#[] : Array Value) else z.cells)[x % (if len * i.size = 0 then (#[] : Array Value) else z.cells).size]!) = (repV z.cells.toList len).toArray := by
              by_cases h0 : len * i.size = 0
              · have hl0 : len = 0 := by
                  rcases Nat.mul_eq_zero.1 h0 with h | h
                  · exact h
                  · omega
                subst hl0
                simp [repV]
              · rw [if_neg h0]
                have := rowOf z.cells.toList len (by rw [hzl]; exact b1)
                rw [hzl] at this
                simpa using this
            have h24 : ¬ (len * i.size > 2 ^ 24) := by omega
            unfold Instr.buildSlice
            rw [Sem.run_bind, hu, Result.andThen_ok]
            simp only
            rw [Sem.run_bind, oke.sizeOf, Result.andThen_ok, if_neg h24]
            have e1 : (parts.map fun (i, x) => (i, ρ x)).toList = parts.toList.map fun (i, x) => (i, ρ x) := by simp
            have r1' : Instr.fill (fun j => some (j * i.size, i.size)) (repV z.cells.toList len).toArray (parts.toList.map fun (i, x) => (i, ρ x)) = some us.toArray := r1
            by_cases h0 : len * i.size = 0
            · rw [if_pos h0]
              simp only [if_pos h0] at hrow
              rw [Sem.run_bind, Sem.run_pure, Result.andThen_ok, hrow, e1, r1']
              simp [newRow]
            · rw [if_neg h0]
              simp only [if_neg h0] at hrow
              rw [Sem.run_bind, z1, Result.andThen_ok, Sem.run_bind, Sem.run_pure, Result.andThen_ok, hrow, e1, r1']
              simp [newRow]
          · trivial
      · trivial
    · trivial
theorem wrap_small {n : Nat} (h : n ≤ 1099511627776) : IntKind.i64.wrap (n : Int) = n := by
  have hb : (2 : Int) ^ IntKind.i64.bits = 18446744073709551616 := by decide
  have hc : (2 : Int) ^ (IntKind.i64.bits - 1) = 9223372036854775808 := by decide
  have hm : (n : Int) % 18446744073709551616 = n := by omega
  unfold IntKind.wrap
  simp only [hb, hc, hm]
  rw [if_neg (by simp; omega)]
def makeSliceR (C : Ctx) (h : H) (d : Option TI) (l c : Option Nat) : R :=
  match d, l, c with
  | some d, some l, some c => (match d.d with
    | .slice e => (match C.ty.get e with
      | some i => cond (Nat.blt 0 i.size && Nat.ble l c && Nat.ble c 1099511627776 && Nat.ble (Nat.mul i.bytes c) 140737488355328) (rowR h (repL i.zero c) l c) (.stuck 22)
      | none => .stuck 22)
    | _ => .stuck 22)
  | _, _, _ => .stuck 22
theorem ex_makeSlice_ok (hA : Agrees P C) (hR : RH w0 φ h w) (hE : Evals φ tmps ρ) (t : TypeId) (l c : Operand) :
    OkR P w0 φ w (vN (Instr.makeSlice t (ρ l) (ρ c))) (makeSliceR C h (C.ty.get t) (natI (evalA tmps l)) (natI (evalA tmps c))) := by
  unfold makeSliceR
  split
  · rename_i d l' c' hd hl hc
    have ok := hA.ty t d hd
    obtain ⟨j1, e1⟩ := natI_ok (hE l) hl
    obtain ⟨j2, e2⟩ := natI_ok (hE c) hc
    rw [e1, e2]
    split
    · rename_i e he
      have hu : (underlying t).run P w = .ok (.slice e) w := by rw [ok.underlying, he]
      split
      · rename_i i hi
        have oke := hA.ty e i hi
        cases hb : (Nat.blt 0 i.size && Nat.ble l' c' && Nat.ble c' 1099511627776 && Nat.ble (Nat.mul i.bytes c') 140737488355328) with
        | false => trivial
        | true =>
          simp only [Bool.and_eq_true] at hb
          have b1 : 0 < i.size := Nat.le_of_ble_eq_true hb.1.1.1
          have b2 := Nat.le_of_ble_eq_true hb.1.1.2
          have b3 := Nat.le_of_ble_eq_true hb.1.2
          have b4 : i.bytes * c' ≤ 140737488355328 := Nat.le_of_ble_eq_true hb.2
          obtain ⟨z, z1, z2, z3, z4, _⟩ := oke.zero φ
          obtain ⟨rp1, rp2⟩ := rep_ok z3 z4 c'
          have hzl : z.cells.toList.length = i.size := by rw [Array.length_toList]; exact z2
          obtain ⟨info, y1, y2⟩ := oke.bytes (w := w)
          refine rowR_ok (e := e) hR rp1 rp2 b2 ?_
          have w1 : IntKind.i64.wrap (l' : Int) = l' := wrap_small (by omega)
          have w2 : IntKind.i64.wrap (c' : Int) = c' := wrap_small b3
          have t1 : ((c' : Int) < 0) = False := eq_false (by omega)
          have t2 : ¬ (281474976710656 < (i.bytes : Int) * (c' : Int)) := by
            have : ((i.bytes * c' : Nat) : Int) ≤ ((140737488355328 : Nat) : Int) := Int.ofNat_le.2 b4
            rw [Int.natCast_mul] at this
            omega
          have t3 : ((l' : Int) < 0) = False := eq_false (by omega)
          have t4 : ((l' : Int) > (c' : Int)) = False := eq_false (by omega)
          have hrow : (Array.range (c' * i.size)).map (fun x => (if c' * i.size = 0 then (#[] : Array Value) else z.cells)[x % (if c' * i.size = 0 then (#[] : Array Value) else z.cells).size]!) = (repV z.cells.toList c').toArray := by
            by_cases h0 : c' * i.size = 0
            · have hl0 : c' = 0 := by
                rcases Nat.mul_eq_zero.1 h0 with h | h
                · exact h
                · omega
              subst hl0
              simp [repV]
            · rw [if_neg h0]
              have := rowOf z.cells.toList c' (by rw [hzl]; exact b1)
              rw [hzl] at this
              simpa using this
          unfold Instr.makeSlice
          by_cases h0 : c' * i.size = 0
          · simp only [if_pos h0] at hrow
            simp [hu, asInt, asIntOf, y1, y2, w1, w2, t1, t3, t4, oke.sizeOf, h0, newRow] at hrow ⊢
            rw [← hrow]
            simp
            intro hx
            exact absurd hx t2
          · simp only [if_neg h0] at hrow
            simp [hu, asInt, asIntOf, y1, y2, w1, w2, t1, t3, t4, oke.sizeOf, h0, z1, newRow] at hrow ⊢
            rw [← hrow]
            simp
            intro hx
            exact absurd hx t2
      · trivial
    · trivial
  · trivial
def makeMapR (h : H) : R := .val (.map h.next) (h.new (.map [] 0))
theorem makeMap_new (hR : RH w0 φ h w) : ∃ ψ p, φ.le ψ ∧ ψ h.next = some p ∧ p.blk = w.heap.size ∧ RH w0 ψ (h.new (.map [] 0)) (w.alloc (.map #[] 0)) :=
  ⟨_, ⟨w.heap.size, 0, 0⟩, Phi.le_add hR.none_at, Phi.add_at _ _ _, rfl, hR.new rfl ⟨#[], rfl, .nil⟩⟩
def hintOk (d : Option TI) (r : Option AV) : Bool :=
  match r with
  | none => true
  | some a => (match d with
    | some d => (match d.d with
      | .map _ _ => (match natI a with
        | some _ => true
        | none => false)
      | _ => false)
    | none => false)
theorem ex_makeMap_ok (hA : Agrees P C) (hR : RH w0 φ h w) (hE : Evals φ tmps ρ) (t : TypeId) (r : Option Operand) : OkR P w0 φ w (vN (Instr.makeMap t (r.map ρ))) (cond (hintOk (C.ty.get t) (evalO tmps r)) (makeMapR h) (.stuck 23)) := by
  cases hh : hintOk (C.ty.get t) (evalO tmps r) with
  | false => trivial
  | true =>
    obtain ⟨ψ, p, g1, g2, g3, g4⟩ := makeMap_new hR
    refine OkR.vw g1 g4 (v' := .map (some w.heap.size)) (by rw [← g3]; exact .map g2) ?_
    cases r with
    | none => simp [Instr.makeMap]
    | some o =>
      have hh' : (match C.ty.get t with | some d => (match d.d with | .map _ _ => (match natI (evalA tmps o) with | some _ => true | none => false) | _ => false) | none => false) = true := hh
      split at hh'
      · rename_i d hd
        have ok := hA.ty t d hd
        split at hh'
        · rename_i k e he
          split at hh'
          · rename_i n hn
            obtain ⟨j, hj⟩ := natI_ok (hE o) hn
            have hu : (underlying t).run P w = .ok (.map k e) w := by rw [ok.underlying, he]
            simp [Instr.makeMap, hj, hu, asInt, asIntOf]
          · cases hh'
        · cases hh'
      · cases hh'
def makeFuncR (h : H) (fn : Fn) (a b : List AV) : R :=
  match fn with
  | .func f => .val (.fn f a b) h
  | _ => .stuck 24
theorem ex_makeFunc_ok (hR : RH w0 φ h w) (hE : Evals φ tmps ρ) (fn : Fn) (a b : Array Operand) : OkR P w0 φ w (vN (Instr.makeFunc fn (a.map ρ) (b.map ρ))) (makeFuncR h fn (evalL tmps a.toList) (evalL tmps b.toList)) := by
  unfold makeFuncR
  split
  · rename_i f
    refine OkR.v hR (.fn (hE.list a.toList) (hE.list b.toList)) ?_
    have e : ∀ a : Array Operand, a.map ρ = (a.toList.map ρ).toArray := fun a => by
      apply Array.toList_inj.1
      simp
    simp only [Instr.makeFunc, e]
    rfl
  · trivial
end
end
end Go.Proofs.YtiigjiaodmlfnaaGreatDoor.Am
namespace Go.Proofs.YtiigjiaodmlfnaaGreatDoor.Am
open Go.RowKit
noncomputable section
section
variable {P : Program} {w0 : Base} {φ : Phi} {h : H} {w : World} {C : Ctx} {tmps : T AV} {ρ : Operand → Value}
def byteA : AV → Option Nat
  | .int k n => (match k with
    | .u8 => (match n with
      | .ofNat b => cond (Nat.blt b 256) (some b) none
      | _ => none)
    | _ => none)
  | _ => none
def bytesA : List AV → Option (List Nat)
  | [] => some []
  | v :: l => match byteA v with
    | none => none
    | some b => match bytesA l with
      | none => none
      | some m => some (b :: m)
theorem byteA_ok {a : AV} {v : Value} {b : Nat} (hv : RV φ a v) (hb : byteA a = some b) : v = .int .u8 (b : Int) ∧ b < 256 := by
  unfold byteA at hb
  split at hb
  · split at hb
    · split at hb
      · rename_i n
        cases hc : Nat.blt n 256 with
        | false => rw [hc] at hb; cases hb
        | true =>
          rw [hc] at hb
          have e : n = b := Option.some.inj hb
          subst e
          cases hv
          exact ⟨rfl, Nat.le_of_ble_eq_true hc⟩
      · cases hb
    · cases hb
  · cases hb
theorem bytesA_ok : ∀ {l : List AV} {vs : List Value} {ns : List Nat}, RL φ l vs → bytesA l = some ns → vs = ns.map (fun (n : Nat) => Value.int .u8 (Int.ofNat n)) ∧ ∀ n ∈ ns, n < 256
  | _, _, ns, .nil, h => by cases h; exact ⟨rfl, fun _ h => by cases h⟩
  | _, _, ns, .cons hv ht, h => by
    unfold bytesA at h
    split at h
    · cases h
    · rename_i b hb
      split at h
      · cases h
      · rename_i m hm
        cases h
        obtain ⟨e1, e2⟩ := byteA_ok hv hb
        obtain ⟨e3, e4⟩ := bytesA_ok ht hm
        subst e1; subst e3
        refine ⟨rfl, fun n hn => ?_⟩
        rcases List.mem_cons.1 hn with rfl | hn
        · exact e2
        · exact e4 n hn
theorem push_all : ∀ (ns : List Int) (s : ByteArray), (ns.foldl (fun r n => r.push (UInt8.ofNat n.toNat)) s).data.toList = s.data.toList ++ ns.map (fun n => UInt8.ofNat n.toNat)
  | [], s => by simp
  | n :: ns, s => by
    rw [List.foldl_cons, push_all ns]
    simp [ByteArray.push]
def isU8 (C : Ctx) (e : TypeId) : Bool :=
  match C.ty.get e with
  | some i => (match i.d with
    | .int k => (match k with
      | .u8 => true
      | _ => false)
    | _ => false)
  | none => false
theorem isU8_ok (hA : Agrees P C) {e : TypeId} (h : isU8 C e = true) : ∀ w, (underlying e).run P w = .ok (.int .u8) w := by
  unfold isU8 at h
  split at h
  · rename_i i hi
    split at h
    · rename_i k hk
      split at h
      · intro w
        rw [(hA.ty e i hi).underlying, hk]
      · cases h
    · cases h
  · cases h
theorem freeze_new (w : World) (c : Array Value) (e : TypeId) : (w.alloc (.cells c e)).freeze { block := w.heap.size, off := c.size } 1 = w.alloc (.cells c e (c.size, c.size + 1)) := by
  unfold World.freeze
  rw [if_neg (by decide)]
  refine congrArg (fun hp => ({ w with heap := hp } : World)) ?_
  apply Array.ext_getElem?
  intro i
  rw [Array.getElem?_modify]
  by_cases hi : w.heap.size = i
  · subst hi
    rw [if_pos rfl]
    show ((w.heap.push _)[w.heap.size]?).map _ = (w.heap.push _)[w.heap.size]?
    simp
  · rw [if_neg hi]
    show (w.heap.push _)[i]? = (w.heap.push _)[i]?
    by_cases h2 : i < w.heap.size
    · rw [Array.getElem?_push_lt h2, Array.getElem?_push_lt h2]
    · rw [Array.getElem?_eq_none (by simp; omega), Array.getElem?_eq_none (by simp; omega)]
def byteCells : List Nat → List AV
  | [] => []
  | n :: l => .int .u8 (Int.ofNat n) :: byteCells l
def strOfR (h : H) (l : Option (List AV)) : R :=
  match l with
  | none => .stuck 25
  | some l => (match bytesA l with
    | some s => .val (.str s) h
    | none => .stuck 25)
def markR (C : Ctx) (h : H) (e id : Nat) (x : AV) : R :=
  match h.h.get id with
  | some (.cells n c ish) => cond (!ish && isU8 C e) (.val x (h.upd id (.cells n c true))) (.stuck 25)
  | _ => .stuck 25
def convR (C : Ctx) (h : H) (same : Bool) (ds dd : Option TI) (x : AV) : R :=
  match ds, dd with
  | some ds, some dd => (match dd.d with
    | .int k => (match x with
      | .int _ n => .val (.int k (k.wrap n)) h
      | _ => .stuck 25)
    | .string => (match x with
      | .str s => .val (.str s) h
      | .nils => (match ds.d with
        | .slice e => cond (isU8 C e) (.val (.str []) h) (.stuck 25)
        | _ => .stuck 25)
      | .slice id off len _ => (match ds.d with
        | .slice e => cond (isU8 C e) (strOfR h (h.load id off len)) (.stuck 25)
        | _ => .stuck 25)
      | _ => .stuck 25)
    | .slice e => (match x with
      | .str s => cond (isU8 C e) (.val (.slice h.next 0 s.length (.own 1)) (h.new (.cells s.length (T.ofList (byteCells s)) true))) (.stuck 25)
      | .slice id off len cap => (match ds.d with
        | .slice _ => cond same (markR C h e id (.slice id off len cap)) (.stuck 25)
        | _ => .stuck 25)
      | _ => .stuck 25)
    | _ => .stuck 25)
  | _, _ => .stuck 25
theorem byteCells_RL (φ : Phi) : ∀ s : List UInt8, RL φ (byteCells (s.map UInt8.toNat)) (s.map fun b => Value.int .u8 b.toNat)
  | [] => .nil
  | _ :: s => .cons (.int _ _) (byteCells_RL φ s)
theorem bytes_new (hR : RH w0 φ h w) (s : List UInt8) (N lo : Nat) (e : TypeId) (hN : s.length ≤ N) (rest : List Value) (hrest : s.length + rest.length = N) (n : Nat) :
    ∃ ψ p, φ.le ψ ∧ ψ h.next = some p ∧ p.addr 0 = ⟨w.heap.size, 0, none⟩ ∧ p.sh = 0 ∧ p.N = N ∧ RH w0 ψ (h.new (.cells s.length (T.ofList (byteCells (s.map UInt8.toNat))) true)) (World.alloc { w with drawn := n } (.cells ((s.map fun b => Value.int .u8 b.toNat) ++ rest).toArray e (N, lo))) := by
  have hle : φ.le (φ.add h.next ⟨w.heap.size, 0, N⟩) := Phi.le_add hR.none_at
  refine ⟨_, ⟨w.heap.size, 0, N⟩, hle, Phi.add_at _ _ _, rfl, rfl, rfl, (hR.drew n).new rfl ?_⟩
  refine ⟨_, e, N, lo, rfl, by simp [hrest], by simp [hN], fun i hi => by have : i < N := hi; omega, (fun hf => by cases hf), fun i av hg hi => ?_⟩
  obtain ⟨v, h1, h2⟩ := (byteCells_RL φ s).get i av (T.get_ofList hg)
  have hlt : i < (s.map fun b => Value.int .u8 b.toNat).length := (List.getElem?_eq_some_iff.1 h1).1
  refine ⟨v, ?_, h2.mono hle, ?_⟩
  · simp only [Nat.zero_add, List.getElem?_toArray]
    rw [List.getElem?_append_left hlt]
    exact h1
  · rw [List.getElem?_map, Option.map_eq_some_iff] at h1
    obtain ⟨b, _, rfl⟩ := h1
    rfl
theorem ex_convert_ok (hA : Agrees P C) (hR : RH w0 φ h w) (hE : Evals φ tmps ρ) (src dst : TypeId) (x : Operand) : OkR P w0 φ w (vN (convert src dst (ρ x))) (convR C h (Nat.beq src dst) (C.ty.get src) (C.ty.get dst) (evalA tmps x)) := by
  have hx := hE x
  generalize evalA tmps x = ax at hx
  generalize ρ x = x' at hx ⊢
  unfold convR
  split
  · rename_i ds dd hs hd
    have oks := hA.ty src ds hs
    have okd := hA.ty dst dd hd
    have us : ∀ w, (underlying src).run P w = .ok ds.d w := fun w => oks.underlying
    have ud : ∀ w, (underlying dst).run P w = .ok dd.d w := fun w => okd.underlying
    split
    · rename_i k hk
      rw [hk] at ud
      split
      · cases hx
        refine OkR.v (v' := .int k (k.wrap _)) hR (.int _ _) ?_
        simp [convert, us, ud, Conv.intToInt]
      · trivial
    · rename_i hk
      rw [hk] at ud
      split
      · cases hx with
        | str s =>
        refine OkR.v (v' := .string s) hR (.str s) ?_
        simp [convert, us, ud]
      · cases hx
        split
        · rename_i e he
          rw [he] at us
          cases hu8 : isU8 C e with
          | false => trivial
          | true =>
            refine OkR.v (v' := .string .empty) hR (.str ByteArray.empty) ?_
            simp [convert, us, ud, isU8_ok hA hu8, Conv.bytesToString]
        · trivial
      · cases hx with
        | slice hp hl hc =>
        rename_i id off len cap c p
        split
        · rename_i e he
          rw [he] at us
          cases hu8 : isU8 C e with
          | false => trivial
          | true =>
            simp only [cond_true]
            unfold strOfR
            split
            · trivial
            · rename_i l hload
              split
              · rename_i ns hns
                obtain ⟨vs, v1, v2, v3, v4, v5⟩ := hR.load hload hp
                obtain ⟨e1, e2⟩ := bytesA_ok v2 hns
                have hrun : (loadCells (p.addr off) len).run P w = .ok ((ns.map (fun (n : Nat) => Int.ofNat n)).map (Value.int .u8)).toArray w := by
                  rw [v5 P, e1]
                  simp [Function.comp_def]
                have hb := run_bytesToString (P := P) w (p.addr off) len c _ hrun
                refine OkR.v (v' := .string (((ns.map (fun (n : Nat) => Int.ofNat n)).foldl (fun r n => r.push (UInt8.ofNat n.toNat)) ByteArray.empty))) hR ?_ ?_
                · have : ns = (((ns.map (fun (n : Nat) => Int.ofNat n)).foldl (fun r n => r.push (UInt8.ofNat n.toNat)) ByteArray.empty)).data.toList.map UInt8.toNat := by
                    rw [push_all]
                    simp only [ByteArray.empty, List.map_append, List.map_map]
                    have : (ByteArray.emptyWithCapacity 0).data.toList = [] := rfl
                    conv => lhs; rw [← List.map_id ns]
                    simp only [this, List.map_nil, List.nil_append]
                    refine List.map_congr_left fun n hn => ?_
                    show n = (UInt8.ofNat n).toNat
                    rw [UInt8.toNat_ofNat_of_lt' (e2 n hn)]
                  conv => arg 2; rw [this]
                  exact .str _
                · simp [convert, us, ud, isU8_ok hA hu8, hb]
              · trivial
        · trivial
      · trivial
    · rename_i e hk
      rw [hk] at ud
      split
      · cases hx with
        | str s =>
        cases hu8 : isU8 C e with
        | false => trivial
        | true =>
          simp only [cond_true]
          have hlen : (s.data.toList.map UInt8.toNat).length = s.size := by rw [List.length_map, Array.length_toList]; rfl
          have hlen2 : s.data.toList.length = s.size := by rw [Array.length_toList]; rfl
          generalize hcap : (Question.appendCap s.size 0 e).cut (w.tape w.drawn (.appendCap s.size 0 e)) = cap
          have hge : s.size ≤ cap := by rw [← hcap]; exact Nat.le_add_right _ _
          obtain ⟨ψ, p, g1, g2, g3, g4, g5, g6⟩ := bytes_new hR s.data.toList cap (cap + 1) e (by rw [hlen2]; exact hge) (List.replicate (cap - s.size) (.int .u8 0)) (by rw [hlen2, List.length_replicate]; omega) (w.drawn + 1)
          rw [hlen2] at g6
          rw [hlen]
          refine OkR.vw g1 g6 (v' := .slice (some (p.addr 0)) s.size cap) (.slice g2 hge (by show p.sh + 0 + cap * 1 = p.N; omega)) ?_
          rw [g3]
          have hf : (Question.appendCap s.size 0 e).forced = false := rfl
          have hshape : ∀ (w : World) (c : Array Value), (w.alloc (.cells c e)).shape? w.heap.size = some (e, c.size) := fun w c => by
            unfold World.shape?
            have : (w.alloc (.cells c e)).heap[w.heap.size]? = some (.cells c e) := by
              show (w.heap.push _)[w.heap.size]? = _
              simp
            rw [this]
          have hfz := freeze_new w.drew (s.data.map (fun (b : UInt8) => Value.int .u8 b.toNat) ++ Array.replicate (cap - s.size) (Value.int .u8 0)) e
          have hsz : (s.data.map (fun (b : UInt8) => Value.int .u8 b.toNat) ++ Array.replicate (cap - s.size) (Value.int .u8 0)).size = cap := by
            rw [Array.size_append, Array.size_map, Array.size_replicate]
            have : s.data.size = s.size := rfl
            omega
          have harr : ((s.data.toList.map fun (b : UInt8) => Value.int .u8 b.toNat) ++ List.replicate (cap - s.size) (Value.int .u8 0)).toArray = s.data.map (fun (b : UInt8) => Value.int .u8 b.toNat) ++ Array.replicate (cap - s.size) (Value.int .u8 0) := by
            apply Array.toList_inj.1
            simp
          rw [harr]
          have hsh := hshape w.drew (s.data.map (fun (b : UInt8) => Value.int .u8 b.toNat) ++ Array.replicate (cap - s.size) (Value.int .u8 0))
          rw [hsz] at hsh hfz
          simp [convert, us, ud, isU8_ok hA hu8, Conv.stringToBytes, hf, hcap, newRow, markStringish]
          have hsh' := (show w.drew.heap.size = w.heap.size from rfl) ▸ hsh
          rw [hsh']
          simp only [run_freeze, Result.andThen_ok]
          congr 1
      · cases hx with
        | slice hp hl hc =>
        rename_i id off len cap c p
        split
        · rename_i e' he'
          rw [he'] at us
          cases hsame : Nat.beq src dst with
          | false => trivial
          | true =>
            have hsd : (src == dst) = true := beq_iff_eq.2 (Nat.eq_of_beq_eq_true hsame)
            simp only [cond_true]
            unfold markR
            split
            · rename_i n cc ish hg
              cases hc2 : (!ish && isU8 C e) with
              | false => trivial
              | true =>
                simp only [Bool.and_eq_true, Bool.not_eq_true'] at hc2
                obtain ⟨hish, hu8⟩ := hc2
                subst hish
                obtain ⟨q, o, h1, h2, a, el, lo, hi, rfl, h3, h4, h5, h6, h7⟩ := hR.at hp hg
                rw [hp] at h1
                cases h1
                have hlh := h6 rfl
                have hsh : w.shape? p.blk = some (el, p.N) := by
                  unfold World.shape?
                  rw [h2, ← h3]
                obtain ⟨W', hW⟩ : ∃ W', W' = w.freeze ⟨p.blk, p.N, none⟩ 1 := ⟨_, rfl⟩
                have hb : W'.heap[p.blk]? = some (.cells a el (p.N, p.N + 1)) := by
                  rw [hW]
                  unfold World.freeze
                  rw [if_neg (by decide)]
                  show (w.heap.modify p.blk _)[p.blk]? = _
                  rw [Array.getElem?_modify, if_pos rfl, h2]
                  simp [hlh]
                have hone : One p.blk w W' := by
                  rw [hW]
                  unfold World.freeze
                  rw [if_neg (by decide)]
                  refine ⟨rfl, rfl, rfl, by simp, fun k hk => ?_⟩
                  show (w.heap.modify p.blk _)[k]? = _
                  rw [Array.getElem?_modify, if_neg (fun e => hk e.symm)]
                refine OkR.vw (Phi.le_refl φ) (hR.upd hg hp hone hb ⟨a, el, p.N, p.N + 1, rfl, h3, h4, fun i hi' => by omega, (fun hf => by cases hf), h7⟩) (v' := .slice (some (p.addr off)) len c) (.slice hp hl hc) ?_
                have hblk : (p.addr off).block = p.blk := rfl
                simp [convert, us, ud, hsd, isU8_ok hA hu8, markStringish, hblk, hsh, run_freeze, hW]
            · trivial
        · trivial
      · trivial
    · trivial
  · trivial
end
end
end Go.Proofs.YtiigjiaodmlfnaaGreatDoor.Am
namespace Go.Proofs.YtiigjiaodmlfnaaGreatDoor.Am
open Go.RowKit
noncomputable section
section
variable {P : Program} {w0 : Base} {φ : Phi} {h : H} {w : World} {C : Ctx} {tmps : T AV} {ρ : Operand → Value}
inductive AppArg (P : Program) (t e : TypeId) (info : TypeInfo) (x : Value) (n : Nat) (news : List Value) (w : World) : Prop where
  | seq (und : (∃ e', P.underlying t = some (.slice e')) ∨ P.underlying t = some .string) (len : ∀ w, (Builtin.lenOf x).run P w = .ok n w)
      (cells : ∀ w' : World, w'.heap = w.heap → (Builtin.firstCells info.size n x).run P w' = .ok news.toArray w')
  | zeros {k k' : IntKind} {z : Value} (und : P.underlying t = some (.int k)) (hx : x = .int k' n) (hw : IntKind.i64.wrap (n : Int) = n) (hb : n * info.bytes ≤ 140737488355328) (hz : info.zero = some z) (hsz : z.cells.size = info.size)
      (hnews : news.toArray = Builtin.zeroCells z.cells n)
theorem zeroCells_none (z : Array Value) (n : Nat) (h : n * z.size = 0) : Builtin.zeroCells z n = #[] := by
  unfold Builtin.zeroCells
  rw [h]
  simp
set_option maxRecDepth 4000 in
theorem run_app_room {t tx ty e : TypeId} {i : TypeInfo} (ht : P.underlying t = some (.slice e)) (hi : P.info? e = some i) {base : Option Addr} {sLen sCap : Nat} {x : Value} {n : Nat} {news : List Value} (hs : AppArg P tx e i x n news w) (hroom : sLen + n ≤ sCap) :
    (Builtin.append_ #[t, tx] ty #[.slice base sLen sCap, x]).run P w = match base with
      | some a => ((storeCells (a.add (sLen * i.size)) news).run P w).andThen fun _ w' => .ok (.slice base (sLen + n) sCap) w'
      | none => .ok (.slice none (sLen + n) sCap) w := by
  cases hs with
  | seq und len cells =>
    have hc := cells w rfl
    rcases und with ⟨e', hk⟩ | hk <;> cases base <;> simp [Builtin.append_, run_underlying ht, run_underlying hk, sizeOf, typeInfo, hi, len, hroom, hc]
  | @zeros k k' z und hx hw hb hz hsz hnews =>
    subst hx
    have h0 : ¬ ((n : Int) < 0) := by omega
    have h48 : ¬ ((281474976710656 : Int) < (n : Int) * (i.bytes : Int)) := by
      have : ((n * i.bytes : Nat) : Int) ≤ ((140737488355328 : Nat) : Int) := Int.ofNat_le.2 hb
      rw [Int.natCast_mul] at this
      omega
    by_cases h00 : n * i.size = 0
    · have hne : news = [] := by
        have := hnews.trans (zeroCells_none z.cells n (by rw [hsz]; exact h00))
        simpa using this
      subst hne
      cases base <;> simp [Builtin.append_, run_underlying ht, run_underlying und, sizeOf, typeInfo, zeroValue, hi, hw, h0, h48, hz, hroom, h00, asInt, asIntOf, storeCells]
    · have hl : news = (Builtin.zeroCells z.cells n).toList := by rw [← hnews]
      subst hl
      cases base <;> simp [Builtin.append_, run_underlying ht, run_underlying und, sizeOf, typeInfo, zeroValue, hi, hw, h0, h48, hz, hroom, h00, asInt, asIntOf]
set_option maxRecDepth 4000 in
theorem run_app_grow {t tx ty e : TypeId} {i : TypeInfo} {z : Value} (ht : P.underlying t = some (.slice e)) (hi : P.info? e = some i) (hz : i.zero = some z) {base : Option Addr} {sLen sCap : Nat} {x : Value} {n : Nat} {news olds : List Value} (hs : AppArg P tx e i x n news w)
    (hold : ∀ w' : World, w'.heap = w.heap → (Builtin.firstCells i.size sLen (.slice base sLen sCap)).run P w' = .ok olds.toArray w') (hg : sCap < sLen + n) (h63 : sLen + n ≤ 9223372036854775807) (hb : (sLen + n) * i.bytes ≤ 140737488355328) :
    ∃ c, sLen + n ≤ c ∧ (Builtin.append_ #[t, tx] ty #[.slice base sLen sCap, x]).run P w = .ok (.slice (some ⟨w.heap.size, 0, none⟩) (sLen + n) c) (w.drew.alloc (.cells (olds.toArray ++ news.toArray ++ Builtin.zeroCells z.cells (c - (sLen + n))) e)) := by
  have hn : ¬ (sLen + n ≤ sCap) := by omega
  have h48 := growslice_fits (need := sLen + n) (old := sCap) (bytes := i.bytes) hg hb
  have h63' : ¬ (9223372036854775807 < ((sLen : Int) + (n : Int))) := by omega
  have h48' : ¬ (281474976710656 < Builtin.nextslicecap (sLen + n) sCap * i.bytes) := by omega
  have hq : (Question.appendCap (sLen + n) sCap e).forced = false := rfl
  have ho := hold w.drew rfl
  refine ⟨(Question.appendCap (sLen + n) sCap e).cut (w.tape w.drawn (.appendCap (sLen + n) sCap e)), Nat.le_add_right _ _, ?_⟩
  cases hs with
  | seq und len cells =>
    have hc := cells w.drew rfl
    rcases und with ⟨e', hk⟩ | hk <;> simp [Builtin.append_, run_underlying ht, run_underlying hk, sizeOf, typeInfo, zeroValue, hi, hz, len, hn, h63', h48', hq, hc, ho, newRow] <;> rw [← Array.append_assoc, List.append_toArray olds news]
  | @zeros k k' z' und hx hw hb2 hz2 hsz hnews =>
    subst hx
    rw [hz] at hz2
    cases hz2
    have h0 : ¬ ((n : Int) < 0) := by omega
    have h482 : ¬ ((281474976710656 : Int) < (n : Int) * (i.bytes : Int)) := by
      have : ((n * i.bytes : Nat) : Int) ≤ ((140737488355328 : Nat) : Int) := Int.ofNat_le.2 hb2
      rw [Int.natCast_mul] at this
      omega
    by_cases h00 : n * i.size = 0
    · have hne : news = [] := by
        have := hnews.trans (zeroCells_none z.cells n (by rw [hsz]; exact h00))
        simpa using this
      subst hne
      simp [Builtin.append_, run_underlying ht, run_underlying und, sizeOf, typeInfo, zeroValue, hi, hz, hw, h0, h482, hn, h63', h48', hq, h00, ho, newRow, asInt, asIntOf]
    · simp [Builtin.append_, run_underlying ht, run_underlying und, sizeOf, typeInfo, zeroValue, hi, hz, hw, h0, h482, hn, h63', h48', hq, h00, ho, newRow, asInt, asIntOf, hnews]
def appZeros (i : TI) (x : AV) : Option (Nat × List AV) :=
  match x with
  | .int _ n => cond (decide (0 ≤ n) && Nat.ble n.toNat 1099511627776 && Nat.ble (Nat.mul n.toNat i.bytes) 140737488355328) (some (n.toNat, repL i.zero n.toNat)) none
  | _ => none
def appArg (h : H) (i : TI) (d : Option TI) (size : Nat) (x : AV) : Option (Nat × List AV) :=
  match d with
  | none => none
  | some d => (match d.d with
    | .int _ => appZeros i x
    | .slice _ => (match x with
      | .nils => some (0, [])
      | .slice id off len _ => (match h.load id off (Nat.mul len size) with
        | some l => some (len, l)
        | none => none)
      | _ => none)
    | .string => (match x with
      | .str s => cond (Nat.beq size 1) (some (s.length, byteCells s)) none
      | _ => none)
    | _ => none)
theorem appArg_ok (hA : Agrees P C) (hR : RH w0 φ h w) {tx e : TypeId} {i : TI} {info : TypeInfo} {size n : Nat} {x : AV} {x' z : Value} {news : List AV} (hsz : info.size = size) (hsi : i.size = size) (hby : info.bytes = i.bytes) (hz : info.zero = some z) (hzs : z.cells.size = i.size)
    (hzr : RL φ i.zero z.cells.toList) (hzo : ∀ v ∈ z.cells.toList, v.oneCell' = true) (hx : RV φ x x') (ha : appArg h i (C.ty.get tx) size x = some (n, news)) :
    ∃ us : List Value, RL φ news us ∧ (∀ v ∈ us, v.oneCell' = true) ∧ us.length = n * size ∧ AppArg P tx e info x' n us w := by
  unfold appArg at ha
  split at ha
  · cases ha
  · rename_i d hd
    have ok := hA.ty tx d hd
    split at ha
    · rename_i k he
      have hu : P.underlying tx = some (.int k) := by rw [ok.und, he]
      unfold appZeros at ha
      split at ha
      · cases hx
        rename_i k' n'
        cases hc : (decide (0 ≤ n') && Nat.ble n'.toNat 1099511627776 && Nat.ble (Nat.mul n'.toNat i.bytes) 140737488355328) with
        | false => rw [hc] at ha; cases ha
        | true =>
          rw [hc] at ha
          have ha' := Option.some.inj ha
          simp only [Prod.mk.injEq] at ha'
          obtain ⟨rfl, rfl⟩ := ha'
          simp only [Bool.and_eq_true, decide_eq_true_eq] at hc
          have c1 : n'.toNat ≤ 1099511627776 := Nat.le_of_ble_eq_true hc.1.2
          have c2 : n'.toNat * i.bytes ≤ 140737488355328 := Nat.le_of_ble_eq_true hc.2
          have hnn : ((n'.toNat : Nat) : Int) = n' := Int.toNat_of_nonneg hc.1.1
          obtain ⟨r1, r2⟩ := rep_ok hzr hzo n'.toNat
          have hlen : z.cells.toList.length = size := by rw [Array.length_toList, hzs, hsi]
          refine ⟨repV z.cells.toList n'.toNat, r1, r2, by rw [repV_length, hlen], .zeros (z := z) hu (by rw [hnn]) (wrap_small c1) (by rw [hby]; exact c2) hz (by rw [hzs, hsi, hsz]) ?_⟩
          by_cases h0 : 0 < size
          · have := rowOf z.cells.toList n'.toNat (by rw [hlen]; exact h0)
            rw [← this]
            unfold Builtin.zeroCells
            simp
          · have h0' : z.cells.size = 0 := by rw [hzs, hsi]; omega
            rw [zeroCells_none _ _ (by rw [h0', Nat.mul_zero])]
            have h1 : size = 0 := by omega
            have : (repV z.cells.toList n'.toNat).length = 0 := by rw [repV_length, hlen, h1, Nat.mul_zero]
            simpa using this
      · cases ha
    · rename_i e' he
      have hu : P.underlying tx = some (.slice e') := by rw [ok.und, he]
      split at ha
      · cases hx
        cases ha
        exact ⟨[], .nil, (fun _ h => by cases h), by simp, AppArg.seq (.inl ⟨e', hu⟩) (fun w => by simp [Builtin.lenOf]) (fun w' _ => by simp [Builtin.firstCells])⟩
      · cases hx with
        | slice hp hl hc =>
        rename_i id off len cap c p
        split at ha
        · rename_i l hload
          cases ha
          obtain ⟨vs, v1, v2, v3, v4, v5⟩ := hR.load hload hp
          refine ⟨vs, v2, v3, v1, AppArg.seq (.inl ⟨e', hu⟩) (fun w => by simp [Builtin.lenOf]) (fun w' hw => ?_)⟩
          rw [hsz]
          have hc : ∀ j, j < vs.length → w'.cell? ((p.addr off).add j) = vs[j]? := fun j hj => by
            have hcw : w'.cell? ((p.addr off).add j) = w.cell? ((p.addr off).add j) := by unfold World.cell?; rw [hw]
            rw [hcw, addr_add]
            exact v4 j (by omega)
          have := run_loadCells (P := P) (w := w') (a := p.addr off) vs hc
          rw [v1] at this
          simpa [Builtin.firstCells] using this
        · cases ha
      · cases ha
    · rename_i he
      have hu : P.underlying tx = some .string := by rw [ok.und, he]
      split at ha
      · cases hx with
        | str s =>
        cases hs1 : Nat.beq size 1 with
        | false => rw [hs1] at ha; cases ha
        | true =>
          rw [hs1] at ha
          have hs1' := Nat.eq_of_beq_eq_true hs1
          have ha' := Option.some.inj ha
          simp only [Prod.mk.injEq] at ha'
          obtain ⟨rfl, rfl⟩ := ha'
          have hlen : (s.data.toList.map UInt8.toNat).length = s.size := by rw [List.length_map, Array.length_toList]; rfl
          have hlen2 : s.data.toList.length = s.size := by rw [Array.length_toList]; rfl
          refine ⟨s.data.toList.map fun b => Value.int .u8 b.toNat, byteCells_RL φ _, ?_, by rw [List.length_map, hlen, hlen2, hs1', Nat.mul_one], AppArg.seq (.inr hu) (fun w => by rw [hlen]; simp [Builtin.lenOf]) (fun w' _ => ?_)⟩
          · intro v hv
            obtain ⟨b, _, rfl⟩ := List.mem_map.1 hv
            rfl
          · rw [hlen]
            have hext : s.extract 0 s.size = s := by
              apply ByteArray.ext
              rw [ByteArray.data_extract]
              have : s.size = s.data.size := rfl
              rw [this]
              simp
            simp only [Builtin.firstCells, hext, Sem.run_pure]
            congr 1
            apply Array.toList_inj.1
            simp
      · cases ha
    · cases ha
end
end
end Go.Proofs.YtiigjiaodmlfnaaGreatDoor.Am
namespace Go.Proofs.YtiigjiaodmlfnaaGreatDoor.Am
open Go.RowKit
noncomputable section
section
variable {P : Program} {w0 : Base} {φ : Phi} {h : H} {w : World} {C : Ctx} {tmps : T AV} {ρ : Operand → Value}
theorem RH.move (hR : RH w0 φ h w) {id : Nat} {b b' : Blk} {p q : PB} {w' : World} {o : Obj} (hg : h.h.get id = some b) (hp : φ id = some p) (hw : One p.blk w w') (ho : w'.heap[p.blk]? = some o) (hq : q.blk = p.blk) (hb : RB (φ.add h.next q) q b' o) :
    RH w0 (φ.add h.next q) ((h.drop id).new b') w' := by
  have hle : φ.le (φ.add h.next q) := Phi.le_add hR.none_at
  have old : ∀ i, i ≠ h.next → (φ.add h.next q) i = φ i := fun i hi => by unfold Phi.add; rw [if_neg hi]
  have stay : ∀ i b1, ((h.drop id).h.put h.next b').get i = some b1 → i ≠ h.next → i ≠ id ∧ h.h.get i = some b1 := fun i b1 g hi => by
    rcases T.get_put g with ⟨e, _⟩ | ⟨_, g⟩
    · exact absurd e hi
    · exact T.get_del g
  refine ⟨?_, ?_, ?_, ?_, ?_, fun id hi => ⟨by rw [old _ (Nat.ne_of_lt (hR.rsv id hi).2)]; exact (hR.rsv id hi).1, Nat.lt_succ_of_lt (hR.rsv id hi).2⟩⟩
  · intro i b1 r g1 h1
    by_cases hi : i = h.next
    · subst hi
      rw [Phi.add_at] at h1
      cases h1
      rcases T.get_put g1 with ⟨_, rfl⟩ | ⟨e, _⟩
      · exact ⟨o, by rw [hq]; exact ho, hb⟩
      · exact absurd rfl e
    · obtain ⟨hne, g1⟩ := stay i b1 g1 hi
      rw [old _ hi] at h1
      obtain ⟨o', h2, h3⟩ := hR.blk i b1 r g1 h1
      refine ⟨o', (hw.block _ ?_).trans h2, h3.mono hle⟩
      intro e
      exact hne (hR.inj _ _ _ _ _ _ g1 hg h1 hp e)
  · intro i j b1 b2 p1 p2 g1 g2 e1 e2 e
    by_cases hi : i = h.next
    · by_cases hj : j = h.next
      · rw [hi, hj]
      · subst hi
        rw [Phi.add_at] at e1
        cases e1
        rw [old _ hj] at e2
        obtain ⟨hne, g2⟩ := stay j b2 g2 hj
        exact absurd (hR.inj _ _ _ _ _ _ g2 hg e2 hp (e.symm.trans hq)) hne
    · rw [old _ hi] at e1
      obtain ⟨hne, g1⟩ := stay i b1 g1 hi
      by_cases hj : j = h.next
      · subst hj
        rw [Phi.add_at] at e2
        cases e2
        exact absurd (hR.inj _ _ _ _ _ _ g1 hg e1 hp (e.trans hq)) hne
      · rw [old _ hj] at e2
        obtain ⟨_, g2⟩ := stay j b2 g2 hj
        exact hR.inj _ _ _ _ _ _ g1 g2 e1 e2 e
  · intro i r e
    rw [hw.size]
    by_cases hi : i = h.next
    · subst hi
      rw [Phi.add_at] at e
      cases e
      rw [hq]
      exact hR.own id p hp
    · rw [old _ hi] at e
      exact hR.own i r e
  · intro i hi
    have hi' : h.next + 1 ≤ i := hi
    have := hR.fresh i (by omega)
    refine ⟨by rw [old _ (by omega)]; exact this.1, ?_⟩
    show ((h.drop id).h.put h.next b').get i = none
    cases e : ((h.drop id).h.put h.next b').get i with
    | none => rfl
    | some y =>
      obtain ⟨_, g⟩ := stay i y e (by omega)
      rw [this.2] at g
      cases g
  · exact hR.bel.trans (hw.below (hR.own id p hp).1)
def growR (h : H) (size need : Nat) (all : List AV) (ish : Bool) : R := .val (.slice h.next 0 need (.own size)) (h.new (.cells all.length (T.ofList all) ish))
theorem growR_ok (hR : RH w0 φ h w) {s : Sem Value} {size need c : Nat} {e : TypeId} {all : List AV} {ish : Bool} {us rest : List Value} (hr : RL φ all us) (ho : ∀ v ∈ us, v.oneCell' = true) (hlen : us.length + rest.length = c * size) (hc : need ≤ c)
    (hs : s.run P w = .ok (.slice (some ⟨w.heap.size, 0, none⟩) need c) (w.drew.alloc (.cells (us ++ rest).toArray e))) : OkR P w0 φ w (vN s) (growR h size need all ish) := by
  obtain ⟨ψ, p, g1, g2, g3, g4, g5, g7, g8⟩ := new_row (hR.drew (w.drawn + 1)) e hr ho (c * size) (by omega) rest hlen ish
  refine OkR.vw g1 g8 (.slice g2 hc (by show p.sh + 0 + c * size = p.N; omega)) ?_
  rw [g3]
  exact hs
theorem zero_cells_length (z : Array Value) (n : Nat) : (Builtin.zeroCells z n).toList.length = n * z.size := by simp [Builtin.zeroCells]
def appendR (C : Ctx) (h : H) (ds dx : Option TI) (s x : AV) : R :=
  match ds with
  | none => .stuck 26
  | some ds => (match ds.d with
    | .slice e => (match C.ty.get e with
      | none => .stuck 26
      | some i => cond (Nat.blt 0 i.size) (match appArg h i dx i.size x with
        | none => .stuck 26
        | some (n, news) => (match s with
          | .nils => cond (Nat.beq n 0) (.val .nils h) (cond (Nat.ble (Nat.mul n i.bytes) 140737488355328 && Nat.ble n 1099511627776) (growR h i.size n news false) (.stuck 26))
          | .slice id off len cap => (match h.load id off (Nat.mul len i.size) with
            | none => .stuck 26
            | some old => cond (Nat.ble (Nat.mul (Nat.add len n) i.bytes) 140737488355328 && Nat.ble (Nat.add len n) 1099511627776) (match cap with
              | .k c => cond (Nat.ble (Nat.add len n) c) (match h.store id (Nat.add off (Nat.mul len i.size)) news with
                | some h' => .val (.slice id off (Nat.add len n) (.k c)) h'
                | none => .stuck 26) (growR h i.size (Nat.add len n) (old ++ news) false)
              | .own es => cond (Nat.beq es i.size) (growR (h.drop id) i.size (Nat.add len n) (old ++ news) true) (.stuck 26)
              | .any => .stuck 26) (.stuck 26))
          | _ => .stuck 26)) (.stuck 26))
    | _ => .stuck 26)
theorem append_ok (hA : Agrees P C) (hR : RH w0 φ h w) {t tx ty : TypeId} {s x : AV} {s' x' : Value} (hs : RV φ s s') (hx : RV φ x x') :
    OkR P w0 φ w (vN (Builtin.append_ #[t, tx] ty #[s', x'])) (appendR C h (C.ty.get t) (C.ty.get tx) s x) := by
  unfold appendR
  split
  · trivial
  · rename_i ds hds
    have okd := hA.ty t ds hds
    split
    · rename_i e he
      have hut : P.underlying t = some (.slice e) := by rw [okd.und, he]
      split
      · trivial
      · rename_i i hi
        have oke := hA.ty e i hi
        obtain ⟨info, z, i1, i2, i3, i4, i5, i6, i7, i8, i9, i10⟩ := oke.info
        cases hz : Nat.blt 0 i.size with
        | false => trivial
        | true =>
          have hpos : 0 < i.size := Nat.le_of_ble_eq_true hz
          simp only [cond_true]
          split
          · trivial
          · rename_i n news ha
            obtain ⟨us, u1, u2, u3, u4⟩ := appArg_ok hA hR (e := e) i2 rfl i3 i4 i5 (i6 φ) i7 hx ha
            split
            · cases hs
              cases hn : Nat.beq n 0 with
              | true =>
                have := Nat.eq_of_beq_eq_true hn
                subst this
                refine OkR.v (v' := .slice none 0 0) hR .nils ?_
                rw [run_app_room hut i1 u4 (by omega)]
              | false =>
                have hn' : 0 < n := by
                  rcases Nat.eq_zero_or_pos n with h | h
                  · subst h; cases hn
                  · exact h
                simp only [cond_false]
                cases hb : (Nat.ble (Nat.mul n i.bytes) 140737488355328 && Nat.ble n 1099511627776) with
                | false => trivial
                | true =>
                  simp only [Bool.and_eq_true] at hb
                  have b1 : n * i.bytes ≤ 140737488355328 := Nat.le_of_ble_eq_true hb.1
                  have b2 := Nat.le_of_ble_eq_true hb.2
                  obtain ⟨c, c1, c2⟩ := run_app_grow (ty := ty) (olds := []) hut i1 i4 u4 (base := none) (sLen := 0) (sCap := 0) (fun w' _ => by simp [Builtin.firstCells]) (by omega) (by omega) (by rw [i3, Nat.zero_add]; exact b1)
                  simp only [Nat.zero_add] at c1 c2
                  refine growR_ok (rest := (Builtin.zeroCells z.cells (c - n)).toList) hR u1 u2 ?_ c1 (e := e) ?_
                  · rw [u3, zero_cells_length, i5, ← Nat.add_mul]
                    congr 1
                    omega
                  · rw [c2]
                    congr 3
                    apply Array.toList_inj.1
                    simp
            · cases hs with
              | slice hp hl hc =>
              rename_i id off len cap c p
              split
              · trivial
              · rename_i old hold
                obtain ⟨vs, v1, v2, v3, v4, v5⟩ := hR.load hold hp
                cases hb : (Nat.ble (Nat.mul (Nat.add len n) i.bytes) 140737488355328 && Nat.ble (Nat.add len n) 1099511627776) with
                | false => trivial
                | true =>
                  simp only [Bool.and_eq_true] at hb
                  have b1 : (len + n) * i.bytes ≤ 140737488355328 := Nat.le_of_ble_eq_true hb.1
                  have b2 : len + n ≤ 1099511627776 := Nat.le_of_ble_eq_true hb.2
                  simp only [cond_true]
                  have hfirst : ∀ w' : World, w'.heap = w.heap → (Builtin.firstCells info.size len (.slice (some (p.addr off)) len c)).run P w' = .ok vs.toArray w' := fun w' hw => by
                    have hc : ∀ j, j < vs.length → w'.cell? ((p.addr off).add j) = vs[j]? := fun j hj => by
                      have hcw : w'.cell? ((p.addr off).add j) = w.cell? ((p.addr off).add j) := by unfold World.cell?; rw [hw]
                      rw [hcw, addr_add]
                      have hj' : j < Nat.mul len i.size := by omega
                      exact v4 j hj'
                    have := run_loadCells (P := P) (w := w') (a := p.addr off) vs hc
                    rw [v1] at this
                    rw [i2]
                    simpa [Builtin.firstCells] using this
                  have hall : RL φ (old ++ news) (vs ++ us) := v2.append u1
                  have hone : ∀ v ∈ vs ++ us, v.oneCell' = true := fun v hv => by
                    rcases List.mem_append.1 hv with hv | hv
                    · exact v3 v hv
                    · exact u2 v hv
                  have hvl : vs.length = len * i.size := v1
                  have grow : ∀ (h' : H) (ish : Bool), RH w0 φ h' w → c < len + n → OkR P w0 φ w (vN (Builtin.append_ #[t, tx] ty #[.slice (some (p.addr off)) len c, x'])) (growR h' i.size (Nat.add len n) (old ++ news) ish) := fun h' ish hR' hlt => by
                    obtain ⟨c', c1, c2⟩ := run_app_grow (ty := ty) hut i1 i4 u4 (base := some (p.addr off)) (sLen := len) (sCap := c) hfirst hlt (by omega) (by rw [i3]; exact b1)
                    refine growR_ok (rest := (Builtin.zeroCells z.cells (c' - (len + n))).toList) hR' hall hone ?_ c1 (e := e) ?_
                    · rw [List.length_append, u3, hvl, zero_cells_length, i5, ← Nat.add_mul, ← Nat.add_mul]
                      congr 1
                      omega
                    · rw [c2]
                      congr 3
                      apply Array.toList_inj.1
                      simp
                  cases cap with
                  | k m =>
                    have hcm : c = m := hc
                    subst hcm
                    simp only
                    cases hroom : Nat.ble (Nat.add len n) c with
                    | true =>
                      have room : len + n ≤ c := Nat.le_of_ble_eq_true hroom
                      simp only [cond_true]
                      cases e1 : h.store id (Nat.add off (Nat.mul len i.size)) news with
                      | none => trivial
                      | some h' =>
                        obtain ⟨w', r1, r2⟩ := hR.store e1 hp u1
                        refine OkR.vw φ.le_refl r1 (v' := .slice (some (p.addr off)) (len + n) c) (.slice hp room rfl) ?_
                        rw [run_app_room hut i1 u4 room]
                        simp only
                        rw [addr_add, i2]
                        have r3 : (storeCells (p.addr (off + len * i.size)) us).run P w = .ok () w' := r2 P
                        rw [r3]
                        rfl
                    | false =>
                      simp only [cond_false]
                      refine grow h false hR ?_
                      rcases Nat.lt_or_ge c (len + n) with h | h
                      · exact h
                      · have : Nat.ble (Nat.add len n) c = true := Nat.ble_eq_true_of_le h
                        rw [this] at hroom
                        cases hroom
                  | any => trivial
                  | own es =>
                    simp only
                    cases hes : Nat.beq es i.size with
                    | false => trivial
                    | true =>
                      have := Nat.eq_of_beq_eq_true hes
                      subst this
                      simp only [cond_true]
                      by_cases room : len + n ≤ c
                      · have hown : p.sh + off + c * i.size = p.N := hc
                        have hget : ∃ k cc ish, h.h.get id = some (.cells k cc ish) := by
                          unfold H.load loadB at hold
                          split at hold
                          · rename_i k cc ish hg
                            exact ⟨k, cc, ish, hg⟩
                          · cases hold
                        obtain ⟨k, cc, ish, hg⟩ := hget
                        obtain ⟨q, o, h1, h2, a, e', lo, hi', rfl, h3, h4, h5, h6, h7⟩ := hR.at hp hg
                        rw [hp] at h1
                        cases h1
                        have hmul : (len + n) * i.size ≤ c * i.size := Nat.mul_le_mul_right _ room
                        rw [Nat.add_mul] at hmul
                        obtain ⟨w', a', r1, r2, r3, r4, _, r6⟩ := run_storeCells (P := P) (p := p) (off := off + len * i.size) us 0 w a h2 (by omega) (fun j hj => h5 j (by omega)) u2
                        refine OkR.vw (ψ := φ.add h.next ⟨p.blk, p.sh + off, p.N⟩) (w' := w') (v' := .slice (some (p.addr off)) (len + n) c) (Phi.le_add hR.none_at) (hR.move hg hp r2 r3 rfl ⟨a', e', lo, hi', rfl, by rw [r4, h3], ?_, h5, (fun hf => by cases hf), ?_⟩) ?_ ?_
                        · simp only [hall.length, List.length_append, hvl, u3]
                          omega
                        · intro j av hgj hj
                          have hj' := T.get_ofList hgj
                          obtain ⟨v, w1, w2⟩ := hall.get j av hj'
                          refine ⟨v, ?_, w2.mono (Phi.le_add hR.none_at), hone v (List.mem_of_getElem? w1)⟩
                          have hjl : j < (vs ++ us).length := (List.getElem?_eq_some_iff.1 w1).1
                          rw [List.length_append, hvl] at hjl
                          show a'[p.sh + off + j]? = some v
                          rw [r6]
                          by_cases hjv : j < len * i.size
                          · rw [if_neg (by omega)]
                            rw [List.getElem?_append_left (by omega)] at w1
                            have := v4 j hjv
                            rw [cell_at h2, w1] at this
                            rw [← this]
                            congr 1
                            omega
                          · rw [if_pos (by omega)]
                            rw [List.getElem?_append_right (by omega), hvl] at w1
                            rw [← w1]
                            congr 1
                            omega
                        · exact .slice (p := ⟨p.blk, p.sh + off, p.N⟩) (Phi.add_at _ _ _) room hown
                        · rw [run_app_room hut i1 u4 room]
                          simp only
                          rw [addr_add, i2, r1]
                          rfl
                      · exact grow (h.drop id) true (hR.drop id) (by omega)
            · trivial
    · trivial
end
end
end Go.Proofs.YtiigjiaodmlfnaaGreatDoor.Am
namespace Go.Proofs.YtiigjiaodmlfnaaGreatDoor.Am
open Go.RowKit
noncomputable section
section
variable {P : Program} {w0 : Base} {φ : Phi} {h : H} {w : World} {C : Ctx} {tmps : T AV} {ρ : Operand → Value}
def copySrc (h : H) (size n : Nat) (x : AV) : Option (List AV) :=
  match x with
  | .nils => some []
  | .slice id off _ _ => h.load id off (Nat.mul n size)
  | .str s => cond (Nat.beq size 1) (some (byteCells (s.take n))) none
  | _ => none
def lenA : AV → Option Nat
  | .nils => some 0
  | .slice _ _ n _ => some n
  | .str s => some s.length
  | _ => none
theorem lenA_ok {x : AV} {x' : Value} {n : Nat} (hx : RV φ x x') (hl : lenA x = some n) : ∀ w, (Builtin.lenOf x').run P w = .ok n w := by
  intro w
  unfold lenA at hl
  split at hl
  · cases hx; cases hl; simp [Builtin.lenOf]
  · cases hx; cases hl; simp [Builtin.lenOf]
  · cases hx
    cases hl
    rename_i s
    have : (s.data.toList.map UInt8.toNat).length = s.size := by rw [List.length_map, Array.length_toList]; rfl
    rw [this]
    simp [Builtin.lenOf]
  · cases hl
theorem copySrc_ok (hR : RH w0 φ h w) {size n : Nat} {x : AV} {x' : Value} {l : List AV} (hx : RV φ x x') (hl : copySrc h size n x = some l) (hn : ∀ m, lenA x = some m → n ≤ m) :
    ∃ us : List Value, RL φ l us ∧ (Builtin.firstCells size n x').run P w = .ok us.toArray w := by
  unfold copySrc at hl
  split at hl
  · cases hx; cases hl
    exact ⟨[], .nil, by simp [Builtin.firstCells]⟩
  · cases hx with
    | slice hp h1 h2 =>
    obtain ⟨vs, v1, v2, v3, v4, v5⟩ := hR.load hl hp
    exact ⟨vs, v2, by simpa [Builtin.firstCells] using v5 P⟩
  · cases hx with
    | str s =>
    cases hs : Nat.beq size 1 with
    | false => rw [hs] at hl; cases hl
    | true =>
      rw [hs] at hl
      have hl' := Option.some.inj hl
      subst hl'
      refine ⟨(s.data.toList.take n).map fun b => Value.int .u8 b.toNat, ?_, ?_⟩
      · rw [← List.map_take]
        exact byteCells_RL φ _
      · simp only [Builtin.firstCells, Sem.run_pure]
        congr 1
        apply Array.toList_inj.1
        rw [Array.toList_map, ByteArray.data_extract, Array.toList_extract, List.extract_eq_take_drop]
        simp
  · cases hl
def copyR (C : Ctx) (h : H) (ds : Option TI) (d x : AV) : R :=
  match ds with
  | none => .stuck 27
  | some ds => (match ds.d with
    | .slice e => (match sizeT C e with
      | none => .stuck 27
      | some size => (match lenA x with
        | none => .stuck 27
        | some m => (match d with
          | .nils => (match copySrc h size 0 x with
            | some _ => .val (.int .i64 (Int.ofNat 0)) h
            | none => .stuck 27)
          | .slice id off len _ => (match copySrc h size (Nat.min m len) x with
            | none => .stuck 27
            | some l => (match h.store id off l with
              | some h' => .val (.int .i64 (Int.ofNat (Nat.min m len))) h'
              | none => .stuck 27))
          | _ => .stuck 27)))
    | _ => .stuck 27)
theorem copy_ok (hA : Agrees P C) (hR : RH w0 φ h w) {t ty : TypeId} {ts : Array TypeId} (ht : ts[0]? = some t) {d x : AV} {d' x' : Value} (hd : RV φ d d') (hx : RV φ x x') :
    OkR P w0 φ w (vN (Builtin.copy_ ts ty #[d', x'])) (copyR C h (C.ty.get t) d x) := by
  unfold copyR
  split
  · trivial
  · rename_i ds hds
    have okd := hA.ty t ds hds
    split
    · rename_i e he
      have hu : ∀ w, (underlying t).run P w = .ok (.slice e) w := fun w => by rw [okd.underlying, he]
      split
      · trivial
      · rename_i size hsz
        have hs := sizeT_ok hA hsz
        split
        · trivial
        · rename_i m hm
          have hlen := lenA_ok (P := P) hx hm
          split
          · cases hd
            split
            · rename_i l hl
              obtain ⟨us, u1, u2⟩ := copySrc_ok (P := P) hR hx hl (fun m _ => Nat.zero_le _)
              refine OkR.v (v' := .int .i64 (Int.ofNat 0)) hR (.int _ _) ?_
              simp [Builtin.copy_, ht, hu, hlen, hs, u2, goInt]
            · trivial
          · cases hd with
            | slice hp h1 h2 =>
            rename_i id off len cap c p
            split
            · trivial
            · rename_i l hl
              obtain ⟨us, u1, u2⟩ := copySrc_ok (P := P) hR hx hl (fun m' hm' => by
                rw [hm] at hm'
                cases hm'
                exact Nat.min_le_left _ _)
              cases e1 : h.store id off l with
              | none => trivial
              | some h' =>
                obtain ⟨w', r1, r2⟩ := hR.store e1 hp u1
                refine OkR.vw φ.le_refl r1 (v' := .int .i64 (Int.ofNat (Nat.min m len))) (.int _ _) ?_
                have r3 := r2 P
                have u3 : (Builtin.firstCells size (min m len) x').run P w = .ok us.toArray w := u2
                simp [Builtin.copy_, ht, hu, hlen, hs, u3, r3, goInt]
          · trivial
    · trivial
def mx2 (mx : Bool) (a b : Int) : Int := cond mx (if b > a then b else a) (if b < a then b else a)
theorem mx2_mono (mx : Bool) {al ah bl bh a b : Int} (a1 : al ≤ a) (a2 : a ≤ ah) (b1 : bl ≤ b) (b2 : b ≤ bh) : mx2 mx al bl ≤ mx2 mx a b ∧ mx2 mx a b ≤ mx2 mx ah bh := by
  cases mx <;> simp only [mx2, cond_true, cond_false] <;> constructor <;> repeat' split <;> omega
def mmB (mx : Bool) (x y : AV) : Option AV :=
  match bnd x, bnd y with
  | some (al, ah), some (bl, bh) => mkI (mx2 mx al bl) (mx2 mx ah bh)
  | _, _ => none
theorem mmB_ok {mx : Bool} {x y : AV} {x' y' : Value} {v : AV} (h : mmB mx x y = some v) (hx : RV φ x x') (hy : RV φ y y') : ∃ a b, x' = .int .i64 a ∧ y' = .int .i64 b ∧ RV φ v (.int .i64 (mx2 mx a b)) := by
  unfold mmB at h
  split at h
  · rename_i al ah bl bh e1 e2
    obtain ⟨n, rfl, p1, p2⟩ := bnd_ok hx e1
    obtain ⟨m, rfl, q1, q2⟩ := bnd_ok hy e2
    have hm := mx2_mono mx p1 p2 q1 q2
    exact ⟨n, m, rfl, rfl, (mkI_ok (φ := φ) h hm.1 hm.2).2⟩
  · cases h
def mmR (h : H) (mx : Bool) (x y : AV) : R :=
  match x with
  | .int k a => (match y with
    | .int _ b => .val (.int k (cond mx (if b > a then b else a) (if b < a then b else a))) h
    | y => (match mmB mx (.int k a) y with
      | some v => .val v h
      | none => .stuck 28))
  | x => (match mmB mx x y with
      | some v => .val v h
      | none => .stuck 28)
theorem max_ok (hR : RH w0 φ h w) {ts : Array TypeId} {ty : TypeId} {x y : AV} {x' y' : Value} (hx : RV φ x x') (hy : RV φ y y') : OkR P w0 φ w (vN (Builtin.max_ ts ty #[x', y'])) (mmR h true x y) := by
  unfold mmR
  split
  · split
    · cases hx; cases hy
      exact OkR.v (v' := .int _ _) hR (.int _ _) (by simp [Builtin.max_, Builtin.max2])
    · split
      · rename_i e
        obtain ⟨a, b, rfl, rfl, r⟩ := mmB_ok e hx hy
        exact OkR.v (v' := .int _ _) hR r (by simp [Builtin.max_, Builtin.max2, mx2])
      · trivial
  · split
    · rename_i e
      obtain ⟨a, b, rfl, rfl, r⟩ := mmB_ok e hx hy
      exact OkR.v (v' := .int _ _) hR r (by simp [Builtin.max_, Builtin.max2, mx2])
    · trivial
theorem min_ok (hR : RH w0 φ h w) {ts : Array TypeId} {ty : TypeId} {x y : AV} {x' y' : Value} (hx : RV φ x x') (hy : RV φ y y') : OkR P w0 φ w (vN (Builtin.min_ ts ty #[x', y'])) (mmR h false x y) := by
  unfold mmR
  split
  · split
    · cases hx; cases hy
      exact OkR.v (v' := .int _ _) hR (.int _ _) (by simp [Builtin.min_, Builtin.min2])
    · split
      · rename_i e
        obtain ⟨a, b, rfl, rfl, r⟩ := mmB_ok e hx hy
        exact OkR.v (v' := .int _ _) hR r (by simp [Builtin.min_, Builtin.min2, mx2])
      · trivial
  · split
    · rename_i e
      obtain ⟨a, b, rfl, rfl, r⟩ := mmB_ok e hx hy
      exact OkR.v (v' := .int _ _) hR r (by simp [Builtin.min_, Builtin.min2, mx2])
    · trivial
def clearR (C : Ctx) (h : H) (ds : Option TI) (x : AV) : R :=
  match ds with
  | none => .stuck 29
  | some ds => (match ds.d with
    | .slice e => (match x with
      | .nils => .val (.tup []) h
      | .slice id off len _ => (match C.ty.get e with
        | none => .stuck 29
        | some i => cond (Nat.blt 0 i.size && Nat.blt 0 len) (match h.store id off (repL i.zero len) with
          | some h' => .val (.tup []) h'
          | none => .stuck 29) (cond (Nat.beq len 0) (.val (.tup []) h) (.stuck 29)))
      | _ => .stuck 29)
    | .map _ _ => (match x with
      | .nilm => .val (.tup []) h
      | .map id => (match h.h.get id with
        | some (.map _ cl) => .val (.tup []) (h.upd id (.map [] cl))
        | _ => .stuck 29)
      | _ => .stuck 29)
    | _ => .stuck 29)
theorem clear_ok (hA : Agrees P C) (hR : RH w0 φ h w) {t ty : TypeId} {ts : Array TypeId} (ht : ts[0]? = some t) {x : AV} {x' : Value} (hx : RV φ x x') : OkR P w0 φ w (vN (Builtin.clear_ ts ty #[x'])) (clearR C h (C.ty.get t) x) := by
  unfold clearR
  split
  · trivial
  · rename_i ds hds
    have okd := hA.ty t ds hds
    split
    · rename_i e he
      have hu : ∀ w, (underlying t).run P w = .ok (.slice e) w := fun w => by rw [okd.underlying, he]
      split
      · cases hx
        exact OkR.v (v' := .tuple #[]) hR (.tup .nil) (by simp [Builtin.clear_, ht, hu])
      · cases hx with
        | slice hp h1 h2 =>
        rename_i id off len cap c p
        split
        · trivial
        · rename_i i hi
          have oke := hA.ty e i hi
          cases hb : (Nat.blt 0 i.size && Nat.blt 0 len) with
          | true =>
            simp only [Bool.and_eq_true] at hb
            have b1 : 0 < i.size := Nat.le_of_ble_eq_true hb.1
            have b2 : 0 < len := Nat.le_of_ble_eq_true hb.2
            simp only [cond_true]
            cases e1 : h.store id off (repL i.zero len) with
            | none => trivial
            | some h' =>
              obtain ⟨z, z1, z2, z3, z4, _⟩ := oke.zero φ
              obtain ⟨rp1, rp2⟩ := rep_ok z3 z4 len
              obtain ⟨w', r1, r2⟩ := hR.store e1 hp rp1
              refine OkR.vw φ.le_refl r1 (v' := .tuple #[]) (.tup .nil) ?_
              have hzl : z.cells.toList.length = i.size := by rw [Array.length_toList]; exact z2
              have hrow : (Builtin.zeroCells z.cells len).toList = repV z.cells.toList len := by
                have := rowOf z.cells.toList len (by rw [hzl]; exact b1)
                unfold Builtin.zeroCells
                have h2 : len * z.cells.size = len * z.cells.toList.length := by rw [Array.length_toList]
                rw [h2]
                have h3 := congrArg Array.toList this
                simpa using h3
              obtain ⟨n, rfl⟩ : ∃ n, len = n + 1 := ⟨len - 1, by omega⟩
              have r3 := r2 P
              simp [Builtin.clear_, ht, hu, z1, hrow, r3]
          | false =>
            simp only [cond_false]
            cases h0 : Nat.beq len 0 with
            | false => trivial
            | true =>
              have := Nat.eq_of_beq_eq_true h0
              subst this
              exact OkR.v (v' := .tuple #[]) hR (.tup .nil) (by simp [Builtin.clear_, ht, hu])
      · trivial
    · rename_i k e he
      have hu : ∀ w, (underlying t).run P w = .ok (.map k e) w := fun w => by rw [okd.underlying, he]
      split
      · cases hx
        exact OkR.v (v' := .tuple #[]) hR (.tup .nil) (by simp [Builtin.clear_, ht, hu])
      · cases hx with
        | map hp =>
        rename_i id p
        split
        · rename_i es cl hg
          obtain ⟨q, o, h1, h2, es', rfl, hes⟩ := hR.at hp hg
          rw [hp] at h1
          cases h1
          have hlt := (hR.own id p hp).2
          refine OkR.vw (w' := { w with heap := w.heap.setIfInBounds p.blk (.map #[] cl) }) φ.le_refl (hR.upd hg hp (One.obj w p.blk _) (o := .map #[] cl) (by simp [hlt]) ⟨#[], rfl, .nil⟩) (v' := .tuple #[]) (.tup .nil) ?_
          simp [Builtin.clear_, ht, hu, getObj, setObj, Sem.run, h2]
        · trivial
      · trivial
    · trivial
end
end
end Go.Proofs.YtiigjiaodmlfnaaGreatDoor.Am
namespace Go.Proofs.YtiigjiaodmlfnaaGreatDoor.Am
open Go.RowKit
noncomputable section
section
variable {P : Program} {w0 : Base} {φ : Phi} {h : H} {w : World} {C : Ctx} {tmps : T AV} {ρ : Operand → Value}
def eqInt : AV → AV → Option Bool
  | .int k a, .int k' b => cond (decide (k = k')) (some (decide (a = b))) none
  | _, _ => none
def pairE (x y : AV) : Option Bool :=
  match x, y with
  | .agg [a, b], .agg [c, f] => (match eqInt a c with
    | some true => eqInt b f
    | some false => (match eqInt b f with
      | some _ => some false
      | none => none)
    | none => none)
  | _, _ => none
def okF2 (C : Ctx) (fs : Array Field) : Bool :=
  match fs.toList with
  | [f, g] => f.name != "_" && g.name != "_" && Nat.beq f.offset 0 && Nat.beq g.offset 1 && isInt1 (C.ty.get f.type) && isInt1 (C.ty.get g.type)
  | _ => false
def eqK (C : Ctx) (i : TI) (x y : AV) : Option Bool :=
  match i.d with
  | .int _ => eqInt x y
  | .string => (match x, y with
    | .str a, .str b => some (beqL a b)
    | _, _ => none)
  | .array n e => cond (Nat.beq n 2 && isInt1 (C.ty.get e)) (pairE x y) none
  | .struct fs => cond (i.sp && okF2 C fs) (pairE x y) none
  | _ => none
theorem eqInt_ok {x y : AV} {x' y' : Value} {b : Bool} (hx : RV φ x x') (hy : RV φ y y') (he : eqInt x y = some b) : ∃ k a c, x' = .int k a ∧ y' = .int k c ∧ b = decide (a = c) := by
  unfold eqInt at he
  split at he
  · rename_i k a k' c
    by_cases hk : k = k'
    · subst hk
      rw [decide_eq_true rfl] at he
      cases hx; cases hy
      exact ⟨k, a, c, rfl, rfl, (Option.some.inj he).symm⟩
    · rw [decide_eq_false hk] at he
      cases he
  · cases he
theorem bytes_beq (a b : ByteArray) : (a == b) = (a.data.toList == b.data.toList) := by
  show (a.data == b.data) = _
  rw [Array.beq_toList]
theorem eqInt_run {e : TypeId} {kk k : IntKind} {a c : Int} (hue : ∀ w, (underlying e).run P w = .ok (.int kk) w) (m : Nat) (w : World) : (Op.equalIn (m + 1) e (.int k a) (.int k c)).run P w = .ok (a == c) w := by
  simp [Op.equalIn, hue]
theorem eqPair_run {t e : TypeId} {kk k1 k2 : IntKind} {a1 c1 a2 c2 : Int} (hu : ∀ w, (underlying t).run P w = .ok (.array 2 e) w) (hue : ∀ w, (underlying e).run P w = .ok (.int kk) w) (hse : ∀ w, (sizeOf e).run P w = .ok 1 w) (hag : ∀ w, (Go.isAgg e).run P w = .ok false w) (m : Nat) (w : World) :
    (Op.equalIn (m + 1 + 1) t (.agg #[.int k1 a1, .int k2 a2]) (.agg #[.int k1 c1, .int k2 c2])).run P w = .ok (decide (a1 = c1) && decide (a2 = c2)) w := by
  have h1 := eqInt_run (k := k1) (a := a1) (c := c1) hue m
  have h2 := eqInt_run (k := k2) (a := a2) (c := c2) hue m
  unfold Op.equalIn
  simp only [Sem.run_bind, hu, Result.andThen_ok]
  simp [hse, part, hag, Std.Legacy.Range.forIn_eq_forIn_range', Std.Legacy.Range.size, List.range', h1, h2]
  by_cases e1 : a1 = c1 <;> by_cases e2 : a2 = c2 <;> simp [e1, e2]
theorem pairE_ok {x y : AV} {x' y' : Value} {b : Bool} (hx : RV φ x x') (hy : RV φ y y') (he : pairE x y = some b) :
    ∃ k1 k2 a1 a2 c1 c2, x' = .agg #[.int k1 a1, .int k2 a2] ∧ y' = .agg #[.int k1 c1, .int k2 c2] ∧ b = (decide (a1 = c1) && decide (a2 = c2)) := by
  unfold pairE at he
  split at he
  · rename_i a b' c f
    cases hx with
    | agg ha ho =>
    cases hy with
    | agg hb ho2 =>
    cases ha with
    | cons ha1 ha2 =>
    cases ha2 with
    | cons ha3 ha4 =>
    cases ha4
    cases hb with
    | cons hb1 hb2 =>
    cases hb2 with
    | cons hb3 hb4 =>
    cases hb4
    split at he
    · rename_i e1
      obtain ⟨k1, a1, c1, rfl, rfl, q1⟩ := eqInt_ok ha1 hb1 e1
      obtain ⟨k2, a2, c2, rfl, rfl, q2⟩ := eqInt_ok ha3 hb3 he
      exact ⟨k1, k2, a1, a2, c1, c2, rfl, rfl, by rw [← q1, Bool.true_and]; exact q2⟩
    · rename_i e1
      obtain ⟨k1, a1, c1, rfl, rfl, q1⟩ := eqInt_ok ha1 hb1 e1
      split at he
      · cases he
        rename_i e2
        obtain ⟨k2, a2, c2, rfl, rfl, q2⟩ := eqInt_ok ha3 hb3 e2
        exact ⟨k1, k2, a1, a2, c1, c2, rfl, rfl, by rw [← q1, Bool.false_and]⟩
      · cases he
    · cases he
  · cases he
theorem okF2_ok {fs : Array Field} (h : okF2 C fs = true) : ∃ f g, fs = #[f, g] ∧ f.name ≠ "_" ∧ g.name ≠ "_" ∧ f.offset = 0 ∧ g.offset = 1 ∧ isInt1 (C.ty.get f.type) = true ∧ isInt1 (C.ty.get g.type) = true := by
  unfold okF2 at h
  split at h
  · rename_i f g e
    simp only [Bool.and_eq_true, bne_iff_ne, ne_eq] at h
    exact ⟨f, g, Array.toList_inj.1 e, h.1.1.1.1.1, h.1.1.1.1.2, Nat.eq_of_beq_eq_true h.1.1.1.2, Nat.eq_of_beq_eq_true h.1.1.2, h.1.2, h.2⟩
  · cases h
theorem eqPairS_run {t : TypeId} {f g : Field} {q1 q2 k1 k2 : IntKind} {a1 c1 a2 c2 : Int} (hd : P.underlying t = some (.struct #[f, g])) (hp : P.stoodInHeld t = false) (hf : f.name ≠ "_") (hg : g.name ≠ "_") (of : f.offset = 0) (og : g.offset = 1)
    (hu1 : ∀ w, (underlying f.type).run P w = .ok (.int q1) w) (hu2 : ∀ w, (underlying g.type).run P w = .ok (.int q2) w) (hag1 : ∀ w, (Go.isAgg f.type).run P w = .ok false w) (hag2 : ∀ w, (Go.isAgg g.type).run P w = .ok false w) (m : Nat) (w : World) :
    (Op.equalIn (m + 1 + 1) t (.agg #[.int k1 a1, .int k2 a2]) (.agg #[.int k1 c1, .int k2 c2])).run P w = .ok (decide (a1 = c1) && decide (a2 = c2)) w := by
  have h1 := eqInt_run (k := k1) (a := a1) (c := c1) hu1 m
  have h2 := eqInt_run (k := k2) (a := a2) (c := c2) hu2 m
  have hfs : P.fieldsOf t = #[f, g] := by simp [Program.fieldsOf, hd]
  rw [run_equalIn_struct (P := P) w (m + 1) t _ _ (by rw [hfs]; exact hd) hp, hfs]
  simp only [Op.eqFields, if_pos hf, if_pos hg, of, og, Sem.run_bind, part, hag1, hag2, Result.andThen_ok, Bool.false_eq_true, if_false]
  simp [h1, h2]
  by_cases e1 : a1 = c1 <;> by_cases e2 : a2 = c2 <;> simp [e1, e2, hag2, h2]
theorem eqK_in (hA : Agrees P C) {t : TypeId} {i : TI} (hi : C.ty.get t = some i) {x y : AV} {x' y' : Value} {b : Bool} (hx : RV φ x x') (hy : RV φ y y') (he : eqK C i x y = some b) (w : World) (m : Nat) :
    (Op.equalIn (m + 1 + 1) t x' y').run P w = .ok b w := by
  have ok := hA.ty t i hi
  have hu : ∀ w, (underlying t).run P w = .ok i.d w := fun w => ok.underlying
  unfold eqK at he
  split at he
  · rename_i k hk
    rw [hk] at hu
    obtain ⟨k', a, c, rfl, rfl, rfl⟩ := eqInt_ok hx hy he
    simp [Op.equalIn, hu]
    by_cases e : a = c <;> simp [e]
  · rename_i hk
    rw [hk] at hu
    split at he
    · cases hx with
      | str s =>
      cases hy with
      | str s' =>
      have he' := Option.some.inj he
      rw [beqL_ok, ← bytes_beq] at he'
      simp [Op.equalIn, hu, he']
    · cases he
  · rename_i n e hk
    rw [hk] at hu
    cases hc : (Nat.beq n 2 && isInt1 (C.ty.get e)) with
    | false => rw [hc] at he; cases he
    | true =>
      rw [hc] at he
      simp only [Bool.and_eq_true] at hc
      have hn := Nat.eq_of_beq_eq_true hc.1
      subst hn
      obtain ⟨kk, hue, hse, hag⟩ := isInt1_ok hA hc.2
      obtain ⟨k1, k2, a1, a2, c1, c2, rfl, rfl, rfl⟩ := pairE_ok hx hy he
      exact eqPair_run hu hue hse hag m w
  · rename_i fs hk
    cases hc : (i.sp && okF2 C fs) with
    | false => rw [hc] at he; cases he
    | true =>
      rw [hc] at he
      simp only [Bool.and_eq_true] at hc
      obtain ⟨f, g, rfl, n1, n2, o1, o2, i1, i2⟩ := okF2_ok hc.2
      obtain ⟨q1, hu1, _, hag1⟩ := isInt1_ok hA i1
      obtain ⟨q2, hu2, _, hag2⟩ := isInt1_ok hA i2
      obtain ⟨k1, k2, a1, a2, c1, c2, rfl, rfl, rfl⟩ := pairE_ok hx hy he
      exact eqPairS_run (by rw [ok.und, hk]) (ok.sp hc.1) n1 n2 o1 o2 hu1 hu2 hag1 hag2 m w
  · cases he
theorem eqK_ok (hA : Agrees P C) {t : TypeId} {i : TI} (hi : C.ty.get t = some i) {x y : AV} {x' y' : Value} {b : Bool} (hx : RV φ x x') (hy : RV φ y y') (he : eqK C i x y = some b) (w : World) :
    (Op.equal t x' y').run P w = .ok b w := eqK_in hA hi hx hy he w 9998
end
end
end Go.Proofs.YtiigjiaodmlfnaaGreatDoor.Am
namespace Go.Proofs.YtiigjiaodmlfnaaGreatDoor.Am
open Go.RowKit
noncomputable section
section
variable {P : Program} {w0 : Base} {φ : Phi} {h : H} {w : World} {C : Ctx} {tmps : T AV} {ρ : Operand → Value}
def isIntA : AV → Bool
  | .int _ _ => true
  | _ => false
def isPair (x : AV) : Bool :=
  match x with
  | .agg [a, b] => isIntA a && isIntA b
  | _ => false
def okKey (C : Ctx) (d : TypeDesc) (x : AV) : Bool :=
  match d with
  | .int _ => isIntA x
  | .string => (match x with
    | .str _ => true
    | _ => false)
  | .array n e => cond (Nat.beq n 2 && isInt1 (C.ty.get e)) (isPair x) false
  | .struct fs => cond (okF2 C fs) (isPair x) false
  | _ => false
theorem isIntA_ok {a : AV} {v : Value} (hv : RV φ a v) (hi : isIntA a = true) : ∃ k n, v = .int k n := by
  cases hv <;> first | (cases hi; done) | exact ⟨_, _, rfl⟩
theorem checkInt_run {em : Bool} {e : TypeId} {kk k : IntKind} {a : Int} (hue : ∀ w, (underlying e).run P w = .ok (.int kk) w) (m : Nat) (w : World) : (Instr.checkKey em (m + 1) e (.int k a)).run P w = .ok () w := by
  unfold Instr.checkKey
  simp only [Sem.run_bind, hue, Result.andThen_ok]
  rfl
theorem checkPair_run {em : Bool} {t e : TypeId} {kk k1 k2 : IntKind} {a1 a2 : Int} (hu : ∀ w, (underlying t).run P w = .ok (.array 2 e) w) (hue : ∀ w, (underlying e).run P w = .ok (.int kk) w) (hse : ∀ w, (sizeOf e).run P w = .ok 1 w) (hag : ∀ w, (Go.isAgg e).run P w = .ok false w) (m : Nat) (w : World) :
    (Instr.checkKey em (m + 1 + 1) t (.agg #[.int k1 a1, .int k2 a2])).run P w = .ok () w := by
  have h1 := checkInt_run (em := em) (k := k1) (a := a1) hue m
  have h2 := checkInt_run (em := em) (k := k2) (a := a2) hue m
  unfold Instr.checkKey
  simp only [Sem.run_bind, hu, Result.andThen_ok]
  simp [hse, part, hag, Std.Legacy.Range.forIn_eq_forIn_range', Std.Legacy.Range.size, List.range', h1, h2]
theorem isPair_ok {x : AV} {x' : Value} (hx : RV φ x x') (hk : isPair x = true) : ∃ k1 k2 a1 a2, x' = .agg #[.int k1 a1, .int k2 a2] := by
  unfold isPair at hk
  split at hk
  · simp only [Bool.and_eq_true] at hk
    cases hx with
    | agg ha ho =>
    cases ha with
    | cons ha1 ha2 =>
    cases ha2 with
    | cons ha3 ha4 =>
    cases ha4
    obtain ⟨_, _, rfl⟩ := isIntA_ok ha1 hk.1
    obtain ⟨_, _, rfl⟩ := isIntA_ok ha3 hk.2
    exact ⟨_, _, _, _, rfl⟩
  · cases hk
theorem checkPairS_run {em : Bool} {t : TypeId} {f g : Field} {q1 q2 k1 k2 : IntKind} {a1 a2 : Int} (hu : ∀ w, (underlying t).run P w = .ok (.struct #[f, g]) w) (hf : f.name ≠ "_") (hg : g.name ≠ "_") (of : f.offset = 0) (og : g.offset = 1)
    (hu1 : ∀ w, (underlying f.type).run P w = .ok (.int q1) w) (hu2 : ∀ w, (underlying g.type).run P w = .ok (.int q2) w) (hag1 : ∀ w, (Go.isAgg f.type).run P w = .ok false w) (hag2 : ∀ w, (Go.isAgg g.type).run P w = .ok false w) (m : Nat) (w : World) :
    (Instr.checkKey em (m + 1 + 1) t (.agg #[.int k1 a1, .int k2 a2])).run P w = .ok () w := by
  have h1 := checkInt_run (em := em) (k := k1) (a := a1) hu1 m
  have h2 := checkInt_run (em := em) (k := k2) (a := a2) hu2 m
  unfold Instr.checkKey
  simp only [Sem.run_bind, hu, Result.andThen_ok]
  simp [hf, hg, of, og, part, hag1, hag2, h1, h2]
theorem checkKey_in (hA : Agrees P C) {t : TypeId} {i : TI} (hi : C.ty.get t = some i) {x : AV} {x' : Value} (hx : RV φ x x') (hk : okKey C i.d x = true) (em : Bool) (m : Nat) (w : World) :
    (Instr.checkKey em (m + 1 + 1) t x').run P w = .ok () w := by
  have ok := hA.ty t i hi
  have hu : ∀ w, (underlying t).run P w = .ok i.d w := fun w => ok.underlying
  unfold okKey at hk
  split at hk
  · rename_i k hd
    rw [hd] at hu
    obtain ⟨_, _, rfl⟩ := isIntA_ok hx hk
    exact checkInt_run hu (m + 1) w
  · rename_i hd
    rw [hd] at hu
    split at hk
    · cases hx
      unfold Instr.checkKey
      simp only [Sem.run_bind, hu, Result.andThen_ok]
      rfl
    · cases hk
  · rename_i n e hd
    rw [hd] at hu
    cases hc : (Nat.beq n 2 && isInt1 (C.ty.get e)) with
    | false => rw [hc] at hk; cases hk
    | true =>
      rw [hc] at hk
      simp only [Bool.and_eq_true] at hc
      have hn := Nat.eq_of_beq_eq_true hc.1
      subst hn
      obtain ⟨kk, hue, hse, hag⟩ := isInt1_ok hA hc.2
      obtain ⟨k1, k2, a1, a2, rfl⟩ := isPair_ok hx hk
      exact checkPair_run hu hue hse hag m w
  · rename_i fs hd
    rw [hd] at hu
    cases hc : okF2 C fs with
    | false => rw [hc] at hk; cases hk
    | true =>
      rw [hc] at hk
      obtain ⟨f, g, rfl, n1, n2, o1, o2, i1, i2⟩ := okF2_ok hc
      obtain ⟨q1, hu1, _, hag1⟩ := isInt1_ok hA i1
      obtain ⟨q2, hu2, _, hag2⟩ := isInt1_ok hA i2
      obtain ⟨k1, k2, a1, a2, rfl⟩ := isPair_ok hx hk
      exact checkPairS_run hu n1 n2 o1 o2 hu1 hu2 hag1 hag2 m w
  · cases hk
theorem sameNow_eq {i : TI} {x y : AV} {x' y' : Value} {b c : Bool} (hx : RV φ x x') (hy : RV φ y y') (he : eqK C i x y = some b) (hs : Instr.sameNow i.d x' y' = some c) : c = b := by
  unfold eqK at he
  split at he
  · rename_i hd
    rw [hd] at hs
    obtain ⟨k, a, c', rfl, rfl, rfl⟩ := eqInt_ok hx hy he
    simp [Instr.sameNow] at hs
    rw [← hs]
    by_cases e : a = c' <;> simp [e]
  · rename_i hd
    rw [hd] at hs
    split at he
    · cases hx with
      | str s =>
      cases hy with
      | str s' =>
      have he' := Option.some.inj he
      rw [beqL_ok, ← bytes_beq] at he'
      simp [Instr.sameNow] at hs
      rw [← hs, he']
    · cases he
  · rename_i hd
    rw [hd] at hs
    simp [Instr.sameNow] at hs
  · rename_i hd
    rw [hd] at hs
    simp [Instr.sameNow] at hs
  · cases he
def findE (C : Ctx) (d : TI) (k : AV) : List (AV × AV × Nat) → Nat → Option (Option (Nat × AV × Nat))
  | [], _ => some none
  | (k', v, b) :: l, i => match eqK C d k k' with
    | none => none
    | some true => some (some (i, v, b))
    | some false => findE C d k l (Nat.succ i)
theorem findE_ok (hA : Agrees P C) {t : TypeId} {i : TI} (hi : C.ty.get t = some i) {k : AV} {k' : Value} (hk : RV φ k k') {es : List (AV × AV × Nat)} {ms : List MapEntry} (hr : REs φ es ms) : ∀ (n : Nat) (r : Option (Nat × AV × Nat)), findE C i k es n = some r →
    ∃ q : Option (Nat × Value), (∀ w, (Instr.findAsking t k' ms n).run P w = .ok q w) ∧ (∀ q', Instr.findNow i.d k' ms n = some q' → q' = q) ∧
      (match r with
        | none => q = none
        | some (j, v, b) => ∃ v', q = some (j, v') ∧ RV φ v v' ∧ n ≤ j ∧ ∃ e m, es[j - n]? = some e ∧ ms[j - n]? = some m ∧ e.2.1 = v ∧ e.2.2 = b ∧ m.val = v' ∧ m.born = b ∧ RV φ e.1 m.key) := by
  induction hr with
  | nil =>
    intro n r h
    cases h
    exact ⟨none, fun w => by simp [Instr.findAsking], fun q' h => by simp [Instr.findNow] at h; exact h.symm, rfl⟩
  | @cons e m l ms' he _ ih =>
    intro n r h
    obtain ⟨e1, e2, e3⟩ := e
    obtain ⟨h1, h2, h3⟩ := he
    unfold findE at h
    split at h
    · cases h
    · rename_i hq
      cases h
      have hrun := eqK_ok hA hi hk h1 hq
      refine ⟨some (n, m.val), fun w => by simp [Instr.findAsking, hrun], fun q' hn => ?_, m.val, rfl, h2, Nat.le_refl _, (e1, e2, e3), m, by simp, by simp, rfl, rfl, rfl, h3.symm, h1⟩
      unfold Instr.findNow at hn
      cases hs : Instr.sameNow i.d k' m.key with
      | none => rw [hs] at hn; cases hn
      | some c =>
        have := sameNow_eq hk h1 hq hs
        subst this
        rw [hs] at hn
        exact (Option.some.inj hn).symm
    · rename_i hq
      obtain ⟨q, a1, a2, a3⟩ := ih (Nat.succ n) r h
      have hrun := eqK_ok hA hi hk h1 hq
      refine ⟨q, fun w => by simp only [Instr.findAsking, Sem.run_bind, hrun, Result.andThen_ok]; exact a1 w, fun q' hn => ?_, ?_⟩
      · unfold Instr.findNow at hn
        cases hs : Instr.sameNow i.d k' m.key with
        | none => rw [hs] at hn; cases hn
        | some c =>
          have := sameNow_eq hk h1 hq hs
          subst this
          rw [hs] at hn
          exact a2 q' hn
      · cases r with
        | none => exact a3
        | some r =>
          obtain ⟨j, v, b⟩ := r
          obtain ⟨v', b1, b2, b3, e, m', b4, b5, b6⟩ := a3
          refine ⟨v', b1, b2, by omega, e, m', ?_, ?_, b6⟩
          · rw [show j - n = (j - Nat.succ n) + 1 by omega, List.getElem?_cons_succ]; exact b4
          · rw [show j - n = (j - Nat.succ n) + 1 by omega, List.getElem?_cons_succ]; exact b5
theorem findKey_ok (hA : Agrees P C) {t : TypeId} {i : TI} (hi : C.ty.get t = some i) {k : AV} {k' : Value} (hk : RV φ k k') {es : List (AV × AV × Nat)} {ms : List MapEntry} (hr : REs φ es ms) {r : Option (Nat × AV × Nat)} (hf : findE C i k es 0 = some r) :
    ∃ q : Option (Nat × Value), (∀ w, (Instr.findKey t k' ms).run P w = .ok q w) ∧
      (match r with
        | none => q = none
        | some (j, v, b) => ∃ v', q = some (j, v') ∧ RV φ v v' ∧ ∃ e m, es[j]? = some e ∧ ms[j]? = some m ∧ e.2.1 = v ∧ e.2.2 = b ∧ m.val = v' ∧ m.born = b ∧ RV φ e.1 m.key) := by
  have hu : ∀ w, (underlying t).run P w = .ok i.d w := fun w => (hA.ty t i hi).underlying
  obtain ⟨q, a1, a2, a3⟩ := findE_ok hA hi hk hr 0 r hf
  refine ⟨q, fun w => ?_, ?_⟩
  · unfold Instr.findKey
    simp only [Sem.run_bind, hu, Result.andThen_ok]
    cases hn : Instr.findNow i.d k' ms 0 with
    | none => exact a1 w
    | some q' =>
      rw [a2 q' hn]
      rfl
  · cases r with
    | none => exact a3
    | some r =>
      obtain ⟨j, v, b⟩ := r
      obtain ⟨v', b1, b2, _, e, m, b4, b5, b6⟩ := a3
      exact ⟨v', b1, b2, e, m, by simpa using b4, by simpa using b5, b6⟩
def zeroOf (i : TI) : AV := cond (isAgg i.d) (.agg i.zero) (i.zero.headD .unk)
def lookupE (C : Ctx) (h : H) (kt et : TI) (m k : AV) : Option (AV × Bool) :=
  cond (okKey C kt.d k) (match m with
    | .nilm => some (zeroOf et, false)
    | .map id => (match h.h.get id with
      | some (.map es _) => (match findE C kt k es 0 with
        | some (some (_, v, _)) => some (v, true)
        | some none => some (zeroOf et, false)
        | none => none)
      | _ => none)
    | _ => none) none
def lookupR (C : Ctx) (h : H) (d : Option TI) (m k : AV) (ok : Bool) : R :=
  match d with
  | none => .stuck 30
  | some d => (match d.d with
    | .map kt et => (match C.ty.get kt with
      | none => .stuck 30
      | some ki => (match C.ty.get et with
        | none => .stuck 30
        | some ei => (match lookupE C h ki ei m k with
          | some (v, b) => .val (cond ok (.tup [v, .bool b]) v) h
          | none => .stuck 30)))
    | _ => .stuck 30)
theorem ex_lookup_ok (hA : Agrees P C) (hR : RH w0 φ h w) (hE : Evals φ tmps ρ) (t : TypeId) (x ix : Operand) (b : Bool) : OkR P w0 φ w (vN (Instr.lookup t (ρ x) (ρ ix) b)) (lookupR C h (C.ty.get t) (evalA tmps x) (evalA tmps ix) b) := by
  have hx := hE x
  have hk := hE ix
  generalize evalA tmps x = ax at hx
  generalize ρ x = x' at hx ⊢
  generalize evalA tmps ix = ak at hk
  generalize ρ ix = k' at hk ⊢
  unfold lookupR
  split
  · trivial
  · rename_i d hd
    have okd := hA.ty t d hd
    split
    · rename_i kt et he
      have hu : ∀ w, (underlying t).run P w = .ok (.map kt et) w := fun w => by rw [okd.underlying, he]
      split
      · trivial
      · rename_i ki hki
        split
        · trivial
        · rename_i ei hei
          obtain ⟨z, z1, _, _, _, z5⟩ := (hA.ty et ei hei).zero φ
          split
          · rename_i v bb hl
            unfold lookupE at hl
            cases hok : okKey C ki.d ak with
            | false => rw [hok] at hl; cases hl
            | true =>
              rw [hok] at hl
              simp only [cond_true] at hl
              have hchk : ∀ em w, (Instr.checkKey em 10000 kt k').run P w = .ok () w := fun em w => checkKey_in hA hki hk hok em 9998 w
              have fin : ∀ v', RV φ v v' → (Instr.lookup t x' k' b).run P w = .ok (if b then .tuple #[v', .bool bb] else v') w → OkR P w0 φ w (vN (Instr.lookup t x' k' b)) (.val (cond b (.tup [v, .bool bb]) v) h) := fun v' hv hr => by
                refine OkR.v hR ?_ hr
                cases b with
                | true => exact .tup (.cons hv (.cons (.bool _) .nil))
                | false => exact hv
              split at hl
              · cases hx
                cases hl
                refine fin z z5 ?_
                simp [Instr.lookup, hu, hchk, Instr.findKey, (hA.ty kt ki hki).underlying, Instr.findNow, z1]
              · cases hx with
                | map hp =>
                rename_i id p
                split at hl
                · rename_i es cl hg
                  obtain ⟨q, o, h1, h2, es', rfl, hes⟩ := hR.at hp hg
                  rw [hp] at h1
                  cases h1
                  split at hl
                  · rename_i j v1 b1 hf
                    cases hl
                    obtain ⟨q1, f1, v', rfl, f3, _⟩ := findKey_ok hA hki hk hes hf
                    refine fin v' f3 ?_
                    simp [Instr.lookup, hu, hchk, getObj, Sem.run, h2, f1]
                  · rename_i hf
                    cases hl
                    obtain ⟨q1, f1, rfl⟩ := findKey_ok hA hki hk hes hf
                    refine fin z z5 ?_
                    simp [Instr.lookup, hu, hchk, getObj, Sem.run, h2, f1, z1]
                  · cases hl
                · cases hl
              · cases hl
          · trivial
    · trivial
end
end
end Go.Proofs.YtiigjiaodmlfnaaGreatDoor.Am
namespace Go.Proofs.YtiigjiaodmlfnaaGreatDoor.Am
open Go.RowKit
noncomputable section
section
variable {P : Program} {w0 : Base} {φ : Phi} {h : H} {w : World} {C : Ctx} {tmps : T AV} {ρ : Operand → Value}
theorem pair_bits {x y : AV} {x' y' : Value} (hx : RV φ x x') (hy : RV φ y y') (he : pairE x y = some true) (m : Nat) : Instr.sameBits (m + 1) y' x' = true := by
  obtain ⟨k1, k2, a1, a2, c1, c2, rfl, rfl, q⟩ := pairE_ok hx hy he
  have q' := q.symm
  simp only [Bool.and_eq_true, decide_eq_true_eq] at q'
  obtain ⟨rfl, rfl⟩ := q'
  simp [Instr.sameBits]
theorem eqK_bits {i : TI} {x y : AV} {x' y' : Value} (hx : RV φ x x') (hy : RV φ y y') (he : eqK C i x y = some true) (m : Nat) : Instr.sameBits (m + 1) y' x' = true := by
  unfold eqK at he
  split at he
  · obtain ⟨k, a, c', rfl, rfl, q⟩ := eqInt_ok hx hy he
    have := of_decide_eq_true q.symm
    simp [Instr.sameBits, this]
  · split at he
    · cases hx with
      | str s =>
      cases hy with
      | str s' =>
      have he' := Option.some.inj he
      rw [beqL_ok] at he'
      have h2 : (s' == s) = true := by
        rw [bytes_beq, beq_iff_eq]
        exact (beq_iff_eq.1 he').symm
      simp [Instr.sameBits, h2]
    · cases he
  · rename_i n e hd
    cases hc : (Nat.beq n 2 && isInt1 (C.ty.get e)) with
    | false => rw [hc] at he; cases he
    | true => rw [hc] at he; exact pair_bits hx hy he m
  · rename_i fs hd
    cases hc : (i.sp && okF2 C fs) with
    | false => rw [hc] at he; cases he
    | true => rw [hc] at he; exact pair_bits hx hy he m
  · cases he
theorem REs.modify {es : List (AV × AV × Nat)} {ms : List MapEntry} (hr : REs φ es ms) : ∀ (j : Nat) (m : MapEntry) (e' : AV × AV × Nat) (f : MapEntry → MapEntry), ms[j]? = some m → RE φ e' (f m) → REs φ (es.set j e') (ms.modify j f) := by
  induction hr with
  | nil => intro j m e' f h; simp at h
  | cons he ht ih =>
    intro j m e' f hm hf
    cases j with
    | zero =>
      simp only [List.getElem?_cons_zero, Option.some.injEq] at hm
      subst hm
      simp only [List.set_cons_zero, List.modify_zero_cons]
      exact .cons hf ht
    | succ j =>
      simp only [List.getElem?_cons_succ] at hm
      simp only [List.set_cons_succ, List.modify_succ_cons]
      exact .cons he (ih j m e' f hm hf)
theorem REs.append {es : List (AV × AV × Nat)} {ms : List MapEntry} (hr : REs φ es ms) {e : AV × AV × Nat} {m : MapEntry} (he : RE φ e m) : REs φ (es ++ [e]) (ms ++ [m]) := by
  induction hr with
  | nil => exact .cons he .nil
  | cons h _ ih => exact .cons h ih
theorem REs.erase {es : List (AV × AV × Nat)} {ms : List MapEntry} (hr : REs φ es ms) : ∀ j, REs φ (es.eraseIdx j) (ms.eraseIdx j) := by
  induction hr with
  | nil => intro j; simpa using REs.nil
  | cons h t ih =>
    intro j
    cases j with
    | zero => exact t
    | succ j => exact .cons h (ih j)
theorem findE_key {es : List (AV × AV × Nat)} {d : TI} {k : AV} : ∀ (n : Nat) {j : Nat} {v : AV} {b : Nat}, findE C d k es n = some (some (j, v, b)) → n ≤ j ∧ ∃ e, es[j - n]? = some e ∧ eqK C d k e.1 = some true ∧ e.2.1 = v ∧ e.2.2 = b := by
  induction es with
  | nil => intro n j v b h; cases h
  | cons e l ih =>
    intro n j v b h
    obtain ⟨e1, e2, e3⟩ := e
    unfold findE at h
    split at h
    · cases h
    · rename_i hq
      cases h
      exact ⟨Nat.le_refl _, _, by simp; rfl, hq, rfl, rfl⟩
    · obtain ⟨a, e, b1, b2, b3⟩ := ih (Nat.succ n) h
      exact ⟨by omega, e, by rw [show j - n = (j - Nat.succ n) + 1 by omega, List.getElem?_cons_succ]; exact b1, b2, b3⟩
def updE (C : Ctx) (ki : TI) (es : List (AV × AV × Nat)) (cl : Nat) (k v : AV) : Option (List (AV × AV × Nat) × Nat) :=
  cond (okKey C ki.d k) (match findE C ki k es 0 with
    | some (some (j, _, b)) => some (es.set j (k, v, b), cl)
    | some none => some (es ++ [(k, v, cl)], Nat.succ cl)
    | none => none) none
def mapUpdR (C : Ctx) (h : H) (d : Option TI) (m k v : AV) : R :=
  match d with
  | none => .stuck 31
  | some d => (match d.d with
    | .map kt _ => (match C.ty.get kt with
      | none => .stuck 31
      | some ki => (match m with
        | .map id => (match h.h.get id with
          | some (.map es cl) => (match updE C ki es cl k v with
            | some (es', cl') => .val .unk (h.upd id (.map es' cl'))
            | none => .stuck 31)
          | _ => .stuck 31)
        | _ => .stuck 31))
    | _ => .stuck 31)
theorem ex_mapUpd_ok (hA : Agrees P C) (hR : RH w0 φ h w) (hE : Evals φ tmps ρ) (t : TypeId) (x ix y : Operand) : OkR P w0 φ w (uN (Instr.mapUpdate t (ρ x) (ρ ix) (ρ y))) (mapUpdR C h (C.ty.get t) (evalA tmps x) (evalA tmps ix) (evalA tmps y)) := by
  have hx := hE x
  have hk := hE ix
  have hv := hE y
  generalize evalA tmps x = ax at hx
  generalize ρ x = x' at hx ⊢
  generalize evalA tmps ix = ak at hk
  generalize ρ ix = k' at hk ⊢
  generalize evalA tmps y = av at hv
  generalize ρ y = v' at hv ⊢
  unfold mapUpdR
  split
  · trivial
  · rename_i d hd
    have okd := hA.ty t d hd
    split
    · rename_i kt et he
      have hu : ∀ w, (underlying t).run P w = .ok (.map kt et) w := fun w => by rw [okd.underlying, he]
      split
      · trivial
      · rename_i ki hki
        split
        · cases hx with
          | map hp =>
          rename_i id p
          split
          · rename_i es cl hg
            obtain ⟨q, o, h1, h2, es', rfl, hes⟩ := hR.at hp hg
            rw [hp] at h1
            cases h1
            have hlt := (hR.own id p hp).2
            split
            · rename_i es2 cl2 hup
              unfold updE at hup
              cases hok : okKey C ki.d ak with
              | false => rw [hok] at hup; cases hup
              | true =>
                rw [hok] at hup
                simp only [cond_true] at hup
                have hchk : ∀ em w, (Instr.checkKey em 10000 kt k').run P w = .ok () w := fun em w => checkKey_in hA hki hk hok em 9998 w
                split at hup
                · rename_i j v1 b1 hf
                  cases hup
                  obtain ⟨q1, f1, w1, rfl, f3, e, m, g1, g2, g3, g4, g5, g6, g7⟩ := findKey_ok hA hki hk hes hf
                  obtain ⟨_, e', k1, k2, k3, k4⟩ := findE_key 0 hf
                  rw [Nat.sub_zero, g1] at k1
                  cases k1
                  have hm : es'[j]? = some m := by rw [← Array.getElem?_toList]; exact g2
                  have hbits := eqK_bits hk g7 k2 9999
                  have hstay : ∀ w, (Instr.keyThatStays m.key k').run P w = .ok k' w := fun w => by
                    unfold Instr.keyThatStays
                    rw [hbits]
                    rfl
                  refine OkR.u (w' := { w with heap := w.heap.setIfInBounds p.blk (.map (es'.modify j fun e => { e with key := k', val := v' }) cl) })
                    (hR.upd hg hp (One.obj w p.blk _) (o := .map (es'.modify j fun e => { e with key := k', val := v' }) cl) (by simp [hlt]) ⟨_, rfl, ?_⟩) ?_
                  · rw [Array.toList_modify]
                    exact hes.modify j m _ _ g2 ⟨hk, hv, by rw [← g6]⟩
                  · simp [Instr.mapUpdate, hu, hchk, getObj, setObj, Sem.run, h2, f1, hm, hstay]
                · rename_i hf
                  cases hup
                  obtain ⟨q1, f1, rfl⟩ := findKey_ok hA hki hk hes hf
                  refine OkR.u (w' := { w with heap := w.heap.setIfInBounds p.blk (.map (es'.push { key := k', val := v', born := cl }) (cl + 1)) })
                    (hR.upd hg hp (One.obj w p.blk _) (o := .map (es'.push { key := k', val := v', born := cl }) (cl + 1)) (by simp [hlt]) ⟨_, rfl, ?_⟩) ?_
                  · rw [Array.toList_push]
                    exact hes.append ⟨hk, hv, rfl⟩
                  · simp [Instr.mapUpdate, hu, hchk, getObj, setObj, Sem.run, h2, f1]
                · cases hup
            · trivial
          · trivial
        · trivial
    · trivial
def mapEntR (C : Ctx) (h : H) (d : Option TI) (m k : AV) : R :=
  match d with
  | none => .stuck 32
  | some d => (match d.d with
    | .map kt et => (match C.ty.get kt with
      | none => .stuck 32
      | some ki => (match C.ty.get et with
        | none => .stuck 32
        | some ei => (match m with
          | .map id => (match h.h.get id with
            | some (.map es cl) => cond (okKey C ki.d k) (match findE C ki k es 0 with
              | some (some (j, v, b)) => .val (.tup [v, .int .i64 (Int.ofNat b)]) (h.upd id (.map (es.set j (k, v, b)) cl))
              | some none => .val (.tup [zeroOf ei, .int .i64 (Int.ofNat cl)]) (h.upd id (.map (es ++ [(k, zeroOf ei, cl)]) (Nat.succ cl)))
              | none => .stuck 32) (.stuck 32)
            | _ => .stuck 32)
          | _ => .stuck 32)))
    | _ => .stuck 32)
theorem ex_mapEnt_ok (hA : Agrees P C) (hR : RH w0 φ h w) (hE : Evals φ tmps ρ) (t : TypeId) (x ix : Operand) : OkR P w0 φ w (vN (Instr.mapEntry t (ρ x) (ρ ix))) (mapEntR C h (C.ty.get t) (evalA tmps x) (evalA tmps ix)) := by
  have hx := hE x
  have hk := hE ix
  generalize evalA tmps x = ax at hx
  generalize ρ x = x' at hx ⊢
  generalize evalA tmps ix = ak at hk
  generalize ρ ix = k' at hk ⊢
  unfold mapEntR
  split
  · trivial
  · rename_i d hd
    have okd := hA.ty t d hd
    split
    · rename_i kt et he
      have hu : ∀ w, (underlying t).run P w = .ok (.map kt et) w := fun w => by rw [okd.underlying, he]
      split
      · trivial
      · rename_i ki hki
        split
        · trivial
        · rename_i ei hei
          obtain ⟨z, z1, _, _, _, z5⟩ := (hA.ty et ei hei).zero φ
          split
          · cases hx with
            | map hp =>
            rename_i id p
            split
            · rename_i es cl hg
              obtain ⟨q, o, h1, h2, es', rfl, hes⟩ := hR.at hp hg
              rw [hp] at h1
              cases h1
              have hlt := (hR.own id p hp).2
              cases hok : okKey C ki.d ak with
              | false => trivial
              | true =>
                simp only [cond_true]
                have hchk : ∀ em w, (Instr.checkKey em 10000 kt k').run P w = .ok () w := fun em w => checkKey_in hA hki hk hok em 9998 w
                split
                · rename_i j v1 b1 hf
                  obtain ⟨q1, f1, w1, rfl, f3, e, m, g1, g2, g3, g4, g5, g6, g7⟩ := findKey_ok hA hki hk hes hf
                  obtain ⟨_, e', k1, k2, k3, k4⟩ := findE_key 0 hf
                  rw [Nat.sub_zero, g1] at k1
                  cases k1
                  have hm : es'[j]? = some m := by rw [← Array.getElem?_toList]; exact g2
                  have hbits := eqK_bits hk g7 k2 9999
                  have hstay : ∀ w, (Instr.keyThatStays m.key k').run P w = .ok k' w := fun w => by
                    unfold Instr.keyThatStays
                    rw [hbits]
                    rfl
                  refine OkR.vw (w' := { w with heap := w.heap.setIfInBounds p.blk (.map (es'.modify j fun e => { e with key := k' }) cl) }) φ.le_refl
                    (hR.upd hg hp (One.obj w p.blk _) (o := .map (es'.modify j fun e => { e with key := k' }) cl) (by simp [hlt]) ⟨_, rfl, ?_⟩) (v' := .tuple #[w1, .int .i64 (Int.ofNat b1)]) (.tup (.cons f3 (.cons (.int _ _) .nil))) ?_
                  · rw [Array.toList_modify]
                    exact hes.modify j m _ _ g2 ⟨hk, by rw [g5]; exact f3, by rw [← g6]⟩
                  · simp [Instr.mapEntry, hu, hchk, getObj, setObj, Sem.run, h2, f1, hm, hstay, goInt, g6]
                · rename_i hf
                  obtain ⟨q1, f1, rfl⟩ := findKey_ok hA hki hk hes hf
                  refine OkR.vw (w' := { w with heap := w.heap.setIfInBounds p.blk (.map (es'.push { key := k', val := z, born := cl }) (cl + 1)) }) φ.le_refl
                    (hR.upd hg hp (One.obj w p.blk _) (o := .map (es'.push { key := k', val := z, born := cl }) (cl + 1)) (by simp [hlt]) ⟨_, rfl, ?_⟩) (v' := .tuple #[z, .int .i64 (Int.ofNat cl)]) (.tup (.cons z5 (.cons (.int _ _) .nil))) ?_
                  · rw [Array.toList_push]
                    exact hes.append ⟨hk, z5, rfl⟩
                  · simp [Instr.mapEntry, hu, hchk, getObj, setObj, Sem.run, h2, f1, z1, goInt]
                · trivial
            · trivial
          · trivial
    · trivial
def deleteR (C : Ctx) (h : H) (d : Option TI) (m k : AV) : R :=
  match d with
  | none => .stuck 33
  | some d => (match d.d with
    | .map kt _ => (match C.ty.get kt with
      | none => .stuck 33
      | some ki => cond (okKey C ki.d k) (match m with
        | .nilm => .val (.tup []) h
        | .map id => (match h.h.get id with
          | some (.map es cl) => (match findE C ki k es 0 with
            | some (some (j, _, _)) => .val (.tup []) (h.upd id (.map (es.eraseIdx j) cl))
            | some none => .val (.tup []) (h.upd id (.map es cl))
            | none => .stuck 33)
          | _ => .stuck 33)
        | _ => .stuck 33) (.stuck 33))
    | _ => .stuck 33)
theorem delete_ok (hA : Agrees P C) (hR : RH w0 φ h w) {t ty : TypeId} {ts : Array TypeId} (ht : ts[0]? = some t) {m k : AV} {m' k' : Value} (hx : RV φ m m') (hk : RV φ k k') : OkR P w0 φ w (vN (Builtin.delete_ ts ty #[m', k'])) (deleteR C h (C.ty.get t) m k) := by
  unfold deleteR
  split
  · trivial
  · rename_i d hd
    have okd := hA.ty t d hd
    split
    · rename_i kt et he
      have hu : ∀ w, (underlying t).run P w = .ok (.map kt et) w := fun w => by rw [okd.underlying, he]
      split
      · trivial
      · rename_i ki hki
        cases hok : okKey C ki.d k with
        | false => trivial
        | true =>
          simp only [cond_true]
          have hchk : ∀ em w, (Instr.checkKey em 10000 kt k').run P w = .ok () w := fun em w => checkKey_in hA hki hk hok em 9998 w
          split
          · cases hx
            exact OkR.v (v' := .tuple #[]) hR (.tup .nil) (by simp [Builtin.delete_, ht, hu, hchk])
          · cases hx with
            | map hp =>
            rename_i id p
            split
            · rename_i es cl hg
              obtain ⟨q, o, h1, h2, es', rfl, hes⟩ := hR.at hp hg
              rw [hp] at h1
              cases h1
              have hlt := (hR.own id p hp).2
              split
              · rename_i j v1 b1 hf
                obtain ⟨q1, f1, w1, rfl, f3, e, m, g1, g2, _⟩ := findKey_ok hA hki hk hes hf
                refine OkR.vw (w' := { w with heap := w.heap.setIfInBounds p.blk (.map (es'.eraseIdxIfInBounds j) cl) }) φ.le_refl
                  (hR.upd hg hp (One.obj w p.blk _) (o := .map (es'.eraseIdxIfInBounds j) cl) (by simp [hlt]) ⟨_, rfl, ?_⟩) (v' := .tuple #[]) (.tup .nil) ?_
                · rw [Array.toList_eraseIdxIfInBounds]
                  exact hes.erase j
                · simp [Builtin.delete_, ht, hu, hchk, getObj, setObj, Sem.run, h2, f1]
              · rename_i hf
                obtain ⟨q1, f1, rfl⟩ := findKey_ok hA hki hk hes hf
                refine OkR.vw (w' := { w with heap := w.heap.setIfInBounds p.blk (.map es' cl) }) φ.le_refl
                  (hR.upd hg hp (One.obj w p.blk _) (o := .map es' cl) (by simp [hlt]) ⟨_, rfl, hes⟩) (v' := .tuple #[]) (.tup .nil) ?_
                simp [Builtin.delete_, ht, hu, hchk, getObj, setObj, Sem.run, h2, f1]
              · trivial
            · trivial
          · trivial
    · trivial
end
end
end Go.Proofs.YtiigjiaodmlfnaaGreatDoor.Am
namespace Go.Proofs.YtiigjiaodmlfnaaGreatDoor.Am
open Go.RowKit
noncomputable section
section
variable {P : Program} {w0 : Base} {φ : Phi} {h : H} {w : World} {C : Ctx} {tmps : T AV} {ρ : Operand → Value}
def setBorn (b : Nat) (v : AV) : List (AV × AV × Nat) → Option (List (AV × AV × Nat))
  | [] => none
  | e :: l => cond (Nat.beq b e.2.2) (some ((e.1, v, e.2.2) :: l)) (match setBorn b v l with
    | some m => some (e :: m)
    | none => none)
theorem setBorn_ok {b : Nat} {v : AV} {v' : Value} (hv : RV φ v v') {es : List (AV × AV × Nat)} {ms : List MapEntry} (hr : REs φ es ms) : ∀ {es2 : List (AV × AV × Nat)}, setBorn b v es = some es2 →
    ∃ i, ms.findIdx? (fun e => ((e.born : Int) == (b : Int))) = some i ∧ REs φ es2 (ms.modify i fun e => { e with val := v' }) := by
  induction hr with
  | nil => intro es2 h; cases h
  | @cons e m l k he ht ih =>
    intro es2 h
    unfold setBorn at h
    cases hb : Nat.beq b e.2.2 with
    | true =>
      rw [hb] at h
      have h' := Option.some.inj h
      subst h'
      have hb' := Nat.eq_of_beq_eq_true hb
      refine ⟨0, ?_, ?_⟩
      · rw [List.findIdx?_cons]
        have : ((m.born : Int) == (b : Int)) = true := by rw [beq_iff_eq, hb', he.2.2]
        simp [this]
      · simp only [List.modify_zero_cons]
        exact .cons ⟨he.1, hv, he.2.2⟩ ht
    | false =>
      rw [hb] at h
      simp only [cond_false] at h
      split at h
      · rename_i m2 hm2
        cases h
        obtain ⟨i, h1, h2⟩ := ih hm2
        refine ⟨i + 1, ?_, ?_⟩
        · rw [List.findIdx?_cons]
          have : ((m.born : Int) == (b : Int)) = false := by
            rw [beq_eq_false_iff_ne]
            intro e'
            have e2 : b = e.2.2 := by rw [he.2.2]; omega
            rw [e2] at hb
            simp at hb
          simp [this, h1]
        · simp only [List.modify_succ_cons]
          exact .cons he h2
      · cases h
def entStR (h : H) (m : AV) (s : Option Nat) (v : AV) : R :=
  match m with
  | .map id => (match h.h.get id with
    | some (.map es cl) => (match s with
      | some b => (match setBorn b v es with
        | some es2 => .val .unk (h.upd id (.map es2 cl))
        | none => .stuck 34)
      | none => .stuck 34)
    | _ => .stuck 34)
  | _ => .stuck 34
theorem ex_entSt_ok (hR : RH w0 φ h w) (hE : Evals φ tmps ρ) (t : TypeId) (x s y : Operand) : OkR P w0 φ w (uN (Instr.entryStore t (ρ x) (ρ s) (ρ y))) (entStR h (evalA tmps x) (natI (evalA tmps s)) (evalA tmps y)) := by
  have hx := hE x
  have hs := hE s
  have hv := hE y
  generalize evalA tmps x = ax at hx
  generalize ρ x = x' at hx ⊢
  generalize ρ y = v' at hv ⊢
  unfold entStR
  split
  · cases hx with
    | map hp =>
    rename_i id p
    split
    · rename_i es cl hg
      obtain ⟨q, o, h1, h2, es', rfl, hes⟩ := hR.at hp hg
      rw [hp] at h1
      cases h1
      have hlt := (hR.own id p hp).2
      split
      · rename_i b hb
        obtain ⟨j, hj⟩ := natI_ok hs hb
        split
        · rename_i es2 h2'
          obtain ⟨i, i1, i2⟩ := setBorn_ok hv hes h2'
          have i3 : es'.findIdx? (fun e => ((e.born : Int) == (b : Int))) = some i := by
            have := List.findIdx?_toArray (fun e : MapEntry => ((e.born : Int) == (b : Int))) es'.toList
            rw [Array.toArray_toList] at this
            rw [this]; exact i1
          refine OkR.u (w' := { w with heap := w.heap.setIfInBounds p.blk (.map (es'.modify i fun e => { e with val := v' }) cl) })
            (hR.upd hg hp (One.obj w p.blk _) (o := .map (es'.modify i fun e => { e with val := v' }) cl) (by simp [hlt]) ⟨_, rfl, by rw [Array.toList_modify]; exact i2⟩) ?_
          rw [hj]
          simp [Instr.entryStore, getObj, setObj, Sem.run, h2, asInt, asIntOf, i3]
        · trivial
      · trivial
    · trivial
  · trivial
def rangeR (h : H) (d : Option TI) (x : AV) : R :=
  match d with
  | none => .stuck 35
  | some d => (match d.d with
    | .map _ _ => (match x with
      | .nilm => .val (.ptr h.next 0) (h.new (.iter none 0 [] 0))
      | .map id => (match h.h.get id with
        | some (.map _ cl) => .val (.ptr h.next 0) (h.new (.iter (some id) cl [] cl))
        | _ => .stuck 35)
      | _ => .stuck 35)
    | _ => .stuck 35)
theorem ex_range_ok (hA : Agrees P C) (hR : RH w0 φ h w) (hE : Evals φ tmps ρ) (t : TypeId) (x : Operand) : OkR P w0 φ w (vN (Instr.range t (ρ x))) (rangeR h (C.ty.get t) (evalA tmps x)) := by
  have hx := hE x
  generalize evalA tmps x = ax at hx
  generalize ρ x = x' at hx ⊢
  have hle : ∀ p, φ.le (φ.add h.next p) := fun p => Phi.le_add hR.none_at
  unfold rangeR
  split
  · trivial
  · rename_i d hd
    have okd := hA.ty t d hd
    split
    · rename_i kt et he
      have hu : ∀ w, (underlying t).run P w = .ok (.map kt et) w := fun w => by rw [okd.underlying, he]
      split
      · cases hx
        refine OkR.vw (ψ := φ.add h.next ⟨w.heap.size, 0, 0⟩) (w' := w.alloc (.mapIter none 0 #[] 0)) (hle _) (hR.new rfl ⟨rfl, none, rfl, rfl⟩) (v' := .pointer (some ⟨w.heap.size, 0, none⟩)) (.ptr (p := ⟨w.heap.size, 0, 0⟩) (Phi.add_at _ _ _)) ?_
        simp [Instr.range, hu]
      · cases hx with
        | map hp =>
        rename_i id p
        split
        · rename_i es cl hg
          obtain ⟨q, o, h1, h2, es', rfl, hes⟩ := hR.at hp hg
          rw [hp] at h1
          cases h1
          refine OkR.vw (ψ := φ.add h.next ⟨w.heap.size, 0, 0⟩) (w' := w.alloc (.mapIter (some p.blk) cl #[] cl)) (hle _) (hR.new rfl ⟨rfl, some p.blk, rfl, p, hle _ _ _ hp, rfl⟩) (v' := .pointer (some ⟨w.heap.size, 0, none⟩)) (.ptr (p := ⟨w.heap.size, 0, 0⟩) (Phi.add_at _ _ _)) ?_
          simp [Instr.range, hu, getObj, Sem.run, h2]
        · trivial
      · trivial
    · trivial
end
end
end Go.Proofs.YtiigjiaodmlfnaaGreatDoor.Am
namespace Go.Proofs.YtiigjiaodmlfnaaGreatDoor.Am
open Go.RowKit
noncomputable section
section
variable {P : Program} {w0 : Base} {φ : Phi} {h : H} {w : World} {C : Ctx} {tmps : T AV} {ρ : Operand → Value}
theorem OkR.congr {s s' : Sem Next} {r : R} (he : s.run P w = s'.run P w) (hk : OkR P w0 φ w s' r) : OkR P w0 φ w s r := by
  cases r with
  | val v h' =>
    obtain ⟨ψ, v', w', n, a, b, c, d, e⟩ := hk
    exact ⟨ψ, v', w', n, a, b, c, he.trans d, e⟩
  | enter f args h' =>
    obtain ⟨args', a, b, c⟩ := hk
    exact ⟨args', a, b, he.trans c⟩
  | round l f nt tm as bd h' =>
    obtain ⟨p, t, a, b, c, d, e⟩ := hk
    exact ⟨p, t, a, b, c, d, he.trans e⟩
  | stuck n => trivial
def mkFn (P : Program) (f : FuncId) : Option Func :=
  match P.funcs[f]? with
  | some fn => cond (fn.body.isSome && !(fn.name == "runtime.NumGoroutine")) (some fn) none
  | none => none
structure Enters (P : Program) (C : Ctx) : Prop where
  ty : Agrees P C
  fs : ∀ f fn, C.fs.get f = some fn → mkFn P f = some fn
theorem mkFn_ok {f : FuncId} {fn : Func} (h : mkFn P f = some fn) : P.funcs[f]? = some fn ∧ fn.body.isSome = true ∧ (fn.name == "runtime.NumGoroutine") = false := by
  unfold mkFn at h
  split at h
  · rename_i g hg
    cases hc : (g.body.isSome && !(g.name == "runtime.NumGoroutine")) with
    | false => rw [hc] at h; cases h
    | true =>
      rw [hc] at h
      cases h
      simp only [Bool.and_eq_true, Bool.not_eq_true'] at hc
      exact ⟨hg, hc.1, hc.2⟩
  · cases h
def callR (C : Ctx) (h : H) (f : FuncId) (args : List AV) : R :=
  match C.fs.get f with
  | some _ => .enter f args h
  | none => .stuck 36
theorem call_run (hF : Enters P C) {f : FuncId} {fn : Func} (hg : C.fs.get f = some fn) (args : Array Value) : (callFunc f args).run P w = .ok (.enter f args) w := by
  obtain ⟨h1, h2, h3⟩ := mkFn_ok (hF.fs f fn hg)
  have h4 : fn.body.isNone = false := by cases hb : fn.body <;> simp_all
  have h5 : fn.name ≠ "runtime.NumGoroutine" := by simpa using h3
  have h6 : fn.body ≠ none := fun e => by rw [e] at h4; cases h4
  simp [callFunc, h1, h5, h6]
def yieldR (h : H) (l : Nat) (args : List AV) (b : Option Blk) : R :=
  match b with
  | some (.loop _ _ fn nt tmps ps as bd _) => cond (Nat.beq args.length ps.size && ps.toList.all fun p => Nat.blt p nt) (.round l fn nt ((ps.toList.zip args).foldl (fun t x => t.put x.1 x.2) tmps) as bd h) (.stuck 37)
  | _ => .stuck 37
def invokeR (C : Ctx) (h : H) (f : AV) (args : List AV) : R :=
  match f with
  | .fn g a b => callR C h g (a ++ args ++ b)
  | .yld l => yieldR h l args (h.h.get l)
  | _ => .stuck 38
theorem RT.put {tm : T AV} {a : Array Value} (h : RT φ tm a) {d : Nat} {v : AV} {v' : Value} (hd : d < a.size) (hv : RV φ v v') : RT φ (tm.put d v) (a.setIfInBounds d v') := fun t av e => by
  rcases T.get_put e with ⟨rfl, rfl⟩ | ⟨hne, e⟩
  · refine ⟨by simpa using hd, ?_⟩
    rw [Array.getD_eq_getD_getElem?, Array.getElem?_setIfInBounds_self_of_lt hd]
    exact hv
  · obtain ⟨x, y⟩ := h t av e
    refine ⟨by simpa using x, ?_⟩
    rw [Array.getD_eq_getD_getElem?, Array.getElem?_setIfInBounds_ne (Ne.symm hne), ← Array.getD_eq_getD_getElem?]
    exact y
theorem RT.puts : ∀ (ps : List Nat) {args : List AV} {vs : List Value} {tm : T AV} {a : Array Value}, RL φ args vs → RT φ tm a → (∀ p ∈ ps, p < a.size) →
    RT φ ((ps.zip args).foldl (fun t x => t.put x.1 x.2) tm) ((ps.zip vs).foldl (fun t x => t.setIfInBounds x.1 x.2) a) ∧ ((ps.zip vs).foldl (fun t x => t.setIfInBounds x.1 x.2) a).size = a.size
  | [], _, _, _, _, _, h, _ => ⟨h, rfl⟩
  | _ :: _, _, _, _, _, .nil, h, _ => ⟨h, rfl⟩
  | p :: ps, _, _, _, a, .cons hv ht, h, hp => by
    have h1 := h.put (hp p List.mem_cons_self) hv
    obtain ⟨r1, r2⟩ := RT.puts ps ht h1 (fun q hq => by simpa using hp q (List.mem_cons_of_mem _ hq))
    exact ⟨r1, by simpa using r2⟩
theorem invoke_ok (hF : Enters P C) (hR : RH w0 φ h w) {f : AV} {f' : Value} {args : List AV} {args' : List Value} (hf : RV φ f f') (ha : RL φ args args') :
    OkR P w0 φ w (do let d ← Deferred.ofValue f' args'.toArray; invoke d.target d.args) (invokeR C h f args) := by
  unfold invokeR
  split
  · cases hf with
    | fn h1 h2 =>
    rename_i g a b a' b'
    unfold callR
    split
    · rename_i fn hg
      refine ⟨a' ++ args' ++ b', hR, (h1.append ha).append h2, ?_⟩
      have := call_run (w := w) hF hg (a'.toArray ++ args'.toArray ++ b'.toArray)
      simp only [Deferred.ofValue, Sem.run_bind, Sem.run_pure, Result.andThen_ok, invoke]
      rw [this]
      simp
    · trivial
  · cases hf with
    | yld hp =>
    rename_i l p
    unfold yieldR
    split
    · rename_i s pend fn nt tm ps as bd df hg
      obtain ⟨q, o, h1, h2, tm', d', rfl, h4, h5, h6⟩ := hR.at hp hg
      rw [hp] at h1
      cases h1
      cases hc : (Nat.beq args.length ps.size && ps.toList.all fun p => Nat.blt p nt) with
      | false => trivial
      | true =>
        simp only [Bool.and_eq_true, List.all_eq_true] at hc
        have c1 := Nat.eq_of_beq_eq_true hc.1
        obtain ⟨r1, r2⟩ := RT.puts ps.toList ha h5 (fun q hq => by rw [h4]; exact Nat.le_of_ble_eq_true (hc.2 q hq))
        refine ⟨p, _, hR, hp, r2.trans h4, r1, ?_⟩
        have hsz : args'.length = ps.size := by rw [← ha.length]; exact c1
        simp [Deferred.ofValue, invoke, Instr.yield, Instr.getLoop, getObj, Sem.run, h2, hsz]
        have hz : (ps.zip args'.toArray).size = ps.size := by simp [hsz]
        rw [← hz, ← Array.foldl_toList]
        congr 1
        simp
    · trivial
  · trivial
end
end
end Go.Proofs.YtiigjiaodmlfnaaGreatDoor.Am
namespace Go.Proofs.YtiigjiaodmlfnaaGreatDoor.Am
open Go.RowKit
noncomputable section
section
variable {P : Program} {w0 : Base} {φ : Phi} {h : H} {w : World} {C : Ctx} {tmps : T AV} {ρ : Operand → Value}
def bornE (b : Nat) : List (AV × AV × Nat) → Option (AV × AV × Nat)
  | [] => none
  | e :: l => cond (Nat.beq e.2.2 b) (some e) (bornE b l)
theorem bornE_ok {b : Nat} {es : List (AV × AV × Nat)} {ms : List MapEntry} (hr : REs φ es ms) : ∀ {e : AV × AV × Nat}, bornE b es = some e → ∃ m, ms.find? (fun m => m.born == b) = some m ∧ RE φ e m := by
  induction hr with
  | nil => intro e h; cases h
  | @cons e' m l k he ht ih =>
    intro e h
    unfold bornE at h
    cases hb : Nat.beq e'.2.2 b with
    | true =>
      rw [hb] at h
      have h' := Option.some.inj h
      subst h'
      have hb' := Nat.eq_of_beq_eq_true hb
      refine ⟨m, ?_, he⟩
      rw [List.find?_cons_of_pos]
      rw [beq_iff_eq, ← he.2.2]
      exact hb'
    | false =>
      rw [hb] at h
      obtain ⟨m', h1, h2⟩ := ih h
      refine ⟨m', ?_, h2⟩
      rw [List.find?_cons_of_neg]
      · exact h1
      · rw [beq_iff_eq, ← he.2.2]
        intro e2
        rw [e2] at hb
        simp at hb
def entryR (h : H) (x : AV) : R :=
  match x with
  | .ptr id off => cond (Nat.beq off 0) (match h.h.get id with
    | some (.iter (some mid) _ seen last) => (match h.h.get mid with
      | some (.map es cl) => (match seen.getLast? with
        | some b => cond (Nat.beq cl last) (match bornE b es with
          | some e => .val (.tup [e.1, e.2.1]) h
          | none => .stuck 50) (.stuck 50)
        | none => .stuck 50)
      | _ => .stuck 50)
    | _ => .stuck 50) (.stuck 50)
  | _ => .stuck 50
theorem ex_entry_ok (hR : RH w0 φ h w) (hE : Evals φ tmps ρ) (x : Operand) : OkR P w0 φ w (vN (Instr.entry (ρ x))) (entryR h (evalA tmps x)) := by
  have hx := hE x
  generalize evalA tmps x = ax at hx
  generalize ρ x = x' at hx ⊢
  unfold entryR
  split
  · cases hx with
    | ptr hp =>
    rename_i id off p
    cases h0 : Nat.beq off 0 with
    | false => trivial
    | true =>
      have := Nat.eq_of_beq_eq_true h0
      subst this
      simp only [cond_true]
      split
      · rename_i mid since seen last hg
        obtain ⟨q, o, h1, h2, hsh, m', rfl, r, h3, rfl⟩ := hR.at hp hg
        rw [hp] at h1
        cases h1
        split
        · rename_i es cl hg2
          obtain ⟨q2, o2, k1, k2, es', rfl, hes⟩ := hR.at h3 hg2
          rw [h3] at k1
          cases k1
          split
          · rename_i b hb
            cases hc : Nat.beq cl last with
            | false => trivial
            | true =>
              have hcl := Nat.eq_of_beq_eq_true hc
              subst hcl
              simp only [cond_true]
              split
              · rename_i e he
                obtain ⟨m, f1, f2⟩ := bornE_ok hes he
                have f3 : es'.find? (fun m => m.born == b) = some m := by rw [← Array.find?_toList]; exact f1
                have hback : seen.toArray.back? = some b := by simpa using hb
                refine OkR.v (v' := .tuple #[m.key, m.val]) hR (.tup (.cons f2.1 (.cons f2.2.1 .nil))) ?_
                have ha : p.addr 0 = ⟨p.blk, 0, none⟩ := by unfold PB.addr; rw [hsh]
                rw [ha]
                simp [Instr.entry, getObj, Sem.run, h2, k2, hback, f3]
              · trivial
          · trivial
        · trivial
      · trivial
  · trivial
end
end
end Go.Proofs.YtiigjiaodmlfnaaGreatDoor.Am
namespace Go.Proofs.YtiigjiaodmlfnaaGreatDoor.Am
open Go.RowKit
noncomputable section
section
variable {P : Program} {w0 : Base} {φ : Phi} {h : H} {w : World} {C : Ctx} {tmps : T AV} {ρ : Operand → Value}
def memN (b : Nat) : List Nat → Bool
  | [] => false
  | a :: l => cond (Nat.beq b a) true (memN b l)
theorem memN_ok (b : Nat) : ∀ l : List Nat, memN b l = l.contains b
  | [] => rfl
  | a :: l => by
    unfold memN
    rw [memN_ok b l, List.contains_cons]
    by_cases h : b = a
    · subst h; simp
    · have : Nat.beq b a = false := by
        cases e : Nat.beq b a with
        | false => rfl
        | true => exact absurd (Nat.eq_of_beq_eq_true e) h
      rw [this]
      simp [h]
def leftE (seen : List Nat) : List (AV × AV × Nat) → List (AV × AV × Nat)
  | [] => []
  | e :: l => cond (memN e.2.2 seen) (leftE seen l) (e :: leftE seen l)
theorem leftE_ok {seen : List Nat} {es : List (AV × AV × Nat)} {ms : List MapEntry} (hr : REs φ es ms) : REs φ (leftE seen es) (ms.filter fun m => !seen.contains m.born) := by
  induction hr with
  | nil => exact .nil
  | @cons e m l k he ht ih =>
    unfold leftE
    rw [memN_ok, he.2.2, List.filter_cons]
    cases seen.contains m.born with
    | true => exact ih
    | false => exact .cons he ih
def anyOld (last : Nat) : List (AV × AV × Nat) → Bool
  | [] => false
  | e :: l => cond (Nat.blt e.2.2 last) true (anyOld last l)
theorem anyOld_ok {last : Nat} {es : List (AV × AV × Nat)} {ms : List MapEntry} (hr : REs φ es ms) (h : anyOld last es = true) : (ms.all fun m => decide (m.born ≥ last)) = false := by
  induction hr with
  | nil => cases h
  | @cons e m l k he ht ih =>
    unfold anyOld at h
    rw [List.all_cons]
    cases hb : Nat.blt e.2.2 last with
    | true =>
      have hb' : e.2.2 < last := Nat.le_of_ble_eq_true hb
      rw [he.2.2] at hb'
      have : decide (m.born ≥ last) = false := decide_eq_false (by omega)
      rw [this]
      rfl
    | false =>
      rw [hb] at h
      rw [ih h]
      simp
def stepOk (seen : List Nat) (last : Nat) (es : List (AV × AV × Nat)) : Bool := seen.isEmpty || es.isEmpty || anyOld last es
theorem getObj_run {r : Nat} {o : Obj} (h : w.heap[r]? = some o) (hne : ∀ c e f, o ≠ .cells c e f) : (getObj r).run P w = .ok o w := by
  unfold getObj
  cases o <;> first | (exact absurd rfl (hne _ _ _)) | (simp only [Sem.run, h])
theorem next_none {r m : Nat} {since last cl : Nat} {seen : Array Nat} {es : Array MapEntry} {ty : TypeId} (h1 : w.heap[r]? = some (.mapIter (some m) since seen last)) (h2 : w.heap[m]? = some (.map es cl))
    (hg : (!seen.isEmpty && !es.isEmpty && es.all fun e => decide (e.born ≥ last)) = false) (hl : (es.filter fun e => !seen.contains e.born) = #[]) :
    (Instr.next (.pointer (some ⟨r, 0, none⟩)) false ty).run P w = .ok (.tuple #[.bool false]) w := by
  have g1 := getObj_run (P := P) h1 (fun _ _ _ h => by cases h)
  have g2 := getObj_run (P := P) h2 (fun _ _ _ h => by cases h)
  unfold Instr.next
  simp only [Sem.run_bind, g1, g2, Result.andThen_ok, hg, hl]
  simp [Question.forced]
theorem next_one {r m : Nat} {since last cl : Nat} {seen : Array Nat} {es : Array MapEntry} {e : MapEntry} {ty : TypeId} (h1 : w.heap[r]? = some (.mapIter (some m) since seen last)) (h2 : w.heap[m]? = some (.map es cl))
    (hg : (!seen.isEmpty && !es.isEmpty && es.all fun e => decide (e.born ≥ last)) = false) (hl : (es.filter fun e => !seen.contains e.born) = #[e]) (hb : e.born < since) :
    (Instr.next (.pointer (some ⟨r, 0, none⟩)) false ty).run P w = .ok (.tuple #[.bool true, e.key, e.val]) { w with heap := w.heap.setIfInBounds r (.mapIter (some m) since (seen.push e.born) cl) } := by
  have g1 := getObj_run (P := P) h1 (fun _ _ _ h => by cases h)
  have g2 := getObj_run (P := P) h2 (fun _ _ _ h => by cases h)
  have f1 : (#[e].filter fun e => decide (e.born < since)) = #[e] := by simp [hb]
  have f2 : (#[e].filter fun e => decide (e.born ≥ since)) = #[] := by simp; omega
  unfold Instr.next
  simp only [Sem.run_bind, g1, g2, Result.andThen_ok, hg, hl, f1, f2]
  simp [Question.forced, setObj, Sem.run, h1]
def nextM (h : H) (id mid since : Nat) (seen : List Nat) (cl : Nat) : List (AV × AV × Nat) → R
  | [] => .val (.tup [.bool false]) h
  | [e] => cond (Nat.blt e.2.2 since) (.val (.tup [.bool true, e.1, e.2.1]) (h.upd id (.iter (some mid) since (seen ++ [e.2.2]) cl))) (.stuck 51)
  | _ => .stuck 51
def nextR (h : H) (x : AV) (s : Bool) : R :=
  match x with
  | .ptr id off => cond (Nat.beq off 0 && !s) (match h.h.get id with
    | some (.iter none _ _ _) => .val (.tup [.bool false]) h
    | some (.iter (some mid) since seen last) => (match h.h.get mid with
      | some (.map es cl) => cond (stepOk seen last es) (nextM h id mid since seen cl (leftE seen es)) (.stuck 51)
      | _ => .stuck 51)
    | _ => .stuck 51) (.stuck 51)
  | _ => .stuck 51
theorem ex_next_ok (hR : RH w0 φ h w) (hE : Evals φ tmps ρ) (x : Operand) (s : Bool) (ty : TypeId) : OkR P w0 φ w (vN (Instr.next (ρ x) s ty)) (nextR h (evalA tmps x) s) := by
  have hx := hE x
  generalize evalA tmps x = ax at hx
  generalize ρ x = x' at hx ⊢
  unfold nextR
  split
  · cases hx with
    | ptr hp =>
    rename_i id off p
    cases h0 : (Nat.beq off 0 && !s) with
    | false => trivial
    | true =>
      simp only [Bool.and_eq_true, Bool.not_eq_true'] at h0
      have := Nat.eq_of_beq_eq_true h0.1
      subst this
      have hs := h0.2
      subst hs
      simp only [cond_true]
      split
      · rename_i a1 a2 a3 hg
        obtain ⟨q, o, h1, h2, hsh, m', rfl, rfl⟩ := hR.at hp hg
        rw [hp] at h1
        cases h1
        have ha : p.addr 0 = ⟨p.blk, 0, none⟩ := by unfold PB.addr; rw [hsh]
        rw [ha]
        exact OkR.v (v' := .tuple #[.bool false]) hR (.tup (.cons (.bool _) .nil)) (by simp [Instr.next, getObj, Sem.run, h2])
      · rename_i mid since seen last hg
        obtain ⟨q, o, h1, h2, hsh, m', rfl, r, h3, rfl⟩ := hR.at hp hg
        rw [hp] at h1
        cases h1
        have ha : p.addr 0 = ⟨p.blk, 0, none⟩ := by unfold PB.addr; rw [hsh]
        have hlt := (hR.own id p hp).2
        rw [ha]
        split
        · rename_i es cl hg2
          obtain ⟨q2, o2, k1, k2, es', rfl, hes⟩ := hR.at h3 hg2
          rw [h3] at k1
          cases k1
          cases hok : stepOk seen last es with
          | false => trivial
          | true =>
            simp only [cond_true]
            have hguard : (!seen.toArray.isEmpty && !es'.isEmpty && es'.all fun e => decide (e.born ≥ last)) = false := by
              unfold stepOk at hok
              simp only [Bool.or_eq_true] at hok
              rcases hok with (h | h) | h
              · have : seen.toArray.isEmpty = true := by simpa using h
                rw [this]; rfl
              · have he : es'.isEmpty = true := by
                  have hl := hes.length
                  have : es = [] := by simpa using h
                  rw [this] at hl
                  simp only [List.length_nil, Array.length_toList] at hl
                  simp [Array.isEmpty, ← hl]
                rw [he]; simp
              · have := anyOld_ok hes h
                rw [Array.all_toList] at this
                rw [this]; simp
            have hleft := leftE_ok (seen := seen) hes
            have hl2 : (es'.filter fun e => !seen.toArray.contains e.born).toList = es'.toList.filter fun m => !seen.contains m.born := by
              rw [Array.toList_filter]
              congr 1
              funext m
              simp
            rw [← hl2] at hleft
            generalize hla : (es'.filter fun e => !seen.toArray.contains e.born) = la at hleft
            cases hle : leftE seen es with
            | nil =>
              rw [hle] at hleft
              have : la = #[] := by
                have hl := hleft.length
                simp only [List.length_nil, Array.length_toList] at hl
                exact Array.eq_empty_of_size_eq_zero hl.symm
              subst this
              exact OkR.v (v' := .tuple #[.bool false]) hR (.tup (.cons (.bool _) .nil)) (next_none h2 k2 hguard hla)
            | cons e l =>
              cases l with
              | cons e2 l2 => trivial
              | nil =>
                rw [hle] at hleft
                show OkR P w0 φ w _ (cond (Nat.blt e.2.2 since) (.val (.tup [.bool true, e.1, e.2.1]) (h.upd id (.iter (some mid) since (seen ++ [e.2.2]) cl))) (.stuck 51))
                cases hb : Nat.blt e.2.2 since with
                | false => trivial
                | true =>
                  have hb' : e.2.2 < since := Nat.le_of_ble_eq_true hb
                  obtain ⟨m, hm⟩ : ∃ m, la = #[m] := by
                    have hl := hleft.length
                    simp only [List.length_singleton, Array.length_toList] at hl
                    exact Array.size_eq_one_iff.1 hl.symm
                  subst hm
                  obtain ⟨r1, r2, r3⟩ : RE φ e m := by
                    cases hleft with
                    | cons h _ => exact h
                  simp only [cond_true]
                  refine OkR.vw φ.le_refl (hR.upd hg hp (One.obj w p.blk _) (o := .mapIter (some r.blk) since (seen.toArray.push m.born) cl) (by simp [hlt]) ⟨hsh, some r.blk, ?_, r, h3, rfl⟩) (v' := .tuple #[.bool true, m.key, m.val]) (.tup (.cons (.bool _) (.cons r1 (.cons r2 .nil)))) (next_one h2 k2 hguard hla (by rw [← r3]; exact hb'))
                  rw [r3]
                  simp
        · trivial
      · trivial
  · trivial
end
end
end Go.Proofs.YtiigjiaodmlfnaaGreatDoor.Am
namespace Go.Proofs.YtiigjiaodmlfnaaGreatDoor.Am
open Go.RowKit
noncomputable section
section
variable {P : Program} {w0 : Base} {φ : Phi} {h : H} {w : World} {C : Ctx} {tmps : T AV} {ρ : Operand → Value}
def builtinR (C : Ctx) (h : H) (b : Builtin) (ts : Array TypeId) (args : List AV) : R :=
  match b with
  | .len => (match args with
    | [x] => (match ts[0]? with
      | some t => lenR h (C.ty.get t) x
      | none => .stuck 40)
    | _ => .stuck 40)
  | .append => (match args with
    | [s, x] => (match ts.toList with
      | [t, tx] => appendR C h (C.ty.get t) (C.ty.get tx) s x
      | _ => .stuck 41)
    | _ => .stuck 41)
  | .copy => (match args with
    | [d, x] => (match ts[0]? with
      | some t => copyR C h (C.ty.get t) d x
      | none => .stuck 42)
    | _ => .stuck 42)
  | .clear => (match args with
    | [x] => (match ts[0]? with
      | some t => clearR C h (C.ty.get t) x
      | none => .stuck 43)
    | _ => .stuck 43)
  | .delete => (match args with
    | [m, k] => (match ts[0]? with
      | some t => deleteR C h (C.ty.get t) m k
      | none => .stuck 44)
    | _ => .stuck 44)
  | .max => (match args with
    | [x, y] => mmR h true x y
    | _ => .stuck 45)
  | .min => (match args with
    | [x, y] => mmR h false x y
    | _ => .stuck 45)
  | _ => .stuck 46
theorem builtin_ok (hA : Agrees P C) (hR : RH w0 φ h w) (b : Builtin) (ts : Array TypeId) (ty : TypeId) (cs : Array Bool) {args : List AV} {args' : List Value} (ha : RL φ args args') :
    OkR P w0 φ w (builtin b ts ty cs args'.toArray) (builtinR C h b ts args) := by
  unfold builtinR
  split
  · split
    · cases ha with
      | cons h1 t1 =>
      cases t1
      split
      · rename_i t ht
        exact len_ok hA hR ht h1
      · trivial
    · trivial
  · split
    · cases ha with
      | cons h1 t1 =>
      cases t1 with
      | cons h2 t2 =>
      cases t2
      split
      · rename_i t tx ht
        obtain rfl : ts = #[t, tx] := Array.toList_inj.1 ht
        exact append_ok hA hR h1 h2
      · trivial
    · trivial
  · split
    · cases ha with
      | cons h1 t1 =>
      cases t1 with
      | cons h2 t2 =>
      cases t2
      split
      · rename_i t ht
        exact copy_ok hA hR ht h1 h2
      · trivial
    · trivial
  · split
    · cases ha with
      | cons h1 t1 =>
      cases t1
      split
      · rename_i t ht
        exact clear_ok hA hR ht h1
      · trivial
    · trivial
  · split
    · cases ha with
      | cons h1 t1 =>
      cases t1 with
      | cons h2 t2 =>
      cases t2
      split
      · rename_i t ht
        exact delete_ok hA hR ht h1 h2
      · trivial
    · trivial
  · split
    · cases ha with
      | cons h1 t1 =>
      cases t1 with
      | cons h2 t2 =>
      cases t2
      exact max_ok hR h1 h2
    · trivial
  · split
    · cases ha with
      | cons h1 t1 =>
      cases t1 with
      | cons h2 t2 =>
      cases t2
      exact min_ok hR h1 h2
    · trivial
  · trivial
def ccallR (C : Ctx) (h : H) (tmps : T AV) (c : Call) : R :=
  match c.callee with
  | .builtin b => builtinR C h b c.argTypes (evalL tmps c.args.toList)
  | .value f => invokeR C h (evalA tmps f) (evalL tmps c.args.toList)
  | .invoke _ _ => .stuck 47
theorem map_args (ρ : Operand → Value) (a : Array Operand) : a.map ρ = (a.toList.map ρ).toArray := by
  apply Array.toList_inj.1
  simp
theorem ccall_ok (hF : Enters P C) (hR : RH w0 φ h w) (hE : Evals φ tmps ρ) (c : Call) (ty : TypeId) :
    OkR P w0 φ w (do let d ← resolve ρ c ty; invoke d.target d.args) (ccallR C h tmps c) := by
  unfold ccallR
  split
  · rename_i b hb
    have := builtin_ok hF.ty hR b c.argTypes ty (c.args.map fun | .const _ => true | _ => false) (hE.list c.args.toList)
    refine OkR.congr ?_ this
    unfold resolve
    rw [hb]
    simp only [Sem.run_bind, Sem.run_pure, Result.andThen_ok, invoke, map_args]
    rfl
  · rename_i f hf
    have := invoke_ok hF hR (hE f) (hE.list c.args.toList)
    refine OkR.congr ?_ this
    unfold resolve
    rw [hf]
    simp only [map_args]
  · trivial
def execR (C : Ctx) (h : H) (tmps : T AV) (o : Op) : R :=
  match o with
  | .move x => ex_move h tmps x
  | .assign x => ex_move h tmps x
  | .pick c a b => ex_pick h tmps c a b
  | .alloc e => allocR h (C.ty.get e)
  | .box _ x => boxR h (evalA tmps x)
  | .build t ps => buildR C h (C.ty.get t) (evalP tmps ps.toList)
  | .buildSlice t n ps => buildSliceR C h (C.ty.get t) n (evalP tmps ps.toList)
  | .load t a => loadR C h t (evalA tmps a)
  | .store t a x => storeR C h t (evalA tmps x) (evalA tmps a)
  | .nilCheck x => nilR h (evalA tmps x)
  | .binOp op t x y _ => binR C h op t (evalA tmps x) (evalA tmps y)
  | .unOp op _ x => unR h op (evalA tmps x)
  | .convert s d x => convR C h (Nat.beq s d) (C.ty.get s) (C.ty.get d) (evalA tmps x)
  | .makeFunc f a b => makeFuncR h f (evalL tmps a.toList) (evalL tmps b.toList)
  | .makeMap t r => cond (hintOk (C.ty.get t) (evalO tmps r)) (makeMapR h) (.stuck 23)
  | .makeSlice t l c => makeSliceR C h (C.ty.get t) (natI (evalA tmps l)) (natI (evalA tmps c))
  | .slice t x lo hi mx => sliceR C h (C.ty.get t) (evalA tmps x) (evalO tmps lo) (evalO tmps hi) (evalO tmps mx)
  | .fieldAddr s x f => fieldAddrR C h (C.ty.get s) f (evalA tmps x)
  | .field s x f => fieldR C h (C.ty.get s) f (evalA tmps x)
  | .indexAddr t x ix => indexAddrR C h (C.ty.get t) (evalA tmps x) (natI (evalA tmps ix))
  | .index t x ix => indexR C h (C.ty.get t) (evalA tmps x) (natI (evalA tmps ix))
  | .lookup t x ix ok => lookupR C h (C.ty.get t) (evalA tmps x) (evalA tmps ix) ok
  | .mapUpdate t m k x => mapUpdR C h (C.ty.get t) (evalA tmps m) (evalA tmps k) (evalA tmps x)
  | .insert t m k x => mapUpdR C h (C.ty.get t) (evalA tmps m) (evalA tmps k) (evalA tmps x)
  | .mapEntry t m k => mapEntR C h (C.ty.get t) (evalA tmps m) (evalA tmps k)
  | .entryStore _ m s x => entStR h (evalA tmps m) (natI (evalA tmps s)) (evalA tmps x)
  | .range t x => rangeR h (C.ty.get t) (evalA tmps x)
  | .next it s => nextR h (evalA tmps it) s
  | .entry it => entryR h (evalA tmps it)
  | .extract t i => extractR h i (evalA tmps t)
  | .call c => ccallR C h tmps c
  | _ => .stuck 48
theorem exec_ok (hF : Enters P C) (hR : RH w0 φ h w) (hE : Evals φ tmps ρ) (o : Oper) : OkR P w0 φ w (execOp ρ o) (execR C h tmps o.op) := by
  have hA := hF.ty
  cases hop : o.op with
  | nilCheck x => exact ex_nilCheck_ok hR hE o x hop
  | move x => unfold execOp; rw [hop]; exact ex_move_ok hR hE x
  | assign x => unfold execOp; rw [hop]; exact ex_move_ok hR hE x
  | pick c a b => unfold execOp; rw [hop]; exact ex_pick_ok hR hE c a b
  | alloc e => unfold execOp; rw [hop]; exact ex_alloc_ok hA hR e
  | box e x => unfold execOp; rw [hop]; exact ex_box_ok hR hE e x
  | build t ps => unfold execOp; rw [hop]; exact ex_build_ok hA hR hE t ps
  | buildSlice t n ps => unfold execOp; rw [hop]; exact ex_buildSlice_ok hA hR hE t n ps
  | load t a => unfold execOp; rw [hop]; exact ex_load_ok hA hR hE t a
  | store t a x => unfold execOp; rw [hop]; exact ex_store_ok hA hR hE t a x
  | binOp op t x y u => unfold execOp; rw [hop]; exact ex_binOp_ok hA hR hE op t x y
  | unOp op t x => unfold execOp; rw [hop]; exact ex_unOp_ok hR hE op x
  | convert s d x => unfold execOp; rw [hop]; exact ex_convert_ok hA hR hE s d x
  | makeFunc f a b => unfold execOp; rw [hop]; exact ex_makeFunc_ok hR hE f a b
  | makeMap t r => unfold execOp; rw [hop]; exact ex_makeMap_ok hA hR hE t r
  | makeSlice t l c => unfold execOp; rw [hop]; exact ex_makeSlice_ok hA hR hE t l c
  | slice t x lo hi mx => unfold execOp; rw [hop]; exact ex_slice_ok hA hR hE t x lo hi mx
  | fieldAddr s x f => unfold execOp; rw [hop]; exact ex_fieldAddr_ok hA hR hE s x f
  | field s x f => unfold execOp; rw [hop]; exact ex_field_ok hA hR hE s x f
  | indexAddr t x ix => unfold execOp; rw [hop]; exact ex_indexAddr_ok hA hR hE t x ix
  | index t x ix => unfold execOp; rw [hop]; exact ex_index_ok hA hR hE t x ix
  | lookup t x ix ok => unfold execOp; rw [hop]; exact ex_lookup_ok hA hR hE t x ix ok
  | mapUpdate t m k x => unfold execOp; rw [hop]; exact ex_mapUpd_ok hA hR hE t m k x
  | insert t m k x => unfold execOp; rw [hop]; exact ex_mapUpd_ok hA hR hE t m k x
  | mapEntry t m k => unfold execOp; rw [hop]; exact ex_mapEnt_ok hA hR hE t m k
  | entryStore t m s x => unfold execOp; rw [hop]; exact ex_entSt_ok hR hE t m s x
  | range t x => unfold execOp; rw [hop]; exact ex_range_ok hA hR hE t x
  | next it s => unfold execOp; rw [hop]; exact ex_next_ok hR hE it s o.type
  | entry it => unfold execOp; rw [hop]; exact ex_entry_ok hR hE it
  | extract t i => unfold execOp; rw [hop]; exact ex_extract_ok hR hE t i
  | call c => unfold execOp; rw [hop]; exact ccall_ok hF hR hE c o.type
  | _ => trivial
end
end
end Go.Proofs.YtiigjiaodmlfnaaGreatDoor.Am
namespace Go.Proofs.YtiigjiaodmlfnaaGreatDoor.Am
open Go.RowKit
noncomputable section
section
variable {P : Program} {fn : FuncId} {tm : Array Value} {k : List Item} {df : List Deferred} {rd : Option Nat} {cs : List Frame} {w : World}
def mkF (fn : FuncId) (tm : Array Value) (todo : List Item) (df : List Deferred) (rd : Option Nat) : Frame := { fn, tmps := tm, todo, defers := df, mode := .run, kind := .normal, roundOf := rd }
theorem st_skip : step P (lone (mkF fn tm (.code .skip :: k) df rd) cs w) = .next (lone (mkF fn tm k df rd) cs w) := step_lone_go (by simp [stepG, stepG.exec, mkF])
theorem st_label {l : Nat} : step P (lone (mkF fn tm (.code (.label l) :: k) df rd) cs w) = .next (lone (mkF fn tm k df rd) cs w) := step_lone_go (by simp [stepG, stepG.exec, mkF])
theorem st_inBlock {id : Nat} : step P (lone (mkF fn tm (.inBlock id :: k) df rd) cs w) = .next (lone (mkF fn tm k df rd) cs w) := step_lone_go (by simp [stepG, stepG.exec, mkF])
theorem st_inScope {c : Code} : step P (lone (mkF fn tm (.inScope c :: k) df rd) cs w) = .next (lone (mkF fn tm k df rd) cs w) := step_lone_go (by simp [stepG, stepG.exec, mkF])
theorem st_seq {x y : Code} : step P (lone (mkF fn tm (.code (.seq x y) :: k) df rd) cs w) = .next (lone (mkF fn tm (.code x :: .code y :: k) df rd) cs w) := step_lone_go (by simp [stepG, stepG.exec, mkF])
theorem st_block {id : Nat} {c : Code} : step P (lone (mkF fn tm (.code (.block id c) :: k) df rd) cs w) = .next (lone (mkF fn tm (.code c :: .inBlock id :: k) df rd) cs w) := step_lone_go (by simp [stepG, stepG.exec, mkF])
theorem st_loop {c : Code} : step P (lone (mkF fn tm (.code (.loop c) :: k) df rd) cs w) = .next (lone (mkF fn tm (.code c :: .inLoop c :: k) df rd) cs w) := step_lone_go (by simp [stepG, stepG.exec, mkF])
theorem st_inLoop {c : Code} : step P (lone (mkF fn tm (.inLoop c :: k) df rd) cs w) = .next (lone (mkF fn tm (.code c :: .inLoop c :: k) df rd) cs w) := step_lone_go (by simp [stepG, stepG.exec, mkF])
theorem st_scope {c : Code} : step P (lone (mkF fn tm (.code (.scope c) :: k) df rd) cs w) = .next (lone (mkF fn tm (.code c :: .inScope c :: k) df rd) cs w) := step_lone_go (by simp [stepG, stepG.exec, mkF])
theorem st_exit {id : Nat} {k' : List Item} (h : exitTo id k = some k') : step P (lone (mkF fn tm (.code (.exit id) :: k) df rd) cs w) = .next (lone (mkF fn tm k' df rd) cs w) := step_lone_go (by simp [stepG, stepG.exec, mkF, h])
theorem st_goto {l : Nat} {k' : List Item} (h : gotoIn l k = some k') : step P (lone (mkF fn tm (.code (.goto l) :: k) df rd) cs w) = .next (lone (mkF fn tm k' df rd) cs w) := step_lone_go (by simp [stepG, stepG.exec, mkF, h])
theorem st_cond {c : Operand} {x y : Code} {t : Bool} (h : (mkF fn tm k df rd).eval c = .bool t) : step P (lone (mkF fn tm (.code (.cond c x y) :: k) df rd) cs w) = .next (lone (mkF fn tm (.code (if t then x else y) :: k) df rd) cs w) :=
  step_lone_go (by
    have h' : (mkF fn tm (.code (.cond c x y) :: k) df rd).eval c = .bool t := by rw [← h]; cases c <;> rfl
    unfold mkF at h' ⊢
    simp [stepG, stepG.exec, h'])
theorem st_region {id : Nat} {ops : Array Oper} : step P (lone (mkF fn tm (.code (.region id ops false) :: k) df rd) cs w) = .next (lone (mkF fn tm (.inRegion ops (List.range ops.size) :: k) df rd) cs w) := step_lone_go (by simp [stepG, stepG.exec, mkF])
theorem st_region_draw {id : Nat} {ops : Array Oper} : step P (lone (mkF fn tm (.code (.region id ops true) :: k) df rd) cs w) =
    .next (lone (mkF fn tm (.inRegion ops (Region.schedule (P.follows .mixedOrders) ops (w.tape w.drawn (.order fn id))) :: k) df rd) cs { w with drawn := w.drawn + 1 }) :=
  step_lone_go (by simp [stepG, stepG.exec, mkF, choose, Sem.run, Question.forced, Question.cut])
theorem st_region_end {ops : Array Oper} : step P (lone (mkF fn tm (.inRegion ops [] :: k) df rd) cs w) = .next (lone (mkF fn tm k df rd) cs w) := step_lone_go (by simp [stepG, stepG.exec, mkF])
end
end
end Go.Proofs.YtiigjiaodmlfnaaGreatDoor.Am
