/-
  A machine of this session's own that runs calls of the program on values that are known in part, and its proof, part 3 of 4: what it answers, the model answers.
-/
import Derived.Test.YtiigjiaodmlfnaaGreatDoorA2
import Derived.Orders
set_option linter.unusedVariables false
set_option linter.unusedSimpArgs false
namespace Go.Proofs.YtiigjiaodmlfnaaGreatDoor.Am
open Go.RowKit
noncomputable section
section
variable {P : Program} {fn : FuncId} {tm : Array Value} {k : List Item} {df : List Deferred} {rd : Option Nat} {cs : List Frame} {w : World}
def putT (tm : Array Value) (d : Option Tmp) (v : Value) : Array Value := match d with | some d => tm.setIfInBounds d v | none => tm
theorem stepG_operR {ops : Array Oper} {i : Nat} {rest : List Nat} {o : Oper} (ho : ops[i]? = some o) (hw : Region.wanted o (yielded ops tm) = true) (hnd : ∀ c, o.op ≠ .defer c) :
    stepG P true { frame := mkF fn tm (.inRegion ops (i :: rest) :: k) df rd, callers := cs, status := .running, dying := none } w =
      stepG.apply P true (mkF fn tm (.inRegion ops (i :: rest) :: k) df rd) cs none (execOp (mkF fn tm (.inRegion ops (i :: rest) :: k) df rd).eval o) w := by
  unfold mkF
  simp only [stepG, stepG.exec, ho, Option.map_some, hw, Option.getD_some, if_true, stepG.oper, Frame.oper?]
  cases rd with
  | none => rfl
  | some l =>
    cases hop : o.op <;> first | rfl | exact absurd hop (hnd _)
theorem fin_at {ops : Array Oper} {i : Nat} {rest : List Nat} {o : Oper} (ho : ops[i]? = some o) (v : Value) :
    (mkF fn tm (.inRegion ops (i :: rest) :: k) df rd).finish v = mkF fn (putT tm o.dst v) (.inRegion ops rest :: k) df rd := by
  unfold mkF Frame.finish putT
  simp only [ho, Option.bind_some]
  rfl
theorem st_op_value {ops : Array Oper} {i : Nat} {rest : List Nat} {o : Oper} {v : Value} {n : Next} {w' : World} (ho : ops[i]? = some o) (hw : Region.wanted o (yielded ops tm) = true) (hnd : ∀ c, o.op ≠ .defer c)
    (hr : (execOp (mkF fn tm (.inRegion ops (i :: rest) :: k) df rd).eval o).run P w = .ok n w') (hn : n = .value v ∨ (n = .skip ∧ v = undef)) :
    step P (lone (mkF fn tm (.inRegion ops (i :: rest) :: k) df rd) cs w) = .next (lone (mkF fn (putT tm o.dst v) (.inRegion ops rest :: k) df rd) cs w') := by
  refine step_lone_go ?_
  rw [stepG_operR ho hw hnd]
  rcases hn with rfl | ⟨rfl, rfl⟩
  · simp [stepG.apply, hr, fin_at ho]
  · simp [stepG.apply, hr, fin_at ho]
theorem st_op_enter {ops : Array Oper} {i : Nat} {rest : List Nat} {o : Oper} {f : FuncId} {args : Array Value} {w' : World} (ho : ops[i]? = some o) (hw : Region.wanted o (yielded ops tm) = true) (hnd : ∀ c, o.op ≠ .defer c)
    (hr : (execOp (mkF fn tm (.inRegion ops (i :: rest) :: k) df rd).eval o).run P w = .ok (.enter f args) w') :
    step P (lone (mkF fn tm (.inRegion ops (i :: rest) :: k) df rd) cs w) = .next (lone (Frame.enter P f args .normal) (mkF fn tm (.inRegion ops (i :: rest) :: k) df rd :: cs) w') := by
  refine step_lone_go ?_
  rw [stepG_operR ho hw hnd]
  simp [stepG.apply, hr]
  rfl
theorem st_op_round {ops : Array Oper} {i : Nat} {rest : List Nat} {o : Oper} {l : Nat} {f : FuncId} {t2 : Array Value} {as bd : Code} {w' : World} (ho : ops[i]? = some o) (hw : Region.wanted o (yielded ops tm) = true) (hnd : ∀ c, o.op ≠ .defer c)
    (hr : (execOp (mkF fn tm (.inRegion ops (i :: rest) :: k) df rd).eval o).run P w = .ok (.round l f t2 as bd) w') :
    step P (lone (mkF fn tm (.inRegion ops (i :: rest) :: k) df rd) cs w) = .next (lone (mkF f t2 [.code as, .beginRound, .code bd] [] (some l)) (mkF fn tm (.inRegion ops (i :: rest) :: k) df rd :: cs) w') := by
  refine step_lone_go ?_
  rw [stepG_operR ho hw hnd]
  simp [stepG.apply, hr]
  rfl
theorem st_op_skip {ops : Array Oper} {i : Nat} {rest : List Nat} {o : Oper} (ho : ops[i]? = some o) (hw : Region.wanted o (yielded ops tm) = false) :
    step P (lone (mkF fn tm (.inRegion ops (i :: rest) :: k) df rd) cs w) = .next (lone (mkF fn (putT tm o.dst undef) (.inRegion ops rest :: k) df rd) cs w) := by
  refine step_lone_go ?_
  have := fin_at (fn := fn) (tm := tm) (k := k) (df := df) (rd := rd) (rest := rest) ho undef
  unfold mkF at this ⊢
  simp [stepG, stepG.exec, ho, hw, this]
end
end
end Go.Proofs.YtiigjiaodmlfnaaGreatDoor.Am
namespace Go.Proofs.YtiigjiaodmlfnaaGreatDoor.Am
open Go.RowKit
noncomputable section
section
variable {P : Program} {fn : FuncId} {tm : Array Value} {k : List Item} {df : List Deferred} {rd : Option Nat} {cs : List Frame} {w : World}
def retF (fn : FuncId) (tm : Array Value) (todo : List Item) (df : List Deferred) : Frame := { fn, tmps := tm, todo, defers := df, mode := .returning, kind := .normal, roundOf := none }
theorem st_ret : step P (lone (mkF fn tm (.code .ret :: k) df none) cs w) = .next (lone (retF fn tm (.code .ret :: k) df) cs w) :=
  step_lone_go (by simp [stepG, stepG.exec, mkF, retF])
theorem st_end : step P (lone (mkF fn tm [] df none) cs w) = .next (lone (retF fn tm [] df) cs w) :=
  step_lone_go (by simp [stepG, stepG.exec, mkF, retF])
theorem st_pop {c : Frame} {f : Func} {v : Value} (hf : P.funcs[fn]? = some f) (hr : (results f tm).run P w = .ok v w) :
    step P (lone (retF fn tm k []) (c :: cs) w) = .next (lone (c.finish v) cs w) :=
  step_lone_go (by simp [stepG, unwind, doReturn, retF, hf, hr])
theorem st_collect {r : Nat} {ds : List Deferred} (h : w.heap[r]? = some (.deferred (some []))) :
    step P (lone (retF fn tm k ({ target := .collected r, args := #[] } :: ds)) cs w) = .next (lone (retF fn tm k ds) cs { w with heap := w.heap.setIfInBounds r (.deferred none) }) :=
  step_lone_go (by simp [stepG, unwind, retF, Instr.takeDeferred, getObj, setObj, Sem.run, h])
theorem st_round_end {l : Nat} {L : Loop} {c : Frame} {jump : Option Code} {todo : List Item} (h : w.heap[l]? = some (.loop L)) (ht : (todo = [] ∧ jump = none) ∨ (∃ k, todo = .code .ret :: k ∧ jump = some .ret)) :
    step P (lone (mkF fn tm todo df (some l)) (c :: cs) w) = .next (lone (c.finish (.bool jump.isNone)) cs { w with heap := w.heap.setIfInBounds l (.loop { L with state := if jump.isNone then .ready else .done, pending := jump }) }) := by
  refine step_lone_go ?_
  rcases ht with ⟨rfl, rfl⟩ | ⟨k, rfl, rfl⟩
  · simp [stepG, stepG.exec, mkF, Instr.endRound, Instr.getLoop, getObj, setObj, Sem.run, h, doReturn]
  · simp [stepG, stepG.exec, mkF, Instr.endRound, Instr.getLoop, getObj, setObj, Sem.run, h, doReturn]
theorem st_round_exit {l id : Nat} {L : Loop} {c : Frame} (h : w.heap[l]? = some (.loop L)) (ht : exitTo id k = none) :
    step P (lone (mkF fn tm (.code (.exit id) :: k) df (some l)) (c :: cs) w) = .next (lone (c.finish (.bool false)) cs { w with heap := w.heap.setIfInBounds l (.loop { L with state := .done, pending := some (.exit id) }) }) :=
  step_lone_go (by simp [stepG, stepG.exec, mkF, ht, Instr.endRound, Instr.getLoop, getObj, setObj, Sem.run, h, doReturn])
theorem st_round_goto {l lb : Nat} {L : Loop} {c : Frame} (h : w.heap[l]? = some (.loop L)) (ht : gotoIn lb k = none) :
    step P (lone (mkF fn tm (.code (.goto lb) :: k) df (some l)) (c :: cs) w) = .next (lone (c.finish (.bool false)) cs { w with heap := w.heap.setIfInBounds l (.loop { L with state := .done, pending := some (.goto lb) }) }) :=
  step_lone_go (by simp [stepG, stepG.exec, mkF, ht, Instr.endRound, Instr.getLoop, getObj, setObj, Sem.run, h, doReturn])
end
end
end Go.Proofs.YtiigjiaodmlfnaaGreatDoor.Am
namespace Go.Proofs.YtiigjiaodmlfnaaGreatDoor.Am
open Go.RowKit
noncomputable section
section
variable {P : Program} {fn : FuncId} {tm : Array Value} {k : List Item} {df : List Deferred} {rd : Option Nat} {cs : List Frame} {w : World}
theorem st_begin {l : Nat} {L : Loop} (h : w.heap[l]? = some (.loop L)) (hs : L.state = .ready) :
    step P (lone (mkF fn tm (.beginRound :: k) df (some l)) cs w) = .next (lone (mkF fn tm k df (some l)) cs { w with heap := w.heap.setIfInBounds l (.loop { L with state := .busy }) }) :=
  step_lone_go (by simp [stepG, stepG.exec, mkF, stepG.apply, Instr.beginRound, Instr.getLoop, getObj, setObj, Sem.run, h, hs, Frame.finish])
theorem st_rf_end {l : Nat} {L : Loop} (h : w.heap[l]? = some (.loop L)) (hs : L.state ≠ .busy) :
    step P (lone (mkF fn tm (.endRangeFunc l :: k) df rd) cs w) = .next (lone (mkF fn tm ((L.pending.map Item.code).toList ++ k) df rd) cs { w with heap := w.heap.setIfInBounds l (.loop { L with state := .exhausted }) }) :=
  step_lone_go (by simp [stepG, stepG.exec, mkF, Instr.endLoop, Instr.getLoop, getObj, setObj, Sem.run, h, hs])
def rfCall (f : Operand) (l : Nat) : Call := { callee := .value f, args := #[.const (.func (.yield l) #[] #[])], argTypes := #[] }
theorem st_rf_enter {f : Operand} {ps : Array Tmp} {as bd : Code} {g : FuncId} {args : Array Value} {w2 : World}
    (h2 : w2 = (w.alloc (.deferred (some []))).alloc (.loop { state := .ready, pending := none, fn, tmps := tm, params := ps, assign := as, body := bd, defers := w.heap.size }))
    (hr : (do let d ← resolve (mkF fn tm (.inRangeFunc (w.heap.size + 1) :: k) ({ target := .collected w.heap.size, args := #[] } :: df) none).eval (rfCall f (w.heap.size + 1)) 0; invoke d.target d.args : Sem Next).run P w2 = .ok (.enter g args) w2) :
    step P (lone (mkF fn tm (.code (.rangeFunc f ps as bd) :: k) df none) cs w) =
      .next (lone (Frame.enter P g args .normal) (mkF fn tm (.inRangeFunc (w.heap.size + 1) :: k) ({ target := .collected w.heap.size, args := #[] } :: df) none :: cs) w2) := by
  refine step_lone_go ?_
  have he : (Instr.enterLoop fn tm ps as bd none).run P w = .ok (w.heap.size + 1, [{ target := .collected w.heap.size, args := #[] }]) w2 := by
    rw [h2]
    simp [Instr.enterLoop]
  unfold rfCall at hr
  simp only [stepG, stepG.exec, mkF, Sem.runT_eq, he]
  unfold mkF at hr
  simp [stepG.apply, hr]
end
end
end Go.Proofs.YtiigjiaodmlfnaaGreatDoor.Am
namespace Go.Proofs.YtiigjiaodmlfnaaGreatDoor.Am
open Go.RowKit
noncomputable section
section
variable {P : Program} {w0 : Base} {φ : Phi} {h : H} {w : World} {C : Ctx} {tmps : T AV} {ρ : Operand → Value}
inductive AK where
  | p
  | s (len c : Nat)
  | b (len : Nat)
  | m
def AK.at (k : AK) (id : Nat) : AV :=
  match k with
  | .p => .ptr id 0
  | .s n c => .slice id 0 n (.k c)
  | .b n => .slice id 0 n (.own 1)
  | .m => .map id
def cellsB (l : List AV) (ish : Bool) : Blk := .cells l.length (T.ofList l) ish
def rowA (l : List AV) (n c : Nat) : Option (AK × Blk) := some (.s n c, cellsB l false)
def allocA : Option TI → Option (AK × Blk)
  | some i => some (.p, cellsB i.zero false)
  | none => none
def boxA (v : AV) : Option (AK × Blk) := cond (allOne (cellsV v)) (some (.p, cellsB (cellsV v) false)) none
def buildSliceA (C : Ctx) (d : Option TI) (len : Nat) (parts : List (Nat × AV)) : Option (AK × Blk) :=
  match d with
  | none => none
  | some d => (match d.d with
    | .slice e => (match C.ty.get e with
      | some i => cond (Nat.blt 0 i.size && Nat.ble (Nat.mul len i.size) 16777216) (match fillA (fun j => some (Nat.mul j i.size, i.size)) (repL i.zero len) parts with
        | some cs => rowA cs len len
        | none => none) none
      | none => none)
    | _ => none)
def makeSliceA (C : Ctx) (d : Option TI) (l c : Option Nat) : Option (AK × Blk) :=
  match d, l, c with
  | some d, some l, some c => (match d.d with
    | .slice e => (match C.ty.get e with
      | some i => cond (Nat.blt 0 i.size && Nat.ble l c && Nat.ble c 1099511627776 && Nat.ble (Nat.mul i.bytes c) 140737488355328) (rowA (repL i.zero c) l c) none
      | none => none)
    | _ => none)
  | _, _, _ => none
def makeMapA (d : Option TI) (r : Option AV) : Option (AK × Blk) := cond (hintOk d r) (some (.m, .map [] 0)) none
def convA (C : Ctx) (dd : Option TI) (ds : Option TI) (x : AV) : Option (AK × Blk) :=
  match ds, dd with
  | some _, some dd => (match dd.d with
    | .slice e => (match x with
      | .str s => cond (isU8 C e) (some (.b s.length, .cells s.length (T.ofList (byteCells s)) true)) none
      | _ => none)
    | _ => none)
  | _, _ => none
def allocOf (C : Ctx) (tmps : T AV) (o : Op) : Option (AK × Blk) :=
  match o with
  | .alloc e => allocA (C.ty.get e)
  | .box _ x => boxA (evalA tmps x)
  | .buildSlice t n ps => buildSliceA C (C.ty.get t) n (evalP tmps ps.toList)
  | .makeSlice t l c => makeSliceA C (C.ty.get t) (natI (evalA tmps l)) (natI (evalA tmps c))
  | .makeMap t r => makeMapA (C.ty.get t) (evalO tmps r)
  | .convert s d x => convA C (C.ty.get d) (C.ty.get s) (evalA tmps x)
  | _ => none
def OkA (P : Program) (φ : Phi) (w : World) (s : Sem Next) (k : AK) (b : Blk) : Prop :=
  ∃ (v' : Value) (n N : Nat) (o : Obj), s.run P w = .ok (.value v') (World.alloc { w with drawn := n } o) ∧ ∀ (ψ : Phi) (id : Nat), φ.le ψ → ψ id = some ⟨w.heap.size, 0, N⟩ → RB ψ ⟨w.heap.size, 0, N⟩ b o ∧ RV ψ (k.at id) v'
theorem row_rb {ψ : Phi} {b N : Nat} {l : List AV} {vs : List Value} (e : TypeId) (hle : φ.le ψ) (hl : RL φ l vs) (ho : ∀ v ∈ vs, v.oneCell' = true) (hN : vs.length = N) : RB ψ ⟨b, 0, N⟩ (cellsB l false) (.cells vs.toArray e) := by
  refine ⟨_, e, 0, 0, rfl, by simp [hN], by simp [hl.length, hN], fun i _ => by omega, fun _ => by simp, fun i av hg hi => ?_⟩
  obtain ⟨v, h1, h2⟩ := hl.get i av (T.get_ofList hg)
  refine ⟨v, ?_, h2.mono hle, ho v (List.mem_of_getElem? h1)⟩
  simp only [Nat.zero_add, List.getElem?_toArray]
  exact h1
theorem OkA.row {s : Sem Value} {e : TypeId} {cs : List AV} {us : List Value} {len c : Nat} (hr : RL φ cs us) (ho : ∀ v ∈ us, v.oneCell' = true) (hl : len ≤ c)
    (hs : s.run P w = .ok (.slice (some ⟨w.heap.size, 0, none⟩) len c) (w.alloc (.cells us.toArray e))) : OkA P φ w (vN s) (.s len c) (cellsB cs false) :=
  ⟨_, w.drawn, us.length, _, by simp only [vN, Sem.run_bind, hs, Result.andThen_ok]; rfl, fun ψ id hle hp => ⟨row_rb e hle hr ho rfl, .slice (p := ⟨w.heap.size, 0, us.length⟩) hp hl rfl⟩⟩
theorem OkA.var {s : Sem Value} {e : TypeId} {cs : List AV} {us : List Value} (hr : RL φ cs us) (ho : ∀ v ∈ us, v.oneCell' = true)
    (hs : s.run P w = .ok (.pointer (some ⟨w.heap.size, 0, none⟩)) (w.alloc (.cells us.toArray e))) : OkA P φ w (vN s) .p (cellsB cs false) :=
  ⟨_, w.drawn, us.length, _, by simp only [vN, Sem.run_bind, hs, Result.andThen_ok]; rfl, fun ψ id hle hp => ⟨row_rb e hle hr ho rfl, .ptr (p := ⟨w.heap.size, 0, us.length⟩) hp⟩⟩
theorem allocA_ok (hA : Agrees P C) (t : TypeId) {k : AK} {b : Blk} (h : allocA (C.ty.get t) = some (k, b)) : OkA P φ w (vN (Instr.alloc t true (.tuple #[]))) k b := by
  unfold allocA at h
  split at h
  · rename_i i hi
    cases h
    have ok := hA.ty t i hi
    obtain ⟨z, h1, h2, h3, h4, _⟩ := ok.zero φ
    exact OkA.var (e := t) h3 h4 (by simp [Instr.alloc, h1, newVar, newRow])
  · cases h
theorem boxA_ok (hE : Evals φ tmps ρ) (t : TypeId) (x : Operand) {k : AK} {b : Blk} (h : boxA (evalA tmps x) = some (k, b)) : OkA P φ w (vN (Instr.box t (ρ x))) k b := by
  have hx := hE x
  unfold boxA at h
  cases ho : allOne (cellsV (evalA tmps x)) with
  | false => rw [ho] at h; cases h
  | true =>
    rw [ho] at h
    cases h
    have hc := cellsV_ok hx ho
    exact OkA.var (e := t) hc (allOne_RL hc ho) (by simp [Instr.box, newVar, newRow])
theorem buildSliceA_ok (hA : Agrees P C) (hE : Evals φ tmps ρ) (t : TypeId) (len : Nat) (parts : Array (Nat × Operand)) {k : AK} {b : Blk} (h : buildSliceA C (C.ty.get t) len (evalP tmps parts.toList) = some (k, b)) :
    OkA P φ w (vN (Instr.buildSlice t len (parts.map fun (i, x) => (i, ρ x)))) k b := by
  unfold buildSliceA at h
  split at h
  · cases h
  · rename_i d hd
    have ok := hA.ty t d hd
    split at h
    · rename_i e he
      have hu : (underlying t).run P w = .ok (.slice e) w := by rw [ok.underlying, he]
      split at h
      · rename_i i hi
        have oke := hA.ty e i hi
        cases hb : (Nat.blt 0 i.size && Nat.ble (Nat.mul len i.size) 16777216) with
        | false => rw [hb] at h; cases h
        | true =>
          rw [hb] at h
          simp only [Bool.and_eq_true] at hb
          have b1 : 0 < i.size := Nat.le_of_ble_eq_true hb.1
          have b2 : len * i.size ≤ 16777216 := Nat.le_of_ble_eq_true hb.2
          simp only [cond_true] at h
          split at h
          · rename_i cs hcs
            cases h
            obtain ⟨z, z1, z2, z3, z4, _⟩ := oke.zero φ
            obtain ⟨rp1, rp2⟩ := rep_ok z3 z4 len
            obtain ⟨us, r1, r2, r3, r4⟩ := fillA_ok (evalP_ok hE parts.toList) rp1 rp2 hcs
            have hzl : z.cells.toList.length = i.size := by rw [Array.length_toList]; exact z2
            refine OkA.row (e := e) r2 r3 (Nat.le_refl _) ?_
            have hrow : (Array.range (len * i.size)).map (fun x => (if len * i.size = 0 then (#[] : Array Value) else z.cells)[x % (if len * i.size = 0 then (#[] : Array Value) else z.cells).size]!) = (repV z.cells.toList len).toArray := by
              by_cases h0 : len * i.size = 0
              · have hl0 : len = 0 := by
                  rcases Nat.mul_eq_zero.1 h0 with h | h
                  · exact h
                  · omega
                subst hl0
                simp [repV]
              · rw [if_neg h0]
                have := rowOf z.cells.toList len (by rw [hzl]; exact b1)
                rw [hzl] at this
                simpa using this
            have h24 : ¬ (len * i.size > 2 ^ 24) := by omega
            unfold Instr.buildSlice
            rw [Sem.run_bind, hu, Result.andThen_ok]
            simp only
            rw [Sem.run_bind, oke.sizeOf, Result.andThen_ok, if_neg h24]
            have e1 : (parts.map fun (i, x) => (i, ρ x)).toList = parts.toList.map fun (i, x) => (i, ρ x) := by simp
            have r1' : Instr.fill (fun j => some (j * i.size, i.size)) (repV z.cells.toList len).toArray (parts.toList.map fun (i, x) => (i, ρ x)) = some us.toArray := r1
            by_cases h0 : len * i.size = 0
            · rw [if_pos h0]
              simp only [if_pos h0] at hrow
              rw [Sem.run_bind, Sem.run_pure, Result.andThen_ok, hrow, e1, r1']
              simp [newRow]
            · rw [if_neg h0]
              simp only [if_neg h0] at hrow
              rw [Sem.run_bind, z1, Result.andThen_ok, Sem.run_bind, Sem.run_pure, Result.andThen_ok, hrow, e1, r1']
              simp [newRow]
          · cases h
      · cases h
    · cases h
theorem makeSliceA_ok (hA : Agrees P C) (hE : Evals φ tmps ρ) (t : TypeId) (l c : Operand) {k : AK} {b : Blk} (h : makeSliceA C (C.ty.get t) (natI (evalA tmps l)) (natI (evalA tmps c)) = some (k, b)) :
    OkA P φ w (vN (Instr.makeSlice t (ρ l) (ρ c))) k b := by
  unfold makeSliceA at h
  split at h
  · rename_i d l' c' hd hl hc
    have ok := hA.ty t d hd
    obtain ⟨j1, e1⟩ := natI_ok (hE l) hl
    obtain ⟨j2, e2⟩ := natI_ok (hE c) hc
    rw [e1, e2]
    split at h
    · rename_i e he
      have hu : (underlying t).run P w = .ok (.slice e) w := by rw [ok.underlying, he]
      split at h
      · rename_i i hi
        have oke := hA.ty e i hi
        cases hb : (Nat.blt 0 i.size && Nat.ble l' c' && Nat.ble c' 1099511627776 && Nat.ble (Nat.mul i.bytes c') 140737488355328) with
        | false => rw [hb] at h; cases h
        | true =>
          rw [hb] at h
          cases h
          simp only [Bool.and_eq_true] at hb
          have b1 : 0 < i.size := Nat.le_of_ble_eq_true hb.1.1.1
          have b2 := Nat.le_of_ble_eq_true hb.1.1.2
          have b3 := Nat.le_of_ble_eq_true hb.1.2
          have b4 : i.bytes * c' ≤ 140737488355328 := Nat.le_of_ble_eq_true hb.2
          obtain ⟨z, z1, z2, z3, z4, _⟩ := oke.zero φ
          obtain ⟨rp1, rp2⟩ := rep_ok z3 z4 c'
          have hzl : z.cells.toList.length = i.size := by rw [Array.length_toList]; exact z2
          obtain ⟨info, y1, y2⟩ := oke.bytes (w := w)
          refine OkA.row (e := e) rp1 rp2 b2 ?_
          have w1 : IntKind.i64.wrap (l' : Int) = l' := wrap_small (by omega)
          have w2 : IntKind.i64.wrap (c' : Int) = c' := wrap_small b3
          have t1 : ((c' : Int) < 0) = False := eq_false (by omega)
          have t2 : ¬ (281474976710656 < (i.bytes : Int) * (c' : Int)) := by
            have : ((i.bytes * c' : Nat) : Int) ≤ ((140737488355328 : Nat) : Int) := Int.ofNat_le.2 b4
            rw [Int.natCast_mul] at this
            omega
          have t3 : ((l' : Int) < 0) = False := eq_false (by omega)
          have t4 : ((l' : Int) > (c' : Int)) = False := eq_false (by omega)
          have hrow : (Array.range (c' * i.size)).map (fun x => (if c' * i.size = 0 then (#[] : Array Value) else z.cells)[x % (if c' * i.size = 0 then (#[] : Array Value) else z.cells).size]!) = (repV z.cells.toList c').toArray := by
            by_cases h0 : c' * i.size = 0
            · have hl0 : c' = 0 := by
                rcases Nat.mul_eq_zero.1 h0 with h | h
                · exact h
                · omega
              subst hl0
              simp [repV]
            · rw [if_neg h0]
              have := rowOf z.cells.toList c' (by rw [hzl]; exact b1)
              rw [hzl] at this
              simpa using this
          unfold Instr.makeSlice
          by_cases h0 : c' * i.size = 0
          · simp only [if_pos h0] at hrow
            simp [hu, asInt, asIntOf, y1, y2, w1, w2, t1, t3, t4, oke.sizeOf, h0, newRow] at hrow ⊢
            rw [← hrow]
            simp
            intro hx
            exact absurd hx t2
          · simp only [if_neg h0] at hrow
            simp [hu, asInt, asIntOf, y1, y2, w1, w2, t1, t3, t4, oke.sizeOf, h0, z1, newRow] at hrow ⊢
            rw [← hrow]
            simp
            intro hx
            exact absurd hx t2
      · cases h
    · cases h
  · cases h
theorem makeMapA_ok (hA : Agrees P C) (hE : Evals φ tmps ρ) (t : TypeId) (r : Option Operand) {k : AK} {b : Blk} (h : makeMapA (C.ty.get t) (evalO tmps r) = some (k, b)) : OkA P φ w (vN (Instr.makeMap t (r.map ρ))) k b := by
  unfold makeMapA at h
  cases hh : hintOk (C.ty.get t) (evalO tmps r) with
  | false => rw [hh] at h; cases h
  | true =>
    rw [hh] at h
    cases h
    refine ⟨.map (some w.heap.size), w.drawn, 0, .map #[] 0, ?_, fun ψ id hle hp => ⟨⟨#[], rfl, .nil⟩, .map (p := ⟨w.heap.size, 0, 0⟩) hp⟩⟩
    cases r with
    | none => simp [vN, Instr.makeMap]
    | some o =>
      have hh' : (match C.ty.get t with | some d => (match d.d with | .map _ _ => (match natI (evalA tmps o) with | some _ => true | none => false) | _ => false) | none => false) = true := hh
      split at hh'
      · rename_i d hd
        have ok := hA.ty t d hd
        split at hh'
        · rename_i k e he
          split at hh'
          · rename_i n hn
            obtain ⟨j, hj⟩ := natI_ok (hE o) hn
            have hu : (underlying t).run P w = .ok (.map k e) w := by rw [ok.underlying, he]
            simp [vN, Instr.makeMap, hj, hu, asInt, asIntOf]
          · cases hh'
        · cases hh'
      · cases hh'
theorem convA_ok (hA : Agrees P C) (hE : Evals φ tmps ρ) (src dst : TypeId) (x : Operand) {k : AK} {b : Blk} (h : convA C (C.ty.get dst) (C.ty.get src) (evalA tmps x) = some (k, b)) : OkA P φ w (vN (convert src dst (ρ x))) k b := by
  have hx := hE x
  generalize evalA tmps x = ax at hx h
  generalize ρ x = x' at hx ⊢
  unfold convA at h
  split at h
  · rename_i ds dd hs hd
    have oks := hA.ty src ds hs
    have okd := hA.ty dst dd hd
    have us : ∀ w, (underlying src).run P w = .ok ds.d w := fun w => oks.underlying
    have ud : ∀ w, (underlying dst).run P w = .ok dd.d w := fun w => okd.underlying
    split at h
    · rename_i e hk
      rw [hk] at ud
      split at h
      · cases hx with
        | str s =>
        cases hu8 : isU8 C e with
        | false => rw [hu8] at h; cases h
        | true =>
          rw [hu8] at h
          cases h
          have hlen : (s.data.toList.map UInt8.toNat).length = s.size := by rw [List.length_map, Array.length_toList]; rfl
          have hlen2 : s.data.toList.length = s.size := by rw [Array.length_toList]; rfl
          generalize hcap : (Question.appendCap s.size 0 e).cut (w.tape w.drawn (.appendCap s.size 0 e)) = cap
          have hge : s.size ≤ cap := by rw [← hcap]; exact Nat.le_add_right _ _
          rw [hlen]
          refine ⟨.slice (some ⟨w.heap.size, 0, none⟩) s.size cap, w.drawn + 1, cap, .cells ((s.data.toList.map fun (b : UInt8) => Value.int .u8 b.toNat) ++ List.replicate (cap - s.size) (Value.int .u8 0)).toArray e (cap, cap + 1), ?_, fun ψ id hle hp => ⟨?_, .slice (p := ⟨w.heap.size, 0, cap⟩) hp hge (by show 0 + 0 + cap * 1 = cap; omega)⟩⟩
          · have hf : (Question.appendCap s.size 0 e).forced = false := rfl
            have hshape : ∀ (w : World) (c : Array Value), (w.alloc (.cells c e)).shape? w.heap.size = some (e, c.size) := fun w c => by
              unfold World.shape?
              have : (w.alloc (.cells c e)).heap[w.heap.size]? = some (.cells c e) := by
                show (w.heap.push _)[w.heap.size]? = _
                simp
              rw [this]
            have hfz := freeze_new w.drew (s.data.map (fun (b : UInt8) => Value.int .u8 b.toNat) ++ Array.replicate (cap - s.size) (Value.int .u8 0)) e
            have hsz : (s.data.map (fun (b : UInt8) => Value.int .u8 b.toNat) ++ Array.replicate (cap - s.size) (Value.int .u8 0)).size = cap := by
              rw [Array.size_append, Array.size_map, Array.size_replicate]
              have : s.data.size = s.size := rfl
              omega
            have harr : ((s.data.toList.map fun (b : UInt8) => Value.int .u8 b.toNat) ++ List.replicate (cap - s.size) (Value.int .u8 0)).toArray = s.data.map (fun (b : UInt8) => Value.int .u8 b.toNat) ++ Array.replicate (cap - s.size) (Value.int .u8 0) := by
              apply Array.toList_inj.1
              simp
            rw [harr]
            have hsh := hshape w.drew (s.data.map (fun (b : UInt8) => Value.int .u8 b.toNat) ++ Array.replicate (cap - s.size) (Value.int .u8 0))
            rw [hsz] at hsh hfz
            simp [vN, convert, us, ud, isU8_ok hA hu8, Conv.stringToBytes, hf, hcap, newRow, markStringish]
            have hsh' := (show w.drew.heap.size = w.heap.size from rfl) ▸ hsh
            rw [hsh']
            simp only [run_freeze, Result.andThen_ok]
            congr 1
          · refine ⟨_, e, cap, cap + 1, rfl, by simp [hlen2]; omega, by simp [hge], fun i hi => by have : i < cap := hi; omega, (fun hf => by cases hf), fun i av hg hi => ?_⟩
            obtain ⟨v, h1, h2⟩ := (byteCells_RL φ s.data.toList).get i av (T.get_ofList hg)
            have hlt : i < (s.data.toList.map fun b => Value.int .u8 b.toNat).length := (List.getElem?_eq_some_iff.1 h1).1
            refine ⟨v, ?_, h2.mono hle, ?_⟩
            · simp only [Nat.zero_add, List.getElem?_toArray]
              rw [List.getElem?_append_left hlt]
              exact h1
            · rw [List.getElem?_map, Option.map_eq_some_iff] at h1
              obtain ⟨b, _, rfl⟩ := h1
              rfl
      · cases h
    · cases h
  · cases h
theorem allocOf_ok (hA : Agrees P C) (hE : Evals φ tmps ρ) (o : Oper) {k : AK} {b : Blk} (h : allocOf C tmps o.op = some (k, b)) : OkA P φ w (execOp ρ o) k b := by
  unfold allocOf at h
  cases hop : o.op with
  | alloc e => rw [hop] at h; unfold execOp; rw [hop]; exact allocA_ok hA e h
  | box e x => rw [hop] at h; unfold execOp; rw [hop]; exact boxA_ok hE e x h
  | buildSlice t n ps => rw [hop] at h; unfold execOp; rw [hop]; exact buildSliceA_ok hA hE t n ps h
  | makeSlice t l c => rw [hop] at h; unfold execOp; rw [hop]; exact makeSliceA_ok hA hE t l c h
  | makeMap t r => rw [hop] at h; unfold execOp; rw [hop]; exact makeMapA_ok hA hE t r h
  | convert s d x => rw [hop] at h; unfold execOp; rw [hop]; exact convA_ok hA hE s d x h
  | _ => rw [hop] at h; cases h
end
end
end Go.Proofs.YtiigjiaodmlfnaaGreatDoor.Am
namespace Go.Proofs.YtiigjiaodmlfnaaGreatDoor.Am
open Go.RowKit
noncomputable section
section
variable {P : Program} {w0 : Base} {φ : Phi} {h : H} {w : World} {C : Ctx} {tmps : T AV} {ρ : Operand → Value}
inductive QK where
  | q
  | a
  | l
def descOf (C : Ctx) (t : TypeId) : Option TypeDesc := match C.ty.get t with | some i => some i.d | none => none
def isSlcD : Option TypeDesc → Bool
  | some (.slice _) => true
  | _ => false
def qkB : Builtin → QK
  | .len => .q
  | .max => .q
  | .min => .q
  | _ => .l
def qkC (c : Call) : QK := match c.callee with | .builtin b => qkB b | _ => .l
def qk (C : Ctx) (o : Op) : QK :=
  match o with
  | .move _ => .q
  | .pick _ _ _ => .q
  | .build _ _ => .q
  | .nilCheck _ => .q
  | .binOp _ _ _ _ _ => .q
  | .unOp _ _ _ => .q
  | .makeFunc _ _ _ => .q
  | .slice _ _ _ _ _ => .q
  | .fieldAddr _ _ _ => .q
  | .field _ _ _ => .q
  | .indexAddr _ _ _ => .q
  | .index _ _ _ => .q
  | .extract _ _ => .q
  | .load _ _ => .q
  | .lookup _ _ _ _ => .q
  | .alloc _ => .a
  | .box _ _ => .a
  | .buildSlice _ _ _ => .a
  | .makeSlice _ _ _ => .a
  | .makeMap _ _ => .a
  | .convert _ d _ => cond (isSlcD (descOf C d)) .a .q
  | .call c => qkC c
  | _ => .l
def Keeps (h : H) : R → Prop
  | .val _ h' => h' = h
  | .enter _ _ _ => False
  | .round _ _ _ _ _ _ _ => False
  | .stuck _ => True
theorem Keeps.cond {c : Bool} {a b : R} (ha : Keeps h a) (hb : Keeps h b) : Keeps h (cond c a b) := by cases c <;> assumption
theorem Keeps.oR (o : Option AV) : Keeps h (oR h o) := by cases o <;> first | exact rfl | exact True.intro
theorem sliceR_keeps (d : Option TI) (x : AV) (lo hi mx : Option AV) : Keeps h (sliceR C h d x lo hi mx) := by
  unfold sliceR sliceStr sliceS
  repeat' (first | exact True.intro | exact rfl | exact Keeps.oR _ | refine Keeps.cond ?_ ?_ | split)
theorem conv_keeps (s d : TypeId) (x : AV) (hq : isSlcD (descOf C d) = false) : Keeps h (convR C h (Nat.beq s d) (C.ty.get s) (C.ty.get d) x) := by
  unfold convR
  split
  · rename_i ds dd hs hd
    split
    · split <;> first | exact rfl | exact True.intro
    · split
      · exact rfl
      · split
        · exact Keeps.cond rfl True.intro
        · exact True.intro
      · split
        · refine Keeps.cond ?_ True.intro
          unfold strOfR
          repeat' (first | exact True.intro | exact rfl | split)
        · exact True.intro
      · exact True.intro
    · rename_i e he
      exfalso
      unfold descOf at hq
      rw [hd] at hq
      simp only [he, isSlcD, reduceCtorEq] at hq
    · exact True.intro
  · exact True.intro
theorem quiet_heap (o : Op) (hq : qk C o = .q) : Keeps h (execR C h tmps o) := by
  cases o <;> (try (simp only [qk, reduceCtorEq] at hq; done)) <;> simp only [execR]
  case move => exact rfl
  case pick => unfold ex_pick pickR; repeat' (first | exact True.intro | exact rfl | split)
  case build => unfold buildR; repeat' (first | exact True.intro | exact rfl | exact Keeps.oR _ | refine Keeps.cond ?_ ?_ | split)
  case load => unfold loadR; repeat' (first | exact True.intro | exact rfl | exact Keeps.oR _ | refine Keeps.cond ?_ ?_ | split)
  case nilCheck => unfold nilR; repeat' (first | exact True.intro | exact rfl | exact Keeps.oR _ | refine Keeps.cond ?_ ?_ | split)
  case binOp => unfold binR eqR aggR structR stR; repeat' (first | exact True.intro | exact rfl | exact Keeps.oR _ | refine Keeps.cond ?_ ?_ | split)
  case unOp => unfold unR; repeat' (first | exact True.intro | exact rfl | exact Keeps.oR _ | refine Keeps.cond ?_ ?_ | split)
  case makeFunc => unfold makeFuncR; repeat' (first | exact True.intro | exact rfl | exact Keeps.oR _ | refine Keeps.cond ?_ ?_ | split)
  case slice => exact sliceR_keeps _ _ _ _ _
  case fieldAddr => unfold fieldAddrR; repeat' (first | exact True.intro | exact rfl | exact Keeps.oR _ | refine Keeps.cond ?_ ?_ | split)
  case field => unfold fieldR; repeat' (first | exact True.intro | exact rfl | exact Keeps.oR _ | refine Keeps.cond ?_ ?_ | split)
  case indexAddr => unfold indexAddrR; repeat' (first | exact True.intro | exact rfl | exact Keeps.oR _ | refine Keeps.cond ?_ ?_ | split)
  case index => unfold indexR; repeat' (first | exact True.intro | exact rfl | exact Keeps.oR _ | refine Keeps.cond ?_ ?_ | split)
  case extract => unfold extractR; repeat' (first | exact True.intro | exact rfl | exact Keeps.oR _ | refine Keeps.cond ?_ ?_ | split)
  case lookup => unfold lookupR; repeat' (first | exact True.intro | exact rfl | exact Keeps.oR _ | refine Keeps.cond ?_ ?_ | split)
  case convert s d x =>
    simp only [qk] at hq
    cases hc : isSlcD (descOf C d) with
    | true => rw [hc] at hq; cases hq
    | false => exact conv_keeps s d _ hc
  case call c =>
    simp only [qk, qkC] at hq
    unfold ccallR
    split
    · rename_i b hb
      rw [hb] at hq
      unfold builtinR
      cases b <;> (try (simp only [qkB, reduceCtorEq] at hq; done)) <;> simp only
      case len => split <;> (try split) <;> (try unfold lenR) <;> repeat' (first | exact True.intro | exact rfl | exact Keeps.oR _ | refine Keeps.cond ?_ ?_ | split)
      case max => split <;> (try unfold mmR) <;> repeat' (first | exact True.intro | exact rfl | exact Keeps.oR _ | refine Keeps.cond ?_ ?_ | split)
      case min => split <;> (try unfold mmR) <;> repeat' (first | exact True.intro | exact rfl | exact Keeps.oR _ | refine Keeps.cond ?_ ?_ | split)
    · rename_i f hf
      rw [hf] at hq
      cases hq
    · exact True.intro
variable {t1 t2 : T AV}
theorem evalL_congr : ∀ (l : List Operand), (∀ x ∈ l, evalA t1 x = evalA t2 x) → evalL t1 l = evalL t2 l
  | [], _ => rfl
  | o :: l, hh => by
    show evalA t1 o :: evalL t1 l = evalA t2 o :: evalL t2 l
    rw [hh o List.mem_cons_self, evalL_congr l fun x hx => hh x (List.mem_cons_of_mem _ hx)]
theorem evalP_congr : ∀ (l : List (Nat × Operand)), (∀ x ∈ l.map (·.2), evalA t1 x = evalA t2 x) → evalP t1 l = evalP t2 l
  | [], _ => rfl
  | (i, o) :: l, hh => by
    show (i, evalA t1 o) :: evalP t1 l = (i, evalA t2 o) :: evalP t2 l
    rw [hh o List.mem_cons_self, evalP_congr l fun x hx => hh x (List.mem_cons_of_mem _ hx)]
theorem evalO_congr (o : Option Operand) (hh : ∀ x ∈ o.toArray, evalA t1 x = evalA t2 x) : evalO t1 o = evalO t2 o := by
  cases o with
  | none => rfl
  | some o => exact congrArg some (hh o (by simp))
theorem execR_congr (o : Op) (hh : ∀ x ∈ o.operands, evalA t1 x = evalA t2 x) : execR C h t1 o = execR C h t2 o := by
  cases o <;> simp only [Op.operands] at hh <;> simp only [execR] <;> try rfl
  case move x => simp only [ex_move]; rw [hh x (by simp)]
  case assign x => simp only [ex_move]; rw [hh x (by simp)]
  case pick a b c => simp only [ex_pick]; rw [hh a (by simp), hh b (by simp), hh c (by simp)]
  case box x => rw [hh x (by simp)]
  case build t ps => rw [evalP_congr _ fun x hx => hh x (by simpa using hx)]
  case buildSlice t n ps => rw [evalP_congr _ fun x hx => hh x (by simpa using hx)]
  case load t x => rw [hh x (by simp)]
  case store t a x => rw [hh a (by simp), hh x (by simp)]
  case nilCheck x => rw [hh x (by simp)]
  case binOp op t x y u => rw [hh x (by simp), hh y (by simp)]
  case unOp op t x => rw [hh x (by simp)]
  case convert s d x => rw [hh x (by simp)]
  case makeFunc f a b => rw [evalL_congr _ fun x hx => hh x (by simp at hx; simp [hx]), evalL_congr _ fun x hx => hh x (by simp at hx; simp [hx])]
  case makeMap t r => rw [evalO_congr r hh]
  case makeSlice t l c => rw [hh l (by simp), hh c (by simp)]
  case slice t x lo hi mx => rw [hh x (by simp), evalO_congr lo fun y hy => hh y (by simp at hy; simp [hy]), evalO_congr hi fun y hy => hh y (by simp at hy; simp [hy]), evalO_congr mx fun y hy => hh y (by simp at hy; simp [hy])]
  case fieldAddr s x f => rw [hh x (by simp)]
  case field s x f => rw [hh x (by simp)]
  case indexAddr t x i => rw [hh x (by simp), hh i (by simp)]
  case index t x i => rw [hh x (by simp), hh i (by simp)]
  case lookup t x i ok => rw [hh x (by simp), hh i (by simp)]
  case mapUpdate t m k x => rw [hh m (by simp), hh k (by simp), hh x (by simp)]
  case insert t m k x => rw [hh m (by simp), hh k (by simp), hh x (by simp)]
  case mapEntry t m k => rw [hh m (by simp), hh k (by simp)]
  case entryStore t m s x => rw [hh m (by simp), hh s (by simp), hh x (by simp)]
  case range t x => rw [hh x (by simp)]
  case next x s => rw [hh x (by simp)]
  case entry x => rw [hh x (by simp)]
  case extract x i => rw [hh x (by simp)]
  case call c =>
    unfold ccallR
    unfold Call.operands at hh
    split
    · rename_i b hb
      rw [hb] at hh
      rw [evalL_congr _ fun x hx => hh x (by simp at hx; simp [hx])]
    · rename_i f hf
      rw [hf] at hh
      rw [hh f (by simp), evalL_congr _ fun x hx => hh x (by simp at hx; simp [hx])]
    · rfl
theorem allocOf_congr (o : Op) (hh : ∀ x ∈ o.operands, evalA t1 x = evalA t2 x) : allocOf C t1 o = allocOf C t2 o := by
  cases o <;> simp only [Op.operands] at hh <;> simp only [allocOf] <;> try rfl
  case box x => rw [hh x (by simp)]
  case buildSlice t n ps => rw [evalP_congr _ fun x hx => hh x (by simpa using hx)]
  case makeMap t r => rw [evalO_congr r hh]
  case makeSlice t l c => rw [hh l (by simp), hh c (by simp)]
  case convert s d x => rw [hh x (by simp)]
end
end
end Go.Proofs.YtiigjiaodmlfnaaGreatDoor.Am
namespace Go.Proofs.YtiigjiaodmlfnaaGreatDoor.Am
open Go.RowKit
noncomputable section
structure PS where
  k : QK
  i : Nat
  o : Oper
  anc : List Nat
def bindE (e : Edge) : Bool :=
  match e.ground with
  | .textOnly _ => false
  | .gcOnly _ => false
  | _ => true
theorem bindE_ok (e : Edge) : bindE e = Region.binds .any e := by
  unfold bindE Region.binds
  cases e.ground <;> rfl
def prdL : List Edge → List Nat
  | [] => []
  | e :: l => cond (bindE e) (e.on :: prdL l) (prdL l)
def prd (o : Oper) : List Nat := prdL o.after.toList
theorem mem_prdL {l : List Edge} {x : Nat} : x ∈ prdL l ↔ ∃ e ∈ l, Region.binds .any e = true ∧ e.on = x := by
  induction l with
  | nil => simp [prdL]
  | cons e l ih =>
    unfold prdL
    rw [bindE_ok]
    cases h : Region.binds .any e with
    | false =>
      simp only [cond_false, ih]
      constructor
      · rintro ⟨e', h1, h2⟩
        exact ⟨e', List.mem_cons_of_mem _ h1, h2⟩
      · rintro ⟨e', h1, h2, h3⟩
        rcases List.mem_cons.1 h1 with rfl | h1
        · rw [h] at h2; cases h2
        · exact ⟨e', h1, h2, h3⟩
    | true =>
      simp only [cond_true, List.mem_cons, ih]
      constructor
      · rintro (rfl | ⟨e', h1, h2⟩)
        · exact ⟨e, .inl rfl, h, rfl⟩
        · exact ⟨e', .inr h1, h2⟩
      · rintro ⟨e', h1, h2, h3⟩
        rcases h1 with rfl | h1
        · exact .inl h3.symm
        · exact .inr ⟨e', h1, h2, h3⟩
theorem mem_prd {o : Oper} {x : Nat} : x ∈ prd o ↔ ∃ e ∈ o.after, Region.binds .any e = true ∧ e.on = x := by
  unfold prd
  rw [mem_prdL]
  simp
def tmpsL : List Operand → List Tmp
  | [] => []
  | .tmp t :: l => t :: tmpsL l
  | _ :: l => tmpsL l
theorem mem_tmpsL {l : List Operand} {t : Tmp} : t ∈ tmpsL l ↔ .tmp t ∈ l := by
  induction l with
  | nil => simp [tmpsL]
  | cons x l ih => cases x <;> simp [tmpsL, ih]
def dstAt (L : List Oper) (j : Nat) : Option Tmp := match L[j]? with | some o => o.dst | none => none
def gdst (L : List Oper) (o : Oper) : List Tmp := match o.guard with | some (j, _) => (match dstAt L j with | some d => [d] | none => []) | none => []
def reads (L : List Oper) (o : Oper) : List Tmp := gdst L o ++ tmpsL o.op.operands.toList
inductive Reach (L : List Oper) : Nat → Nat → Prop where
  | one {x i : Nat} {o : Oper} (ho : L[i]? = some o) (h : x ∈ prd o) : Reach L x i
  | tr {x j i : Nat} {o : Oper} (h : Reach L x j) (ho : L[i]? = some o) (hj : j ∈ prd o) : Reach L x i
structure Valid (C : Ctx) (L : List Oper) (pl : List PS) : Prop where
  op : ∀ s ∈ pl, L[s.i]? = some s.o ∧ s.k = qk C s.o.op
  all : ∀ i, i < L.length → ∃ s ∈ pl, s.i = i
  nodup : (pl.map PS.i).Nodup
  pre : ∀ a s b, pl = a ++ s :: b → ∀ e ∈ prd s.o, e ∈ a.map PS.i
  loud : ∀ a s b, pl = a ++ s :: b → s.k = .l → ∀ s' ∈ b, ∃ e ∈ prd s'.o, e ∉ a.map PS.i
  dst : ∀ s ∈ pl, ∀ s' ∈ pl, ∀ d, s.o.dst = some d → s'.o.dst = some d → s.i = s'.i
  read : ∀ s ∈ pl, ∀ s' ∈ pl, ∀ d, s.o.dst = some d → d ∈ reads L s'.o → s.i ∈ prd s'.o ∨ (s.k = .l ∧ s'.i ∈ s.anc)
  anc : ∀ s ∈ pl, ∀ x ∈ s.anc, Reach L x s.i
  adst : ∀ s ∈ pl, s.k = .a → ∃ d, s.o.dst = some d
def allIn (t : List Nat) : List Nat → Bool
  | [] => true
  | e :: l => cond (memN e t) (allIn t l) false
theorem memN_iff {b : Nat} {l : List Nat} : memN b l = true ↔ b ∈ l := by rw [memN_ok]; simp
theorem allIn_ok {t : List Nat} : ∀ {l : List Nat}, allIn t l = true → ∀ e ∈ l, e ∈ t
  | [], _, _, h => by cases h
  | x :: l, h, e, he => by
    unfold allIn at h
    cases hm : memN x t with
    | false => rw [hm] at h; cases h
    | true =>
      rw [hm] at h
      rcases List.mem_cons.1 he with rfl | he
      · exact memN_iff.1 hm
      · exact allIn_ok h e he
def someOut (t : List Nat) : List Nat → Bool
  | [] => false
  | e :: l => cond (memN e t) (someOut t l) true
theorem someOut_ok {t : List Nat} : ∀ {l : List Nat}, someOut t l = true → ∃ e ∈ l, e ∉ t
  | [], h => by cases h
  | x :: l, h => by
    unfold someOut at h
    cases hm : memN x t with
    | false => exact ⟨x, List.mem_cons_self, fun hx => by rw [memN_iff.2 hx] at hm; cases hm⟩
    | true =>
      rw [hm] at h
      obtain ⟨e, h1, h2⟩ := someOut_ok h
      exact ⟨e, List.mem_cons_of_mem _ h1, h2⟩
def isLoud : QK → Bool
  | .l => true
  | _ => false
def restOut (t : List Nat) : List PS → Bool
  | [] => true
  | s :: b => cond (someOut t (prd s.o)) (restOut t b) false
theorem restOut_ok {t : List Nat} : ∀ {b : List PS}, restOut t b = true → ∀ s ∈ b, ∃ e ∈ prd s.o, e ∉ t
  | [], _, _, h => by cases h
  | x :: b, h, s, hs => by
    unfold restOut at h
    cases hm : someOut t (prd x.o) with
    | false => rw [hm] at h; cases h
    | true =>
      rw [hm] at h
      rcases List.mem_cons.1 hs with rfl | hs
      · exact someOut_ok hm
      · exact restOut_ok h s hs
def chkPre (t : List Nat) : List PS → Bool
  | [] => true
  | s :: b => cond (allIn t (prd s.o) && !memN s.i t && cond (isLoud s.k) (restOut t b) true) (chkPre (s.i :: t) b) false
theorem chkPre_ok : ∀ {pl : List PS} {t : List Nat}, chkPre t pl = true → ∀ a s b, pl = a ++ s :: b → (∀ e ∈ prd s.o, e ∈ t ∨ e ∈ a.map PS.i) ∧ (s.i ∉ t ∧ s.i ∉ a.map PS.i) ∧ (s.k = .l → ∀ s' ∈ b, ∃ e ∈ prd s'.o, e ∉ t ∧ e ∉ a.map PS.i)
  | [], _, _, a, s, b, e => by cases a <;> cases e
  | x :: pl, t, h, a, s, b, e => by
    unfold chkPre at h
    cases hc : (allIn t (prd x.o) && !memN x.i t && cond (isLoud x.k) (restOut t pl) true) with
    | false => rw [hc] at h; cases h
    | true =>
      rw [hc] at h
      simp only [Bool.and_eq_true, Bool.not_eq_true'] at hc
      cases a with
      | nil =>
        simp only [List.nil_append, List.cons.injEq] at e
        obtain ⟨rfl, rfl⟩ := e
        refine ⟨fun e he => .inl (allIn_ok hc.1.1 e he), ⟨fun hx => by rw [memN_iff.2 hx] at hc; exact absurd hc.1.2 (by simp), by simp⟩, fun hk s' hs' => ?_⟩
        rw [hk] at hc
        obtain ⟨e, h1, h2⟩ := restOut_ok hc.2 s' hs'
        exact ⟨e, h1, h2, by simp⟩
      | cons y a =>
        simp only [List.cons_append, List.cons.injEq] at e
        obtain ⟨rfl, e⟩ := e
        obtain ⟨r1, r2, r3⟩ := chkPre_ok h a s b e
        refine ⟨fun e he => ?_, ?_, fun hk s' hs' => ?_⟩
        · rcases r1 e he with h | h
          · rcases List.mem_cons.1 h with rfl | h
            · exact .inr (by simp)
            · exact .inl h
          · exact .inr (by simp only [List.map_cons, List.mem_cons]; exact .inr h)
        · simp only [List.mem_cons, not_or] at r2
          simp only [List.map_cons, List.mem_cons, not_or]
          exact ⟨r2.1.2, r2.1.1, r2.2⟩
        · obtain ⟨e, h1, h2, h3⟩ := r3 hk s' hs'
          simp only [List.mem_cons, not_or] at h2
          simp only [List.map_cons, List.mem_cons, not_or]
          exact ⟨e, h1, h2.2, h2.1, h3⟩
def chkAll (il : List Nat) : Nat → Bool
  | 0 => true
  | n + 1 => cond (memN n il) (chkAll il n) false
theorem chkAll_ok {il : List Nat} : ∀ {n : Nat}, chkAll il n = true → ∀ i, i < n → i ∈ il
  | 0, _, _, h => absurd h (by omega)
  | n + 1, h, i, hi => by
    unfold chkAll at h
    cases hm : memN n il with
    | false => rw [hm] at h; cases h
    | true =>
      rw [hm] at h
      by_cases e : i = n
      · subst e; exact memN_iff.1 hm
      · exact chkAll_ok h i (by omega)
def chkDst (s : PS) (d : Tmp) : List PS → Bool
  | [] => true
  | s' :: b => cond (match s'.o.dst with | some d' => cond (Nat.beq d d') (Nat.beq s.i s'.i) true | none => true) (chkDst s d b) false
theorem chkDst_ok {s : PS} {d : Tmp} : ∀ {b : List PS}, chkDst s d b = true → ∀ s' ∈ b, s'.o.dst = some d → s.i = s'.i
  | [], _, _, h, _ => by cases h
  | x :: b, h, s', hs', hd => by
    unfold chkDst at h
    cases hm : (match x.o.dst with | some d' => cond (Nat.beq d d') (Nat.beq s.i x.i) true | none => true) with
    | false => rw [hm] at h; cases h
    | true =>
      rw [hm] at h
      rcases List.mem_cons.1 hs' with rfl | hs'
      · rw [hd] at hm
        simp only [Nat.beq_refl, cond_true] at hm
        exact Nat.eq_of_beq_eq_true hm
      · exact chkDst_ok h s' hs' hd
def chkRead (L : List Oper) (s : PS) (d : Tmp) : List PS → Bool
  | [] => true
  | s' :: b => cond (cond (memN d (reads L s'.o)) (memN s.i (prd s'.o) || (isLoud s.k && memN s'.i s.anc)) true) (chkRead L s d b) false
theorem isLoud_ok {k : QK} (h : isLoud k = true) : k = .l := by cases k <;> first | rfl | cases h
theorem chkRead_ok {L : List Oper} {s : PS} {d : Tmp} : ∀ {b : List PS}, chkRead L s d b = true → ∀ s' ∈ b, d ∈ reads L s'.o → s.i ∈ prd s'.o ∨ (s.k = .l ∧ s'.i ∈ s.anc)
  | [], _, _, h, _ => by cases h
  | x :: b, h, s', hs', hd => by
    unfold chkRead at h
    cases hm : (cond (memN d (reads L x.o)) (memN s.i (prd x.o) || (isLoud s.k && memN x.i s.anc)) true) with
    | false => rw [hm] at h; cases h
    | true =>
      rw [hm] at h
      rcases List.mem_cons.1 hs' with rfl | hs'
      · rw [memN_iff.2 hd] at hm
        simp only [cond_true, Bool.or_eq_true, Bool.and_eq_true] at hm
        rcases hm with hm | hm
        · exact .inl (memN_iff.1 hm)
        · exact .inr ⟨isLoud_ok hm.1, memN_iff.1 hm.2⟩
      · exact chkRead_ok h s' hs' hd
def chkD (L : List Oper) (pl : List PS) : List PS → Bool
  | [] => true
  | s :: b => cond (match s.o.dst with | some d => chkDst s d pl && chkRead L s d pl | none => (match s.k with | .a => false | _ => true)) (chkD L pl b) false
theorem chkD_ok {L : List Oper} {pl : List PS} : ∀ {b : List PS}, chkD L pl b = true → ∀ s ∈ b, (∀ d, s.o.dst = some d → chkDst s d pl = true ∧ chkRead L s d pl = true) ∧ (s.k = .a → ∃ d, s.o.dst = some d)
  | [], _, _, h => by cases h
  | x :: b, h, s, hs => by
    unfold chkD at h
    cases hm : (match x.o.dst with | some d => chkDst x d pl && chkRead L x d pl | none => (match x.k with | .a => false | _ => true)) with
    | false => rw [hm] at h; cases h
    | true =>
      rw [hm] at h
      rcases List.mem_cons.1 hs with rfl | hs
      · cases hd : s.o.dst with
        | none =>
          rw [hd] at hm
          refine ⟨fun d e => (by cases e), fun hk => ?_⟩
          rw [hk] at hm
          cases hm
        | some d =>
          rw [hd] at hm
          simp only [Bool.and_eq_true] at hm
          exact ⟨fun d' e => by cases e; exact hm, fun _ => ⟨d, rfl⟩⟩
      · exact chkD_ok h s hs
def insN (x : Nat) (l : List Nat) : List Nat := cond (memN x l) l (x :: l)
def uniN : List Nat → List Nat → List Nat
  | [], l => l
  | x :: m, l => uniN m (insN x l)
theorem mem_uniN : ∀ {m l : List Nat} {x : Nat}, x ∈ uniN m l → x ∈ m ∨ x ∈ l
  | [], _, _, h => .inr h
  | y :: m, l, x, h => by
    rcases mem_uniN (m := m) h with h | h
    · exact .inl (List.mem_cons_of_mem _ h)
    · unfold insN at h
      cases hm : memN y l with
      | true => rw [hm] at h; exact .inr h
      | false =>
        rw [hm] at h
        rcases List.mem_cons.1 h with rfl | h
        · exact .inl List.mem_cons_self
        · exact .inr h
def lookA (x : Nat) : List PS → List Nat
  | [] => []
  | s :: l => cond (Nat.beq x s.i) s.anc (lookA x l)
def ancOf (tb : List PS) : List Nat → List Nat
  | [] => []
  | x :: l => insN x (uniN (lookA x tb) (ancOf tb l))
def mkPS (C : Ctx) (L : List Oper) (tb : List PS) : List Nat → Option (List PS)
  | [] => some tb
  | i :: l => match L[i]? with
    | some o => mkPS C L (⟨qk C o.op, i, o, ancOf tb (prd o)⟩ :: tb) l
    | none => none
theorem lookA_mem {x y : Nat} : ∀ {tb : List PS}, y ∈ lookA x tb → ∃ s ∈ tb, s.i = x ∧ y ∈ s.anc
  | [], h => by cases h
  | s :: tb, h => by
    unfold lookA at h
    cases hb : Nat.beq x s.i with
    | true =>
      rw [hb] at h
      exact ⟨s, List.mem_cons_self, (Nat.eq_of_beq_eq_true hb).symm, h⟩
    | false =>
      rw [hb] at h
      obtain ⟨s', h1, h2⟩ := lookA_mem h
      exact ⟨s', List.mem_cons_of_mem _ h1, h2⟩
theorem ancOf_mem {y : Nat} {tb : List PS} : ∀ {l : List Nat}, y ∈ ancOf tb l → y ∈ l ∨ ∃ x ∈ l, ∃ s ∈ tb, s.i = x ∧ y ∈ s.anc
  | [], h => by cases h
  | x :: l, h => by
    have go : y ∈ uniN (lookA x tb) (ancOf tb l) → y ∈ x :: l ∨ ∃ z ∈ x :: l, ∃ s ∈ tb, s.i = z ∧ y ∈ s.anc := fun h => by
      rcases mem_uniN h with h | h
      · obtain ⟨s, h1, h2, h3⟩ := lookA_mem h
        exact .inr ⟨x, List.mem_cons_self, s, h1, h2, h3⟩
      · rcases ancOf_mem h with h | ⟨z, hz, r⟩
        · exact .inl (List.mem_cons_of_mem _ h)
        · exact .inr ⟨z, List.mem_cons_of_mem _ hz, r⟩
    have h' : y ∈ insN x (uniN (lookA x tb) (ancOf tb l)) := h
    unfold insN at h'
    cases hm : memN x (uniN (lookA x tb) (ancOf tb l)) with
    | true => rw [hm] at h'; exact go h'
    | false =>
      rw [hm] at h'
      rcases List.mem_cons.1 h' with rfl | h'
      · exact .inl List.mem_cons_self
      · exact go h'
def Good (C : Ctx) (L : List Oper) (s : PS) : Prop := L[s.i]? = some s.o ∧ s.k = qk C s.o.op ∧ ∀ x ∈ s.anc, Reach L x s.i
theorem mkPS_ok {C : Ctx} {L : List Oper} : ∀ {l : List Nat} {tb pl : List PS}, mkPS C L tb l = some pl → (∀ s ∈ tb, Good C L s) → ∀ s ∈ pl, Good C L s
  | [], tb, pl, h, hg => by cases h; exact hg
  | i :: l, tb, pl, h, hg => by
    unfold mkPS at h
    split at h
    · rename_i o ho
      refine mkPS_ok h fun s hs => ?_
      rcases List.mem_cons.1 hs with rfl | hs
      · refine ⟨ho, rfl, fun x hx => ?_⟩
        rcases ancOf_mem hx with hx | ⟨z, hz, s, h1, h2, h3⟩
        · exact .one ho hx
        · exact .tr (h2 ▸ (hg s h1).2.2 x h3) ho hz
      · exact hg s hs
    · cases h
def passQ (C : Ctx) : List (Nat × Oper) → List Nat → List (Nat × Oper) → List Nat × List (Nat × Oper)
  | [], t, k => (t, k.reverse)
  | (i, o) :: l, t, k => cond (!isLoud (qk C o.op) && allIn t (prd o)) (passQ C l (i :: t) k) (passQ C l t ((i, o) :: k))
def firstL : List (Nat × Oper) → List Nat → List (Nat × Oper) → Option (Nat × List (Nat × Oper))
  | [], _, _ => none
  | (i, o) :: l, t, k => cond (allIn t (prd o)) (some (i, k.reverse ++ l)) (firstL l t ((i, o) :: k))
def greedy (C : Ctx) : Nat → List (Nat × Oper) → List Nat → List Nat
  | 0, _, t => t
  | n + 1, l, t => match passQ C l t [] with
    | (t, []) => t
    | (t, l) => (match firstL l t [] with
      | some (i, l) => greedy C n l (i :: t)
      | none => t)
def withIdx : Nat → List Oper → List (Nat × Oper)
  | _, [] => []
  | i, o :: l => (i, o) :: withIdx (Nat.succ i) l
def revPS : List PS → List PS → List PS
  | [], m => m
  | s :: l, m => revPS l (s :: m)
def validB (L : List Oper) (pl : List PS) : Bool := chkPre [] pl && chkAll (pl.map PS.i) L.length && chkD L pl pl
def planIf (L : List Oper) (pl : List PS) : Option (List PS) := cond (validB L pl) (some pl) none
def planOf (C : Ctx) (L : List Oper) : Option (List PS) :=
  match mkPS C L [] (greedy C (Nat.succ L.length) (withIdx 0 L) []).reverse with
  | some tb => planIf L (revPS tb [])
  | none => none
theorem mem_revPS : ∀ {l m : List PS} {s : PS}, s ∈ revPS l m ↔ s ∈ l ∨ s ∈ m
  | [], m, s => by simp [revPS]
  | x :: l, m, s => by
    unfold revPS
    rw [mem_revPS]
    simp only [List.mem_cons]
    constructor
    · rintro (h | h | h)
      · exact .inl (.inr h)
      · exact .inl (.inl h)
      · exact .inr h
    · rintro ((h | h) | h)
      · exact .inr (.inl h)
      · exact .inl h
      · exact .inr (.inr h)
theorem nodup_of_chk : ∀ {pl : List PS}, (∀ a s b, pl = a ++ s :: b → s.i ∉ a.map PS.i) → (pl.map PS.i).Nodup := by
  intro pl
  have key : ∀ (b a : List PS), (∀ a' s b', a ++ b = a' ++ s :: b' → s.i ∉ a'.map PS.i) → (a.map PS.i).Nodup → ((a ++ b).map PS.i).Nodup := by
    intro b
    induction b with
    | nil => intro a _ h; simpa using h
    | cons x b ih =>
      intro a hh ha
      have hx := hh a x b rfl
      have := ih (a ++ [x]) (fun a' s b' e => hh a' s b' (by rw [← e]; simp)) (by
        rw [List.map_append, List.nodup_append]
        refine ⟨ha, by simp, fun y hy z hz => ?_⟩
        simp only [List.map_cons, List.map_nil, List.mem_singleton] at hz
        subst hz
        intro e
        subst e
        exact hx hy)
      simpa using this
  intro h
  simpa using key pl [] (by simpa using h) (by simp)
theorem planOf_ok {C : Ctx} {L : List Oper} {pl : List PS} (h : planOf C L = some pl) : Valid C L pl := by
  unfold planOf at h
  split at h
  · rename_i tb htb
    unfold planIf at h
    cases hv : validB L (revPS tb []) with
    | false => rw [hv] at h; cases h
    | true =>
      rw [hv] at h
      cases h
      unfold validB at hv
      simp only [Bool.and_eq_true] at hv
      have hg : ∀ s ∈ revPS tb [], Good C L s := fun s hs => by
        rcases mem_revPS.1 hs with hs | hs
        · exact mkPS_ok htb (fun s h => by cases h) s hs
        · cases hs
      generalize revPS tb [] = pl at hv hg
      have hp := chkPre_ok hv.1.1
      have hd := chkD_ok hv.2
      refine ⟨fun s hs => ⟨(hg s hs).1, (hg s hs).2.1⟩, fun i hi => ?_, nodup_of_chk fun a s b e => (hp a s b e).2.1.2, fun a s b e x hx => ?_, fun a s b e hk s' hs' => ?_, fun s hs s' hs' d h1 h2 => chkDst_ok ((hd s hs).1 d h1).1 s' hs' h2,
        fun s hs s' hs' d h1 h2 => chkRead_ok ((hd s hs).1 d h1).2 s' hs' h2, fun s hs x hx => (hg s hs).2.2 x hx, fun s hs hk => (hd s hs).2 hk⟩
      · obtain ⟨s, h1, h2⟩ := List.mem_map.1 (chkAll_ok hv.1.2 i hi)
        exact ⟨s, h1, h2⟩
      · rcases (hp a s b e).1 x hx with h | h
        · cases h
        · exact h
      · obtain ⟨x, h1, _, h3⟩ := (hp a s b e).2.2 hk s' hs'
        exact ⟨x, h1, h3⟩
  · cases h
inductive Sched (L : List Oper) : List Nat → List Nat → Prop where
  | nil {D : List Nat} (h : ∀ i, i < L.length → i ∈ D) : Sched L D []
  | cons {D : List Nat} {j : Nat} {l : List Nat} {o : Oper} (hj : L[j]? = some o) (hn : j ∉ D) (hp : ∀ e ∈ prd o, e ∈ D) (t : Sched L (j :: D) l) : Sched L D (j :: l)
theorem Valid.ready {C : Ctx} {L : List Oper} {pl : List PS} (hv : Valid C L pl) {D : List Nat} (hD : ∃ i, i < L.length ∧ i ∉ D) : ∃ i o, L[i]? = some o ∧ i ∉ D ∧ ∀ e ∈ prd o, e ∈ D := by
  have key : ∀ (b a : List PS), pl = a ++ b → (∀ s ∈ a, s.i ∈ D) → (∃ s ∈ b, s.i ∉ D) → ∃ i o, L[i]? = some o ∧ i ∉ D ∧ ∀ e ∈ prd o, e ∈ D := by
    intro b
    induction b with
    | nil => rintro a _ _ ⟨s, h, _⟩; cases h
    | cons x b ih =>
      intro a e ha hb
      by_cases hx : x.i ∈ D
      · refine ih (a ++ [x]) (by rw [e]; simp) (fun s hs => ?_) ?_
        · rcases List.mem_append.1 hs with hs | hs
          · exact ha s hs
          · rw [List.mem_singleton.1 hs]; exact hx
        · obtain ⟨s, h1, h2⟩ := hb
          rcases List.mem_cons.1 h1 with rfl | h1
          · exact absurd hx h2
          · exact ⟨s, h1, h2⟩
      · refine ⟨x.i, x.o, (hv.op x (by rw [e]; simp)).1, hx, fun y hy => ?_⟩
        obtain ⟨s, h1, h2⟩ := List.mem_map.1 (hv.pre a x b e y hy)
        rw [← h2]
        exact ha s h1
  obtain ⟨i, h1, h2⟩ := hD
  obtain ⟨s, h3, h4⟩ := hv.all i h1
  exact key pl [] rfl (fun s h => by cases h) ⟨s, h3, by rw [h4]; exact h2⟩
theorem nodup_lt : ∀ (n : Nat) (l : List Nat), l.Nodup → (∀ i ∈ l, i < n) → l.length ≤ n
  | 0, l, _, h => by
    cases l with
    | nil => simp
    | cons x l => exact absurd (h x List.mem_cons_self) (by omega)
  | n + 1, l, hn, h => by
    by_cases hm : n ∈ l
    · have := nodup_lt n (l.erase n) (hn.erase n) (fun i hi => by
        obtain ⟨h1, h2⟩ := hn.mem_erase_iff.1 hi
        have := h i h2
        omega)
      rw [List.length_erase_of_mem hm] at this
      omega
    · have := nodup_lt n l hn (fun i hi => by
        have := h i hi
        have : i ≠ n := fun e => hm (e ▸ hi)
        omega)
      omega
theorem sched_go {C : Ctx} {ops : Array Oper} {pl : List PS} (hv : Valid C ops.toList pl) : ∀ (fuel t : Nat) (listed : Array Bool) (D : List Nat), listed.size = ops.size → (∀ i, i < ops.size → (listed.getD i false = true ↔ i ∈ D)) → D.Nodup → (∀ i ∈ D, i < ops.size) → fuel + D.length = ops.size →
    Sched ops.toList D (Region.linearise.go .any ops fuel t listed []) := by
  intro fuel
  induction fuel with
  | zero =>
    intro t listed D _ _ hnd hlt hf
    simp only [Region.linearise.go]
    refine .nil fun i hi => ?_
    by_cases h : i ∈ D
    · exact h
    · exfalso
      have hnd' : (i :: D).Nodup := List.nodup_cons.2 ⟨h, hnd⟩
      have := nodup_lt ops.size (i :: D) hnd' (fun x hx => by
        rcases List.mem_cons.1 hx with rfl | hx
        · simpa using hi
        · exact hlt x hx)
      simp only [List.length_cons] at this
      omega
  | succ fuel ih =>
    intro t listed D hsz hD hnd hlt hf
    simp only [Region.linearise.go]
    change Sched ops.toList D (match (Region.ready .any ops listed)[t % (Region.ready .any ops listed).length]? with
      | some i => Region.linearise.go .any ops fuel (t / (Region.ready .any ops listed).length) (listed.setIfInBounds i true) [i]
      | none => [].reverse)
    have hgt : ∀ i, i < ops.size → listed.getD i true = listed.getD i false := fun i hi => by simp [hsz, hi]
    cases hi : (Region.ready .any ops listed)[t % (Region.ready .any ops listed).length]? with
    | none =>
      have hnil : Region.ready .any ops listed = [] := by
        cases hr : Region.ready .any ops listed with
        | nil => rfl
        | cons x xs =>
          rw [hr] at hi
          have hlt : t % (x :: xs).length < (x :: xs).length := Nat.mod_lt _ (by simp)
          simp at hi
          simp at hlt
          omega
      refine .nil fun i hi => ?_
      by_cases h : i ∈ D
      · exact h
      · exfalso
        obtain ⟨j, o, h1, h2, h3⟩ := hv.ready (D := D) ⟨i, hi, h⟩
        have hj : j < ops.size := by
          have := (List.getElem?_eq_some_iff.1 h1).1
          simpa using this
        have : j ∈ Region.ready .any ops listed := by
          refine mem_ready.2 ⟨?_, o, by rw [← Array.getElem?_toList]; exact h1, fun e he hb => ?_⟩
          · rw [hgt j hj]
            cases hc : listed.getD j false with
            | false => rfl
            | true => exact absurd ((hD j hj).1 hc) h2
          · have hm := h3 e.on (mem_prd.2 ⟨e, he, hb, rfl⟩)
            exact (hD e.on (hlt _ hm)).2 hm
        rw [hnil] at this
        cases this
    | some i =>
      have hm := mem_ready.1 (List.mem_of_getElem? hi)
      obtain ⟨h0, o, ho, he⟩ := hm
      have hio : i < ops.size := (Array.getElem?_eq_some_iff.1 ho).1
      have hni : i ∉ D := fun h => by
        rw [hgt i hio, (hD i hio).2 h] at h0
        cases h0
      simp only []
      rw [linearise_go_acc, List.reverse_singleton, List.singleton_append]
      refine .cons (o := o) (by rw [Array.getElem?_toList]; exact ho) hni (fun x hx => ?_) ?_
      · obtain ⟨e, h1, h2, rfl⟩ := mem_prd.1 hx
        have := he e h1 h2
        have hlt' : e.on < ops.size := by
          rw [← hsz]
          by_cases h : e.on < listed.size
          · exact h
          · rw [Array.getD_eq_getD_getElem?, Array.getElem?_eq_none (by omega)] at this
            cases this
        exact (hD e.on hlt').1 this
      · refine ih _ _ (i :: D) (by simpa using hsz) (fun j hj => ?_) (List.nodup_cons.2 ⟨hni, hnd⟩) (fun j hj => ?_) (by simp only [List.length_cons]; omega)
        · by_cases hij : i = j
          · subst hij
            simp [hsz, hio]
          · rw [getD_set_ne _ hij, hD j hj]
            simp only [List.mem_cons]
            constructor
            · exact .inr
            · rintro (h | h)
              · exact absurd h.symm hij
              · exact h
        · rcases List.mem_cons.1 hj with rfl | hj
          · exact hio
          · exact hlt j hj
theorem sched_ok {C : Ctx} {ops : Array Oper} {pl : List PS} (hv : Valid C ops.toList pl) (t : Nat) : Sched ops.toList [] (Region.schedule true ops t) := by
  unfold Region.schedule
  simp only [Bool.true_or, if_true]
  exact sched_go hv _ _ _ [] (by simp) (fun i hi => by simp [hi]) .nil (fun i h => by cases h) (by simp)
def Closed (L : List Oper) (D : List Nat) : Prop := ∀ i ∈ D, ∃ o, L[i]? = some o ∧ ∀ e ∈ prd o, e ∈ D
theorem Closed.reach {L : List Oper} {D : List Nat} (hc : Closed L D) {x i : Nat} (h : Reach L x i) : i ∈ D → x ∈ D := by
  induction h with
  | one ho h =>
    intro hi
    obtain ⟨o', h1, h2⟩ := hc _ hi
    rw [ho] at h1
    cases h1
    exact h2 _ h
  | tr _ ho hj ih =>
    intro hi
    obtain ⟨o', h1, h2⟩ := hc _ hi
    rw [ho] at h1
    cases h1
    exact ih (h2 _ hj)
end
end Go.Proofs.YtiigjiaodmlfnaaGreatDoor.Am
namespace Go.Proofs.YtiigjiaodmlfnaaGreatDoor.Am
open Go.RowKit
noncomputable section
def eqCap (a b : Cap) : Bool :=
  match a with
  | .k n => (match b with | .k m => Nat.beq n m | _ => false)
  | .own n => (match b with | .own m => Nat.beq n m | _ => false)
  | .any => (match b with | .any => true | _ => false)
theorem eqCap_ok {a b : Cap} (h : eqCap a b = true) : a = b := by
  cases a <;> cases b <;> first | (cases h; done) | rfl | (rw [Nat.eq_of_beq_eq_true h])
def eq0 (a b : AV) : Bool :=
  match a with
  | .unk => (match b with | .unk => true | _ => false)
  | .bool x => (match b with | .bool y => x == y | _ => false)
  | .int k x => (match b with | .int j y => decide (k = j) && decide (x = y) | _ => false)
  | .str x => (match b with | .str y => beqL x y | _ => false)
  | .ptr i o => (match b with | .ptr j p => Nat.beq i j && Nat.beq o p | _ => false)
  | .nilp => (match b with | .nilp => true | _ => false)
  | .slice i o l c => (match b with | .slice j p m d => Nat.beq i j && Nat.beq o p && Nat.beq l m && eqCap c d | _ => false)
  | .nils => (match b with | .nils => true | _ => false)
  | .map i => (match b with | .map j => Nat.beq i j | _ => false)
  | .nilm => (match b with | .nilm => true | _ => false)
  | .yld i => (match b with | .yld j => Nat.beq i j | _ => false)
  | .nilf => (match b with | .nilf => true | _ => false)
  | .nili => (match b with | .nili => true | _ => false)
  | .one => (match b with | .one => true | _ => false)
  | .rng l u => (match b with | .rng m v => decide (l = m) && decide (u = v) | _ => false)
  | _ => false
theorem beqL_eq : ∀ {l m : List Nat}, beqL l m = true → l = m
  | [], [], _ => rfl
  | [], _ :: _, h => by cases h
  | _ :: _, [], h => by cases h
  | a :: l, b :: m, h => by
    unfold beqL at h
    cases hb : Nat.beq a b with
    | false => rw [hb] at h; cases h
    | true =>
      rw [hb] at h
      rw [Nat.eq_of_beq_eq_true hb, beqL_eq h]
theorem eq0_ok {a b : AV} (h : eq0 a b = true) : a = b := by
  cases a <;> cases b <;> first
    | (cases h; done)
    | rfl
    | (simp only [eq0, Bool.and_eq_true, decide_eq_true_eq, beq_iff_eq] at h
       first
         | (obtain ⟨rfl, rfl⟩ := h; rfl)
         | (subst h; rfl)
         | (rw [beqL_eq h])
         | (rw [Nat.eq_of_beq_eq_true h])
         | (rw [Nat.eq_of_beq_eq_true h.1, Nat.eq_of_beq_eq_true h.2])
         | (rw [Nat.eq_of_beq_eq_true h.1.1.1, Nat.eq_of_beq_eq_true h.1.1.2, Nat.eq_of_beq_eq_true h.1.2, eqCap_ok h.2]))
def eqLw (f : AV → AV → Bool) : List AV → List AV → Bool
  | [], [] => true
  | a :: l, b :: m => cond (f a b) (eqLw f l m) false
  | _, _ => false
theorem eqLw_ok {f : AV → AV → Bool} (hf : ∀ a b, f a b = true → a = b) : ∀ {l m : List AV}, eqLw f l m = true → l = m
  | [], [], _ => rfl
  | [], _ :: _, h => by cases h
  | _ :: _, [], h => by cases h
  | a :: l, b :: m, h => by
    unfold eqLw at h
    cases hb : f a b with
    | false => rw [hb] at h; cases h
    | true =>
      rw [hb] at h
      rw [hf a b hb, eqLw_ok hf h]
def eq1 (a b : AV) : Bool :=
  match a with
  | .fn f x y => (match b with | .fn g z w => Nat.beq f g && eqLw eq0 x z && eqLw eq0 y w | _ => false)
  | .agg x => (match b with | .agg y => eqLw eq0 x y | _ => false)
  | a => eq0 a b
theorem eq1_ok {a b : AV} (h : eq1 a b = true) : a = b := by
  cases a with
  | fn f x y =>
    cases b <;> first | (cases h; done) | skip
    simp only [eq1, Bool.and_eq_true] at h
    rw [Nat.eq_of_beq_eq_true h.1.1, eqLw_ok (fun _ _ => eq0_ok) h.1.2, eqLw_ok (fun _ _ => eq0_ok) h.2]
  | agg x =>
    cases b <;> first | (cases h; done) | skip
    rw [eqLw_ok (fun _ _ => eq0_ok) h]
  | _ => exact eq0_ok h
def eqAV (a b : AV) : Bool :=
  match a with
  | .tup x => (match b with | .tup y => eqLw eq1 x y | _ => false)
  | a => eq1 a b
theorem eqAV_ok {a b : AV} (h : eqAV a b = true) : a = b := by
  cases a with
  | tup x =>
    cases b <;> first | (cases h; done) | skip
    rw [eqLw_ok (fun _ _ => eq1_ok) h]
  | _ => exact eq1_ok h
def eqOp (a b : Option AV) : Bool :=
  match a with
  | none => (match b with | none => true | some _ => false)
  | some x => (match b with | none => false | some y => eqAV x y)
theorem eqOp_ok {a b : Option AV} (h : eqOp a b = true) : a = b := by
  cases a <;> cases b <;> first | rfl | (cases h; done) | (rw [eqAV_ok h])
def eqTr : T AV → T AV → Bool
  | .e, .e => true
  | .n l v r, .n l' v' r' => cond (eqOp v v') (cond (eqTr l l') (eqTr r r') false) false
  | _, _ => false
theorem eqTr_ok : ∀ {s t : T AV}, eqTr s t = true → s = t
  | .e, .e, _ => rfl
  | .e, .n _ _ _, h => by cases h
  | .n _ _ _, .e, h => by cases h
  | .n l v r, .n l' v' r', h => by
    unfold eqTr at h
    cases h1 : eqOp v v' with
    | false => rw [h1] at h; cases h
    | true =>
      rw [h1] at h
      cases h2 : eqTr l l' with
      | false => rw [h2] at h; cases h
      | true =>
        rw [h2] at h
        rw [eqOp_ok h1, eqTr_ok h2, eqTr_ok h]
def eqBk (a b : Blk) : Bool :=
  match a with
  | .cells n c i => (match b with | .cells m d j => Nat.beq n m && i == j && eqTr c d | _ => false)
  | .map [] c => (match b with | .map [] d => Nat.beq c d | _ => false)
  | _ => false
theorem eqBk_ok {a b : Blk} (h : eqBk a b = true) : a = b := by
  unfold eqBk at h
  split at h
  · split at h
    · simp only [Bool.and_eq_true, beq_iff_eq] at h
      rw [Nat.eq_of_beq_eq_true h.1.1, h.1.2, eqTr_ok h.2]
    · cases h
  · split at h
    · rw [Nat.eq_of_beq_eq_true h]
    · cases h
  · cases h
def idOf : AV → Option Nat
  | .ptr i _ => some i
  | .slice i _ _ _ => some i
  | .map i => some i
  | _ => none
theorem idOf_at (k : AK) (id : Nat) : idOf (k.at id) = some id := by cases k <;> rfl
end
end Go.Proofs.YtiigjiaodmlfnaaGreatDoor.Am
namespace Go.Proofs.YtiigjiaodmlfnaaGreatDoor.Am
open Go.RowKit
noncomputable section
inductive It where
  | code (c : Code)
  | inBlock (id : Nat)
  | inLoop (body : Code)
  | inScope (body : Code)
  | reg (ops : Array Oper) (rest : List Oper)
  | dreg (ops : Array Oper) (cur rest : List PS)
  | rangeFunc (l : Nat)
  | endRangeFunc (l : Nat)
  | beginRound
structure F where
  fn : FuncId
  nt : Nat
  tmps : T AV
  todo : List It
  defers : List Nat
  round : Option Nat
inductive St where
  | run (f : F) (cs : List F) (h : H)
  | done (v : AV) (h : H)
  | stuck (why : Nat)
def RIt (φ : Phi) : It → Item → Prop
  | .code c, x => x = .code c
  | .inBlock id, x => x = .inBlock id
  | .inLoop b, x => x = .inLoop b
  | .inScope b, x => x = .inScope b
  | .reg ops rest, x => ∃ i, x = .inRegion ops ((List.range ops.size).drop i) ∧ rest = ops.toList.drop i
  | .dreg _ _ _, _ => False
  | .rangeFunc l, x => ∃ p, φ l = some p ∧ x = .inRangeFunc p.blk
  | .endRangeFunc l, x => ∃ p, φ l = some p ∧ x = .endRangeFunc p.blk
  | .beginRound, x => x = .beginRound
inductive RIts (φ : Phi) : List It → List Item → Prop where
  | nil : RIts φ [] []
  | cons {i : It} {x : Item} {l : List It} {m : List Item} (h : RIt φ i x) (t : RIts φ l m) : RIts φ (i :: l) (x :: m)
inductive RDs (φ : Phi) : List Nat → List Deferred → Prop where
  | nil : RDs φ [] []
  | cons {i : Nat} {p : PB} {l : List Nat} {m : List Deferred} (h : φ i = some p) (t : RDs φ l m) : RDs φ (i :: l) ({ target := .collected p.blk, args := #[] } :: m)
structure RDr (C : Ctx) (φ : Phi) (ops : Array Oper) (cur rest : List PS) (tmps : T AV) (tm : Array Value) (l : List Nat) (rs : List (Nat × Nat)) (pre : List PS) (D : List Nat) : Prop where
  valid : Valid C ops.toList (pre ++ rest)
  sched : Sched ops.toList D l
  closed : Closed ops.toList D
  sub : ∀ i ∈ D, i ∈ pre.map PS.i
  loud : ∀ s ∈ pre, s.k = .l → s.i ∈ D
  curm : ∀ s ∈ pre, s.k ≠ .l → s.i ∉ D → s ∈ cur
  curp : ∀ s ∈ cur, s ∈ pre ∧ s.k ≠ .l
  tmp : ∀ t av, tmps.get t = some av → t < tm.size ∧ ((∀ s ∈ pre, s.i ∉ D → s.o.dst ≠ some t) → RV φ av (tm.getD t undef))
  ids : ∀ s ∈ pre, s.k = .a → s.i ∉ D → ∀ d v, s.o.dst = some d → tmps.get d = some v → ∀ id, idOf v = some id → (s.i, id) ∈ rs
theorem RDr.mono {C : Ctx} {φ ψ : Phi} (hle : φ.le ψ) {ops : Array Oper} {cur rest : List PS} {tmps : T AV} {tm : Array Value} {l : List Nat} {rs : List (Nat × Nat)} {pre : List PS} {D : List Nat} (h : RDr C φ ops cur rest tmps tm l rs pre D) : RDr C ψ ops cur rest tmps tm l rs pre D :=
  ⟨h.valid, h.sched, h.closed, h.sub, h.loud, h.curm, h.curp, fun t av e => ⟨(h.tmp t av e).1, fun hh => ((h.tmp t av e).2 hh).mono hle⟩, h.ids⟩
inductive RTd (C : Ctx) (φ : Phi) (tmps : T AV) (tm : Array Value) : List It → List Item → List (Nat × Nat) → Prop where
  | plain {k : List It} {td : List Item} (ht : RT φ tmps tm) (hi : RIts φ k td) : RTd C φ tmps tm k td []
  | drawn {ops : Array Oper} {cur rest : List PS} {k : List It} {td : List Item} {l : List Nat} {rs : List (Nat × Nat)} {pre : List PS} {D : List Nat} (hd : RDr C φ ops cur rest tmps tm l rs pre D) (hi : RIts φ k td) :
      RTd C φ tmps tm (.dreg ops cur rest :: k) (.inRegion ops l :: td) rs
def RRd (φ : Phi) (r : Option Nat) (rd : Option Nat) : Prop := match r with | none => rd = none | some l => ∃ p, φ l = some p ∧ rd = some p.blk
structure RF (C : Ctx) (φ : Phi) (f : F) (tm : Array Value) (td : List Item) (df : List Deferred) (rd : Option Nat) (rs : List (Nat × Nat)) : Prop where
  size : tm.size = f.nt
  todo : RTd C φ f.tmps tm f.todo td rs
  defers : RDs φ f.defers df
  round : RRd φ f.round rd
def Waits : List It → List Item → Prop
  | .dreg _ _ rest :: _, td => ∃ s rest' ops l td', rest = s :: rest' ∧ s.k = .l ∧ td = .inRegion ops (s.i :: l) :: td'
  | _, _ => True
inductive RFs (C : Ctx) (φ : Phi) : List F → List Frame → List (Nat × Nat) → Prop where
  | nil : RFs C φ [] [] []
  | cons {f : F} {tm : Array Value} {td : List Item} {df : List Deferred} {rd : Option Nat} {rs : List (Nat × Nat)} {l : List F} {m : List Frame} {rss : List (Nat × Nat)} (h : RF C φ f tm td df rd rs) (hw : Waits f.todo td) (t : RFs C φ l m rss) : RFs C φ (f :: l) (mkF f.fn tm td df rd :: m) (rs ++ rss)
theorem RIt.mono {φ ψ : Phi} (hle : φ.le ψ) {i : It} {x : Item} (h : RIt φ i x) : RIt ψ i x := by
  cases i with
  | rangeFunc l => obtain ⟨p, a, b⟩ := h; exact ⟨p, hle _ _ a, b⟩
  | endRangeFunc l => obtain ⟨p, a, b⟩ := h; exact ⟨p, hle _ _ a, b⟩
  | _ => exact h
theorem RIts.mono {φ ψ : Phi} (hle : φ.le ψ) : ∀ {l : List It} {m : List Item}, RIts φ l m → RIts ψ l m
  | _, _, .nil => .nil
  | _, _, .cons h t => .cons (h.mono hle) (RIts.mono hle t)
theorem RDs.mono {φ ψ : Phi} (hle : φ.le ψ) : ∀ {l : List Nat} {m : List Deferred}, RDs φ l m → RDs ψ l m
  | _, _, .nil => .nil
  | _, _, .cons h t => .cons (hle _ _ h) (RDs.mono hle t)
theorem RRd.mono {φ ψ : Phi} (hle : φ.le ψ) {r rd : Option Nat} (h : RRd φ r rd) : RRd ψ r rd := by
  cases r with
  | none => exact h
  | some l => obtain ⟨p, a, b⟩ := h; exact ⟨p, hle _ _ a, b⟩
theorem RTd.mono {C : Ctx} {φ ψ : Phi} (hle : φ.le ψ) {tmps : T AV} {tm : Array Value} {k : List It} {td : List Item} {rs : List (Nat × Nat)} (h : RTd C φ tmps tm k td rs) : RTd C ψ tmps tm k td rs := by
  cases h with
  | plain ht hi => exact .plain (ht.mono hle) (hi.mono hle)
  | drawn hd hi => exact .drawn (hd.mono hle) (hi.mono hle)
theorem RF.mono {C : Ctx} {φ ψ : Phi} (hle : φ.le ψ) {f : F} {tm : Array Value} {td : List Item} {df : List Deferred} {rd : Option Nat} {rs : List (Nat × Nat)} (h : RF C φ f tm td df rd rs) : RF C ψ f tm td df rd rs :=
  ⟨h.size, h.todo.mono hle, h.defers.mono hle, h.round.mono hle⟩
theorem RFs.mono {C : Ctx} {φ ψ : Phi} (hle : φ.le ψ) {l : List F} {m : List Frame} {rss : List (Nat × Nat)} (h : RFs C φ l m rss) : RFs C ψ l m rss := by
  induction h with
  | nil => exact .nil
  | cons h hw t ih => exact .cons (h.mono hle) hw ih
def idsOf (rs : List (Nat × Nat)) : List Nat := rs.map (·.2)
structure RRun (P : Program) (C : Ctx) (W : World) (φ : Phi) (f : F) (cs : List F) (h : H) (tm : Array Value) (td : List Item) (df : List Deferred) (rd : Option Nat) (frs : List Frame) (w : World) (rs rss : List (Nat × Nat)) : Prop where
  top : RF C φ f tm td df rd rs
  below : RFs C φ cs frs rss
  heap : RH ⟨W, idsOf rs ++ idsOf rss⟩ φ h w
  nodup : (idsOf rs ++ idsOf rss).Nodup
def bot (f : F) : List F → FuncId
  | [] => f.fn
  | g :: l => bot g l
inductive RSt (P : Program) (C : Ctx) (W : World) (f0 : FuncId) (outer : List Frame) : St → Machine → Prop where
  | run {φ : Phi} {f : F} {cs : List F} {h : H} {tm : Array Value} {td : List Item} {df : List Deferred} {rd : Option Nat} {frs : List Frame} {w : World} {rs rss : List (Nat × Nat)} (hr : RRun P C W φ f cs h tm td df rd frs w rs rss) (hb : bot f cs = f0) :
      RSt P C W f0 outer (.run f cs h) (lone (mkF f.fn tm td df rd) (frs ++ outer) w)
  | done {φ : Phi} {v : AV} {v' : Value} {h : H} {fr : Frame} {w : World} (hv : RV φ v v') (hR : RH ⟨W, []⟩ φ h w) (hl : fr.leaving P w (.returned v')) (hf : fr.fn = f0) : RSt P C W f0 outer (.done v h) (lone fr outer w)
  | stuck {n : Nat} {m : Machine} : RSt P C W f0 outer (.stuck n) m
end
end Go.Proofs.YtiigjiaodmlfnaaGreatDoor.Am
namespace Go.Proofs.YtiigjiaodmlfnaaGreatDoor.Am
open Go.RowKit
noncomputable section
theorem get_set_ne {α : Type} (t : T α) : ∀ (k : Nat) (x : Option α) (k' : Nat), k' ≠ k → (t.set k x).get k' = t.get k' := by
  induction t with
  | e =>
    intro k x k' h
    rw [T.get_e, T.set_e]
    cases hg : (T.one 40 k x).get k' with
    | none => rfl
    | some y => exact absurd (T.get_one 40 k x k' y hg).1 h
  | n l v r ihl ihr =>
    intro k x k' h
    rw [T.set_n]
    by_cases h0 : k = 0
    · have hk : ¬ k' = 0 := by omega
      rw [if_pos h0, T.get_n, T.get_n, if_neg hk, if_neg hk]
    · rw [if_neg h0]
      by_cases h2 : k % 2 = 1
      · rw [if_pos h2, T.get_n, T.get_n]
        by_cases h1 : k' = 0
        · rw [if_pos h1, if_pos h1]
        · rw [if_neg h1, if_neg h1]
          by_cases h3 : k' % 2 = 1
          · rw [if_pos h3, if_pos h3]
            exact ihl _ _ _ (by omega)
          · rw [if_neg h3, if_neg h3]
      · rw [if_neg h2, T.get_n, T.get_n]
        by_cases h1 : k' = 0
        · rw [if_pos h1, if_pos h1]
        · rw [if_neg h1, if_neg h1]
          by_cases h3 : k' % 2 = 1
          · rw [if_pos h3, if_pos h3]
          · rw [if_neg h3, if_neg h3]
            exact ihr _ _ _ (by omega)
def dels (t : T AV) : List Nat → T AV
  | [] => t
  | k :: l => (dels t l).del k
theorem get_dels {t : T AV} : ∀ {l : List Nat} {k : Nat} {v : AV}, (dels t l).get k = some v → k ∉ l ∧ t.get k = some v
  | [], _, _, h => ⟨by simp, h⟩
  | x :: l, k, v, h => by
    obtain ⟨h1, h2⟩ := T.get_del h
    obtain ⟨h3, h4⟩ := get_dels h2
    exact ⟨by simp only [List.mem_cons, not_or]; exact ⟨h1, h3⟩, h4⟩
theorem get_dels_ne {t : T AV} : ∀ {l : List Nat} {k : Nat}, k ∉ l → (dels t l).get k = t.get k
  | [], _, _ => rfl
  | x :: l, k, h => by
    simp only [List.mem_cons, not_or] at h
    show ((dels t l).set x none).get k = _
    rw [get_set_ne _ _ _ _ h.1, get_dels_ne h.2]
def undA : AV := .tup []
theorem undA_RV (φ : Phi) : RV φ undA undef := .tup .nil
def dstA (ops : Array Oper) (j : Nat) : Option Tmp := match ops[j]? with | some o => o.dst | none => none
def gB (want : Bool) (v : Option AV) : Option Bool :=
  match v with
  | some (.bool b) => some (b == want)
  | some (.tup []) => some false
  | _ => none
def guardA (ops : Array Oper) (tmps : T AV) (o : Oper) : Option Bool :=
  match o.guard with
  | none => some true
  | some (j, want) => (match dstA ops j with
    | some d => gB want (tmps.get d)
    | none => none)
theorem guardA_ok {φ : Phi} {ops : Array Oper} {tmps : T AV} {tm : Array Value} {o : Oper} {b : Bool} (hg : guardA ops tmps o = some b) (ht : ∀ t ∈ gdst ops.toList o, ∀ av, tmps.get t = some av → t < tm.size ∧ RV φ av (tm.getD t undef)) : Region.wanted o (yielded ops tm) = b := by
  unfold guardA at hg
  unfold Region.wanted
  split at hg
  · rename_i h
    rw [h]
    cases hg
    rfl
  · rename_i j want h
    rw [h]
    split at hg
    · rename_i d hd
      have hd' : (ops[j]?).bind (·.dst) = some d := by
        unfold dstA at hd
        split at hd
        · rename_i o' ho'
          rw [ho']
          exact hd
        · cases hd
      have hm : d ∈ gdst ops.toList o := by
        unfold gdst
        rw [h]
        simp only
        have : dstAt ops.toList j = some d := by
          unfold dstAt
          rw [Array.getElem?_toList]
          exact hd
        rw [this]
        simp
      unfold gB at hg
      split at hg
      · rename_i b' hb
        obtain ⟨h1, h2⟩ := ht d hm _ hb
        have hv : tm[d]? = some (.bool b') := by
          rw [Array.getElem?_eq_getElem h1]
          have : tm.getD d undef = tm[d] := by simp [h1]
          rw [this] at h2
          generalize tm[d] = x at h2
          cases h2
          rfl
        simp only [yielded, hd', Option.bind_some, hv]
        have hg' := Option.some.inj hg
        rw [← hg']
        cases b' <;> cases want <;> rfl
      · rename_i hb
        obtain ⟨h1, h2⟩ := ht d hm _ hb
        have hv : tm[d]? = some (.tuple #[]) := by
          rw [Array.getElem?_eq_getElem h1]
          have : tm.getD d undef = tm[d] := by simp [h1]
          rw [this] at h2
          generalize tm[d] = x at h2
          cases h2 with
          | tup ha => cases ha; rfl
        simp only [yielded, hd', Option.bind_some, hv]
        cases hg
        rfl
      · cases hg
    · cases hg
def stored (tmps : T AV) (d : Option Tmp) (v : AV) : Bool := match d with | some d => eqOp (tmps.get d) (some v) | none => true
def chkQ (tmps : T AV) (d : Option Tmp) (r : R) : Bool := match r with | .val v _ => stored tmps d v | _ => false
def chkB (h : H) (id : Nat) (v : AV) (a : Option (AK × Blk)) : Bool :=
  match a with
  | some (k, b) => (match h.h.get id with
    | some b' => eqBk b' b && eqAV (k.at id) v
    | none => false)
  | none => false
def chkA (C : Ctx) (h : H) (tmps : T AV) (o : Op) (v : Option AV) : Bool :=
  match v with
  | some v => (match idOf v with
    | some id => chkB h id v (allocOf C tmps o)
    | none => false)
  | none => false
def getO (tmps : T AV) (d : Option Tmp) : Option AV := match d with | some d => tmps.get d | none => none
def chkW (C : Ctx) (h : H) (tmps : T AV) (s : PS) (g : Option Bool) : Bool :=
  match g with
  | none => false
  | some false => stored tmps s.o.dst undA
  | some true => (match s.k with
    | .q => chkQ tmps s.o.dst (execR C h tmps s.o.op)
    | .a => chkA C h tmps s.o.op (getO tmps s.o.dst)
    | .l => false)
def chk1 (C : Ctx) (h : H) (ops : Array Oper) (tmps : T AV) (s : PS) : Bool := chkW C h tmps s (guardA ops tmps s.o)
def chkCur (C : Ctx) (h : H) (ops : Array Oper) (tmps : T AV) : List PS → Bool
  | [] => true
  | s :: l => cond (chk1 C h ops tmps s) (chkCur C h ops tmps l) false
theorem chkCur_ok {C : Ctx} {h : H} {ops : Array Oper} {tmps : T AV} : ∀ {l : List PS}, chkCur C h ops tmps l = true → ∀ s ∈ l, chk1 C h ops tmps s = true
  | [], _, _, h => by cases h
  | x :: l, hc, s, hs => by
    unfold chkCur at hc
    cases hx : chk1 C h ops tmps x with
    | false => rw [hx] at hc; cases hc
    | true =>
      rw [hx] at hc
      rcases List.mem_cons.1 hs with rfl | hs
      · exact hx
      · exact chkCur_ok hc s hs
theorem RH.made {W : World} {R1 R2 : List Nat} {φ : Phi} {h : H} {w : World} (hR : RH ⟨W, R1⟩ φ h w) {id N n : Nat} {b : Blk} {o : Obj} (hid : φ id = none) (hlt : id < h.next) (hg : h.h.get id = some b) (hb : RB (φ.add id ⟨w.heap.size, 0, N⟩) ⟨w.heap.size, 0, N⟩ b o)
    (hrs : ∀ x ∈ R2, x ∈ R1 ∧ x ≠ id) : RH ⟨W, R2⟩ (φ.add id ⟨w.heap.size, 0, N⟩) h (World.alloc { w with drawn := n } o) := by
  have hle : φ.le (φ.add id ⟨w.heap.size, 0, N⟩) := Phi.le_add hid
  have old : ∀ i, i ≠ id → (φ.add id ⟨w.heap.size, 0, N⟩) i = φ i := fun i hi => by unfold Phi.add; rw [if_neg hi]
  have hsz : (World.alloc { w with drawn := n } o).heap.size = w.heap.size + 1 := World.size_alloc _ o
  have hbl : ∀ k, k < w.heap.size → (World.alloc { w with drawn := n } o).heap[k]? = w.heap[k]? := fun k hk => Below.heap_alloc { w with drawn := n } o k hk
  refine ⟨?_, ?_, ?_, ?_, ?_, ?_⟩
  · intro i b1 q g1 h1
    by_cases hi : i = id
    · subst hi
      rw [Phi.add_at] at h1
      cases h1
      rw [hg] at g1
      cases g1
      refine ⟨o, ?_, hb⟩
      show (w.heap.push o)[w.heap.size]? = some o
      simp
    · rw [old _ hi] at h1
      obtain ⟨o', h2, h3⟩ := hR.blk i b1 q g1 h1
      exact ⟨o', (hbl _ (hR.own i q h1).2).trans h2, h3.mono hle⟩
  · intro i j b1 b2 p1 p2 g1 g2 e1 e2 e
    by_cases hi : i = id
    · by_cases hj : j = id
      · rw [hi, hj]
      · subst hi
        rw [Phi.add_at] at e1
        cases e1
        rw [old _ hj] at e2
        have := (hR.own _ _ e2).2
        simp only at e
        omega
    · rw [old _ hi] at e1
      by_cases hj : j = id
      · subst hj
        rw [Phi.add_at] at e2
        cases e2
        have := (hR.own _ _ e1).2
        simp only at e
        omega
      · rw [old _ hj] at e2
        exact hR.inj _ _ _ _ _ _ g1 g2 e1 e2 e
  · intro i q e
    rw [hsz]
    by_cases hi : i = id
    · subst hi
      rw [Phi.add_at] at e
      cases e
      exact ⟨hR.bel.size, by simp only; omega⟩
    · rw [old _ hi] at e
      have := hR.own _ _ e
      exact ⟨this.1, by omega⟩
  · intro i hi
    have := hR.fresh i hi
    exact ⟨by rw [old _ (by omega)]; exact this.1, this.2⟩
  · have hb : Below W.heap.size W { w with drawn := n } := ⟨hR.bel.os, hR.bel.tape, hR.bel.output, hR.bel.size, hR.bel.block⟩
    exact hb.alloc hR.bel.size o
  · intro x hx
    obtain ⟨h1, h2⟩ := hrs x hx
    have := hR.rsv x h1
    exact ⟨by rw [old _ h2]; exact this.1, this.2⟩
theorem putT_get {tm : Array Value} {dst : Option Tmp} {v : Value} {t : Nat} (h : dst ≠ some t) : (putT tm dst v).getD t undef = tm.getD t undef := by
  unfold putT
  cases dst with
  | none => rfl
  | some d =>
    have hne : d ≠ t := fun e => h (by rw [e])
    rw [Array.getD_eq_getD_getElem?, Array.getElem?_setIfInBounds_ne hne, ← Array.getD_eq_getD_getElem?]
theorem putT_at {tm : Array Value} {v : Value} {t : Nat} (h : t < tm.size) : (putT tm (some t) v).getD t undef = v := by
  unfold putT
  rw [Array.getD_eq_getD_getElem?, Array.getElem?_setIfInBounds_self_of_lt h]
  rfl
theorem putT_size (tm : Array Value) (dst : Option Tmp) (v : Value) : (putT tm dst v).size = tm.size := by
  unfold putT
  cases dst <;> simp
section
variable {P : Program} {W : World} {φ : Phi} {h : H} {w : World} {C : Ctx} {tmps : T AV} {ops : Array Oper} {cur rest : List PS} {tm : Array Value} {rs : List (Nat × Nat)} {R : List Nat} {pre : List PS} {D : List Nat}
theorem sure_of {l : List Nat} (hd : RDr C φ ops cur rest tmps tm l rs pre D) {s : PS} (hs : s ∈ pre ++ rest) (hp : ∀ e ∈ prd s.o, e ∈ D) : ∀ t ∈ reads ops.toList s.o, ∀ r ∈ pre, r.i ∉ D → r.o.dst ≠ some t := by
  intro t ht r hr hn e
  rcases hd.valid.read r (List.mem_append_left _ hr) s hs t e ht with h | ⟨h, _⟩
  · exact hn (hp _ h)
  · exact hn (hd.loud r hr h)
theorem evals_sure {l : List Nat} (hd : RDr C φ ops cur rest tmps tm l rs pre D) {fr : Frame} (hfr : fr.tmps = tm) (o : Oper) (hsure : ∀ t ∈ reads ops.toList o, ∀ r ∈ pre, r.i ∉ D → r.o.dst ≠ some t) :
    ∃ t' : T AV, Evals φ t' fr.eval ∧ ∀ x ∈ o.op.operands, evalA t' x = evalA tmps x := by
  let bad : List Nat := (pre.filter fun s => !decide (s.i ∈ D)).filterMap (·.o.dst)
  have hbad : ∀ t, t ∉ bad → ∀ r ∈ pre, r.i ∉ D → r.o.dst ≠ some t := fun t ht r hr hn e => ht (List.mem_filterMap.2 ⟨r, List.mem_filter.2 ⟨hr, by simp [hn]⟩, e⟩)
  have hbad2 : ∀ t ∈ bad, ∃ r ∈ pre, r.i ∉ D ∧ r.o.dst = some t := fun t ht => by
    obtain ⟨r, h1, h2⟩ := List.mem_filterMap.1 ht
    obtain ⟨h3, h4⟩ := List.mem_filter.1 h1
    exact ⟨r, h3, by simpa using h4, h2⟩
  refine ⟨dels tmps bad, evals_of (fun t av e => ?_), fun x hx => ?_⟩
  · obtain ⟨h1, h2⟩ := get_dels e
    obtain ⟨h3, h4⟩ := hd.tmp t av h2
    rw [hfr]
    exact ⟨h3, h4 (hbad t h1)⟩
  · cases x with
    | tmp t =>
      have hr : t ∈ reads ops.toList o := List.mem_append_right _ (mem_tmpsL.2 (by simpa using hx))
      have hn : t ∉ bad := fun hb => by
        obtain ⟨r, h1, h2, h3⟩ := hbad2 t hb
        exact hsure t hr r h1 h2 h3
      show orUnk ((dels tmps bad).get t) = orUnk (tmps.get t)
      rw [get_dels_ne hn]
    | _ => rfl
theorem no_defer {o : Op} (h : qk C o ≠ .l) : ∀ c, o ≠ .defer c := fun c e => h (by rw [e]; rfl)
theorem stored_ok {d : Option Tmp} {v : AV} (h : stored tmps d v = true) {t : Nat} (ht : d = some t) : tmps.get t = some v := by
  subst ht
  exact eqOp_ok h
theorem drain1 (hF : Enters P C) {j : Nat} {l : List Nat} (hR : RH ⟨W, idsOf rs ++ R⟩ φ h w) (hnd : (idsOf rs ++ R).Nodup) (hd : RDr C φ ops cur rest tmps tm (j :: l) rs pre D) (hj : j ∈ pre.map PS.i) (hc : ∀ s ∈ cur, chk1 C h ops tmps s = true) :
    ∃ (φ' : Phi) (tm' : Array Value) (w' : World) (rs' : List (Nat × Nat)), φ.le φ' ∧ RH ⟨W, idsOf rs' ++ R⟩ φ' h w' ∧ (idsOf rs' ++ R).Nodup ∧ RDr C φ' ops cur rest tmps tm' l rs' pre (j :: D) ∧ tm'.size = tm.size ∧
      ∀ (fn : FuncId) (k : List Item) (df : List Deferred) (rd : Option Nat) (cs : List Frame), step P (lone (mkF fn tm (.inRegion ops (j :: l) :: k) df rd) cs w) = .next (lone (mkF fn tm' (.inRegion ops l :: k) df rd) cs w') := by
  obtain ⟨s, hs, rfl⟩ := List.mem_map.1 hj
  have hop := hd.valid.op s (List.mem_append_left _ hs)
  have hsched := hd.sched
  cases hsched with
  | cons ho hn hp ht =>
  rename_i o
  rw [hop.1] at ho
  cases ho
  have hnl : s.k ≠ .l := fun e => hn (hd.loud s hs e)
  have hcur := hd.curm s hs hnl hn
  have hck := hc s hcur
  have hops : ops[s.i]? = some s.o := by rw [← Array.getElem?_toList]; exact hop.1
  have hsure := sure_of hd (List.mem_append_left _ hs) hp
  have hnd' : ∀ c, s.o.op ≠ .defer c := no_defer (C := C) (by rw [← hop.2]; exact hnl)
  have same : ∀ r ∈ pre, r.i = s.i → r.o = s.o := fun r hr e => by
    have := (hd.valid.op r (List.mem_append_left _ hr)).1
    rw [e, hop.1] at this
    exact (Option.some.inj this).symm
  have mk : ∀ (φ' : Phi) (v' : Value) (rs' : List (Nat × Nat)), φ.le φ' → (∀ d av, s.o.dst = some d → tmps.get d = some av → RV φ' av v') → (∀ r ∈ pre, r.i ∉ s.i :: D → ∀ id, (r.i, id) ∈ rs → (r.i, id) ∈ rs') →
      RDr C φ' ops cur rest tmps (putT tm s.o.dst v') l rs' pre (s.i :: D) := fun φ' v' rs' hle hv hrs => by
    refine ⟨hd.valid, ht, fun i hi => ?_, fun i hi => ?_, fun r hr hk => List.mem_cons_of_mem _ (hd.loud r hr hk), fun r hr hk hi => hd.curm r hr hk fun h => hi (List.mem_cons_of_mem _ h), hd.curp, fun t av e => ?_, fun r hr hk hi d v h1 h2 id h3 => ?_⟩
    · rcases List.mem_cons.1 hi with rfl | hi
      · exact ⟨s.o, hop.1, fun e he => List.mem_cons_of_mem _ (hp e he)⟩
      · obtain ⟨o', h1, h2⟩ := hd.closed i hi
        exact ⟨o', h1, fun e he => List.mem_cons_of_mem _ (h2 e he)⟩
    · rcases List.mem_cons.1 hi with rfl | hi
      · exact hj
      · exact hd.sub i hi
    · obtain ⟨h1, h2⟩ := hd.tmp t av e
      rw [putT_size]
      refine ⟨h1, fun hh => ?_⟩
      by_cases hdt : s.o.dst = some t
      · rw [hdt, putT_at h1]
        exact hv t av hdt e
      · rw [putT_get hdt]
        refine (h2 fun r hr hi => ?_).mono hle
        by_cases hri : r.i = s.i
        · rw [same r hr hri]; exact hdt
        · exact hh r hr (by simp only [List.mem_cons, not_or]; exact ⟨hri, hi⟩)
    · exact hrs r hr hi id (hd.ids r hr hk (fun h => hi (List.mem_cons_of_mem _ h)) d v h1 h2 id h3)
  unfold chk1 chkW at hck
  have hgt : ∀ t ∈ gdst ops.toList s.o, ∀ av, tmps.get t = some av → t < tm.size ∧ RV φ av (tm.getD t undef) := fun t htm av e => by
    obtain ⟨h1, h2⟩ := hd.tmp t av e
    exact ⟨h1, h2 (hsure t (List.mem_append_left _ htm))⟩
  split at hck
  · cases hck
  · rename_i hg
    have hw := guardA_ok hg hgt
    refine ⟨φ, putT tm s.o.dst undef, w, rs, φ.le_refl, hR, hnd, mk φ undef rs φ.le_refl (fun d av hdd e => ?_) (fun _ _ _ _ h => h), putT_size _ _ _, fun fn k df rd cs => st_op_skip hops hw⟩
    rw [stored_ok hck hdd] at e
    cases e
    exact undA_RV φ
  · rename_i hg
    have hw := guardA_ok hg hgt
    have hfr : (mkF 0 tm [] [] none).tmps = tm := rfl
    obtain ⟨t', hE, hcg⟩ := evals_sure hd hfr s.o hsure
    have heval : ∀ (fn : FuncId) (td : List Item) (df : List Deferred) (rd : Option Nat), (mkF fn tm td df rd).eval = (mkF 0 tm [] [] none).eval := fun fn td df rd => by
      funext x
      cases x <;> rfl
    split at hck
    · rename_i hk
      unfold chkQ at hck
      split at hck
      · rename_i v hx hex
        have hkeep := quiet_heap (C := C) (h := h) (tmps := tmps) s.o.op (by rw [← hop.2]; exact hk)
        rw [hex] at hkeep
        have hkeep' : hx = h := hkeep
        subst hkeep'
        have hok := exec_ok hF hR hE s.o
        rw [execR_congr s.o.op hcg, hex] at hok
        obtain ⟨ψ, v', w', n, h1, h2, h3, h4, h5⟩ := hok
        refine ⟨ψ, putT tm s.o.dst v', w', rs, h1, h2, hnd, mk ψ v' rs h1 (fun d av hdd e => ?_) (fun _ _ _ _ h => h), putT_size _ _ _, fun fn k df rd cs => st_op_value hops hw hnd' (by rw [heval]; exact h4) h5⟩
        rw [stored_ok hck hdd] at e
        cases e
        exact h3
      · cases hck
    · rename_i hk
      unfold chkA at hck
      split at hck
      · rename_i v hv
        have hdv : ∃ d, s.o.dst = some d ∧ tmps.get d = some v := by
          unfold getO at hv
          split at hv
          · rename_i d hdd
            exact ⟨d, hdd, hv⟩
          · cases hv
        obtain ⟨d, hdd, hdv⟩ := hdv
        split at hck
        · rename_i id hid
          have hmem := hd.ids s hs hk hn d v hdd hdv id hid
          unfold chkB at hck
          split at hck
          · rename_i kk b hal
            split at hck
            · rename_i b' hgb
              simp only [Bool.and_eq_true] at hck
              have e1 := eqBk_ok hck.1
              have e2 := eqAV_ok hck.2
              subst e1
              have hok := allocOf_ok (w := w) hF.ty hE s.o (by rw [allocOf_congr s.o.op hcg]; exact hal)
              obtain ⟨v', n, N, ob, r1, r2⟩ := hok
              have hids : id ∈ idsOf rs := List.mem_map.2 ⟨_, hmem, rfl⟩
              have hrsv := hR.rsv id (List.mem_append_left _ hids)
              obtain ⟨r3, r4⟩ := r2 (φ.add id ⟨w.heap.size, 0, N⟩) id (Phi.le_add hrsv.1) (Phi.add_at _ _ _)
              have hsub : (idsOf (rs.filter fun x => decide (x.2 ≠ id)) ++ R).Sublist (idsOf rs ++ R) := List.Sublist.append (List.Sublist.map _ List.filter_sublist) (List.Sublist.refl _)
              refine ⟨φ.add id ⟨w.heap.size, 0, N⟩, putT tm s.o.dst v', World.alloc { w with drawn := n } ob, rs.filter fun x => decide (x.2 ≠ id), Phi.le_add hrsv.1, hR.made hrsv.1 hrsv.2 hgb r3 (fun x hx => ⟨hsub.subset hx, ?_⟩), hnd.sublist hsub, mk _ v' _ (Phi.le_add hrsv.1) (fun d' av hdd' e => ?_) (fun r hr hi id' hm => ?_), putT_size _ _ _,
                fun fn k df rd cs => st_op_value hops hw hnd' (by rw [heval]; exact r1) (.inl rfl)⟩
              · rintro rfl
                rcases List.mem_append.1 hx with hx | hx
                · obtain ⟨y, hy, e⟩ := List.mem_map.1 hx
                  have := (List.mem_filter.1 hy).2
                  simp only [decide_eq_true_eq] at this
                  exact this e
                · exact (List.nodup_append.1 hnd).2.2 _ hids _ hx rfl
              · rw [hdd] at hdd'
                cases hdd'
                rw [hdv] at e
                cases e
                rw [← e2]
                exact r4
              · refine List.mem_filter.2 ⟨hm, ?_⟩
                simp only [decide_eq_true_eq]
                rintro rfl
                have hnd2 : (rs.map (·.2)).Nodup := (List.nodup_append.1 hnd).1
                have : ∀ (l : List (Nat × Nat)), (l.map (·.2)).Nodup → ∀ a b c, (a, c) ∈ l → (b, c) ∈ l → a = b := by
                  intro l
                  induction l with
                  | nil => intro _ a b c h; cases h
                  | cons x l ih =>
                    intro hn a b c h1 h2
                    simp only [List.map_cons, List.nodup_cons] at hn
                    rcases List.mem_cons.1 h1 with e1 | h1'
                    · rcases List.mem_cons.1 h2 with e2 | h2'
                      · rw [← e2] at e1
                        exact (Prod.mk.inj e1).1
                      · exact absurd (show x.2 ∈ l.map (·.2) from List.mem_map.2 ⟨(b, c), h2', by rw [← e1]⟩) hn.1
                    · rcases List.mem_cons.1 h2 with e2 | h2'
                      · exact absurd (show x.2 ∈ l.map (·.2) from List.mem_map.2 ⟨(a, c), h1', by rw [← e2]⟩) hn.1
                      · exact ih hn.2 a b c h1' h2'
                have := this rs hnd2 _ _ _ hm hmem
                exact hi (by rw [this]; exact List.mem_cons_self)
            · cases hck
          · cases hck
        · cases hck
      · cases hck
    · rename_i hk
      cases hck
theorem drain (hF : Enters P C) (hc : ∀ s ∈ cur, chk1 C h ops tmps s = true) : ∀ {l : List Nat} {φ : Phi} {w : World} {tm : Array Value} {rs : List (Nat × Nat)} {D : List Nat}, RH ⟨W, idsOf rs ++ R⟩ φ h w → (idsOf rs ++ R).Nodup → RDr C φ ops cur rest tmps tm l rs pre D →
    ∃ (φ' : Phi) (tm' : Array Value) (w' : World) (rs' : List (Nat × Nat)) (l' D' : List Nat), φ.le φ' ∧ RH ⟨W, idsOf rs' ++ R⟩ φ' h w' ∧ (idsOf rs' ++ R).Nodup ∧ RDr C φ' ops cur rest tmps tm' l' rs' pre D' ∧ tm'.size = tm.size ∧ (∀ j l'', l' = j :: l'' → j ∉ pre.map PS.i) ∧
      ∀ (fn : FuncId) (k : List Item) (df : List Deferred) (rd : Option Nat) (cs : List Frame), Steps P (lone (mkF fn tm (.inRegion ops l :: k) df rd) cs w) (lone (mkF fn tm' (.inRegion ops l' :: k) df rd) cs w') := by
  intro l
  induction l with
  | nil =>
    intro φ w tm rs D hR hnd hd
    exact ⟨φ, tm, w, rs, [], D, φ.le_refl, hR, hnd, hd, rfl, (fun j l'' e => by cases e), fun fn k df rd cs => Steps.refl _ _⟩
  | cons j l ih =>
    intro φ w tm rs D hR hnd hd
    by_cases hj : j ∈ pre.map PS.i
    · obtain ⟨φ1, tm1, w1, rs1, a1, a2, a3, a4, a5, a6⟩ := drain1 hF hR hnd hd hj hc
      obtain ⟨φ2, tm2, w2, rs2, l2, D2, b1, b2, b3, b4, b5, b6, b7⟩ := ih a2 a3 a4
      exact ⟨φ2, tm2, w2, rs2, l2, D2, Phi.le_trans a1 b1, b2, b3, b4, b5.trans a5, b6, fun fn k df rd cs => Steps.head (a6 fn k df rd cs) (b7 fn k df rd cs)⟩
    · exact ⟨φ, tm, w, rs, j :: l, D, φ.le_refl, hR, hnd, hd, rfl, (fun j' l'' e => by cases e; exact hj), fun fn k df rd cs => Steps.refl _ _⟩
end
end
end Go.Proofs.YtiigjiaodmlfnaaGreatDoor.Am
namespace Go.Proofs.YtiigjiaodmlfnaaGreatDoor.Am
open Go.RowKit
noncomputable section
abbrev Orc := H → List AV → Option (AV × H)
structure M where
  C : Ctx
  O : T Orc
def putD (nt : Nat) (tmps : T AV) (d : Option Tmp) (v : AV) : T AV :=
  match d with
  | some d => cond (Nat.blt d nt) (tmps.put d v) tmps
  | none => tmps
def bodyOf (fn : Func) : Code := match fn.body with | some c => c | none => .refuse "unsupported: a function without a Go body is entered"
def enterF (fn : Func) (f : FuncId) (args : List AV) : F := ⟨f, Nat.add args.length (Nat.sub fn.ntmps args.length), T.ofList args, [.code (bodyOf fn)], [], none⟩
def keepCur (anc : List Nat) : List PS → List PS
  | [] => []
  | s :: l => cond (memN s.i anc) (keepCur anc l) (s :: keepCur anc l)
def finishI (fn : FuncId) (nt : Nat) (tmps : T AV) (defers : List Nat) (round : Option Nat) (v : AV) (k : List It) (i : It) : Option F :=
  match i with
  | .reg ops l => (match l with
    | o :: rest => some ⟨fn, nt, putD nt tmps o.dst v, .reg ops rest :: k, defers, round⟩
    | [] => none)
  | .dreg ops cur l => (match l with
    | s :: rest => some ⟨fn, nt, putD nt tmps s.o.dst v, .dreg ops (keepCur s.anc cur) rest :: k, defers, round⟩
    | [] => none)
  | .rangeFunc l => some ⟨fn, nt, tmps, .endRangeFunc l :: k, defers, round⟩
  | _ => none
def finish (f : F) (v : AV) : Option F :=
  match f with
  | ⟨fn, nt, tmps, todo, defers, round⟩ => (match todo with
    | i :: k => finishI fn nt tmps defers round v k i
    | [] => none)
def back (c : Option F) (cs : List F) (h : H) : St := match c with | some c => .run c cs h | none => .stuck 60
def give (v : AV) (cs : List F) (h : H) : St :=
  match cs with
  | [] => .done v h
  | c :: cs => back (finish c v) cs h
def exitA (id : Nat) : List It → Option (List It)
  | .inBlock id' :: k => cond (Nat.beq id' id) (some k) (exitA id k)
  | _ :: k => exitA id k
  | [] => none
def gotoA (l : Nat) : List It → Option (List It)
  | .inScope body :: k => (match findLabel body l with
    | some rest => some (.code rest :: .inScope body :: k)
    | none => gotoA l k)
  | _ :: k => gotoA l k
  | [] => none
def closeAll (h : H) : List Nat → Option H
  | [] => some h
  | r :: l => (match h.h.get r with
    | some (.dfr true) => closeAll (h.upd r (.dfr false)) l
    | _ => none)
def cellV (C : Ctx) (h : H) (t : TypeId) (v : Option AV) : Option AV :=
  match v with
  | some (.ptr id off) => loadV h (C.ty.get t) id off
  | _ => none
def resV (C : Ctx) (h : H) (tmps : T AV) (r : ResultVar) : Option AV :=
  match r with
  | .tmp t => some (orUnk (tmps.get t))
  | .cell a t => cellV C h t (tmps.get a)
def resL (C : Ctx) (h : H) (tmps : T AV) : List ResultVar → Option (List AV)
  | [] => some []
  | r :: l => (match resV C h tmps r with
    | none => none
    | some v => (match resL C h tmps l with
      | none => none
      | some m => some (v :: m)))
def tupOf (l : List AV) : AV :=
  match l with
  | [] => .tup []
  | v :: m => (match m with
    | [] => v
    | _ => .tup (v :: m))
def giveR (cs : List F) (h : H) (o : Option (List AV)) : St := match o with | some vs => give (tupOf vs) cs h | none => .stuck 61
def leaveH (C : Ctx) (tmps : T AV) (cs : List F) (fn : Func) (h : Option H) : St :=
  match h with
  | none => .stuck 62
  | some h => giveR cs h (resL C h tmps fn.results.toList)
def leaveN (C : Ctx) (fn : FuncId) (tmps : T AV) (defers : List Nat) (cs : List F) (h : H) : St :=
  match C.fs.get fn with
  | none => .stuck 63
  | some fn => leaveH C tmps cs fn (closeAll h defers)
def leaveB (l : Nat) (jump : Option Code) (cs : List F) (h : H) (b : Option Blk) : St :=
  match b with
  | some (.loop _ _ fn nt tmps ps as bd df) => (match cs with
    | [] => .stuck 64
    | c :: cs => back (finish c (.bool jump.isNone)) cs (h.upd l (.loop (cond jump.isNone .ready .done) jump fn nt tmps ps as bd df)))
  | _ => .stuck 64
def leave (C : Ctx) (fn : FuncId) (tmps : T AV) (defers : List Nat) (round : Option Nat) (cs : List F) (h : H) (jump : Option Code) (plain : Bool) : St :=
  match round with
  | none => cond plain (leaveN C fn tmps defers cs h) (.stuck 65)
  | some l => leaveB l jump cs h (h.h.get l)
def condS (fn : FuncId) (nt : Nat) (tmps : T AV) (defers : List Nat) (round : Option Nat) (cs : List F) (h : H) (k : List It) (t e : Code) (v : AV) : St :=
  match v with
  | .bool b => .run ⟨fn, nt, tmps, .code (cond b t e) :: k, defers, round⟩ cs h
  | _ => .stuck 66
def exitS (C : Ctx) (fn : FuncId) (nt : Nat) (tmps : T AV) (defers : List Nat) (round : Option Nat) (cs : List F) (h : H) (j : Code) (k : Option (List It)) : St :=
  match k with
  | some k => .run ⟨fn, nt, tmps, k, defers, round⟩ cs h
  | none => leave C fn tmps defers round cs h (some j) false
def enterS (C : Ctx) (g : FuncId) (args : List AV) (f : F) (cs : List F) (h : H) (fn : Option Func) : St :=
  match fn with
  | some fn => .run (enterF fn g args) (f :: cs) h
  | none => .stuck 67
def orcS (X : M) (g : FuncId) (args : List AV) (f : F) (cs : List F) (h : H) (r : Option (AV × H)) : St :=
  match r with
  | some (v, h') => back (finish f v) cs h'
  | none => enterS X.C g args f cs h (X.C.fs.get g)
def callS (X : M) (g : FuncId) (args : List AV) (f : F) (cs : List F) (h : H) (o : Option Orc) : St :=
  match o with
  | some o => orcS X g args f cs h (o h args)
  | none => enterS X.C g args f cs h (X.C.fs.get g)
def upon (X : M) (f : F) (cs : List F) (r : R) : St :=
  match r with
  | .val v h => back (finish f v) cs h
  | .enter g args h => callS X g args f cs h (X.O.get g)
  | .round l g nt tm as bd h => .run ⟨g, nt, tm, [.code as, .beginRound, .code bd], [], some l⟩ (f :: cs) h
  | .stuck n => .stuck n
def rfR (X : M) (l : Nat) (f : F) (cs : List F) (r : R) : St :=
  match r with
  | .enter g args h => enterS X.C g args f cs h (X.C.fs.get g)
  | _ => .stuck 68
def rfS (X : M) (fn : FuncId) (nt : Nat) (tmps : T AV) (defers : List Nat) (round : Option Nat) (cs : List F) (h : H) (k : List It) (fo : Operand) (ps : Array Tmp) (as bd : Code) : St :=
  match round with
  | some _ => .stuck 69
  | none => rfR X (Nat.succ h.next) ⟨fn, nt, tmps, .rangeFunc (Nat.succ h.next) :: k, h.next :: defers, none⟩ cs
      (invokeR X.C ((h.new (.dfr true)).new (.loop .ready none fn nt tmps ps as bd h.next)) (evalA tmps fo) [.yld (Nat.succ h.next)])
def dregS (fn : FuncId) (nt : Nat) (tmps : T AV) (defers : List Nat) (round : Option Nat) (cs : List F) (h : H) (k : List It) (ops : Array Oper) (pl : Option (List PS)) : St :=
  match pl with
  | some pl => .run ⟨fn, nt, tmps, .dreg ops [] pl :: k, defers, round⟩ cs h
  | none => .stuck 70
def codeS (X : M) (fn : FuncId) (nt : Nat) (tmps : T AV) (defers : List Nat) (round : Option Nat) (cs : List F) (h : H) (k : List It) (c : Code) : St :=
  match c with
  | .ret => leave X.C fn tmps defers round cs h (some .ret) true
  | .skip => .run ⟨fn, nt, tmps, k, defers, round⟩ cs h
  | .label _ => .run ⟨fn, nt, tmps, k, defers, round⟩ cs h
  | .seq a b => .run ⟨fn, nt, tmps, .code a :: .code b :: k, defers, round⟩ cs h
  | .cond c t e => condS fn nt tmps defers round cs h k t e (evalA tmps c)
  | .block id b => .run ⟨fn, nt, tmps, .code b :: .inBlock id :: k, defers, round⟩ cs h
  | .loop b => .run ⟨fn, nt, tmps, .code b :: .inLoop b :: k, defers, round⟩ cs h
  | .scope b => .run ⟨fn, nt, tmps, .code b :: .inScope b :: k, defers, round⟩ cs h
  | .exit id => exitS X.C fn nt tmps defers round cs h (.exit id) (exitA id k)
  | .goto l => exitS X.C fn nt tmps defers round cs h (.goto l) (gotoA l k)
  | .region _ ops d => cond d (dregS fn nt tmps defers round cs h k ops (planOf X.C ops.toList)) (.run ⟨fn, nt, tmps, .reg ops ops.toList :: k, defers, round⟩ cs h)
  | .rangeFunc fo ps as bd => rfS X fn nt tmps defers round cs h k fo ps as bd
  | .refuse _ => .stuck 71
def operS (X : M) (fn : FuncId) (nt : Nat) (tmps : T AV) (defers : List Nat) (round : Option Nat) (cs : List F) (h : H) (k : List It) (ops : Array Oper) (o : Oper) (rest : List Oper) (g : Option Bool) : St :=
  match g with
  | some true => upon X ⟨fn, nt, tmps, .reg ops (o :: rest) :: k, defers, round⟩ cs (execR X.C h tmps o.op)
  | some false => .run ⟨fn, nt, putD nt tmps o.dst undA, .reg ops rest :: k, defers, round⟩ cs h
  | none => .stuck 72
def regS (X : M) (fn : FuncId) (nt : Nat) (tmps : T AV) (defers : List Nat) (round : Option Nat) (cs : List F) (h : H) (k : List It) (ops : Array Oper) (l : List Oper) : St :=
  match l with
  | [] => .run ⟨fn, nt, tmps, k, defers, round⟩ cs h
  | o :: rest => operS X fn nt tmps defers round cs h k ops o rest (guardA ops tmps o)
def takeQ (fn : FuncId) (nt : Nat) (tmps : T AV) (defers : List Nat) (round : Option Nat) (cs : List F) (h : H) (k : List It) (ops : Array Oper) (cur : List PS) (s : PS) (rest : List PS) (r : R) : St :=
  match r with
  | .val v _ => .run ⟨fn, nt, putD nt tmps s.o.dst v, .dreg ops (s :: cur) rest :: k, defers, round⟩ cs h
  | .stuck n => .stuck n
  | _ => .stuck 73
def takeA (fn : FuncId) (nt : Nat) (tmps : T AV) (defers : List Nat) (round : Option Nat) (cs : List F) (h : H) (k : List It) (ops : Array Oper) (cur : List PS) (s : PS) (rest : List PS) (r : Option (AK × Blk)) : St :=
  match r with
  | some (a, b) => .run ⟨fn, nt, putD nt tmps s.o.dst (a.at h.next), .dreg ops (s :: cur) rest :: k, defers, round⟩ cs (h.new b)
  | none => .stuck 74
def takeS (X : M) (fn : FuncId) (nt : Nat) (tmps : T AV) (defers : List Nat) (round : Option Nat) (cs : List F) (h : H) (k : List It) (ops : Array Oper) (cur : List PS) (s : PS) (rest : List PS) (g : Option Bool) : St :=
  match g with
  | some true => (match s.k with
    | .q => takeQ fn nt tmps defers round cs h k ops cur s rest (execR X.C h tmps s.o.op)
    | .a => takeA fn nt tmps defers round cs h k ops cur s rest (allocOf X.C tmps s.o.op)
    | .l => upon X ⟨fn, nt, tmps, .dreg ops cur (s :: rest) :: k, defers, round⟩ cs (execR X.C h tmps s.o.op))
  | some false => .run ⟨fn, nt, putD nt tmps s.o.dst undA, .dreg ops (cond (isLoud s.k) (keepCur s.anc cur) (s :: cur)) rest :: k, defers, round⟩ cs h
  | none => .stuck 75
def loudS (X : M) (fn : FuncId) (nt : Nat) (tmps : T AV) (defers : List Nat) (round : Option Nat) (cs : List F) (h : H) (k : List It) (ops : Array Oper) (cur : List PS) (s : PS) (rest : List PS) : St :=
  cond (cond (isLoud s.k) (chkCur X.C h ops tmps cur) true) (takeS X fn nt tmps defers round cs h k ops cur s rest (guardA ops tmps s.o)) (.stuck 76)
def drawS (X : M) (fn : FuncId) (nt : Nat) (tmps : T AV) (defers : List Nat) (round : Option Nat) (cs : List F) (h : H) (k : List It) (ops : Array Oper) (cur : List PS) (l : List PS) : St :=
  match l with
  | [] => cond (chkCur X.C h ops tmps cur) (.run ⟨fn, nt, tmps, k, defers, round⟩ cs h) (.stuck 77)
  | s :: rest => loudS X fn nt tmps defers round cs h k ops cur s rest
def beginB (fn : FuncId) (nt : Nat) (tmps : T AV) (defers : List Nat) (cs : List F) (h : H) (k : List It) (l : Nat) (b : Option Blk) : St :=
  match b with
  | some (.loop .ready p fn' nt' tmps' ps as bd df) => .run ⟨fn, nt, tmps, k, defers, some l⟩ cs (h.upd l (.loop .busy p fn' nt' tmps' ps as bd df))
  | _ => .stuck 78
def beginS (fn : FuncId) (nt : Nat) (tmps : T AV) (defers : List Nat) (round : Option Nat) (cs : List F) (h : H) (k : List It) : St :=
  match round with
  | some l => beginB fn nt tmps defers cs h k l (h.h.get l)
  | none => .stuck 79
def isBusy : LoopState → Bool
  | .busy => true
  | _ => false
def pendL (p : Option Code) (k : List It) : List It := match p with | some c => .code c :: k | none => k
def endB (fn : FuncId) (nt : Nat) (tmps : T AV) (defers : List Nat) (round : Option Nat) (cs : List F) (h : H) (k : List It) (l : Nat) (b : Option Blk) : St :=
  match b with
  | some (.loop s p fn' nt' tmps' ps as bd df) => cond (isBusy s) (.stuck 80) (.run ⟨fn, nt, tmps, pendL p k, defers, round⟩ cs (h.upd l (.loop .exhausted p fn' nt' tmps' ps as bd df)))
  | _ => .stuck 80
def itemS (X : M) (fn : FuncId) (nt : Nat) (tmps : T AV) (defers : List Nat) (round : Option Nat) (cs : List F) (h : H) (k : List It) (i : It) : St :=
  match i with
  | .code c => codeS X fn nt tmps defers round cs h k c
  | .inBlock _ => .run ⟨fn, nt, tmps, k, defers, round⟩ cs h
  | .inScope _ => .run ⟨fn, nt, tmps, k, defers, round⟩ cs h
  | .inLoop b => .run ⟨fn, nt, tmps, .code b :: .inLoop b :: k, defers, round⟩ cs h
  | .reg ops l => regS X fn nt tmps defers round cs h k ops l
  | .dreg ops cur l => drawS X fn nt tmps defers round cs h k ops cur l
  | .rangeFunc _ => .stuck 81
  | .beginRound => beginS fn nt tmps defers round cs h k
  | .endRangeFunc l => endB fn nt tmps defers round cs h k l (h.h.get l)
def todoS (X : M) (fn : FuncId) (nt : Nat) (tmps : T AV) (defers : List Nat) (round : Option Nat) (cs : List F) (h : H) (todo : List It) : St :=
  match todo with
  | [] => leave X.C fn tmps defers round cs h none true
  | i :: k => itemS X fn nt tmps defers round cs h k i
def stepA (X : M) (f : F) (cs : List F) (h : H) : St :=
  match f with
  | ⟨fn, nt, tmps, todo, defers, round⟩ => todoS X fn nt tmps defers round cs h todo
def runA (X : M) : Nat → St → St
  | 0, s => s
  | n + 1, s => (match s with
    | .run f cs h => runA X n (stepA X f cs h)
    | s => s)
section
variable {P : Program} {w0 : Base} {φ : Phi} {h : H} {w : World} {C : Ctx} {tmps : T AV} {tm : Array Value}
theorem resV_ok (hA : Agrees P C) (hR : RH w0 φ h w) (ht : RT φ tmps tm) {r : ResultVar} {v : AV} (hv : resV C h tmps r = some v) :
    ∃ v', (match r with | .tmp t => pure (tm.getD t undef) | .cell a t => do loadVar t (← asAddr (tm.getD a undef)) : Sem Value).run P w = .ok v' w ∧ RV φ v v' := by
  cases r with
  | tmp t =>
    cases hv
    refine ⟨tm.getD t undef, rfl, ?_⟩
    cases e : tmps.get t with
    | none => exact .unk _
    | some v => exact (ht t v e).2
  | cell a t =>
    unfold resV cellV at hv
    simp only at hv
    split at hv
    · rename_i id off e
      obtain ⟨_, hr⟩ := ht a _ e
      show ∃ v', (do loadVar t (← asAddr (tm.getD a undef)) : Sem Value).run P w = .ok v' w ∧ RV φ v v'
      generalize tm.getD a undef = x at hr ⊢
      cases hr with
      | ptr hp =>
        obtain ⟨v', r1, r2⟩ := loadV_ok hA hR hp hv
        exact ⟨v', by simp [asAddr, r1], r2⟩
    · cases hv
theorem resL_ok (hA : Agrees P C) (hR : RH w0 φ h w) (ht : RT φ tmps tm) : ∀ {l : List ResultVar} {vs : List AV}, resL C h tmps l = some vs →
    ∃ us : List Value, (l.mapM (m := Sem) fun r => (match r with | .tmp t => pure (tm.getD t undef) | .cell a t => do loadVar t (← asAddr (tm.getD a undef)) : Sem Value)).run P w = .ok us w ∧ RL φ vs us
  | [], vs, h => by cases h; exact ⟨[], rfl, .nil⟩
  | r :: l, vs, h => by
    unfold resL at h
    split at h
    · cases h
    · rename_i v hv
      split at h
      · cases h
      · rename_i m hm
        cases h
        obtain ⟨v', h1, h2⟩ := resV_ok hA hR ht hv
        obtain ⟨us, h3, h4⟩ := resL_ok hA hR ht hm
        refine ⟨v' :: us, ?_, .cons h2 h4⟩
        rw [List.mapM_cons]
        simp only [Sem.run_bind, h1, h3, Result.andThen_ok, Sem.run_pure]
theorem results_ok (hA : Agrees P C) (hR : RH w0 φ h w) (ht : RT φ tmps tm) {fn : Func} {vs : List AV} (hr : resL C h tmps fn.results.toList = some vs) : ∃ v', (results fn tm).run P w = .ok v' w ∧ RV φ (tupOf vs) v' := by
  obtain ⟨us, h1, h2⟩ := resL_ok hA hR ht hr
  unfold results
  simp only [Sem.run_bind, Array.mapM_eq_mapM_toList]
  have h1' : (List.toArray <$> fn.results.toList.mapM (m := Sem) fun r => (match r with | .tmp t => pure (tm.getD t undef) | .cell a t => do loadVar t (← asAddr (tm.getD a undef)) : Sem Value)).run P w = .ok us.toArray w := by
    simp only [map_eq_pure_bind, Sem.run_bind, h1, Result.andThen_ok, Sem.run_pure]
  refine ⟨if h : us.toArray.size = 1 then us.toArray[0] else .tuple us.toArray, ?_, ?_⟩
  · refine (congrArg (fun r : Result (Array Value) => r.andThen _) (show _ = Result.ok us.toArray w from h1')).trans ?_
    rfl
  · cases h2 with
    | nil => exact .tup .nil
    | cons hv ht =>
      cases ht with
      | nil => simpa [tupOf] using hv
      | cons hv2 ht2 =>
        simp only [tupOf]
        rw [dif_neg (by simp)]
        exact .tup (.cons hv (.cons hv2 ht2))
end
end
end Go.Proofs.YtiigjiaodmlfnaaGreatDoor.Am
namespace Go.Proofs.YtiigjiaodmlfnaaGreatDoor.Am
open Go.RowKit
noncomputable section
def OrcOk (P : Program) (g : FuncId) (o : Orc) : Prop :=
  ∀ (w0 : Base) (φ : Phi) (h h' : H) (w : World) (args : List AV) (args' : List Value) (v : AV), RH w0 φ h w → RL φ args args' → o h args = some (v, h') →
    Calls P g args'.toArray w fun e w' => ∃ (ψ : Phi) (v' : Value), φ.le ψ ∧ e = .returned v' ∧ RH w0 ψ h' w' ∧ RV ψ v v'
def Sim (P : Program) (C : Ctx) (W : World) (f0 : FuncId) (outer : List Frame) (m : Machine) (s : St) : Prop := ∃ m', Steps P m m' ∧ RSt P C W f0 outer s m'
def OrcSim (P : Program) (C : Ctx) (g : FuncId) (o : Orc) : Prop :=
  ∃ fn, C.fs.get g = some fn ∧ ∀ (W : World) (f0 : FuncId) (outer : List Frame) (args : List AV) (gF : F) (cs : List F) (h : H) (v : AV) (h' : H) (m : Machine), o h args = some (v, h') →
    RSt P C W f0 outer (.run (enterF fn g args) (gF :: cs) h) m → Sim P C W f0 outer m (back (finish gF v) cs h')
structure Right (P : Program) (X : M) : Prop where
  en : Enters P X.C
  orc : ∀ g o, X.O.get g = some o → OrcOk P g o ∨ OrcSim P X.C g o
  mix : P.follows .mixedOrders = true
section
variable {P : Program} {X : M} {W : World} {f0 : FuncId} {outer : List Frame} {φ : Phi} {h : H} {w : World} {C : Ctx}
theorem Sim.stuck {m : Machine} {n : Nat} : Sim P C W f0 outer m (.stuck n) := ⟨m, Steps.refl _ _, .stuck⟩
theorem Sim.head {m m1 : Machine} {s : St} (h : step P m = .next m1) (hs : Sim P C W f0 outer m1 s) : Sim P C W f0 outer m s := let ⟨m', a, b⟩ := hs; ⟨m', Steps.head h a, b⟩
theorem Sim.steps {m m1 : Machine} {s : St} (h : Steps P m m1) (hs : Sim P C W f0 outer m1 s) : Sim P C W f0 outer m s := let ⟨m', a, b⟩ := hs; ⟨m', Steps.trans h a, b⟩
theorem Sim.now {m : Machine} {s : St} (h : RSt P C W f0 outer s m) : Sim P C W f0 outer m s := ⟨m, Steps.refl _ _, h⟩
theorem RT.putD {tmps : T AV} {tm : Array Value} {nt : Nat} (hn : tm.size = nt) (ht : RT φ tmps tm) (d : Option Tmp) {v : AV} {v' : Value} (hv : RV φ v v') : RT φ (putD nt tmps d v) (putT tm d v') := by
  cases d with
  | none => exact ht
  | some d =>
    show RT φ (cond (Nat.blt d nt) (tmps.put d v) tmps) (tm.setIfInBounds d v')
    cases hb : Nat.blt d nt with
    | true => exact ht.put (by rw [hn]; exact Nat.le_of_ble_eq_true hb) hv
    | false =>
      have : ¬ d < tm.size := fun hlt => by
        have h2 : Nat.blt d nt = true := Nat.ble_eq_true_of_le (by rw [← hn]; exact hlt)
        rw [h2] at hb
        cases hb
      rw [Array.setIfInBounds_eq_of_size_le (Nat.le_of_not_lt this)]
      exact ht
theorem mem_keepCur {anc : List Nat} : ∀ {l : List PS} {s : PS}, s ∈ keepCur anc l ↔ s ∈ l ∧ s.i ∉ anc
  | [], s => by simp [keepCur]
  | x :: l, s => by
    unfold keepCur
    cases hm : memN x.i anc with
    | true =>
      simp only [cond_true, mem_keepCur (l := l), List.mem_cons]
      constructor
      · exact fun ⟨a, b⟩ => ⟨.inr a, b⟩
      · rintro ⟨rfl | a, b⟩
        · exact absurd (memN_iff.1 hm) b
        · exact ⟨a, b⟩
    | false =>
      simp only [cond_false, List.mem_cons, mem_keepCur (l := l)]
      constructor
      · rintro (rfl | ⟨a, b⟩)
        · exact ⟨.inl rfl, fun hx => by rw [memN_iff.2 hx] at hm; cases hm⟩
        · exact ⟨.inr a, b⟩
      · rintro ⟨rfl | a, b⟩
        · exact .inl rfl
        · exact .inr ⟨a, b⟩
theorem RDr.done {ops : Array Oper} {cur rest : List PS} {tmps : T AV} {tm : Array Value} {l : List Nat} {rs : List (Nat × Nat)} {pre : List PS} {D : List Nat} {s : PS} {nt : Nat} (hd : RDr C φ ops cur (s :: rest) tmps tm (s.i :: l) rs pre D) (hk : s.k = .l) (hn : tm.size = nt) {v : AV} {v' : Value} (hv : RV φ v v') :
    RDr C φ ops (keepCur s.anc cur) rest (putD nt tmps s.o.dst v) (putT tm s.o.dst v') l rs (pre ++ [s]) (s.i :: D) := by
  have hm : s ∈ pre ++ s :: rest := by simp
  have hop := hd.valid.op s hm
  have hs := hd.sched
  cases hs with
  | cons ho hni hp ht =>
  rename_i o
  rw [hop.1] at ho
  cases ho
  have hcl : Closed ops.toList (s.i :: D) := fun i hi => by
    rcases List.mem_cons.1 hi with rfl | hi
    · exact ⟨s.o, hop.1, fun e he => List.mem_cons_of_mem _ (hp e he)⟩
    · obtain ⟨o', h1, h2⟩ := hd.closed i hi
      exact ⟨o', h1, fun e he => List.mem_cons_of_mem _ (h2 e he)⟩
  have hne : ∀ r ∈ pre, r.i ≠ s.i := fun r hr e => by
    have := hd.valid.nodup
    rw [List.map_append, List.nodup_append] at this
    exact this.2.2 r.i (List.mem_map.2 ⟨r, hr, rfl⟩) s.i (by simp) e
  have hget : ∀ t av, (putD nt tmps s.o.dst v).get t = some av → (s.o.dst = some t ∧ av = v ∧ t < nt) ∨ (s.o.dst ≠ some t ∧ tmps.get t = some av) := fun t av e => by
    unfold putD at e
    split at e
    · rename_i d hdd
      cases hb : Nat.blt d nt with
      | true =>
        rw [hb] at e
        rcases T.get_put e with ⟨e1, e2⟩ | ⟨h1, h2⟩
        · exact .inl ⟨by rw [hdd, e1], e2.symm, by rw [e1]; exact Nat.le_of_ble_eq_true hb⟩
        · exact .inr ⟨fun e2 => h1 (by rw [hdd] at e2; exact (Option.some.inj e2).symm), h2⟩
      | false =>
        rw [hb] at e
        refine .inr ⟨fun e2 => ?_, e⟩
        rw [hdd] at e2
        have e3 := Option.some.inj e2
        have := (hd.tmp _ av e).1
        rw [hn, ← e3] at this
        have h2 : Nat.blt d nt = true := Nat.ble_eq_true_of_le this
        rw [h2] at hb
        cases hb
    · rename_i hdd
      exact .inr ⟨fun e2 => (by rw [hdd] at e2; cases e2), e⟩
  refine ⟨by simpa using hd.valid, ht, hcl, fun i hi => ?_, fun r hr hrk => ?_, fun r hr hrk hri => ?_, fun r hr => ?_, fun t av e => ?_, fun r hr hrk hri d u h1 h2 id h3 => ?_⟩
  · rcases List.mem_cons.1 hi with rfl | hi
    · simp
    · have := hd.sub i hi
      simp only [List.map_append, List.mem_append]
      exact .inl this
  · rcases List.mem_append.1 hr with hr | hr
    · exact List.mem_cons_of_mem _ (hd.loud r hr hrk)
    · rw [List.mem_singleton.1 hr]; exact List.mem_cons_self
  · rcases List.mem_append.1 hr with hr | hr
    · refine mem_keepCur.2 ⟨hd.curm r hr hrk fun hx => hri (List.mem_cons_of_mem _ hx), fun ha => ?_⟩
      exact hri (hcl.reach (hd.valid.anc s hm _ ha) List.mem_cons_self)
    · rw [List.mem_singleton.1 hr] at hrk
      exact absurd hk hrk
  · obtain ⟨h1, _⟩ := mem_keepCur.1 hr
    obtain ⟨h2, h3⟩ := hd.curp r h1
    exact ⟨List.mem_append_left _ h2, h3⟩
  · rw [putT_size]
    rcases hget t av e with ⟨e1, rfl, e3⟩ | ⟨e1, e2⟩
    · refine ⟨by omega, fun _ => ?_⟩
      rw [e1, putT_at (by omega)]
      exact hv
    · obtain ⟨h1, h2⟩ := hd.tmp t av e2
      refine ⟨h1, fun hh => ?_⟩
      rw [putT_get e1]
      refine h2 fun r hr hri => hh r (List.mem_append_left _ hr) ?_
      simp only [List.mem_cons, not_or]
      exact ⟨hne r hr, hri⟩
  · rcases List.mem_append.1 hr with hr | hr
    · have hdd : s.o.dst ≠ some d := fun e => hne r hr (hd.valid.dst r (List.mem_append_left _ hr) s hm d h1 e)
      rcases hget d u h2 with ⟨e1, _, _⟩ | ⟨_, e2⟩
      · exact absurd e1 hdd
      · exact hd.ids r hr hrk (fun hx => hri (List.mem_cons_of_mem _ hx)) d u h1 e2 id h3
    · rw [List.mem_singleton.1 hr, hk] at hrk
      cases hrk
theorem finish_ok {g g' : F} {tm : Array Value} {td : List Item} {df : List Deferred} {rd : Option Nat} {rs : List (Nat × Nat)} {v : AV} {v' : Value} (hg : RF C φ g tm td df rd rs) (hw : Waits g.todo td) (hf : finish g v = some g') (hv : RV φ v v') :
    ∃ (tm' : Array Value) (td' : List Item), (mkF g.fn tm td df rd).finish v' = mkF g'.fn tm' td' df rd ∧ RF C φ g' tm' td' df rd rs ∧ g'.fn = g.fn := by
  obtain ⟨fn, nt, tmps, todo, defers, round⟩ := g
  obtain ⟨h1, h2, h3, h4⟩ := hg
  simp only at h1 h2 h3 h4 hw
  unfold finish at hf
  simp only at hf
  cases h2 with
  | plain ht hi =>
    cases hi with
    | nil => cases hf
    | cons hx hk =>
      rename_i i x k td
      simp only at hf
      unfold finishI at hf
      split at hf
      · rename_i ops l
        split at hf
        · rename_i o rest
          cases hf
          obtain ⟨j, rfl, e⟩ := hx
          have hj : ops.toList[j]? = some o := by
            have := congrArg (fun l => l[0]?) e
            simpa using this.symm
          have hlt : j < ops.size := by
            have := (List.getElem?_eq_some_iff.1 hj).1
            simpa using this
          have hdr : (List.range ops.size).drop j = j :: (List.range ops.size).drop (j + 1) := by
            rw [List.drop_eq_getElem_cons (by simpa using hlt)]
            simp
          have ho : ops[j]? = some o := by rw [← Array.getElem?_toList]; exact hj
          refine ⟨putT tm o.dst v', .inRegion ops ((List.range ops.size).drop (j + 1)) :: td, ?_, ⟨by rw [putT_size]; exact h1, .plain (RT.putD h1 ht o.dst hv) (.cons ⟨j + 1, rfl, ?_⟩ hk), h3, h4⟩, rfl⟩
          · rw [hdr]
            exact fin_at ho v'
          · have := congrArg List.tail e
            simpa using this
        · cases hf
      · exact absurd hx (by intro h; exact h)
      · rename_i l
        cases hf
        obtain ⟨p, hp, rfl⟩ := hx
        exact ⟨tm, .endRangeFunc p.blk :: td, rfl, ⟨h1, .plain ht (.cons ⟨p, hp, rfl⟩ hk), h3, h4⟩, rfl⟩
      · cases hf
  | drawn hd hi =>
    rename_i ops cur rest k td l pre D
    obtain ⟨s, rest', ops', l', td', e1, e2, e3⟩ := hw
    subst e1
    simp only [List.cons.injEq, Item.inRegion.injEq] at e3
    obtain ⟨⟨rfl, rfl⟩, rfl⟩ := e3
    simp only [finishI] at hf
    cases hf
    have hop : ops[s.i]? = some s.o := by rw [← Array.getElem?_toList]; exact (hd.valid.op s (by simp)).1
    exact ⟨putT tm s.o.dst v', .inRegion ops l' :: td, fin_at hop v', ⟨by rw [putT_size]; exact h1, .drawn (hd.done e2 h1 hv) hi, h3, h4⟩, rfl⟩
theorem bot_congr {g g' : F} (e : g'.fn = g.fn) : ∀ cs : List F, bot g' cs = bot g cs
  | [] => e
  | _ :: _ => rfl
theorem back_ok {g : F} {tm : Array Value} {td : List Item} {df : List Deferred} {rd : Option Nat} {rs rss : List (Nat × Nat)} {cs : List F} {frs : List Frame} {v : AV} {v' : Value} (hg : RF C φ g tm td df rd rs) (hw : Waits g.todo td) (hcs : RFs C φ cs frs rss) (hR : RH ⟨W, idsOf rs ++ idsOf rss⟩ φ h w)
    (hnd : (idsOf rs ++ idsOf rss).Nodup) (hb : bot g cs = f0) (hv : RV φ v v') : Sim P C W f0 outer (lone ((mkF g.fn tm td df rd).finish v') (frs ++ outer) w) (back (finish g v) cs h) := by
  cases hf : finish g v with
  | none => exact Sim.stuck
  | some g' =>
    obtain ⟨tm', td', e, r, e2⟩ := finish_ok hg hw hf hv
    rw [e]
    exact Sim.now (.run ⟨r, hcs, hR, hnd⟩ (by rw [bot_congr e2]; exact hb))
theorem enter_ok {g : FuncId} {fn : Func} {args : List AV} {args' : List Value} (hF : Enters P C) (hfn : C.fs.get g = some fn) (ha : RL φ args args') :
    ∃ tm, Frame.enter P g args'.toArray .normal = mkF (enterF fn g args).fn tm [.code (bodyOf fn)] [] none ∧ RF C φ (enterF fn g args) tm [.code (bodyOf fn)] [] none [] := by
  have hg := (mkFn_ok (hF.fs g fn hfn)).1
  refine ⟨args'.toArray ++ Array.replicate (fn.ntmps - args'.toArray.size) undef, ?_, ⟨?_, .plain (fun t av e => ?_) (.cons rfl .nil), .nil, rfl⟩⟩
  · unfold Frame.enter mkF enterF bodyOf
    rw [hg]
    simp only [Option.map_some, Option.getD_some, Option.bind_some]
    cases fn.body <;> rfl
  · have := ha.length
    show (args'.toArray ++ Array.replicate (fn.ntmps - args'.toArray.size) undef).size = args.length + (fn.ntmps - args.length)
    simp [this]
  · have h1 := T.get_ofList e
    obtain ⟨v', h2, h3⟩ := ha.get t av h1
    have hlt : t < args'.length := (List.getElem?_eq_some_iff.1 h2).1
    refine ⟨by simp; omega, ?_⟩
    rw [Array.getD_eq_getD_getElem?, Array.getElem?_append_left (by simpa using hlt)]
    rw [List.getElem?_toArray, h2]
    exact h3
theorem upon_ok (hX : Right P X) {g : F} {tm : Array Value} {td : List Item} {df : List Deferred} {rd : Option Nat} {rs rss : List (Nat × Nat)} {cs : List F} {frs : List Frame} {ops : Array Oper} {i : Nat} {l : List Nat} {o : Oper} {r : R} (hg : RF X.C φ g tm (.inRegion ops (i :: l) :: td) df rd rs) (hw : Waits g.todo (.inRegion ops (i :: l) :: td))
    (hcs : RFs X.C φ cs frs rss) (hR : RH ⟨W, idsOf rs ++ idsOf rss⟩ φ h w) (hnd : (idsOf rs ++ idsOf rss).Nodup) (hb : bot g cs = f0) (ho : ops[i]? = some o) (hwn : Region.wanted o (yielded ops tm) = true) (hdf : (∀ c, o.op ≠ .defer c) ∨ ∃ n, r = .stuck n)
    (hok : OkR P ⟨W, idsOf rs ++ idsOf rss⟩ φ w (execOp (mkF g.fn tm (.inRegion ops (i :: l) :: td) df rd).eval o) r) : Sim P X.C W f0 outer (lone (mkF g.fn tm (.inRegion ops (i :: l) :: td) df rd) (frs ++ outer) w) (upon X g cs r) := by
  rcases hdf with hdf | ⟨n, rfl⟩
  · cases r with
    | val v h' =>
      obtain ⟨ψ, v', w', n, h1, h2, h3, h4, h5⟩ := hok
      refine Sim.head (st_op_value ho hwn hdf h4 h5) ?_
      rw [← fin_at ho v']
      exact back_ok (hg.mono h1) hw (hcs.mono h1) h2 hnd hb h3
    | enter gf args h' =>
      obtain ⟨args', h1, h2, h3⟩ := hok
      have hent : Sim P X.C W f0 outer (lone (mkF g.fn tm (.inRegion ops (i :: l) :: td) df rd) (frs ++ outer) w) (enterS X.C gf args g cs h' (X.C.fs.get gf)) := by
        cases hfn : X.C.fs.get gf with
        | none => exact Sim.stuck
        | some fn =>
          obtain ⟨tm2, e, r⟩ := enter_ok hX.en hfn h2
          refine Sim.head (st_op_enter ho hwn hdf h3) ?_
          rw [e]
          exact Sim.now (.run (frs := mkF g.fn tm (.inRegion ops (i :: l) :: td) df rd :: frs) (rs := []) (rss := rs ++ rss) ⟨r, .cons hg hw hcs, by simpa [idsOf] using h1, by simpa [idsOf] using hnd⟩ hb)
      show Sim P X.C W f0 outer _ (callS X gf args g cs h' (X.O.get gf))
      cases ho2 : X.O.get gf with
      | none => exact hent
      | some orc =>
        show Sim P X.C W f0 outer _ (orcS X gf args g cs h' (orc h' args))
        cases hor : orc h' args with
        | none => exact hent
        | some vh =>
          obtain ⟨v, h2'⟩ := vh
          rcases hX.orc gf orc ho2 with hoo | ⟨fn, hfn, hos⟩
          · have hcall := hoo _ φ h' h2' w args args' v h1 h2 hor
            obtain ⟨e, w', fr, ⟨ψ, v', p1, rfl, p2, p3⟩, q1, q2, q3⟩ := hcall (mkF g.fn tm (.inRegion ops (i :: l) :: td) df rd :: (frs ++ outer))
            refine Sim.head (st_op_enter ho hwn hdf h3) (Sim.steps q1 (Sim.head (step_leave_returned q3) ?_))
            exact back_ok (hg.mono p1) hw (hcs.mono p1) p2 hnd hb p3
          · rw [hfn] at hent
            obtain ⟨m', q1, q2⟩ := hent
            exact Sim.steps q1 (hos _ _ _ _ _ _ _ _ _ _ hor q2)
    | round lp gf nt tmp as bd h' =>
      obtain ⟨p, tm2, h1, h2, h3, h4, h5⟩ := hok
      refine Sim.head (st_op_round ho hwn hdf h5) (Sim.now ?_)
      exact .run (f := ⟨gf, nt, tmp, [.code as, .beginRound, .code bd], [], some lp⟩) (frs := mkF g.fn tm (.inRegion ops (i :: l) :: td) df rd :: frs) (rs := []) (rss := rs ++ rss)
        ⟨⟨h3, .plain h4 (.cons rfl (.cons rfl (.cons rfl .nil))), .nil, ⟨p, h2, rfl⟩⟩, .cons hg hw hcs, by simpa [idsOf] using h1, by simpa [idsOf] using hnd⟩ hb
    | stuck n => exact Sim.stuck
  · exact Sim.stuck
end
end
end Go.Proofs.YtiigjiaodmlfnaaGreatDoor.Am
namespace Go.Proofs.YtiigjiaodmlfnaaGreatDoor.Am
open Go.RowKit
noncomputable section
section
variable {P : Program} {X : M} {W : World} {f0 : FuncId} {outer : List Frame} {φ : Phi} {h : H} {w : World} {C : Ctx}
theorem RH.obj {w0 : Base} (hR : RH w0 φ h w) {id : Nat} {p : PB} {b b' : Blk} {o' : Obj} (hp : φ id = some p) (hg : h.h.get id = some b) (hb : RB φ p b' o') : RH w0 φ (h.upd id b') { w with heap := w.heap.setIfInBounds p.blk o' } := by
  have hlt := (hR.own id p hp).2
  exact hR.upd hg hp (One.obj w p.blk o') (by simp [hlt]) hb
theorem closeAll_ok {w0 : Base} {fn : FuncId} {tm : Array Value} {k : List Item} {cs : List Frame} : ∀ {defers : List Nat} {df : List Deferred} {h h' : H} {w : World}, RDs φ defers df → closeAll h defers = some h' → RH w0 φ h w →
    ∃ w', RH w0 φ h' w' ∧ Steps P (lone (retF fn tm k df) cs w) (lone (retF fn tm k []) cs w')
  | [], _, h, h', w, .nil, e, hR => by cases e; exact ⟨w, hR, Steps.refl _ _⟩
  | r :: l, _, h, h', w, .cons hp ht, e, hR => by
    rename_i p m
    unfold closeAll at e
    split at e
    · rename_i hg
      obtain ⟨q, o, h1, h2, h3⟩ := hR.at hp hg
      rw [hp] at h1
      cases h1
      have h3' : o = .deferred (some []) := h3
      subst h3'
      obtain ⟨w', r1, r2⟩ := closeAll_ok ht e (hR.obj hp hg (b' := .dfr false) (o' := .deferred none) rfl)
      exact ⟨w', r1, Steps.head (st_collect h2) r2⟩
    · cases e
theorem give_ok {fn : FuncId} {fd : Func} {tm : Array Value} {k : List Item} {cs : List F} {frs : List Frame} {rss : List (Nat × Nat)} {v : AV} {v' : Value} {g : F} (hcs : RFs C φ cs frs rss) (hR : RH ⟨W, idsOf rss⟩ φ h w) (hnd : (idsOf rss).Nodup) (hb : bot g cs = f0) (hfn : g.fn = fn) (hf : P.funcs[fn]? = some fd)
    (hr : (results fd tm).run P w = .ok v' w) (hv : RV φ v v') : Sim P C W f0 outer (lone (retF fn tm k []) (frs ++ outer) w) (give v cs h) := by
  cases hcs with
  | nil => exact Sim.now (.done hv hR ⟨rfl, rfl, rfl, fd, hf, hr⟩ (by rw [← hb]; exact hfn.symm))
  | cons hg hw ht => exact Sim.head (st_pop hf hr) (back_ok hg hw ht (by simpa [idsOf] using hR) (by simpa [idsOf] using hnd) hb hv)
theorem leaveN_ok (hX : Right P X) {f : F} {tm : Array Value} {k : List Item} {df : List Deferred} {cs : List F} {frs : List Frame} {rss : List (Nat × Nat)} (ht : RT φ f.tmps tm) (hd : RDs φ f.defers df) (hcs : RFs X.C φ cs frs rss) (hR : RH ⟨W, idsOf rss⟩ φ h w) (hnd : (idsOf rss).Nodup) (hb : bot f cs = f0) :
    Sim P X.C W f0 outer (lone (retF f.fn tm k df) (frs ++ outer) w) (leaveN X.C f.fn f.tmps f.defers cs h) := by
  unfold leaveN
  cases hfn : X.C.fs.get f.fn with
  | none => exact Sim.stuck
  | some fd =>
    unfold leaveH
    simp only
    cases hc : closeAll h f.defers with
    | none => exact Sim.stuck
    | some h' =>
      unfold giveR
      simp only
      obtain ⟨w', r1, r2⟩ := closeAll_ok (P := P) (fn := f.fn) (tm := tm) (k := k) (cs := frs ++ outer) hd hc hR
      cases hrs : resL X.C h' f.tmps fd.results.toList with
      | none => exact Sim.stuck
      | some vs =>
        obtain ⟨v', q1, q2⟩ := results_ok hX.en.ty r1 ht hrs
        exact Sim.steps r2 (give_ok hcs r1 hnd hb rfl (mkFn_ok (hX.en.fs f.fn fd hfn)).1 q1 q2)
theorem leaveB_ok {f : F} {tm : Array Value} {td : List Item} {df : List Deferred} {p : PB} {l : Nat} {cs : List F} {frs : List Frame} {rss : List (Nat × Nat)} {jump : Option Code} (hp : φ l = some p) (hcs : RFs C φ cs frs rss) (hR : RH ⟨W, idsOf rss⟩ φ h w) (hnd : (idsOf rss).Nodup) (hb : bot f cs = f0)
    (hst : ∀ (L : Loop) (c : Frame) (cs : List Frame), w.heap[p.blk]? = some (.loop L) → step P (lone (mkF f.fn tm td df (some p.blk)) (c :: cs) w) = .next (lone (c.finish (.bool jump.isNone)) cs { w with heap := w.heap.setIfInBounds p.blk (.loop { L with state := if jump.isNone then .ready else .done, pending := jump }) })) :
    Sim P C W f0 outer (lone (mkF f.fn tm td df (some p.blk)) (frs ++ outer) w) (leaveB l jump cs h (h.h.get l)) := by
  unfold leaveB
  split
  · rename_i s pend fn nt tmps ps as bd dfr hg
    cases hcs with
    | nil => exact Sim.stuck
    | cons hgf hw ht =>
      obtain ⟨q, o, h1, h2, tm', d', rfl, h4, h5, h6⟩ := hR.at hp hg
      rw [hp] at h1
      cases h1
      refine Sim.head (hst _ _ _ h2) ?_
      refine back_ok hgf hw ht (by
        have := hR.obj hp hg (b' := .loop (cond jump.isNone .ready .done) jump fn nt tmps ps as bd dfr) (o' := .loop { state := if jump.isNone then .ready else .done, pending := jump, fn := fn, tmps := tm', params := ps, assign := as, body := bd, defers := d'.blk }) ⟨tm', d', by cases jump <;> rfl, h4, h5, h6⟩
        simpa [idsOf] using this) (by simpa [idsOf] using hnd) hb (.bool _)
  · exact Sim.stuck
theorem exitA_ok {id : Nat} : ∀ {k : List It} {td : List Item}, RIts φ k td → (∀ k', exitA id k = some k' → ∃ td', exitTo id td = some td' ∧ RIts φ k' td') ∧ (exitA id k = none → exitTo id td = none)
  | [], _, .nil => ⟨fun k' e => (by cases e), fun _ => rfl⟩
  | i :: k, _, .cons hx ht => by
    rename_i x m
    have ih := exitA_ok (id := id) ht
    cases i with
    | inBlock id' =>
      have hx' : x = .inBlock id' := hx
      subst hx'
      unfold exitA exitTo
      by_cases he : id' = id
      · subst he
        simp only [Nat.beq_refl, cond_true, beq_self_eq_true, if_true]
        exact ⟨fun k' e => (by cases e; exact ⟨_, rfl, ht⟩), fun e => (by cases e)⟩
      · have h1 : Nat.beq id' id = false := by
          cases hb : Nat.beq id' id with
          | false => rfl
          | true => exact absurd (Nat.eq_of_beq_eq_true hb) he
        have h2 : (id' == id) = false := by simpa using he
        rw [h1, h2]
        exact ih
    | code c => have hx' : x = .code c := hx; subst hx'; exact ih
    | inLoop b => have hx' : x = .inLoop b := hx; subst hx'; exact ih
    | inScope b => have hx' : x = .inScope b := hx; subst hx'; exact ih
    | reg ops l => obtain ⟨j, rfl, _⟩ := hx; exact ih
    | dreg ops cur l => exact absurd hx (fun h => h)
    | rangeFunc l => obtain ⟨p, _, rfl⟩ := hx; exact ih
    | endRangeFunc l => obtain ⟨p, _, rfl⟩ := hx; exact ih
    | beginRound => have hx' : x = .beginRound := hx; subst hx'; exact ih
theorem gotoA_ok {lb : Nat} : ∀ {k : List It} {td : List Item}, RIts φ k td → (∀ k', gotoA lb k = some k' → ∃ td', gotoIn lb td = some td' ∧ RIts φ k' td') ∧ (gotoA lb k = none → gotoIn lb td = none)
  | [], _, .nil => ⟨fun k' e => (by cases e), fun _ => rfl⟩
  | i :: k, _, .cons hx ht => by
    rename_i x m
    have ih := gotoA_ok (lb := lb) ht
    cases i with
    | inScope b =>
      have hx' : x = .inScope b := hx
      subst hx'
      unfold gotoA gotoIn
      cases findLabel b lb with
      | none => exact ih
      | some r => exact ⟨fun k' e => (by cases e; exact ⟨_, rfl, .cons rfl (.cons rfl ht)⟩), fun e => (by cases e)⟩
    | code c => have hx' : x = .code c := hx; subst hx'; exact ih
    | inLoop b => have hx' : x = .inLoop b := hx; subst hx'; exact ih
    | inBlock b => have hx' : x = .inBlock b := hx; subst hx'; exact ih
    | reg ops l => obtain ⟨j, rfl, _⟩ := hx; exact ih
    | dreg ops cur l => exact absurd hx (fun h => h)
    | rangeFunc l => obtain ⟨p, _, rfl⟩ := hx; exact ih
    | endRangeFunc l => obtain ⟨p, _, rfl⟩ := hx; exact ih
    | beginRound => have hx' : x = .beginRound := hx; subst hx'; exact ih
theorem RDr.start {ops : Array Oper} {pl : List PS} {tmps : T AV} {tm : Array Value} (hv : Valid C ops.toList pl) (ht : RT φ tmps tm) (t : Nat) : RDr C φ ops [] pl tmps tm (Region.schedule true ops t) [] [] [] :=
  ⟨hv, sched_ok hv t, fun i h => (by cases h), fun i h => (by cases h), fun s h => (by cases h), fun s h => (by cases h), fun s h => (by cases h), fun t av e => ⟨(ht t av e).1, fun _ => (ht t av e).2⟩, fun s h => by cases h⟩
theorem RDr.take {ops : Array Oper} {cur rest : List PS} {tmps : T AV} {tm : Array Value} {l : List Nat} {rs : List (Nat × Nat)} {pre : List PS} {D : List Nat} {s : PS} {nt : Nat} (hd : RDr C φ ops cur (s :: rest) tmps tm l rs pre D) (hk : s.k ≠ .l) (hn : tm.size = nt) (v : AV) (rs' : List (Nat × Nat))
    (hsub : ∀ x ∈ rs, x ∈ rs') (hid : s.k = .a → ∀ id, idOf v = some id → (s.i, id) ∈ rs') : RDr C φ ops (s :: cur) rest (putD nt tmps s.o.dst v) tm l rs' (pre ++ [s]) D := by
  have hm : s ∈ pre ++ s :: rest := by simp
  have hne : ∀ r ∈ pre, r.i ≠ s.i := fun r hr e => by
    have := hd.valid.nodup
    rw [List.map_append, List.nodup_append] at this
    exact this.2.2 r.i (List.mem_map.2 ⟨r, hr, rfl⟩) s.i (by simp) e
  have hni : s.i ∉ D := fun hi => by
    obtain ⟨r, h1, h2⟩ := List.mem_map.1 (hd.sub _ hi)
    exact hne r h1 h2
  have hget : ∀ t av, (putD nt tmps s.o.dst v).get t = some av → (s.o.dst = some t ∧ av = v ∧ t < nt) ∨ (s.o.dst ≠ some t ∧ tmps.get t = some av) := fun t av e => by
    unfold putD at e
    split at e
    · rename_i d hdd
      cases hb : Nat.blt d nt with
      | true =>
        rw [hb] at e
        rcases T.get_put e with ⟨e1, e2⟩ | ⟨h1, h2⟩
        · exact .inl ⟨by rw [hdd, e1], e2.symm, by rw [e1]; exact Nat.le_of_ble_eq_true hb⟩
        · exact .inr ⟨fun e2 => h1 (by rw [hdd] at e2; exact (Option.some.inj e2).symm), h2⟩
      | false =>
        rw [hb] at e
        refine .inr ⟨fun e2 => ?_, e⟩
        rw [hdd] at e2
        have e3 := Option.some.inj e2
        have := (hd.tmp _ av e).1
        rw [hn, ← e3] at this
        have h2 : Nat.blt d nt = true := Nat.ble_eq_true_of_le this
        rw [h2] at hb
        cases hb
    · rename_i hdd
      exact .inr ⟨fun e2 => (by rw [hdd] at e2; cases e2), e⟩
  refine ⟨by simpa using hd.valid, hd.sched, hd.closed, fun i hi => ?_, fun r hr hrk => ?_, fun r hr hrk hri => ?_, fun r hr => ?_, fun t av e => ?_, fun r hr hrk hri d u h1 h2 id h3 => ?_⟩
  · have := hd.sub i hi
    simp only [List.map_append, List.mem_append]
    exact .inl this
  · rcases List.mem_append.1 hr with hr | hr
    · exact hd.loud r hr hrk
    · rw [List.mem_singleton.1 hr] at hrk
      exact absurd hrk hk
  · rcases List.mem_append.1 hr with hr | hr
    · exact List.mem_cons_of_mem _ (hd.curm r hr hrk hri)
    · rw [List.mem_singleton.1 hr]; exact List.mem_cons_self
  · rcases List.mem_cons.1 hr with rfl | hr
    · exact ⟨by simp, hk⟩
    · obtain ⟨h2, h3⟩ := hd.curp r hr
      exact ⟨List.mem_append_left _ h2, h3⟩
  · rcases hget t av e with ⟨e1, rfl, e3⟩ | ⟨e1, e2⟩
    · exact ⟨by omega, fun hh => absurd e1 (hh s (by simp) hni)⟩
    · obtain ⟨h1, h2⟩ := hd.tmp t av e2
      exact ⟨h1, fun hh => h2 fun r hr hri => hh r (List.mem_append_left _ hr) hri⟩
  · rcases List.mem_append.1 hr with hr | hr
    · have hdd : s.o.dst ≠ some d := fun e => hne r hr (hd.valid.dst r (List.mem_append_left _ hr) s hm d h1 e)
      rcases hget d u h2 with ⟨e1, _, _⟩ | ⟨_, e2⟩
      · exact absurd e1 hdd
      · exact hsub _ (hd.ids r hr hrk hri d u h1 e2 id h3)
    · rw [List.mem_singleton.1 hr] at hrk h1 ⊢
      rcases hget d u h2 with ⟨_, rfl, _⟩ | ⟨e1, _⟩
      · exact hid hrk id h3
      · exact absurd h1 e1
theorem RH.keep {R1 R2 : List Nat} (hR : RH ⟨W, R1⟩ φ h w) (b : Blk) (hsub : ∀ x ∈ R2, x = h.next ∨ x ∈ R1) : RH ⟨W, R2⟩ φ (h.new b) w := by
  have hn := hR.none_at
  have stay : ∀ i b1 p, ((h.new b).h.get i = some b1) → φ i = some p → h.h.get i = some b1 := fun i b1 p g e => by
    rcases T.get_put g with ⟨rfl, _⟩ | ⟨_, g⟩
    · rw [hn] at e; cases e
    · exact g
  refine ⟨fun i b1 p g e => hR.blk i b1 p (stay i b1 p g e) e, fun i j b1 b2 p1 p2 g1 g2 e1 e2 e => hR.inj i j b1 b2 p1 p2 (stay i b1 p1 g1 e1) (stay j b2 p2 g2 e2) e1 e2 e, hR.own, fun i hi => ?_, hR.bel, fun x hx => ?_⟩
  · have hi' : h.next + 1 ≤ i := hi
    have := hR.fresh i (by omega)
    refine ⟨this.1, ?_⟩
    show (h.h.put h.next b).get i = none
    cases e : (h.h.put h.next b).get i with
    | none => rfl
    | some y =>
      rcases T.get_put e with ⟨rfl, _⟩ | ⟨_, g⟩
      · omega
      · rw [this.2] at g; cases g
  · rcases hsub x hx with rfl | hx
    · exact ⟨hn, Nat.lt_succ_self _⟩
    · exact ⟨(hR.rsv x hx).1, Nat.lt_succ_of_lt (hR.rsv x hx).2⟩
theorem RDr.finis {ops : Array Oper} {cur : List PS} {tmps : T AV} {tm : Array Value} {l : List Nat} {rs : List (Nat × Nat)} {pre : List PS} {D : List Nat} (hd : RDr C φ ops cur [] tmps tm l rs pre D) (hh : ∀ j l'', l = j :: l'' → j ∉ pre.map PS.i) : l = [] ∧ RT φ tmps tm := by
  have hv := hd.valid
  rw [List.append_nil] at hv
  have hall : ∀ i, i < ops.toList.length → i ∈ pre.map PS.i := fun i hi => by
    obtain ⟨s, h1, h2⟩ := hv.all i hi
    exact List.mem_map.2 ⟨s, h1, h2⟩
  have hs := hd.sched
  cases hs with
  | nil h =>
    refine ⟨rfl, fun t av e => ?_⟩
    obtain ⟨h1, h2⟩ := hd.tmp t av e
    refine ⟨h1, h2 fun s hs hi => absurd (h s.i ?_) hi⟩
    exact (List.getElem?_eq_some_iff.1 (hv.op s hs).1).1
  | cons hj hn hp ht => exact absurd (hall _ (List.getElem?_eq_some_iff.1 hj).1) (hh _ _ rfl)
theorem RDr.next {ops : Array Oper} {cur rest : List PS} {tmps : T AV} {tm : Array Value} {l : List Nat} {rs : List (Nat × Nat)} {pre : List PS} {D : List Nat} {s : PS} (hd : RDr C φ ops cur (s :: rest) tmps tm l rs pre D) (hk : s.k = .l) (hh : ∀ j l'', l = j :: l'' → j ∉ pre.map PS.i) :
    ∃ l', l = s.i :: l' ∧ ∀ e ∈ prd s.o, e ∈ D := by
  have hm : s ∈ pre ++ s :: rest := by simp
  have hop := hd.valid.op s hm
  have hne : s.i ∉ pre.map PS.i := fun hi => by
    have := hd.valid.nodup
    rw [List.map_append, List.nodup_append] at this
    exact this.2.2 s.i hi s.i (by simp) rfl
  have hs := hd.sched
  cases hs with
  | nil h => exact absurd (hd.sub _ (h s.i (List.getElem?_eq_some_iff.1 hop.1).1)) hne
  | cons hj hn hp ht =>
    rename_i j l' o
    have hjn := hh j l' rfl
    obtain ⟨r, h1, h2⟩ := hd.valid.all j (List.getElem?_eq_some_iff.1 hj).1
    subst h2
    have hor : r.o = o := by
      have := (hd.valid.op r h1).1
      rw [hj] at this
      exact (Option.some.inj this).symm
    rcases List.mem_append.1 h1 with h1 | h1
    · exact absurd (List.mem_map.2 ⟨r, h1, rfl⟩) hjn
    · rcases List.mem_cons.1 h1 with rfl | h1
      · exact ⟨l', rfl, by rw [hor]; exact hp⟩
      · obtain ⟨e, e1, e2⟩ := hd.valid.loud pre s rest rfl hk r h1
        rw [hor] at e1
        exact absurd (hd.sub e (hp e e1)) e2
end
end
end Go.Proofs.YtiigjiaodmlfnaaGreatDoor.Am
