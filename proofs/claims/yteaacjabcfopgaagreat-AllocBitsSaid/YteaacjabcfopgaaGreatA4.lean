/-
  A machine of this session's own that runs calls of the program on values that are known in part, and its proof, part 4 of 4: what it answers, the model answers.
-/
import Derived.Test.YteaacjabcfopgaaGreatA3
set_option linter.unusedVariables false
set_option linter.unusedSimpArgs false
namespace Go.Proofs.YteaacjabcfopgaaGreat.Am
open Go.RowKit
noncomputable section
section
variable {P : Program} {X : M}
def Ends (P : Program) (X : M) (s : St) (v : AV) : Prop := ∀ (W : Base0) (f0 : FuncId) (outer : List Frame) (m : Machine), RSt P X.C W f0 outer s m → ∃ hh, Sim P X.C W f0 outer m (.done v hh)
theorem Ends.after {s s' : St} {v : AV} (h : Leads P X s s') (g : Ends P X s' v) : Ends P X s v := fun W f0 outer m hm => by
  obtain ⟨m', x, y⟩ := h W f0 outer m hm
  obtain ⟨hh, z⟩ := g W f0 outer m' y
  exact ⟨hh, Sim.steps x z⟩
def doneT (s : St) : Bool := match s with
  | .done (.bool b) _ => b
  | _ => false
theorem Ends.run (hX : Right P X) {n : Nat} {s : St} (h : doneT (runF X n s) = true) : Ends P X s (.bool true) := fun W f0 outer m hm => by
  obtain ⟨k, hk⟩ := runF_ok (X := X) n s
  obtain ⟨m', x, y⟩ := run_ok hX k hm
  rw [hk] at y
  cases hr : runF X n s with
  | run f cs hh => rw [hr] at h; cases h
  | stuck n => rw [hr] at h; cases h
  | done v hh =>
    rw [hr] at h y
    cases v <;> first | (cases h; done) | skip
    rename_i b
    have : b = true := h
    subst this
    exact ⟨hh, m', x, y⟩
def mkA (l u : Int) : AV := cond (decide (l = u)) (.int .i64 l) (.rng l u)
theorem mkA_ok {φ : Phi} {l u n : Int} (h1 : l ≤ n) (h2 : n ≤ u) : RV φ (mkA l u) (.int .i64 n) := by
  unfold mkA
  by_cases e : l = u
  · rw [decide_eq_true e]
    have : n = l := by omega
    subst this
    exact .int _ _
  · rw [decide_eq_false e]
    exact .rng h1 h2
def setS (k : Nat) (v : AV) (s : St) : St :=
  match s with
  | .run f cs h => .run { f with tmps := f.tmps.put k v } cs h
  | s => s
def plainS (k : Nat) (s : St) : Option (Int × Int) :=
  match s with
  | .run f _ _ => (match f.todo with
    | .dreg _ _ _ :: _ => none
    | _ => (match f.tmps.get k with
      | some (.rng l u) => some (l, u)
      | _ => none))
  | _ => none
theorem RT.split {φ : Phi} {t : T AV} {tm : Array Value} {k : Nat} {lo hi : Int} (h : RT φ t tm) (hk : t.get k = some (.rng lo hi)) :
    ∃ n, lo ≤ n ∧ n ≤ hi ∧ ∀ l u, l ≤ n → n ≤ u → RT φ (t.put k (mkA l u)) tm := by
  obtain ⟨hlt, hv⟩ := h k _ hk
  generalize hx : tm.getD k undef = x at hv
  cases hv with
  | rng h1 h2 =>
  rename_i n
  refine ⟨n, h1, h2, fun l u a b i v e => ?_⟩
  rcases T.get_put e with ⟨rfl, rfl⟩ | ⟨_, e⟩
  · exact ⟨hlt, by rw [hx]; exact mkA_ok a b⟩
  · exact h i v e
theorem Ends.split {s : St} {v : AV} {k : Nat} {lo hi : Int} (hs : plainS k s = some (lo, hi)) (cs : List (Int × Int)) (hc : ∀ n, lo ≤ n → n ≤ hi → ∃ c ∈ cs, c.1 ≤ n ∧ n ≤ c.2)
    (each : ∀ c ∈ cs, Ends P X (setS k (mkA c.1 c.2) s) v) : Ends P X s v := fun W f0 outer m hm => by
  cases hm with
  | done a b c d => cases hs
  | stuck => cases hs
  | run hr hb =>
    rename_i φ f cs' h tm td df rd frs w rs rss
    obtain ⟨⟨h1, h2, h3, h4⟩, h5, h6, h7⟩ := hr
    obtain ⟨fn, nt, tmps, todo, defers, round⟩ := f
    simp only [plainS] at hs
    simp only at h1 h2 h3 h4
    cases h2 with
    | drawn hd hit => cases hs
    | plain ht hit =>
      have hk : tmps.get k = some (.rng lo hi) := by
        split at hs
        · cases hs
        · split at hs
          · rename_i e; cases hs; exact e
          · cases hs
      obtain ⟨n, n1, n2, hn⟩ := ht.split hk
      obtain ⟨c, c1, c2, c3⟩ := hc n n1 n2
      exact each c c1 W f0 outer _ (.run (rs := []) ⟨⟨h1, .plain (hn c.1 c.2 c2 c3) hit, h3, h4⟩, h5, h6, h7⟩ (by cases cs' <;> exact hb))
theorem Ends.calls (hX : Right P X) {g : FuncId} {fn : Func} (hfn : X.C.fs.get g = some fn) {args : List AV} {args' : List Value} (ha : RL (fun _ => none) args args') {v : AV} (hrun : Ends P X (.run (enterF fn g args) [] ⟨.e, 0⟩) v) (w : World) :
    Calls P g args'.toArray w fun e w' => ∃ (φ : Phi) (v' : Value), e = .returned v' ∧ RV φ v v' ∧ Below w.heap.size w w' := by
  intro outer
  obtain ⟨tm, e, r⟩ := enter_ok (φ := fun _ => none) (args' := args') hX.en hfn ha
  have hR : RH ⟨⟨w, fun _ => none⟩, []⟩ (fun _ => none) ⟨.e, 0⟩ w := ⟨fun i b p _ h => (by cases h), fun i j b1 b2 p1 p2 _ _ h => (by cases h), fun i p h => (by cases h), fun i _ => ⟨rfl, T.get_e i⟩, Below.refl _ _, fun i h => (by cases h), Phi.le_refl _⟩
  have h0 : RSt P X.C ⟨w, fun _ => none⟩ g outer (.run (enterF fn g args) [] ⟨.e, 0⟩) (lone (Frame.enter P g args'.toArray .normal) outer w) := by
    have e' : Frame.enter P g args'.toArray .normal = _ := e
    rw [e']
    exact .run (frs := []) (rs := []) (rss := []) ⟨r, .nil, hR, .nil⟩ rfl
  obtain ⟨hh, m', a, b⟩ := hrun ⟨w, fun _ => none⟩ g outer _ h0
  cases b with
  | done hv hR' hl hf =>
    rename_i φ v' fr w'
    exact ⟨.returned v', w', fr, ⟨φ, v', rfl, hv, hR'.bel⟩, a, hf, hl⟩
def startA (o : Option Func) (g : FuncId) (args : List AV) : St := match o with | some fn => .run (enterF fn g args) [] ⟨.e, 0⟩ | none => .stuck 0
theorem Ends.yes (hX : Right P X) {g : FuncId} (hs : (X.C.fs.get g).isSome = true) {args : List AV} {args' : List Value} (ha : RL (fun _ => none) args args') (h : Ends P X (startA (X.C.fs.get g) g args) (.bool true)) (w : World) :
    Calls P g args'.toArray w fun e w' => e = .returned (.bool true) ∧ Below w.heap.size w w' := by
  cases hfn : X.C.fs.get g with
  | none => rw [hfn] at hs; cases hs
  | some fn =>
    rw [hfn] at h
    refine (Ends.calls hX hfn ha h w).mono fun e w' hh => ?_
    obtain ⟨φ, v', rfl, hv, hb⟩ := hh
    cases hv
    exact ⟨rfl, hb⟩
inductive Within : List (Int × Int) → List Int → Prop where
  | nil : Within [] []
  | cons {c : Int × Int} {n : Int} {l : List (Int × Int)} {m : List Int} (h1 : c.1 ≤ n) (h2 : n ≤ c.2) (t : Within l m) : Within (c :: l) (n :: m)
theorem Within.rl {φ : Phi} : ∀ {l : List (Int × Int)} {m : List Int}, Within l m → RL φ (l.map fun c => mkA c.1 c.2) (m.map fun n => .int .i64 n)
  | _, _, .nil => .nil
  | _, _, .cons h1 h2 t => .cons (mkA_ok h1 h2) (Within.rl t)
end
end
end Go.Proofs.YteaacjabcfopgaaGreat.Am
namespace Go.Proofs.YteaacjabcfopgaaGreat.Am
open Go.RowKit
noncomputable section
section
variable {P : Program} {w0 : Base} {φ : Phi} {h : H} {w : World} {tmps : T AV} {ρ : Operand → Value}
theorem next_some {r m : Nat} {since last cl : Nat} {seen : Array Nat} {es la : Array MapEntry} {ty : TypeId} (h1 : w.heap[r]? = some (.mapIter (some m) since seen last)) (h2 : w.heap[m]? = some (.map es cl))
    (hg : (!seen.isEmpty && !es.isEmpty && es.all fun e => decide (e.born ≥ last)) = false) (hl : (es.filter fun e => !seen.contains e.born) = la) (hb : ∀ e ∈ la, e.born < since) (hn : 2 ≤ la.size) :
    ∃ (i : Nat) (e : MapEntry), la[i]? = some e ∧ (Instr.next (.pointer (some ⟨r, 0, none⟩)) false ty).run P w = .ok (.tuple #[.bool true, e.key, e.val]) { w with drawn := w.drawn + 1, heap := w.heap.setIfInBounds r (.mapIter (some m) since (seen.push e.born) cl) } := by
  have g1 := getObj_run (P := P) h1 (fun _ _ _ h => by cases h)
  have g2 := getObj_run (P := P) h2 (fun _ _ _ h => by cases h)
  have f1 : (la.filter fun e => decide (e.born < since)) = la := by
    rw [Array.filter_eq_self]
    intro e he
    exact decide_eq_true (hb e he)
  have f2 : (la.filter fun e => decide (e.born ≥ since)) = #[] := by
    rw [Array.filter_eq_empty_iff]
    intro e he
    have := hb e he
    simp
    omega
  let q : Question := .mapNext la.size
  have hlt : q.cut (w.tape w.drawn q) < la.size := Nat.mod_lt _ (by omega)
  refine ⟨q.cut (w.tape w.drawn q), la[q.cut (w.tape w.drawn q)], Array.getElem?_eq_getElem hlt, ?_⟩
  have hne : la.isEmpty = false := by
    cases hh : la.isEmpty with
    | false => rfl
    | true =>
      have := Array.isEmpty_iff.1 hh
      rw [this] at hn
      simp at hn
  unfold Instr.next
  simp only [Sem.run_bind, g1, g2, Result.andThen_ok, hg, hl, f1, f2]
  have hc : ((if la.isEmpty = true then (#[none] : Array (Option MapEntry)) else #[]) ++ (la ++ #[]).map some) = la.map some := by
    rw [hne]; simp
  rw [hc]
  have hq : (choose (.mapNext (la.map some).size)).run P w = .ok (q.cut (w.tape w.drawn q)) { w with drawn := w.drawn + 1 } := by
    have e : (la.map some).size = la.size := by simp
    rw [e, run_choose]
    have hf : (Question.mapNext la.size).forced = false := by
      show decide (la.size ≤ 1) = false
      exact decide_eq_false (by omega)
    rw [hf]
    rfl
  simp only [Bool.false_eq_true, if_false, Sem.run_bind, hq, Result.andThen_ok]
  have hk : (la.map some)[q.cut (w.tape w.drawn q)]? = some (some la[q.cut (w.tape w.drawn q)]) := by
    rw [Array.getElem?_map, Array.getElem?_eq_getElem hlt]
    rfl
  rw [hk]
  have h1d : w.drew.heap[r]? = some (.mapIter (some m) since seen last) := h1
  simp [setObj, Sem.run, h1d]
  exact ⟨rfl, rfl, rfl⟩
def allOldE (since : Nat) : List (AV × AV × Nat) → Bool
  | [] => true
  | e :: l => cond (Nat.blt e.2.2 since) (allOldE since l) false
theorem allOldE_ok {since : Nat} {l : List (AV × AV × Nat)} {ms : List MapEntry} (hr : REs φ l ms) (h : allOldE since l = true) : ∀ m ∈ ms, m.born < since := by
  induction hr with
  | nil => intro m hm; cases hm
  | @cons e m l k he ht ih =>
    unfold allOldE at h
    cases hb : Nat.blt e.2.2 since with
    | false => rw [hb] at h; cases h
    | true =>
      rw [hb] at h
      have hb' : e.2.2 < since := Nat.le_of_ble_eq_true hb
      rw [he.2.2] at hb'
      intro x hx
      rcases List.mem_cons.1 hx with rfl | hx
      · exact hb'
      · exact ih h x hx
theorem REs.get {l : List (AV × AV × Nat)} {ms : List MapEntry} (hr : REs φ l ms) : ∀ (i : Nat) (m : MapEntry), ms[i]? = some m → ∃ e, l[i]? = some e ∧ RE φ e m := by
  induction hr with
  | nil => intro i m h; simp at h
  | @cons e m l k he ht ih =>
    intro i x hx
    cases i with
    | zero => simp at hx; subst hx; exact ⟨e, rfl, he⟩
    | succ i => simpa using ih i x (by simpa using hx)
def nextE (h : H) (id mid since : Nat) (seen : List Nat) (cl : Nat) (e : Option (AV × AV × Nat)) : R :=
  match e with
  | some e => .val (.tup [.bool true, e.1, e.2.1]) (h.upd id (.iter (some mid) since (seen ++ [e.2.2]) cl))
  | none => .stuck 52
def nextK (h : H) (x : AV) (k : Nat) : R :=
  match x with
  | .ptr id _ => (match h.h.get id with
    | some (.iter (some mid) since seen _) => (match h.h.get mid with
      | some (.map es cl) => nextE h id mid since seen cl (leftE seen es)[k]?
      | _ => .stuck 52)
    | _ => .stuck 52)
  | _ => .stuck 52
def nextN (h : H) (x : AV) : Nat :=
  match x with
  | .ptr id off => cond (Nat.beq off 0) (match h.h.get id with
    | some (.iter (some mid) since seen last) => (match h.h.get mid with
      | some (.map es _) => cond (stepOk seen last es && allOldE since (leftE seen es)) (leftE seen es).length 0
      | _ => 0)
    | _ => 0) 0
  | _ => 0
theorem ex_next_any (hR : RH w0 φ h w) (hE : Evals φ tmps ρ) (x : Operand) (ty : TypeId) {n : Nat} (hn : nextN h (evalA tmps x) = n) (h2 : 2 ≤ n) :
    ∃ k, k < n ∧ OkR P w0 φ w (vN (Instr.next (ρ x) false ty)) (nextK h (evalA tmps x) k) := by
  have hx := hE x
  generalize evalA tmps x = ax at hx hn
  generalize ρ x = x' at hx ⊢
  unfold nextN at hn
  split at hn
  · rename_i id off
    cases hx with
    | ptr hp =>
    rename_i p
    cases h0 : Nat.beq off 0 with
    | false => rw [h0] at hn; simp only [cond_false] at hn; omega
    | true =>
      rw [h0] at hn
      simp only [cond_true] at hn
      have := Nat.eq_of_beq_eq_true h0
      subst this
      split at hn
      · rename_i mid since seen last hg
        obtain ⟨q, o, h1, h2', hsh, m', rfl, r, h3, rfl⟩ := hR.at hp hg
        rw [hp] at h1
        cases h1
        have ha : p.addr 0 = ⟨p.blk, 0, none⟩ := by unfold PB.addr; rw [hsh]
        have hlt := (hR.own id p hp).2
        rw [ha]
        split at hn
        · rename_i es cl hg2
          obtain ⟨q2, o2, k1, k2, es', rfl, hes⟩ := hR.at h3 hg2
          rw [h3] at k1
          cases k1
          cases hok : (stepOk seen last es && allOldE since (leftE seen es)) with
          | false => rw [hok] at hn; simp only [cond_false] at hn; omega
          | true =>
            rw [hok] at hn
            simp only [cond_true] at hn
            simp only [Bool.and_eq_true] at hok
            obtain ⟨hok, hold⟩ := hok
            have hguard : (!seen.toArray.isEmpty && !es'.isEmpty && es'.all fun e => decide (e.born ≥ last)) = false := by
              unfold stepOk at hok
              simp only [Bool.or_eq_true] at hok
              rcases hok with (h | h) | h
              · have : seen.toArray.isEmpty = true := by simpa using h
                rw [this]; rfl
              · have he : es'.isEmpty = true := by
                  have hl := hes.length
                  have : es = [] := by simpa using h
                  rw [this] at hl
                  simp only [List.length_nil, Array.length_toList] at hl
                  simp [Array.isEmpty, ← hl]
                rw [he]; simp
              · have := anyOld_ok hes h
                rw [Array.all_toList] at this
                rw [this]; simp
            have hleft := leftE_ok (seen := seen) hes
            have hl2 : (es'.filter fun e => !seen.toArray.contains e.born).toList = es'.toList.filter fun m => !seen.contains m.born := by
              rw [Array.toList_filter]
              congr 1
              funext m
              simp
            rw [← hl2] at hleft
            generalize hla : (es'.filter fun e => !seen.toArray.contains e.born) = la at hleft
            have hlen : la.size = n := by
              have h3_ := hleft.length
              have h4_ : la.toList.length = la.size := Array.length_toList
              omega
            have hb : ∀ e ∈ la, e.born < since := fun e he => allOldE_ok hleft hold e (by simpa using he)
            obtain ⟨i, m, hi, hrun⟩ := next_some (P := P) (ty := ty) h2' k2 hguard hla hb (by omega)
            obtain ⟨e, he, r1, r2, r3⟩ := hleft.get i m (by rw [Array.getElem?_toList]; exact hi)
            have hin : i < n := by
              obtain ⟨hsz_, _⟩ := Array.getElem?_eq_some_iff.1 hi
              rw [← hlen]
              exact hsz_
            refine ⟨i, hin, ?_⟩
            have hK : nextK h (.ptr id 0) i = .val (.tup [.bool true, e.1, e.2.1]) (h.upd id (.iter (some mid) since (seen ++ [e.2.2]) cl)) := by
              unfold nextK
              simp only [hg, hg2, he, nextE]
            rw [hK]
            refine OkR.vw φ.le_refl ((hR.drew (w.drawn + 1)).upd hg hp (One.obj { w with drawn := w.drawn + 1 } p.blk _) (o := .mapIter (some r.blk) since (seen.toArray.push m.born) cl) (by simp [hlt]) ⟨hsh, some r.blk, ?_, r, h3, rfl⟩) (v' := .tuple #[.bool true, m.key, m.val]) (.tup (.cons (.bool _) (.cons r1 (.cons r2 .nil)))) hrun
            rw [r3]
            simp
        · omega
      · omega
  · omega
end
section
variable {P : Program} {X : M}
def choO (X : M) (k : Nat) (f : F) (cs : List F) (h : H) (g : Option Bool) (o : Oper) : St :=
  match g with
  | some true => (match o.op with
    | .next it false => upon X f cs (nextK h (evalA f.tmps it) k)
    | _ => .stuck 81)
  | _ => .stuck 82
def choS (X : M) (k : Nat) (s : St) : St :=
  match s with
  | .run f cs h => (match f.todo with
    | .reg ops (o :: _) :: _ => choO X k f cs h (guardA ops f.tmps o) o
    | _ => .stuck 83)
  | _ => .stuck 84
def choM (h : H) (t : T AV) (g : Option Bool) (o : Oper) : Nat :=
  match g with
  | some true => (match o.op with
    | .next it false => nextN h (evalA t it)
    | _ => 0)
  | _ => 0
def choN (s : St) : Nat :=
  match s with
  | .run f _ h => (match f.todo with
    | .reg ops (o :: _) :: _ => choM h f.tmps (guardA ops f.tmps o) o
    | _ => 0)
  | _ => 0
theorem cho_ok (hX : Right P X) {W : Base0} {f0 : FuncId} {outer : List Frame} {s : St} {m : Machine} {n : Nat} (hn : choN s = n) (h2 : 2 ≤ n) (hs : RSt P X.C W f0 outer s m) : ∃ k, k < n ∧ Sim P X.C W f0 outer m (choS X k s) := by
  unfold choN at hn
  split at hn
  · rename_i f cs h
    cases hs with
    | run hr hb =>
    rename_i φ tm td df rd frs w rs rss
    obtain ⟨⟨hsz, htd, hdf, hrd⟩, hcs, hR, hnd⟩ := hr
    obtain ⟨fn, nt, tmps, todo, defers, round⟩ := f
    simp only at hsz htd hdf hrd hn
    split at hn
    · rename_i ops o rest k
      cases htd with
      | plain ht hi =>
        cases hi with
        | cons hx hk =>
        rename_i x td
        obtain ⟨j, rfl, e⟩ := hx
        have hj : ops.toList[j]? = some o := by
          have := congrArg (fun l => l[0]?) e
          simpa using this.symm
        have hlt : j < ops.size := by
          have := (List.getElem?_eq_some_iff.1 hj).1
          simpa using this
        have hdr : (List.range ops.size).drop j = j :: (List.range ops.size).drop (j + 1) := by
          rw [List.drop_eq_getElem_cons (by simpa using hlt)]
          simp
        have ho : ops[j]? = some o := by rw [← Array.getElem?_toList]; exact hj
        unfold choM at hn
        split at hn
        · rename_i hg
          split at hn
          · rename_i it hop
            have hw := guardA_ok hg (tm := tm) (φ := φ) (fun t _ av e => ht t av e)
            have hE : Evals φ tmps (mkF fn tm (.inRegion ops (j :: (List.range ops.size).drop (j + 1)) :: td) df rd).eval := evals_of ht
            obtain ⟨i, hin, hok⟩ := ex_next_any (P := P) hR hE it o.type hn h2
            refine ⟨i, hin, ?_⟩
            have hok' : OkR P ⟨W, idsOf ([] : List (Nat × Nat)) ++ idsOf rss⟩ φ w (execOp (mkF fn tm (.inRegion ops (j :: (List.range ops.size).drop (j + 1)) :: td) df rd).eval o) (nextK h (evalA tmps it) i) := by
              unfold execOp
              rw [hop]
              exact hok
            rw [hdr]
            have := upon_ok hX (g := ⟨fn, nt, tmps, .reg ops (o :: rest) :: k, defers, round⟩) (rs := []) (outer := outer) ⟨hsz, .plain ht (.cons ⟨j, by rw [hdr], e⟩ hk), hdf, hrd⟩ trivial hcs hR hnd hb ho hw (.inl (fun c e => by rw [hop] at e; cases e)) hok'
            show Sim P X.C W f0 outer _ (choO X i ⟨fn, nt, tmps, .reg ops (o :: rest) :: k, defers, round⟩ cs h (guardA ops tmps o) o)
            rw [hg]
            unfold choO
            simp only [hop]
            exact this
          · omega
        · omega
    · omega
  · omega
theorem Leads.choose (hX : Right P X) {s s' : St} (n : Nat) (hn : choN s = n) (h2 : Nat.ble 2 n = Bool.true) (each : ∀ k, k < n → Leads P X (choS X k s) s') : Leads P X s s' := fun W f0 outer m hm => by
  obtain ⟨k, hk, m', a, b⟩ := cho_ok hX hn (Nat.le_of_ble_eq_true h2) hm
  obtain ⟨m2, c, d⟩ := each k hk W f0 outer m' b
  exact ⟨m2, Steps.trans a c, d⟩
end
end
end Go.Proofs.YteaacjabcfopgaaGreat.Am
namespace Go.Proofs.YteaacjabcfopgaaGreat.Am
open Go.RowKit
noncomputable section
end
end Go.Proofs.YteaacjabcfopgaaGreat.Am
namespace Go.Proofs.YteaacjabcfopgaaGreat.Am
open Go.RowKit
noncomputable section
section
variable {P : Program} {X : M}
def startH (o : Option Func) (g : FuncId) (args : List AV) (h : H) : St := match o with | some fn => .run (enterF fn g args) [] h | none => .stuck 0
def gcD (ids : List Nat) (s : St) : St := match s with
  | .done v h => .done v (keepH ids h)
  | s => s
theorem gcD_ok {C : Ctx} {W : Base0} {f0 : FuncId} {outer : List Frame} (ids : List Nat) {s : St} {m : Machine} (hs : RSt P C W f0 outer s m) : RSt P C W f0 outer (gcD ids s) m := by
  cases hs with
  | run hr hb => exact .run hr hb
  | done a b c d => exact .done a (b.sub (keepH_sub ids _) rfl) c d
  | stuck => exact .stuck
theorem Leads.partD (hX : Right P X) {n : Nat} {ids : List Nat} {a b : St} (h : gcD ids (runF X n a) = b) : Leads P X a b := fun W f0 outer m hm => by
  obtain ⟨k, hk⟩ := runF_ok (X := X) n a
  obtain ⟨m', x, y⟩ := run_ok hX k hm
  rw [hk] at y
  refine ⟨m', x, ?_⟩
  rw [← h]
  exact gcD_ok ids y
def Ret (w0 : World) (φ : Phi) (v : AV) (h' : H) (e : Ending) (w' : World) : Prop := ∃ (ψ : Phi) (v' : Value), φ.le ψ ∧ e = .returned v' ∧ RV ψ v v' ∧ RH ⟨⟨w0, φ⟩, []⟩ ψ h' w'
theorem RH.rebase {w0 : World} {φ0 φ1 φ : Phi} {h : H} {w : World} (hR : RH ⟨⟨w0, φ0⟩, []⟩ φ h w) (hle : φ1.le φ) : RH ⟨⟨w0, φ1⟩, []⟩ φ h w :=
  ⟨hR.blk, hR.inj, hR.own, hR.fresh, hR.bel, fun i h => (by cases h), hle⟩
theorem RH.callsH (hX : Right P X) {g : FuncId} {fn : Func} (hfn : X.C.fs.get g = some fn) {args : List AV} {args' : List Value} {h h' : H} {v : AV} {w0 w : World} {φ0 φ : Phi}
    (hR : RH ⟨⟨w0, φ0⟩, []⟩ φ h w) (ha : RL φ args args') (hrun : Leads P X (.run (enterF fn g args) [] h) (.done v h')) :
    Calls P g args'.toArray w (Ret w0 φ v h') := by
  intro outer
  obtain ⟨tm, e, r⟩ := enter_ok (φ := φ) (args' := args') hX.en hfn ha
  have h0 : RSt P X.C ⟨w0, φ⟩ g outer (.run (enterF fn g args) [] h) (lone (Frame.enter P g args'.toArray .normal) outer w) := by
    have e' : Frame.enter P g args'.toArray .normal = _ := e
    rw [e']
    exact .run (frs := []) (rs := []) (rss := []) ⟨r, .nil, hR.rebase (Phi.le_refl _), .nil⟩ rfl
  obtain ⟨m', a, b⟩ := hrun ⟨w0, φ⟩ g outer _ h0
  cases b with
  | done hv hR' hl hf =>
    rename_i ψ v' fr w'
    exact ⟨.returned v', w', fr, ⟨ψ, v', hR'.up, rfl, hv, hR'⟩, a, hf, hl⟩
theorem RH.calls (hX : Right P X) {g : FuncId} (hs : (X.C.fs.get g).isSome = true) {args : List AV} {args' : List Value} {h h' : H} {v : AV} {w0 w : World} {φ0 φ : Phi}
    (hR : RH ⟨⟨w0, φ0⟩, []⟩ φ h w) (ha : RL φ args args') (hrun : Leads P X (startH (X.C.fs.get g) g args h) (.done v h')) :
    Calls P g args'.toArray w (Ret w0 φ v h') := by
  cases hfn : X.C.fs.get g with
  | none => rw [hfn] at hs; cases hs
  | some fn =>
    rw [hfn] at hrun
    exact RH.callsH hX hfn hR ha hrun
def Phi.to (φ : Phi) (n : Nat) : Phi := fun i => cond (Nat.blt i n) (φ i) none
theorem Phi.to_at {φ : Phi} {n i : Nat} (h : i < n) : φ.to n i = φ i := by
  unfold Phi.to
  have : Nat.blt i n = true := Nat.ble_eq_true_of_le h
  rw [this]; rfl
theorem Phi.to_none {φ : Phi} {n i : Nat} (h : n ≤ i) : φ.to n i = none := by
  unfold Phi.to
  have : Nat.blt i n = false := by
    cases e : Nat.blt i n with
    | false => rfl
    | true => have := Nat.le_of_ble_eq_true e; omega
  rw [this]; rfl
theorem Phi.to_some {φ : Phi} {n i : Nat} {p : PB} (h : φ.to n i = some p) : i < n ∧ φ i = some p := by
  by_cases hi : i < n
  · rw [Phi.to_at hi] at h; exact ⟨hi, h⟩
  · rw [Phi.to_none (by omega)] at h; cases h
def okV : Nat → Nat → AV → Bool
  | 0, _, _ => false
  | k + 1, n, a => match a with
    | .ptr i _ => Nat.blt i n
    | .slice i _ _ _ => Nat.blt i n
    | .map i => Nat.blt i n
    | .yld i => Nat.blt i n
    | .fn _ x y => x.all (okV k n) && y.all (okV k n)
    | .agg l => l.all (okV k n)
    | .tup l => l.all (okV k n)
    | _ => true
theorem okV_ok {n : Nat} {φ : Phi} : ∀ (k : Nat) {a : AV} {v : Value}, okV k n a = true → RV φ a v → RV (φ.to n) a v
  | 0, _, _, h, _ => by cases h
  | k + 1, a, v, h, hv => by
    have hl : ∀ {l : List AV} {m : List Value}, l.all (okV k n) = true → RL φ l m → RL (φ.to n) l m := by
      intro l
      induction l with
      | nil => intro m _ hm; cases hm; exact .nil
      | cons x l ih =>
        intro m h hm
        cases hm with
        | cons h1 h2 =>
        rw [List.all_cons, Bool.and_eq_true] at h
        exact .cons (okV_ok k h.1 h1) (ih h.2 h2)
    have hlt : ∀ {i : Nat}, Nat.blt i n = true → φ.to n i = φ i := fun e => Phi.to_at (Nat.le_of_ble_eq_true e)
    cases hv with
    | unk => exact .unk _
    | bool => exact .bool _
    | int => exact .int _ _
    | rng a b => exact .rng a b
    | str => exact .str _
    | ptr e => exact .ptr ((hlt h).trans e)
    | nilp => exact .nilp
    | slice e a b => exact .slice ((hlt h).trans e) a b
    | nils => exact .nils
    | map e => exact .map ((hlt h).trans e)
    | nilm => exact .nilm
    | fn ha hb =>
      have h' := (Bool.and_eq_true _ _).mp h
      exact .fn (hl h'.1 ha) (hl h'.2 hb)
    | yld e => exact .yld ((hlt h).trans e)
    | nilf => exact .nilf
    | agg ha ho => exact .agg (hl h ha) ho
    | tup ha => exact .tup (hl h ha)
    | nili => exact .nili
    | sgl e => exact .sgl e
def allT (p : AV → Bool) : T AV → Bool
  | .e => true
  | .n l v r => allT p l && (allT p r && (match v with | some x => p x | none => true))
def OkB (n : Nat) (b : Blk) : Prop := ∀ (φ : Phi) (p : PB) (o : Obj), RB φ p b o → RB (φ.to n) p b o
theorem OkB.cells {n N : Nat} {c : T AV} {ish : Bool} (h : ∀ i av, c.get i = some av → okV 9 n av = true) : OkB n (.cells N c ish) := fun φ p o hb => by
  obtain ⟨a, e, lo, hi, h1, h2, h3, h4, h5, h6⟩ := hb
  exact ⟨a, e, lo, hi, h1, h2, h3, h4, h5, fun i av g hl => by
    obtain ⟨v, x, y, z⟩ := h6 i av g hl
    exact ⟨v, x, okV_ok 9 (h i av g) y, z⟩⟩
theorem OkB.map {n : Nat} {es : List (AV × AV × Nat)} {cl : Nat} (h : ∀ x ∈ es, okV 9 n x.1 = true ∧ okV 9 n x.2.1 = true) : OkB n (.map es cl) := fun φ p o hb => by
  obtain ⟨es', h1, h2⟩ := hb
  refine ⟨es', h1, ?_⟩
  generalize es'.toList = m at h2
  induction h2 with
  | nil => exact .nil
  | cons a b ih =>
    rename_i x mm l k
    have hx := h x List.mem_cons_self
    exact .cons ⟨okV_ok 9 hx.1 a.1, okV_ok 9 hx.2 a.2.1, a.2.2⟩ (ih fun y hy => h y (List.mem_cons_of_mem _ hy))
theorem allT_get {p : AV → Bool} : ∀ {t : T AV} {i : Nat} {x : AV}, allT p t = true → t.get i = some x → p x = true
  | .e, i, x, _, h => by rw [T.get_e] at h; cases h
  | .n l v r, i, x, ha, h => by
    unfold allT at ha
    rw [Bool.and_eq_true, Bool.and_eq_true] at ha
    rw [T.get_n] at h
    split at h
    · subst h; exact ha.2.2
    · split at h
      · exact allT_get ha.1 h
      · exact allT_get ha.2.1 h
def okBk (n : Nat) : Blk → Bool
  | .cells _ c _ => allT (okV 9 n) c
  | .map es _ => es.all fun x => okV 9 n x.1 && okV 9 n x.2.1
  | _ => false
theorem okBk_ok {n : Nat} : ∀ {b : Blk}, okBk n b = true → OkB n b
  | .cells _ c _, h => .cells fun _ _ g => allT_get (t := c) h g
  | .map es _, h => .map fun x hx => by
    have := List.all_eq_true.1 h x hx
    rwa [Bool.and_eq_true] at this
  | .iter _ _ _ _, h => by cases h
  | .loop _ _ _ _ _ _ _ _ _, h => by cases h
  | .dfr _, h => by cases h
  | .siter _ _, h => by cases h
theorem RH.reset {w0 : World} {φ0 ψ : Phi} {h : H} {w : World} (hR : RH ⟨⟨w0, φ0⟩, []⟩ ψ h w) {hn : H} (hsub : ∀ i b, hn.h.get i = some b → h.h.get i = some b ∧ i < hn.next ∧ OkB hn.next b) (h0 : ∀ i, hn.next ≤ i → φ0 i = none) :
    RH ⟨⟨w0, φ0⟩, []⟩ (ψ.to hn.next) hn w := by
  refine ⟨fun i b p g e => ?_, fun i j b1 b2 p1 p2 g1 g2 e1 e2 e => hR.inj i j b1 b2 p1 p2 (hsub i b1 g1).1 (hsub j b2 g2).1 (Phi.to_some e1).2 (Phi.to_some e2).2 e, fun i p e => hR.own i p (Phi.to_some e).2, fun i hi' => ⟨Phi.to_none hi', ?_⟩, hR.bel, fun i h => (by cases h), fun i p e => ?_⟩
  · obtain ⟨x1, x2, x3⟩ := hsub i b g
    obtain ⟨o, a, c⟩ := hR.blk i b p x1 (Phi.to_some e).2
    exact ⟨o, a, x3 _ _ _ c⟩
  · cases e : hn.h.get i with
    | none => rfl
    | some b =>
      have := (hsub i b e).2.1
      omega
  · have e' : φ0 i = some p := e
    by_cases hlt : i < hn.next
    · rw [Phi.to_at hlt]; exact hR.up i p e'
    · rw [h0 i (by omega)] at e'; cases e'
end
end
end Go.Proofs.YteaacjabcfopgaaGreat.Am
