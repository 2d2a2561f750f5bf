/-
  A machine of this session's own that runs calls of the program on values that are known in part, and its proof, part 1 of 4: what it answers, the model answers.
-/
import GoSem.Machine.Frame
import Derived.Below
import Derived.WalkKit
import Derived.Laws.Sem
import Derived.Laws.Entries
import Derived.ChangeKeysEq
import Derived.Laws.StructEq
import Derived.Laws.Tables
import Derived.Laws.BytesString
import Derived.Laws.Append
set_option linter.unusedVariables false
set_option linter.unusedSimpArgs false
namespace Go.Proofs.YteaacjabcfopgaaGreat.Am
noncomputable section
inductive T (α : Type) where
  | e : T α
  | n (l : T α) (v : Option α) (r : T α) : T α
namespace T
variable {α : Type}
def get (t : T α) : Nat → Option α :=
  T.rec (motive := fun _ => Nat → Option α) (fun _ => none) (fun _ v _ gl gr k => Bool.rec (Bool.rec (gr (Nat.sub (Nat.shiftRight k 1) 1)) (gl (Nat.shiftRight k 1)) (Nat.beq (Nat.land k 1) 1)) v (Nat.beq k 0)) t
def one (f : Nat) : Nat → Option α → T α :=
  Nat.rec (motive := fun _ => Nat → Option α → T α) (fun _ _ => .e) (fun _ ih k x => Bool.rec (Bool.rec (.n .e none (ih (Nat.sub (Nat.shiftRight k 1) 1) x)) (.n (ih (Nat.shiftRight k 1) x) none .e) (Nat.beq (Nat.land k 1) 1)) (.n .e x .e) (Nat.beq k 0)) f
def set (t : T α) : Nat → Option α → T α :=
  T.rec (motive := fun _ => Nat → Option α → T α) (fun k x => one 40 k x)
    (fun l v r sl sr k x => Bool.rec (Bool.rec (.n l v (sr (Nat.sub (Nat.shiftRight k 1) 1) x)) (.n (sl (Nat.shiftRight k 1) x) v r) (Nat.beq (Nat.land k 1) 1)) (.n l x r) (Nat.beq k 0)) t
def put (t : T α) (k : Nat) (x : α) : T α := set t k (some x)
def del (t : T α) (k : Nat) : T α := set t k none
def ofListFrom : Nat → List α → T α → T α
  | _, [], t => t
  | i, x :: l, t => ofListFrom (Nat.succ i) l (t.put i x)
def ofList (l : List α) : T α := ofListFrom 0 l .e
theorem beq0 (k : Nat) : Nat.beq k 0 = decide (k = 0) := by
  cases k <;> simp [Nat.beq]
theorem odd1 (k : Nat) : Nat.beq (Nat.land k 1) 1 = decide (k % 2 = 1) := by
  have h : Nat.land k 1 = k % 2 := Nat.and_one_is_mod k
  rw [h]
  rcases Nat.mod_two_eq_zero_or_one k with h | h <;> rw [h] <;> rfl
theorem half (k : Nat) : Nat.shiftRight k 1 = k / 2 := rfl
theorem get_e (k : Nat) : (T.e : T α).get k = none := rfl
theorem get_n (l : T α) (v : Option α) (r : T α) (k : Nat) : (T.n l v r).get k = if k = 0 then v else if k % 2 = 1 then l.get (k / 2) else r.get (k / 2 - 1) := by
  show @Bool.rec (fun _ => Option α) (@Bool.rec (fun _ => Option α) (r.get (Nat.sub (Nat.shiftRight k 1) 1)) (l.get (Nat.shiftRight k 1)) (Nat.beq (Nat.land k 1) 1)) v (Nat.beq k 0) = _
  rw [beq0, odd1, half]
  by_cases h : k = 0
  · simp [h]
  · by_cases h1 : k % 2 = 1
    · simp [h, h1]
    · simp [h, h1]
theorem one_zero (k : Nat) (x : Option α) : (one 0 k x : T α) = .e := rfl
theorem one_succ (f k : Nat) (x : Option α) : (one (f + 1) k x : T α) = if k = 0 then .n .e x .e else if k % 2 = 1 then .n (one f (k / 2) x) none .e else .n .e none (one f (k / 2 - 1) x) := by
  show @Bool.rec (fun _ => T α) (@Bool.rec (fun _ => T α) (.n .e none (one f (Nat.sub (Nat.shiftRight k 1) 1) x)) (.n (one f (Nat.shiftRight k 1) x) none .e) (Nat.beq (Nat.land k 1) 1)) (.n .e x .e) (Nat.beq k 0) = _
  rw [beq0, odd1, half]
  by_cases h : k = 0
  · simp [h]
  · by_cases h1 : k % 2 = 1
    · simp [h, h1]
    · simp [h, h1]
theorem set_e (k : Nat) (x : Option α) : (T.e : T α).set k x = one 40 k x := rfl
theorem set_n (l : T α) (v : Option α) (r : T α) (k : Nat) (x : Option α) : (T.n l v r).set k x = if k = 0 then .n l x r else if k % 2 = 1 then .n (l.set (k / 2) x) v r else .n l v (r.set (k / 2 - 1) x) := by
  show @Bool.rec (fun _ => T α) (@Bool.rec (fun _ => T α) (.n l v (r.set (Nat.sub (Nat.shiftRight k 1) 1) x)) (.n (l.set (Nat.shiftRight k 1) x) v r) (Nat.beq (Nat.land k 1) 1)) (.n l x r) (Nat.beq k 0) = _
  rw [beq0, odd1, half]
  by_cases h : k = 0
  · simp [h]
  · by_cases h1 : k % 2 = 1
    · simp [h, h1]
    · simp [h, h1]
theorem get_one (f : Nat) : ∀ (k : Nat) (x : Option α) (k' : Nat) (y : α), (one f k x).get k' = some y → k' = k ∧ x = some y := by
  induction f with
  | zero => intro k x k' y h; rw [one_zero, get_e] at h; cases h
  | succ f ih =>
    intro k x k' y h
    rw [one_succ] at h
    by_cases h0 : k = 0
    · rw [if_pos h0, get_n] at h
      by_cases h1 : k' = 0
      · rw [if_pos h1] at h; exact ⟨by omega, h⟩
      · rw [if_neg h1] at h
        split at h <;> (rw [get_e] at h; cases h)
    · rw [if_neg h0] at h
      by_cases h2 : k % 2 = 1
      · rw [if_pos h2, get_n] at h
        by_cases h1 : k' = 0
        · rw [if_pos h1] at h; cases h
        · rw [if_neg h1] at h
          by_cases h3 : k' % 2 = 1
          · rw [if_pos h3] at h
            obtain ⟨a, b⟩ := ih _ _ _ _ h
            exact ⟨by omega, b⟩
          · rw [if_neg h3, get_e] at h; cases h
      · rw [if_neg h2, get_n] at h
        by_cases h1 : k' = 0
        · rw [if_pos h1] at h; cases h
        · rw [if_neg h1] at h
          by_cases h3 : k' % 2 = 1
          · rw [if_pos h3, get_e] at h; cases h
          · rw [if_neg h3] at h
            obtain ⟨a, b⟩ := ih _ _ _ _ h
            exact ⟨by omega, b⟩
theorem get_set (t : T α) : ∀ (k : Nat) (x : Option α) (k' : Nat) (y : α), (t.set k x).get k' = some y → (k' = k ∧ x = some y) ∨ (k' ≠ k ∧ t.get k' = some y) := by
  induction t with
  | e => intro k x k' y h; exact .inl (get_one 40 k x k' y h)
  | n l v r ihl ihr =>
    intro k x k' y h
    rw [set_n] at h
    by_cases h0 : k = 0
    · rw [if_pos h0, get_n] at h
      by_cases h1 : k' = 0
      · rw [if_pos h1] at h; exact .inl ⟨by omega, h⟩
      · rw [if_neg h1] at h
        refine .inr ⟨by omega, ?_⟩
        rw [get_n, if_neg h1]; exact h
    · rw [if_neg h0] at h
      by_cases h2 : k % 2 = 1
      · rw [if_pos h2, get_n] at h
        by_cases h1 : k' = 0
        · rw [if_pos h1] at h; exact .inr ⟨by omega, by rw [get_n, if_pos h1]; exact h⟩
        · rw [if_neg h1] at h
          by_cases h3 : k' % 2 = 1
          · rw [if_pos h3] at h
            rcases ihl _ _ _ _ h with ⟨a, b⟩ | ⟨a, b⟩
            · exact .inl ⟨by omega, b⟩
            · exact .inr ⟨by intro e; subst e; exact a rfl, by rw [get_n, if_neg h1, if_pos h3]; exact b⟩
          · rw [if_neg h3] at h
            exact .inr ⟨by intro e; subst e; exact h3 h2, by rw [get_n, if_neg h1, if_neg h3]; exact h⟩
      · rw [if_neg h2, get_n] at h
        by_cases h1 : k' = 0
        · rw [if_pos h1] at h; exact .inr ⟨by omega, by rw [get_n, if_pos h1]; exact h⟩
        · rw [if_neg h1] at h
          by_cases h3 : k' % 2 = 1
          · rw [if_pos h3] at h
            exact .inr ⟨by intro e; subst e; exact h2 h3, by rw [get_n, if_neg h1, if_pos h3]; exact h⟩
          · rw [if_neg h3] at h
            rcases ihr _ _ _ _ h with ⟨a, b⟩ | ⟨a, b⟩
            · exact .inl ⟨by omega, b⟩
            · exact .inr ⟨by intro e; subst e; exact a rfl, by rw [get_n, if_neg h1, if_neg h3]; exact b⟩
theorem get_put {t : T α} {k : Nat} {x : α} {k' : Nat} {y : α} (h : (t.put k x).get k' = some y) : (k' = k ∧ x = y) ∨ (k' ≠ k ∧ t.get k' = some y) := by
  rcases get_set t k (some x) k' y h with ⟨a, b⟩ | h
  · exact .inl ⟨a, Option.some.inj b⟩
  · exact .inr h
theorem get_del {t : T α} {k k' : Nat} {y : α} (h : (t.del k).get k' = some y) : k' ≠ k ∧ t.get k' = some y := by
  rcases get_set t k none k' y h with ⟨_, b⟩ | h
  · cases b
  · exact h
theorem get_ofListFrom (l : List α) : ∀ (i : Nat) (t : T α) (k : Nat) (y : α), (ofListFrom i l t).get k = some y → (i ≤ k ∧ l[k - i]? = some y) ∨ ((k < i ∨ i + l.length ≤ k) ∧ t.get k = some y) := by
  induction l with
  | nil => intro i t k y h; exact .inr ⟨by simp; omega, h⟩
  | cons x l ih =>
    intro i t k y h
    rcases ih _ _ _ _ h with ⟨a, b⟩ | ⟨a, b⟩
    · refine .inl ⟨by omega, ?_⟩
      rw [show k - i = (k - Nat.succ i) + 1 by omega, List.getElem?_cons_succ]
      exact b
    · rcases get_put b with ⟨c, d⟩ | ⟨c, d⟩
      · subst c; subst d
        exact .inl ⟨Nat.le_refl _, by simp⟩
      · refine .inr ⟨?_, d⟩
        simp only [List.length_cons]
        omega
theorem get_ofList {l : List α} {k : Nat} {y : α} (h : (ofList l).get k = some y) : l[k]? = some y := by
  rcases get_ofListFrom l 0 .e k y h with ⟨_, b⟩ | ⟨_, b⟩
  · exact b
  · rw [get_e] at b; cases b
end T
end
end Go.Proofs.YteaacjabcfopgaaGreat.Am
namespace Go.Proofs.YteaacjabcfopgaaGreat.Am
open Go.RowKit
noncomputable section
inductive Cap where
  | k (n : Nat)
  | own (es : Nat)
  | any
inductive AV where
  | unk
  | bool (b : Bool)
  | int (k : IntKind) (n : Int)
  | str (s : List Nat)
  | ptr (id off : Nat)
  | nilp
  | slice (id off len : Nat) (cap : Cap)
  | nils
  | map (id : Nat)
  | nilm
  | fn (f : FuncId) (first captured : List AV)
  | yld (id : Nat)
  | nilf
  | agg (cs : List AV)
  | tup (vs : List AV)
  | nili
  | rng (lo hi : Int)
  | one
inductive Blk where
  | cells (n : Nat) (c : T AV) (ish : Bool)
  | map (es : List (AV × AV × Nat)) (clock : Nat)
  | iter (m : Option Nat) (since : Nat) (seen : List Nat) (last : Nat)
  | loop (s : LoopState) (pending : Option Code) (fn : FuncId) (nt : Nat) (tmps : T AV) (params : Array Tmp) (assign body : Code) (defers : Nat)
  | dfr (open_ : Bool)
  | siter (s : List Nat) (pos : Nat)
structure H where
  h : T Blk
  next : Nat
structure PB where
  blk : Nat
  sh : Nat
  N : Nat
abbrev Phi := Nat → Option PB
def Phi.le (φ ψ : Phi) : Prop := ∀ id p, φ id = some p → ψ id = some p
theorem Phi.le_refl (φ : Phi) : φ.le φ := fun _ _ h => h
theorem Phi.le_trans {φ ψ χ : Phi} (h : φ.le ψ) (g : ψ.le χ) : φ.le χ := fun _ _ e => g _ _ (h _ _ e)
def PB.addr (p : PB) (off : Nat) : Addr := ⟨p.blk, p.sh + off, none⟩
def Cap.ok (p : PB) (off c : Nat) : Cap → Prop
  | .k n => c = n
  | .own es => p.sh + off + c * es = p.N
  | .any => True
mutual
inductive RV (φ : Phi) : AV → Value → Prop where
  | unk (v : Value) : RV φ .unk v
  | bool (b : Bool) : RV φ (.bool b) (.bool b)
  | int (k : IntKind) (n : Int) : RV φ (.int k n) (.int k n)
  | rng {lo hi n : Int} (h1 : lo ≤ n) (h2 : n ≤ hi) : RV φ (.rng lo hi) (.int .i64 n)
  | str (b : ByteArray) : RV φ (.str (b.data.toList.map UInt8.toNat)) (.string b)
  | ptr {id off : Nat} {p : PB} (h : φ id = some p) : RV φ (.ptr id off) (.pointer (some (p.addr off)))
  | nilp : RV φ .nilp (.pointer none)
  | slice {id off len c : Nat} {cap : Cap} {p : PB} (h : φ id = some p) (hl : len ≤ c) (hc : cap.ok p off c) : RV φ (.slice id off len cap) (.slice (some (p.addr off)) len c)
  | nils : RV φ .nils (.slice none 0 0)
  | map {id : Nat} {p : PB} (h : φ id = some p) : RV φ (.map id) (.map (some p.blk))
  | nilm : RV φ .nilm (.map none)
  | fn {f : FuncId} {a b : List AV} {a' b' : List Value} (ha : RL φ a a') (hb : RL φ b b') : RV φ (.fn f a b) (.func (.func f) a'.toArray b'.toArray)
  | yld {id : Nat} {p : PB} (h : φ id = some p) : RV φ (.yld id) (.func (.yield p.blk) #[] #[])
  | nilf : RV φ .nilf .nilFunc
  | agg {a : List AV} {a' : List Value} (ha : RL φ a a') (ho : ∀ v ∈ a', v.oneCell' = true) : RV φ (.agg a) (.agg a'.toArray)
  | tup {a : List AV} {a' : List Value} (ha : RL φ a a') : RV φ (.tup a) (.tuple a'.toArray)
  | nili : RV φ .nili .nilIface
  | sgl {v : Value} (h : v.oneCell' = true) : RV φ .one v
inductive RL (φ : Phi) : List AV → List Value → Prop where
  | nil : RL φ [] []
  | cons {a : AV} {v : Value} {l : List AV} {m : List Value} (h : RV φ a v) (t : RL φ l m) : RL φ (a :: l) (v :: m)
end
mutual
theorem RV.mono {φ ψ : Phi} (hle : φ.le ψ) {a : AV} {v : Value} (h : RV φ a v) : RV ψ a v := by
  cases h with
  | unk => exact .unk _
  | bool => exact .bool _
  | int => exact .int _ _
  | rng a b => exact .rng a b
  | str => exact .str _
  | ptr h => exact .ptr (hle _ _ h)
  | nilp => exact .nilp
  | slice h a b => exact .slice (hle _ _ h) a b
  | nils => exact .nils
  | map h => exact .map (hle _ _ h)
  | nilm => exact .nilm
  | fn ha hb => exact .fn (RL.mono hle ha) (RL.mono hle hb)
  | yld h => exact .yld (hle _ _ h)
  | nilf => exact .nilf
  | agg ha ho => exact .agg (RL.mono hle ha) ho
  | tup ha => exact .tup (RL.mono hle ha)
  | nili => exact .nili
  | sgl h => exact .sgl h
theorem RL.mono {φ ψ : Phi} (hle : φ.le ψ) {a : List AV} {v : List Value} (h : RL φ a v) : RL ψ a v := by
  cases h with
  | nil => exact .nil
  | cons h t => exact .cons (RV.mono hle h) (RL.mono hle t)
end
theorem RL.length {φ : Phi} : ∀ {a : List AV} {v : List Value}, RL φ a v → a.length = v.length
  | _, _, .nil => rfl
  | _, _, .cons _ t => by simp [RL.length t]
theorem RL.get {φ : Phi} : ∀ {a : List AV} {v : List Value}, RL φ a v → ∀ (i : Nat) (x : AV), a[i]? = some x → ∃ y, v[i]? = some y ∧ RV φ x y
  | _, _, .nil, i, x, h => by simp at h
  | _, _, .cons h t, 0, x, e => by simp at e; subst e; exact ⟨_, rfl, h⟩
  | _, _, .cons h t, i + 1, x, e => by simp at e; simpa using RL.get t i x e
theorem RL.append {φ : Phi} : ∀ {a b : List AV} {v u : List Value}, RL φ a v → RL φ b u → RL φ (a ++ b) (v ++ u)
  | _, _, _, _, .nil, hb => hb
  | _, _, _, _, .cons h t, hb => .cons h (RL.append t hb)
theorem RL.take {φ : Phi} : ∀ {a : List AV} {v : List Value} (n : Nat), RL φ a v → RL φ (a.take n) (v.take n)
  | _, _, 0, _ => .nil
  | _, _, _ + 1, .nil => .nil
  | _, _, n + 1, .cons h t => .cons h (RL.take n t)
theorem RL.drop {φ : Phi} : ∀ {a : List AV} {v : List Value} (n : Nat), RL φ a v → RL φ (a.drop n) (v.drop n)
  | _, _, 0, h => h
  | _, _, _ + 1, .nil => .nil
  | _, _, n + 1, .cons _ t => RL.drop n t
theorem RL.of_get {φ : Phi} : ∀ {a : List AV} {v : List Value}, a.length = v.length → (∀ (i : Nat) (x : AV) (y : Value), a[i]? = some x → v[i]? = some y → RV φ x y) → RL φ a v
  | [], [], _, _ => .nil
  | [], _ :: _, h, _ => by simp at h
  | _ :: _, [], h, _ => by simp at h
  | a :: l, v :: m, h, g => .cons (g 0 a v rfl rfl) (RL.of_get (by simpa using h) fun i x y hx hy => g (i + 1) x y (by simpa using hx) (by simpa using hy))
def RE (φ : Phi) (e : AV × AV × Nat) (m : MapEntry) : Prop := RV φ e.1 m.key ∧ RV φ e.2.1 m.val ∧ e.2.2 = m.born
inductive REs (φ : Phi) : List (AV × AV × Nat) → List MapEntry → Prop where
  | nil : REs φ [] []
  | cons {e : AV × AV × Nat} {m : MapEntry} {l : List (AV × AV × Nat)} {k : List MapEntry} (h : RE φ e m) (t : REs φ l k) : REs φ (e :: l) (m :: k)
theorem RE.mono {φ ψ : Phi} (hle : φ.le ψ) {e : AV × AV × Nat} {m : MapEntry} (h : RE φ e m) : RE ψ e m := ⟨h.1.mono hle, h.2.1.mono hle, h.2.2⟩
theorem REs.mono {φ ψ : Phi} (hle : φ.le ψ) : ∀ {l : List (AV × AV × Nat)} {k : List MapEntry}, REs φ l k → REs ψ l k
  | _, _, .nil => .nil
  | _, _, .cons h t => .cons (h.mono hle) (REs.mono hle t)
def RT (φ : Phi) (tmps : T AV) (a : Array Value) : Prop := ∀ t av, tmps.get t = some av → t < a.size ∧ RV φ av (a.getD t undef)
theorem RT.mono {φ ψ : Phi} (hle : φ.le ψ) {tmps : T AV} {a : Array Value} (h : RT φ tmps a) : RT ψ tmps a := fun t av e => ⟨(h t av e).1, (h t av e).2.mono hle⟩
def RB (φ : Phi) (p : PB) : Blk → Obj → Prop
  | .cells n c ish, o => ∃ (a : Array Value) (e : TypeId) (lo hi : Nat), o = .cells a e (lo, hi) ∧ a.size = p.N ∧ p.sh + n ≤ p.N ∧ (∀ i, i < p.N → ¬ (lo ≤ i ∧ i < hi)) ∧ (ish = false → lo = hi) ∧
      ∀ i av, c.get i = some av → i < n → ∃ v, a[p.sh + i]? = some v ∧ RV φ av v ∧ v.oneCell' = true
  | .map es clock, o => ∃ es' : Array MapEntry, o = .map es' clock ∧ REs φ es es'.toList
  | .iter m since seen last, o => p.sh = 0 ∧ ∃ m' : Option Nat, o = .mapIter m' since seen.toArray last ∧ (match m with | none => m' = none | some id => ∃ p, φ id = some p ∧ m' = some p.blk)
  | .loop s pend fn nt tmps ps as bd df, o => ∃ (tm : Array Value) (d : PB), o = .loop { state := s, pending := pend, fn, tmps := tm, params := ps, assign := as, body := bd, defers := d.blk } ∧ tm.size = nt ∧ RT φ tmps tm ∧ φ df = some d
  | .dfr true, o => o = .deferred (some [])
  | .dfr false, o => o = .deferred none
  | .siter s pos, o => p.sh = 0 ∧ ∃ b : ByteArray, o = .stringIter b pos ∧ s = b.data.toList.map UInt8.toNat
theorem RB.mono {φ ψ : Phi} (hle : φ.le ψ) {p : PB} {b : Blk} {o : Obj} (h : RB φ p b o) : RB ψ p b o := by
  cases b with
  | cells n c ish =>
    obtain ⟨a, e, lo, hi, h1, h2, h3, h4, h5, h6⟩ := h
    exact ⟨a, e, lo, hi, h1, h2, h3, h4, h5, fun i av h h' => let ⟨v, x, y, z⟩ := h6 i av h h'; ⟨v, x, y.mono hle, z⟩⟩
  | map es clock =>
    obtain ⟨es', h1, h2⟩ := h
    exact ⟨es', h1, h2.mono hle⟩
  | iter m since seen last =>
    obtain ⟨h0, m', h1, h2⟩ := h
    refine ⟨h0, m', h1, ?_⟩
    cases m with
    | none => exact h2
    | some id => obtain ⟨p, a, b⟩ := h2; exact ⟨p, hle _ _ a, b⟩
  | loop s pend fn nt tmps ps as bd df =>
    obtain ⟨tm, d, h1, h2, h3, h4⟩ := h
    exact ⟨tm, d, h1, h2, h3.mono hle, hle _ _ h4⟩
  | dfr o => cases o <;> exact h
  | siter s pos => exact h
structure Base0 where
  w : World
  phi : Phi
structure Base where
  o : Base0
  rsv : List Nat
@[reducible] def Base.w (b : Base) : World := b.o.w
structure RH (w0 : Base) (φ : Phi) (h : H) (w : World) : Prop where
  blk : ∀ id b p, h.h.get id = some b → φ id = some p → ∃ o, w.heap[p.blk]? = some o ∧ RB φ p b o
  inj : ∀ id id' b b' p p', h.h.get id = some b → h.h.get id' = some b' → φ id = some p → φ id' = some p' → p.blk = p'.blk → id = id'
  own : ∀ id p, φ id = some p → w0.w.heap.size ≤ p.blk ∧ p.blk < w.heap.size
  fresh : ∀ id, h.next ≤ id → φ id = none ∧ h.h.get id = none
  bel : Below w0.w.heap.size w0.w w
  rsv : ∀ id, id ∈ w0.rsv → φ id = none ∧ id < h.next
  up : w0.o.phi.le φ
theorem RH.at {w0 : Base} {φ : Phi} {h : H} {w : World} (hR : RH w0 φ h w) {id : Nat} {p : PB} {b : Blk} (hp : φ id = some p) (hg : h.h.get id = some b) : ∃ q o, φ id = some q ∧ w.heap[q.blk]? = some o ∧ RB φ q b o :=
  let ⟨o, x, y⟩ := hR.blk id b p hg hp
  ⟨p, o, hp, x, y⟩
def Phi.add (φ : Phi) (id : Nat) (p : PB) : Phi := fun i => if i = id then some p else φ i
theorem Phi.le_add {φ : Phi} {id : Nat} {p : PB} (h : φ id = none) : φ.le (φ.add id p) := fun i q e => by
  unfold Phi.add
  by_cases hi : i = id
  · subst hi; rw [h] at e; cases e
  · rw [if_neg hi]; exact e
theorem Phi.add_at (φ : Phi) (id : Nat) (p : PB) : φ.add id p id = some p := by unfold Phi.add; rw [if_pos rfl]
end
end Go.Proofs.YteaacjabcfopgaaGreat.Am
namespace Go.Proofs.YteaacjabcfopgaaGreat.Am
open Go.RowKit
noncomputable section
def H.new (h : H) (b : Blk) : H := ⟨h.h.put h.next b, Nat.succ h.next⟩
def H.upd (h : H) (id : Nat) (b : Blk) : H := ⟨h.h.put id b, h.next⟩
def H.drop (h : H) (id : Nat) : H := ⟨h.h.del id, h.next⟩
structure One (b : Nat) (w w' : World) : Prop where
  os : w'.os = w.os
  tape : w'.tape = w.tape
  output : w'.output = w.output
  size : w'.heap.size = w.heap.size
  block : ∀ k, k ≠ b → w'.heap[k]? = w.heap[k]?
theorem One.refl (b : Nat) (w : World) : One b w w := ⟨rfl, rfl, rfl, rfl, fun _ _ => rfl⟩
theorem One.trans {b : Nat} {w w' w'' : World} (h : One b w w') (g : One b w' w'') : One b w w'' :=
  ⟨g.os.trans h.os, g.tape.trans h.tape, g.output.trans h.output, g.size.trans h.size, fun k hk => (g.block k hk).trans (h.block k hk)⟩
theorem One.set (w : World) (a : Addr) (v : Value) : One a.block w (w.setCell a v) :=
  ⟨rfl, rfl, rfl, by simp [World.setCell], fun k hk => Below.heap_setCell w a v k hk⟩
theorem One.obj (w : World) (r : Nat) (o : Obj) : One r w { w with heap := w.heap.setIfInBounds r o } :=
  ⟨rfl, rfl, rfl, by simp, fun k hk => by simp [Ne.symm hk]⟩
theorem One.below {b n : Nat} {w w' : World} (h : One b w w') (hb : n ≤ b) : Below n w w' := ⟨h.os, h.tape, h.output, by rw [h.size]; exact Nat.le_refl _, fun k hk => h.block k (by omega)⟩
section
variable {w0 : Base} {φ : Phi} {h : H} {w : World}
theorem RH.none_at (hR : RH w0 φ h w) : φ h.next = none := (hR.fresh h.next (Nat.le_refl _)).1
theorem RH.new (hR : RH w0 φ h w) {b : Blk} {o : Obj} {p : PB} (hp : p.blk = w.heap.size) (hb : RB (φ.add h.next p) p b o) : RH w0 (φ.add h.next p) (h.new b) (w.alloc o) := by
  have hle : φ.le (φ.add h.next p) := Phi.le_add hR.none_at
  have hsz : (w.alloc o).heap.size = w.heap.size + 1 := World.size_alloc w o
  have old : ∀ id, id ≠ h.next → (φ.add h.next p) id = φ id := fun id hi => by unfold Phi.add; rw [if_neg hi]
  refine ⟨?_, ?_, ?_, ?_, ?_, fun id hi => ⟨by rw [old _ (Nat.ne_of_lt (hR.rsv id hi).2)]; exact (hR.rsv id hi).1, Nat.lt_succ_of_lt (hR.rsv id hi).2⟩, Phi.le_trans hR.up hle⟩
  · intro id b1 q hg hq
    rcases T.get_put hg with ⟨rfl, rfl⟩ | ⟨hne, hg⟩
    · rw [Phi.add_at] at hq
      cases hq
      refine ⟨o, ?_, hb⟩
      rw [hp]
      show (w.heap.push o)[w.heap.size]? = some o
      simp
    · rw [old _ hne] at hq
      obtain ⟨o', h2, h3⟩ := hR.blk id b1 q hg hq
      exact ⟨o', (Below.heap_alloc w o _ (hR.own id q hq).2).trans h2, h3.mono hle⟩
  · intro id id' b1 b2 p1 p2 g1 g2 e1 e2 hb
    rcases T.get_put g1 with ⟨rfl, rfl⟩ | ⟨hne, g1⟩
    · rcases T.get_put g2 with ⟨rfl, rfl⟩ | ⟨hne2, g2⟩
      · rfl
      · rw [Phi.add_at] at e1
        rw [old _ hne2] at e2
        cases e1
        have := (hR.own _ _ e2).2
        omega
    · rw [old _ hne] at e1
      rcases T.get_put g2 with ⟨rfl, rfl⟩ | ⟨hne2, g2⟩
      · rw [Phi.add_at] at e2
        cases e2
        have := (hR.own _ _ e1).2
        omega
      · rw [old _ hne2] at e2
        exact hR.inj _ _ _ _ _ _ g1 g2 e1 e2 hb
  · intro id q e
    by_cases hi : id = h.next
    · subst hi
      rw [Phi.add_at] at e
      cases e
      rw [hp, hsz]
      exact ⟨hR.bel.size, by omega⟩
    · rw [old _ hi] at e
      have := hR.own _ _ e
      rw [hsz]
      exact ⟨this.1, by omega⟩
  · intro id hid
    have hid' : h.next + 1 ≤ id := hid
    have := hR.fresh id (by omega)
    refine ⟨by rw [old _ (by omega)]; exact this.1, ?_⟩
    show (h.h.put h.next b).get id = none
    cases e : (h.h.put h.next b).get id with
    | none => rfl
    | some y =>
      rcases T.get_put e with ⟨rfl, _⟩ | ⟨_, g⟩
      · omega
      · rw [this.2] at g; cases g
  · exact hR.bel.alloc hR.bel.size o
theorem RH.upd (hR : RH w0 φ h w) {id : Nat} {b b' : Blk} {p : PB} {w' : World} {o : Obj} (hg : h.h.get id = some b) (hp : φ id = some p) (hw : One p.blk w w') (ho : w'.heap[p.blk]? = some o) (hb : RB φ p b' o) : RH w0 φ (h.upd id b') w' := by
  refine ⟨?_, ?_, ?_, ?_, ?_, hR.rsv, hR.up⟩
  · intro id1 b1 q g1 h1
    rcases T.get_put g1 with ⟨rfl, rfl⟩ | ⟨hne, g1⟩
    · rw [hp] at h1
      cases h1
      exact ⟨o, ho, hb⟩
    · obtain ⟨o', h2, h3⟩ := hR.blk id1 b1 q g1 h1
      refine ⟨o', (hw.block _ ?_).trans h2, h3⟩
      intro e
      exact hne (hR.inj _ _ _ _ _ _ g1 hg h1 hp e)
  · intro i j b1 b2 p1 p2 g1 g2 e1 e2 e
    have f : ∀ i b1, (h.h.put id b').get i = some b1 → ∃ b2, h.h.get i = some b2 := fun i b1 g => by
      rcases T.get_put g with ⟨rfl, _⟩ | ⟨_, g⟩
      · exact ⟨b, hg⟩
      · exact ⟨_, g⟩
    obtain ⟨_, g1⟩ := f i b1 g1
    obtain ⟨_, g2⟩ := f j b2 g2
    exact hR.inj _ _ _ _ _ _ g1 g2 e1 e2 e
  · intro i q e
    rw [hw.size]
    exact hR.own i q e
  · intro i hi
    have := hR.fresh i hi
    refine ⟨this.1, ?_⟩
    show (h.h.put id b').get i = none
    cases e : (h.h.put id b').get i with
    | none => rfl
    | some y =>
      rcases T.get_put e with ⟨rfl, _⟩ | ⟨_, g⟩
      · rw [this.2] at hg; cases hg
      · rw [this.2] at g; cases g
  · exact hR.bel.trans (hw.below (hR.own id p hp).1)
theorem RH.drop (hR : RH w0 φ h w) (id : Nat) : RH w0 φ (h.drop id) w :=
  ⟨fun i b q g => hR.blk i b q (T.get_del g).2, fun i j b1 b2 p1 p2 g1 g2 => hR.inj i j b1 b2 p1 p2 (T.get_del g1).2 (T.get_del g2).2, hR.own,
    fun i hi => ⟨(hR.fresh i hi).1, by
      show (h.h.del id).get i = none
      cases e : (h.h.del id).get i with
      | none => rfl
      | some y => have := (T.get_del e).2; rw [(hR.fresh i hi).2] at this; cases this⟩, hR.bel, hR.rsv, hR.up⟩
theorem RH.drew (hR : RH w0 φ h w) (n : Nat) : RH w0 φ h { w with drawn := n } :=
  ⟨hR.blk, hR.inj, hR.own, hR.fresh, ⟨hR.bel.os, hR.bel.tape, hR.bel.output, hR.bel.size, hR.bel.block⟩, hR.rsv, hR.up⟩
end
theorem addr_add (p : PB) (off i : Nat) : (p.addr off).add i = p.addr (off + i) := by
  unfold Addr.add PB.addr
  by_cases h : i = 0
  · subst h; rfl
  · rw [if_neg h]
    simp [Nat.add_assoc]
theorem cell_at {w : World} {p : PB} {a : Array Value} {e : TypeId} {f : Nat × Nat} (h : w.heap[p.blk]? = some (.cells a e f)) (off : Nat) : w.cell? (p.addr off) = a[p.sh + off]? := by
  unfold World.cell? PB.addr
  rw [h]
  rfl
theorem frozen_at {w : World} {p : PB} {a : Array Value} {e : TypeId} {lo hi : Nat} (h : w.heap[p.blk]? = some (.cells a e (lo, hi))) (off : Nat) : w.frozen? (p.addr off) = (decide (lo ≤ p.sh + off) && decide (p.sh + off < hi)) := by
  unfold World.frozen? PB.addr
  rw [h]
theorem set_at {w : World} {p : PB} {a : Array Value} {e : TypeId} {f : Nat × Nat} (h : w.heap[p.blk]? = some (.cells a e f)) (off : Nat) (v : Value) : (w.setCell (p.addr off) v).heap[p.blk]? = some (.cells (a.setIfInBounds (p.sh + off) v) e f) := by
  unfold World.setCell PB.addr
  simp only [Array.getElem?_modify, if_pos, h]
  rfl
def getN (c : T AV) : Nat → Nat → Option (List AV)
  | _, 0 => some []
  | o, n + 1 => match c.get o with
    | none => none
    | some v => match getN c (Nat.succ o) n with
      | none => none
      | some l => some (v :: l)
theorem getN_at {c : T AV} : ∀ {n o : Nat} {l : List AV}, getN c o n = some l → l.length = n ∧ ∀ i, i < n → ∃ av, c.get (o + i) = some av ∧ l[i]? = some av
  | 0, o, l, h => by cases h; exact ⟨rfl, fun i hi => absurd hi (by omega)⟩
  | n + 1, o, l, h => by
    unfold getN at h
    split at h
    · cases h
    · rename_i v hv
      split at h
      · cases h
      · rename_i m hm
        cases h
        obtain ⟨h1, h2⟩ := getN_at hm
        refine ⟨by simp [h1], fun i hi => ?_⟩
        cases i with
        | zero => exact ⟨v, hv, rfl⟩
        | succ i =>
          obtain ⟨av, a, b⟩ := h2 i (by omega)
          exact ⟨av, by rw [show o + (i + 1) = Nat.succ o + i by omega]; exact a, by simpa using b⟩
def loadB (b : Option Blk) (off n : Nat) : Option (List AV) :=
  match b with
  | some (.cells k c _) => cond (Nat.ble (Nat.add off n) k) (getN c off n) none
  | _ => none
def H.load (h : H) (id off n : Nat) : Option (List AV) := loadB (h.h.get id) off n
theorem run_loadFrom {P : Program} {w : World} {a : Addr} (vs : List Value) : ∀ (k i : Nat) (acc : Array Value), i + k = vs.length → (∀ j, j < vs.length → w.cell? (a.add j) = vs[j]?) →
    (loadCellsFrom a i k acc).run P w = .ok (acc ++ (vs.drop i).toArray) w := by
  intro k
  induction k with
  | zero =>
    intro i acc hi _
    rw [List.drop_of_length_le (by omega)]
    simp [loadCellsFrom, pure]
  | succ k ih =>
    intro i acc hi hc
    have hlt : i < vs.length := by omega
    have hci := hc i hlt
    rw [List.getElem?_eq_getElem hlt] at hci
    show (Sem.bind (load (a.add i)) fun v => loadCellsFrom a (i + 1) k (acc.push v)).run P w = _
    simp only [load, Sem.bind, Sem.run, hci]
    rw [ih (i + 1) _ (by omega) hc]
    congr 1
    rw [List.drop_eq_getElem_cons hlt]
    simp
theorem run_loadCells {P : Program} {w : World} {a : Addr} (vs : List Value) (hc : ∀ j, j < vs.length → w.cell? (a.add j) = vs[j]?) : (loadCells a vs.length).run P w = .ok vs.toArray w := by
  unfold loadCells
  rw [run_loadFrom vs vs.length 0 #[] (by omega) hc]
  simp
theorem RH.load {w0 : Base} {φ : Phi} {h : H} {w : World} (hR : RH w0 φ h w) {id off n : Nat} {l : List AV} {p : PB} (hl : h.load id off n = some l) (hp : φ id = some p) :
    ∃ vs : List Value, vs.length = n ∧ RL φ l vs ∧ (∀ v ∈ vs, v.oneCell' = true) ∧ (∀ j, j < n → w.cell? (p.addr (off + j)) = vs[j]?) ∧ ∀ P, (loadCells (p.addr off) n).run P w = .ok vs.toArray w := by
  unfold H.load loadB at hl
  split at hl
  · rename_i k c ish hg
    cases hk : Nat.ble (Nat.add off n) k with
    | false => rw [hk] at hl; cases hl
    | true =>
      rw [hk] at hl
      have hk' : off + n ≤ k := Nat.le_of_ble_eq_true hk
      obtain ⟨q, o, h1, h2, a, e, lo, hi, rfl, h3, h4, h5, h6, h7⟩ := hR.at hp hg
      rw [hp] at h1
      cases h1
      obtain ⟨g1, g2⟩ := getN_at hl
      have each : ∀ i, i < n → ∃ av v, l[i]? = some av ∧ a[p.sh + (off + i)]? = some v ∧ RV φ av v ∧ v.oneCell' = true := fun i hi => by
        obtain ⟨av, x, y⟩ := g2 i hi
        obtain ⟨v, r1, r2, r3⟩ := h7 (off + i) av x (by omega)
        exact ⟨av, v, y, r1, r2, r3⟩
      have hlen : p.sh + off + n ≤ a.size := by omega
      let vs : List Value := (a.toList.drop (p.sh + off)).take n
      have hvl : vs.length = n := by simp [vs]; omega
      have hv : ∀ i, i < n → vs[i]? = a[p.sh + (off + i)]? := fun i hi => by
        show ((a.toList.drop (p.sh + off)).take n)[i]? = _
        rw [List.getElem?_take_of_lt hi, List.getElem?_drop, Array.getElem?_toList]
        congr 1
        omega
      have hc : ∀ j, j < n → w.cell? (p.addr (off + j)) = vs[j]? := fun j hj => by rw [cell_at h2, hv j hj]
      refine ⟨vs, hvl, ?_, ?_, hc, ?_⟩
      · refine RL.of_get (by rw [g1, hvl]) fun i x y hx hy => ?_
        have hi : i < n := by have := (List.getElem?_eq_some_iff.1 hx).1; omega
        obtain ⟨av, v, x1, x2, x3, _⟩ := each i hi
        rw [x1] at hx
        cases hx
        rw [hv i hi, x2] at hy
        cases hy
        exact x3
      · intro v hvm
        obtain ⟨i, hi⟩ := List.getElem?_of_mem hvm
        have hin : i < n := by have := (List.getElem?_eq_some_iff.1 hi).1; omega
        obtain ⟨av, v', _, x2, _, x4⟩ := each i hin
        rw [hv i hin, x2] at hi
        cases hi
        exact x4
      · intro P
        have := run_loadCells (P := P) (w := w) (a := p.addr off) vs (fun j hj => by rw [addr_add]; exact hc j (by omega))
        rwa [hvl] at this
  · cases hl
def isOne : AV → Bool
  | .unk => false
  | .agg _ => false
  | .tup _ => false
  | _ => true
def allOne : List AV → Bool
  | [] => true
  | v :: l => cond (isOne v) (allOne l) false
theorem RV.one {φ : Phi} {a : AV} {v : Value} (h : RV φ a v) (ho : isOne a = true) : v.oneCell' = true := by
  cases h <;> first | rfl | assumption | cases ho
theorem allOne_at : ∀ {l : List AV}, allOne l = true → ∀ a ∈ l, isOne a = true
  | [], _, _, h => by cases h
  | v :: l, h, a, hm => by
    unfold allOne at h
    cases hv : isOne v with
    | false => rw [hv] at h; cases h
    | true =>
      rw [hv] at h
      rcases List.mem_cons.1 hm with rfl | hm
      · exact hv
      · exact allOne_at h a hm
def putN (c : T AV) : Nat → List AV → T AV
  | _, [] => c
  | o, v :: l => putN (c.put o v) (Nat.succ o) l
theorem putN_at : ∀ {l : List AV} {c : T AV} {o k : Nat} {y : AV}, (putN c o l).get k = some y → (o ≤ k ∧ l[k - o]? = some y) ∨ ((k < o ∨ o + l.length ≤ k) ∧ c.get k = some y)
  | [], c, o, k, y, h => .inr ⟨by simp; omega, h⟩
  | v :: l, c, o, k, y, h => by
    rcases putN_at (l := l) h with ⟨a, b⟩ | ⟨a, b⟩
    · refine .inl ⟨by omega, ?_⟩
      rw [show k - o = (k - Nat.succ o) + 1 by omega, List.getElem?_cons_succ]
      exact b
    · rcases T.get_put b with ⟨rfl, rfl⟩ | ⟨hne, b⟩
      · exact .inl ⟨Nat.le_refl _, by simp⟩
      · exact .inr ⟨by simp only [List.length_cons]; omega, b⟩
def storeB (h : H) (id off : Nat) (vs : List AV) (b : Option Blk) : Option H :=
  match b with
  | some (.cells k c ish) => cond (Nat.ble (Nat.add off vs.length) k) (cond (allOne vs) (some (h.upd id (.cells k (putN c off vs) ish))) none) none
  | _ => none
def H.store (h : H) (id off : Nat) (vs : List AV) : Option H := storeB h id off vs (h.h.get id)
theorem run_storeCells {P : Program} {p : PB} {off : Nat} {e : TypeId} {lo hi : Nat} : ∀ (vs : List Value) (i : Nat) (w : World) (a : Array Value), w.heap[p.blk]? = some (.cells a e (lo, hi)) →
    p.sh + (off + i) + vs.length ≤ a.size → (∀ j, j < a.size → ¬ (lo ≤ j ∧ j < hi)) → (∀ v ∈ vs, v.oneCell' = true) →
    ∃ (w' : World) (a' : Array Value), (storeCells (p.addr off) vs i).run P w = .ok () w' ∧ One p.blk w w' ∧ w'.heap[p.blk]? = some (.cells a' e (lo, hi)) ∧ a'.size = a.size ∧ w'.drawn = w.drawn ∧
      ∀ j, a'[j]? = if p.sh + (off + i) ≤ j ∧ j < p.sh + (off + i) + vs.length then vs[j - (p.sh + (off + i))]? else a[j]? := by
  intro vs
  induction vs with
  | nil =>
    intro i w a hb _ _ _
    exact ⟨w, a, rfl, One.refl _ _, hb, rfl, rfl, fun j => by rw [if_neg (by simp)]⟩
  | cons v vs ih =>
    intro i w a hb hl hf ho
    have hlt : p.sh + (off + i) < a.size := by simp only [List.length_cons] at hl; omega
    have hcell : w.cell? (p.addr (off + i)) = some a[p.sh + (off + i)] := by rw [cell_at hb, Array.getElem?_eq_getElem hlt]
    have hfr : w.frozen? (p.addr (off + i)) = false := by
      rw [frozen_at hb]
      have := hf _ hlt
      simp only [Bool.and_eq_false_iff, decide_eq_false_iff_not]
      omega
    have hone := ho v List.mem_cons_self
    have hb' := set_at hb (off + i) v
    obtain ⟨w', a', r1, r2, r3, r4, r5, r6⟩ := ih (i + 1) (w.setCell (p.addr (off + i)) v) (a.setIfInBounds (p.sh + (off + i)) v) hb'
      (by simp only [List.length_cons, Array.size_setIfInBounds] at hl ⊢; omega) (by simpa using hf) (fun u hu => ho u (List.mem_cons_of_mem _ hu))
    refine ⟨w', a', ?_, (One.set w (p.addr (off + i)) v).trans r2, r3, by rw [r4]; simp, r5, fun j => ?_⟩
    · show (Sem.bind (store ((p.addr off).add i) v) fun _ => storeCells (p.addr off) vs (i + 1)).run P w = _
      rw [addr_add]
      have hrun : (Sem.bind (store (p.addr (off + i)) v) fun _ => storeCells (p.addr off) vs (i + 1)).run P w = (storeCells (p.addr off) vs (i + 1)).run P (w.setCell (p.addr (off + i)) v) := by
        cases v <;> first | (simp only [store, Sem.bind, Sem.run, hcell, hfr]; rfl) | (simp [Value.oneCell'] at hone)
      rw [hrun, r1]
    · rw [r6 j]
      by_cases hj : j = p.sh + (off + i)
      · subst hj
        rw [if_neg (by omega), if_pos (by simp), Array.getElem?_setIfInBounds_self_of_lt hlt]
        simp
      · rw [Array.getElem?_setIfInBounds_ne (Ne.symm hj)]
        by_cases hin : p.sh + (off + (i + 1)) ≤ j ∧ j < p.sh + (off + (i + 1)) + vs.length
        · rw [if_pos hin, if_pos (by simp only [List.length_cons]; omega), show j - (p.sh + (off + i)) = (j - (p.sh + (off + (i + 1)))) + 1 by omega, List.getElem?_cons_succ]
        · rw [if_neg hin, if_neg (by simp only [List.length_cons]; omega)]
theorem RH.store {w0 : Base} {φ : Phi} {h h' : H} {w : World} (hR : RH w0 φ h w) {id off : Nat} {vs : List AV} {us : List Value} {p : PB} (hs : h.store id off vs = some h') (hp : φ id = some p) (hv : RL φ vs us) :
    ∃ w', RH w0 φ h' w' ∧ ∀ P, (storeCells (p.addr off) us).run P w = .ok () w' := by
  unfold H.store storeB at hs
  split at hs
  · rename_i k c ish hg
    cases hk : Nat.ble (Nat.add off vs.length) k with
    | false => rw [hk] at hs; cases hs
    | true =>
      rw [hk] at hs
      cases ha : allOne vs with
      | false => rw [ha] at hs; cases hs
      | true =>
        rw [ha] at hs
        have hs' : h.upd id (.cells k (putN c off vs) ish) = h' := Option.some.inj hs
        have hk' : off + vs.length ≤ k := Nat.le_of_ble_eq_true hk
        obtain ⟨q, o, h1, h2, a, e, lo, hi, rfl, h3, h4, h5, h6, h7⟩ := hR.at hp hg
        rw [hp] at h1
        cases h1
        have hlen := hv.length
        have hone : ∀ u ∈ us, u.oneCell' = true := fun u hu => by
          obtain ⟨i, hi'⟩ := List.getElem?_of_mem hu
          have hlt : i < vs.length := by rw [hlen]; exact (List.getElem?_eq_some_iff.1 hi').1
          obtain ⟨y, hy, hr⟩ := hv.get i _ (List.getElem?_eq_getElem hlt)
          rw [hy] at hi'
          cases hi'
          exact hr.one (allOne_at ha _ (List.getElem_mem hlt))
        have run : ∀ P, ∃ (w' : World) (a' : Array Value), (storeCells (p.addr off) us).run P w = .ok () w' ∧ One p.blk w w' ∧ w'.heap[p.blk]? = some (.cells a' e (lo, hi)) ∧ a'.size = a.size ∧ w'.drawn = w.drawn ∧
            ∀ j, a'[j]? = if p.sh + (off + 0) ≤ j ∧ j < p.sh + (off + 0) + us.length then us[j - (p.sh + (off + 0))]? else a[j]? := fun P =>
          run_storeCells (P := P) us 0 w a h2 (by omega) (fun j hj => h5 j (by omega)) hone
        obtain ⟨w', a', r1, r2, r3, r4, _, r6⟩ := run default
        refine ⟨w', ?_, fun P => ?_⟩
        · rw [← hs']
          refine hR.upd hg hp r2 r3 ⟨a', e, lo, hi, rfl, by omega, h4, h5, h6, fun i av hget hi' => ?_⟩
          rw [r6]
          rcases putN_at hget with ⟨x1, x2⟩ | ⟨x1, x2⟩
          · have hlt : i - off < vs.length := (List.getElem?_eq_some_iff.1 x2).1
            obtain ⟨y, hy, hr⟩ := hv.get _ _ x2
            refine ⟨y, ?_, hr, hone y (List.mem_of_getElem? hy)⟩
            rw [if_pos (by omega), show p.sh + i - (p.sh + (off + 0)) = i - off by omega]
            exact hy
          · obtain ⟨v, y1, y2, y3⟩ := h7 i av x2 hi'
            refine ⟨v, ?_, y2, y3⟩
            rw [if_neg (by omega)]
            exact y1
        · obtain ⟨w2, a2, s1, s2, s3, s4, s5, s6⟩ := run P
          rw [s1]
          congr 1
          have ea : a2 = a' := by
            apply Array.ext_getElem?
            intro j
            rw [s6 j, r6 j]
          subst ea
          have eh : w2.heap = w'.heap := by
            apply Array.ext_getElem?
            intro j
            by_cases hj : j = p.blk
            · subst hj; rw [s3, r3]
            · rw [s2.block j hj, r2.block j hj]
          have e1 : w2.os = w'.os := s2.os.trans r2.os.symm
          have e2 : w2.tape = w'.tape := s2.tape.trans r2.tape.symm
          have e3 : w2.output = w'.output := s2.output.trans r2.output.symm
          have e4 : w2.drawn = w'.drawn := by rename_i hd; exact s5.trans hd.symm
          cases w2; cases w'
          simp only at eh e1 e2 e3 e4
          simp [eh, e1, e2, e3, e4]
  · cases hs
end
end Go.Proofs.YteaacjabcfopgaaGreat.Am
namespace Go.Proofs.YteaacjabcfopgaaGreat.Am
open Go.RowKit
noncomputable section
def bytesOf8 (s : ByteArray) : List Nat := s.data.toList.map UInt8.toNat
def ofConst : Value → AV
  | .bool b => .bool b
  | .int k n => .int k n
  | .string s => .str (bytesOf8 s)
  | .pointer none => .nilp
  | .slice none 0 0 => .nils
  | .map none => .nilm
  | .func (.func f) ⟨[]⟩ ⟨[]⟩ => .fn f [] []
  | .nilFunc => .nilf
  | .nilIface => .nili
  | .float _ _ => .one
  | _ => .unk
def ofConsts : List Value → List AV
  | [] => []
  | v :: l => ofConst v :: ofConsts l
theorem ofConst_RV (φ : Phi) (v : Value) : RV φ (ofConst v) v := by
  unfold ofConst
  split <;> first | exact .bool _ | exact .int _ _ | exact .str _ | exact .nilp | exact .nils | exact .nilm | exact .fn .nil .nil | exact .nilf | exact .nili | exact .sgl rfl | exact .unk _
theorem ofConsts_RL (φ : Phi) : ∀ l : List Value, RL φ (ofConsts l) l
  | [] => .nil
  | v :: l => .cons (ofConst_RV φ v) (ofConsts_RL φ l)
def ofConstA : Value → AV
  | .agg cs => cond (allOne (ofConsts cs.toList)) (.agg (ofConsts cs.toList)) .unk
  | v => ofConst v
theorem allOne_RL {φ : Phi} {l : List AV} {m : List Value} (h : RL φ l m) (ho : allOne l = true) : ∀ v ∈ m, v.oneCell' = true := fun u hu => by
  obtain ⟨i, hi⟩ := List.getElem?_of_mem hu
  have hlt : i < l.length := by rw [h.length]; exact (List.getElem?_eq_some_iff.1 hi).1
  obtain ⟨y, hy, hr⟩ := h.get i _ (List.getElem?_eq_getElem hlt)
  rw [hy] at hi
  cases hi
  exact hr.one (allOne_at ho _ (List.getElem_mem hlt))
theorem ofConstA_RV (φ : Phi) (v : Value) : RV φ (ofConstA v) v := by
  unfold ofConstA
  split
  · rename_i cs
    cases h : allOne (ofConsts cs.toList) with
    | false => exact .unk _
    | true => exact .agg (a' := cs.toList) (ofConsts_RL φ _) (allOne_RL (ofConsts_RL φ _) h)
  · exact ofConst_RV φ _
structure TI where
  d : TypeDesc
  size : Nat
  bytes : Nat
  zero : List AV
  sp : Bool
structure Ctx where
  ty : T TI
  fs : T Func
  mb : Bool
def isAgg : TypeDesc → Bool
  | .struct _ => true
  | .array _ _ => true
  | _ => false
def zeroAt (sp : Bool) (d : TypeDesc) (i : TypeInfo) (z : Option Value) : Option TI :=
  match z with
  | some (.agg cs) => cond (isAgg d && Nat.beq cs.size i.size && allOne (ofConsts cs.toList)) (some ⟨d, i.size, i.bytes, ofConsts cs.toList, sp⟩) none
  | some v => cond (!isAgg d && Nat.beq 1 i.size && isOne (ofConst v)) (some ⟨d, i.size, i.bytes, [ofConst v], sp⟩) none
  | none => none
def mkTI (P : Program) (t : TypeId) : Option TI :=
  match P.underlying t with
  | some d => match P.info? t with
    | some i => zeroAt (!P.stoodInHeld t) d i i.zero
    | none => none
  | none => none
structure TIok (P : Program) (t : TypeId) (i : TI) : Prop where
  und : P.underlying t = some i.d
  info : ∃ info z, P.info? t = some info ∧ info.size = i.size ∧ info.bytes = i.bytes ∧ info.zero = some z ∧ z.cells.size = i.size ∧ (∀ φ, RL φ i.zero z.cells.toList) ∧ (∀ v ∈ z.cells.toList, v.oneCell' = true) ∧
    (isAgg i.d = true → ∃ cs, z = .agg cs) ∧ (isAgg i.d = false → z.cells = #[z]) ∧ allOne i.zero = true
  sp : i.sp = true → P.stoodInHeld t = false
theorem mkTI_ok {P : Program} {t : TypeId} {i : TI} (h : mkTI P t = some i) : TIok P t i := by
  unfold mkTI at h
  split at h
  · rename_i d hd
    split at h
    · rename_i info hinfo
      unfold zeroAt at h
      split at h
      · rename_i cs hz
        cases hc : (isAgg d && Nat.beq cs.size info.size && allOne (ofConsts cs.toList)) with
        | false => rw [hc] at h; cases h
        | true =>
          rw [hc] at h
          cases h
          simp only [Bool.and_eq_true] at hc
          obtain ⟨⟨h1, h2⟩, h3⟩ := hc
          refine ⟨hd, ⟨info, .agg cs, hinfo, rfl, rfl, hz, Nat.eq_of_beq_eq_true h2, fun φ => ofConsts_RL φ _, ?_, fun _ => ⟨cs, rfl⟩, fun hf => ?_, h3⟩, fun hs => by simpa using hs⟩
          · exact allOne_RL (ofConsts_RL (fun _ => none) _) h3
          · have hf' : isAgg d = false := hf
            rw [h1] at hf'; cases hf'
      · rename_i v hna hz
        cases hc : (!isAgg d && Nat.beq 1 info.size && isOne (ofConst v)) with
        | false => rw [hc] at h; cases h
        | true =>
          rw [hc] at h
          cases h
          simp only [Bool.and_eq_true, Bool.not_eq_true'] at hc
          obtain ⟨⟨h1, h2⟩, h3⟩ := hc
          have hcells : v.cells = #[v] := by
            cases v <;> first | rfl | exact absurd rfl (hna _)
          have h2' : 1 = info.size := Nat.eq_of_beq_eq_true h2
          refine ⟨hd, ⟨info, v, hinfo, rfl, rfl, hz, by rw [hcells]; exact h2', fun φ => by rw [hcells]; exact .cons (ofConst_RV φ v) .nil, ?_, fun hf => ?_, fun _ => hcells, by simp [allOne, h3]⟩, fun hs => by simpa using hs⟩
          · rw [hcells]
            intro u hu
            obtain rfl : u = v := by simpa using hu
            exact (ofConst_RV (fun _ => none) u).one h3
          · have hf' : isAgg d = true := hf
            rw [h1] at hf'; cases hf'
      · cases h
    · cases h
  · cases h
structure Agrees (P : Program) (C : Ctx) : Prop where
  ty : ∀ t i, C.ty.get t = some i → TIok P t i
  fs : ∀ f fn, C.fs.get f = some fn → P.funcs[f]? = some fn
section
variable {P : Program} {t : TypeId} {i : TI} {w : World}
theorem TIok.underlying (h : TIok P t i) : (underlying t).run P w = .ok i.d w := run_underlying h.und w
theorem TIok.sizeOf (h : TIok P t i) : (sizeOf t).run P w = .ok i.size w := by
  obtain ⟨info, z, h1, h2, _⟩ := h.info
  simp [Go.sizeOf, typeInfo, h1, h2]
theorem TIok.bytes (h : TIok P t i) : ∃ info, (typeInfo t).run P w = .ok info w ∧ info.bytes = i.bytes := by
  obtain ⟨info, z, h1, _, h3, _⟩ := h.info
  exact ⟨info, by simp [typeInfo, h1], h3⟩
theorem TIok.isAgg (h : TIok P t i) : (Go.isAgg t).run P w = .ok (isAgg i.d) w := by
  unfold Go.isAgg
  simp only [Sem.run_bind, h.underlying, Result.andThen_ok]
  cases hd : i.d <;> simp [Am.isAgg]
theorem TIok.zero (h : TIok P t i) (φ : Phi) : ∃ z, (∀ w, (zeroValue t).run P w = .ok z w) ∧ z.cells.size = i.size ∧ RL φ i.zero z.cells.toList ∧ (∀ v ∈ z.cells.toList, v.oneCell' = true) ∧
    RV φ (cond (Am.isAgg i.d) (.agg i.zero) (i.zero.headD .unk)) z := by
  obtain ⟨info, z, h1, h2, h3, h4, h5, h6, h7, h8, h9, h10⟩ := h.info
  refine ⟨z, fun w => by simp [zeroValue, typeInfo, h1, h4], h5, h6 φ, h7, ?_⟩
  cases hd : Am.isAgg i.d with
  | true =>
    obtain ⟨cs, rfl⟩ := h8 hd
    exact .agg (a' := cs.toList) (h6 φ) h7
  | false =>
    have hr := h6 φ
    rw [h9 hd] at hr
    have key : ∀ q : List AV, RL φ q [z] → RV φ (q.headD .unk) z := fun q h => by cases h with | cons h t => exact h
    exact key _ hr
end
def orUnk (o : Option AV) : AV := match o with | some v => v | none => .unk
def evalA (tmps : T AV) : Operand → AV
  | .tmp t => orUnk (tmps.get t)
  | .const v => ofConstA v
  | .global _ => .unk
  | .func f => .fn f [] []
def evalL (tmps : T AV) : List Operand → List AV
  | [] => []
  | o :: l => evalA tmps o :: evalL tmps l
def Evals (φ : Phi) (tmps : T AV) (ρ : Operand → Value) : Prop := ∀ o, RV φ (evalA tmps o) (ρ o)
theorem Evals.mono {φ ψ : Phi} (hle : φ.le ψ) {tmps : T AV} {ρ : Operand → Value} (h : Evals φ tmps ρ) : Evals ψ tmps ρ := fun o => (h o).mono hle
theorem evals_of {φ : Phi} {tmps : T AV} {fr : Frame} (h : RT φ tmps fr.tmps) : Evals φ tmps fr.eval := fun o => by
  cases o with
  | tmp t =>
    show RV φ (orUnk (tmps.get t)) (fr.tmps.getD t undef)
    cases e : tmps.get t with
    | none => exact .unk _
    | some v => exact (h t v e).2
  | const v => exact ofConstA_RV φ v
  | global g => exact .unk _
  | func f => exact .fn .nil .nil
theorem Evals.list {φ : Phi} {tmps : T AV} {ρ : Operand → Value} (h : Evals φ tmps ρ) : ∀ l : List Operand, RL φ (evalL tmps l) (l.map ρ)
  | [] => .nil
  | o :: l => .cons (h o) (Evals.list h l)
end
end Go.Proofs.YteaacjabcfopgaaGreat.Am
namespace Go.Proofs.YteaacjabcfopgaaGreat.Am
open Go.RowKit
noncomputable section
def uns (k : IntKind) (a : Int) : Nat := (a % (2 ^ k.bits : Int)).toNat
def okI (k : IntKind) (n : Int) : Option AV := some (.int k n)
def okB (b : Bool) : Option AV := some (.bool b)
def intOp (k : IntKind) (a b : Int) (op : BinOp) : Option AV :=
  match op with
  | .add => okI k (k.wrap (a + b))
  | .sub => okI k (k.wrap (a - b))
  | .mul => okI k (k.wrap (a * b))
  | .quo => cond (decide (b = 0)) none (okI k (k.wrap (a.tdiv b)))
  | .rem => cond (decide (b = 0)) none (okI k (a.tmod b))
  | .and => okI k (k.wrap (Nat.land (uns k a) (uns k b) : Nat))
  | .or => okI k (k.wrap (Nat.lor (uns k a) (uns k b) : Nat))
  | .xor => okI k (k.wrap (Nat.xor (uns k a) (uns k b) : Nat))
  | .andNot => okI k (k.wrap (Nat.land (uns k a) (2 ^ k.bits - 1 - uns k b) : Nat))
  | .eql => okB (decide (a = b))
  | .neq => okB (!decide (a = b))
  | .lss => okB (decide (a < b))
  | .leq => okB (decide (a ≤ b))
  | .gtr => okB (decide (b < a))
  | .geq => okB (decide (b ≤ a))
  | _ => none
def shOp (k : IntKind) (a b : Int) (op : BinOp) : Option AV :=
  match op with
  | .shl => cond (decide (b < 0)) none (okI k (k.wrap (a * 2 ^ (min b.toNat k.bits))))
  | .shr => cond (decide (b < 0)) none (okI k (a.fdiv (2 ^ (min b.toNat k.bits))))
  | _ => none
def isSh (op : BinOp) : Bool :=
  match op with
  | .shl => true
  | .shr => true
  | _ => false
theorem uns_toNat (k : IntKind) (a : Int) : (BitVec.ofInt k.bits a).toNat = uns k a := by
  rw [BitVec.toNat_ofInt]
  rfl
theorem intOp_ok {P : Program} {w : World} {φ : Phi} {k : IntKind} {a b : Int} {op : BinOp} {t : TypeId} {v : AV} (h : intOp k a b op = some v) :
    ∃ v', (binOp op t (.int k a) (.int k b)).run P w = .ok v' w ∧ RV φ v v' := by
  unfold intOp at h
  cases op <;> simp only [okI, okB] at h <;> first
    | (cases h; refine ⟨_, by simp [binOp, Op.intArith, Op.intCmp, Op.intBits]; rfl, ?_⟩; first | exact .int _ _ | exact .bool _)
    | (by_cases hb : b = 0
       · rw [decide_eq_true hb] at h; exact absurd h (by simp)
       · rw [decide_eq_false hb] at h
         have h' := Option.some.inj h
         subst h'
         exact ⟨_, by simp [binOp, Op.intDiv, hb], .int _ _⟩)
    | (cases h; done)
    | (have e : (BitVec.ofInt k.bits a &&& ~~~BitVec.ofInt k.bits b).toNat = Nat.land (uns k a) (2 ^ k.bits - 1 - uns k b) := by
         rw [BitVec.toNat_and, BitVec.toNat_not, uns_toNat, uns_toNat]; rfl
       have h' := Option.some.inj h
       subst h'
       rw [← e]
       exact ⟨_, by simp [binOp, Op.intArith, Op.intCmp, Op.intBits]; rfl, .int _ _⟩)
theorem shOp_ok {P : Program} {w : World} {φ : Phi} {k k' : IntKind} {a b : Int} {op : BinOp} {t : TypeId} {v : AV} (h : shOp k a b op = some v) :
    ∃ v', (binOp op t (.int k a) (.int k' b)).run P w = .ok v' w ∧ RV φ v v' := by
  unfold shOp at h
  cases op <;> simp only [okI] at h <;> first
    | (by_cases hb : b < 0
       · rw [decide_eq_true hb] at h; exact absurd h (by simp)
       · rw [decide_eq_false hb] at h
         have h' := Option.some.inj h
         subst h'
         exact ⟨_, by simp [binOp, Op.shift, hb], .int _ _⟩)
    | (cases h; done)
def beqL : List Nat → List Nat → Bool
  | [], [] => true
  | a :: l, b :: m => cond (Nat.beq a b) (beqL l m) false
  | _, _ => false
def bltL : List Nat → List Nat → Bool
  | _, [] => false
  | [], _ :: _ => true
  | a :: l, b :: m => cond (Nat.blt a b) true (cond (Nat.beq a b) (bltL l m) false)
theorem u8_beq (a b : UInt8) : Nat.beq a.toNat b.toNat = (a == b) := by
  by_cases h : a = b
  · subst h; simp
  · have : a.toNat ≠ b.toNat := fun e => h (UInt8.toNat_inj.1 e)
    rw [beq_eq_false_iff_ne.2 h]
    cases e : Nat.beq a.toNat b.toNat with
    | false => rfl
    | true => exact absurd (Nat.eq_of_beq_eq_true e) this
theorem beqL_ok : ∀ l m : List UInt8, beqL (l.map UInt8.toNat) (m.map UInt8.toNat) = (l == m)
  | [], [] => rfl
  | [], _ :: _ => rfl
  | _ :: _, [] => rfl
  | a :: l, b :: m => by
    show cond (Nat.beq a.toNat b.toNat) (beqL (l.map UInt8.toNat) (m.map UInt8.toNat)) false = _
    rw [u8_beq, beqL_ok l m, List.cons_beq_cons]
    cases (a == b) <;> rfl
theorem bltL_ok : ∀ l m : List UInt8, bltL (l.map UInt8.toNat) (m.map UInt8.toNat) = Op.bytesLess l m
  | [], [] => rfl
  | [], _ :: _ => rfl
  | _ :: _, [] => rfl
  | a :: l, b :: m => by
    show cond (Nat.blt a.toNat b.toNat) true (cond (Nat.beq a.toNat b.toNat) (bltL (l.map UInt8.toNat) (m.map UInt8.toNat)) false) = (decide (a < b) || (a == b && Op.bytesLess l m))
    rw [u8_beq, bltL_ok l m]
    have : Nat.blt a.toNat b.toNat = decide (a < b) := by
      by_cases h : a < b
      · rw [decide_eq_true h]
        exact Nat.ble_eq_true_of_le (UInt8.lt_iff_toNat_lt.1 h)
      · rw [decide_eq_false h]
        cases e : Nat.blt a.toNat b.toNat with
        | false => rfl
        | true => exact absurd (UInt8.lt_iff_toNat_lt.2 (Nat.le_of_ble_eq_true e)) h
    rw [this]
    cases decide (a < b) <;> cases (a == b) <;> rfl
def strOp (a b : List Nat) (op : BinOp) : Option AV :=
  match op with
  | .add => cond (Nat.ble (Nat.add a.length b.length) 9223372036854775807) (some (.str (a ++ b))) none
  | .eql => okB (beqL a b)
  | .neq => okB (!beqL a b)
  | .lss => okB (bltL a b)
  | .leq => okB (bltL a b || beqL a b)
  | .gtr => okB (!(bltL a b || beqL a b))
  | .geq => okB (!bltL a b)
  | _ => none
theorem strOp_ok {P : Program} {w : World} {φ : Phi} {a b : ByteArray} {op : BinOp} {t : TypeId} {v : AV} (h : strOp (bytesOf8 a) (bytesOf8 b) op = some v) :
    ∃ v', (binOp op t (.string a) (.string b)).run P w = .ok v' w ∧ RV φ v v' := by
  have e1 : beqL (bytesOf8 a) (bytesOf8 b) = (a.toList == b.toList) := by
    unfold bytesOf8; rw [beqL_ok, ByteArray.toList_eq, ByteArray.toList_eq]
  have e2 : bltL (bytesOf8 a) (bytesOf8 b) = Op.bytesLess a.toList b.toList := by
    unfold bytesOf8; rw [bltL_ok, ByteArray.toList_eq, ByteArray.toList_eq]
  unfold strOp at h
  cases op <;> simp only [okB, e1, e2] at h <;> first
    | (cases h; exact ⟨_, rfl, .bool _⟩)
    | (cases hb : Nat.ble (Nat.add (bytesOf8 a).length (bytesOf8 b).length) 9223372036854775807 with
       | false => rw [hb] at h; exact absurd h (by simp)
       | true =>
        rw [hb] at h
        have h' := Option.some.inj h
        subst h'
        have hb' := Nat.le_of_ble_eq_true hb
        have hl : ∀ s : ByteArray, (bytesOf8 s).length = s.size := fun s => by unfold bytesOf8; rw [List.length_map, Array.length_toList]; rfl
        have hb2 : a.size + b.size ≤ 9223372036854775807 := by
          have := hl a; have := hl b
          have : (bytesOf8 a).length + (bytesOf8 b).length ≤ 9223372036854775807 := hb'
          omega
        refine ⟨.string (a ++ b), ?_, ?_⟩
        · have hm : IntKind.i64.max = 9223372036854775807 := by decide
          have : ¬ ((a.size + b.size : Nat) : Int) > IntKind.i64.max := by rw [hm]; omega
          simp only [binOp, Op.stringOp, this, if_false]
          rfl
        · have : bytesOf8 a ++ bytesOf8 b = bytesOf8 (a ++ b) := by
            unfold bytesOf8
            rw [ByteArray.data_append, Array.toList_append, List.map_append]
          rw [this]
          exact .str _)
    | (cases h; done)
def lo64 : Int := -9223372036854775808
def hi64 : Int := 9223372036854775807
def mkI (lo hi : Int) : Option AV := cond (decide (lo64 ≤ lo) && decide (hi ≤ hi64)) (some (cond (decide (lo = hi)) (.int .i64 lo) (.rng lo hi))) none
theorem mkI_ok {φ : Phi} {lo hi n : Int} {v : AV} (h : mkI lo hi = some v) (h1 : lo ≤ n) (h2 : n ≤ hi) : IntKind.i64.wrap n = n ∧ RV φ v (.int .i64 n) := by
  unfold mkI at h
  cases hb : (decide (lo64 ≤ lo) && decide (hi ≤ hi64)) with
  | false => rw [hb] at h; cases h
  | true =>
    rw [hb] at h
    simp only [Bool.and_eq_true] at hb
    have hb1 : lo64 ≤ lo := of_decide_eq_true hb.1
    have hb2 : hi ≤ hi64 := of_decide_eq_true hb.2
    unfold lo64 at hb1
    unfold hi64 at hb2
    constructor
    · unfold IntKind.wrap
      have h2 : (2 : Int) ^ IntKind.i64.bits = 18446744073709551616 := by decide
      have h4 : (2 : Int) ^ (IntKind.i64.bits - 1) = 9223372036854775808 := by decide
      have h3 : IntKind.i64.signed = true := rfl
      simp only [h2, h3, h4, Bool.true_and, decide_eq_true_eq]
      split <;> omega
    · have h' := Option.some.inj h
      subst h'
      by_cases e : lo = hi
      · rw [decide_eq_true e]
        have : n = lo := by omega
        subst this
        exact .int _ _
      · rw [decide_eq_false e]
        exact .rng h1 h2
def okBo (b c : Bool) : Option AV := cond b (okB true) (cond c (okB false) none)
def rngOp (al ah bl bh : Int) (op : BinOp) : Option AV :=
  match op with
  | .add => mkI (al + bl) (ah + bh)
  | .sub => mkI (al - bh) (ah - bl)
  | .quo => cond (decide (0 < bl) && decide (bl = bh) && decide (0 ≤ al)) (mkI (al / bl) (ah / bl)) none
  | .lss => okBo (decide (ah < bl)) (decide (bh ≤ al))
  | .leq => okBo (decide (ah ≤ bl)) (decide (bh < al))
  | .gtr => okBo (decide (bh < al)) (decide (ah ≤ bl))
  | .geq => okBo (decide (bh ≤ al)) (decide (ah < bl))
  | .eql => okBo false (decide (ah < bl) || decide (bh < al))
  | .neq => okBo (decide (ah < bl) || decide (bh < al)) false
  | _ => none
theorem okBo_ok {φ : Phi} {b c : Bool} {v : AV} {x : Bool} (h : okBo b c = some v) (h1 : b = true → x = true) (h2 : c = true → x = false) : RV φ v (.bool x) := by
  unfold okBo at h
  cases b with
  | true => rw [h1 rfl]; cases h; exact .bool _
  | false =>
    cases c with
    | true => rw [h2 rfl]; cases h; exact .bool _
    | false => cases h
theorem rngOp_ok {P : Program} {w : World} {φ : Phi} {al ah bl bh a b : Int} {op : BinOp} {t : TypeId} {v : AV} (h : rngOp al ah bl bh op = some v) (a1 : al ≤ a) (a2 : a ≤ ah) (b1 : bl ≤ b) (b2 : b ≤ bh) :
    ∃ v', (binOp op t (.int .i64 a) (.int .i64 b)).run P w = .ok v' w ∧ RV φ v v' := by
  cases op <;> simp only [rngOp] at h <;> first
    | (cases h; done)
    | (obtain ⟨e, r⟩ := mkI_ok (φ := φ) (n := a + b) h (by omega) (by omega)
       exact ⟨_, by simp [binOp, Op.intArith, Op.intCmp, Op.intBits]; rfl, by rw [e]; exact r⟩)
    | (obtain ⟨e, r⟩ := mkI_ok (φ := φ) (n := a - b) h (by omega) (by omega)
       exact ⟨_, by simp [binOp, Op.intArith, Op.intCmp, Op.intBits]; rfl, by rw [e]; exact r⟩)
    | (cases hb : (decide (0 < bl) && decide (bl = bh) && decide (0 ≤ al)) with
       | false => rw [hb] at h; cases h
       | true =>
         rw [hb] at h
         simp only [Bool.and_eq_true, decide_eq_true_eq] at hb
         obtain ⟨⟨p1, p2⟩, p3⟩ := hb
         have eb : b = bl := by omega
         subst eb
         have q1 : al / b ≤ a / b := Int.ediv_le_ediv p1 a1
         have q2 : a / b ≤ ah / b := Int.ediv_le_ediv p1 a2
         obtain ⟨e, r⟩ := mkI_ok (φ := φ) (n := a / b) h q1 q2
         have hz : ¬ b = 0 := by omega
         have ht : a.tdiv b = a / b := Int.tdiv_eq_ediv_of_nonneg (by omega)
         exact ⟨_, by simp [binOp, Op.intDiv, hz]; rfl, by rw [ht, e]; exact r⟩)
    | (refine ⟨_, by simp [binOp, Op.intArith, Op.intCmp, Op.intBits]; rfl, okBo_ok h ?_ ?_⟩ <;> intro hh <;> simp only [Bool.or_eq_true, decide_eq_true_eq, Bool.false_eq_true] at hh <;> simp <;> omega)
def bnd : AV → Option (Int × Int)
  | .rng lo hi => some (lo, hi)
  | .int .i64 n => some (n, n)
  | _ => none
theorem bnd_ok {φ : Phi} {a : AV} {v : Value} {l h : Int} (hv : RV φ a v) (hb : bnd a = some (l, h)) : ∃ n, v = .int .i64 n ∧ l ≤ n ∧ n ≤ h := by
  unfold bnd at hb
  split at hb
  · cases hb; cases hv with | rng a b => exact ⟨_, rfl, a, b⟩
  · cases hb; cases hv; exact ⟨_, rfl, Int.le_refl _, Int.le_refl _⟩
  · cases hb
def rngB (a b : AV) (op : BinOp) : Option AV :=
  match bnd a, bnd b with
  | some (al, ah), some (bl, bh) => rngOp al ah bl bh op
  | _, _ => none
theorem rngB_ok {P : Program} {w : World} {φ : Phi} {a b : AV} {a' b' : Value} {op : BinOp} {t : TypeId} {v : AV} (h : rngB a b op = some v) (ha : RV φ a a') (hb : RV φ b b') :
    ∃ v', (binOp op t a' b').run P w = .ok v' w ∧ RV φ v v' := by
  unfold rngB at h
  split at h
  · rename_i al ah bl bh e1 e2
    obtain ⟨n, rfl, p1, p2⟩ := bnd_ok ha e1
    obtain ⟨m, rfl, q1, q2⟩ := bnd_ok hb e2
    exact rngOp_ok h p1 p2 q1 q2
  · cases h
end
end Go.Proofs.YteaacjabcfopgaaGreat.Am
namespace Go.Proofs.YteaacjabcfopgaaGreat.Am
open Go.RowKit
noncomputable section
inductive R where
  | val (v : AV) (h : H)
  | enter (f : FuncId) (args : List AV) (h : H)
  | round (l : Nat) (f : FuncId) (nt : Nat) (tmps : T AV) (assign body : Code) (h : H)
  | stuck (why : Nat)
def OkR (P : Program) (w0 : Base) (φ : Phi) (w : World) (s : Sem Next) : R → Prop
  | .val v h' => ∃ (ψ : Phi) (v' : Value) (w' : World) (n : Next), φ.le ψ ∧ RH w0 ψ h' w' ∧ RV ψ v v' ∧ s.run P w = .ok n w' ∧ (n = .value v' ∨ (n = .skip ∧ v' = undef))
  | .enter f args h' => ∃ args' : List Value, RH w0 φ h' w ∧ RL φ args args' ∧ s.run P w = .ok (.enter f args'.toArray) w
  | .round l f nt tmps as bd h' => ∃ (p : PB) (tm : Array Value), RH w0 φ h' w ∧ φ l = some p ∧ tm.size = nt ∧ RT φ tmps tm ∧ s.run P w = .ok (.round p.blk f tm as bd) w
  | .stuck _ => True
section
variable {P : Program} {w0 : Base} {φ : Phi} {h : H} {w : World}
theorem OkR.pure_ {s : Sem Next} {v : AV} {v' : Value} (hR : RH w0 φ h w) (hv : RV φ v v') (hs : s.run P w = .ok (.value v') w) : OkR P w0 φ w s (.val v h) :=
  ⟨φ, v', w, .value v', φ.le_refl, hR, hv, hs, .inl rfl⟩
def oR (h : H) : Option AV → R
  | some v => .val v h
  | none => .stuck 0
def oH : Option H → R
  | some h => .val .unk h
  | none => .stuck 0
def loadV (h : H) (i : Option TI) (id off : Nat) : Option AV :=
  match i with
  | none => none
  | some i => cond (isAgg i.d) (match h.load id off i.size with | some l => some (.agg l) | none => none) (match h.load id off 1 with | some l => l.head? | none => none)
theorem loadV_ok {C : Ctx} (hA : Agrees P C) (hR : RH w0 φ h w) {t : TypeId} {id off : Nat} {p : PB} {v : AV} (hp : φ id = some p) (hl : loadV h (C.ty.get t) id off = some v) :
    ∃ v', (loadVar t (p.addr off)).run P w = .ok v' w ∧ RV φ v v' := by
  unfold loadV at hl
  split at hl
  · cases hl
  · rename_i i hi
    have ok := hA.ty t i hi
    unfold loadVar
    simp only [Sem.run_bind, ok.isAgg, Result.andThen_ok]
    cases hd : isAgg i.d with
    | true =>
      rw [hd] at hl
      replace hl : (match h.load id off i.size with | some l => some (AV.agg l) | none => none) = some v := hl
      split at hl
      · rename_i l hl'
        cases hl
        obtain ⟨vs, h1, h2, h3, h4, h5⟩ := hR.load hl' hp
        refine ⟨.agg vs.toArray, ?_, .agg h2 h3⟩
        simp only [if_true, Sem.run_bind, ok.sizeOf, Result.andThen_ok, h5 P]
        rfl
      · cases hl
    | false =>
      rw [hd] at hl
      replace hl : (match h.load id off 1 with | some l => l.head? | none => none) = some v := hl
      split at hl
      · rename_i l hl'
        obtain ⟨vs, h1, h2, h3, h4, h5⟩ := hR.load hl' hp
        cases h2 with
        | nil => simp at h1
        | cons hv ht =>
          rename_i a v' l' m
          obtain rfl : a = v := by simpa using hl
          refine ⟨v', ?_, hv⟩
          have := h4 0 (by omega)
          simp only [Nat.add_zero, List.getElem?_cons_zero] at this
          simp [this]
      · cases hl
def cellsV : AV → List AV
  | .agg cs => cs
  | v => [v]
theorem cellsV_ok {v : AV} {v' : Value} (hv : RV φ v v') (hone : allOne (cellsV v) = true) : RL φ (cellsV v) v'.cells.toList := by
  cases hv with
  | agg ha ho => simpa [cellsV, Value.cells] using ha
  | unk => simp [cellsV, allOne, isOne] at hone
  | tup => simp [cellsV, allOne, isOne] at hone
  | bool => exact .cons (.bool _) .nil
  | int => exact .cons (.int _ _) .nil
  | rng a b => exact .cons (.rng a b) .nil
  | str => exact .cons (.str _) .nil
  | ptr h => exact .cons (.ptr h) .nil
  | nilp => exact .cons .nilp .nil
  | slice h a b => exact .cons (.slice h a b) .nil
  | nils => exact .cons .nils .nil
  | map h => exact .cons (.map h) .nil
  | nilm => exact .cons .nilm .nil
  | fn a b => exact .cons (.fn a b) .nil
  | yld h => exact .cons (.yld h) .nil
  | nilf => exact .cons .nilf .nil
  | nili => exact .cons .nili .nil
  | sgl h => cases v' <;> first | (cases h; done) | exact .cons (.sgl rfl) .nil
def storeV (h : H) (i : Option TI) (id off : Nat) (v : AV) : Option H :=
  match i with
  | none => none
  | some i => cond (Nat.beq (cellsV v).length i.size) (cond (allOne (cellsV v)) (h.store id off (cellsV v)) none) none
theorem storeV_ok {C : Ctx} (hA : Agrees P C) (hR : RH w0 φ h w) {t : TypeId} {id off : Nat} {p : PB} {v : AV} {v' : Value} {h' : H} (hp : φ id = some p) (hv : RV φ v v') (hs : storeV h (C.ty.get t) id off v = some h') :
    ∃ w', RH w0 φ h' w' ∧ (storeVar t (p.addr off) v').run P w = .ok () w' := by
  unfold storeV at hs
  split at hs
  · cases hs
  · rename_i i hi
    have ok := hA.ty t i hi
    cases h1 : Nat.beq (cellsV v).length i.size with
    | false => rw [h1] at hs; exact absurd hs (by simp)
    | true =>
      rw [h1] at hs
      cases h2 : allOne (cellsV v) with
      | false => rw [h2] at hs; exact absurd hs (by simp)
      | true =>
        rw [h2] at hs
        replace hs : h.store id off (cellsV v) = some h' := hs
        have hc := cellsV_ok hv h2
        obtain ⟨w', r1, r2⟩ := hR.store hs hp hc
        refine ⟨w', r1, ?_⟩
        have hsz : v'.cells.size = i.size := by
          have := hc.length
          rw [Nat.eq_of_beq_eq_true h1] at this
          rw [← Array.length_toList, ← this]
        unfold storeVar
        simp only [Sem.run_bind, ok.sizeOf, Result.andThen_ok, hsz, ne_eq, not_true_eq_false, if_false]
        simpa using r2 P
theorem part_ok {C : Ctx} (hA : Agrees P C) {t : TypeId} {cs : List AV} {vs : List Value} {off : Nat} {v : AV} (hr : RL φ cs vs) (ho : ∀ u ∈ vs, u.oneCell' = true)
    (hl : (match C.ty.get t with | none => none | some i => cond (isAgg i.d) (some (AV.agg ((cs.drop off).take i.size))) cs[off]?) = some v) :
    ∃ v', (part t vs.toArray off).run P w = .ok v' w ∧ RV φ v v' := by
  split at hl
  · cases hl
  · rename_i i hi
    have ok := hA.ty t i hi
    unfold part
    simp only [Sem.run_bind, ok.isAgg, Result.andThen_ok]
    cases hd : isAgg i.d with
    | true =>
      rw [hd] at hl
      cases hl
      refine ⟨.agg ((vs.drop off).take i.size).toArray, ?_, .agg ((hr.drop off).take i.size) fun u hu => ho u (List.mem_of_mem_drop (List.mem_of_mem_take hu))⟩
      simp only [if_true, Sem.run_bind, ok.sizeOf, Result.andThen_ok]
      show Result.ok (Value.agg (vs.toArray.extract off (off + i.size))) w = _
      congr 2
      rw [List.extract_toArray, List.extract_eq_take_drop]
      congr 2
      omega
    | false =>
      rw [hd] at hl
      replace hl : cs[off]? = some v := hl
      obtain ⟨y, hy, hv⟩ := hr.get off v hl
      refine ⟨y, ?_, hv⟩
      simp [hy]
end
end
end Go.Proofs.YteaacjabcfopgaaGreat.Am
namespace Go.Proofs.YteaacjabcfopgaaGreat.Am
open Go.RowKit
noncomputable section
def vN (s : Sem Value) : Sem Next := do pure (.value (← s))
def uN (s : Sem Unit) : Sem Next := do s; pure .skip
section
variable {P : Program} {w0 : Base} {φ : Phi} {h : H} {w : World} {C : Ctx} {tmps : T AV} {ρ : Operand → Value}
theorem OkR.v {s : Sem Value} {v : AV} {v' : Value} (hR : RH w0 φ h w) (hv : RV φ v v') (hs : s.run P w = .ok v' w) : OkR P w0 φ w (vN s) (.val v h) :=
  ⟨φ, v', w, .value v', φ.le_refl, hR, hv, by simp [vN, hs], .inl rfl⟩
theorem OkR.vw {s : Sem Value} {v : AV} {v' : Value} {ψ : Phi} {h' : H} {w' : World} (hle : φ.le ψ) (hR : RH w0 ψ h' w') (hv : RV ψ v v') (hs : s.run P w = .ok v' w') : OkR P w0 φ w (vN s) (.val v h') :=
  ⟨ψ, v', w', .value v', hle, hR, hv, by simp [vN, hs], .inl rfl⟩
theorem OkR.u {s : Sem Unit} {h' : H} {w' : World} (hR : RH w0 φ h' w') (hs : s.run P w = .ok () w') : OkR P w0 φ w (uN s) (.val .unk h') :=
  ⟨φ, undef, w', .skip, φ.le_refl, hR, .unk _, by simp [uN, hs], .inr ⟨rfl, rfl⟩⟩
def ex_move (h : H) (tmps : T AV) (x : Operand) : R := .val (evalA tmps x) h
theorem ex_move_ok (hR : RH w0 φ h w) (hE : Evals φ tmps ρ) (x : Operand) : OkR P w0 φ w (pure (.value (ρ x))) (ex_move h tmps x) := OkR.pure_ hR (hE x) rfl
def pickR (h : H) (a b : AV) : AV → R
  | .bool c => .val (cond c a b) h
  | _ => .stuck 2
def ex_pick (h : H) (tmps : T AV) (c a b : Operand) : R := pickR h (evalA tmps a) (evalA tmps b) (evalA tmps c)
theorem ex_pick_ok (hR : RH w0 φ h w) (hE : Evals φ tmps ρ) (c a b : Operand) : OkR P w0 φ w (do pure (.value (if ← asBool (ρ c) then ρ a else ρ b))) (ex_pick h tmps c a b) := by
  unfold ex_pick pickR
  have hc := hE c
  split
  · rename_i b' e
    rw [e] at hc
    generalize hx : ρ c = x at hc ⊢
    cases hc
    refine OkR.pure_ (v' := if b' then ρ a else ρ b) hR ?_ (by simp [asBool])
    cases b'
    · exact hE b
    · exact hE a
  · trivial
def extractR (h : H) (i : Nat) : AV → R
  | .tup vs => oR h vs[i]?
  | _ => .stuck 3
theorem ex_extract_ok (hR : RH w0 φ h w) (hE : Evals φ tmps ρ) (x : Operand) (i : Nat) : OkR P w0 φ w (vN (Instr.extract (ρ x) i)) (extractR h i (evalA tmps x)) := by
  unfold extractR
  have hx := hE x
  split
  · rename_i vs e
    rw [e] at hx
    generalize hy : ρ x = y at hx ⊢
    cases hx with
    | tup ha =>
      cases e : vs[i]? with
      | none => trivial
      | some v =>
        obtain ⟨u, hu, hv⟩ := ha.get i v e
        exact OkR.v hR hv (by simp [Instr.extract, hu])
  · trivial
def unR (h : H) (op : UnOp) (x : AV) : R :=
  match x with
  | .int k n => (match op with
    | .neg => .val (.int k (k.wrap (0 - n))) h
    | .xor => .val (.int k (k.wrap (Nat.xor (uns k (if k.signed then -1 else k.max)) (uns k n) : Nat))) h
    | _ => .stuck 4)
  | .bool b => (match op with
    | .not => .val (.bool (!b)) h
    | _ => .stuck 4)
  | _ => .stuck 4
theorem ex_unOp_ok (hR : RH w0 φ h w) (hE : Evals φ tmps ρ) (op : UnOp) (x : Operand) : OkR P w0 φ w (vN (Op.unary op (ρ x))) (unR h op (evalA tmps x)) := by
  unfold unR
  have hx := hE x
  split
  · rename_i k n e
    rw [e] at hx
    generalize hy : ρ x = y at hx ⊢
    cases hx
    split
    · exact OkR.v (v' := .int k (k.wrap (0 - n))) hR (.int _ _) (by simp [Op.unary, Op.intArith])
    · exact OkR.v (v' := .int k (k.wrap (Nat.xor (uns k (if k.signed then -1 else k.max)) (uns k n) : Nat))) hR (.int _ _) (by
        simp only [Op.unary, Op.intBits]
        rw [← uns_toNat, ← uns_toNat]
        rfl)
    · trivial
  · rename_i b e
    rw [e] at hx
    generalize hy : ρ x = y at hx ⊢
    cases hx
    split
    · exact OkR.v (v' := .bool (!b)) hR (.bool _) (by simp [Op.unary])
    · trivial
  · trivial
def okPtr (b : Option Blk) (off : Nat) : Bool :=
  match b with
  | some (.cells n _ ish) => cond ish false (Nat.blt off n)
  | _ => false
def eqT (C : Ctx) (h : H) (d : TypeDesc) (x y : AV) : Option Bool :=
  match d with
  | .bool => (match x, y with
    | .bool a, .bool b => some (a == b)
    | _, _ => none)
  | .pointer e => (match x with
    | .nilp => (match y with
      | .nilp => some true
      | .ptr _ _ => some false
      | _ => none)
    | .ptr a o => (match y with
      | .nilp => some false
      | .ptr b q => (match C.ty.get e with
        | some i => cond (Nat.beq i.size 0) none (cond (Nat.beq a b) (some (Nat.beq o q)) (cond (okPtr (h.h.get a) o && okPtr (h.h.get b) q) (some false) none))
        | none => none)
      | _ => none)
    | _ => none)
  | .slice _ => (match x with
    | .nils => (match y with
      | .nils => some true
      | .slice _ _ _ _ => some false
      | _ => none)
    | .slice _ _ _ _ => (match y with
      | .nils => some false
      | _ => none)
    | _ => none)
  | .map _ _ => (match x with
    | .nilm => (match y with
      | .nilm => some true
      | .map _ => some false
      | _ => none)
    | .map _ => (match y with
      | .nilm => some false
      | _ => none)
    | _ => none)
  | .func _ _ _ => (match x with
    | .nilf => (match y with
      | .nilf => some true
      | .fn _ _ _ => some false
      | _ => none)
    | .fn _ _ _ => (match y with
      | .nilf => some false
      | _ => none)
    | _ => none)
  | _ => none
theorem okPtr_at {id off : Nat} {p : PB} (hR : RH w0 φ h w) (hp : φ id = some p) (ho : okPtr (h.h.get id) off = true) :
    ∃ b a e lo hi, h.h.get id = some b ∧ w.heap[p.blk]? = some (.cells a e (lo, hi)) ∧ a.size = p.N ∧ p.sh + off < p.N ∧ (∀ i, i ≤ p.N → ¬ (lo ≤ i ∧ i < hi)) := by
  unfold okPtr at ho
  split at ho
  · rename_i n c ish hg
    cases ish with
    | true => cases ho
    | false =>
      have hlt : off < n := Nat.le_of_ble_eq_true ho
      obtain ⟨q, o, h1, h2, a, e, lo, hi, rfl, h3, h4, h5, h6, h7⟩ := hR.at hp hg
      rw [hp] at h1
      cases h1
      refine ⟨_, a, e, lo, hi, hg, h2, h3, by omega, fun i hi' => ?_⟩
      by_cases e : i = p.N
      · subst e; have := h6 rfl; omega
      · exact h5 i (by omega)
  · cases ho
theorem sameAddr_far {a b : Addr} {ca cb : Array Value} {ea eb : TypeId} {la ha lb hb : Nat} (hne : a.block ≠ b.block) (h1 : w.heap[a.block]? = some (.cells ca ea (la, ha))) (h2 : w.heap[b.block]? = some (.cells cb eb (lb, hb)))
    (f1 : ¬ (la ≤ a.off ∧ a.off < ha)) (g1 : ¬ (la ≤ ca.size ∧ ca.size < ha)) (g2 : ¬ (lb ≤ cb.size ∧ cb.size < hb)) (f2 : ¬ (lb ≤ b.off ∧ b.off < hb)) : (sameAddr a b).run P w = .ok false w := by
  have hf1 : w.frozen? a = false := by
    unfold World.frozen?
    rw [h1]
    simp only [Bool.and_eq_false_iff, decide_eq_false_iff_not]
    omega
  have hf2 : w.frozen? b = false := by
    unfold World.frozen?
    rw [h2]
    simp only [Bool.and_eq_false_iff, decide_eq_false_iff_not]
    omega
  have hg1 : w.frozen? { block := a.block, off := ca.size } = false := by
    unfold World.frozen?
    rw [h1]
    simp only [Bool.and_eq_false_iff, decide_eq_false_iff_not]
    omega
  have hg2 : w.frozen? { block := b.block, off := cb.size } = false := by
    unfold World.frozen?
    rw [h2]
    simp only [Bool.and_eq_false_iff, decide_eq_false_iff_not]
    omega
  have hs1 : w.shape? a.block = some (ea, ca.size) := by unfold World.shape?; rw [h1]
  have hs2 : w.shape? b.block = some (eb, cb.size) := by unfold World.shape?; rw [h2]
  simp [sameAddr, hne, hf1, hf2, hg1, hg2, hs1, hs2, noView, viewAt, mayBeOne, stringish]
theorem eqT_ok (hA : Agrees P C) (hR : RH w0 φ h w) {t : TypeId} {d : TypeDesc} (hd : P.underlying t = some d) {x y : AV} {x' y' : Value} (hx : RV φ x x') (hy : RV φ y y') {b : Bool} (he : eqT C h d x y = some b) (n : Nat) :
    (Op.equalIn (n + 1) t x' y').run P w = .ok b w := by
  have hu : ∀ w, (underlying t).run P w = .ok d w := fun w => run_underlying hd w
  unfold eqT at he
  split at he
  · split at he
    · cases hx; cases hy; cases he
      simp [Op.equalIn, hu]
    · cases he
  · rename_i e
    split at he
    · cases hx
      split at he
      · cases hy; cases he; simp [Op.equalIn, hu]
      · cases hy; cases he; simp [Op.equalIn, hu]
      · cases he
    · rename_i a o
      cases hx with
      | ptr hp =>
      rename_i p
      split at he
      · cases hy; cases he; simp [Op.equalIn, hu]
      · rename_i b' q
        cases hy with
        | ptr hq =>
        rename_i p'
        split at he
        · rename_i i hi
          have ok := hA.ty e i hi
          cases hz : Nat.beq i.size 0 with
          | true => rw [hz] at he; cases he
          | false =>
            rw [hz] at he
            have hz' : i.size ≠ 0 := fun e => by rw [e] at hz; cases hz
            have hrun : (Op.equalIn (n + 1) t (.pointer (some (p.addr o))) (.pointer (some (p'.addr q)))).run P w = (sameAddr (p.addr o) (p'.addr q)).run P w := by
              simp [Op.equalIn, hu, ok.sizeOf, hz']
            rw [hrun]
            cases hab : Nat.beq a b' with
            | true =>
              rw [hab] at he
              obtain rfl := Nat.eq_of_beq_eq_true hab
              rw [hp] at hq
              cases hq
              have he' : Nat.beq o q = b := Option.some.inj he
              subst he'
              have : (p.addr o == p.addr q) = Nat.beq o q := by
                by_cases e : o = q
                · subst e; simp
                · have h1 : Nat.beq o q = false := by
                    cases e' : Nat.beq o q with
                    | false => rfl
                    | true => exact absurd (Nat.eq_of_beq_eq_true e') e
                  rw [h1, beq_eq_false_iff_ne]
                  intro e'
                  have := congrArg Addr.off e'
                  simp only [PB.addr] at this
                  omega
              have hb : ((p.addr o).block == (p.addr q).block) = true := by simp [PB.addr]
              simp [sameAddr, hb, this]
            | false =>
              rw [hab] at he
              cases hok : (okPtr (h.h.get a) o && okPtr (h.h.get b') q) with
              | false => rw [hok] at he; cases he
              | true =>
                rw [hok] at he
                have he' : false = b := Option.some.inj he
                subst he'
                simp only [Bool.and_eq_true] at hok
                obtain ⟨b1, c1, e1, l1, u1, g1, k1, s1, n1, f1⟩ := okPtr_at hR hp hok.1
                obtain ⟨b2, c2, e2, l2, u2, g2, k2, s2, n2, f2⟩ := okPtr_at hR hq hok.2
                have hne : p.blk ≠ p'.blk := fun e => by
                  have := hR.inj _ _ _ _ _ _ g1 g2 hp hq e
                  subst this
                  simp at hab
                exact sameAddr_far (a := p.addr o) (b := p'.addr q) hne k1 k2 (f1 _ (Nat.le_of_lt n1)) (f1 _ (by omega)) (f2 _ (by omega)) (f2 _ (Nat.le_of_lt n2))
        · cases he
      · cases he
    · cases he
  · split at he
    · cases hx
      split at he
      · cases hy; cases he; simp [Op.equalIn, hu]
      · cases hy; cases he; simp [Op.equalIn, hu]
      · cases he
    · cases hx
      split at he
      · cases hy; cases he; simp [Op.equalIn, hu]
      · cases he
    · cases he
  · split at he
    · cases hx
      split at he
      · cases hy; cases he; simp [Op.equalIn, hu]
      · cases hy; cases he; simp [Op.equalIn, hu]
      · cases he
    · cases hx
      split at he
      · cases hy; cases he; simp [Op.equalIn, hu]
      · cases he
    · cases he
  · split at he
    · cases hx
      split at he
      · cases hy; cases he; simp [Op.equalIn, hu]
      · cases hy; cases he; simp [Op.equalIn, hu]
      · cases he
    · cases hx
      split at he
      · cases hy; cases he; simp [Op.equalIn, hu]
      · cases he
    · cases he
  · cases he
end
end
end Go.Proofs.YteaacjabcfopgaaGreat.Am
namespace Go.Proofs.YteaacjabcfopgaaGreat.Am
open Go.RowKit
noncomputable section
section
variable {P : Program} {w0 : Base} {φ : Phi} {h : H} {w : World} {C : Ctx} {tmps : T AV} {ρ : Operand → Value}
def isPl : AV → Bool
  | .unk => false
  | .agg _ => false
  | .tup _ => false
  | .nili => false
  | .one => false
  | _ => true
theorem eqGuard_ok {op : BinOp} {t : TypeId} {xo yo : Operand} {x : AV} {x' y' : Value} (hx : RV φ x x') (hp : isPl x = true) : (eqGuard op t xo yo x' y').run P w = .ok () w := by
  cases hx <;> first | (cases hp; done) | (cases op <;> simp [eqGuard])
def isNum : AV → Bool
  | .int _ _ => true
  | .rng _ _ => true
  | _ => false
def ints : Nat → List AV → Bool
  | 0, _ => true
  | n + 1, x :: l => cond (isNum x) (ints n l) false
  | _ + 1, _ => false
def outB (l u : Int) (k : IntKind) (b : Int) : Option Bool := cond (decide (k = .i64) && (decide (b < l) || decide (u < b))) (some false) none
def eqN : AV → AV → Option Bool
  | .int k a, .int k' b => cond (decide (k = k')) (some (decide (a = b))) none
  | .rng l u, .int k b => outB l u k b
  | .int k a, .rng l u => outB l u k a
  | _, _ => none
def eqInts : Nat → List AV → List AV → Option Bool
  | 0, _, _ => some true
  | n + 1, x :: l, y :: m => (match eqN x y with
    | some r => cond r (eqInts n l m) (some false)
    | none => none)
  | _ + 1, _, _ => none
theorem isNum_ok {x : AV} {v : Value} (h : isNum x = true) (hx : RV φ x v) : ∃ k n, v = .int k n := by
  cases x <;> first | (cases h; done) | skip
  · cases hx; exact ⟨_, _, rfl⟩
  · cases hx; exact ⟨_, _, rfl⟩
theorem outB_ok {l u a b : Int} {k : IntKind} {r : Bool} (h : outB l u k b = some r) (h1 : l ≤ a) (h2 : a ≤ u) : k = .i64 ∧ a ≠ b ∧ r = false := by
  unfold outB at h
  cases hc : (decide (k = .i64) && (decide (b < l) || decide (u < b))) with
  | false => rw [hc] at h; cases h
  | true =>
    rw [hc] at h
    simp only [Bool.and_eq_true, Bool.or_eq_true, decide_eq_true_eq] at hc
    refine ⟨hc.1, ?_, (Option.some.inj h).symm⟩
    rcases hc.2 with hc | hc <;> omega
theorem eqN_ok {x y : AV} {x' y' : Value} {r : Bool} (hx : RV φ x x') (hy : RV φ y y') (h : eqN x y = some r) : ∃ k a b, x' = .int k a ∧ y' = .int k b ∧ r = decide (a = b) := by
  unfold eqN at h
  split at h
  · rename_i k a k' b
    cases hk : decide (k = k') with
    | false => rw [hk] at h; cases h
    | true =>
      rw [hk] at h
      have := of_decide_eq_true hk
      subst this
      cases hx; cases hy
      exact ⟨k, a, b, rfl, rfl, (Option.some.inj h).symm⟩
  · cases hx with
    | rng h1 h2 =>
    cases hy
    obtain ⟨rfl, hne, rfl⟩ := outB_ok h h1 h2
    exact ⟨_, _, _, rfl, rfl, by simp [hne]⟩
  · cases hy with
    | rng h1 h2 =>
    cases hx
    obtain ⟨rfl, hne, rfl⟩ := outB_ok h h1 h2
    exact ⟨_, _, _, rfl, rfl, by simp [Ne.symm hne]⟩
  · cases h
theorem drop_cons {α : Type} {l m : List α} {s : Nat} {x : α} (h : l.drop s = x :: m) : l[s]? = some x ∧ l.drop (s + 1) = m := by
  constructor
  · have := congrArg (fun l => l[0]?) h
    simpa using this
  · have := congrArg List.tail h
    simpa using this
theorem part_num (hA : Agrees P C) {e : TypeId} {ie : TI} (hi : C.ty.get e = some ie) (hag : isAgg ie.d = false) {cs : List AV} {vs : List Value} {i : Nat} {x : AV} (hr : RL φ cs vs) (ho : ∀ u ∈ vs, u.oneCell' = true) (hc : cs[i]? = some x) : ∃ v', (part e vs.toArray i).run P w = .ok v' w ∧ RV φ x v' :=
  part_ok (w := w) (P := P) hA (t := e) (off := i) (v := x) hr ho (by rw [hi]; simp only [hag, cond_false]; exact hc)
theorem eqItems_ints (hA : Agrees P C) {e : TypeId} {ie : TI} (hi : C.ty.get e = some ie) {q : IntKind} (hq : ie.d = .int q) {a b : List AV} {as bs : List Value} (ha : RL φ a as) (hb : RL φ b bs) (hoa : ∀ u ∈ as, u.oneCell' = true) (hob : ∀ u ∈ bs, u.oneCell' = true) (d : Nat) :
    ∀ (n s : Nat) (r : Bool), eqInts n (a.drop s) (b.drop s) = some r → (Op.eqItems (d + 1) e 1 as.toArray bs.toArray (List.range' s n)).run P w = .ok r w := by
  have hag : isAgg ie.d = false := by rw [hq]; rfl
  have hu : ∀ w, (underlying e).run P w = .ok (.int q) w := fun w => by rw [(hA.ty e ie hi).underlying, hq]
  intro n
  induction n with
  | zero => intro s r h; cases h; rfl
  | succ n ih =>
    intro s r h
    unfold eqInts at h
    split at h
    · rename_i heq; cases heq
    · rename_i m x l y l2 heq e1 e2
      cases heq
      obtain ⟨c1, c2⟩ := drop_cons e1
      obtain ⟨c3, c4⟩ := drop_cons e2
      split at h
      · rename_i r1 hr1
        obtain ⟨vx, p1, rx⟩ := part_num (w := w) hA hi hag ha hoa c1
        obtain ⟨vy, p2, ry⟩ := part_num (w := w) hA hi hag hb hob c3
        obtain ⟨k, x', y', rfl, rfl, rfl⟩ := eqN_ok rx ry hr1
        rw [List.range'_succ, Op.eqItems]
        simp only [Nat.mul_one, Sem.run_bind, p1, p2, Result.andThen_ok]
        have he : (Op.equalIn (d + 1) e (.int k x') (.int k y')).run P w = .ok (x' == y') w := by
          simp only [Op.equalIn, Sem.run_bind, hu, Result.andThen_ok]
          simp
        rw [he]
        simp only [Result.andThen_ok]
        by_cases hxy : x' = y'
        · rw [decide_eq_true hxy] at h
          have : (x' == y') = true := by simpa using hxy
          rw [this]
          simp only [Bool.not_true, Bool.false_eq_true, if_false]
          exact ih (s + 1) r (by rw [c2, c4]; exact h)
        · rw [decide_eq_false hxy] at h
          cases h
          have : (x' == y') = false := by simpa using hxy
          rw [this]
          rfl
      · cases h
    · cases h
theorem ints_at : ∀ {n : Nat} {l : List AV}, ints n l = true → ∀ i, i < n → ∃ x, l[i]? = some x ∧ isNum x = true
  | 0, _, _, i, hi => absurd hi (by omega)
  | n + 1, [], h, _, _ => by cases h
  | n + 1, x :: l, h, i, hi => by
    unfold ints at h
    cases hx : isNum x with
    | false => rw [hx] at h; cases h
    | true =>
    rw [hx] at h
    cases i with
    | zero => exact ⟨x, rfl, hx⟩
    | succ i =>
      obtain ⟨k', h1, h2⟩ := ints_at (n := n) (l := l) h i (by omega)
      exact ⟨k', by simpa using h1, h2⟩
theorem guard_ints (hA : Agrees P C) {t e : TypeId} {n : Nat} {ie : TI} (hut : P.underlying t = some (.array n e)) (hi : C.ty.get e = some ie) {q : IntKind} (hq : ie.d = .int q) (hsz : ie.size = 1) {a b : List AV} {as bs : List Value} (ha : RL φ a as) (hb : RL φ b bs) (hoa : ∀ u ∈ as, u.oneCell' = true) (hob : ∀ u ∈ bs, u.oneCell' = true)
    (h1 : ints n a = true) (h2 : ints n b = true) (d : Nat) : (Op.eqGuardIn (d + 2) t (.agg as.toArray) (.agg bs.toArray)).run P w = .ok false w := by
  have hag : isAgg ie.d = false := by rw [hq]; rfl
  have ok := hA.ty e ie hi
  have hu : ∀ w, (underlying e).run P w = .ok (.int q) w := fun w => by rw [ok.underlying, hq]
  have hsize : ∀ w, (sizeOf e).run P w = .ok 1 w := fun w => by rw [ok.sizeOf, hsz]
  rw [Op.eqGuardIn]
  simp only [Sem.run_bind, run_underlying hut, Result.andThen_ok, hsize]
  simp only [Std.Legacy.Range.forIn_eq_forIn_range', Std.Legacy.Range.size, Nat.sub_zero, Nat.add_one_sub_one, Nat.div_one]
  have key : ∀ (m s : Nat), s + m = n → (do let r ← forIn (List.range' s m) ((none, ()) : Option Bool × Unit) (fun i _ => do
      let x ← part e as.toArray (i * 1)
      let y ← part e bs.toArray (i * 1)
      let r ← Op.eqGuardIn (d + 1) e x y
      if r = true then pure (ForInStep.done (some true, ())) else pure (ForInStep.yield (none, ()))); match r.fst with | some a => pure a | none => pure false : Sem Bool).run P w = .ok false w := by
    intro m
    induction m with
    | zero => intro s _; simp
    | succ m ih =>
      intro s hs
      obtain ⟨x0, c1, n1⟩ := ints_at h1 s (by omega)
      obtain ⟨y0, c2, n2⟩ := ints_at h2 s (by omega)
      obtain ⟨vx, p1, rx⟩ := part_num (w := w) hA hi hag ha hoa c1
      obtain ⟨vy, p2, ry⟩ := part_num (w := w) hA hi hag hb hob c2
      obtain ⟨k, x, rfl⟩ := isNum_ok n1 rx
      obtain ⟨k', y, rfl⟩ := isNum_ok n2 ry
      have hg : (Op.eqGuardIn (d + 1) e (.int k x) (.int k' y)).run P w = .ok false w := by
        simp only [Op.eqGuardIn, Sem.run_bind, hu, Result.andThen_ok]
        rfl
      rw [List.range'_succ]
      simp only [List.forIn_cons, Nat.mul_one, Sem.run_bind, p1, p2, hg, Result.andThen_ok, Bool.false_eq_true, if_false, Sem.run_pure]
      have := ih (s + 1) (by omega)
      simp only [Nat.mul_one, Sem.run_bind] at this
      exact this
  have := key n 0 (by omega)
  simp only [Sem.run_bind] at this
  refine Eq.trans ?_ this
  congr 1
  funext a w'
  obtain ⟨a, _⟩ := a
  cases a <;> rfl
def isInt1 (i : Option TI) : Bool :=
  match i with
  | some i => (match i.d with
    | .int _ => Nat.beq i.size 1
    | _ => false)
  | none => false
theorem isInt1_ok (hA : Agrees P C) {e : TypeId} (h : isInt1 (C.ty.get e) = true) : ∃ kk, (∀ w, (underlying e).run P w = .ok (.int kk) w) ∧ (∀ w, (sizeOf e).run P w = .ok 1 w) ∧ (∀ w, (Go.isAgg e).run P w = .ok false w) := by
  unfold isInt1 at h
  split at h
  · rename_i ie hie
    have oke := hA.ty e ie hie
    split at h
    · rename_i kk hkk
      have hs1 := Nat.eq_of_beq_eq_true h
      exact ⟨kk, fun w => by rw [oke.underlying, hkk], fun w => by rw [oke.sizeOf, hs1], fun w => by rw [oke.isAgg, hkk]; rfl⟩
    · cases h
  · cases h
def fieldP (C : Ctx) (f : Field) (l : List AV) : Option AV := cond (f.name != "_") (match C.ty.get f.type with | none => none | some i => cond (isAgg i.d) (some (.agg ((l.drop f.offset).take i.size))) l[f.offset]?) none
def eqAr (n : Nat) (x y : AV) : Option Bool :=
  match x with
  | .agg a => (match y with
    | .agg b => cond (ints n a && ints n b) (eqInts n a b) none
    | _ => none)
  | _ => none
def eqS : AV → AV → Option Bool
  | .str a, .str b => some (beqL a b)
  | _, _ => none
def eqP (C : Ctx) (i : Option TI) (x y : AV) : Option Bool :=
  match i with
  | some i => (match i.d with
    | .int _ => eqN x y
    | .string => eqS x y
    | .array n e => cond (isInt1 (C.ty.get e)) (eqAr n x y) none
    | _ => none)
  | none => none
def grdS : AV → AV → Bool
  | .str _, .str _ => true
  | _, _ => false
def grdAr (n : Nat) (x y : AV) : Bool :=
  match x with
  | .agg a => (match y with
    | .agg b => cond (ints n a) (ints n b) false
    | _ => false)
  | _ => false
def grdP (C : Ctx) (i : Option TI) (x y : AV) : Bool :=
  match i with
  | some i => (match i.d with
    | .int _ => cond (isNum x) (isNum y) false
    | .string => grdS x y
    | .array n e => cond (isInt1 (C.ty.get e)) (grdAr n x y) false
    | _ => false)
  | none => false
def grdFs (C : Ctx) : List Field → List AV → List AV → Bool
  | [], _, _ => true
  | f :: fs, a, b => (match fieldP C f a, fieldP C f b with
    | some x, some y => cond (grdP C (C.ty.get f.type) x y) (grdFs C fs a b) false
    | _, _ => false)
def eqFs (C : Ctx) : List Field → List AV → List AV → Option Bool
  | [], _, _ => some true
  | f :: fs, a, b => (match fieldP C f a, fieldP C f b with
    | some x, some y => (match eqP C (C.ty.get f.type) x y with
      | some r1 => cond r1 (eqFs C fs a b) (cond (grdFs C fs a b) (some false) none)
      | none => none)
    | _, _ => none)
theorem baBeq (a b : ByteArray) : beqL (bytesOf8 a) (bytesOf8 b) = (a.toList == b.toList) := by
  unfold bytesOf8; rw [beqL_ok, ByteArray.toList_eq, ByteArray.toList_eq]
theorem eqS_ok {x y : AV} {x' y' : Value} {r : Bool} (hx : RV φ x x') (hy : RV φ y y') (h : eqS x y = some r) : ∃ a b, x' = .string a ∧ y' = .string b ∧ r = (a.toList == b.toList) := by
  unfold eqS at h
  split at h
  · cases hx with
    | str a =>
    cases hy with
    | str b =>
    refine ⟨a, b, rfl, rfl, ?_⟩
    rw [← baBeq]
    exact (Option.some.inj h).symm
  · cases h
theorem isInt1_at {e : TypeId} (h : isInt1 (C.ty.get e) = true) : ∃ ie q, C.ty.get e = some ie ∧ ie.d = .int q ∧ ie.size = 1 := by
  unfold isInt1 at h
  split at h
  · rename_i ie hi
    split at h
    · rename_i kk hkk
      exact ⟨ie, kk, hi, hkk, Nat.eq_of_beq_eq_true h⟩
    · cases h
  · cases h
theorem eqP_ok (hA : Agrees P C) {t : TypeId} {x y : AV} {x' y' : Value} {r : Bool} (hx : RV φ x x') (hy : RV φ y y') (h : eqP C (C.ty.get t) x y = some r) (d : Nat) :
    (∀ w, (Op.equalIn (d + 2) t x' y').run P w = .ok r w) ∧ (∀ w, (Op.eqGuardIn (d + 2) t x' y').run P w = .ok false w) := by
  unfold eqP at h
  split at h
  · rename_i i hi
    have ok := hA.ty t i hi
    split at h
    · rename_i q hq
      obtain ⟨k, a, b, rfl, rfl, rfl⟩ := eqN_ok hx hy h
      have hu : ∀ w, (underlying t).run P w = .ok (.int q) w := fun w => by rw [ok.underlying, hq]
      refine ⟨fun w => ?_, fun w => ?_⟩
      · have e : (Op.equalIn (d + 1 + 1) t (.int k a) (.int k b)).run P w = .ok (a == b) w := by simp [Op.equalIn, hu]
        show (Op.equalIn (d + 1 + 1) t (.int k a) (.int k b)).run P w = _
        rw [e]
        by_cases hab : a = b <;> simp [hab]
      · show (Op.eqGuardIn (d + 1 + 1) t (.int k a) (.int k b)).run P w = _
        simp only [Op.eqGuardIn, Sem.run_bind, hu, Result.andThen_ok]
        rfl
    · rename_i hq
      obtain ⟨a, b, rfl, rfl, rfl⟩ := eqS_ok hx hy h
      have hu : ∀ w, (underlying t).run P w = .ok .string w := fun w => by rw [ok.underlying, hq]
      refine ⟨fun w => ?_, fun w => ?_⟩
      · exact run_equalIn_string (w := w) (d + 1) t a b (by rw [ok.und, hq])
      · show (Op.eqGuardIn (d + 1 + 1) t (.string a) (.string b)).run P w = _
        simp only [Op.eqGuardIn, Sem.run_bind, hu, Result.andThen_ok]
        rfl
    · rename_i n e hq
      have hd : P.underlying t = some (.array n e) := by rw [ok.und, hq]
      cases hc : isInt1 (C.ty.get e) with
      | false => rw [hc] at h; cases h
      | true =>
        rw [hc] at h
        replace h : eqAr n x y = some r := h
        obtain ⟨ie, q, hie, hqe, hsz⟩ := isInt1_at hc
        have oke := hA.ty e ie hie
        obtain ⟨info, z, i1, i2, _⟩ := oke.info
        have hcells : P.cellsOf e = 1 := by
          show ((P.info? e).map (·.size)).getD 0 = 1
          rw [i1]
          show info.size = 1
          rw [i2, hsz]
        unfold eqAr at h
        split at h
        · cases hx with
          | agg ha hoa =>
          rename_i a as
          split at h
          · cases hy with
            | agg hb hob =>
            rename_i b bs
            cases hc2 : (ints n a && ints n b) with
            | false => rw [hc2] at h; cases h
            | true =>
              rw [hc2] at h
              replace h : eqInts n a b = some r := h
              simp only [Bool.and_eq_true] at hc2
              refine ⟨fun w => ?_, fun w => guard_ints (w := w) hA hd hie hqe hsz ha hb hoa hob hc2.1 hc2.2 d⟩
              show (Op.equalIn (d + 1 + 1) t (.agg as.toArray) (.agg bs.toArray)).run P w = _
              rw [run_equalIn_array w (d + 1) as.toArray bs.toArray hd i1, hcells, List.range_eq_range']
              exact eqItems_ints (w := w) hA hie hqe ha hb hoa hob d n 0 r (by simpa using h)
          · cases h
        · cases h
    · cases h
  · cases h
theorem fieldP_ok (hA : Agrees P C) {f : Field} {l : List AV} {vs : List Value} {x : AV} (hr : RL φ l vs) (ho : ∀ u ∈ vs, u.oneCell' = true) (h : fieldP C f l = some x) (w : World) :
    f.name ≠ "_" ∧ ∃ v', (part f.type vs.toArray f.offset).run P w = .ok v' w ∧ RV φ x v' := by
  unfold fieldP at h
  cases hc : (f.name != "_") with
  | false => rw [hc] at h; cases h
  | true =>
    rw [hc] at h
    refine ⟨by simpa using hc, part_ok (w := w) hA hr ho h⟩
theorem grdP_ok (hA : Agrees P C) {t : TypeId} {x y : AV} {x' y' : Value} (hx : RV φ x x') (hy : RV φ y y') (h : grdP C (C.ty.get t) x y = true) (d : Nat) :
    (Op.eqGuardIn (d + 2) t x' y').run P w = .ok false w := by
  unfold grdP at h
  split at h
  · rename_i i hi
    have ok := hA.ty t i hi
    split at h
    · rename_i q hq
      have hn : isNum x = true ∧ isNum y = true := by
        cases h1 : isNum x with
        | false => rw [h1] at h; cases h
        | true => rw [h1] at h; exact ⟨rfl, h⟩
      obtain ⟨k, a, rfl⟩ := isNum_ok hn.1 hx
      obtain ⟨k', b, rfl⟩ := isNum_ok hn.2 hy
      have hu : ∀ w, (underlying t).run P w = .ok (.int q) w := fun w => by rw [ok.underlying, hq]
      show (Op.eqGuardIn (d + 1 + 1) t (.int k a) (.int k' b)).run P w = _
      simp only [Op.eqGuardIn, Sem.run_bind, hu, Result.andThen_ok]
      rfl
    · rename_i hq
      unfold grdS at h
      split at h
      · cases hx; cases hy
        have hu : ∀ w, (underlying t).run P w = .ok .string w := fun w => by rw [ok.underlying, hq]
        show (Op.eqGuardIn (d + 1 + 1) t _ _).run P w = _
        simp only [Op.eqGuardIn, Sem.run_bind, hu, Result.andThen_ok]
        rfl
      · cases h
    · rename_i n e hq
      have hd : P.underlying t = some (.array n e) := by rw [ok.und, hq]
      cases hc : isInt1 (C.ty.get e) with
      | false => rw [hc] at h; cases h
      | true =>
        rw [hc] at h
        replace h : grdAr n x y = true := h
        obtain ⟨ie, q, hie, hqe, hsz⟩ := isInt1_at hc
        unfold grdAr at h
        split at h
        · cases hx with
          | agg ha hoa =>
          rename_i a as
          split at h
          · cases hy with
            | agg hb hob =>
            rename_i b bs
            have hn : ints n a = true ∧ ints n b = true := by
              cases h1 : ints n a with
              | false => rw [h1] at h; cases h
              | true => rw [h1] at h; exact ⟨rfl, h⟩
            exact guard_ints (w := w) hA hd hie hqe hsz ha hb hoa hob hn.1 hn.2 d
          · cases h
        · cases h
    · cases h
  · cases h
theorem grdFs_ok (hA : Agrees P C) {a b : List AV} {as bs : List Value} (ha : RL φ a as) (hb : RL φ b bs) (hoa : ∀ u ∈ as, u.oneCell' = true) (hob : ∀ u ∈ bs, u.oneCell' = true) (d : Nat) :
    ∀ (fs : List Field), grdFs C fs a b = true → 
      (∀ w, (do let r ← forIn fs ((none, ()) : Option Bool × Unit) (fun f _ => do
        if f.name ≠ "_" then do
          let x ← part f.type as.toArray f.offset
          let y ← part f.type bs.toArray f.offset
          let r ← Op.eqGuardIn (d + 2) f.type x y
          if r = true then pure (ForInStep.done (some true, ())) else pure (ForInStep.yield (none, ()))
        else pure (ForInStep.yield (none, ()))); match r.fst with | some a => pure a | none => pure false : Sem Bool).run P w = .ok false w)
  | [], h => by exact fun w => by simp
  | f :: fs, h => by
    unfold grdFs at h
    split at h
    · rename_i x y e1 e2
      cases h1 : grdP C (C.ty.get f.type) x y with
      | false => rw [h1] at h; cases h
      | true =>
        rw [h1] at h
        have i2 := grdFs_ok hA ha hb hoa hob d fs h
        intro w
        obtain ⟨n1, x', p1, rx⟩ := fieldP_ok hA ha hoa e1 w
        obtain ⟨_, y', p2, ry⟩ := fieldP_ok hA hb hob e2 w
        have hg := grdP_ok (w := w) hA rx ry h1 d
        have := i2 w
        simp only [Sem.run_bind] at this
        simp only [List.forIn_cons, if_pos n1, Sem.run_bind, p1, p2, hg, Result.andThen_ok, Bool.false_eq_true, if_false, Sem.run_pure]
        exact this
    · cases h
theorem eqFs_ok (hA : Agrees P C) {a b : List AV} {as bs : List Value} (ha : RL φ a as) (hb : RL φ b bs) (hoa : ∀ u ∈ as, u.oneCell' = true) (hob : ∀ u ∈ bs, u.oneCell' = true) (d : Nat) :
    ∀ (fs : List Field) (r : Bool), eqFs C fs a b = some r → (∀ w, (Op.eqFields (d + 2) as.toArray bs.toArray fs).run P w = .ok r w) ∧
      (∀ w, (do let r ← forIn fs ((none, ()) : Option Bool × Unit) (fun f _ => do
        if f.name ≠ "_" then do
          let x ← part f.type as.toArray f.offset
          let y ← part f.type bs.toArray f.offset
          let r ← Op.eqGuardIn (d + 2) f.type x y
          if r = true then pure (ForInStep.done (some true, ())) else pure (ForInStep.yield (none, ()))
        else pure (ForInStep.yield (none, ()))); match r.fst with | some a => pure a | none => pure false : Sem Bool).run P w = .ok false w)
  | [], r, h => by cases h; exact ⟨fun w => rfl, fun w => by simp⟩
  | f :: fs, r, h => by
    unfold eqFs at h
    split at h
    · rename_i x y e1 e2
      split at h
      · rename_i r1 hr1
        cases r1 with
        | true =>
          replace h : eqFs C fs a b = some r := h
          obtain ⟨i1, i2⟩ := eqFs_ok hA ha hb hoa hob d fs r h
          refine ⟨fun w => ?_, fun w => by
          obtain ⟨n1, x', p1, rx⟩ := fieldP_ok hA ha hoa e1 w
          obtain ⟨_, y', p2, ry⟩ := fieldP_ok hA hb hob e2 w
          have hg := (eqP_ok hA rx ry hr1 d).2 w
          have := i2 w
          simp only [Sem.run_bind] at this
          simp only [List.forIn_cons, if_pos n1, Sem.run_bind, p1, p2, hg, Result.andThen_ok, Bool.false_eq_true, if_false, Sem.run_pure]
          exact this⟩
          obtain ⟨n1, x', p1, rx⟩ := fieldP_ok hA ha hoa e1 w
          obtain ⟨_, y', p2, ry⟩ := fieldP_ok hA hb hob e2 w
          have he := (eqP_ok hA rx ry hr1 d).1 w
          simp only [Op.eqFields, if_pos n1, Sem.run_bind, p1, p2, Result.andThen_ok, he]
          simp only [Bool.not_true, Bool.false_eq_true, if_false]
          exact i1 w
        | false =>
          cases hgd : grdFs C fs a b with
          | false => rw [hgd] at h; cases h
          | true =>
          rw [hgd] at h
          cases h
          refine ⟨fun w => ?_, fun w => by
          obtain ⟨n1, x', p1, rx⟩ := fieldP_ok hA ha hoa e1 w
          obtain ⟨_, y', p2, ry⟩ := fieldP_ok hA hb hob e2 w
          have hg := (eqP_ok hA rx ry hr1 d).2 w
          have := grdFs_ok hA ha hb hoa hob d fs hgd w
          simp only [Sem.run_bind] at this
          simp only [List.forIn_cons, if_pos n1, Sem.run_bind, p1, p2, hg, Result.andThen_ok, Bool.false_eq_true, if_false, Sem.run_pure]
          exact this⟩
          obtain ⟨n1, x', p1, rx⟩ := fieldP_ok hA ha hoa e1 w
          obtain ⟨_, y', p2, ry⟩ := fieldP_ok hA hb hob e2 w
          have he := (eqP_ok hA rx ry hr1 d).1 w
          simp only [Op.eqFields, if_pos n1, Sem.run_bind, p1, p2, Result.andThen_ok, he]
          rfl
      · cases h
    · cases h
def stR (h : H) (neg : Bool) (r : Option Bool) : R := match r with | some r => .val (.bool (cond neg (!r) r)) h | none => .stuck 5
def structR (C : Ctx) (h : H) (sp : Bool) (fs : List Field) (x y : AV) (neg : Bool) : R :=
  match x with
  | .agg a => (match y with
    | .agg b => cond sp (stR h neg (eqFs C fs a b)) (.stuck 5)
    | _ => .stuck 5)
  | _ => .stuck 5
theorem structR_ok (hA : Agrees P C) (hR : RH w0 φ h w) {t : TypeId} {fs : Array Field} {sp : Bool} (hd : P.underlying t = some (.struct fs)) (hsp : sp = true → P.stoodInHeld t = false) {x y : AV} {x' y' : Value} (hx : RV φ x x') (hy : RV φ y y') (xo yo : Operand) (neg : Bool) :
    OkR P w0 φ w (vN (do eqGuard (cond neg .neq .eql) t xo yo x' y'; binOp (cond neg .neq .eql) t x' y')) (structR C h sp fs.toList x y neg) := by
  unfold structR
  split
  · cases hx with
    | agg ha hoa =>
    rename_i a as
    split
    · cases hy with
      | agg hb hob =>
      rename_i b bs
      cases sp with
      | false => trivial
      | true =>
      show OkR P w0 φ w _ (stR h neg (eqFs C fs.toList a b))
      cases hr : eqFs C fs.toList a b with
      | none => trivial
      | some r =>
        obtain ⟨i1, i2⟩ := eqFs_ok hA ha hb hoa hob 9997 fs.toList r hr
        have hf : P.fieldsOf t = fs := by simp [Program.fieldsOf, hd]
        have heq : (Op.equal t (.agg as.toArray) (.agg bs.toArray)).run P w = .ok r w := by
          show (Op.equalIn (9999 + 1) t (.agg as.toArray) (.agg bs.toArray)).run P w = _
          rw [run_equalIn_struct w 9999 t _ _ (by rw [hf]; exact hd) (hsp rfl), hf]
          exact i1 w
        have hguard : ∀ op : BinOp, (eqGuard op t xo yo (.agg as.toArray) (.agg bs.toArray)).run P w = .ok () w := fun op => by
          unfold eqGuard
          have hg' : (Op.eqGuardIn Op.maxDepth t (.agg as.toArray) (.agg bs.toArray)).run P w = .ok false w := by
            show (Op.eqGuardIn (9999 + 1) t (.agg as.toArray) (.agg bs.toArray)).run P w = _
            rw [Op.eqGuardIn]
            simp only [Sem.run_bind, run_underlying hd, Result.andThen_ok]
            rw [← Array.forIn_toList]
            have := i2 w
            simp only [Sem.run_bind] at this
            refine Eq.trans ?_ this
            congr 1
            funext a w'
            obtain ⟨a, _⟩ := a
            cases a <;> rfl
          cases op <;> simp [hg']
        refine OkR.v (v' := .bool (cond neg (!r) r)) hR (.bool _) ?_
        rw [Sem.run_bind, hguard, Result.andThen_ok]
        cases neg
        · show (binOp .eql t _ _).run P w = _
          simp [binOp, heq]
        · show (binOp .neq t _ _).run P w = _
          simp [binOp, heq]
    · trivial
  · trivial
def aggR (C : Ctx) (h : H) (d : TypeDesc) (sp : Bool) (x y : AV) (neg : Bool) : R :=
  match d with
  | .struct fs => structR C h sp fs.toList x y neg
  | .array n e => (match x with
    | .agg a => (match y with
      | .agg b => (match C.ty.get e with
        | some ie => (match ie.d with
          | .int _ => cond (Nat.beq ie.size 1 && ints n a && ints n b) (match eqInts n a b with
            | some r => .val (.bool (cond neg (!r) r)) h
            | none => .stuck 5) (.stuck 5)
          | _ => .stuck 5)
        | none => .stuck 5)
      | _ => .stuck 5)
    | _ => .stuck 5)
  | _ => .stuck 5
theorem aggR_ok (hA : Agrees P C) (hR : RH w0 φ h w) {t : TypeId} {d : TypeDesc} {sp : Bool} (hd : P.underlying t = some d) (hsp : sp = true → P.stoodInHeld t = false) {x y : AV} {x' y' : Value} (hx : RV φ x x') (hy : RV φ y y') (xo yo : Operand) (neg : Bool) :
    OkR P w0 φ w (vN (do eqGuard (cond neg .neq .eql) t xo yo x' y'; binOp (cond neg .neq .eql) t x' y')) (aggR C h d sp x y neg) := by
  unfold aggR
  split
  · exact structR_ok hA hR hd hsp hx hy xo yo neg
  · rename_i n e
    split
    · cases hx with
      | agg ha hoa =>
      rename_i a as
      split
      · cases hy with
        | agg hb hob =>
        rename_i b bs
        split
        · rename_i ie hi
          split
          · rename_i q hq
            cases hc : (Nat.beq ie.size 1 && ints n a && ints n b) with
            | false => trivial
            | true =>
              simp only [Bool.and_eq_true] at hc
              have hsz := Nat.eq_of_beq_eq_true hc.1.1
              simp only [cond_true]
              split
              · rename_i r hr
                have ok := hA.ty e ie hi
                obtain ⟨info, z, i1, i2, _⟩ := ok.info
                have hcells : P.cellsOf e = 1 := by
                  show ((P.info? e).map (·.size)).getD 0 = 1
                  rw [i1]
                  show info.size = 1
                  rw [i2, hsz]
                have hguard : ∀ op : BinOp, (eqGuard op t xo yo (.agg as.toArray) (.agg bs.toArray)).run P w = .ok () w := fun op => by
                  unfold eqGuard
                  have hg := guard_ints (w := w) hA hd hi hq hsz ha hb hoa hob hc.1.2 hc.2 9998
                  have hg' : (Op.eqGuardIn Op.maxDepth t (.agg as.toArray) (.agg bs.toArray)).run P w = .ok false w := hg
                  cases op <;> simp [hg']
                have heq : (Op.equal t (.agg as.toArray) (.agg bs.toArray)).run P w = .ok r w := by
                  show (Op.equalIn (9999 + 1) t (.agg as.toArray) (.agg bs.toArray)).run P w = _
                  rw [run_equalIn_array w 9999 as.toArray bs.toArray hd i1, hcells, List.range_eq_range']
                  exact eqItems_ints (w := w) hA hi hq ha hb hoa hob 9998 n 0 r (by simpa using hr)
                refine OkR.v (v' := .bool (cond neg (!r) r)) hR (.bool _) ?_
                rw [Sem.run_bind, hguard, Result.andThen_ok]
                cases neg
                · show (binOp .eql t _ _).run P w = _
                  simp [binOp, heq]
                · show (binOp .neq t _ _).run P w = _
                  simp [binOp, heq]
              · trivial
          · trivial
        · trivial
      · trivial
    · trivial
  · trivial
def eqR (C : Ctx) (h : H) (i : Option TI) (x y : AV) (neg : Bool) : R :=
  match i with
  | some i => cond (isPl x) (match eqT C h i.d x y with
    | some b => .val (.bool (cond neg (!b) b)) h
    | none => .stuck 5) (aggR C h i.d i.sp x y neg)
  | none => .stuck 5
def binR (C : Ctx) (h : H) (op : BinOp) (t : TypeId) (x y : AV) : R :=
  match x with
  | .int k a => (match y with
    | .int k' b => cond (isSh op) (oR h (shOp k a b op)) (cond (decide (k = k')) (oR h (intOp k a b op)) (.stuck 6))
    | y => oR h (rngB (.int k a) y op))
  | .rng l u => oR h (rngB (.rng l u) y op)
  | .str a => (match y with
    | .str b => oR h (strOp a b op)
    | _ => .stuck 6)
  | x => (match op with
    | .eql => eqR C h (C.ty.get t) x y false
    | .neq => eqR C h (C.ty.get t) x y true
    | _ => .stuck 6)
theorem eqR_ok (hA : Agrees P C) (hR : RH w0 φ h w) {t : TypeId} {x y : AV} {x' y' : Value} (hx : RV φ x x') (hy : RV φ y y') (xo yo : Operand) (neg : Bool) (hni : ∀ k n, x ≠ .int k n) (hnr : ∀ l u, x ≠ .rng l u) (hns : ∀ s, x ≠ .str s) :
    OkR P w0 φ w (vN (do eqGuard (cond neg .neq .eql) t xo yo x' y'; binOp (cond neg .neq .eql) t x' y')) (eqR C h (C.ty.get t) x y neg) := by
  unfold eqR
  split
  · rename_i i hi
    have ok := hA.ty t i hi
    cases hp : isPl x with
    | false => exact aggR_ok hA hR ok.und ok.sp hx hy xo yo neg
    | true =>
      show OkR P w0 φ w _ (match eqT C h i.d x y with | some b => .val (.bool (cond neg (!b) b)) h | none => .stuck 5)
      split
      · rename_i b he
        have hq := eqT_ok hA hR ok.und hx hy he 9999
        have hg := eqGuard_ok (P := P) (w := w) (op := cond neg .neq .eql) (t := t) (xo := xo) (yo := yo) (y' := y') hx hp
        refine OkR.v (v' := .bool (cond neg (!b) b)) hR (.bool _) ?_
        rw [Sem.run_bind, hg, Result.andThen_ok]
        have hq' : (Op.equal t x' y').run P w = .ok b w := hq
        have hb : binOp (cond neg .neq .eql) t x' y' = (cond neg (do pure (.bool (!(← Op.equal t x' y')))) (do pure (.bool (← Op.equal t x' y')))) := by
          cases hx <;> first | (exact absurd rfl (hni _ _)) | (exact absurd rfl (hns _)) | (exact absurd rfl (hnr _ _)) | (cases hp; done) | (cases neg <;> cases y' <;> rfl) | (cases neg <;> rfl)
        rw [hb]
        cases neg <;> simp [hq']
      · trivial
  · trivial
theorem ex_binOp_ok (hA : Agrees P C) (hR : RH w0 φ h w) (hE : Evals φ tmps ρ) (op : BinOp) (t : TypeId) (x y : Operand) :
    OkR P w0 φ w (vN (do eqGuard op t x y (ρ x) (ρ y); binOp op t (ρ x) (ρ y))) (binR C h op t (evalA tmps x) (evalA tmps y)) := by
  have hx := hE x
  have hy := hE y
  generalize evalA tmps x = ax at hx
  generalize evalA tmps y = ay at hy
  generalize hx' : ρ x = x' at hx ⊢
  generalize hy' : ρ y = y' at hy ⊢
  unfold binR
  split
  · rename_i k a
    split
    · rename_i k' b
      have hg := eqGuard_ok (P := P) (w := w) (op := op) (t := t) (xo := x) (yo := y) (y' := y') hx rfl
      cases hx; cases hy
      cases hs : isSh op with
      | true =>
        show OkR P w0 φ w _ (oR h (shOp k a b op))
        cases e : shOp k a b op with
        | none => trivial
        | some v =>
          obtain ⟨v', r1, r2⟩ := shOp_ok (P := P) (w := w) (φ := φ) (k' := k') (t := t) e
          exact OkR.v hR r2 (by rw [Sem.run_bind, hg, Result.andThen_ok]; exact r1)
      | false =>
        show OkR P w0 φ w _ (cond (decide (k = k')) (oR h (intOp k a b op)) (.stuck 6))
        by_cases hk : k = k'
        · subst hk
          rw [decide_eq_true rfl]
          show OkR P w0 φ w _ (oR h (intOp k a b op))
          cases e : intOp k a b op with
          | none => trivial
          | some v =>
            obtain ⟨v', r1, r2⟩ := intOp_ok (P := P) (w := w) (φ := φ) (t := t) e
            exact OkR.v hR r2 (by rw [Sem.run_bind, hg, Result.andThen_ok]; exact r1)
        · rw [decide_eq_false hk]; trivial
    · have hg := eqGuard_ok (P := P) (w := w) (op := op) (t := t) (xo := x) (yo := y) (y' := y') hx rfl
      cases e : rngB (.int k a) ay op with
      | none => trivial
      | some v =>
        obtain ⟨v', r1, r2⟩ := rngB_ok (P := P) (w := w) (φ := φ) (t := t) e hx hy
        exact OkR.v hR r2 (by rw [Sem.run_bind, hg, Result.andThen_ok]; exact r1)
  · rename_i l u
    have hg := eqGuard_ok (P := P) (w := w) (op := op) (t := t) (xo := x) (yo := y) (y' := y') hx rfl
    cases e : rngB (.rng l u) ay op with
    | none => trivial
    | some v =>
      obtain ⟨v', r1, r2⟩ := rngB_ok (P := P) (w := w) (φ := φ) (t := t) e hx hy
      exact OkR.v hR r2 (by rw [Sem.run_bind, hg, Result.andThen_ok]; exact r1)
  · rename_i a
    split
    · rename_i b
      have hg := eqGuard_ok (P := P) (w := w) (op := op) (t := t) (xo := x) (yo := y) (y' := y') hx rfl
      cases hx; cases hy
      rename_i s1 s2
      cases e : strOp (bytesOf8 s1) (bytesOf8 s2) op with
      | none => show OkR P w0 φ w _ (oR h (strOp (bytesOf8 s1) (bytesOf8 s2) op)); rw [e]; trivial
      | some v =>
        obtain ⟨v', r1, r2⟩ := strOp_ok (P := P) (w := w) (φ := φ) (t := t) e
        show OkR P w0 φ w _ (oR h (strOp (bytesOf8 s1) (bytesOf8 s2) op))
        rw [e]
        exact OkR.v hR r2 (by rw [Sem.run_bind, hg, Result.andThen_ok]; exact r1)
    · trivial
  · rename_i hni hnr hns
    split
    · exact eqR_ok hA hR hx hy x y false (fun k n e => hni k n e) (fun l u e => hnr l u e) (fun s e => hns s e)
    · exact eqR_ok hA hR hx hy x y true (fun k n e => hni k n e) (fun l u e => hnr l u e) (fun s e => hns s e)
    · trivial
def loadR (C : Ctx) (h : H) (t : TypeId) : AV → R
  | .ptr id off => oR h (loadV h (C.ty.get t) id off)
  | _ => .stuck 7
theorem ex_load_ok (hA : Agrees P C) (hR : RH w0 φ h w) (hE : Evals φ tmps ρ) (t : TypeId) (x : Operand) : OkR P w0 φ w (vN (Instr.loadAt t (ρ x))) (loadR C h t (evalA tmps x)) := by
  have hx := hE x
  generalize evalA tmps x = ax at hx
  generalize ρ x = x' at hx ⊢
  unfold loadR
  split
  · cases hx with
    | ptr hp =>
    rename_i id off p
    cases e : loadV h (C.ty.get t) id off with
    | none => trivial
    | some v =>
      obtain ⟨v', r1, r2⟩ := loadV_ok hA hR hp e
      exact OkR.v hR r2 (by simpa [Instr.loadAt, Instr.sureAddr] using r1)
  · trivial
def storeR (C : Ctx) (h : H) (t : TypeId) (v : AV) : AV → R
  | .ptr id off => oH (storeV h (C.ty.get t) id off v)
  | _ => .stuck 8
theorem ex_store_ok (hA : Agrees P C) (hR : RH w0 φ h w) (hE : Evals φ tmps ρ) (t : TypeId) (x y : Operand) : OkR P w0 φ w (uN (Instr.storeAt t (ρ x) (ρ y))) (storeR C h t (evalA tmps y) (evalA tmps x)) := by
  have hx := hE x
  have hy := hE y
  generalize evalA tmps x = ax at hx
  generalize ρ x = x' at hx ⊢
  unfold storeR
  split
  · cases hx with
    | ptr hp =>
    rename_i id off p
    cases e : storeV h (C.ty.get t) id off (evalA tmps y) with
    | none => trivial
    | some h' =>
      obtain ⟨w', r1, r2⟩ := storeV_ok hA hR hp hy e
      exact OkR.u r1 (by simpa [Instr.storeAt, Instr.sureAddr] using r2)
  · trivial
theorem new_row (hR : RH w0 φ h w) {l : List AV} {vs : List Value} (e : TypeId) (hl : RL φ l vs) (ho : ∀ v ∈ vs, v.oneCell' = true) (N : Nat) (hN : vs.length ≤ N) (rest : List Value) (hrest : vs.length + rest.length = N) (ish : Bool := false) :
    ∃ ψ p, φ.le ψ ∧ ψ h.next = some p ∧ p.addr 0 = ⟨w.heap.size, 0, none⟩ ∧ p.sh = 0 ∧ p.N = N ∧ p.blk = w.heap.size ∧ RH w0 ψ (h.new (.cells l.length (T.ofList l) ish)) (w.alloc (.cells (vs ++ rest).toArray e)) := by
  have hle : φ.le (φ.add h.next ⟨w.heap.size, 0, N⟩) := Phi.le_add hR.none_at
  refine ⟨_, ⟨w.heap.size, 0, N⟩, hle, Phi.add_at _ _ _, rfl, rfl, rfl, rfl, hR.new rfl ?_⟩
  refine ⟨_, e, 0, 0, rfl, by simp [hrest], by simp [hl.length, hN], fun i _ => by omega, fun _ => by simp, fun i av hg hi => ?_⟩
  obtain ⟨v, h1, h2⟩ := hl.get i av (T.get_ofList hg)
  have hlt : i < vs.length := (List.getElem?_eq_some_iff.1 h1).1
  refine ⟨v, ?_, h2.mono hle, ho v (List.mem_of_getElem? h1)⟩
  simp only [Nat.zero_add, List.getElem?_toArray]
  rw [List.getElem?_append_left hlt]
  exact h1
def allocR (h : H) : Option TI → R
  | some i => .val (.ptr h.next 0) (h.new (.cells i.zero.length (T.ofList i.zero) false))
  | none => .stuck 9
theorem ex_alloc_ok (hA : Agrees P C) (hR : RH w0 φ h w) (t : TypeId) : OkR P w0 φ w (vN (Instr.alloc t true (.tuple #[]))) (allocR h (C.ty.get t)) := by
  unfold allocR
  split
  · rename_i i hi
    have ok := hA.ty t i hi
    obtain ⟨z, h1, h2, h3, h4, _⟩ := ok.zero φ
    obtain ⟨ψ, p, g1, g2, g3, g4, g5, g7, g8⟩ := new_row hR t h3 h4 z.cells.toList.length (Nat.le_refl _) [] (by simp)
    refine OkR.vw g1 g8 (v' := .pointer (some (p.addr 0))) (.ptr g2) ?_
    rw [g3]
    simp [Instr.alloc, h1, newVar, newRow]
  · trivial
def boxR (h : H) (v : AV) : R := cond (allOne (cellsV v)) (.val (.ptr h.next 0) (h.new (.cells (cellsV v).length (T.ofList (cellsV v)) false))) (.stuck 10)
theorem ex_box_ok (hR : RH w0 φ h w) (hE : Evals φ tmps ρ) (t : TypeId) (x : Operand) : OkR P w0 φ w (vN (Instr.box t (ρ x))) (boxR h (evalA tmps x)) := by
  have hx := hE x
  unfold boxR
  cases ho : allOne (cellsV (evalA tmps x)) with
  | false => trivial
  | true =>
    have hc := cellsV_ok hx ho
    obtain ⟨ψ, p, g1, g2, g3, g4, g5, g7, g8⟩ := new_row hR t hc (allOne_RL hc ho) (ρ x).cells.toList.length (Nat.le_refl _) [] (by simp)
    refine OkR.vw g1 g8 (v' := .pointer (some (p.addr 0))) (.ptr g2) ?_
    rw [g3]
    simp [Instr.box, newVar, newRow]
def nilR (h : H) (v : AV) : R :=
  match v with
  | .ptr _ _ => .val v h
  | .fn _ _ _ => .val v h
  | .map _ => .val v h
  | .slice _ _ _ _ => .val v h
  | _ => .stuck 11
theorem ex_nilCheck_ok (hR : RH w0 φ h w) (hE : Evals φ tmps ρ) (o : Oper) (x : Operand) (ho : o.op = .nilCheck x) : OkR P w0 φ w (execOp ρ o) (nilR h (evalA tmps x)) := by
  have hx := hE x
  unfold execOp
  rw [ho]
  generalize evalA tmps x = ax at hx
  simp only
  generalize ρ x = x' at hx ⊢
  cases hx with
  | ptr hp => exact OkR.pure_ hR (.ptr hp) rfl
  | fn ha hb => exact OkR.pure_ hR (.fn ha hb) rfl
  | map hp => exact OkR.pure_ hR (.map hp) rfl
  | slice h1 h2 h3 => exact OkR.pure_ hR (.slice h1 h2 h3) rfl
  | _ => trivial
def fieldAddrR (C : Ctx) (h : H) (i : Option TI) (f : Nat) (x : AV) : R :=
  match i with
  | some i => (match i.d with
    | .struct fields => (match fields[f]? with
      | some fl => (match C.ty.get fl.type with
        | some j => cond (Nat.beq j.size 0) (.stuck 12) (match x with
          | .ptr id off => .val (.ptr id (Nat.add off fl.offset)) h
          | _ => .stuck 12)
        | none => .stuck 12)
      | none => .stuck 12)
    | _ => .stuck 12)
  | none => .stuck 12
theorem ex_fieldAddr_ok (hA : Agrees P C) (hR : RH w0 φ h w) (hE : Evals φ tmps ρ) (s : TypeId) (x : Operand) (f : Nat) : OkR P w0 φ w (vN (Instr.fieldAt s (ρ x) f)) (fieldAddrR C h (C.ty.get s) f (evalA tmps x)) := by
  have hx := hE x
  generalize evalA tmps x = ax at hx
  generalize ρ x = x' at hx ⊢
  unfold fieldAddrR
  split
  · rename_i i hi
    have ok := hA.ty s i hi
    split
    · rename_i fields hd
      split
      · rename_i fl hf
        split
        · rename_i j hj
          have okj := hA.ty _ j hj
          cases hz : Nat.beq j.size 0 with
          | true => trivial
          | false =>
            have hz' : j.size ≠ 0 := fun e => by rw [e] at hz; cases hz
            simp only [cond_false]
            split
            · cases hx with
              | ptr hp =>
              rename_i id off p
              refine OkR.v (v' := .pointer (some (p.addr (off + fl.offset)))) hR (.ptr hp) ?_
              have hu : (underlying s).run P w = .ok (.struct fields) w := by rw [ok.underlying, hd]
              simp [Instr.fieldAt, hu, hf, Instr.sureAddr, fieldPlace, okj.sizeOf, hz', addr_add]
            · trivial
        · trivial
      · trivial
    · trivial
  · trivial
def partA (C : Ctx) (t : TypeId) (cs : List AV) (off : Nat) : Option AV := match C.ty.get t with | none => none | some i => cond (isAgg i.d) (some (AV.agg ((cs.drop off).take i.size))) cs[off]?
def fieldR (C : Ctx) (h : H) (i : Option TI) (f : Nat) (x : AV) : R :=
  match i with
  | some i => (match i.d with
    | .struct fields => (match fields[f]? with
      | some fl => (match x with
        | .agg cs => oR h (partA C fl.type cs fl.offset)
        | _ => .stuck 13)
      | none => .stuck 13)
    | _ => .stuck 13)
  | none => .stuck 13
theorem ex_field_ok (hA : Agrees P C) (hR : RH w0 φ h w) (hE : Evals φ tmps ρ) (s : TypeId) (x : Operand) (f : Nat) : OkR P w0 φ w (vN (Instr.field s (ρ x) f)) (fieldR C h (C.ty.get s) f (evalA tmps x)) := by
  have hx := hE x
  generalize evalA tmps x = ax at hx
  generalize ρ x = x' at hx ⊢
  unfold fieldR
  split
  · rename_i i hi
    have ok := hA.ty s i hi
    split
    · rename_i fields hd
      split
      · rename_i fl hf
        split
        · cases hx with
          | agg ha ho =>
          rename_i cs vs
          cases e : partA C fl.type cs fl.offset with
          | none => trivial
          | some v =>
            obtain ⟨v', r1, r2⟩ := part_ok (P := P) (w := w) hA ha ho e
            refine OkR.v hR r2 ?_
            have hu : (underlying s).run P w = .ok (.struct fields) w := by rw [ok.underlying, hd]
            simp [Instr.field, hu, hf, asAgg, r1]
        · trivial
      · trivial
    · trivial
  · trivial
end
end
end Go.Proofs.YteaacjabcfopgaaGreat.Am
namespace Go.Proofs.YteaacjabcfopgaaGreat.Am
open Go.RowKit
noncomputable section
section
variable {P : Program} {w0 : Base} {φ : Phi} {h : H} {w : World} {C : Ctx} {tmps : T AV} {ρ : Operand → Value}
def natI : AV → Option Nat
  | .int _ n => (match n with
    | .ofNat k => some k
    | _ => none)
  | _ => none
theorem natI_ok {a : AV} {v : Value} {k : Nat} (h : RV φ a v) (hk : natI a = some k) : ∃ j, v = .int j (k : Int) := by
  unfold natI at hk
  split at hk
  · split at hk
    · cases h
      cases hk
      exact ⟨_, rfl⟩
    · cases hk
  · cases hk
def sizeT (C : Ctx) (t : TypeId) : Option Nat := match C.ty.get t with | some i => some i.size | none => none
theorem sizeT_ok (hA : Agrees P C) {t : TypeId} {n : Nat} (h : sizeT C t = some n) : ∀ w, (sizeOf t).run P w = .ok n w := by
  unfold sizeT at h
  split at h
  · rename_i i hi
    cases h
    intro w
    exact (hA.ty t i hi).sizeOf
  · cases h
def indexAddrR (C : Ctx) (h : H) (d : Option TI) (x : AV) (ix : Option Nat) : R :=
  match d, ix with
  | some d, some i => (match d.d with
    | .slice e => (match x with
      | .slice id off len _ => (match sizeT C e with
        | some s => cond (Nat.blt i len) (.val (.ptr id (Nat.add off (Nat.mul i s))) h) (.stuck 14)
        | none => .stuck 14)
      | _ => .stuck 14)
    | .array n e => (match x with
      | .ptr id off => (match sizeT C e with
        | some s => cond (Nat.blt i n) (.val (.ptr id (Nat.add off (Nat.mul i s))) h) (.stuck 14)
        | none => .stuck 14)
      | _ => .stuck 14)
    | _ => .stuck 14)
  | _, _ => .stuck 14
theorem ex_indexAddr_ok (hA : Agrees P C) (hR : RH w0 φ h w) (hE : Evals φ tmps ρ) (t : TypeId) (x ix : Operand) : OkR P w0 φ w (vN (Instr.indexAt t (ρ x) (ρ ix))) (indexAddrR C h (C.ty.get t) (evalA tmps x) (natI (evalA tmps ix))) := by
  have hx := hE x
  have hi := hE ix
  generalize evalA tmps x = ax at hx
  generalize ρ x = x' at hx ⊢
  unfold indexAddrR
  split
  · rename_i d i hd hk
    have ok := hA.ty t d hd
    obtain ⟨j, hj⟩ := natI_ok hi hk
    rw [hj]
    have hu : ∀ w, (underlying t).run P w = .ok d.d w := fun w => ok.underlying
    split
    · rename_i e he
      rw [he] at hu
      split
      · cases hx with
        | slice hp hl hc =>
        rename_i id off len cap c p
        split
        · rename_i s hs
          have hs' := sizeT_ok hA hs w
          cases hb : Nat.blt i len with
          | false => trivial
          | true =>
            have hlt : i < len := Nat.le_of_ble_eq_true hb
            refine OkR.v (v' := .pointer (some (p.addr (off + i * s)))) hR (.ptr hp) ?_
            have h1 : (0 : Int) ≤ (i : Int) ∧ (i : Int) < (len : Int) := by omega
            simp [Instr.indexAt, asIntOf, hu, hs', addr_add, hlt]
        · trivial
      · trivial
    · rename_i n e he
      rw [he] at hu
      split
      · cases hx with
        | ptr hp =>
        rename_i id off p
        split
        · rename_i s hs
          have hs' := sizeT_ok hA hs w
          cases hb : Nat.blt i n with
          | false => trivial
          | true =>
            have hlt : i < n := Nat.le_of_ble_eq_true hb
            refine OkR.v (v' := .pointer (some (p.addr (off + i * s)))) hR (.ptr hp) ?_
            simp [Instr.indexAt, Instr.sureAddr, asIntOf, hu, hs', addr_add, hlt]
        · trivial
      · trivial
    · trivial
  · trivial
def indexR (C : Ctx) (h : H) (d : Option TI) (x : AV) (ix : Option Nat) : R :=
  match d, ix with
  | some d, some i => (match d.d with
    | .array n e => (match x with
      | .agg cs => (match sizeT C e with
        | some s => cond (Nat.blt i n) (oR h (partA C e cs (Nat.mul i s))) (.stuck 15)
        | none => .stuck 15)
      | _ => .stuck 15)
    | .string => (match x with
      | .str s => (match s[i]? with
        | some b => .val (.int .u8 b) h
        | none => .stuck 15)
      | _ => .stuck 15)
    | _ => .stuck 15)
  | _, _ => .stuck 15
theorem ex_index_ok (hA : Agrees P C) (hR : RH w0 φ h w) (hE : Evals φ tmps ρ) (t : TypeId) (x ix : Operand) : OkR P w0 φ w (vN (Instr.index t (ρ x) (ρ ix))) (indexR C h (C.ty.get t) (evalA tmps x) (natI (evalA tmps ix))) := by
  have hx := hE x
  have hi := hE ix
  generalize evalA tmps x = ax at hx
  generalize ρ x = x' at hx ⊢
  unfold indexR
  split
  · rename_i d i hd hk
    have ok := hA.ty t d hd
    obtain ⟨j, hj⟩ := natI_ok hi hk
    rw [hj]
    have hu : ∀ w, (underlying t).run P w = .ok d.d w := fun w => ok.underlying
    split
    · rename_i n e he
      rw [he] at hu
      split
      · cases hx with
        | agg ha ho =>
        rename_i cs vs
        split
        · rename_i s hs
          have hs' := sizeT_ok hA hs w
          cases hb : Nat.blt i n with
          | false => trivial
          | true =>
            have hlt : i < n := Nat.le_of_ble_eq_true hb
            show OkR P w0 φ w _ (oR h (partA C e cs (i * s)))
            cases e1 : partA C e cs (i * s) with
            | none => trivial
            | some v =>
              obtain ⟨v', r1, r2⟩ := part_ok (P := P) (w := w) hA ha ho e1
              exact OkR.v hR r2 (by simp [Instr.index, asIntOf, hu, hs', hlt, r1])
        · trivial
      · trivial
    · rename_i he
      rw [he] at hu
      split
      · cases hx with
        | str s =>
        split
        · rename_i b hb
          have hb' : (s.data.toList.map UInt8.toNat)[i]? = some b := hb
          rw [List.getElem?_map, Option.map_eq_some_iff] at hb'
          obtain ⟨y, hy, rfl⟩ := hb'
          have hlt : i < s.size := by
            have := (List.getElem?_eq_some_iff.1 hy).1
            rw [Array.length_toList] at this
            exact this
          have hsy : s[i]? = some y := by
            rw [Array.getElem?_toList] at hy
            rw [getElem?_pos s i hlt]
            have : s.data[i]? = some s[i] := by rw [Array.getElem?_eq_getElem hlt]; rfl
            rw [this] at hy
            exact hy
          refine OkR.v (v' := .int .u8 y.toNat) hR (.int _ _) ?_
          simp [Instr.index, asIntOf, hu, hsy]
        · trivial
      · trivial
    · trivial
  · trivial
theorem REs.length {l : List (AV × AV × Nat)} {m : List MapEntry} (hr : REs φ l m) : l.length = m.length := by
  induction hr with
  | nil => rfl
  | cons _ _ ih => simp [ih]
def lenR (h : H) (d : Option TI) (x : AV) : R :=
  match d with
  | some d => (match d.d with
    | .string => (match x with
      | .str s => .val (.int .i64 (Int.ofNat s.length)) h
      | _ => .stuck 16)
    | .slice _ => (match x with
      | .nils => .val (.int .i64 (Int.ofNat 0)) h
      | .slice _ _ n _ => .val (.int .i64 (Int.ofNat n)) h
      | _ => .stuck 16)
    | .map _ _ => (match x with
      | .nilm => .val (.int .i64 (Int.ofNat 0)) h
      | .map id => (match h.h.get id with
        | some (.map es _) => .val (.int .i64 (Int.ofNat es.length)) h
        | _ => .stuck 16)
      | _ => .stuck 16)
    | _ => .stuck 16)
  | none => .stuck 16
theorem len_ok (hA : Agrees P C) (hR : RH w0 φ h w) {ts : Array TypeId} {ty t : TypeId} (ht : ts[0]? = some t) {a : AV} {v : Value} (hv : RV φ a v) : OkR P w0 φ w (vN (Builtin.len_ ts ty #[v])) (lenR h (C.ty.get t) a) := by
  unfold lenR
  split
  · rename_i d hd
    have ok := hA.ty t d hd
    have hu : ∀ w, (underlying t).run P w = .ok d.d w := fun w => ok.underlying
    split
    · rename_i he
      rw [he] at hu
      split
      · cases hv with
        | str s =>
        refine OkR.v (v' := .int .i64 (Int.ofNat s.size)) hR ?_ (by simp [Builtin.len_, ht, hu, goInt])
        rw [List.length_map, Array.length_toList]
        exact .int _ _
      · trivial
    · rename_i e he
      rw [he] at hu
      split
      · cases hv
        exact OkR.v (v' := .int .i64 (Int.ofNat 0)) hR (.int _ _) (by simp [Builtin.len_, ht, hu, goInt])
      · cases hv
        exact OkR.v (v' := .int .i64 (Int.ofNat _)) hR (.int _ _) (by simp [Builtin.len_, ht, hu, goInt])
      · trivial
    · rename_i k e he
      rw [he] at hu
      split
      · cases hv
        exact OkR.v (v' := .int .i64 (Int.ofNat 0)) hR (.int _ _) (by simp [Builtin.len_, ht, hu, goInt])
      · cases hv with
        | map hp =>
        rename_i id p
        split
        · rename_i es cl hg
          obtain ⟨q, o, h1, h2, es', rfl, hes⟩ := hR.at hp hg
          rw [hp] at h1
          cases h1
          have hlen : es.length = es'.size := by rw [hes.length, Array.length_toList]
          rw [hlen]
          refine OkR.v (v' := .int .i64 (Int.ofNat es'.size)) hR (.int _ _) ?_
          simp [Builtin.len_, ht, hu, goInt, getObj, Sem.run, h2]
        · trivial
      · trivial
    · trivial
  · trivial
def optN (o : Option AV) (d : Nat) : Option Nat := match o with | some v => natI v | none => some d
theorem sliceBound_ok {v : Value} {j : IntKind} {k y : Nat} {code : BoundsCode} (hv : v = .int j (k : Int)) (hk : k ≤ y) : (Instr.sliceBound v y code).run P w = .ok k w := by
  subst hv
  have h1 : ((0 : Int) ≤ (k : Int) ∧ (k : Int) ≤ (y : Int)) := by omega
  simp [Instr.sliceBound, asIntOf, hk]
theorem bounds2_ok {isS : Bool} {len cap : Nat} {lo hi : Option AV} {lo' hi' : Option Value} {l u : Nat} (hl : optN lo 0 = some l) (hu : optN hi len = some u) (h1 : l ≤ u) (h2 : u ≤ cap)
    (rl : ∀ a, lo = some a → ∃ v, lo' = some v ∧ RV φ a v) (nl : lo = none → lo' = none) (rh : ∀ a, hi = some a → ∃ v, hi' = some v ∧ RV φ a v) (nh : hi = none → hi' = none) :
    (Instr.sliceBounds isS len cap lo' hi' none).run P w = .ok (l, u, cap) w := by
  cases hi with
  | none =>
    rw [nh rfl]
    have : len = u := Option.some.inj hu
    subst this
    cases lo with
    | none =>
      rw [nl rfl]
      have : 0 = l := Option.some.inj hl
      subst this
      simp [Instr.sliceBounds]
    | some a =>
      obtain ⟨v, e, hv⟩ := rl a rfl
      obtain ⟨j, hj⟩ := natI_ok hv hl
      rw [e]
      simp [Instr.sliceBounds, sliceBound_ok hj h1]
  | some b =>
    obtain ⟨vb, eb, hvb⟩ := rh b rfl
    obtain ⟨jb, hjb⟩ := natI_ok hvb hu
    rw [eb]
    cases lo with
    | none =>
      rw [nl rfl]
      have : 0 = l := Option.some.inj hl
      subst this
      simp [Instr.sliceBounds, sliceBound_ok hjb h2]
    | some a =>
      obtain ⟨v, e, hv⟩ := rl a rfl
      obtain ⟨j, hj⟩ := natI_ok hv hl
      rw [e]
      simp [Instr.sliceBounds, sliceBound_ok hjb h2, sliceBound_ok hj h1]
theorem bounds3_ok {isS : Bool} {len cap : Nat} {lo : Option AV} {hi mx : AV} {lo' : Option Value} {hi' mx' : Value} {l u m : Nat} (hl : optN lo 0 = some l) (hu : natI hi = some u) (hm : natI mx = some m) (h1 : l ≤ u) (h2 : u ≤ m) (h3 : m ≤ cap)
    (rl : ∀ a, lo = some a → ∃ v, lo' = some v ∧ RV φ a v) (nl : lo = none → lo' = none) (rh : RV φ hi hi') (rm : RV φ mx mx') :
    (Instr.sliceBounds isS len cap lo' (some hi') (some mx')).run P w = .ok (l, u, m) w := by
  obtain ⟨jb, hjb⟩ := natI_ok rh hu
  obtain ⟨jm, hjm⟩ := natI_ok rm hm
  cases lo with
  | none =>
    rw [nl rfl]
    have : 0 = l := Option.some.inj hl
    subst this
    simp [Instr.sliceBounds, sliceBound_ok hjb h2, sliceBound_ok hjm h3]
  | some a =>
    obtain ⟨v, e, hv⟩ := rl a rfl
    obtain ⟨j, hj⟩ := natI_ok hv hl
    rw [e]
    simp [Instr.sliceBounds, sliceBound_ok hjb h2, sliceBound_ok hjm h3, sliceBound_ok hj h1]
def evalO (tmps : T AV) (o : Option Operand) : Option AV := match o with | some o => some (evalA tmps o) | none => none
theorem evalO_some (hE : Evals φ tmps ρ) (o : Option Operand) : ∀ a, evalO tmps o = some a → ∃ v, o.map ρ = some v ∧ RV φ a v := fun a h => by
  cases o with
  | none => cases h
  | some o =>
    have e : evalA tmps o = a := Option.some.inj h
    subst e
    exact ⟨ρ o, rfl, hE o⟩
theorem evalO_none (o : Option Operand) : evalO tmps o = none → o.map ρ = none := fun h => by
  cases o with
  | none => rfl
  | some o => cases h
def cutAt (off l s m : Nat) : Nat := cond (Nat.beq m l) off (Nat.add off (Nat.mul l s))
def capLe (cap : Cap) (m len : Nat) : Bool :=
  match cap with
  | .k c => Nat.ble m c
  | .own _ => Nat.ble m len
  | .any => Nat.ble m len
def sliceS (h : H) (id off len : Nat) (cap : Cap) (s : Nat) (lo hi mx : Option AV) : R :=
  match optN lo 0 with
  | none => .stuck 17
  | some l => (match mx with
    | none => (match optN hi len with
      | none => .stuck 17
      | some u => cond (Nat.ble l u) (match cap with
        | .k c => cond (Nat.ble u c) (.val (.slice id (cutAt off l s c) (Nat.sub u l) (.k (Nat.sub c l))) h) (.stuck 17)
        | .own es => cond (Nat.ble u len) (cond (Nat.beq l 0) (.val (.slice id off u (.own es)) h) (cond (Nat.blt l len) (.val (.slice id (Nat.add off (Nat.mul l s)) (Nat.sub u l) .any) h) (.stuck 17))) (.stuck 17)
        | .any => cond (Nat.ble u len) (cond (Nat.beq l 0) (.val (.slice id off u .any) h) (cond (Nat.blt l len) (.val (.slice id (Nat.add off (Nat.mul l s)) (Nat.sub u l) .any) h) (.stuck 17))) (.stuck 17)) (.stuck 17))
    | some mv => (match hi with
      | none => .stuck 17
      | some hv => (match natI hv, natI mv with
        | some u, some m => cond (Nat.ble l u && Nat.ble u m) (cond (capLe cap m len) (.val (.slice id (cutAt off l s m) (Nat.sub u l) (.k (Nat.sub m l))) h) (.stuck 17)) (.stuck 17)
        | _, _ => .stuck 17)))
def sliceStr (h : H) (x : List Nat) (lo hi mx : Option AV) : R :=
  match mx with
  | some _ => .stuck 18
  | none => (match optN lo 0, optN hi x.length with
    | some l, some u => cond (Nat.ble l u && Nat.ble u x.length) (.val (.str ((x.take u).drop l)) h) (.stuck 18)
    | _, _ => .stuck 18)
def sliceR (C : Ctx) (h : H) (d : Option TI) (x : AV) (lo hi mx : Option AV) : R :=
  match d with
  | none => .stuck 19
  | some d => (match d.d with
    | .string => (match x with
      | .str s => sliceStr h s lo hi mx
      | _ => .stuck 19)
    | .slice e => (match x with
      | .slice id off len cap => (match sizeT C e with
        | some s => sliceS h id off len cap s lo hi mx
        | none => .stuck 19)
      | _ => .stuck 19)
    | .array n e => (match x with
      | .ptr id off => (match sizeT C e with
        | some s => sliceS h id off n (.k n) s lo hi mx
        | none => .stuck 19)
      | _ => .stuck 19)
    | _ => .stuck 19)
end
end
end Go.Proofs.YteaacjabcfopgaaGreat.Am
namespace Go.Proofs.YteaacjabcfopgaaGreat.Am
open Go.RowKit
noncomputable section
section
variable {P : Program} {w0 : Base} {φ : Phi} {h : H} {w : World} {C : Ctx} {tmps : T AV} {ρ : Operand → Value}
theorem cutAt_addr (p : PB) (off l s m : Nat) : p.addr (cutAt off l s m) = if m = l then p.addr off else (p.addr off).add (l * s) := by
  unfold cutAt
  by_cases e : m = l
  · subst e
    rw [if_pos rfl]
    have : Nat.beq m m = true := by simp
    rw [this]
    rfl
  · rw [if_neg e, addr_add]
    have : Nat.beq m l = false := by
      cases e' : Nat.beq m l with
      | false => rfl
      | true => exact absurd (Nat.eq_of_beq_eq_true e') e
    rw [this]
    rfl
theorem sliceS_ok {isS : Bool} {id off len c s : Nat} {cap : Cap} {p : PB} {lo hi mx : Option AV} {lo' hi' mx' : Option Value} (hp : φ id = some p) (hlc : len ≤ c) (hcap : cap.ok p off c)
    (rl : ∀ a, lo = some a → ∃ v, lo' = some v ∧ RV φ a v) (nl : lo = none → lo' = none) (rh : ∀ a, hi = some a → ∃ v, hi' = some v ∧ RV φ a v) (nh : hi = none → hi' = none) (rm : ∀ a, mx = some a → ∃ v, mx' = some v ∧ RV φ a v) (nm : mx = none → mx' = none) :
    match sliceS h id off len cap s lo hi mx with
    | .val v h' => h' = h ∧ ∃ l u m, (Instr.sliceBounds isS len c lo' hi' mx').run P w = .ok (l, u, m) w ∧ RV φ v (.slice (some (if m = l then p.addr off else (p.addr off).add (l * s))) (u - l) (m - l))
    | .stuck _ => True
    | _ => False := by
  unfold sliceS
  cases hl : optN lo 0 with
  | none => trivial
  | some l =>
    cases mx with
    | none =>
      rw [nm rfl]
      simp only
      cases hu : optN hi len with
      | none => trivial
      | some u =>
        simp only
        cases h1 : Nat.ble l u with
        | false => trivial
        | true =>
          have h1' := Nat.le_of_ble_eq_true h1
          simp only [cond_true]
          have weak : ∀ cap', Cap.ok p off c cap' → ∀ h2 : u ≤ len, (match (cond (Nat.beq l 0) (R.val (.slice id off u cap') h) (cond (Nat.blt l len) (.val (.slice id (Nat.add off (Nat.mul l s)) (Nat.sub u l) .any) h) (.stuck 17))) with
              | .val v h' => h' = h ∧ ∃ l u m, (Instr.sliceBounds isS len c lo' hi' none).run P w = .ok (l, u, m) w ∧ RV φ v (.slice (some (if m = l then p.addr off else (p.addr off).add (l * s))) (u - l) (m - l))
              | .stuck _ => True
              | _ => False) := fun cap' hc' h2 => by
            have hb := bounds2_ok (P := P) (w := w) (isS := isS) hl hu h1' (Nat.le_trans h2 hlc) rl nl rh nh
            cases h0 : Nat.beq l 0 with
            | true =>
              have := Nat.eq_of_beq_eq_true h0
              subst this
              refine ⟨rfl, 0, u, c, hb, ?_⟩
              have e : (if c = 0 then p.addr off else (p.addr off).add (0 * s)) = p.addr off := by
                rw [addr_add]
                simp
              rw [e]
              exact .slice hp (Nat.le_trans h2 hlc) hc'
            | false =>
              simp only [cond_false]
              cases h3 : Nat.blt l len with
              | false => trivial
              | true =>
                have h3' : l < len := Nat.le_of_ble_eq_true h3
                refine ⟨rfl, l, u, c, hb, ?_⟩
                rw [if_neg (by omega), addr_add]
                exact .slice hp (by show u - l ≤ c - l; omega) trivial
          cases cap with
          | k n =>
            have hcn : c = n := hcap
            subst hcn
            simp only
            cases h2 : Nat.ble u c with
            | false => trivial
            | true =>
              have h2' := Nat.le_of_ble_eq_true h2
              refine ⟨rfl, l, u, c, bounds2_ok (P := P) (w := w) (isS := isS) hl hu h1' h2' rl nl rh nh, ?_⟩
              rw [← cutAt_addr]
              exact .slice hp (by show u - l ≤ c - l; omega) rfl
          | own es =>
            simp only
            cases h2 : Nat.ble u len with
            | false => trivial
            | true => exact weak _ hcap (Nat.le_of_ble_eq_true h2)
          | any =>
            simp only
            cases h2 : Nat.ble u len with
            | false => trivial
            | true => exact weak _ trivial (Nat.le_of_ble_eq_true h2)
    | some mv =>
      obtain ⟨mv', em, hmv⟩ := rm mv rfl
      rw [em]
      cases hi with
      | none => trivial
      | some hv =>
        obtain ⟨hv', eh, hhv⟩ := rh hv rfl
        rw [eh]
        simp only
        cases hu : natI hv with
        | none => trivial
        | some u =>
          cases hm : natI mv with
          | none => trivial
          | some m =>
            simp only
            cases h1 : (Nat.ble l u && Nat.ble u m) with
            | false => trivial
            | true =>
              simp only [Bool.and_eq_true] at h1
              have a1 := Nat.le_of_ble_eq_true h1.1
              have a2 := Nat.le_of_ble_eq_true h1.2
              simp only [cond_true]
              have a3 : capLe cap m len = true → m ≤ c := fun e => by
                cases cap with
                | k n =>
                  have hcn : c = n := hcap
                  subst hcn
                  exact Nat.le_of_ble_eq_true e
                | own es => exact Nat.le_trans (Nat.le_of_ble_eq_true e) hlc
                | any => exact Nat.le_trans (Nat.le_of_ble_eq_true e) hlc
              cases h2 : capLe cap m len with
              | false => trivial
              | true =>
                refine ⟨rfl, l, u, m, bounds3_ok (P := P) (w := w) (isS := isS) hl hu hm a1 a2 (a3 h2) rl nl hhv hmv, ?_⟩
                rw [← cutAt_addr]
                exact .slice hp (by show u - l ≤ m - l; omega) rfl
theorem OkR.of_slice {s : Sem Value} {r : R} (hR : RH w0 φ h w) (hs : match r with
    | .val v h' => h' = h ∧ ∃ v', s.run P w = .ok v' w ∧ RV φ v v'
    | .stuck _ => True
    | _ => False) : OkR P w0 φ w (vN s) r := by
  cases r with
  | val v h' =>
    obtain ⟨rfl, v', h1, h2⟩ := hs
    exact OkR.v hR h2 h1
  | stuck n => trivial
  | enter => exact hs.elim
  | round => exact hs.elim
theorem ex_slice_ok (hA : Agrees P C) (hR : RH w0 φ h w) (hE : Evals φ tmps ρ) (t : TypeId) (x : Operand) (lo hi mx : Option Operand) :
    OkR P w0 φ w (vN (Instr.sliceAt t (ρ x) (lo.map ρ) (hi.map ρ) (mx.map ρ))) (sliceR C h (C.ty.get t) (evalA tmps x) (evalO tmps lo) (evalO tmps hi) (evalO tmps mx)) := by
  have hx := hE x
  generalize evalA tmps x = ax at hx
  generalize ρ x = x' at hx ⊢
  have rl := evalO_some hE lo
  have nl := evalO_none (tmps := tmps) (ρ := ρ) lo
  have rh := evalO_some hE hi
  have nh := evalO_none (tmps := tmps) (ρ := ρ) hi
  have rm := evalO_some hE mx
  have nm := evalO_none (tmps := tmps) (ρ := ρ) mx
  generalize evalO tmps lo = alo at rl nl ⊢
  generalize evalO tmps hi = ahi at rh nh ⊢
  generalize evalO tmps mx = amx at rm nm ⊢
  generalize lo.map ρ = lo' at rl nl ⊢
  generalize hi.map ρ = hi' at rh nh ⊢
  generalize mx.map ρ = mx' at rm nm ⊢
  unfold sliceR
  split
  · trivial
  · rename_i d hd
    have ok := hA.ty t d hd
    have hu : ∀ w, (underlying t).run P w = .ok d.d w := fun w => ok.underlying
    split
    · rename_i he
      rw [he] at hu
      split
      · cases hx with
        | str s =>
        unfold sliceStr
        split
        · trivial
        · rw [nm rfl]
          have hlen : (s.data.toList.map UInt8.toNat).length = s.size := by rw [List.length_map, Array.length_toList]; rfl
          rw [hlen]
          split
          · rename_i l u hl hu'
            cases h1 : (Nat.ble l u && Nat.ble u s.size) with
            | false => trivial
            | true =>
              simp only [Bool.and_eq_true] at h1
              have a1 := Nat.le_of_ble_eq_true h1.1
              have a2 := Nat.le_of_ble_eq_true h1.2
              have hb := bounds2_ok (P := P) (w := w) (isS := false) hl hu' a1 a2 rl nl rh nh
              refine OkR.v (v' := .string (s.extract l u)) hR ?_ ?_
              · have : ((s.data.toList.map UInt8.toNat).take u).drop l = (s.extract l u).data.toList.map UInt8.toNat := by
                  rw [← List.map_take, ← List.map_drop, ByteArray.data_extract, Array.toList_extract, List.extract_eq_take_drop]
                  congr 1
                  rw [List.drop_take]
                rw [this]
                exact .str _
              · simp [Instr.sliceAt, Instr.slice, hu, hb]
          · trivial
      · trivial
    · rename_i e he
      rw [he] at hu
      split
      · cases hx with
        | slice hp hl hc =>
        rename_i id off len cap c p
        split
        · rename_i s hs
          have hs' := sizeT_ok hA hs w
          refine OkR.of_slice hR ?_
          have := sliceS_ok (P := P) (w := w) (h := h) (isS := true) (s := s) hp hl hc rl nl rh nh rm nm
          split at this
          · obtain ⟨rfl, l, u, m, r1, r2⟩ := this
            refine ⟨rfl, _, ?_, r2⟩
            simp [Instr.sliceAt, Instr.slice, hu, r1, hs']
            split <;> rfl
          · trivial
          · exact this.elim
        · trivial
      · trivial
    · rename_i n e he
      rw [he] at hu
      split
      · cases hx with
        | ptr hp =>
        rename_i id off p
        split
        · rename_i s hs
          have hs' := sizeT_ok hA hs w
          refine OkR.of_slice hR ?_
          have := sliceS_ok (P := P) (w := w) (h := h) (isS := false) (s := s) (off := off) (cap := .k n) hp (Nat.le_refl n) rfl rl nl rh nh rm nm
          split at this
          · obtain ⟨rfl, l, u, m, r1, r2⟩ := this
            refine ⟨rfl, _, ?_, r2⟩
            simp [Instr.sliceAt, Instr.sureAddr, hu, r1, hs']
          · trivial
          · exact this.elim
        · trivial
      · trivial
    · trivial
end
end
end Go.Proofs.YteaacjabcfopgaaGreat.Am
namespace Go.Proofs.YteaacjabcfopgaaGreat.Am
open Go.RowKit
noncomputable section
section
variable {P : Program} {w0 : Base} {φ : Phi} {h : H} {w : World} {C : Ctx} {tmps : T AV} {ρ : Operand → Value}
theorem splice_fold : ∀ (vs : List Value) (k off : Nat) (a : Array Value), off + k + vs.length ≤ a.size →
    ((vs.zipIdx k).foldl (fun cs (c, j) => cs.setIfInBounds (off + j) c) a).toList = a.toList.take (off + k) ++ vs ++ a.toList.drop (off + k + vs.length)
  | [], k, off, a, _ => by simp
  | v :: vs, k, off, a, h => by
    simp only [List.length_cons] at h
    rw [List.zipIdx_cons, List.foldl_cons, splice_fold vs (k + 1) off _ (by simp; omega), Array.toList_setIfInBounds]
    have hlt : off + k < a.toList.length := by rw [Array.length_toList]; omega
    rw [List.take_set, List.drop_set_of_lt (by omega), show off + (k + 1) = (off + k) + 1 by omega, List.take_add_one, List.getElem?_eq_getElem hlt]
    rw [List.set_append_right _ _ (by rw [List.length_take]; omega), List.length_take, show off + k - min (off + k) a.toList.length = 0 by omega]
    simp only [Option.toList_some, List.set_cons_zero, List.length_cons, List.append_assoc, List.nil_append, List.cons_append]
    rw [show off + k + 1 + vs.length = off + k + (vs.length + 1) by omega]
def fillA (place : Nat → Option (Nat × Nat)) (cells : List AV) : List (Nat × AV) → Option (List AV)
  | [] => some cells
  | (i, v) :: rest => match place i with
    | none => none
    | some (off, size) => cond (Nat.beq (cellsV v).length size && Nat.ble (Nat.add off size) cells.length && allOne (cellsV v)) (fillA place (cells.take off ++ cellsV v ++ cells.drop (Nat.add off size)) rest) none
inductive RP (φ : Phi) : List (Nat × AV) → List (Nat × Value) → Prop where
  | nil : RP φ [] []
  | cons {i : Nat} {a : AV} {v : Value} {l : List (Nat × AV)} {m : List (Nat × Value)} (h : RV φ a v) (t : RP φ l m) : RP φ ((i, a) :: l) ((i, v) :: m)
theorem fillA_ok {place : Nat → Option (Nat × Nat)} {l : List (Nat × AV)} {m : List (Nat × Value)} (hr : RP φ l m) : ∀ {cells : List AV} {vs : List Value} {out : List AV}, RL φ cells vs → (∀ v ∈ vs, v.oneCell' = true) → fillA place cells l = some out →
    ∃ us : List Value, Instr.fill place vs.toArray m = some us.toArray ∧ RL φ out us ∧ (∀ v ∈ us, v.oneCell' = true) ∧ us.length = vs.length := by
  induction hr with
  | nil => intro cells vs out hc ho he; cases he; exact ⟨vs, rfl, hc, ho, rfl⟩
  | @cons i a v l m hv _ ih =>
    intro cells vs out hc ho he
    unfold fillA at he
    cases hp : place i with
    | none => rw [hp] at he; cases he
    | some q =>
      obtain ⟨off, size⟩ := q
      rw [hp] at he
      simp only at he
      cases hb : (Nat.beq (cellsV a).length size && Nat.ble (Nat.add off size) cells.length && allOne (cellsV a)) with
      | false => rw [hb] at he; cases he
      | true =>
        rw [hb] at he
        simp only [Bool.and_eq_true] at hb
        have h1 := Nat.eq_of_beq_eq_true hb.1.1
        have h2 : off + size ≤ cells.length := Nat.le_of_ble_eq_true hb.1.2
        have hcv := cellsV_ok hv hb.2
        have hov := allOne_RL hcv hb.2
        have hlen : v.cells.size = size := by rw [← Array.length_toList, ← hcv.length]; exact h1
        have hcl := hc.length
        have hnew : RL φ (cells.take off ++ cellsV a ++ cells.drop (off + size)) (vs.take off ++ v.cells.toList ++ vs.drop (off + size)) := ((hc.take off).append hcv).append (hc.drop (off + size))
        obtain ⟨us, r1, r2, r3, r4⟩ := ih (vs := vs.take off ++ v.cells.toList ++ vs.drop (off + size)) hnew (fun u hu => by
          rcases List.mem_append.1 hu with hu | hu
          · rcases List.mem_append.1 hu with hu | hu
            · exact ho u (List.mem_of_mem_take hu)
            · exact hov u hu
          · exact ho u (List.mem_of_mem_drop hu)) he
        refine ⟨us, ?_, r2, r3, ?_⟩
        · unfold Instr.fill
          rw [hp]
          simp only
          have hlen' : v.cells.toList.length = size := by rw [Array.length_toList]; exact hlen
          rw [if_neg (by simp [hlen]; omega)]
          have hfold : v.cells.zipIdx.foldl (fun cs (c, j) => cs.setIfInBounds (off + j) c) vs.toArray = (vs.take off ++ v.cells.toList ++ vs.drop (off + size)).toArray := by
            apply Array.toList_inj.1
            rw [← Array.foldl_toList, Array.toList_zipIdx, splice_fold v.cells.toList 0 off vs.toArray (by simp only [Array.length_toList, List.size_toArray]; omega)]
            simp only [Nat.add_zero, Array.length_toList, hlen]
          rw [hfold]
          exact r1
        · rw [r4]
          simp only [List.length_append, List.length_take, List.length_drop, Array.length_toList, hlen]
          omega
def evalP (tmps : T AV) : List (Nat × Operand) → List (Nat × AV)
  | [] => []
  | (i, o) :: l => (i, evalA tmps o) :: evalP tmps l
theorem evalP_ok (hE : Evals φ tmps ρ) : ∀ l : List (Nat × Operand), RP φ (evalP tmps l) (l.map fun (i, x) => (i, ρ x))
  | [] => .nil
  | (_, o) :: l => .cons (hE o) (evalP_ok hE l)
def placesA (C : Ctx) : List Field → Option (List (Nat × Nat))
  | [] => some []
  | f :: l => match sizeT C f.type with
    | none => none
    | some s => match placesA C l with
      | none => none
      | some m => some ((f.offset, s) :: m)
theorem placesA_ok (hA : Agrees P C) : ∀ {l : List Field} {m : List (Nat × Nat)}, placesA C l = some m → l.mapM (fun f => (P.info? f.type).map fun i => (f.offset, i.size)) = some m
  | [], m, h => by cases h; rfl
  | f :: l, m, h => by
    unfold placesA at h
    split at h
    · cases h
    · rename_i s hs
      split at h
      · cases h
      · rename_i m' hm
        cases h
        unfold sizeT at hs
        split at hs
        · rename_i i hi
          cases hs
          obtain ⟨info, z, h1, h2, _⟩ := (hA.ty _ i hi).info
          simp [h1, h2, placesA_ok hA hm]
        · cases hs
def buildR (C : Ctx) (h : H) (d : Option TI) (parts : List (Nat × AV)) : R :=
  match d with
  | none => .stuck 20
  | some d => (match d.d with
    | .struct fields => (match placesA C fields.toList with
      | some pl => (match fillA (fun i => pl[i]?) d.zero parts with
        | some cs => .val (.agg cs) h
        | none => .stuck 20)
      | none => .stuck 20)
    | .array _ e => (match sizeT C e with
      | some s => (match fillA (fun i => some (Nat.mul i s, s)) d.zero parts with
        | some cs => .val (.agg cs) h
        | none => .stuck 20)
      | none => .stuck 20)
    | _ => .stuck 20)
theorem ex_build_ok (hA : Agrees P C) (hR : RH w0 φ h w) (hE : Evals φ tmps ρ) (t : TypeId) (parts : Array (Nat × Operand)) : OkR P w0 φ w (vN (Instr.build t (parts.map fun (i, x) => (i, ρ x)))) (buildR C h (C.ty.get t) (evalP tmps parts.toList)) := by
  unfold buildR
  split
  · trivial
  · rename_i d hd
    have ok := hA.ty t d hd
    obtain ⟨info, z, i1, i2, i3, i4, i5, i6, i7, i8, i9, i10⟩ := ok.info
    have hparts := evalP_ok hE parts.toList
    have hz : z.cells = z.cells.toList.toArray := by simp
    split
    · rename_i fields he
      split
      · rename_i pl hpl
        split
        · rename_i cs hcs
          obtain ⟨us, r1, r2, r3, _⟩ := fillA_ok hparts (i6 φ) i7 hcs
          refine OkR.v (v' := .agg us.toArray) hR (.agg r2 r3) (run_build w t _ _ ?_)
          unfold Program.built
          rw [i1, ok.und, he]
          simp only [i4, placesA_ok hA hpl, Array.toList_map]
          rw [hz]
          have : (fun x : Nat => (pl.toArray)[x]?) = fun i : Nat => pl[i]? := by funext x; simp
          rw [this]
          exact r1
        · trivial
      · trivial
    · rename_i n e he
      split
      · rename_i s hs
        split
        · rename_i cs hcs
          obtain ⟨us, r1, r2, r3, _⟩ := fillA_ok hparts (i6 φ) i7 hcs
          refine OkR.v (v' := .agg us.toArray) hR (.agg r2 r3) (run_build w t _ _ ?_)
          unfold sizeT at hs
          split at hs
          · rename_i ie hie
            cases hs
            obtain ⟨info2, z2, j1, j2, _⟩ := (hA.ty _ ie hie).info
            unfold Program.built
            rw [i1, ok.und, he]
            simp only [i4, j1, j2, Array.toList_map]
            rw [hz]
            exact r1
          · cases hs
        · trivial
      · trivial
    · trivial
def repL (z : List AV) : Nat → List AV
  | 0 => []
  | n + 1 => z ++ repL z n
def repV (z : List Value) : Nat → List Value
  | 0 => []
  | n + 1 => z ++ repV z n
theorem rep_ok {z : List AV} {z' : List Value} (h : RL φ z z') (ho : ∀ v ∈ z', v.oneCell' = true) : ∀ n, RL φ (repL z n) (repV z' n) ∧ (∀ v ∈ repV z' n, v.oneCell' = true)
  | 0 => ⟨.nil, fun _ h => by cases h⟩
  | n + 1 => by
    obtain ⟨a, b⟩ := rep_ok h ho n
    refine ⟨h.append a, fun v hv => ?_⟩
    rcases List.mem_append.1 hv with hv | hv
    · exact ho v hv
    · exact b v hv
theorem repV_length (z : List Value) : ∀ n, (repV z n).length = n * z.length
  | 0 => by simp [repV]
  | n + 1 => by simp [repV, repV_length z n, Nat.succ_mul, Nat.add_comm]
theorem repV_get (z : List Value) : ∀ (n i : Nat), i < n * z.length → (repV z n)[i]? = z[i % z.length]?
  | 0, i, h => by simp at h
  | n + 1, i, h => by
    unfold repV
    by_cases hi : i < z.length
    · rw [List.getElem?_append_left hi, Nat.mod_eq_of_lt hi]
    · rw [List.getElem?_append_right (by omega), repV_get z n (i - z.length) (by rw [Nat.succ_mul] at h; omega)]
      congr 1
      rw [Nat.mod_eq_sub_mod (by omega : i ≥ z.length)]
theorem rowOf (z : List Value) (n : Nat) (hz : 0 < z.length) : (Array.range (n * z.length)).map (fun i => z.toArray[i % z.toArray.size]!) = (repV z n).toArray := by
  apply Array.ext_getElem?
  intro i
  by_cases hi : i < n * z.length
  · rw [Array.getElem?_map, Array.getElem?_range, if_pos hi]
    have hm : i % z.length < z.length := Nat.mod_lt _ hz
    simp only [Option.map_some, List.size_toArray, List.getElem?_toArray, repV_get z n i hi]
    rw [List.getElem?_eq_getElem hm]
    simp [hm]
  · rw [Array.getElem?_eq_none (by simp; omega), Array.getElem?_eq_none (by simp [repV_length]; omega)]
end
end
end Go.Proofs.YteaacjabcfopgaaGreat.Am
namespace Go.Proofs.YteaacjabcfopgaaGreat.Am
open Go.RowKit
noncomputable section
section
variable {P : Program} {w0 : Base} {φ : Phi} {h : H} {w : World} {C : Ctx} {tmps : T AV} {ρ : Operand → Value}
def rowR (h : H) (cs : List AV) (len c : Nat) : R := .val (.slice h.next 0 len (.k c)) (h.new (.cells cs.length (T.ofList cs) false))
theorem rowR_ok {s : Sem Value} {e : TypeId} {cs : List AV} {us : List Value} {len c : Nat} (hR : RH w0 φ h w) (hr : RL φ cs us) (ho : ∀ v ∈ us, v.oneCell' = true) (hl : len ≤ c)
    (hs : s.run P w = .ok (.slice (some ⟨w.heap.size, 0, none⟩) len c) (w.alloc (.cells us.toArray e))) : OkR P w0 φ w (vN s) (rowR h cs len c) := by
  obtain ⟨ψ, p, g1, g2, g3, g4, g5, g7, g8⟩ := new_row hR e hr ho us.length (Nat.le_refl _) [] (by simp)
  rw [List.append_nil] at g8
  refine OkR.vw g1 g8 (.slice g2 hl rfl) ?_
  rw [g3]
  exact hs
def buildSliceR (C : Ctx) (h : H) (d : Option TI) (len : Nat) (parts : List (Nat × AV)) : R :=
  match d with
  | none => .stuck 21
  | some d => (match d.d with
    | .slice e => (match C.ty.get e with
      | some i => cond (Nat.blt 0 i.size && Nat.ble (Nat.mul len i.size) 16777216) (match fillA (fun j => some (Nat.mul j i.size, i.size)) (repL i.zero len) parts with
        | some cs => rowR h cs len len
        | none => .stuck 21) (.stuck 21)
      | none => .stuck 21)
    | _ => .stuck 21)
theorem ex_buildSlice_ok (hA : Agrees P C) (hR : RH w0 φ h w) (hE : Evals φ tmps ρ) (t : TypeId) (len : Nat) (parts : Array (Nat × Operand)) :
    OkR P w0 φ w (vN (Instr.buildSlice t len (parts.map fun (i, x) => (i, ρ x)))) (buildSliceR C h (C.ty.get t) len (evalP tmps parts.toList)) := by
  unfold buildSliceR
  split
  · trivial
  · rename_i d hd
    have ok := hA.ty t d hd
    split
    · rename_i e he
      have hu : (underlying t).run P w = .ok (.slice e) w := by rw [ok.underlying, he]
      split
      · rename_i i hi
        have oke := hA.ty e i hi
        cases hb : (Nat.blt 0 i.size && Nat.ble (Nat.mul len i.size) 16777216) with
        | false => trivial
        | true =>
          simp only [Bool.and_eq_true] at hb
          have b1 : 0 < i.size := Nat.le_of_ble_eq_true hb.1
          have b2 : len * i.size ≤ 16777216 := Nat.le_of_ble_eq_true hb.2
          simp only [cond_true]
          split
          · rename_i cs hcs
            obtain ⟨z, z1, z2, z3, z4, _⟩ := oke.zero φ
            obtain ⟨rp1, rp2⟩ := rep_ok z3 z4 len
            obtain ⟨us, r1, r2, r3, r4⟩ := fillA_ok (evalP_ok hE parts.toList) rp1 rp2 hcs
            have hzl : z.cells.toList.length = i.size := by rw [Array.length_toList]; exact z2
            refine rowR_ok (e := e) hR r2 r3 (Nat.le_refl _) ?_
            have hrow : (Array.range (len * i.size)).map (fun x => (if len * i.size = 0 then (#[] : Array Value) else z.cells)[x % (if len * i.size = 0 then (#[] : Array Value) else z.cells).size]!) = (repV z.cells.toList len).toArray := by
              by_cases h0 : len * i.size = 0
              · have hl0 : len = 0 := by
                  rcases Nat.mul_eq_zero.1 h0 with h | h
                  · exact h
                  · omega
                subst hl0
                simp [repV]
              · rw [if_neg h0]
                have := rowOf z.cells.toList len (by rw [hzl]; exact b1)
                rw [hzl] at this
                simpa using this
            have h24 : ¬ (len * i.size > 2 ^ 24) := by omega
            unfold Instr.buildSlice
            rw [Sem.run_bind, hu, Result.andThen_ok]
            simp only
            rw [Sem.run_bind, oke.sizeOf, Result.andThen_ok, if_neg h24]
            have e1 : (parts.map fun (i, x) => (i, ρ x)).toList = parts.toList.map fun (i, x) => (i, ρ x) := by simp
            have r1' : Instr.fill (fun j => some (j * i.size, i.size)) (repV z.cells.toList len).toArray (parts.toList.map fun (i, x) => (i, ρ x)) = some us.toArray := r1
            by_cases h0 : len * i.size = 0
            · rw [if_pos h0]
              simp only [if_pos h0] at hrow
              rw [Sem.run_bind, Sem.run_pure, Result.andThen_ok, hrow, e1, r1']
              simp [newRow]
            · rw [if_neg h0]
              simp only [if_neg h0] at hrow
              rw [Sem.run_bind, z1, Result.andThen_ok, Sem.run_bind, Sem.run_pure, Result.andThen_ok, hrow, e1, r1']
              simp [newRow]
          · trivial
      · trivial
    · trivial
theorem wrap_small {n : Nat} (h : n ≤ 1099511627776) : IntKind.i64.wrap (n : Int) = n := by
  have hb : (2 : Int) ^ IntKind.i64.bits = 18446744073709551616 := by decide
  have hc : (2 : Int) ^ (IntKind.i64.bits - 1) = 9223372036854775808 := by decide
  have hm : (n : Int) % 18446744073709551616 = n := by omega
  unfold IntKind.wrap
  simp only [hb, hc, hm]
  rw [if_neg (by simp; omega)]
def makeSliceR (C : Ctx) (h : H) (d : Option TI) (l c : Option Nat) : R :=
  match d, l, c with
  | some d, some l, some c => (match d.d with
    | .slice e => (match C.ty.get e with
      | some i => cond (Nat.blt 0 i.size && Nat.ble l c && Nat.ble c 1099511627776 && Nat.ble (Nat.mul i.bytes c) 140737488355328) (rowR h (repL i.zero c) l c) (.stuck 22)
      | none => .stuck 22)
    | _ => .stuck 22)
  | _, _, _ => .stuck 22
theorem ex_makeSlice_ok (hA : Agrees P C) (hR : RH w0 φ h w) (hE : Evals φ tmps ρ) (t : TypeId) (l c : Operand) :
    OkR P w0 φ w (vN (Instr.makeSlice t (ρ l) (ρ c))) (makeSliceR C h (C.ty.get t) (natI (evalA tmps l)) (natI (evalA tmps c))) := by
  unfold makeSliceR
  split
  · rename_i d l' c' hd hl hc
    have ok := hA.ty t d hd
    obtain ⟨j1, e1⟩ := natI_ok (hE l) hl
    obtain ⟨j2, e2⟩ := natI_ok (hE c) hc
    rw [e1, e2]
    split
    · rename_i e he
      have hu : (underlying t).run P w = .ok (.slice e) w := by rw [ok.underlying, he]
      split
      · rename_i i hi
        have oke := hA.ty e i hi
        cases hb : (Nat.blt 0 i.size && Nat.ble l' c' && Nat.ble c' 1099511627776 && Nat.ble (Nat.mul i.bytes c') 140737488355328) with
        | false => trivial
        | true =>
          simp only [Bool.and_eq_true] at hb
          have b1 : 0 < i.size := Nat.le_of_ble_eq_true hb.1.1.1
          have b2 := Nat.le_of_ble_eq_true hb.1.1.2
          have b3 := Nat.le_of_ble_eq_true hb.1.2
          have b4 : i.bytes * c' ≤ 140737488355328 := Nat.le_of_ble_eq_true hb.2
          obtain ⟨z, z1, z2, z3, z4, _⟩ := oke.zero φ
          obtain ⟨rp1, rp2⟩ := rep_ok z3 z4 c'
          have hzl : z.cells.toList.length = i.size := by rw [Array.length_toList]; exact z2
          obtain ⟨info, y1, y2⟩ := oke.bytes (w := w)
          refine rowR_ok (e := e) hR rp1 rp2 b2 ?_
          have w1 : IntKind.i64.wrap (l' : Int) = l' := wrap_small (by omega)
          have w2 : IntKind.i64.wrap (c' : Int) = c' := wrap_small b3
          have t1 : ((c' : Int) < 0) = False := eq_false (by omega)
          have t2 : ¬ (281474976710656 < (i.bytes : Int) * (c' : Int)) := by
            have : ((i.bytes * c' : Nat) : Int) ≤ ((140737488355328 : Nat) : Int) := Int.ofNat_le.2 b4
            rw [Int.natCast_mul] at this
            omega
          have t3 : ((l' : Int) < 0) = False := eq_false (by omega)
          have t4 : ((l' : Int) > (c' : Int)) = False := eq_false (by omega)
          have hrow : (Array.range (c' * i.size)).map (fun x => (if c' * i.size = 0 then (#[] : Array Value) else z.cells)[x % (if c' * i.size = 0 then (#[] : Array Value) else z.cells).size]!) = (repV z.cells.toList c').toArray := by
            by_cases h0 : c' * i.size = 0
            · have hl0 : c' = 0 := by
                rcases Nat.mul_eq_zero.1 h0 with h | h
                · exact h
                · omega
              subst hl0
              simp [repV]
            · rw [if_neg h0]
              have := rowOf z.cells.toList c' (by rw [hzl]; exact b1)
              rw [hzl] at this
              simpa using this
          unfold Instr.makeSlice
          by_cases h0 : c' * i.size = 0
          · simp only [if_pos h0] at hrow
            simp [hu, asInt, asIntOf, y1, y2, w1, w2, t1, t3, t4, oke.sizeOf, h0, newRow] at hrow ⊢
            rw [← hrow]
            simp
            intro hx
            exact absurd hx t2
          · simp only [if_neg h0] at hrow
            simp [hu, asInt, asIntOf, y1, y2, w1, w2, t1, t3, t4, oke.sizeOf, h0, z1, newRow] at hrow ⊢
            rw [← hrow]
            simp
            intro hx
            exact absurd hx t2
      · trivial
    · trivial
  · trivial
def makeMapR (h : H) : R := .val (.map h.next) (h.new (.map [] 0))
theorem makeMap_new (hR : RH w0 φ h w) : ∃ ψ p, φ.le ψ ∧ ψ h.next = some p ∧ p.blk = w.heap.size ∧ RH w0 ψ (h.new (.map [] 0)) (w.alloc (.map #[] 0)) :=
  ⟨_, ⟨w.heap.size, 0, 0⟩, Phi.le_add hR.none_at, Phi.add_at _ _ _, rfl, hR.new rfl ⟨#[], rfl, .nil⟩⟩
def hintOk (d : Option TI) (r : Option AV) : Bool :=
  match r with
  | none => true
  | some a => (match d with
    | some d => (match d.d with
      | .map _ _ => (match natI a with
        | some _ => true
        | none => false)
      | _ => false)
    | none => false)
theorem ex_makeMap_ok (hA : Agrees P C) (hR : RH w0 φ h w) (hE : Evals φ tmps ρ) (t : TypeId) (r : Option Operand) : OkR P w0 φ w (vN (Instr.makeMap t (r.map ρ))) (cond (hintOk (C.ty.get t) (evalO tmps r)) (makeMapR h) (.stuck 23)) := by
  cases hh : hintOk (C.ty.get t) (evalO tmps r) with
  | false => trivial
  | true =>
    obtain ⟨ψ, p, g1, g2, g3, g4⟩ := makeMap_new hR
    refine OkR.vw g1 g4 (v' := .map (some w.heap.size)) (by rw [← g3]; exact .map g2) ?_
    cases r with
    | none => simp [Instr.makeMap]
    | some o =>
      have hh' : (match C.ty.get t with | some d => (match d.d with | .map _ _ => (match natI (evalA tmps o) with | some _ => true | none => false) | _ => false) | none => false) = true := hh
      split at hh'
      · rename_i d hd
        have ok := hA.ty t d hd
        split at hh'
        · rename_i k e he
          split at hh'
          · rename_i n hn
            obtain ⟨j, hj⟩ := natI_ok (hE o) hn
            have hu : (underlying t).run P w = .ok (.map k e) w := by rw [ok.underlying, he]
            simp [Instr.makeMap, hj, hu, asInt, asIntOf]
          · cases hh'
        · cases hh'
      · cases hh'
def makeFuncR (h : H) (fn : Fn) (a b : List AV) : R :=
  match fn with
  | .func f => .val (.fn f a b) h
  | _ => .stuck 24
theorem ex_makeFunc_ok (hR : RH w0 φ h w) (hE : Evals φ tmps ρ) (fn : Fn) (a b : Array Operand) : OkR P w0 φ w (vN (Instr.makeFunc fn (a.map ρ) (b.map ρ))) (makeFuncR h fn (evalL tmps a.toList) (evalL tmps b.toList)) := by
  unfold makeFuncR
  split
  · rename_i f
    refine OkR.v hR (.fn (hE.list a.toList) (hE.list b.toList)) ?_
    have e : ∀ a : Array Operand, a.map ρ = (a.toList.map ρ).toArray := fun a => by
      apply Array.toList_inj.1
      simp
    simp only [Instr.makeFunc, e]
    rfl
  · trivial
end
end
end Go.Proofs.YteaacjabcfopgaaGreat.Am
namespace Go.Proofs.YteaacjabcfopgaaGreat.Am
open Go.RowKit
noncomputable section
section
variable {P : Program} {w0 : Base} {φ : Phi} {h : H} {w : World} {C : Ctx} {tmps : T AV} {ρ : Operand → Value}
def byteA : AV → Option Nat
  | .int k n => (match k with
    | .u8 => (match n with
      | .ofNat b => cond (Nat.blt b 256) (some b) none
      | _ => none)
    | _ => none)
  | _ => none
def bytesA : List AV → Option (List Nat)
  | [] => some []
  | v :: l => match byteA v with
    | none => none
    | some b => match bytesA l with
      | none => none
      | some m => some (b :: m)
theorem byteA_ok {a : AV} {v : Value} {b : Nat} (hv : RV φ a v) (hb : byteA a = some b) : v = .int .u8 (b : Int) ∧ b < 256 := by
  unfold byteA at hb
  split at hb
  · split at hb
    · split at hb
      · rename_i n
        cases hc : Nat.blt n 256 with
        | false => rw [hc] at hb; cases hb
        | true =>
          rw [hc] at hb
          have e : n = b := Option.some.inj hb
          subst e
          cases hv
          exact ⟨rfl, Nat.le_of_ble_eq_true hc⟩
      · cases hb
    · cases hb
  · cases hb
theorem bytesA_ok : ∀ {l : List AV} {vs : List Value} {ns : List Nat}, RL φ l vs → bytesA l = some ns → vs = ns.map (fun (n : Nat) => Value.int .u8 (Int.ofNat n)) ∧ ∀ n ∈ ns, n < 256
  | _, _, ns, .nil, h => by cases h; exact ⟨rfl, fun _ h => by cases h⟩
  | _, _, ns, .cons hv ht, h => by
    unfold bytesA at h
    split at h
    · cases h
    · rename_i b hb
      split at h
      · cases h
      · rename_i m hm
        cases h
        obtain ⟨e1, e2⟩ := byteA_ok hv hb
        obtain ⟨e3, e4⟩ := bytesA_ok ht hm
        subst e1; subst e3
        refine ⟨rfl, fun n hn => ?_⟩
        rcases List.mem_cons.1 hn with rfl | hn
        · exact e2
        · exact e4 n hn
theorem push_all : ∀ (ns : List Int) (s : ByteArray), (ns.foldl (fun r n => r.push (UInt8.ofNat n.toNat)) s).data.toList = s.data.toList ++ ns.map (fun n => UInt8.ofNat n.toNat)
  | [], s => by simp
  | n :: ns, s => by
    rw [List.foldl_cons, push_all ns]
    simp [ByteArray.push]
def isU8 (C : Ctx) (e : TypeId) : Bool :=
  match C.ty.get e with
  | some i => (match i.d with
    | .int k => (match k with
      | .u8 => true
      | _ => false)
    | _ => false)
  | none => false
theorem isU8_ok (hA : Agrees P C) {e : TypeId} (h : isU8 C e = true) : ∀ w, (underlying e).run P w = .ok (.int .u8) w := by
  unfold isU8 at h
  split at h
  · rename_i i hi
    split at h
    · rename_i k hk
      split at h
      · intro w
        rw [(hA.ty e i hi).underlying, hk]
      · cases h
    · cases h
  · cases h
theorem freeze_new (w : World) (c : Array Value) (e : TypeId) : (w.alloc (.cells c e)).freeze { block := w.heap.size, off := c.size } 1 = w.alloc (.cells c e (c.size, c.size + 1)) := by
  unfold World.freeze
  rw [if_neg (by decide)]
  refine congrArg (fun hp => ({ w with heap := hp } : World)) ?_
  apply Array.ext_getElem?
  intro i
  rw [Array.getElem?_modify]
  by_cases hi : w.heap.size = i
  · subst hi
    rw [if_pos rfl]
    show ((w.heap.push _)[w.heap.size]?).map _ = (w.heap.push _)[w.heap.size]?
    simp
  · rw [if_neg hi]
    show (w.heap.push _)[i]? = (w.heap.push _)[i]?
    by_cases h2 : i < w.heap.size
    · rw [Array.getElem?_push_lt h2, Array.getElem?_push_lt h2]
    · rw [Array.getElem?_eq_none (by simp; omega), Array.getElem?_eq_none (by simp; omega)]
def byteCells : List Nat → List AV
  | [] => []
  | n :: l => .int .u8 (Int.ofNat n) :: byteCells l
def byteM : AV → Option Nat
  | .int k n => (match k with
    | .u8 => (match n with
      | .ofNat b => some (Nat.mod b 256)
      | _ => none)
    | _ => none)
  | _ => none
def bytesM : List AV → Option (List Nat)
  | [] => some []
  | v :: l => match byteM v with
    | none => none
    | some b => match bytesM l with
      | none => none
      | some m => some (b :: m)
theorem bytesM_ok : ∀ {l : List AV} {vs : List Value} {ns : List Nat}, RL φ l vs → bytesM l = some ns → ∃ ms : List Nat, vs = ms.map (fun (n : Nat) => Value.int .u8 (Int.ofNat n)) ∧ ns = ms.map (fun n => n % 256)
  | _, _, ns, .nil, h => by cases h; exact ⟨[], rfl, rfl⟩
  | _, _, ns, .cons hv ht, h => by
    unfold bytesM at h
    split at h
    · cases h
    · rename_i b hb
      split at h
      · cases h
      · rename_i m hm
        cases h
        obtain ⟨ms, e3, e4⟩ := bytesM_ok ht hm
        unfold byteM at hb
        split at hb
        · split at hb
          · split at hb
            · rename_i n
              cases hb
              cases hv
              exact ⟨n :: ms, by rw [e3]; rfl, by rw [e4]; rfl⟩
            · cases hb
          · cases hb
        · cases hb
def bytesX (mb : Bool) (l : List AV) : Option (List Nat) := cond mb (bytesM l) (bytesA l)
theorem bytesX_ok {mb : Bool} {l : List AV} {vs : List Value} {ns : List Nat} (hl : RL φ l vs) (h : bytesX mb l = some ns) : ∃ ms : List Nat, vs = ms.map (fun (n : Nat) => Value.int .u8 (Int.ofNat n)) ∧ ns = ms.map (fun n => n % 256) := by
  cases mb with
  | true => exact bytesM_ok hl h
  | false =>
    obtain ⟨a, b⟩ := bytesA_ok hl h
    refine ⟨ns, a, ?_⟩
    conv => lhs; rw [← List.map_id ns]
    exact List.map_congr_left fun n hn => (Nat.mod_eq_of_lt (b n hn)).symm
def strOfR (mb : Bool) (h : H) (l : Option (List AV)) : R :=
  match l with
  | none => .stuck 25
  | some l => (match bytesX mb l with
    | some s => .val (.str s) h
    | none => .stuck 25)
def markR (C : Ctx) (h : H) (e id : Nat) (x : AV) : R :=
  match h.h.get id with
  | some (.cells n c ish) => cond (!ish && isU8 C e) (.val x (h.upd id (.cells n c true))) (.stuck 25)
  | _ => .stuck 25
def convR (C : Ctx) (h : H) (same : Bool) (ds dd : Option TI) (x : AV) : R :=
  match ds, dd with
  | some ds, some dd => (match dd.d with
    | .int k => (match x with
      | .int _ n => .val (.int k (k.wrap n)) h
      | _ => .stuck 25)
    | .string => (match x with
      | .str s => .val (.str s) h
      | .nils => (match ds.d with
        | .slice e => cond (isU8 C e) (.val (.str []) h) (.stuck 25)
        | _ => .stuck 25)
      | .slice id off len _ => (match ds.d with
        | .slice e => cond (isU8 C e) (strOfR C.mb h (h.load id off len)) (.stuck 25)
        | _ => .stuck 25)
      | _ => .stuck 25)
    | .slice e => (match x with
      | .str s => cond (isU8 C e) (.val (.slice h.next 0 s.length (.own 1)) (h.new (.cells s.length (T.ofList (byteCells s)) true))) (.stuck 25)
      | .slice id off len cap => (match ds.d with
        | .slice _ => cond same (markR C h e id (.slice id off len cap)) (.stuck 25)
        | _ => .stuck 25)
      | _ => .stuck 25)
    | _ => .stuck 25)
  | _, _ => .stuck 25
theorem byteCells_RL (φ : Phi) : ∀ s : List UInt8, RL φ (byteCells (s.map UInt8.toNat)) (s.map fun b => Value.int .u8 b.toNat)
  | [] => .nil
  | _ :: s => .cons (.int _ _) (byteCells_RL φ s)
theorem bytes_new (hR : RH w0 φ h w) (s : List UInt8) (N lo : Nat) (e : TypeId) (hN : s.length ≤ N) (rest : List Value) (hrest : s.length + rest.length = N) (n : Nat) :
    ∃ ψ p, φ.le ψ ∧ ψ h.next = some p ∧ p.addr 0 = ⟨w.heap.size, 0, none⟩ ∧ p.sh = 0 ∧ p.N = N ∧ RH w0 ψ (h.new (.cells s.length (T.ofList (byteCells (s.map UInt8.toNat))) true)) (World.alloc { w with drawn := n } (.cells ((s.map fun b => Value.int .u8 b.toNat) ++ rest).toArray e (N, lo))) := by
  have hle : φ.le (φ.add h.next ⟨w.heap.size, 0, N⟩) := Phi.le_add hR.none_at
  refine ⟨_, ⟨w.heap.size, 0, N⟩, hle, Phi.add_at _ _ _, rfl, rfl, rfl, (hR.drew n).new rfl ?_⟩
  refine ⟨_, e, N, lo, rfl, by simp [hrest], by simp [hN], fun i hi => by have : i < N := hi; omega, (fun hf => by cases hf), fun i av hg hi => ?_⟩
  obtain ⟨v, h1, h2⟩ := (byteCells_RL φ s).get i av (T.get_ofList hg)
  have hlt : i < (s.map fun b => Value.int .u8 b.toNat).length := (List.getElem?_eq_some_iff.1 h1).1
  refine ⟨v, ?_, h2.mono hle, ?_⟩
  · simp only [Nat.zero_add, List.getElem?_toArray]
    rw [List.getElem?_append_left hlt]
    exact h1
  · rw [List.getElem?_map, Option.map_eq_some_iff] at h1
    obtain ⟨b, _, rfl⟩ := h1
    rfl
theorem ex_convert_ok (hA : Agrees P C) (hR : RH w0 φ h w) (hE : Evals φ tmps ρ) (src dst : TypeId) (x : Operand) : OkR P w0 φ w (vN (convert src dst (ρ x))) (convR C h (Nat.beq src dst) (C.ty.get src) (C.ty.get dst) (evalA tmps x)) := by
  have hx := hE x
  generalize evalA tmps x = ax at hx
  generalize ρ x = x' at hx ⊢
  unfold convR
  split
  · rename_i ds dd hs hd
    have oks := hA.ty src ds hs
    have okd := hA.ty dst dd hd
    have us : ∀ w, (underlying src).run P w = .ok ds.d w := fun w => oks.underlying
    have ud : ∀ w, (underlying dst).run P w = .ok dd.d w := fun w => okd.underlying
    split
    · rename_i k hk
      rw [hk] at ud
      split
      · cases hx
        refine OkR.v (v' := .int k (k.wrap _)) hR (.int _ _) ?_
        simp [convert, us, ud, Conv.intToInt]
      · trivial
    · rename_i hk
      rw [hk] at ud
      split
      · cases hx with
        | str s =>
        refine OkR.v (v' := .string s) hR (.str s) ?_
        simp [convert, us, ud]
      · cases hx
        split
        · rename_i e he
          rw [he] at us
          cases hu8 : isU8 C e with
          | false => trivial
          | true =>
            refine OkR.v (v' := .string .empty) hR (.str ByteArray.empty) ?_
            simp [convert, us, ud, isU8_ok hA hu8, Conv.bytesToString]
        · trivial
      · cases hx with
        | slice hp hl hc =>
        rename_i id off len cap c p
        split
        · rename_i e he
          rw [he] at us
          cases hu8 : isU8 C e with
          | false => trivial
          | true =>
            simp only [cond_true]
            unfold strOfR
            split
            · trivial
            · rename_i l hload
              split
              · rename_i ns hns
                obtain ⟨vs, v1, v2, v3, v4, v5⟩ := hR.load hload hp
                obtain ⟨ms, e1, e2⟩ := bytesX_ok v2 hns
                have hrun : (loadCells (p.addr off) len).run P w = .ok ((ms.map (fun (n : Nat) => Int.ofNat n)).map (Value.int .u8)).toArray w := by
                  rw [v5 P, e1]
                  simp [Function.comp_def]
                have hb := run_bytesToString (P := P) w (p.addr off) len c _ hrun
                refine OkR.v (v' := .string (((ms.map (fun (n : Nat) => Int.ofNat n)).foldl (fun r n => r.push (UInt8.ofNat n.toNat)) ByteArray.empty))) hR ?_ ?_
                · have : ns = (((ms.map (fun (n : Nat) => Int.ofNat n)).foldl (fun r n => r.push (UInt8.ofNat n.toNat)) ByteArray.empty)).data.toList.map UInt8.toNat := by
                    rw [push_all]
                    simp only [ByteArray.empty, List.map_append, List.map_map]
                    have : (ByteArray.emptyWithCapacity 0).data.toList = [] := rfl
                    rw [e2]
                    simp only [this, List.map_nil, List.nil_append]
                    refine List.map_congr_left fun n hn => ?_
                    show n % 256 = (UInt8.ofNat n).toNat
                    rw [UInt8.toNat_ofNat']
                  conv => arg 2; rw [this]
                  exact .str _
                · simp [convert, us, ud, isU8_ok hA hu8, hb]
              · trivial
        · trivial
      · trivial
    · rename_i e hk
      rw [hk] at ud
      split
      · cases hx with
        | str s =>
        cases hu8 : isU8 C e with
        | false => trivial
        | true =>
          simp only [cond_true]
          have hlen : (s.data.toList.map UInt8.toNat).length = s.size := by rw [List.length_map, Array.length_toList]; rfl
          have hlen2 : s.data.toList.length = s.size := by rw [Array.length_toList]; rfl
          generalize hcap : (Question.appendCap s.size 0 e).cut (w.tape w.drawn (.appendCap s.size 0 e)) = cap
          have hge : s.size ≤ cap := by rw [← hcap]; exact Nat.le_add_right _ _
          obtain ⟨ψ, p, g1, g2, g3, g4, g5, g6⟩ := bytes_new hR s.data.toList cap (cap + 1) e (by rw [hlen2]; exact hge) (List.replicate (cap - s.size) (.int .u8 0)) (by rw [hlen2, List.length_replicate]; omega) (w.drawn + 1)
          rw [hlen2] at g6
          rw [hlen]
          refine OkR.vw g1 g6 (v' := .slice (some (p.addr 0)) s.size cap) (.slice g2 hge (by show p.sh + 0 + cap * 1 = p.N; omega)) ?_
          rw [g3]
          have hf : (Question.appendCap s.size 0 e).forced = false := rfl
          have hshape : ∀ (w : World) (c : Array Value), (w.alloc (.cells c e)).shape? w.heap.size = some (e, c.size) := fun w c => by
            unfold World.shape?
            have : (w.alloc (.cells c e)).heap[w.heap.size]? = some (.cells c e) := by
              show (w.heap.push _)[w.heap.size]? = _
              simp
            rw [this]
          have hfz := freeze_new w.drew (s.data.map (fun (b : UInt8) => Value.int .u8 b.toNat) ++ Array.replicate (cap - s.size) (Value.int .u8 0)) e
          have hsz : (s.data.map (fun (b : UInt8) => Value.int .u8 b.toNat) ++ Array.replicate (cap - s.size) (Value.int .u8 0)).size = cap := by
            rw [Array.size_append, Array.size_map, Array.size_replicate]
            have : s.data.size = s.size := rfl
            omega
          have harr : ((s.data.toList.map fun (b : UInt8) => Value.int .u8 b.toNat) ++ List.replicate (cap - s.size) (Value.int .u8 0)).toArray = s.data.map (fun (b : UInt8) => Value.int .u8 b.toNat) ++ Array.replicate (cap - s.size) (Value.int .u8 0) := by
            apply Array.toList_inj.1
            simp
          rw [harr]
          have hsh := hshape w.drew (s.data.map (fun (b : UInt8) => Value.int .u8 b.toNat) ++ Array.replicate (cap - s.size) (Value.int .u8 0))
          rw [hsz] at hsh hfz
          simp [convert, us, ud, isU8_ok hA hu8, Conv.stringToBytes, hf, hcap, newRow, markStringish]
          have hsh' := (show w.drew.heap.size = w.heap.size from rfl) ▸ hsh
          rw [hsh']
          simp only [run_freeze, Result.andThen_ok]
          congr 1
      · cases hx with
        | slice hp hl hc =>
        rename_i id off len cap c p
        split
        · rename_i e' he'
          rw [he'] at us
          cases hsame : Nat.beq src dst with
          | false => trivial
          | true =>
            have hsd : (src == dst) = true := beq_iff_eq.2 (Nat.eq_of_beq_eq_true hsame)
            simp only [cond_true]
            unfold markR
            split
            · rename_i n cc ish hg
              cases hc2 : (!ish && isU8 C e) with
              | false => trivial
              | true =>
                simp only [Bool.and_eq_true, Bool.not_eq_true'] at hc2
                obtain ⟨hish, hu8⟩ := hc2
                subst hish
                obtain ⟨q, o, h1, h2, a, el, lo, hi, rfl, h3, h4, h5, h6, h7⟩ := hR.at hp hg
                rw [hp] at h1
                cases h1
                have hlh := h6 rfl
                have hsh : w.shape? p.blk = some (el, p.N) := by
                  unfold World.shape?
                  rw [h2, ← h3]
                obtain ⟨W', hW⟩ : ∃ W', W' = w.freeze ⟨p.blk, p.N, none⟩ 1 := ⟨_, rfl⟩
                have hb : W'.heap[p.blk]? = some (.cells a el (p.N, p.N + 1)) := by
                  rw [hW]
                  unfold World.freeze
                  rw [if_neg (by decide)]
                  show (w.heap.modify p.blk _)[p.blk]? = _
                  rw [Array.getElem?_modify, if_pos rfl, h2]
                  simp [hlh]
                have hone : One p.blk w W' := by
                  rw [hW]
                  unfold World.freeze
                  rw [if_neg (by decide)]
                  refine ⟨rfl, rfl, rfl, by simp, fun k hk => ?_⟩
                  show (w.heap.modify p.blk _)[k]? = _
                  rw [Array.getElem?_modify, if_neg (fun e => hk e.symm)]
                refine OkR.vw (Phi.le_refl φ) (hR.upd hg hp hone hb ⟨a, el, p.N, p.N + 1, rfl, h3, h4, fun i hi' => by omega, (fun hf => by cases hf), h7⟩) (v' := .slice (some (p.addr off)) len c) (.slice hp hl hc) ?_
                have hblk : (p.addr off).block = p.blk := rfl
                simp [convert, us, ud, hsd, isU8_ok hA hu8, markStringish, hblk, hsh, run_freeze, hW]
            · trivial
        · trivial
      · trivial
    · trivial
  · trivial
end
end
end Go.Proofs.YteaacjabcfopgaaGreat.Am
namespace Go.Proofs.YteaacjabcfopgaaGreat.Am
open Go.RowKit
noncomputable section
section
variable {P : Program} {w0 : Base} {φ : Phi} {h : H} {w : World} {C : Ctx} {tmps : T AV} {ρ : Operand → Value}
inductive AppArg (P : Program) (t e : TypeId) (info : TypeInfo) (x : Value) (n : Nat) (news : List Value) (w : World) : Prop where
  | seq (und : (∃ e', P.underlying t = some (.slice e')) ∨ P.underlying t = some .string) (len : ∀ w, (Builtin.lenOf x).run P w = .ok n w)
      (cells : ∀ w' : World, w'.heap = w.heap → (Builtin.firstCells info.size n x).run P w' = .ok news.toArray w')
  | zeros {k k' : IntKind} {z : Value} (und : P.underlying t = some (.int k)) (hx : x = .int k' n) (hw : IntKind.i64.wrap (n : Int) = n) (hb : n * info.bytes ≤ 140737488355328) (hz : info.zero = some z) (hsz : z.cells.size = info.size)
      (hnews : news.toArray = Builtin.zeroCells z.cells n)
theorem zeroCells_none (z : Array Value) (n : Nat) (h : n * z.size = 0) : Builtin.zeroCells z n = #[] := by
  unfold Builtin.zeroCells
  rw [h]
  simp
set_option maxRecDepth 4000 in
theorem run_app_room {t tx ty e : TypeId} {i : TypeInfo} (ht : P.underlying t = some (.slice e)) (hi : P.info? e = some i) {base : Option Addr} {sLen sCap : Nat} {x : Value} {n : Nat} {news : List Value} (hs : AppArg P tx e i x n news w) (hroom : sLen + n ≤ sCap) :
    (Builtin.append_ #[t, tx] ty #[.slice base sLen sCap, x]).run P w = match base with
      | some a => ((storeCells (a.add (sLen * i.size)) news).run P w).andThen fun _ w' => .ok (.slice base (sLen + n) sCap) w'
      | none => .ok (.slice none (sLen + n) sCap) w := by
  cases hs with
  | seq und len cells =>
    have hc := cells w rfl
    rcases und with ⟨e', hk⟩ | hk <;> cases base <;> simp [Builtin.append_, run_underlying ht, run_underlying hk, sizeOf, typeInfo, hi, len, hroom, hc]
  | @zeros k k' z und hx hw hb hz hsz hnews =>
    subst hx
    have h0 : ¬ ((n : Int) < 0) := by omega
    have h48 : ¬ ((281474976710656 : Int) < (n : Int) * (i.bytes : Int)) := by
      have : ((n * i.bytes : Nat) : Int) ≤ ((140737488355328 : Nat) : Int) := Int.ofNat_le.2 hb
      rw [Int.natCast_mul] at this
      omega
    by_cases h00 : n * i.size = 0
    · have hne : news = [] := by
        have := hnews.trans (zeroCells_none z.cells n (by rw [hsz]; exact h00))
        simpa using this
      subst hne
      cases base <;> simp [Builtin.append_, run_underlying ht, run_underlying und, sizeOf, typeInfo, zeroValue, hi, hw, h0, h48, hz, hroom, h00, asInt, asIntOf, storeCells]
    · have hl : news = (Builtin.zeroCells z.cells n).toList := by rw [← hnews]
      subst hl
      cases base <;> simp [Builtin.append_, run_underlying ht, run_underlying und, sizeOf, typeInfo, zeroValue, hi, hw, h0, h48, hz, hroom, h00, asInt, asIntOf]
set_option maxRecDepth 4000 in
theorem run_app_grow {t tx ty e : TypeId} {i : TypeInfo} {z : Value} (ht : P.underlying t = some (.slice e)) (hi : P.info? e = some i) (hz : i.zero = some z) {base : Option Addr} {sLen sCap : Nat} {x : Value} {n : Nat} {news olds : List Value} (hs : AppArg P tx e i x n news w)
    (hold : ∀ w' : World, w'.heap = w.heap → (Builtin.firstCells i.size sLen (.slice base sLen sCap)).run P w' = .ok olds.toArray w') (hg : sCap < sLen + n) (h63 : sLen + n ≤ 9223372036854775807) (hb : (sLen + n) * i.bytes ≤ 140737488355328) :
    ∃ c, sLen + n ≤ c ∧ (Builtin.append_ #[t, tx] ty #[.slice base sLen sCap, x]).run P w = .ok (.slice (some ⟨w.heap.size, 0, none⟩) (sLen + n) c) (w.drew.alloc (.cells (olds.toArray ++ news.toArray ++ Builtin.zeroCells z.cells (c - (sLen + n))) e)) := by
  have hn : ¬ (sLen + n ≤ sCap) := by omega
  have h48 := growslice_fits (need := sLen + n) (old := sCap) (bytes := i.bytes) hg hb
  have h63' : ¬ (9223372036854775807 < ((sLen : Int) + (n : Int))) := by omega
  have h48' : ¬ (281474976710656 < Builtin.nextslicecap (sLen + n) sCap * i.bytes) := by omega
  have hq : (Question.appendCap (sLen + n) sCap e).forced = false := rfl
  have ho := hold w.drew rfl
  refine ⟨(Question.appendCap (sLen + n) sCap e).cut (w.tape w.drawn (.appendCap (sLen + n) sCap e)), Nat.le_add_right _ _, ?_⟩
  cases hs with
  | seq und len cells =>
    have hc := cells w.drew rfl
    rcases und with ⟨e', hk⟩ | hk <;> simp [Builtin.append_, run_underlying ht, run_underlying hk, sizeOf, typeInfo, zeroValue, hi, hz, len, hn, h63', h48', hq, hc, ho, newRow] <;> rw [← Array.append_assoc, List.append_toArray olds news]
  | @zeros k k' z' und hx hw hb2 hz2 hsz hnews =>
    subst hx
    rw [hz] at hz2
    cases hz2
    have h0 : ¬ ((n : Int) < 0) := by omega
    have h482 : ¬ ((281474976710656 : Int) < (n : Int) * (i.bytes : Int)) := by
      have : ((n * i.bytes : Nat) : Int) ≤ ((140737488355328 : Nat) : Int) := Int.ofNat_le.2 hb2
      rw [Int.natCast_mul] at this
      omega
    by_cases h00 : n * i.size = 0
    · have hne : news = [] := by
        have := hnews.trans (zeroCells_none z.cells n (by rw [hsz]; exact h00))
        simpa using this
      subst hne
      simp [Builtin.append_, run_underlying ht, run_underlying und, sizeOf, typeInfo, zeroValue, hi, hz, hw, h0, h482, hn, h63', h48', hq, h00, ho, newRow, asInt, asIntOf]
    · simp [Builtin.append_, run_underlying ht, run_underlying und, sizeOf, typeInfo, zeroValue, hi, hz, hw, h0, h482, hn, h63', h48', hq, h00, ho, newRow, asInt, asIntOf, hnews]
def appZeros (i : TI) (x : AV) : Option (Nat × List AV) :=
  match x with
  | .int _ n => cond (decide (0 ≤ n) && Nat.ble n.toNat 1099511627776 && Nat.ble (Nat.mul n.toNat i.bytes) 140737488355328) (some (n.toNat, repL i.zero n.toNat)) none
  | _ => none
def appArg (h : H) (i : TI) (d : Option TI) (size : Nat) (x : AV) : Option (Nat × List AV) :=
  match d with
  | none => none
  | some d => (match d.d with
    | .int _ => appZeros i x
    | .slice _ => (match x with
      | .nils => some (0, [])
      | .slice id off len _ => (match h.load id off (Nat.mul len size) with
        | some l => some (len, l)
        | none => none)
      | _ => none)
    | .string => (match x with
      | .str s => cond (Nat.beq size 1) (some (s.length, byteCells s)) none
      | _ => none)
    | _ => none)
theorem appArg_ok (hA : Agrees P C) (hR : RH w0 φ h w) {tx e : TypeId} {i : TI} {info : TypeInfo} {size n : Nat} {x : AV} {x' z : Value} {news : List AV} (hsz : info.size = size) (hsi : i.size = size) (hby : info.bytes = i.bytes) (hz : info.zero = some z) (hzs : z.cells.size = i.size)
    (hzr : RL φ i.zero z.cells.toList) (hzo : ∀ v ∈ z.cells.toList, v.oneCell' = true) (hx : RV φ x x') (ha : appArg h i (C.ty.get tx) size x = some (n, news)) :
    ∃ us : List Value, RL φ news us ∧ (∀ v ∈ us, v.oneCell' = true) ∧ us.length = n * size ∧ AppArg P tx e info x' n us w := by
  unfold appArg at ha
  split at ha
  · cases ha
  · rename_i d hd
    have ok := hA.ty tx d hd
    split at ha
    · rename_i k he
      have hu : P.underlying tx = some (.int k) := by rw [ok.und, he]
      unfold appZeros at ha
      split at ha
      · cases hx
        rename_i k' n'
        cases hc : (decide (0 ≤ n') && Nat.ble n'.toNat 1099511627776 && Nat.ble (Nat.mul n'.toNat i.bytes) 140737488355328) with
        | false => rw [hc] at ha; cases ha
        | true =>
          rw [hc] at ha
          have ha' := Option.some.inj ha
          simp only [Prod.mk.injEq] at ha'
          obtain ⟨rfl, rfl⟩ := ha'
          simp only [Bool.and_eq_true, decide_eq_true_eq] at hc
          have c1 : n'.toNat ≤ 1099511627776 := Nat.le_of_ble_eq_true hc.1.2
          have c2 : n'.toNat * i.bytes ≤ 140737488355328 := Nat.le_of_ble_eq_true hc.2
          have hnn : ((n'.toNat : Nat) : Int) = n' := Int.toNat_of_nonneg hc.1.1
          obtain ⟨r1, r2⟩ := rep_ok hzr hzo n'.toNat
          have hlen : z.cells.toList.length = size := by rw [Array.length_toList, hzs, hsi]
          refine ⟨repV z.cells.toList n'.toNat, r1, r2, by rw [repV_length, hlen], .zeros (z := z) hu (by rw [hnn]) (wrap_small c1) (by rw [hby]; exact c2) hz (by rw [hzs, hsi, hsz]) ?_⟩
          by_cases h0 : 0 < size
          · have := rowOf z.cells.toList n'.toNat (by rw [hlen]; exact h0)
            rw [← this]
            unfold Builtin.zeroCells
            simp
          · have h0' : z.cells.size = 0 := by rw [hzs, hsi]; omega
            rw [zeroCells_none _ _ (by rw [h0', Nat.mul_zero])]
            have h1 : size = 0 := by omega
            have : (repV z.cells.toList n'.toNat).length = 0 := by rw [repV_length, hlen, h1, Nat.mul_zero]
            simpa using this
      · cases ha
    · rename_i e' he
      have hu : P.underlying tx = some (.slice e') := by rw [ok.und, he]
      split at ha
      · cases hx
        cases ha
        exact ⟨[], .nil, (fun _ h => by cases h), by simp, AppArg.seq (.inl ⟨e', hu⟩) (fun w => by simp [Builtin.lenOf]) (fun w' _ => by simp [Builtin.firstCells])⟩
      · cases hx with
        | slice hp hl hc =>
        rename_i id off len cap c p
        split at ha
        · rename_i l hload
          cases ha
          obtain ⟨vs, v1, v2, v3, v4, v5⟩ := hR.load hload hp
          refine ⟨vs, v2, v3, v1, AppArg.seq (.inl ⟨e', hu⟩) (fun w => by simp [Builtin.lenOf]) (fun w' hw => ?_)⟩
          rw [hsz]
          have hc : ∀ j, j < vs.length → w'.cell? ((p.addr off).add j) = vs[j]? := fun j hj => by
            have hcw : w'.cell? ((p.addr off).add j) = w.cell? ((p.addr off).add j) := by unfold World.cell?; rw [hw]
            rw [hcw, addr_add]
            exact v4 j (by omega)
          have := run_loadCells (P := P) (w := w') (a := p.addr off) vs hc
          rw [v1] at this
          simpa [Builtin.firstCells] using this
        · cases ha
      · cases ha
    · rename_i he
      have hu : P.underlying tx = some .string := by rw [ok.und, he]
      split at ha
      · cases hx with
        | str s =>
        cases hs1 : Nat.beq size 1 with
        | false => rw [hs1] at ha; cases ha
        | true =>
          rw [hs1] at ha
          have hs1' := Nat.eq_of_beq_eq_true hs1
          have ha' := Option.some.inj ha
          simp only [Prod.mk.injEq] at ha'
          obtain ⟨rfl, rfl⟩ := ha'
          have hlen : (s.data.toList.map UInt8.toNat).length = s.size := by rw [List.length_map, Array.length_toList]; rfl
          have hlen2 : s.data.toList.length = s.size := by rw [Array.length_toList]; rfl
          refine ⟨s.data.toList.map fun b => Value.int .u8 b.toNat, byteCells_RL φ _, ?_, by rw [List.length_map, hlen, hlen2, hs1', Nat.mul_one], AppArg.seq (.inr hu) (fun w => by rw [hlen]; simp [Builtin.lenOf]) (fun w' _ => ?_)⟩
          · intro v hv
            obtain ⟨b, _, rfl⟩ := List.mem_map.1 hv
            rfl
          · rw [hlen]
            have hext : s.extract 0 s.size = s := by
              apply ByteArray.ext
              rw [ByteArray.data_extract]
              have : s.size = s.data.size := rfl
              rw [this]
              simp
            simp only [Builtin.firstCells, hext, Sem.run_pure]
            congr 1
            apply Array.toList_inj.1
            simp
      · cases ha
    · cases ha
end
end
end Go.Proofs.YteaacjabcfopgaaGreat.Am
