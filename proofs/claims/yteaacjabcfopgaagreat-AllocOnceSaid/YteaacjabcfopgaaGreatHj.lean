/-
  Begin, and a map that is opened behind it.
-/
import Derived.Test.YteaacjabcfopgaaGreatHg
import Derived.Test.YteaacjabcfopgaaGreatHi
set_option linter.unusedVariables false
set_option linter.unusedSimpArgs false
namespace Go.Proofs.YteaacjabcfopgaaGreat.Run
open Go Go.Proofs.YteaacjabcfopgaaGreat.Am Go.Proofs.YteaacjabcfopgaaGreat.Am.G Go.RowKit Go.Proofs Go.Proofs.YteaacjabcfopgaaGreat.PQ
set_option maxRecDepth 100000
theorem m8_id {x : Nat → Nat} (hx : Oct8 x) : m8 x = x := funext fun i => Nat.mod_eq_of_lt (hx i)
def BeginPost (w : World) (e : Ending) (w' : World) : Prop := ∃ (Φ : Phi) (pJ : PB) (db dof : Nat), e = .returned (.pointer (some ⟨db, dof, none⟩)) ∧ At w Φ HB0 w' ∧ Φ 6300 = some pJ ∧ (∀ i, 6533 ≤ i → Φ i = none) ∧ ∀ w2, At w Φ HB0 w2 → w2.cell? ⟨db, dof + 2, none⟩ = some (.pointer (some (pJ.addr 0)))
theorem begin_at (w : World) : Calls Tryz.prog 7 #[.int .i64 14] w (BeginPost w) := by
  refine (begin_calls w).mono fun e w' hh => ?_
  obtain ⟨ψ, v', _, rfl, hv, hR⟩ := hh
  have eH : H0 = HB0 := by kernel_rfl
  rw [eH] at hR
  cases hv with
  | ptr hp =>
  rename_i p
  have hl : HB0.load 6532 2 1 = some [.ptr 6300 0] := by kernel_rfl
  obtain ⟨vs, v1, v2, v3, v4, v5⟩ := hR.load hl hp
  cases v2 with
  | cons a1 a2 =>
  cases a1 with
  | ptr hJ =>
  rename_i pJ
  refine ⟨ψ, pJ, p.blk, p.sh + 0, rfl, ⟨ψ, Phi.le_refl _, hR.rebase (Phi.le_refl _)⟩, hJ, fun i hi => (hR.fresh i hi).1, fun w2 hA => ?_⟩
  obtain ⟨φ, hle, hR2⟩ := hA
  obtain ⟨us, u1, u2, u3, u4, u5⟩ := hR2.load hl (hle _ _ hp)
  cases u2 with
  | cons b1 b2 =>
  cases b1 with
  | ptr hJ2 =>
  rename_i p2
  have := hle _ _ hJ
  rw [this] at hJ2
  cases hJ2
  have h0 := u4 0 (by decide)
  exact h0
theorem At.adopt {w0 : World} {Φ : Phi} {h : H} {w : World} (hA : At w0 Φ h w) {b : Blk} {o : Obj} {N : Nat} (hb : ∀ φ', Φ.le φ' → RB φ' ⟨w.heap.size, 0, N⟩ b o) :
    ∃ Φ', Φ.le Φ' ∧ Φ' h.next = some ⟨w.heap.size, 0, N⟩ ∧ (∀ i, h.next + 1 ≤ i → Φ' i = none) ∧ At w0 Φ' (h.new b) (w.alloc o) := by
  obtain ⟨φ, hle, hR⟩ := hA
  have hle2 : φ.le (φ.add h.next ⟨w.heap.size, 0, N⟩) := Phi.le_add hR.none_at
  have hn := hR.new (b := b) (o := o) (p := ⟨w.heap.size, 0, N⟩) rfl (hb _ (Phi.le_trans hle hle2))
  refine ⟨φ.add h.next ⟨w.heap.size, 0, N⟩, Phi.le_trans hle hle2, Phi.add_at _ _ _, fun i hi => (hn.fresh i hi).1, _, Phi.le_refl _, hn.rebase (Phi.le_refl _)⟩
theorem At.leave {w0 : World} {Φ : Phi} {h : H} {w : World} (hA : At w0 Φ h w) (b : Blk) : At w0 Φ (h.new b) w := by
  obtain ⟨φ, hle, hR⟩ := hA
  exact ⟨φ, hle, RH.keep hR b (fun x hx => by cases hx)⟩
noncomputable def bmOf (first k : Int) : Blk := .cells 3 (T.ofList [.ptr 6300 0, .int .i64 first, .int .i64 k]) false
theorem bm_rb {φ : Phi} {pJ : PB} {b : Nat} {first k : Int} (hJ : φ 6300 = some pJ) : RB φ ⟨b, 0, 3⟩ (bmOf first k) (.cells #[.pointer (some (pJ.addr 0)), .int .i64 first, .int .i64 k] 69) := by
  refine ⟨_, _, 0, 0, rfl, rfl, Nat.le_refl 3, fun i hi => by omega, fun _ => rfl, fun i av hg hi => ?_⟩
  have hg' := T.get_ofList hg
  match i, hi with
  | 0, _ => cases hg'; exact ⟨_, rfl, .ptr hJ, rfl⟩
  | 1, _ => cases hg'; exact ⟨_, rfl, .int _ _, rfl⟩
  | 2, _ => cases hg'; exact ⟨_, rfl, .int _ _, rfl⟩
theorem mapAt_of {w0 : World} {Φ : Phi} {pJ : PB} {h : H} {id mb : Nat} {first k : Int} (hg : h.h.get id = some (bmOf first k)) (hJ : Φ 6300 = some pJ) (hM : Φ id = some ⟨mb, 0, 3⟩) : MapAt w0 Φ h mb (.pointer (some (pJ.addr 0))) first k := by
  intro w hA
  obtain ⟨φ, hle, hR⟩ := hA
  have hl : h.load id 0 3 = some [.ptr 6300 0, .int .i64 first, .int .i64 k] := by
    unfold H.load
    rw [hg]
    rfl
  obtain ⟨vs, v1, v2, v3, v4, v5⟩ := hR.load hl (hle _ _ hM)
  cases v2 with
  | cons a1 a2 =>
  cases a2 with
  | cons a2 a3 =>
  cases a3 with
  | cons a3 a4 =>
  cases a4
  cases a2
  cases a3
  cases a1 with
  | ptr hJ2 =>
  have := hle _ _ hJ
  rw [this] at hJ2
  cases hJ2
  exact ⟨v4 0 (by decide), v4 1 (by decide), v4 2 (by decide), (hR.own _ _ (hle _ _ hM)).2⟩
theorem okBm (n : Nat) (hn : 6300 < n) (first k : Int) : OkB n (bmOf first k) := .cells fun i av g => by
  have g' := T.get_ofList g
  match i with
  | 0 => cases g'; exact Nat.ble_eq_true_of_le hn
  | 1 => cases g'; rfl
  | 2 => cases g'; rfl
  | i + 3 => simp at g'
end Go.Proofs.YteaacjabcfopgaaGreat.Run
