/-
  The statement InodeBack of package inode: the Go function ashlarlaw13.InodeBack returns true for every input, its arguments as they were. Conditions: none beyond the row's own.
-/
import Derived.Test.YtjgjcfeifhaanaaGreatRows
import Derived.Test.YtjgjcfeifhaanaaGreatSr5
import Derived.Lib.SmallJoins
import Derived.WalkKit
import Derived.ProofKit
import Derived.OpenShut
import Derived.ShutString
import Derived.ChangeOld
import Derived.Below
import Derived.SizedLaws
import Derived.Test.YtjgjcfeifhaanaaGreatW
set_option linter.unusedVariables false
namespace Go.Proofs.YtjgjcfeifhaanaaGreat.inodeBack
open Go.ChangeShapes Go.WideShapes Go.ChangeAt Go.RowKit
open Go.ChangeMaps (open_string shut_string)
open Go.Proofs.YtjgjcfeifhaanaaGreatW.PrintWords
theorem own : ownKnob Tryz.prog.godebug = none := by kernel_rfl
theorem laidOut : laidOutB Tryz.prog = true := by kernel_rfl
def IsRow (k : IntKind) (w : World) (a : Option Addr) (len cap : Nat) (zs : List Int) : Prop :=
  (a = none ∧ len = 0 ∧ cap = 0 ∧ zs = []) ∨
  ∃ x, a = some x ∧ len ≤ cap ∧ cap ≤ maxLen ∧ zs.length = cap ∧ (∀ i, i < zs.length → w.cell? (x.add i) = some (.int k (zs.getD i 0))) ∧ ∀ n ∈ zs, (Lit.int k n).wf = true
set_option maxRecDepth 100000 in
theorem inode_open {H : Type} {enc : TypeId × Value → H} {w : World} {base : Nat} {spare : Nat → Bool} {held : Bool} {fuel : Nat} {cs : List Value} {x : DataW H × List MemPlace} (h : DataW.trod enc Tryz.prog w base spare held fuel 24 cs = some x) :
    ∃ m0 m1 m2 m3 m4 m5 m6 m7 m8 m9 m10 m11 m12 : Int, cs = [.int .i64 m0, .int .i64 m1, .int .i64 m2, .int .i64 m3, .int .i64 m4, .int .i64 m5, .int .i64 m6, .int .i64 m7, .int .i64 m8, .int .i64 m9, .int .i64 m10, .int .i64 m11, .int .i64 m12] ∧ PQ.fits13 m0 m1 m2 m3 m4 m5 m6 m7 m8 m9 m10 m11 m12 = true := by
  obtain ⟨xs, m, rfl, rfl, hl, hn, hf⟩ := DataW.trod_struct Tryz.underlying24 h
  have hl : cs.length = 13 := hl.trans (by kernel_rfl)
  have one : ∀ {c : Value} {y : Option (DataW H × List MemPlace)} {k : Nat}, DataW.trod enc Tryz.prog w base spare held k 3 [c] = y → y ≠ none → ∃ n : Int, c = .int .i64 n ∧ PQ.fits n = true := by
    intro c y k h hy
    cases y with
    | none => exact absurd rfl hy
    | some y =>
    obtain ⟨n, h1, _, h2⟩ := DataW.trod_int Tryz.underlying3 h
    simp only [List.cons.injEq, and_true] at h1
    refine ⟨n, h1, ?_⟩
    have h3 := bounds_i64 h2
    exact PQ.fits_of (by omega) (by omega)
  have c3 : Tryz.prog.cellsOf 3 = 1 := by kernel_rfl
  have c22 : Tryz.prog.cellsOf 22 = 8 := by kernel_rfl
  match cs, hl with
  | [c0, c1, c2, q3, c4, c5, c6, c7, c8, c9, c10, c11, c12], _ =>
  have hn6 : xs.length = 6 := hn
  clear hn
  match xs, hn6 with
  | [z0, z1, z2, z3, z4, z5], _ =>
  have f0 : DataW.trod enc Tryz.prog w base spare held m 3 (([c0, c1, c2, q3, c4, c5, c6, c7, c8, c9, c10, c11, c12].drop 0).take (Tryz.prog.cellsOf 3)) = some z0 := hf 0 _ rfl
  have f1 : DataW.trod enc Tryz.prog w base spare held m 3 (([c0, c1, c2, q3, c4, c5, c6, c7, c8, c9, c10, c11, c12].drop 1).take (Tryz.prog.cellsOf 3)) = some z1 := hf 1 _ rfl
  have f2 : DataW.trod enc Tryz.prog w base spare held m 3 (([c0, c1, c2, q3, c4, c5, c6, c7, c8, c9, c10, c11, c12].drop 2).take (Tryz.prog.cellsOf 3)) = some z2 := hf 2 _ rfl
  have f3 : DataW.trod enc Tryz.prog w base spare held m 22 (([c0, c1, c2, q3, c4, c5, c6, c7, c8, c9, c10, c11, c12].drop 3).take (Tryz.prog.cellsOf 22)) = some z3 := hf 3 _ rfl
  have f4 : DataW.trod enc Tryz.prog w base spare held m 3 (([c0, c1, c2, q3, c4, c5, c6, c7, c8, c9, c10, c11, c12].drop 11).take (Tryz.prog.cellsOf 3)) = some z4 := hf 4 _ rfl
  have f5 : DataW.trod enc Tryz.prog w base spare held m 3 (([c0, c1, c2, q3, c4, c5, c6, c7, c8, c9, c10, c11, c12].drop 12).take (Tryz.prog.cellsOf 3)) = some z5 := hf 5 _ rfl
  rw [c3] at f0 f1 f2 f4 f5
  rw [c22] at f3
  obtain ⟨b0, rfl, g0⟩ := one f0 (by simp)
  obtain ⟨b1, rfl, g1⟩ := one f1 (by simp)
  obtain ⟨b2, rfl, g2⟩ := one f2 (by simp)
  obtain ⟨b11, rfl, g11⟩ := one f4 (by simp)
  obtain ⟨b12, rfl, g12⟩ := one f5 (by simp)
  obtain ⟨ys, k, rfl, _, _, hy, he⟩ := DataW.trod_array Tryz.underlying22 f3
  match ys, hy with
  | [u0, u1, u2, u3, u4, u5, u6, u7], _ =>
  have e0 := he 0 (by decide)
  rw [c3] at e0
  obtain ⟨b3, rfl, g3⟩ := one e0 (by simp)
  have e1 := he 1 (by decide)
  rw [c3] at e1
  obtain ⟨b4, rfl, g4⟩ := one e1 (by simp)
  have e2 := he 2 (by decide)
  rw [c3] at e2
  obtain ⟨b5, rfl, g5⟩ := one e2 (by simp)
  have e3 := he 3 (by decide)
  rw [c3] at e3
  obtain ⟨b6, rfl, g6⟩ := one e3 (by simp)
  have e4 := he 4 (by decide)
  rw [c3] at e4
  obtain ⟨b7, rfl, g7⟩ := one e4 (by simp)
  have e5 := he 5 (by decide)
  rw [c3] at e5
  obtain ⟨b8, rfl, g8⟩ := one e5 (by simp)
  have e6 := he 6 (by decide)
  rw [c3] at e6
  obtain ⟨b9, rfl, g9⟩ := one e6 (by simp)
  have e7 := he 7 (by decide)
  rw [c3] at e7
  obtain ⟨b10, rfl, g10⟩ := one e7 (by simp)
  refine ⟨b0, b1, b2, b3, b4, b5, b6, b7, b8, b9, b10, b11, b12, rfl, ?_⟩
  unfold PQ.fits13
  simp only [g0, g1, g2, g3, g4, g5, g6, g7, g8, g9, g10, g11, g12, Bool.and_self]
set_option maxRecDepth 100000 in
theorem lifted (os : Os) (started : os.Started) (H : Type) (enc : TypeId × Value → H) :
    ReturnsInHanded {} Tryz.checked os 4 .any (Rows.inodeBackSpec.pre6 enc Tryz.prog Tryz.f4 Rows.inodeBackRow.domain false) (Rows.inodeBackSpec.post enc Tryz.prog Tryz.f4 false true false false) := by
  refine returnsInHanded_of_change_sized (C := Tryz.checked) own started (by kernel_rfl) Tryz.func4
    (ChangeSpec.witness6 (enc := enc) (C := Tryz.checked) false ⟨#[], #[.agg #[.int .i64 0, .int .i64 0, .int .i64 0, .int .i64 0, .int .i64 0, .int .i64 0, .int .i64 0, .int .i64 0, .int .i64 0, .int .i64 0, .int .i64 0, .int .i64 0, .int .i64 0], .slice none 0 0], []⟩ 8 (by kernel_rfl) (by kernel_rfl) (by kernel_rfl) (by kernel_rfl)) ?_
  intro W base args ds gs before hval0 hW hcnd hsz0 _
  have hsz : (DataW.weightsEach Tryz.prog (Tryz.f4.params.toList ++ Rows.inodeBackSpec.plain.varTypes Tryz.prog) (ds ++ gs)).all (· ≤ reachBytes) = true := hsz0
  have hval : ∀ (j : Nat) t v, Tryz.f4.params[j]? = some t → args[j]? = some v → Value.okWide Tryz.prog W .any base t v := hval0
  have hW' := hW
  obtain ⟨p, q, hA0, hV, rfl, hfz, hnd⟩ := hW
  have hA : DataW.TrodAll enc Tryz.prog W 0 (fun _ => true) true Tryz.f4.params.toList args.toList ds p := hA0
  rw [Tryz.params4] at hA hval hsz
  obtain ⟨v0, vs0, d0, ds0, p0, q0, hargs, rfl, rfl, h0, r0⟩ := trodAll_cons hA
  obtain ⟨v1, vs1, d1, ds1, p1, q1, rfl, rfl, rfl, h1, r1⟩ := trodAll_cons r0
  obtain ⟨rfl, rfl, rfl⟩ := trodAll_nil r1
  obtain rfl : args = #[v0, v1] := by cases args; simp_all
  obtain ⟨rfl, rfl⟩ := trodVars_none hV
  have k0 := h0
  have lt0 : ∀ x ∈ p0, x.block < W.heap.size := by obtain ⟨m, hm⟩ := k0; exact DataW.trod_lt m _ _ _ hm
  obtain ⟨vs, rfl, _⟩ := okWide_struct Tryz.underlying24 (hval 0 24 v0 rfl rfl)
  obtain ⟨fu, hfu⟩ := h0
  obtain ⟨m0, m1, m2, m3, m4, m5, m6, m7, m8, m9, m10, m11, m12, hvs, hfit⟩ := inode_open hfu
  obtain rfl : vs = #[.int .i64 m0, .int .i64 m1, .int .i64 m2, .int .i64 m3, .int .i64 m4, .int .i64 m5, .int .i64 m6, .int .i64 m7, .int .i64 m8, .int .i64 m9, .int .i64 m10, .int .i64 m11, .int .i64 m12] := by
    obtain ⟨l⟩ := vs
    simp only [Value.cells] at hvs
    rw [hvs]
  obtain ⟨a1, len1, cap1, rfl⟩ := okWide_slice Tryz.underlying25 (hval 1 25 v1 rfl rfl)
  have k1 := h1
  have lt1 : ∀ x ∈ p1, x.block < W.heap.size := by obtain ⟨m, hm⟩ := k1; exact DataW.trod_lt m _ _ _ hm
  obtain ⟨z1, w1⟩ : ∃ zs, IsRow .u8 W a1 len1 cap1 zs := by
    obtain ⟨fuel, hf⟩ := h1
    rcases open_ints Tryz.underlying25 Tryz.underlying5 (by kernel_rfl) hf with ⟨hcs, _⟩ | ⟨x, l, c, zs, hcs, _, hl, hm, hz, _, hcell, hwz⟩
    · simp [Value.cells] at hcs
      obtain ⟨rfl, rfl, rfl⟩ := hcs
      exact ⟨[], .inl ⟨rfl, rfl, rfl, rfl⟩⟩
    · simp [Value.cells] at hcs
      obtain ⟨rfl, rfl, rfl⟩ := hcs
      exact ⟨zs, .inr ⟨_, rfl, hl, hm, by simpa using hz, hcell, hwz⟩⟩
  have b1 : len1 * 1 ≤ 140737488351232 := sized_ints hsz (j := 1) (t := 25) rfl rfl Tryz.underlying25 Tryz.underlying5 (by kernel_rfl) (by kernel_rfl) h1
  clear hA0 hval0 hsz0 hsz
  obtain ⟨l1, rfl, hr1, _, hw1, hc1⟩ := ReadsInt.ofRowC w1
  refine (PQ.inodeBack_walk m0 m1 m2 m3 m4 m5 m6 m7 m8 m9 m10 m11 m12 a1 cap1 l1 W hfit b1 hw1 (Kd.C_of_reads (d := (0 : Int)) (h1 := fun _ => rfl) hr1) hc1).mono fun e W' ⟨he, bel⟩ => ?_
  subst he
  exact ⟨_, rfl, _, _, _, [], _, [], hW', trodAll_mk1 (shut_bool Tryz.underlying4 _), (trodAll_cons_mk (Below.trod laidOut (by kernel_rfl) (of_decide_eq_true (by kernel_rfl)) k0 bel lt0) (trodAll_cons_mk (Below.trod laidOut (by kernel_rfl) (of_decide_eq_true (by kernel_rfl)) k1 bel lt1) trodAll_mk0)), rfl, bel.frame _, fun h => by cases h⟩
theorem over : Rows.inodeBackRow.holds Tryz.pinned (OpenSpec.ofChange Rows.inodeBackSpec) :=
  OpenClaim.holds_of_wide 4 Tryz.f4 rfl rfl rfl rfl rfl rfl rfl ⟨rfl, rfl, rfl, rfl, rfl⟩ rfl rfl rfl rfl rfl (by kernel_rfl) Tryz.func4 (by kernel_rfl)
    (of_decide_eq_true (by kernel_rfl)) (by unfold Func.isWrapper; first | (rw [if_pos (by decide +kernel)]; kernel_rfl) | (rw [if_neg (by decide +kernel)]; exact ⟨rfl, rfl⟩))
    (fun os started H enc _ => lifted os started H enc)
theorem proved : Rows.InodeBackSaid := over
end Go.Proofs.YtjgjcfeifhaanaaGreat.inodeBack
namespace Go.Proofs.YtjgjcfeifhaanaaGreat
/-- The row, under a short name, for the claim. -/
theorem inodeBack_holds : Rows.InodeBackSaid := inodeBack.proved
end Go.Proofs.YtjgjcfeifhaanaaGreat
