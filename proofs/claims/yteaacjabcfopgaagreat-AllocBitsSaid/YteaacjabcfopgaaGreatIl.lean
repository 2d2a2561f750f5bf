/-
  A call of both, and the states between.
-/
import Derived.Test.YteaacjabcfopgaaGreatId
import Derived.Test.YteaacjabcfopgaaGreatIj
import Derived.StillTailTactics
set_option linter.unusedVariables false
set_option linter.unusedSimpArgs false
section
set_option linter.unusedVariables false
set_option linter.unusedSimpArgs false
namespace Go.Proofs.YteaacjabcfopgaaGreat.Run
open Go Go.Proofs.YteaacjabcfopgaaGreat.Am Go.Proofs.YteaacjabcfopgaaGreat.Am.G Go.RowKit Go.Proofs Go.Proofs.YteaacjabcfopgaaGreat.PQ Go.Proofs.YteaacjabcfopgaaGreatW.PrintWords Go.Proofs.YteaacjabcfopgaaGreatW.PrintLast Go.Proofs.YteaacjabcfopgaaGreatW.PrintMore
def RetT (S : World → Prop) (e : Ending) (w' : World) : Prop := e = .returned (.bool true) ∧ S w'
theorem below_box (w : World) (o : Obj) : Below w.heap.size w (w.alloc o) := below_alloc (Below.refl _ _) o
set_option maxHeartbeats 4000000 in
set_option maxRecDepth 100000 in
theorem does_take {mv : Value} {xb tb k : Nat} {S : (Nat → Bool) → World → Prop} (hS : RefAt xb tb k S) (hk : k ≤ 4096) (u : Nat → Bool) (w : World) (r : Nat) (hr : r < k) (h1 : u r = false) (h2 : ∀ j, j < r → u j = true) (n : Int) (h : ∀ w', Below w.heap.size w w' → Calls Tryz.prog 10 #[mv] w' (Ret2 (S u) r 0)) :
    Calls Tryz.prog 16 #[mv, .pointer (some ⟨xb, 0, none⟩), .agg #[.int .i64 1, .int .i64 n, .slice none 0 0]] w (RetT (S (updT u r true))) := by
  have hb := below_box w (.cells #[.int .i64 1, .int .i64 n, .slice none 0 0] 52)
  go_enter Tryz.func16, Tryz.ntmps16
  go_wp2_with (first
    | (go_at_call 10; refine (h _ (by first | exact hb | exact below_drew1 hb)).mono ?_; rintro e w1 hh; obtain ⟨rfl, hA⟩ := hh)
    | (go_at_call 31; refine (ref_take hS hk u _ r hr h1 h2 hA).mono ?_; rintro e w2 hh; obtain ⟨rfl, hB⟩ := hh))
  go_ret
  exact ⟨rfl, hB⟩
set_option maxHeartbeats 4000000 in
set_option maxRecDepth 100000 in
theorem does_full {mv : Value} {xb tb k : Nat} {S : (Nat → Bool) → World → Prop} (hS : RefAt xb tb k S) (hk : k ≤ 4096) (u : Nat → Bool) (w : World) (h2 : ∀ j, j < k → u j = true) (n : Int) (h : ∀ w', Below w.heap.size w w' → Calls Tryz.prog 10 #[mv] w' (Ret2 (S u) 0 27)) :
    Calls Tryz.prog 16 #[mv, .pointer (some ⟨xb, 0, none⟩), .agg #[.int .i64 1, .int .i64 n, .slice none 0 0]] w (RetT (S u)) := by
  have hb := below_box w (.cells #[.int .i64 1, .int .i64 n, .slice none 0 0] 52)
  go_enter Tryz.func16, Tryz.ntmps16
  go_wp2_with (first
    | (go_at_call 10; refine (h _ (by first | exact hb | exact below_drew1 hb)).mono ?_; rintro e w1 hh; obtain ⟨rfl, hA⟩ := hh)
    | (go_at_call 31; refine (ref_full hS hk u _ h2 hA).mono ?_; rintro e w2 hh; obtain ⟨rfl, hB⟩ := hh))
  go_ret
  exact ⟨rfl, hB⟩
structure BoxAt (xb tb k ob : Nat) (n : Int) (S : (Nat → Bool) → World → Prop) : Prop where
  ref : RefAt xb tb k S
  cell : ∀ u w, S u w → w.cell? ⟨ob, 0, none⟩ = some (.int .i64 2) ∧ w.cell? ⟨ob, 1, none⟩ = some (.int .i64 n) ∧ ob < w.heap.size
theorem ref_give_t {xb tb k : Nat} {S : (Nat → Bool) → World → Prop} (hS : RefAt xb tb k S) (hk : k ≤ 4096) (u : Nat → Bool) (w : World) (i : Nat) (hi : i < k) (hu : u i = true) (h : S u w) :
    Calls Tryz.prog 32 #[.pointer (some ⟨xb, 0, none⟩), .int .i64 (i : Int)] w (Ret1 (S (updT u i false)) 0) := by
  refine (ref_give hS hk u w i hi h).mono ?_
  rintro e w' hh
  rw [hu, if_pos rfl, if_pos rfl] at hh
  exact hh
theorem ref_give_f {xb tb k : Nat} {S : (Nat → Bool) → World → Prop} (hS : RefAt xb tb k S) (hk : k ≤ 4096) (u : Nat → Bool) (w : World) (i : Nat) (hi : i < k) (hu : u i = false) (h : S u w) :
    Calls Tryz.prog 32 #[.pointer (some ⟨xb, 0, none⟩), .int .i64 (i : Int)] w (Ret1 (S u) 9) := by
  refine (ref_give hS hk u w i hi h).mono ?_
  rintro e w' hh
  rw [hu, if_neg (by decide), if_neg (by decide)] at hh
  exact hh
set_option maxHeartbeats 4000000 in
set_option maxRecDepth 100000 in
theorem does_give_t {mv : Value} {xb tb k : Nat} {S1 S2 : (Nat → Bool) → World → Prop} (hk : k ≤ 4096) (u : Nat → Bool) (w : World) (i : Nat) (hi : i < k) (hu : u i = true)
    (hS1 : BoxAt xb tb k w.heap.size (i : Int) S1) (hS2 : BoxAt xb tb k w.heap.size (i : Int) S2) (hbox : S1 u (w.alloc (boxO (i : Int)))) (h : ∀ w', S1 u w' → Calls Tryz.prog 11 #[mv, .int .i64 (i : Nat)] w' (Ret1 (S2 u) 0)) :
    Calls Tryz.prog 16 #[mv, .pointer (some ⟨xb, 0, none⟩), .agg #[.int .i64 2, .int .i64 (i : Nat), .slice none 0 0]] w (RetT (S2 (updT u i false))) := by
  unfold boxO at hbox
  have HU := Aside0.mk hu
  clear hu
  go_enter Tryz.func16, Tryz.ntmps16
  go_wp2
  generalize w.alloc (.cells #[.int .i64 2, .int .i64 (i : Int), .slice none 0 0] 52) = w1 at hbox ⊢
  generalize w.heap.size = ob at hS1 hS2 ⊢
  obtain ⟨c0, c1, c2⟩ := hS1.cell u w1 hbox
  go_region_with (first
    | (go_at_call 11; refine (h _ (by first | exact hbox | exact hS1.ref.below u _ _ hbox (Drawn0.below ⟨⟨1, rfl⟩⟩) | exact hS1.ref.below u _ _ hbox (Drawn0.below ⟨⟨_, rfl⟩⟩))).mono ?_; rintro e w2 hh; obtain ⟨rfl, hA⟩ := hh; obtain ⟨d0, d1, d2⟩ := hS2.cell u w2 hA)
    | (go_at_call 32; refine (ref_give_t hS2.ref hk u _ i hi HU.out (by first | exact hA | exact hS2.ref.below u _ _ hA (Drawn0.below ⟨⟨_, rfl⟩⟩))).mono ?_; rintro e w3 hh; obtain ⟨rfl, hB⟩ := hh))
  all_goals
    go_wp2
    go_ret
    exact ⟨rfl, hB⟩
set_option maxHeartbeats 4000000 in
set_option maxRecDepth 100000 in
theorem does_give_f {mv : Value} {xb tb k : Nat} {S1 S2 : (Nat → Bool) → World → Prop} (hk : k ≤ 4096) (u : Nat → Bool) (w : World) (i : Nat) (hi : i < k) (hu : u i = false)
    (hS1 : BoxAt xb tb k w.heap.size (i : Int) S1) (hS2 : BoxAt xb tb k w.heap.size (i : Int) S2) (hbox : S1 u (w.alloc (boxO (i : Int)))) (h : ∀ w', S1 u w' → Calls Tryz.prog 11 #[mv, .int .i64 (i : Nat)] w' (Ret1 (S2 u) 9)) :
    Calls Tryz.prog 16 #[mv, .pointer (some ⟨xb, 0, none⟩), .agg #[.int .i64 2, .int .i64 (i : Nat), .slice none 0 0]] w (RetT (S2 u)) := by
  unfold boxO at hbox
  have HU := Aside0.mk hu
  clear hu
  go_enter Tryz.func16, Tryz.ntmps16
  go_wp2
  generalize w.alloc (.cells #[.int .i64 2, .int .i64 (i : Int), .slice none 0 0] 52) = w1 at hbox ⊢
  generalize w.heap.size = ob at hS1 hS2 ⊢
  obtain ⟨c0, c1, c2⟩ := hS1.cell u w1 hbox
  go_region_with (first
    | (go_at_call 11; refine (h _ (by first | exact hbox | exact hS1.ref.below u _ _ hbox (Drawn0.below ⟨⟨1, rfl⟩⟩) | exact hS1.ref.below u _ _ hbox (Drawn0.below ⟨⟨_, rfl⟩⟩))).mono ?_; rintro e w2 hh; obtain ⟨rfl, hA⟩ := hh; obtain ⟨d0, d1, d2⟩ := hS2.cell u w2 hA)
    | (go_at_call 32; refine (ref_give_f hS2.ref hk u _ i hi HU.out (by first | exact hA | exact hS2.ref.below u _ _ hA (Drawn0.below ⟨⟨_, rfl⟩⟩))).mono ?_; rintro e w3 hh; obtain ⟨rfl, hB⟩ := hh))
  all_goals
    go_wp2
    go_ret
    exact ⟨rfl, hB⟩
end Go.Proofs.YteaacjabcfopgaaGreat.Run
end
section
set_option linter.unusedVariables false
set_option linter.unusedSimpArgs false
namespace Go.Proofs.YteaacjabcfopgaaGreat.Run
open Go Go.Proofs.YteaacjabcfopgaaGreat.Am Go.Proofs.YteaacjabcfopgaaGreat.Am.G Go.RowKit Go.Proofs Go.Proofs.YteaacjabcfopgaaGreat.PQ Go.Proofs.YteaacjabcfopgaaGreatW.PrintWords Go.Proofs.YteaacjabcfopgaaGreatW.PrintLast Go.Proofs.YteaacjabcfopgaaGreatW.PrintMore
def xN (s odd n : Nat) : Nat → Nat := fun i => if s ≤ i ∧ i < n then odd else 0
theorem xN_start (s odd : Nat) : xN s odd s = fun _ => 0 := funext fun i => if_neg (by omega)
theorem xN_succ {s odd n : Nat} (h : s ≤ n) : updX (xN s odd n) n odd = xN s odd (n + 1) := funext fun i => by
  unfold updX xN
  by_cases e : i = n
  · rw [if_pos e, if_pos (by omega)]
  · rw [if_neg e]
    by_cases h2 : s ≤ i ∧ i < n
    · rw [if_pos h2, if_pos (by omega)]
    · rw [if_neg h2, if_neg (by omega)]
theorem xN_oct {s odd n : Nat} (h : odd < 256) : Oct8 (xN s odd n) := fun i => by
  unfold xN
  split <;> omega
set_option maxRecDepth 1000000
theorem K0_upd (x x' : Nat → Nat) : (K0 x).upd 6533 (rB x' false) = K0 x' := by kernel_rfl
theorem K0_get (x : Nat → Nat) : (K0 x).h.get 6533 = some (rB x false) := by kernel_rfl
theorem K0_load (x : Nat → Nat) : (K0 x).load 6532 2 1 = some [.ptr 6300 0] := by kernel_rfl
theorem HW_load (nb : Nat) (x : Nat → Nat) (a : Nat) (h1 : 1 ≤ nb) (h3 : nb ≤ 3) : (HW nb x a).load 6532 2 1 = some [.ptr 6300 0] := by
  rcases nb_cases h1 h3 with rfl | rfl | rfl <;> kernel_rfl
theorem HB0_next : HB0.next = 6533 := by kernel_rfl
theorem HB0_new (x : Nat → Nat) : HB0.new (rB x false) = K0 x := by kernel_rfl
def BeginD (w : World) (e : Ending) (w' : World) : Prop := ∃ (Φ : Phi) (pJ pD : PB) (db dof : Nat), e = .returned (.pointer (some ⟨db, dof, none⟩)) ∧ At w Φ HB0 w' ∧ Φ 6300 = some pJ ∧ Φ 6532 = some pD ∧ (∀ i, 6533 ≤ i → Φ i = none) ∧ (⟨pD.blk, pD.sh + 0 + 2, none⟩ : Addr) = ⟨db, dof + 2, none⟩
theorem begin_d (w : World) : Calls Tryz.prog 7 #[.int .i64 14] w (BeginD w) := by
  refine (begin_calls w).mono fun e w' hh => ?_
  obtain ⟨ψ, v', _, rfl, hv, hR⟩ := hh
  have eH : H0 = HB0 := by kernel_rfl
  rw [eH] at hR
  cases hv with
  | ptr hp =>
  rename_i p
  have hl : HB0.load 6532 2 1 = some [.ptr 6300 0] := by kernel_rfl
  obtain ⟨vs, v1, v2, v3, v4, v5⟩ := hR.load hl hp
  cases v2 with
  | cons a1 a2 =>
  cases a1 with
  | ptr hJ =>
  rename_i pJ
  exact ⟨ψ, pJ, p, p.blk, p.sh + 0, rfl, ⟨ψ, Phi.le_refl _, hR.rebase (Phi.le_refl _)⟩, hJ, hp, fun i hi => (hR.fresh i hi).1, rfl⟩
theorem info5 : (Tryz.prog.info? 5).map (fun i => (i.zero, i.size, i.bytes)) = some (some (.int .u8 0), 1, 1) := by kernel_rfl
theorem made_octets (k : Nat) : madeCells (Value.int .u8 0).cells (k * 1) = Array.replicate k (.int .u8 0) := by
  apply Array.ext
  · simp [madeCells]
  · intro i h1 h2
    have : (Value.int .u8 0).cells = #[.int .u8 0] := rfl
    simp [madeCells, this, Nat.mod_one]
theorem make_octets (w : World) : (Instr.makeSlice 42 (.int .i64 128) (.int .i64 128)).run Tryz.prog w = .ok (.slice (some ⟨w.heap.size, 0, none⟩) 128 128) (w.alloc (.cells (Array.replicate 128 (.int .u8 0)) 5)) := by
  obtain ⟨i, hi, hz⟩ := Option.map_eq_some_iff.1 info5
  simp only [Prod.mk.injEq] at hz
  obtain ⟨z1, z2, z3⟩ := hz
  have := run_make (P := Tryz.prog) w 42 5 i (.int .u8 0) Tryz.underlying42 hi z1 .i64 .i64 (128 : Int) (128 : Int) (by omega) (Int.le_refl _) (by rw [z3]; omega) (by omega)
  rw [z2] at this
  have e : Int.toNat 128 = 128 := rfl
  simp only [e] at this
  rw [made_octets] at this
  exact this
theorem bools_cells {n0 : Nat} {w w' : World} {x : Nat → Nat} {v : Value} (hv : Kd.R Kd.bool 4 w' n0 (fun _ => True) v (bitsL x)) : ∃ g cap, v = .slice (some ⟨g, 0, none⟩) 1024 cap ∧ 1024 ≤ cap ∧ g < w'.heap.size ∧ ∀ j, j < 1024 → w'.cell? ⟨g, j, none⟩ = some (.bool (bit x j)) := by
  obtain ⟨_, inner, ⟨h1, h2⟩, h3, h4⟩ := hv
  have hl := bitsL_len x
  rcases h2 with ⟨rfl, h2⟩ | ⟨g, cap, cur, rfl, hg, hh, hn, hmax, hcs, htk⟩
  · omega
  · have hsz1 : Kd.bool.sz = 1 := rfl
    rw [hsz1] at h1 h3 hcs htk
    simp only [Nat.mul_one] at h1 h3 hn hcs htk
    refine ⟨g, cap, by rw [hl], by omega, (Array.getElem?_eq_some_iff.1 hh).1, fun j hj => ?_⟩
    have e4 : (inner.drop (j * 1)).take 1 = [Value.bool (bit x j)] := h4 j _ (bitsL_get x hj)
    have e6 : inner[j]? = some (Value.bool (bit x j)) := by
      have := congrArg (fun l => l[0]?) e4
      simpa using this
    have hil : j < inner.length := (List.getElem?_eq_some_iff.1 e6).1
    unfold World.cell?
    simp only [hh]
    show cur[j]? = _
    rw [← e6, ← htk, List.getElem?_take, ← Array.getElem?_toList]
    rw [if_pos (by omega)]
def InvT (nb n k : Nat) (x : Nat → Nat) (t u : Nat → Bool) : Prop := (nb = 1 ∨ ∀ j, n ≤ j → j < 1024 → t j = false) ∧ (∀ j, j < k → u j = t j) ∧ (∀ j, k ≤ j → t j = tOf nb x j)
theorem InvT.take {nb n k r : Nat} {x : Nat → Nat} {t u : Nat → Bool} (h : InvT nb n k x t u) (hr : r < k) (hn : n < 1024) (h3 : ∀ j, j < r → t j = true) : InvT nb (n + 1) k x (updT t r true) (updT u r true) := by
  obtain ⟨h1, h2, h4⟩ := h
  refine ⟨h1.imp id fun h j hj1 hj2 => ?_, fun j hj => ?_, fun j hj => ?_⟩
  · have hrn : r ≤ n := by
      by_cases e : r ≤ n
      · exact e
      · have := h3 n (by omega)
        rw [h n (Nat.le_refl _) hn] at this
        cases this
    unfold updT
    rw [if_neg (by omega), h j (by omega) hj2]
  · unfold updT
    rw [h2 j hj]
  · unfold updT
    rw [if_neg (by omega), h4 j hj]
theorem InvT.next {nb n k : Nat} {x : Nat → Nat} {t u : Nat → Bool} (h : InvT nb n k x t u) : InvT nb (n + 1) k x t u :=
  ⟨h.1.imp id fun h j hj1 hj2 => h j (by omega) hj2, h.2.1, h.2.2⟩
theorem InvT.give {nb n k i : Nat} {x : Nat → Nat} {t u : Nat → Bool} (h : InvT nb n k x t u) (hi : i < k) : InvT nb (n + 1) k x (if t i then updT t i false else t) (if u i then updT u i false else u) := by
  rw [h.2.1 i hi]
  cases ht : t i with
  | false => exact h.next
  | true =>
    obtain ⟨h1, h2, h4⟩ := h
    refine ⟨h1.imp id fun h j hj1 hj2 => ?_, fun j hj => ?_, fun j hj => ?_⟩
    · show updT t i false j = false
      unfold updT
      split
      · rfl
      · exact h j (by omega) hj2
    · show updT u i false j = updT t i false j
      unfold updT
      rw [h2 j hj]
    · show updT t i false j = _
      unfold updT
      rw [if_neg (by omega), h4 j hj]
theorem InvT.small {nb n k r : Nat} {x : Nat → Nat} {t u : Nat → Bool} (h : InvT nb n k x t u) (hn : n < 1024) (hk : k ≤ 1024 * nb) (hr : r < k) (h3 : ∀ j, j < r → t j = true) : r < 1024 := by
  rcases h.1 with h1 | h1
  · subst h1; omega
  · by_cases e : r ≤ n
    · omega
    · have := h3 n (by omega)
      rw [h1 n (Nat.le_refl _) hn] at this
      cases this
theorem InvT.one {nb n k : Nat} {x : Nat → Nat} {t u : Nat → Bool} (h : InvT nb n k x t u) (hn : n < 1024) (hnb : 1 ≤ nb) (hk : 1024 * (nb - 1) < k) (hk2 : k ≤ 1024 * nb) (h3 : ∀ j, j < k → t j = true) : k ≤ 1024 := by
  rcases h.1 with h1 | h1
  · subst h1; omega
  · by_cases e : k ≤ 1024
    · exact e
    · have := h3 n (by omega)
      rw [h1 n (Nat.le_refl _) hn] at this
      cases this
section
variable {w0 : World} {mv jv : Value} {da : Addr} {a k nb xb tb wb : Nat} {x : Nat → Nat} {A S : (Nat → Bool) → (Nat → Bool) → World → Prop} {R : Nat → (Nat → Bool) → (Nat → Bool) → World → Prop} {SB : Nat → Int → (Nat → Bool) → (Nat → Bool) → World → Prop}
def St (A S : (Nat → Bool) → (Nat → Bool) → World → Prop) (n : Nat) (t u : Nat → Bool) (w : World) : Prop := if n = 0 then A t u w else S t u w
theorem St.zero {t u : Nat → Bool} {w : World} (h : A t u w) : St A S 0 t u w := h
theorem St.succ {n : Nat} {t u : Nat → Bool} {w : World} (h : S t u w) : St A S (n + 1) t u w := by unfold St; rw [if_neg (by omega)]; exact h
theorem St.ref (hK : BitsK w0 mv jv da a k nb xb tb wb x A S R SB) (n : Nat) (t : Nat → Bool) : RefAt xb tb k (St A S n t) := by
  unfold St
  by_cases h : n = 0
  · simp only [if_pos h]; exact hK.refA t
  · simp only [if_neg h]; exact hK.refS t
theorem St.read (hK : BitsK w0 mv jv da a k nb xb tb wb x A S R SB) {n : Nat} {t u : Nat → Bool} {w : World} (h : St A S n t u w) : R 0 t u w := by
  unfold St at h
  split at h
  · exact hK.rdA t u w h
  · exact hK.rdS t u w h
def DoesPost (A S : (Nat → Bool) → (Nat → Bool) → World → Prop) (nb n k : Nat) (x : Nat → Nat) (e : Ending) (w' : World) : Prop := e = .returned (.bool true) ∧ ∃ t u, InvT nb (n + 1) k x t u ∧ St A S (n + 1) t u w'
theorem does_even (hK : BitsK w0 mv jv da a k nb xb tb wb x A S R SB) (hk : k ≤ 4096) (hn1 : 1 ≤ nb) (hk1 : 1024 * (nb - 1) < k) (hk2 : k ≤ 1024 * nb) {n : Nat} (hn : n < 1024) {t u : Nat → Bool} {w : World} (hI : InvT nb n k x t u) (h : St A S n t u w) (z : Int) :
    Calls Tryz.prog 16 #[mv, .pointer (some ⟨xb, 0, none⟩), .agg #[.int .i64 1, .int .i64 z, .slice none 0 0]] w (DoesPost A S nb n k x) := by
  have hb := (St.ref hK n t).below u w
  rcases first_free t k with hall | ⟨r, hr1, hr2, hr3⟩
  · have h1 := hI.one hn hn1 hk1 hk2 hall
    refine (does_full (S := S t) (hK.refS t) hk u w (fun j hj => (hI.2.1 j hj).trans (hall j hj)) z fun w' hB => ?_).mono ?_
    · have h' := hb w' h hB
      unfold St at h'
      split at h'
      · exact hK.fullA t u w' h' h1 hall
      · exact hK.fullS t u w' h' h1 hall
    · rintro e w' ⟨he, hS⟩
      exact ⟨he, t, u, hI.next, St.succ hS⟩
  · have h1 := hI.small hn hk2 hr1 hr3
    refine (does_take (S := S (updT t r true)) (hK.refS _) hk u w r hr1 ((hI.2.1 r hr1).trans hr2) (fun j hj => (hI.2.1 j (by omega)).trans (hr3 j hj)) z fun w' hB => ?_).mono ?_
    · have h' := hb w' h hB
      unfold St at h'
      split at h'
      · exact hK.takeA t u w' r h' hr1 h1 hr2 hr3
      · exact hK.takeS t u w' r h' hr1 h1 hr2 hr3
    · rintro e w' ⟨he, hS⟩
      exact ⟨he, _, _, hI.take hr1 hn hr3, St.succ hS⟩
theorem does_odd (hK : BitsK w0 mv jv da a k nb xb tb wb x A S R SB) (hk : k ≤ 4096) {n : Nat} (hn0 : n ≠ 0) {t u : Nat → Bool} {w : World} (hI : InvT nb n k x t u) (h : St A S n t u w) (i : Nat) (hi : i < k) :
    Calls Tryz.prog 16 #[mv, .pointer (some ⟨xb, 0, none⟩), .agg #[.int .i64 2, .int .i64 (i : Nat), .slice none 0 0]] w (DoesPost A S nb n k x) := by
  unfold St at h
  rw [if_neg hn0] at h
  have hui := hI.2.1 i hi
  have hg := hI.give hi
  cases ht : t i with
  | true =>
    rw [ht] at hui
    rw [ht, hui, if_pos rfl, if_pos rfl] at hg
    refine (does_give_t (S1 := SB w.heap.size (i : Int) t) (S2 := SB w.heap.size (i : Int) (updT t i false)) hk u w i hi hui ⟨hK.refB _ _ _, hK.cellB _ _ _⟩ ⟨hK.refB _ _ _, hK.cellB _ _ _⟩ (hK.box t u w _ h) fun w' h' => hK.give _ _ t u w' i h' hi ht).mono ?_
    rintro e w' ⟨he, hS⟩
    exact ⟨he, _, _, hg, St.succ (hK.unbox _ _ _ _ _ hS)⟩
  | false =>
    rw [ht] at hui
    rw [ht, hui, if_neg (by decide), if_neg (by decide)] at hg
    refine (does_give_f (S1 := SB w.heap.size (i : Int) t) (S2 := SB w.heap.size (i : Int) t) hk u w i hi hui ⟨hK.refB _ _ _, hK.cellB _ _ _⟩ ⟨hK.refB _ _ _, hK.cellB _ _ _⟩ (hK.box t u w _ h) fun w' h' => hK.giveF _ _ t u w' i h' hi ht).mono ?_
    rintro e w' ⟨he, hS⟩
    exact ⟨he, _, _, hg, St.succ (hK.unbox _ _ _ _ _ hS)⟩
end
end Go.Proofs.YteaacjabcfopgaaGreat.Run
end
