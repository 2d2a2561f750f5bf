/-
  A map of things, by which of them are taken: one block of bits, or two.
-/
import Derived.Test.YteaacjabcfopgaaGreatHf
import Derived.Test.YteaacjabcfopgaaGreatHh
set_option linter.unusedVariables false
set_option linter.unusedSimpArgs false
namespace Go.Proofs.YteaacjabcfopgaaGreat.Run
open Go Go.Proofs.YteaacjabcfopgaaGreat.Am Go.Proofs.YteaacjabcfopgaaGreat.Am.G Go.RowKit Go.Proofs Go.Proofs.YteaacjabcfopgaaGreat.PQ
def updT (t : Nat → Bool) (i : Nat) (b : Bool) : Nat → Bool := fun j => if j = i then b else t j
def cntT (t : Nat → Bool) : Nat → Nat
  | 0 => 0
  | n + 1 => (if t n then 1 else 0) + cntT t n
def Ret2 (S : World → Prop) (n z : Int) (e : Ending) (w' : World) : Prop := e = .returned (.tuple #[.int .i64 n, .int .i64 z]) ∧ S w'
def Ret1 (S : World → Prop) (z : Int) (e : Ending) (w' : World) : Prop := e = .returned (.int .i64 z) ∧ S w'
structure Ops (mv : Value) (k : Nat) (S : (Nat → Bool) → World → Prop) : Prop where
  take : ∀ t w r, S t w → r < k → t r = false → (∀ j, j < r → t j = true) → Calls Tryz.prog 10 #[mv] w (Ret2 (S (updT t r true)) r 0)
  full : ∀ t w, S t w → (∀ j, j < k → t j = true) → Calls Tryz.prog 10 #[mv] w (Ret2 (S t) 0 27)
  give : ∀ t w i, S t w → i < k → t i = true → Calls Tryz.prog 11 #[mv, .int .i64 (i : Nat)] w (Ret1 (S (updT t i false)) 0)
  giveF : ∀ t w i, S t w → i < k → t i = false → Calls Tryz.prog 11 #[mv, .int .i64 (i : Nat)] w (Ret1 (S t) 9)
  giveO : ∀ t w (i : Int), S t w → (i < 0 ∨ (k : Int) ≤ i) → Calls Tryz.prog 11 #[mv, .int .i64 i] w (Ret1 (S t) 1)
  free : ∀ t w, S t w → Calls Tryz.prog 19 #[mv] w (Ret2 (S t) ((k : Int) - (cntT t k : Nat)) 0)
  below : ∀ t w w', S t w → Below w.heap.size w w' → S t w'
theorem cnt_snoc (x : Nat → Nat) : ∀ (n i : Nat), cnt x i (n + 1) = cnt x i n + (if bit x (i + n) then 1 else 0)
  | 0, i => by rw [cnt_succ]; show (if bit x i = true then 1 else 0) + 0 = 0 + _; rw [Nat.add_zero, Nat.zero_add, Nat.add_zero]
  | n + 1, i => by
    rw [cnt_succ, cnt_snoc x n (i + 1), cnt_succ]
    have : i + 1 + n = i + (n + 1) := by omega
    rw [this]
    omega
theorem cnt_T (x : Nat → Nat) (t : Nat → Bool) : ∀ n, (∀ j, j < n → bit x j = t j) → cnt x 0 n = cntT t n
  | 0, _ => rfl
  | n + 1, h => by
    rw [cnt_snoc, cnt_T x t n (fun j hj => h j (by omega)), Nat.zero_add, h n (by omega)]
    show _ = (if t n = true then 1 else 0) + cntT t n
    omega
theorem minB0 (k : Nat) : minB (k : Int) 0 = ((min k 1024 : Nat) : Int) := by unfold minB; split <;> omega
theorem minB1 (k : Nat) (h : 1024 < k) (h2 : k ≤ 2048) : minB (k : Int) 1 = ((k - 1024 : Nat) : Int) := by unfold minB; split <;> omega
section
variable {w0 : World} {Φ : Phi} {jv : Value} {first : Int} {k mb : Nat}
def S1 (w0 : World) (Φ : Phi) (B : (Nat → Nat) → H) (k : Nat) (t : Nat → Bool) (w : World) : Prop := ∃ x, Oct8 x ∧ (∀ j, j < k → bit x j = t j) ∧ At w0 Φ (B x) w
theorem bit_upd {x : Nat → Nat} (hx : Oct8 x) {t : Nat → Bool} {n : Nat} (h : ∀ j, j < n → bit x j = t j) (i : Nat) (b : Bool) : ∀ j, j < n → bit (wb x i b) j = updT t i b j := fun j hj => by
  rw [bit_wb hx]
  unfold updT
  rw [h j hj]
theorem ops1 {B : (Nat → Nat) → H} (hr : ∀ x, Reads w0 Φ jv (B x) first x (B x)) (hw : ∀ x y, Oct8 y → Writes w0 Φ jv (B x) first y (B y)) (hm : ∀ x, MapAt w0 Φ (B x) mb jv first k)
    (hf : 0 ≤ first) (hf2 : first ≤ 10) (hk : 1 ≤ k) (hk2 : k ≤ 1024) : Ops (.pointer (some ⟨mb, 0, none⟩)) k (S1 w0 Φ B k) := by
  have hnb : alloc_Blocks.f (k : Int) = some 1 := blocks_f (by omega) (by omega) (by omega) (by omega)
  have hmn : min k 1024 = k := by omega
  have q0 : ∀ i : Nat, i < k → first + (i : Int) / 1024 = first := fun i hi => by omega
  have r0 : ∀ i : Nat, i < k → (i : Int) % 1024 = (i : Int) := fun i hi => by omega
  refine ⟨?_, ?_, ?_, ?_, ?_, ?_, ?_⟩
  · intro t w r ⟨x, hx, hb, hA⟩ hr1 hr2 hr3
    refine (take_first (hr x) (hr x) (hw x (wb x r true) (wb_oct hx r true)) (hm x) (hm x) (hm x) (kf := 1025) (kk := 1) (r := (r : Int)) ?_ (with_f hx r (by omega) true) (by omega) (by omega) hf hf2 (by omega) (by omega) hnb (by omega) w hA).mono ?_
    · rw [minB0, hmn]
      exact free_f hx (by omega) hr1 (by rw [hb r hr1]; exact hr2) fun j hj => by rw [hb j (by omega)]; exact hr3 j hj
    · rintro e w' ⟨he, hA'⟩
      exact ⟨he, _, wb_oct hx r true, bit_upd hx hb r true, hA'⟩
  · intro t w ⟨x, hx, hb, hA⟩ hall
    refine (take_none1 (hr x) (hm x) (hm x) (kf := 1025) ?_ hf hf2 (by omega) (by omega) hnb w hA).mono ?_
    · rw [minB0, hmn]
      exact full_f hx hk2 fun j hj => by rw [hb j hj]; exact hall j hj
    · rintro e w' ⟨he, hA'⟩
      exact ⟨he, x, hx, hb, hA'⟩
  · intro t w i ⟨x, hx, hb, hA⟩ hi ht
    refine (give_calls (h1 := B x) (h2 := B x) (h3 := B (wb x i false)) (x := x) (y := wb x i false) (kk := 1) (by rw [q0 i hi]; exact hr x) (by rw [q0 i hi]; exact hr x) (by rw [q0 i hi]; exact hw x _ (wb_oct hx i false)) (hm x) (hm x) (hm x) (by rw [r0 i hi, has_f hx i (by omega), hb i hi, ht]) (by rw [r0 i hi]; exact with_f hx i (by omega) false) (by omega) (by omega) hf hf2 (by omega) w hA).mono ?_
    rintro e w' ⟨he, hA'⟩
    exact ⟨he, _, wb_oct hx i false, bit_upd hx hb i false, hA'⟩
  · intro t w i ⟨x, hx, hb, hA⟩ hi ht
    refine (give_free (h1 := B x) (x := x) (by rw [q0 i hi]; exact hr x) (hm x) (hm x) (by rw [r0 i hi, has_f hx i (by omega), hb i hi, ht]) (by omega) (by omega) hf hf2 (by omega) w hA).mono ?_
    rintro e w' ⟨he, hA'⟩
    exact ⟨he, x, hx, hb, hA'⟩
  · intro t w i ⟨x, hx, hb, hA⟩ hi
    refine (give_out (hm x) hi w hA).mono ?_
    rintro e w' ⟨he, hA'⟩
    exact ⟨he, x, hx, hb, hA'⟩
  · intro t w ⟨x, hx, hb, hA⟩
    have hc := cnt_le x k 0
    refine (free1 (hr x) (hm x) (hm x) (n := (k : Int)) (c0 := ((cnt x 0 k : Nat) : Int)) (kf := 1025) (by rw [minB0, hmn]) (count_f hx hk2) (by omega) (by omega) (by omega) (by omega) hf hf2 (by omega) (by omega) hnb w hA).mono ?_
    rintro e w' ⟨he, hA'⟩
    rw [cnt_T x t k hb] at he
    exact ⟨he, x, hx, hb, hA'⟩
  · intro t w w' ⟨x, hx, hb, hA⟩ hB
    exact ⟨x, hx, hb, hA.below hB⟩
def S2 (w0 : World) (Φ : Phi) (D : (Nat → Nat) → (Nat → Nat) → H) (k : Nat) (t : Nat → Bool) (w : World) : Prop := ∃ x y, Oct8 x ∧ Oct8 y ∧ (∀ j, j < 1024 → bit x j = t j) ∧ (∀ j, j < k - 1024 → bit y j = t (1024 + j)) ∧ At w0 Φ (D x y) w
theorem cntT_succ (t : Nat → Bool) (n : Nat) : cntT t (n + 1) = (if t n then 1 else 0) + cntT t n := rfl
theorem cntT_split (t : Nat → Bool) (m : Nat) : ∀ n, cntT t (m + n) = cntT t m + cntT (fun j => t (m + j)) n
  | 0 => rfl
  | n + 1 => by
    rw [← Nat.add_assoc, cntT_succ, cntT_succ, cntT_split t m n]
    omega
set_option maxRecDepth 100000 in
theorem ops2 {D : (Nat → Nat) → (Nat → Nat) → H} (hr : ∀ x y, Reads w0 Φ jv (D x y) first x (D x y)) (hr2 : ∀ x y, Reads w0 Φ jv (D x y) (first + 1) y (D x y)) (hw : ∀ x y z, Oct8 z → Writes w0 Φ jv (D x y) first z (D z y)) (hw2 : ∀ x y z, Oct8 z → Writes w0 Φ jv (D x y) (first + 1) z (D x z)) (hm : ∀ x y, MapAt w0 Φ (D x y) mb jv first k)
    (hf : 0 ≤ first) (hf2 : first ≤ 10) (hk : 1024 < k) (hk2 : k ≤ 2048) : Ops (.pointer (some ⟨mb, 0, none⟩)) k (S2 w0 Φ D k) := by
  have hnb : alloc_Blocks.f (k : Int) = some 2 := blocks_f (by omega) (by omega) (by omega) (by omega)
  have hmn : min k 1024 = 1024 := by omega
  have q0 : ∀ i : Nat, i < 1024 → first + (i : Int) / 1024 = first := fun i hi => by omega
  have r0 : ∀ i : Nat, i < 1024 → (i : Int) % 1024 = (i : Int) := fun i hi => by omega
  have q1 : ∀ i : Nat, i < 1024 → first + ((1024 + i : Nat) : Int) / 1024 = first + 1 := fun i hi => by omega
  have r1 : ∀ i : Nat, i < 1024 → ((1024 + i : Nat) : Int) % 1024 = (i : Int) := fun i hi => by omega
  have u0 : ∀ (t : Nat → Bool) (x y : Nat → Nat) (i : Nat) (b : Bool), Oct8 x → i < 1024 → (∀ j, j < 1024 → bit x j = t j) → (∀ j, j < k - 1024 → bit y j = t (1024 + j)) → (∀ j, j < 1024 → bit (wb x i b) j = updT t i b j) ∧ (∀ j, j < k - 1024 → bit y j = updT t i b (1024 + j)) := fun t x y i b hx hi h1 h2 =>
    ⟨bit_upd hx h1 i b, fun j hj => by rw [h2 j hj]; unfold updT; rw [if_neg (by omega)]⟩
  have u1 : ∀ (t : Nat → Bool) (x y : Nat → Nat) (i : Nat) (b : Bool), Oct8 y → i < 1024 → (∀ j, j < 1024 → bit x j = t j) → (∀ j, j < k - 1024 → bit y j = t (1024 + j)) → (∀ j, j < 1024 → bit x j = updT t (1024 + i) b j) ∧ (∀ j, j < k - 1024 → bit (wb y i b) j = updT t (1024 + i) b (1024 + j)) := fun t x y i b hy hi h1 h2 =>
    ⟨fun j hj => by rw [h1 j hj]; unfold updT; rw [if_neg (by omega)], fun j hj => by
      rw [bit_wb hy, h2 j hj]; unfold updT
      by_cases e : j = i
      · rw [if_pos e, if_pos (by omega)]
      · rw [if_neg e, if_neg (by omega)]⟩
  refine ⟨?_, ?_, ?_, ?_, ?_, ?_, ?_⟩
  · intro t w r ⟨x, y, hx, hy, hb, hd, hA⟩ hr1 hr2_ hr3
    by_cases h1 : r < 1024
    · refine (take_first (hr x y) (hr x y) (hw x y (wb x r true) (wb_oct hx r true)) (hm x y) (hm x y) (hm x y) (kf := 1025) (kk := 1) (r := (r : Int)) ?_ (with_f hx r (by omega) true) (by omega) (by omega) hf hf2 (by omega) (by omega) hnb (by omega) w hA).mono ?_
      · rw [minB0, hmn]
        exact free_f hx (by omega) h1 (by rw [hb r h1]; exact hr2_) fun j hj => by rw [hb j (by omega)]; exact hr3 j hj
      · rintro e w' ⟨he, hA'⟩
        obtain ⟨a, b⟩ := u0 t x y r true hx h1 hb hd
        exact ⟨he, _, _, wb_oct hx r true, hy, a, b, hA'⟩
    · obtain ⟨q, rfl⟩ : ∃ q, r = 1024 + q := ⟨r - 1024, by omega⟩
      have hq : q < k - 1024 := by omega
      refine (take_second (hr x y) (hr2 x y) (hr2 x y) (hw2 x y (wb y q true) (wb_oct hy q true)) (hm x y) (hm x y) (hm x y) (hm x y) (kf := 1025) (kf2 := 1025) (kk := 1) (r := (q : Int)) ?_ ?_ (with_f hy q (by omega) true) (by omega) (by omega) hf hf2 (by omega) (by omega) hnb w hA).mono ?_
      · rw [minB0, hmn]
        exact full_f hx (by omega) fun j hj => by rw [hb j hj]; exact hr3 j (by omega)
      · rw [minB1 k hk hk2]
        exact free_f hy (by omega) hq (by rw [hd q hq]; exact hr2_) fun j hj => by rw [hd j (by omega)]; exact hr3 _ (by omega)
      · rintro e w' ⟨he, hA'⟩
        obtain ⟨a, b⟩ := u1 t x y q true hy (by omega) hb hd
        have e1 : (1024 : Int) + (q : Int) = ((1024 + q : Nat) : Int) := by omega
        rw [e1] at he
        exact ⟨he, _, _, hx, wb_oct hy q true, a, b, hA'⟩
  · intro t w ⟨x, y, hx, hy, hb, hd, hA⟩ hall
    refine (take_none2 (hr x y) (hr2 x y) (hm x y) (hm x y) (hm x y) (kf := 1025) (kf2 := 1025) ?_ ?_ hf hf2 (by omega) (by omega) hnb w hA).mono ?_
    · rw [minB0, hmn]
      exact full_f hx (by omega) fun j hj => by rw [hb j hj]; exact hall j (by omega)
    · rw [minB1 k hk hk2]
      exact full_f hy (by omega) fun j hj => by rw [hd j hj]; exact hall _ (by omega)
    · rintro e w' ⟨he, hA'⟩
      exact ⟨he, x, y, hx, hy, hb, hd, hA'⟩
  · intro t w i ⟨x, y, hx, hy, hb, hd, hA⟩ hi ht
    by_cases h1 : i < 1024
    · refine (give_calls (h1 := D x y) (h2 := D x y) (h3 := D (wb x i false) y) (x := x) (y := wb x i false) (kk := 1) (by rw [q0 i h1]; exact hr x y) (by rw [q0 i h1]; exact hr x y) (by rw [q0 i h1]; exact hw x y _ (wb_oct hx i false)) (hm x y) (hm x y) (hm x y) (by rw [r0 i h1, has_f hx i h1, hb i h1, ht]) (by rw [r0 i h1]; exact with_f hx i h1 false) (by omega) (by omega) hf hf2 (by omega) w hA).mono ?_
      rintro e w' ⟨he, hA'⟩
      obtain ⟨a, b⟩ := u0 t x y i false hx h1 hb hd
      exact ⟨he, _, _, wb_oct hx i false, hy, a, b, hA'⟩
    · obtain ⟨q, rfl⟩ : ∃ q, i = 1024 + q := ⟨i - 1024, by omega⟩
      have hq : q < k - 1024 := by omega
      refine (give_calls (h1 := D x y) (h2 := D x y) (h3 := D x (wb y q false)) (x := y) (y := wb y q false) (kk := 1) (by rw [q1 q (by omega)]; exact hr2 x y) (by rw [q1 q (by omega)]; exact hr2 x y) (by rw [q1 q (by omega)]; exact hw2 x y _ (wb_oct hy q false)) (hm x y) (hm x y) (hm x y) (by rw [r1 q (by omega), has_f hy q (by omega), hd q hq, ht]) (by rw [r1 q (by omega)]; exact with_f hy q (by omega) false) (by omega) (by omega) hf hf2 (by omega) w hA).mono ?_
      rintro e w' ⟨he, hA'⟩
      obtain ⟨a, b⟩ := u1 t x y q false hy (by omega) hb hd
      exact ⟨he, _, _, hx, wb_oct hy q false, a, b, hA'⟩
  · intro t w i ⟨x, y, hx, hy, hb, hd, hA⟩ hi ht
    by_cases h1 : i < 1024
    · refine (give_free (h1 := D x y) (x := x) (by rw [q0 i h1]; exact hr x y) (hm x y) (hm x y) (by rw [r0 i h1, has_f hx i h1, hb i h1, ht]) (by omega) (by omega) hf hf2 (by omega) w hA).mono ?_
      rintro e w' ⟨he, hA'⟩
      exact ⟨he, x, y, hx, hy, hb, hd, hA'⟩
    · obtain ⟨q, rfl⟩ : ∃ q, i = 1024 + q := ⟨i - 1024, by omega⟩
      have hq : q < k - 1024 := by omega
      refine (give_free (h1 := D x y) (x := y) (by rw [q1 q (by omega)]; exact hr2 x y) (hm x y) (hm x y) (by rw [r1 q (by omega), has_f hy q (by omega), hd q hq, ht]) (by omega) (by omega) hf hf2 (by omega) w hA).mono ?_
      rintro e w' ⟨he, hA'⟩
      exact ⟨he, x, y, hx, hy, hb, hd, hA'⟩
  · intro t w i ⟨x, y, hx, hy, hb, hd, hA⟩ hi
    refine (give_out (hm x y) hi w hA).mono ?_
    rintro e w' ⟨he, hA'⟩
    exact ⟨he, x, y, hx, hy, hb, hd, hA'⟩
  · intro t w ⟨x, y, hx, hy, hb, hd, hA⟩
    have hc := cnt_le x 1024 0
    have hc2 := cnt_le y (k - 1024) 0
    refine (free2 (hr x y) (hr2 x y) (hm x y) (hm x y) (hm x y) (n := ((1024 : Nat) : Int)) (n2 := ((k - 1024 : Nat) : Int)) (c0 := ((cnt x 0 1024 : Nat) : Int)) (c1 := ((cnt y 0 (k - 1024) : Nat) : Int)) (kf := 1025) (kf2 := 1025) (by rw [minB0, hmn]) (minB1 k hk hk2) (count_f hx (by omega)) (count_f hy (by omega)) (by omega) (by omega) (by omega) (by omega) (by omega) (by omega) (by omega) (by omega) hf hf2 (by omega) (by omega) hnb w hA).mono ?_
    rintro e w' ⟨he, hA'⟩
    have h3 : cntT t k = cnt x 0 1024 + cnt y 0 (k - 1024) := by
      rw [cnt_T x t 1024 hb, cnt_T y (fun j => t (1024 + j)) (k - 1024) hd, ← cntT_split]
      have hk' : 1024 + (k - 1024) = k := by omega
      rw [hk']
    have h4 : ((1024 : Nat) : Int) - ((cnt x 0 1024 : Nat) : Int) + (((k - 1024 : Nat) : Int) - ((cnt y 0 (k - 1024) : Nat) : Int)) = (k : Int) - ((cntT t k : Nat) : Int) := by rw [h3]; omega
    rw [h4] at he
    exact ⟨he, x, y, hx, hy, hb, hd, hA'⟩
  · intro t w w' ⟨x, y, hx, hy, hb, hd, hA⟩ hB
    exact ⟨x, y, hx, hy, hb, hd, hA.below hB⟩
end
end Go.Proofs.YteaacjabcfopgaaGreat.Run
