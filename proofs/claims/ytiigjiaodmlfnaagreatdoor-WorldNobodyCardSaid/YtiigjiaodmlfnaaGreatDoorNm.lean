/-
  The contract of path.Name: what it returns for every text.
-/
import Derived.Test.YtiigjiaodmlfnaaGreatDoorSpec
import Derived.Test.YtiigjiaodmlfnaaGreatDoorShelf
import Derived.WalkMore
import Derived.Scope
import Derived.Deep.QuietTactic
import Derived.BigQuiet
import Derived.WalkKit
import Derived.Laws.RangeString
import Derived.Laws.Runes
import Derived.Laws.RangeAny
import Derived.Deep.LoopGhost
import Derived.Shelf.Strings.IndexAnyAll
import Derived.Lib.Hide
import Derived.RangeFuncRecord
import Derived.RangeFuncKeeps
import Derived.Below
set_option linter.unusedVariables false
set_option linter.unusedSimpArgs false
section
namespace Go.Proofs.YtiigjiaodmlfnaaGreatDoor.PQ
open Go.RowKit
theorem below_drewN {B : Nat} {a w : World} (h : Below B a w) (n : Nat) : Below B a (w.drewN n) := ⟨h.os, h.tape, h.output, h.size, h.block⟩
theorem quiet_add_same {P : Program} {f : FuncId} {args : Array Value} {w : World} {a n : Nat} {v : Value}
    (h : Calls P f args (w.drewN (a + n)) fun e w' => e = .returned v ∧ w' = w.drewN (a + n)) :
    Calls P f args (w.drewN (a + n)) fun e w'' => e = .returned v ∧ ∃ m, w'' = w.drewN (a + m) :=
  h.mono fun _ _ ⟨he, hm⟩ => ⟨he, n, hm⟩
set_option maxRecDepth 100000 in
set_option maxHeartbeats 1000000 in
theorem indexRune_two (r : Int) (x y : UInt8) (h : 128 ≤ r) (hn : r ≠ 65533) (hv : Lib.validRune r = true) (he : Utf8.encode r = ⟨#[x, y]⟩) (hy : 128 ≤ y.toNat) (w : World) :
    Calls Tryz.prog 307 #[.string ⟨#[47, 0]⟩, .int .i32 r] w fun e w' => e = .returned (.int .i64 (-1)) ∧ Below w.heap.size w w' := by
  have h1 : decide (r < 128) = false := by simp; omega
  have h2 : (r == 65533) = false := by simp [hn]
  have hx1 : 1 < (⟨#[x, y]⟩ : ByteArray).size := by show 1 < 2; omega
  have h4 : ((((⟨#[47, 0]⟩ : ByteArray)[1]).toNat : Int) != (((⟨#[x, y]⟩ : ByteArray)[1]'hx1).toNat : Int)) = true := by
    rw [bne_iff_ne]
    show ((0 : Nat) : Int) ≠ (y.toNat : Int)
    omega
  go_enter Tryz.func307, Tryz.ntmps307
  go_wp2_with (go_at_call 328; refine (Tryz.utf8_ValidRune _ _).mono ?_; rintro e w' ⟨rfl, hw⟩; rw [hw])
  go_step3
  go_wp2_with fail
  go_loop [9] (fun i => i = .int .i64 1) (fun _ => 0)
  case atStart => rfl
  case round =>
    subst hrel
    go_wp2_with fail
    go_step3
    go_wp2_with fail
    go_quiet (fail)
    go_wp2_with fail
    have hw2 : IntKind.i64.wrap 2 = 2 := by decide
    go_quiet ((go_at_call 327; exact quiet_add_same (Tryz.strings_IndexByte _ _ _)))
    go_wp2
    simp (zetaDelta := true) only [Exit.inBlock, Exit.then, Exit.noGoto]
    go_ret
    exact ⟨rfl, below_drewN (Below.refl _ _) _⟩
set_option maxRecDepth 100000 in
set_option maxHeartbeats 1000000 in
theorem indexRune_more (r : Int) (h : 128 ≤ r) (hn : r ≠ 65533) (hv : Lib.validRune r = true) (n : Nat) (hn' : 3 ≤ n) (hn4 : n ≤ 4) (he : (Utf8.encode r).size = n) (w : World) :
    Calls Tryz.prog 307 #[.string ⟨#[47, 0]⟩, .int .i32 r] w fun e w' => e = .returned (.int .i64 (-1)) ∧ Below w.heap.size w w' := by
  have h1 : decide (r < 128) = false := by simp; omega
  have h2 : (r == 65533) = false := by simp [hn]
  go_enter Tryz.func307, Tryz.ntmps307
  go_wp2_with (go_at_call 328; refine (Tryz.utf8_ValidRune _ _).mono ?_; rintro e w' ⟨rfl, hw⟩; rw [hw])
  go_step3
  go_wp2_with fail
  go_loop [9] (fun i => i = .int .i64 (↑n - 1)) (fun _ => 0)
  case atStart => rfl
  case round =>
    subst hrel
    go_wp2_with fail
    go_ret
    exact ⟨rfl, Below.refl _ _⟩
set_option maxRecDepth 100000 in
set_option maxHeartbeats 1000000 in
theorem indexRune_err (w : World) :
    Calls Tryz.prog 307 #[.string ⟨#[47, 0]⟩, .int .i32 65533] w fun e w' => e = .returned (.int .i64 (-1)) ∧ Below w.heap.size w w' := by
  go_enter Tryz.func307, Tryz.ntmps307
  go_wp2_with fail
  go_loopw [] (fun w' => ∃ pos : Nat, pos ≤ 2 ∧ w' = w.iter ⟨#[47, 0]⟩ pos) (fun w' => 2 - w'.iterPos w.heap.size)
  case atStart => exact ⟨0, by omega, rfl⟩
  case round =>
    obtain ⟨pos, hp, rfl⟩ := hrel
    by_cases h0 : pos < 2
    · have hnx : ∀ ty, (Instr.next (.pointer (some ⟨w.heap.size, 0, none⟩)) true ty).run Tryz.prog (w.iter ⟨#[47, 0]⟩ pos) = _ := fun ty => run_next_any w ⟨#[47, 0]⟩ pos ty h0
      have hd : Utf8.decode ⟨#[47, 0]⟩ pos = (if pos = 0 then 47 else 0, 1) := by
        obtain rfl | rfl : pos = 0 ∨ pos = 1 := by omega
        · decide
        · decide
      rw [hd] at hnx
      obtain rfl | rfl : pos = 0 ∨ pos = 1 := by omega
      all_goals
        clear hd
        go_wp2
        go_roundw
        case rel => exact ⟨_, by omega, rfl⟩
        case measure => simp
    · obtain rfl : pos = 2 := by omega
      have hnx : ∀ ty, (Instr.next (.pointer (some ⟨w.heap.size, 0, none⟩)) true ty).run Tryz.prog (w.iter ⟨#[47, 0]⟩ 2) = _ := fun ty => run_next_end w ⟨#[47, 0]⟩ 2 ty h0
      go_wp2
      go_ret
      exact ⟨rfl, (Below.refl _ _).alloc (Nat.le_refl _) _⟩
end Go.Proofs.YtiigjiaodmlfnaaGreatDoor.PQ
end
section
namespace Go.Proofs.YtiigjiaodmlfnaaGreatDoor.PQ
open Go.RowKit
set_option maxRecDepth 100000 in
set_option maxHeartbeats 1000000 in
theorem indexRune_not (r : Int) (h : 128 ≤ r) (hn : r ≠ 65533) (hv : Lib.validRune r = false) (w : World) :
    Calls Tryz.prog 307 #[.string ⟨#[47, 0]⟩, .int .i32 r] w fun e w' => e = .returned (.int .i64 (-1)) ∧ Below w.heap.size w w' := by
  have h1 : decide (r < 128) = false := by simp; omega
  have h2 : (r == 65533) = false := by simp [hn]
  go_enter Tryz.func307, Tryz.ntmps307
  go_wp2_with (go_at_call 328; refine (Tryz.utf8_ValidRune _ _).mono ?_; rintro e w' ⟨rfl, hw⟩; rw [hw])
  go_ret
  exact ⟨rfl, Below.refl _ _⟩
def hit (r : Int) : Prop := r = 47 ∨ r = 0
theorem encode_two (r : Int) (h : 128 ≤ r) (h2 : r < 2048) : ∃ x y : UInt8, Utf8.encode r = ⟨#[x, y]⟩ ∧ 128 ≤ y.toNat := by
  have hv : Utf8.valid r = true := by simp [Utf8.valid]; omega
  refine ⟨UInt8.ofNat (0xC0 + r.toNat / 64), UInt8.ofNat (0x80 + r.toNat % 64), ?_, ?_⟩
  · unfold Utf8.encode
    simp only [hv, if_true]
    rw [if_neg (by omega), if_pos (by omega)]
  · rw [UInt8.toNat_ofNat']
    omega
theorem encode_more (r : Int) (h2 : 2048 ≤ r) (hv : Utf8.valid r = true) : ∃ n, (Utf8.encode r).size = n ∧ 3 ≤ n ∧ n ≤ 4 := by
  unfold Utf8.encode
  simp only [hv, if_true]
  rw [if_neg (by omega), if_neg (by omega)]
  split
  · exact ⟨3, rfl, by omega, by omega⟩
  · exact ⟨4, rfl, by omega, by omega⟩
theorem indexRune_any (r : Int) (h0 : 0 ≤ r) (w : World) :
    Calls Tryz.prog 307 #[.string ⟨#[47, 0]⟩, .int .i32 r] w fun e w' => ∃ z : Int, e = .returned (.int .i64 z) ∧ (0 ≤ z ↔ hit r) ∧ Below w.heap.size w w' := by
  have miss : 128 ≤ r → ∀ {e w'}, (e = Ending.returned (.int .i64 (-1)) ∧ Below w.heap.size w w') → ∃ z : Int, e = .returned (.int .i64 z) ∧ (0 ≤ z ↔ hit r) ∧ Below w.heap.size w w' :=
    fun h _ _ hh => ⟨-1, hh.1, ⟨fun h => absurd h (by decide), fun hh => by unfold hit at hh; omega⟩, hh.2⟩
  by_cases h1 : r < 128
  · refine (Tryz.strings_IndexRune_ascii _ r w h0 h1).mono ?_
    rintro e w' ⟨rfl, rfl⟩
    refine ⟨_, rfl, ?_, Below.refl _ _⟩
    obtain ⟨n, rfl⟩ := Int.eq_ofNat_of_zero_le h0
    unfold hit
    have : ∀ m : Nat, m < 128 → ((0 : Int) ≤ Lib.indexByte [47, 0] m.toUInt8 ↔ ((m : Int) = 47 ∨ (m : Int) = 0)) := by decide
    exact this n (by omega)
  · by_cases he : r = 65533
    · subst he
      exact (indexRune_err w).mono fun e w' => miss (by decide)
    · cases hv : Lib.validRune r with
      | false => exact (indexRune_not r (by omega) he hv w).mono fun e w' => miss (by omega)
      | true =>
        by_cases h2 : r < 2048
        · obtain ⟨x, y, hxy, hy⟩ := encode_two r (by omega) h2
          exact (indexRune_two r x y (by omega) he hv hxy hy w).mono fun e w' => miss (by omega)
        · obtain ⟨n, hn, h3, h4⟩ := encode_more r (by omega) (by simp only [Lib.validRune, decide_eq_true_eq] at hv; simp [Utf8.valid]; omega)
          exact (indexRune_more r (by omega) he hv n h3 h4 hn w).mono fun e w' => miss (by omega)
theorem zero373 : ∀ w, (zeroValue 373).run Tryz.prog w = .ok (.agg (Array.replicate 256 (.bool false))) w := (zero_of_info (show (Tryz.prog.info? 373).map (fun i => (i.zero, i.size)) = some (some (.agg (Array.replicate 256 (.bool false))), 256) by kernel_rfl)).1
theorem chars_ascii : ∀ (j : Nat) (b : UInt8), (⟨#[47, 0]⟩ : ByteArray).data.toList[j]? = some b → b.toNat < 128 := by
  intro j b h
  rcases j with _ | _ | j
  · simp at h; subst h; decide
  · simp at h; subst h; decide
  · simp at h
def clean (l : List UInt8) : Prop := 47 ∉ l ∧ 0 ∉ l
theorem size_ofBs (s : ByteArray) : (ofBs s).length = s.size := by unfold ofBs; rw [Array.length_toList]; rfl
theorem getElem_ofBs (s : ByteArray) (i : Nat) (h : i < s.size) : (ofBs s)[i]? = some (s[i]'h) := by
  unfold ofBs
  rw [Array.getElem?_toList]
  exact Array.getElem?_eq_getElem h
theorem clean_succ {l : List UInt8} {i : Nat} {x : UInt8} (h : clean (l.take i)) (hx : l[i]? = some x) (hc : ([47, 0] : List UInt8).contains x = false) : clean (l.take (i + 1)) := by
  simp only [List.contains_cons, List.contains_nil, Bool.or_false, Bool.or_eq_false_iff, beq_eq_false_iff_ne] at hc
  rw [List.take_add_one, hx]
  unfold clean at *
  simp only [Option.toList_some, List.mem_append, List.mem_singleton]
  exact ⟨fun hh => hh.elim h.1 (fun e => hc.1 e.symm), fun hh => hh.elim h.2 (fun e => hc.2 e.symm)⟩
theorem hit_at {l : List UInt8} {i : Nat} {x : UInt8} (hx : l[i]? = some x) (hc : ([47, 0] : List UInt8).contains x = true) : 47 ∈ l ∨ 0 ∈ l := by
  have hm := List.mem_of_getElem? hx
  simp only [List.contains_cons, List.contains_nil, Bool.or_false, Bool.or_eq_true, beq_iff_eq] at hc
  rcases hc with rfl | rfl
  · exact .inl hm
  · exact .inr hm
set_option maxRecDepth 1000000 in
set_option maxHeartbeats 2000000 in
theorem indexAny_long (s : ByteArray) (h8 : 8 < s.size) (hs : s.size ≤ 140737488351232) (w : World) :
    Calls Tryz.prog 274 #[.string s, .string ⟨#[47, 0]⟩] w fun e w' => ∃ z : Int, e = .returned (.int .i64 z) ∧ (0 ≤ z ↔ (47 ∈ ofBs s ∨ 0 ∈ ofBs s)) ∧ Below w.heap.size w w' := by
  have hM := Tryz.strings_makeASCIISet zero373 ⟨#[47, 0]⟩ w (by decide) chars_ascii
  obtain ⟨C, hC⟩ : ∃ C, Lib.setCells (⟨#[47, 0]⟩ : ByteArray).data.toList = C := ⟨_, rfl⟩
  have hsz : C.size = 256 := by rw [← hC]; exact Lib.setCells_size _
  have hC1 : C.all (·.oneCell') = true := by rw [← hC]; exact Lib.setCells_one _
  have hat : ∀ x : UInt8, C[x.toNat]? = some (.bool (([47, 0] : List UInt8).contains x)) := fun x => by rw [← hC]; exact Lib.setCells_at _ x
  rw [hC] at hM
  clear hC
  have hsc : (storeCells ⟨w.heap.size + 1, 0, none⟩ C.toList 0).run Tryz.prog ((w.alloc (.cells C 373)).alloc (.cells (Array.replicate 256 (.bool false)) 373)) = .ok () ((w.alloc (.cells C 373)).alloc (.cells C 373)) := by
    have := run_storeCells_new (P := Tryz.prog) (w.alloc (.cells C 373)) 373 (Array.replicate 256 (.bool false)) C (by rw [hsz]; kernel_rfl) (by rw [hsz, Array.size_replicate]) hC1
    simpa using this
  have HC := Lib.hid hat
  have HC1 := Lib.hid hC1
  have HS := Lib.hid hsz
  clear hat hC1 hsz
  have h8z : decide ((8 : Int) < (s.size : Int)) = true := decide_eq_true (by omega)
  go_enter Tryz.func274, Tryz.ntmps274
  go_wp2_with (first
    | (go_at_call 308; refine (Tryz.strings_shouldUseASCIISet _ _).mono ?_; rintro e w' ⟨rfl, hw⟩; rw [hw, h8z])
    | (go_at_call 309; refine hM.mono ?_; rintro e w' ⟨rfl, hw⟩; rw [hw]))
  have hz124 : Tryz.zeroCells373 = Array.replicate 256 (.bool false) := by kernel_rfl
  simp only [hz124, hsc]
  go_wp2
  clear hM hsc
  have hcell : ∀ x : UInt8, ((w.alloc (.cells C 373)).alloc (.cells C 373)).cell? ⟨w.heap.size + 1, x.toNat, none⟩ = some (.bool (([47, 0] : List UInt8).contains x)) := fun x => by
    rw [World.cell?_alloc_at _ _ _ _ (by simp), HC.out]
  have HK := Lib.hid hcell
  clear hcell
  have hB : Below w.heap.size w ((w.alloc (.cells C 373)).alloc (.cells C 373)) := ((Below.refl _ _).alloc (Nat.le_refl _) _).alloc (by simp) _
  have HB := Lib.hid hB
  clear hB
  go_loopg [8] s.size (fun g s8 wx => ∃ i : Nat, i + g = s.size ∧ s8 = .int .i64 i ∧ wx = ((w.alloc (.cells C 373)).alloc (.cells C 373)) ∧ Hid (clean ((ofBs s).take i)))
  case atStart => exact ⟨0, by omega, rfl, rfl, Lib.hid (by simp [clean])⟩
  case round =>
    obtain ⟨i, hig, rfl, rfl, HN⟩ := hrel
    cases gk with
    | zero =>
      obtain rfl : i = s.size := by omega
      have hiz : ¬ ((s.size : Int) < (s.size : Int)) := by omega
      go_wp2
      go_ret
      refine ⟨-1, rfl, ?_, HB.out⟩
      have h := HN.out
      rw [List.take_of_length_le (by rw [size_ofBs]; exact Nat.le_refl _)] at h
      exact ⟨fun h => absurd h (by decide), fun hh => hh.elim (fun m => absurd m h.1) (fun m => absurd m h.2)⟩
    | succ g =>
      have hi : i < s.size := by omega
      have hiz : (i : Int) < (s.size : Int) := by omega
      obtain ⟨x, hx⟩ : ∃ x : UInt8, s[i]'hi = x := ⟨_, rfl⟩
      have hxl : (ofBs s)[i]? = some x := by rw [← hx]; exact getElem_ofBs s i hi
      have Hx := Lib.hid hxl
      clear hxl
      have hcx := HK.out x
      cases hin : ([47, 0] : List UInt8).contains x <;> rw [hin] at hcx
      · have Hin := Lib.hid hin
        clear hin
        go_wp2_with (go_at_call 310; refine (Tryz.asciiSet_contains _ x _ _ hcx).mono ?_; rintro e w' ⟨rfl, hw⟩; rw [hw])
        go_roundg g
        case measure => omega
        case rel => exact ⟨i + 1, by omega, by first | rfl | simp, rfl, Lib.hid (clean_succ HN.out Hx.out Hin.out)⟩
      · have Hin := Lib.hid hin
        clear hin
        go_wp2_with (go_at_call 310; refine (Tryz.asciiSet_contains _ x _ _ hcx).mono ?_; rintro e w' ⟨rfl, hw⟩; rw [hw])
        go_ret
        exact ⟨(i : Int), rfl, ⟨fun _ => hit_at Hx.out Hin.out, fun _ => by omega⟩, HB.out⟩
theorem high_run (s : ByteArray) (pos : Nat) (h : pos < s.size) (ha : 128 ≤ (s[pos]'h).toNat) (k : Nat) (hk : k < (Utf8.decode s pos).2) : pos + k < s.size ∧ 128 ≤ (s.get! (pos + k)).toNat := by
  have h0 : s.get! pos = s[pos]'h := by
    show s.data[pos]! = s.data[pos]
    exact getElem!_pos s.data pos h
  obtain rfl | hk0 : k = 0 ∨ 0 < k := by omega
  · exact ⟨h, by rw [Nat.add_zero, h0]; exact ha⟩
  · unfold Utf8.decode at hk
    simp only [Nat.add_zero, Bool.and_eq_true, decide_eq_true_eq, beq_iff_eq] at hk
    split at hk
    · simp at hk; omega
    · split at hk
      · rename_i hc
        split at hk
        · simp at hk
          obtain rfl : k = 1 := by omega
          exact ⟨hc.2.1, by omega⟩
        · simp at hk; omega
      · split at hk
        · rename_i hc
          split at hk
          · simp at hk
            obtain rfl | rfl : k = 1 ∨ k = 2 := by omega
            · exact ⟨hc.1.2.1, by omega⟩
            · exact ⟨hc.2.1, by omega⟩
          · simp at hk; omega
        · split at hk
          · rename_i hc
            split at hk
            · simp at hk
              obtain rfl | rfl | rfl : k = 1 ∨ k = 2 ∨ k = 3 := by omega
              · exact ⟨hc.1.1.2.1, by omega⟩
              · exact ⟨hc.1.2.1, by omega⟩
              · exact ⟨hc.2.1, by omega⟩
            · simp at hk; omega
          · simp at hk; omega
theorem decode_tells (s : ByteArray) (pos : Nat) (h : pos < s.size) :
    1 ≤ (Utf8.decode s pos).2 ∧ (hit ((Utf8.decode s pos).1 : Int) ↔ ∃ j x, pos ≤ j ∧ j < pos + (Utf8.decode s pos).2 ∧ (ofBs s)[j]? = some x ∧ (x = 47 ∨ x = 0)) := by
  by_cases ha : (s[pos]'h).toNat < 128
  · rw [decode_ascii s pos h ha]
    refine ⟨Nat.le_refl _, ?_⟩
    constructor
    · intro hh
      refine ⟨pos, s[pos]'h, Nat.le_refl _, by simp, getElem_ofBs s pos h, ?_⟩
      rcases hh with hh | hh
      · exact .inl (UInt8.toNat_inj.1 (by simpa using Int.ofNat.inj hh))
      · exact .inr (UInt8.toNat_inj.1 (by simpa using Int.ofNat.inj hh))
    · rintro ⟨j, x, h1, h2, h3, h4⟩
      obtain rfl : j = pos := by simp at h2; omega
      rw [getElem_ofBs s j h] at h3
      cases h3
      rcases h4 with h4 | h4
      · left; rw [h4]; rfl
      · right; rw [h4]; rfl
  · have hh := decode_high s pos h (by omega)
    refine ⟨hh.2, ⟨fun hit => ?_, ?_⟩⟩
    · unfold PQ.hit at hit; omega
    · rintro ⟨j, x, h1, h2, h3, h4⟩
      obtain ⟨k, rfl⟩ : ∃ k, j = pos + k := ⟨j - pos, by omega⟩
      obtain ⟨h5, h6⟩ := high_run s pos h (by omega) k (by omega)
      rw [getElem_ofBs s (pos + k) h5] at h3
      have h7 : s.get! (pos + k) = s[pos + k]'h5 := by
        show s.data[pos + k]! = s.data[pos + k]
        exact getElem!_pos s.data (pos + k) h5
      cases h3
      rw [h7] at h6
      rcases h4 with h4 | h4 <;> rw [h4] at h6 <;> exact absurd h6 (by decide)
theorem clean_more {l : List UInt8} {i n : Nat} (h : clean (l.take i)) (hm : ∀ j x, i ≤ j → j < i + n → l[j]? = some x → ¬ (x = 47 ∨ x = 0)) : clean (l.take (i + n)) := by
  have key : ∀ y : UInt8, (y = 47 ∨ y = 0) → y ∉ l.take i → y ∉ l.take (i + n) := by
    intro y hy hn hmem
    obtain ⟨j, hj⟩ := List.mem_iff_getElem?.1 hmem
    by_cases hlt : j < i
    · apply hn
      rw [List.mem_iff_getElem?]
      refine ⟨j, ?_⟩
      rw [List.getElem?_take_of_lt hlt]
      by_cases h2 : j < i + n
      · rwa [List.getElem?_take_of_lt h2] at hj
      · omega
    · by_cases h2 : j < i + n
      · rw [List.getElem?_take_of_lt h2] at hj
        exact hm j y (by omega) h2 hj hy
      · rw [List.getElem?_take_eq_none (by omega)] at hj
        cases hj
  exact ⟨key 47 (.inl rfl) h.1, key 0 (.inr rfl) h.2⟩
theorem next_at (P : Program) (wx : World) (r : Nat) (s : ByteArray) (pos : Nat) (ty : TypeId) (hr : wx.heap[r]? = some (.stringIter s pos)) (h : pos < s.size) :
    (Instr.next (.pointer (some ⟨r, 0, none⟩)) true ty).run P wx =
      .ok (.tuple #[.bool true, .int .i64 pos, .int .i32 (Utf8.decode s pos).1]) (wx.putObj r (.stringIter s (pos + (Utf8.decode s pos).2))) := by
  simp only [Instr.next, getObj, setObj, Sem.run_bind, Sem.run, hr, Result.andThen, h, if_true]
  simp [goInt, World.putObj]
theorem next_done (P : Program) (wx : World) (r : Nat) (s : ByteArray) (pos : Nat) (ty : TypeId) (hr : wx.heap[r]? = some (.stringIter s pos)) (h : ¬ pos < s.size) :
    (Instr.next (.pointer (some ⟨r, 0, none⟩)) true ty).run P wx = .ok (.tuple #[.bool false]) wx := by
  simp only [Instr.next, getObj, setObj, Sem.run_bind, Sem.run, hr, Result.andThen, h, if_false]
  rfl
set_option maxRecDepth 1000000 in
set_option maxHeartbeats 2000000 in
theorem indexAny_short (s : ByteArray) (h8 : s.size ≤ 8) (w : World) :
    Calls Tryz.prog 274 #[.string s, .string ⟨#[47, 0]⟩] w fun e w' => ∃ z : Int, e = .returned (.int .i64 z) ∧ (0 ≤ z ↔ (47 ∈ ofBs s ∨ 0 ∈ ofBs s)) ∧ Below w.heap.size w w' := by
  have h8z : decide ((8 : Int) < (s.size : Int)) = false := decide_eq_false (by omega)
  go_enter Tryz.func274, Tryz.ntmps274
  go_wp2_with (go_at_call 308; refine (Tryz.strings_shouldUseASCIISet _ _).mono ?_; rintro e w' ⟨rfl, hw⟩; rw [hw, h8z])
  go_loopg [] (s.size) (fun g wx => ∃ pos : Nat, s.size ≤ pos + g ∧ wx.heap[w.heap.size]? = some (.stringIter s pos) ∧ Hid (Below w.heap.size w wx) ∧ Hid (clean ((ofBs s).take pos)))
  case atStart => exact ⟨0, by omega, World.alloc_heap_new w _, Lib.hid ((Below.refl _ _).alloc (Nat.le_refl _) _), Lib.hid (by simp [clean])⟩
  case round =>
    obtain ⟨pos, hpg, hr, HB, HN⟩ := hrel
    by_cases hp : pos < s.size
    · have hnx : ∀ ty, (Instr.next (.pointer (some ⟨w.heap.size, 0, none⟩)) true ty).run Tryz.prog wr = _ := fun ty => next_at Tryz.prog wr w.heap.size s pos ty hr hp
      obtain ⟨hw1, hwd⟩ := decode_tells s pos hp
      have Hd := Lib.hid hwd
      clear hwd
      have hlt : w.heap.size < wr.heap.size := (Array.getElem?_eq_some_iff.1 hr).1
      have hr2 : (wr.putObj w.heap.size (.stringIter s (pos + (Utf8.decode s pos).2))).heap[w.heap.size]? = some (.stringIter s (pos + (Utf8.decode s pos).2)) := World.putObj_heap_same hlt
      have HB2 : Hid (Below w.heap.size w (wr.putObj w.heap.size (.stringIter s (pos + (Utf8.decode s pos).2)))) :=
        Lib.hid (HB.out.trans ((Below.refl _ wr).grown (grownBy_putObj' wr _ _) (by omega) (fun k e => by cases e; exact Nat.le_refl _)))
      have hsz : (wr.putObj w.heap.size (.stringIter s (pos + (Utf8.decode s pos).2))).heap.size = wr.heap.size := by simp [World.putObj]
      have HR := Lib.hid hr2
      have HZ := Lib.hid hsz
      clear hr2 hsz
      go_wp2_with (go_at_call 307; refine (indexRune_any _ (by omega) _).mono ?_; rintro e w2 ⟨z, rfl, hz, hb⟩; have Hz := Lib.hid hz; have Hb := Lib.hid hb; clear hz hb)
      · have hz0 : 0 ≤ z := by assumption
        go_ret
        obtain ⟨j, x, h1, h2, h3, h4⟩ := Hd.out.1 (Hz.out.1 hz0)
        refine ⟨(pos : Int), rfl, ⟨fun _ => ?_, fun _ => by omega⟩, ?_⟩
        · have hm := List.mem_of_getElem? h3
          rcases h4 with rfl | rfl
          · exact .inl hm
          · exact .inr hm
        · exact HB2.out.trans (Hb.out.mono (by rw [HZ.out]; omega))
      · have hz0 : z < 0 := by assumption
        obtain ⟨g, rfl⟩ : ∃ g, gk = g + 1 := ⟨gk - 1, by omega⟩
        go_roundg g
        case measure => omega
        case rel =>
          refine ⟨pos + (Utf8.decode s pos).2, by omega, ?_, Lib.hid (HB2.out.trans (Hb.out.mono (by rw [HZ.out]; omega))), Lib.hid (clean_more HN.out fun j x h1 h2 h3 h4 => ?_)⟩
          · exact (Hb.out.block _ (by rw [HZ.out]; exact hlt)).trans HR.out
          · have := Hz.out.2 (Hd.out.2 ⟨j, x, h1, h2, h3, h4⟩)
            omega
    · have hnx : ∀ ty, (Instr.next (.pointer (some ⟨w.heap.size, 0, none⟩)) true ty).run Tryz.prog wr = _ := fun ty => next_done Tryz.prog wr w.heap.size s pos ty hr hp
      go_wp2
      go_ret
      refine ⟨-1, rfl, ?_, HB.out⟩
      have h := HN.out
      rw [List.take_of_length_le (by rw [size_ofBs]; omega)] at h
      exact ⟨fun h => absurd h (by decide), fun hh => hh.elim (fun m => absurd m h.1) (fun m => absurd m h.2)⟩
end Go.Proofs.YtiigjiaodmlfnaaGreatDoor.PQ
end
section
namespace Go.Proofs.YtiigjiaodmlfnaaGreatDoor.PQ
open Go.RowKit
theorem indexAny_any (s : ByteArray) (hs : s.size ≤ 140737488351232) (w : World) :
    Calls Tryz.prog 274 #[.string s, .string ⟨#[47, 0]⟩] w fun e w' => ∃ z : Int, e = .returned (.int .i64 z) ∧ (0 ≤ z ↔ (47 ∈ ofBs s ∨ 0 ∈ ofBs s)) ∧ Below w.heap.size w w' := by
  by_cases h : 8 < s.size
  · exact indexAny_long s h hs w
  · exact indexAny_short s (by omega) w
def badB (s : ByteArray) : Bool := decide (47 ∈ ofBs s ∨ 0 ∈ ofBs s)
theorem containsAny_any (s : ByteArray) (hs : s.size ≤ 140737488351232) (w : World) :
    Calls Tryz.prog 226 #[.string s, .string ⟨#[47, 0]⟩] w fun e w' => e = .returned (.bool (badB s)) ∧ Below w.heap.size w w' := by
  go_enter Tryz.func226, Tryz.ntmps226
  go_wp2_with (go_at_call 274; refine (indexAny_any _ hs _).mono ?_; rintro e w2 ⟨z, rfl, hz, hb⟩; have Hz := Lib.hid hz; have Hb := Lib.hid hb; clear hz hb)
  go_ret
  refine ⟨?_, Hb.out⟩
  have : badB s = decide (0 ≤ z) := by
    unfold badB
    rw [Bool.eq_iff_iff]
    simp only [decide_eq_true_eq]
    exact Hz.out.symm
  rw [this]
  rfl
theorem toList_ofBs (s : ByteArray) : s.toList = ofBs s := Lib.toList_data s
theorem ret_name {s : ByteArray} {l : List UInt8} {r : Int} (hl : s.toList = l) (h : Sp.nameE l = r) : Ending.returned (.int .i64 r) = Ending.returned (.int .i64 (Sp.nameE (ofBs s))) := by
  rw [← toList_ofBs, hl, h]
theorem ret_bad {s : ByteArray} (h : ((s.toList.isEmpty = true ∨ (s.toList == [46]) = true) ∨ (s.toList == [46, 46]) = true) ∨ badB s = true) : Ending.returned (.int .i64 25) = Ending.returned (.int .i64 (Sp.nameE (ofBs s))) := by
  have : Sp.nameE (ofBs s) = 25 := by
    unfold Sp.nameE
    rw [if_pos]
    rw [toList_ofBs] at h
    rcases h with ((h | h) | h) | h
    · exact .inl (List.isEmpty_iff.1 h)
    · exact .inr (.inl (by simpa using h))
    · exact .inr (.inr (.inl (by simpa using h)))
    · exact .inr (.inr (.inr (by simpa [badB] using h)))
  rw [this]
theorem ret_good {s : ByteArray} {r : Int} (h : ((s.toList.isEmpty = false ∧ (s.toList == [46]) = false) ∧ (s.toList == [46, 46]) = false) ∧ badB s = false)
    (hr : r = if 27 < s.size then 26 else 0) : Ending.returned (.int .i64 r) = Ending.returned (.int .i64 (Sp.nameE (ofBs s))) := by
  have : Sp.nameE (ofBs s) = r := by
    unfold Sp.nameE
    rw [toList_ofBs] at h
    obtain ⟨⟨⟨h1, h2⟩, h3⟩, h4⟩ := h
    rw [if_neg, size_ofBs, hr]
    rintro (h | h | h)
    · rw [h] at h1; cases h1
    · rw [h] at h2; exact absurd h2 (by decide)
    · rcases h with h | h
      · rw [h] at h3; exact absurd h3 (by decide)
      · simp [badB] at h4
        exact h.elim h4.1 h4.2
  rw [this]
set_option maxRecDepth 100000 in
theorem name_any (s : ByteArray) (hs : s.size ≤ 140737488351232) (w : World) :
    Calls Tryz.prog 155 #[.string s] w fun e w' => e = .returned (.int .i64 (Sp.nameE (ofBs s))) ∧ Below w.heap.size w w' := by
  go_enter Tryz.func155, Tryz.ntmps155
  go_wp2_with (go_at_call 226; refine (containsAny_any _ hs _).mono ?_; rintro e w2 ⟨rfl, hb⟩; have Hb := Lib.hid hb; clear hb)
  · go_ret
    exact ⟨ret_name (by assumption) rfl, Below.refl _ _⟩
  · go_ret
    exact ⟨ret_name (by assumption) rfl, Below.refl _ _⟩
  · go_ret
    exact ⟨ret_name (by assumption) rfl, Below.refl _ _⟩
  · go_ret
    exact ⟨ret_bad (by assumption), Hb.out⟩
  · have h27 : (27 : Int) < (s.size : Int) := by assumption
    go_ret
    exact ⟨ret_good (by assumption) (by rw [if_pos (by omega)]), Hb.out⟩
  · have h27 : (s.size : Int) ≤ 27 := by assumption
    go_ret
    exact ⟨ret_good (by assumption) (by rw [if_neg (by omega)]), Hb.out⟩
end Go.Proofs.YtiigjiaodmlfnaaGreatDoor.PQ
end
