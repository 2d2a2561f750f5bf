/-
  The contract of strings.IndexRune at the text "/" and a nought byte, for a rune that is not ASCII: it returns -1; no condition but the rune being one that is decoded.
-/
import Derived.Test.YtpnpbpgdclhbaaaDoorShelf
import Derived.Test.YtpnpbpgdclhbaaaDoorHs
import Derived.WalkMore
import Derived.Scope
import Derived.Deep.QuietTactic
import Derived.BigQuiet
import Derived.WalkKit
import Derived.Laws.RangeString
import Derived.Laws.Runes
import Derived.Laws.RangeAny
namespace Go.Proofs.YtpnpbpgdclhbaaaDoor.PQ
open Go.RowKit
theorem below_drewN {B : Nat} {a w : World} (h : Below B a w) (n : Nat) : Below B a (w.drewN n) := ⟨h.os, h.tape, h.output, h.size, h.block⟩
theorem quiet_add_same {P : Program} {f : FuncId} {args : Array Value} {w : World} {a n : Nat} {v : Value}
    (h : Calls P f args (w.drewN (a + n)) fun e w' => e = .returned v ∧ w' = w.drewN (a + n)) :
    Calls P f args (w.drewN (a + n)) fun e w'' => e = .returned v ∧ ∃ m, w'' = w.drewN (a + m) :=
  h.mono fun _ _ ⟨he, hm⟩ => ⟨he, n, hm⟩
set_option maxRecDepth 100000 in
set_option maxHeartbeats 1000000 in
theorem indexRune_two (r : Int) (x y : UInt8) (h : 128 ≤ r) (hn : r ≠ 65533) (hv : Lib.validRune r = true) (he : Utf8.encode r = ⟨#[x, y]⟩) (hy : 128 ≤ y.toNat) (w : World) :
    Calls Tryd.prog 32 #[.string ⟨#[47, 0]⟩, .int .i32 r] w fun e w' => e = .returned (.int .i64 (-1)) ∧ Below w.heap.size w w' := by
  have h1 : decide (r < 128) = false := by simp; omega
  have h2 : (r == 65533) = false := by simp [hn]
  have hx1 : 1 < (⟨#[x, y]⟩ : ByteArray).size := by show 1 < 2; omega
  have h4 : ((((⟨#[47, 0]⟩ : ByteArray)[1]).toNat : Int) != (((⟨#[x, y]⟩ : ByteArray)[1]'hx1).toNat : Int)) = true := by
    rw [bne_iff_ne]
    show ((0 : Nat) : Int) ≠ (y.toNat : Int)
    omega
  go_enter Tryd.func32, Tryd.ntmps32
  go_wp2_with (go_at_call 42; refine (Tryd.utf8_ValidRune _ _).mono ?_; rintro e w' ⟨rfl, hw⟩; rw [hw])
  go_step3
  go_wp2_with fail
  go_loop [9] (fun i => i = .int .i64 1) (fun _ => 0)
  case atStart => rfl
  case round =>
    subst hrel
    go_wp2_with fail
    go_step3
    go_wp2_with fail
    go_quiet (fail)
    go_wp2_with fail
    have hw2 : IntKind.i64.wrap 2 = 2 := by decide
    go_quiet ((go_at_call 41; exact quiet_add_same (Tryd.strings_IndexByte _ _ _)))
    go_wp2
    simp (zetaDelta := true) only [Exit.inBlock, Exit.then, Exit.noGoto]
    go_ret
    exact ⟨rfl, below_drewN (Below.refl _ _) _⟩
set_option maxRecDepth 100000 in
set_option maxHeartbeats 1000000 in
theorem indexRune_more (r : Int) (h : 128 ≤ r) (hn : r ≠ 65533) (hv : Lib.validRune r = true) (n : Nat) (hn' : 3 ≤ n) (hn4 : n ≤ 4) (he : (Utf8.encode r).size = n) (w : World) :
    Calls Tryd.prog 32 #[.string ⟨#[47, 0]⟩, .int .i32 r] w fun e w' => e = .returned (.int .i64 (-1)) ∧ Below w.heap.size w w' := by
  have h1 : decide (r < 128) = false := by simp; omega
  have h2 : (r == 65533) = false := by simp [hn]
  go_enter Tryd.func32, Tryd.ntmps32
  go_wp2_with (go_at_call 42; refine (Tryd.utf8_ValidRune _ _).mono ?_; rintro e w' ⟨rfl, hw⟩; rw [hw])
  go_step3
  go_wp2_with fail
  go_loop [9] (fun i => i = .int .i64 (↑n - 1)) (fun _ => 0)
  case atStart => rfl
  case round =>
    subst hrel
    go_wp2_with fail
    go_ret
    exact ⟨rfl, Below.refl _ _⟩
set_option maxRecDepth 100000 in
set_option maxHeartbeats 1000000 in
theorem indexRune_err (w : World) :
    Calls Tryd.prog 32 #[.string ⟨#[47, 0]⟩, .int .i32 65533] w fun e w' => e = .returned (.int .i64 (-1)) ∧ Below w.heap.size w w' := by
  go_enter Tryd.func32, Tryd.ntmps32
  go_wp2_with fail
  go_loopw [] (fun w' => ∃ pos : Nat, pos ≤ 2 ∧ w' = w.iter ⟨#[47, 0]⟩ pos) (fun w' => 2 - w'.iterPos w.heap.size)
  case atStart => exact ⟨0, by omega, rfl⟩
  case round =>
    obtain ⟨pos, hp, rfl⟩ := hrel
    by_cases h0 : pos < 2
    · have hnx : ∀ ty, (Instr.next (.pointer (some ⟨w.heap.size, 0, none⟩)) true ty).run Tryd.prog (w.iter ⟨#[47, 0]⟩ pos) = _ := fun ty => run_next_any w ⟨#[47, 0]⟩ pos ty h0
      have hd : Utf8.decode ⟨#[47, 0]⟩ pos = (if pos = 0 then 47 else 0, 1) := by
        obtain rfl | rfl : pos = 0 ∨ pos = 1 := by omega
        · decide
        · decide
      rw [hd] at hnx
      obtain rfl | rfl : pos = 0 ∨ pos = 1 := by omega
      all_goals
        clear hd
        go_wp2
        go_roundw
        case rel => exact ⟨_, by omega, rfl⟩
        case measure => simp
    · obtain rfl : pos = 2 := by omega
      have hnx : ∀ ty, (Instr.next (.pointer (some ⟨w.heap.size, 0, none⟩)) true ty).run Tryd.prog (w.iter ⟨#[47, 0]⟩ 2) = _ := fun ty => run_next_end w ⟨#[47, 0]⟩ 2 ty h0
      go_wp2
      go_ret
      exact ⟨rfl, (Below.refl _ _).alloc (Nat.le_refl _) _⟩
end Go.Proofs.YtpnpbpgdclhbaaaDoor.PQ
