/-
  The reference's Below, told as a plain function.
-/
import Derived.Test.YtpnpbpgdclhbaaaDoorPa
namespace Go.Proofs.YtpnpbpgdclhbaaaDoor.PQ
open Go.RowKit Go.Proofs.YtpnpbpgdclhbaaaDoorW.PrintWords Go.Proofs.YtpnpbpgdclhbaaaDoorW.PrintLast Go.Proofs.YtpnpbpgdclhbaaaDoorW.PrintMore
def ashlarref14_Below.f (k : Nat) (l0 : List ByteArray) (l1 : List ByteArray) : Option (Bool) := if l0.length ≤ l1.length then ashlarref14_Same.f k l0 (l1.take l0.length) else some false
theorem ashlarref14_Below.mono : ∀ a0 a1 k, LeO (ashlarref14_Below.f k a0 a1) (ashlarref14_Below.f (k + 1) a0 a1) := by
  intro a0 a1 k
  unfold ashlarref14_Below.f
  exact LeO.ite (ashlarref14_Same.mono _ _ _) (LeO.refl _)
set_option maxRecDepth 100000 in
theorem ashlarref14_Below.calls (k : Nat) (A0 : Option Addr) (c0 : Nat) (l0 : List ByteArray) (A1 : Option Addr) (c1 : Nat) (l1 : List ByteArray) (r : Bool) (w : World) (hr0 : Kd.C Kd.string w A0 l0.length l0) (hc0 : l0.length ≤ c0) (hr1 : Kd.C Kd.string w A1 l1.length l1) (hc1 : l1.length ≤ c1) (h : ashlarref14_Below.f k l0 l1 = some r) :
    Calls Tryd.prog 20 #[.slice A0 l0.length c0, .slice A1 l1.length c1] w fun e w' => e = .returned (.bool r) ∧ Drawn0 w w' := by
  unfold ashlarref14_Below.f at h
  by_cases hl : l0.length ≤ l1.length
  · rw [if_pos hl] at h
    have hle : (l0.length : Int) ≤ l1.length := by omega
    have hlc : (l0.length : Int) ≤ c1 := by omega
    have hlen : (l1.take l0.length).length = l0.length := by rw [List.length_take]; omega
    have hC := Kd.C_take hr1 hl
    have hS := ashlarref14_Same.calls k A0 c0 l0 A1 c1 (l1.take l0.length) r w hr0 hc0 hC (by omega) h
    rw [hlen] at hS
    have HS := Aside0.mk hS
    clear hS hC hlen h hr0 hr1
    go_enter Tryd.func20, Tryd.ntmps20
    go_wp2_with (go_at_call 16; refine HS.out.mono ?_; rintro e w' ⟨rfl, ⟨nd, rfl⟩⟩)
    go_ret
    exact ⟨rfl, ⟨nd, rfl⟩⟩
  · rw [if_neg hl] at h
    cases h
    have hle : (l1.length : Int) < l0.length := by omega
    go_enter Tryd.func20, Tryd.ntmps20
    go_wp2
    go_ret
    exact ⟨rfl, Drawn0.refl _⟩
end Go.Proofs.YtpnpbpgdclhbaaaDoor.PQ
