/-
  What the functions of package path compute, in the form in which the printed texts meet them.
-/
import Derived.Test.YtpnpbpgdclhbaaaDoorPQx0
import Derived.Test.YtpnpbpgdclhbaaaDoorSpec
namespace Go.Proofs.YtpnpbpgdclhbaaaDoor.PQ
open Go.RowKit Go.Proofs.YtpnpbpgdclhbaaaDoorW.PrintWords Go.Proofs.YtpnpbpgdclhbaaaDoorW.PrintLast Go.Proofs.YtpnpbpgdclhbaaaDoorW.PrintMore
open Go.Proofs.YtpnpbpgdclhbaaaDoor

def bsOf (l : List UInt8) : ByteArray := ⟨l.toArray⟩
def ofBs (b : ByteArray) : List UInt8 := b.data.toList

def path_Name.f (_k : Nat) (a0 : ByteArray) : Option Int := if a0.size ≤ 140737488351232 then some (Sp.nameE (ofBs a0)) else none
theorem path_Name.mono : ∀ a0 k, LeO (path_Name.f k a0) (path_Name.f (k + 1) a0) := fun _ _ => LeO.refl _

def path_Split.f (_k : Nat) (a0 : ByteArray) : Option (List ByteArray × Int) :=
  if a0.size ≤ 140737488351232 then some ((Sp.splitE (ofBs a0)).1.map bsOf, (Sp.splitE (ofBs a0)).2) else none
theorem path_Split.mono : ∀ a0 k, LeO (path_Split.f k a0) (path_Split.f (k + 1) a0) := fun _ _ => LeO.refl _

def parentE (l : List UInt8) : List (List UInt8) × List UInt8 × Int :=
  if (Sp.splitE l).2 ≠ 0 then ([], [], (Sp.splitE l).2)
  else if (Sp.splitE l).1 = [] then ([], [], 25)
  else ((Sp.splitE l).1.dropLast, (Sp.splitE l).1.getLastD [], 0)
def path_Parent.f (_k : Nat) (a0 : ByteArray) : Option (List ByteArray × ByteArray × Int) :=
  if a0.size ≤ 140737488351232 then some ((parentE (ofBs a0)).1.map bsOf, bsOf (parentE (ofBs a0)).2.1, (parentE (ofBs a0)).2.2) else none
theorem path_Parent.mono : ∀ a0 k, LeO (path_Parent.f k a0) (path_Parent.f (k + 1) a0) := fun _ _ => LeO.refl _

def path_Join.f (_k : Nat) (l0 : List ByteArray) : Option (ByteArray × Int) :=
  if l0.length ≤ 8796093021952 ∧ (l0.all fun x => decide (x.size ≤ 140737488351232)) = true then some (bsOf (Sp.joinE (l0.map ofBs)).1, (Sp.joinE (l0.map ofBs)).2) else none
theorem path_Join.mono : ∀ a0 k, LeO (path_Join.f k a0) (path_Join.f (k + 1) a0) := fun _ _ => LeO.refl _
end Go.Proofs.YtpnpbpgdclhbaaaDoor.PQ
