/-
  The plain side of path.Name: what a name may be. No program in sight.
-/
import Derived.Test.YtiigjiaodmlfnaaGreatDoorBase
set_option linter.unusedVariables false
set_option linter.unusedSimpArgs false
namespace Go.Proofs.YtiigjiaodmlfnaaGreatDoor.Sp
def nameE (l : List UInt8) : Int :=
  if l = [] ∨ l = [46] ∨ l = [46, 46] ∨ 47 ∈ l ∨ 0 ∈ l then 25 else if 27 < l.length then 26 else 0
end Go.Proofs.YtiigjiaodmlfnaaGreatDoor.Sp
namespace Go.Proofs.YtiigjiaodmlfnaaGreatDoor.PQ
def ofBs (b : ByteArray) : List UInt8 := b.data.toList
end Go.Proofs.YtiigjiaodmlfnaaGreatDoor.PQ
