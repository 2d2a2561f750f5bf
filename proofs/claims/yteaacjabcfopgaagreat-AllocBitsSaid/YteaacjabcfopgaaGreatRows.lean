/-
  No cell of these rows narrows 'for every input' (looked for: loops, veiled, ifaces, maps, wideKeys, modest, calm, conditions, laid).
  DERIVED. THE GIVEN ROWS OF THIS SEAT. 3 by the template 'for every input the law returns true; each argument reads behind the call as it read before'; 0 by the template 'total and deterministic' (their statements: YteaacjabcfopgaaGreatTotals.lean).
  GIVEN WITH THE SEED: the statements are not yours to turn. If you find one false, say at which input.
  Laid BY PROGRAM, IN A SANDBOX (cutbox-rows.mjs): the forced cells as the released guide's own fill.sh prints them over the translation c14a6708f749ec52… (all of the seat's roots in one cut). By AI agents, Wed Nov 11 2026. No macro, syntax, notation, axiom, sorry.
-/
import Derived.Test.YteaacjabcfopgaaGreatChecked
import GoSem.Claim
import GoSem.ClaimJoined
import GoSem.ClaimMapViews
import Derived.JoinedTies
import Derived.KernelRfl
namespace Go.Proofs.YteaacjabcfopgaaGreat
/- THE CELL 'sum', in the pinned program and in every row, IS THE sha256 OF THE DUMP (.gsa) THAT YteaacjabcfopgaaGreatProg.lean LOADS. Nothing in Lean hashes anything: it is a label: what it is worth is what the hold of that sum in a sandbox is worth. -/
noncomputable def Tryz.pinned : Pinned := { name := "yteaacjabcfopgaagreat", sum := "c14a6708f749ec525d478abdb7f01c9d962dbe3d16b299bf98a5bf272d406790", checked := Tryz.checked }
namespace Rows
def none {H : Type} : Left H := { results := [], args := [] }

/-- 'ashlarlaw12.AllocOnce': WHATEVER THE INPUT: true; the input reads as it did. -/
def allocOnceSpec : ChangeSpec := { name := "allocOnce", fn := fun _ => fun
  | [d1, d2] => { results := [.lit (.bool true)], args := [d1, d2] }
  | _ => none }
def allocOnceRow : OpenClaim := { program := "yteaacjabcfopgaagreat", sum := "c14a6708f749ec525d478abdb7f01c9d962dbe3d16b299bf98a5bf272d406790", func := "ashlar/ashlarlaw12.AllocOnce", spec := "allocOnce", unfollowed := true, recurses := true, plainKeys := false, apart := false }
def AllocOnceSaid : Prop := allocOnceRow.holds Tryz.pinned (OpenSpec.ofChange allocOnceSpec)

/-- ITS FALSE NEIGHBOUR: 'it returns false'. Refute it at one input. -/
def allocOnceWrong : ChangeSpec := { name := "allocOnce", fn := fun _ => fun
  | [d1, d2] => { results := [.lit (.bool false)], args := [d1, d2] }
  | _ => none }
def AllocOnceWrongFalsely : Prop := allocOnceRow.holds Tryz.pinned (OpenSpec.ofChange allocOnceWrong)

/-- 'ashlarlaw12.AllocBits': WHATEVER THE INPUT: true; the input reads as it did. -/
def allocBitsSpec : ChangeSpec := { name := "allocBits", fn := fun _ => fun
  | [d1, d2, d3, d4] => { results := [.lit (.bool true)], args := [d1, d2, d3, d4] }
  | _ => none }
def allocBitsRow : OpenClaim := { program := "yteaacjabcfopgaagreat", sum := "c14a6708f749ec525d478abdb7f01c9d962dbe3d16b299bf98a5bf272d406790", func := "ashlar/ashlarlaw12.AllocBits", spec := "allocBits", unfollowed := true, recurses := true, plainKeys := false, apart := false }
def AllocBitsSaid : Prop := allocBitsRow.holds Tryz.pinned (OpenSpec.ofChange allocBitsSpec)

/-- ITS FALSE NEIGHBOUR: 'it returns false'. Refute it at one input. -/
def allocBitsWrong : ChangeSpec := { name := "allocBits", fn := fun _ => fun
  | [d1, d2, d3, d4] => { results := [.lit (.bool false)], args := [d1, d2, d3, d4] }
  | _ => none }
def AllocBitsWrongFalsely : Prop := allocBitsRow.holds Tryz.pinned (OpenSpec.ofChange allocBitsWrong)

/-- 'ashlarlaw12.AllocFull': WHATEVER THE INPUT: true; the input reads as it did. -/
def allocFullSpec : ChangeSpec := { name := "allocFull", fn := fun _ => fun
  | [d1, d2] => { results := [.lit (.bool true)], args := [d1, d2] }
  | _ => none }
def allocFullRow : OpenClaim := { program := "yteaacjabcfopgaagreat", sum := "c14a6708f749ec525d478abdb7f01c9d962dbe3d16b299bf98a5bf272d406790", func := "ashlar/ashlarlaw12.AllocFull", spec := "allocFull", unfollowed := true, recurses := true, plainKeys := false, apart := false }
def AllocFullSaid : Prop := allocFullRow.holds Tryz.pinned (OpenSpec.ofChange allocFullSpec)

/-- ITS FALSE NEIGHBOUR: 'it returns false'. Refute it at one input. -/
def allocFullWrong : ChangeSpec := { name := "allocFull", fn := fun _ => fun
  | [d1, d2] => { results := [.lit (.bool false)], args := [d1, d2] }
  | _ => none }
def AllocFullWrongFalsely : Prop := allocFullRow.holds Tryz.pinned (OpenSpec.ofChange allocFullWrong)

/- THE SECOND FORM. 'bulk': how many values and letters a reading holds, each counted each time it is reached (what is shared counts as often as it is met; a slice's spare places count too). A statement '..UptoSaid' is the law's where the arguments, and the package variables that the reading takes, are together of bulk at most 1048576: NARROWER than '..Said'. Prove '..Said' where nothing that the law and all that it calls make is longer than what came in: it says more and counts as full. Else prove '..UptoSaid'. A law counts once. -/
mutual
def uptoBulk {H : Type} : DataW H → Nat
  | .lit (.string bytes) => bytes.length + 1
  | .lit _ => 1
  | .nil => 1
  | .ptr d => uptoBulk d + 1
  | .slice elems spare => uptoBulkAll elems + uptoBulkAll spare + 1
  | .agg parts => uptoBulkAll parts + 1
  | .iface _ d => uptoBulk d + 1
  | .map entries => uptoBulkEntries entries + 1
  | .held _ => 1
def uptoBulkAll {H : Type} : List (DataW H) → Nat
  | [] => 0
  | d :: r => uptoBulk d + uptoBulkAll r
def uptoBulkEntries {H : Type} : List (Lit × DataW H) → Nat
  | [] => 0
  | x :: r => uptoBulkEntry x + uptoBulkEntries r
def uptoBulkEntry {H : Type} : Lit × DataW H → Nat
  | (.string bytes, d) => bytes.length + uptoBulk d + 1
  | (_, d) => uptoBulk d + 1
 end
def uptoSmall : (H : Type) → List (DataW H) → Bool := fun _ ds => decide (uptoBulkAll ds ≤ 1048576)
def OpenSpec.upto (s : _root_.Go.ChangeSpec) : _root_.Go.OpenSpec := { _root_.Go.OpenSpec.ofChange s with cond := some uptoSmall }

/-- 'ashlarlaw12.AllocOnce', WHERE WHAT IT READS IS OF BULK AT MOST 1048576: true; the input reads as it did. -/
def allocOnceUptoRow : OpenClaim := { program := "yteaacjabcfopgaagreat", sum := "c14a6708f749ec525d478abdb7f01c9d962dbe3d16b299bf98a5bf272d406790", func := "ashlar/ashlarlaw12.AllocOnce", spec := "allocOnce", unfollowed := true, recurses := true, plainKeys := false, apart := false, narrowed := true }
def AllocOnceUptoSaid : Prop := allocOnceUptoRow.holds Tryz.pinned (OpenSpec.upto allocOnceSpec)

/-- 'ashlarlaw12.AllocBits', WHERE WHAT IT READS IS OF BULK AT MOST 1048576: true; the input reads as it did. -/
def allocBitsUptoRow : OpenClaim := { program := "yteaacjabcfopgaagreat", sum := "c14a6708f749ec525d478abdb7f01c9d962dbe3d16b299bf98a5bf272d406790", func := "ashlar/ashlarlaw12.AllocBits", spec := "allocBits", unfollowed := true, recurses := true, plainKeys := false, apart := false, narrowed := true }
def AllocBitsUptoSaid : Prop := allocBitsUptoRow.holds Tryz.pinned (OpenSpec.upto allocBitsSpec)

/-- 'ashlarlaw12.AllocFull', WHERE WHAT IT READS IS OF BULK AT MOST 1048576: true; the input reads as it did. -/
def allocFullUptoRow : OpenClaim := { program := "yteaacjabcfopgaagreat", sum := "c14a6708f749ec525d478abdb7f01c9d962dbe3d16b299bf98a5bf272d406790", func := "ashlar/ashlarlaw12.AllocFull", spec := "allocFull", unfollowed := true, recurses := true, plainKeys := false, apart := false, narrowed := true }
def AllocFullUptoSaid : Prop := allocFullUptoRow.holds Tryz.pinned (OpenSpec.upto allocFullSpec)

end Rows
end Go.Proofs.YteaacjabcfopgaaGreat
