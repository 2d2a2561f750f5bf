/-
  The plain side of package path: what a name may be, the names of a path, the path of names, as functions on lists of bytes. No program in sight.
-/
namespace Go.Proofs.YtpnpbpgdclhbaaaDoor.Sp

/-- Why a text may not be a name: 25 (it may not be one at all), 26 (too long), 0 (it may). -/
def nameE (l : List UInt8) : Int :=
  if l = [] ∨ l = [46] ∨ l = [46, 46] ∨ 47 ∈ l ∨ 0 ∈ l then 25 else if 27 < l.length then 26 else 0

/-- The pieces of a text between slashes: the first piece, and the others. -/
def cuts : List UInt8 → List UInt8 × List (List UInt8)
  | [] => ([], [])
  | c :: l => if c = 47 then ([], (cuts l).1 :: (cuts l).2) else (c :: (cuts l).1, (cuts l).2)

def pieces (l : List UInt8) : List (List UInt8) := (cuts l).1 :: (cuts l).2

/-- Going over pieces, some names having been found. -/
def scan : List (List UInt8) → List (List UInt8) → List (List UInt8) × Int
  | [], acc => (acc, 0)
  | c :: cs, acc =>
    if c = [] then scan cs acc
    else if nameE c ≠ 0 then ([], nameE c)
    else if acc.length = 16 then ([], 26)
    else scan cs (acc ++ [c])

/-- The names of a path. -/
def splitE (l : List UInt8) : List (List UInt8) × Int :=
  if l.head? ≠ some 47 then ([], 25) else if 255 < l.length then ([], 26) else scan (pieces l) []

/-- The first complaint about names. -/
def namesE : List (List UInt8) → Int
  | [] => 0
  | c :: cs => if nameE c ≠ 0 then nameE c else namesE cs

/-- Names, each behind a slash. -/
def slashed : List (List UInt8) → List UInt8
  | [] => []
  | c :: cs => 47 :: (c ++ slashed cs)

def joinE (ns : List (List UInt8)) : List UInt8 × Int :=
  if namesE ns ≠ 0 then ([], namesE ns)
  else if 16 < ns.length ∨ 255 < (slashed ns).length then ([], 26)
  else (if ns = [] then [47] else slashed ns, 0)

end Go.Proofs.YtpnpbpgdclhbaaaDoor.Sp
