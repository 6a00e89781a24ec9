/- The parser by the document, in plain Lean. -/
import Derived.Test.YtflmckoolagikaaDoorPar3
import Derived.Test.YtflmckoolagikaaDoorPar4
namespace Go.Proofs.YtflmckoolagikaaDoor
open Go Go.RowKit Go.Fw Go.Sx
set_option maxRecDepth 100000
set_option maxHeartbeats 1000000
/-- An act without its place: kind, code, mark, inter, args, text. -/
abbrev Pa := Int × Int × Int × ByteArray × List Int × ByteArray
def plA (y : Ac) : Pa := (y.1, y.2.1, y.2.2.1, y.2.2.2.1, y.2.2.2.2.1.2.2, y.2.2.2.2.2)
abbrev dP : Pa := (6, 0, 0, e0, [], e0)
def clsN (x : Int) : Nat :=
  if x = 24 ∨ x = 26 then 0 else if x = 27 then 1 else if x = 7 then 2 else if 0 ≤ x ∧ x ≤ 31 then 3 else if 32 ≤ x ∧ x ≤ 47 then 4
  else if x = 58 then 5 else if 48 ≤ x ∧ x ≤ 59 then 6 else if 60 ≤ x ∧ x ≤ 63 then 7 else if x = 91 then 8 else if x = 93 then 9 else if x = 92 then 10
  else if x = 80 ∨ x = 88 ∨ x = 94 ∨ x = 95 then 11 else if 64 ≤ x ∧ x ≤ 126 then 12 else if 160 ≤ x ∧ x ≤ 1114111 then 14 else 13
def clsL : List Int := [120, 101, 98, 99, 105, 107, 100, 109, 91, 93, 92, 112, 102, 110, 117]
def tabL (s : Int) : List Int :=
  if s = 0 then [88, 69, 67, 67, 80, 80, 80, 80, 80, 80, 80, 80, 80, 46, 80]
  else if s = 1 then [88, 69, 67, 67, 73, 70, 70, 70, 83, 79, 70, 84, 70, 46, 68]
  else if s = 2 then [88, 69, 67, 67, 74, 70, 70, 70, 70, 70, 70, 70, 70, 46, 68]
  else if s = 3 then [88, 69, 67, 67, 73, 71, 65, 77, 70, 70, 70, 70, 70, 46, 68]
  else if s = 4 then [88, 69, 67, 67, 73, 71, 65, 71, 70, 70, 70, 70, 70, 46, 68]
  else if s = 5 then [88, 69, 67, 67, 74, 71, 71, 71, 70, 70, 70, 70, 70, 46, 68]
  else if s = 6 then [88, 69, 67, 67, 46, 46, 46, 46, 68, 68, 68, 68, 68, 46, 68]
  else if s = 7 then [68, 90, 89, 46, 87, 87, 87, 87, 87, 87, 87, 87, 87, 46, 87]
  else if s = 9 then [68, 90, 46, 46, 46, 46, 46, 46, 46, 46, 46, 46, 46, 46, 46]
  else [82, 82, 82, 82, 82, 82, 82, 82, 82, 82, 89, 82, 82, 82, 82]
def whatP (s x : Int) : Int := (tabL s).getD (clsN x) 0
def whatQ (s x : Int) : Int := if s = 0 ∧ whatP s x = 88 then 46 else whatP s x
def signB (x : Int) : ByteArray := if x < 128 then strOfNums [x] else e0
def finP (p : Ps) (x : Int) : Pa := if p.2.2.1.size = 3 then dP else if p.1 < 3 then (3, x, 0, p.2.2.1, [], e0) else (4, x, p.2.1, p.2.2.1, (readA p.2.2.2.1).1, e0)
def rtB (x : Int) : ByteArray := strOfNums (runeL (fixR x))
def stepW (p : Ps) (x w : Int) (R : Ps × List Pa) : Ps × List Pa :=
  if w = 88 ∨ w = 68 then (sP 0, [dP])
  else if w = 69 then (sP 1, if p.1 = 0 then [] else [dP])
  else if w = 67 then (p, [(2, x, 0, e0, [], e0)])
  else if w = 80 then (p, [(1, x, 0, e0, [], e0)])
  else if w = 73 then ((if p.1 = 1 then 2 else 5, p.2.1, signB x, p.2.2.2.1, p.2.2.2.2), [])
  else if w = 74 then ((p.1, p.2.1, if p.2.2.1.size < 3 then p.2.2.1 ++ signB x else p.2.2.1, p.2.2.2.1, p.2.2.2.2), [])
  else if w = 65 then ((4, p.2.1, p.2.2.1, if p.2.2.2.1.size < 100 then p.2.2.2.1 ++ signB x else p.2.2.2.1, p.2.2.2.2), [])
  else if w = 77 then ((4, x, e0, e0, e0), [])
  else if w = 71 then (sP 6, [])
  else if w = 83 then (sP 3, [])
  else if w = 79 then (sP 7, [])
  else if w = 84 then (sP 9, [])
  else if w = 90 then ((p.1 + 1, p.2), [])
  else if w = 87 then ((p.1, p.2.1, p.2.2.1, p.2.2.2.1, if p.2.2.2.2.size + (rtB x).size ≤ 256 then p.2.2.2.2 ++ rtB x else p.2.2.2.2), [])
  else if w = 89 then (sP 0, [if 8 < p.1 then dP else (5, 0, 0, e0, [], p.2.2.2.2)])
  else if w = 70 then (sP 0, [finP p x])
  else if w = 82 then (R.1, dP :: R.2)
  else (p, [])
def step1 (x : Int) : Ps × List Pa := stepW (sP 1) x (whatQ 1 x) (sP 1, [])
/-- farref.ParseStep. -/
def stepP (p : Ps) (x : Int) : Ps × List Pa := if x < 0 ∨ 1114111 < x then (p, []) else stepW p x (whatQ p.1 x) (step1 x)
end Go.Proofs.YtflmckoolagikaaDoor
