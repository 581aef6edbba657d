/- What the calls that are proved by hand compute: plain functions on lists of bytes. -/
import Derived.Test.YtljinjgamgmocaaDoorWMore
import Derived.Lib.LastIndexLaws
import Derived.Lib.ItoaNum
import Derived.Lib.ParseIntB
import GoSem.Core.Utf8
namespace Go.Proofs.YtljinjgamgmocaaDoor.G
open Go.RowKit Go.Proofs.YtljinjgamgmocaaDoorW.PrintWords Go.Proofs.YtljinjgamgmocaaDoorW.PrintLast Go.Proofs.YtljinjgamgmocaaDoorW.PrintMore

/-- The digits of hexadecimal. -/
def digitsTab : List Int := [48, 49, 50, 51, 52, 53, 54, 55, 56, 57, 97, 98, 99, 100, 101, 102]
theorem digitsTab_len : digitsTab.length = 16 := rfl
/-- The place of c in the list, told from i on; -1: it is not there. -/
def findI : List Int → Int → Int → Int
  | [], _, _ => -1
  | x :: r, c, i => if c = x then i else findI r c (i + 1)
def text_digit.f (a0 : Int) : Option Int := some (findI digitsTab a0 0)
def strings_LastIndex.f (a0 a1 : ByteArray) : Option Int := if a0.size < 4611686018427387904 then some (Lib.lastIndex a0.data.toList a1.data.toList) else none
def text_FormatNumber.f (a0 : Int) : Option ByteArray := if -9223372036854775808 ≤ a0 then if a0 ≤ 9223372036854775807 then some ⟨(Lib.itoa a0).toArray⟩ else none else none
/-- Is each byte a digit? -/
def allDig (l : List UInt8) : Bool := l.all fun c => 48 ≤ c && c ≤ 57
def parseNum (s : ByteArray) (mx : Int) : Int × Int :=
  if (s.size : Int) > 1048576 then (0, 2)
  else if allDig s.data.toList = false then (0, 62)
  else if s.size = 0 ∨ (1 < s.size ∧ bt s 0 = 48) then (0, 62)
  else match Lib.parseIntB 64 s.data.toList with
    | .ok v => if v > mx then (0, 63) else (v, 0)
    | _ => (0, 63)
def text_ParseNumber.f (a0 : ByteArray) (a1 : Int) : Option (Int × Int) := some (parseNum a0 a1)
/-- The letters from i on: is one of them broken, or a control character? -/
def plainGo (s : ByteArray) : Nat → Nat → Int
  | 0, _ => 0
  | f + 1, i => if i < s.size then
      (if (Utf8.decode s i).1 = 65533 ∧ (Utf8.decode s i).2 = 1 ∨ (Utf8.decode s i).1 < 32 ∧ (Utf8.decode s i).1 ≠ 10 ∨ (Utf8.decode s i).1 = 127 then 65 else plainGo s f (i + (Utf8.decode s i).2))
    else 0
def text_Plain.f (a0 : ByteArray) : Option Int := some (if (a0.size : Int) > 1048576 then 2 else plainGo a0 (a0.size + 1) 0)
/-- The lines of a text, without their ends. -/
def linesGo : Nat → List UInt8 → List ByteArray
  | 0, _ => []
  | f + 1, l => if l = [] then [] else ⟨(l.takeWhile (· != 10)).toArray⟩ :: linesGo f (l.drop ((l.takeWhile (· != 10)).length + 1))
def linesOf (s : ByteArray) : List ByteArray := linesGo (s.size + 1) s.data.toList
def text_Lines.f (a0 : ByteArray) : Option (List ByteArray × Int) :=
  some (if (a0.size : Int) > 1048576 then ([], 2) else if a0.size ≠ 0 ∧ bt a0 ((a0.size : Int) - 1) ≠ 10 then ([], 64) else (linesOf a0, 0))
def ledgerlaw06_each.f (a0 : ByteArray) (a1 : Int) : Option (List ByteArray × Bool) :=
  some (if a1 < 1 then ([], true) else if (a0.size : Int) > 1048576 then ([], true) else ((linesOf a0).take a1.toNat, true))
end Go.Proofs.YtljinjgamgmocaaDoor.G
