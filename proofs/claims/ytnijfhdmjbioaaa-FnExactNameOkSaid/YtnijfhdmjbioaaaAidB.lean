/-
What the functions compute, in plain Lean, with no program in sight.
-/
import Derived.Test.YtnijfhdmjbioaaaAidA
namespace Go.Proofs.Ytnijfhdmjbioaaa.Aid
open Go.RowKit Go.Proofs.YtnijfhdmjbioaaaW.PrintWords Go.Proofs.YtnijfhdmjbioaaaW.PrintLast Go.Proofs.YtnijfhdmjbioaaaW.PrintMore
set_option linter.unusedVariables false

def sgn (b : Int) : Int := if inR b 0 255 = true then (if b > 127 then b - 256 else b) else 0

def isLet (c : Int) : Bool := inR c 97 122 || (c == 95 || c == 46)
def isNam (c : Int) : Bool := isLet c || inR c 48 57
def nameOk (s : ByteArray) : Bool := inR (s.size : Int) 1 16 && (!inR (bt s 0) 48 57 && allB isNam s s.size 0)
theorem isLet_dig {c : Int} (h : isLet c = true) : inR c 48 57 = false := by
  simp [isLet, inR] at *
  omega

def addWords (a b f : Int) : Int × Int :=
  if (inR a 0 65535 && (inR b 0 65535 && inR f 0 255)) = true then
    ((a + b) % 65536, FL (decide (f ≥ 128)) false (decide (a % 4096 + b % 4096 > 4095)) (decide (a + b > 65535)))
  else (0, 0)

def stepped8 (v f : Int) (down : Bool) : Int × Int :=
  if (inR v 0 255 && inR f 0 255) = true then
    (if down = true then ((v + 255) % 256, FL ((v + 255) % 256 == 0) true (v % 16 == 0) (decide (f / 16 % 2 = 1)))
    else ((v + 1) % 256, FL ((v + 1) % 256 == 0) false (v % 16 == 15) (decide (f / 16 % 2 = 1))))
  else (0, 0)

end Go.Proofs.Ytnijfhdmjbioaaa.Aid
