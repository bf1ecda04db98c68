/-
What the functions compute, in plain Lean, with no program in sight.
-/
import Derived.Test.YtmiebnpmckjidaaGreatDoorAidA
namespace Go.Proofs.YtmiebnpmckjidaaGreatDoor.Aid
open Go.RowKit Go.Proofs.YtmiebnpmckjidaaGreatDoorW.PrintWords Go.Proofs.YtmiebnpmckjidaaGreatDoorW.PrintLast Go.Proofs.YtmiebnpmckjidaaGreatDoorW.PrintMore
set_option linter.unusedVariables false

def sgn (b : Int) : Int := if inR b 0 255 = true then (if b > 127 then b - 256 else b) else 0

def alu (op a b f : Int) : Int × Int :=
  if (inR op 0 7 && (inR a 0 255 && (inR b 0 255 && inR f 0 255))) = true then
    (if op = 0 then ((a + b + 0) % 256, FL ((a + b + 0) % 256 == 0) false (decide (a % 16 + b % 16 + 0 > 15)) (decide (a + b + 0 > 255)))
    else if op = 1 then ((a + b + f / 16 % 2) % 256, FL ((a + b + f / 16 % 2) % 256 == 0) false (decide (a % 16 + b % 16 + f / 16 % 2 > 15)) (decide (a + b + f / 16 % 2 > 255)))
    else if op = 4 then (bits .and .i64 a b, FL (bits .and .i64 a b == 0) false true false)
    else if op = 5 then (bits .xor .i64 a b, FL (a == b) false false false)
    else if op = 6 then (bits .or .i64 a b, FL (bits .or .i64 a b == 0) false false false)
    else if op = 3 then ((a - b - f / 16 % 2) % 256, FL ((a - b - f / 16 % 2) % 256 == 0) true (decide (a % 16 < b % 16 + f / 16 % 2)) (decide (a - b - f / 16 % 2 < 0)))
    else if op = 7 then (a, FL ((a - b - 0) % 256 == 0) true (decide (a % 16 < b % 16 + 0)) (decide (a - b - 0 < 0)))
    else ((a - b - 0) % 256, FL ((a - b - 0) % 256 == 0) true (decide (a % 16 < b % 16 + 0)) (decide (a - b - 0 < 0))))
  else (0, 0)
/-! carts -/
end Go.Proofs.YtmiebnpmckjidaaGreatDoor.Aid
