/-
Hexadecimal digits, with no program in sight.
-/
import Derived.Test.YtmiebnpmckjidaaDoorAidA
import Derived.Sort.Grow
import Derived.Below
import Derived.Lib.Case
import Derived.Lib.Repeat
namespace Go.Proofs.YtmiebnpmckjidaaDoor.Aid
set_option linter.unusedSimpArgs false
def hexB (n : Nat) : UInt8 := if n < 10 then UInt8.ofNat (48 + n) else UInt8.ofNat (87 + n)
/-- The hexadecimal numeral of a number below 65536. -/
def hexLow (n : Nat) : List UInt8 :=
  if n < 16 then [hexB n] else if n < 256 then [hexB (n / 16), hexB (n % 16)]
  else if n < 4096 then [hexB (n / 256), hexB (n / 16 % 16), hexB (n % 16)] else [hexB (n / 4096), hexB (n / 256 % 16), hexB (n / 16 % 16), hexB (n % 16)]
theorem bytes_append (a b : List UInt8) : (⟨a.toArray⟩ : ByteArray) ++ ⟨b.toArray⟩ = ⟨(a ++ b).toArray⟩ := by
  apply ByteArray.ext
  rw [ByteArray.data_append]
  simp
theorem bytes_size (a : List UInt8) : (⟨a.toArray⟩ : ByteArray).size = a.length := by
  show a.toArray.size = _
  simp
/-- What lay below stays, where the world has drawn and blocks have been laid behind. -/
theorem below_grow (w : World) (q : Nat) (os : Array Obj) : RowKit.Below w.heap.size w (Sort.grow (w.drewN q) os) :=
  ⟨rfl, rfl, rfl, by first | (simp [Sort.grow]; done) | (simp [Sort.grow]; omega), fun i hi => by
    show ((w.drewN q).heap ++ os)[i]? = _
    rw [Array.getElem?_append_left (by show i < w.heap.size; omega)]
    rfl⟩
end Go.Proofs.YtmiebnpmckjidaaDoor.Aid
