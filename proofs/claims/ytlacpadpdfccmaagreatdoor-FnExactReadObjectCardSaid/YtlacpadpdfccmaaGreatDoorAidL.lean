/-
A text's bytes,from a place on,as a list;plain texts;with no program in sight.
-/
import Derived.Test.YtlacpadpdfccmaaGreatDoorAidK
namespace Go.Proofs.YtlacpadpdfccmaaGreatDoor.Aid
open Go.RowKit Go.Proofs.YtlacpadpdfccmaaGreatDoorW.PrintWords
set_option linter.unusedSimpArgs false
set_option linter.unusedVariables false
theorem bt_drop(s:ByteArray)(i:Nat)(h:i<s.size):∃ x:UInt8,s.data.toList.drop i=x::s.data.toList.drop (i+1)/\bt s (i:Int)=(x.toNat:Int):=by
  have hl:i<s.data.toList.length:=by rw[Array.length_toList];exact h
  refine⟨s.data.toList[i],List.drop_eq_getElem_cons hl,?_⟩
  unfold bt
  rw[dif_pos (by simpa using h)]
  rfl
theorem drop_end(s:ByteArray)(i:Nat)(h:s.size<=i):s.data.toList.drop i=[]:=List.drop_eq_nil_of_le (by rw[Array.length_toList];exact h)
theorem len_list(s:ByteArray):s.data.toList.length=s.size:=by rw[Array.length_toList];rfl
theorem nat_eq(x:UInt8)(n:Nat)(hn:n<256):((x.toNat:Int)=(n:Int))↔x=UInt8.ofNat n:=by
  constructor
  · intro h
    have:x.toNat=n:=by omega
    rw[<-this]
    simp
  · rintro rfl
    simp[Nat.mod_eq_of_lt hn]
end Go.Proofs.YtlacpadpdfccmaaGreatDoor.Aid
