/-
Hexadecimal digits,with no program in sight.
-/
import Derived.Test.YtlacpadpdfccmaaGreatDoorAidA
import Derived.Sort.Grow
import Derived.Below
import Derived.Lib.Case
import Derived.Lib.Repeat
namespace Go.Proofs.YtlacpadpdfccmaaGreatDoor.Aid
set_option linter.unusedSimpArgs false
def hexB(n:Nat):UInt8:=if n<10 then UInt8.ofNat (48+n)else UInt8.ofNat (87+n)
def hexLow(n:Nat):List UInt8:=
  if n<16 then [hexB n]else if n<256 then [hexB (n / 16),hexB (n%16)]
  else if n<4096 then [hexB (n / 256),hexB (n / 16%16),hexB (n%16)]else [hexB (n / 4096),hexB (n / 256%16),hexB (n / 16%16),hexB (n%16)]
def hexU(n:Nat):UInt8:=if n<10 then UInt8.ofNat (48+n)else UInt8.ofNat (55+n)
theorem upper_hex:∀(r:Nat),r<16->Go.Lib.upperB (hexB r)=hexU r:=by decide
theorem hexB_lt:∀(r:Nat),r<16->(hexB r).toNat<128:=by decide
def hexFix:Nat->Nat->List UInt8
  |0,_=>[]
  |m+1,a=>hexFix m (a / 16)++[hexU (a%16)]
theorem hexFix_len:∀ m a,(hexFix m a).length=m
  |0,_=>rfl
  |m+1,a=>by simp[hexFix,hexFix_len m]
theorem hexLow_small (n:Nat) (hn:n<65536):∀ b ∈ hexLow n,b.toNat<128:=by
  intro b hb
  unfold hexLow at hb
  split at hb
  · rcases List.mem_singleton.1 hb with rfl;exact hexB_lt _ (by omega)
  · split at hb
    · simp only[List.mem_cons,List.not_mem_nil,or_false]at hb
      rcases hb with rfl|rfl <;> exact hexB_lt _ (by omega)
    · split at hb
      · simp only[List.mem_cons,List.not_mem_nil,or_false]at hb
        rcases hb with rfl|rfl|rfl <;> exact hexB_lt _ (by omega)
      · simp only[List.mem_cons,List.not_mem_nil,or_false]at hb
        rcases hb with rfl|rfl|rfl|rfl <;> exact hexB_lt _ (by omega)
theorem hexLow_len(n:Nat):1<=(hexLow n).length/\(hexLow n).length<=4:=by
  unfold hexLow
  split
  · simp
  · split
    · simp
    · split <;> simp
theorem rep48:∀ k,Go.Lib.repeatL [48] k=List.replicate k 48
  |0=>rfl
  |k+1=>by rw[Go.Lib.repeatL,rep48 k];rfl
theorem hexU0:hexU 0=48:=rfl
theorem hexPad (d n:Nat) (hd0:1<=d) (hd:d<=4) (hz:n / 16 ^ d=0) (hn:n<65536) :
    Go.Lib.repeatL [48] (d - (hexLow n).length)++(hexLow n).map Go.Lib.upperB=hexFix d n:=by
  rw[rep48]
  have h4:d=1\/d=2\/d=3\/d=4:=by omega
  unfold hexLow
  by_cases a1:n<16
  · have e1:n / 16=0:=by omega
    rw[if_pos a1]
    simp only[List.map_cons,List.map_nil,upper_hex n (by omega)]
    rcases h4 with rfl|rfl|rfl|rfl <;> simp[hexFix,e1,hexU0,Nat.mod_eq_of_lt a1,List.replicate]
  · by_cases a2:n<256
    · have e1:n / 16 / 16=0:=by omega
      rw[if_neg a1,if_pos a2]
      simp only[List.map_cons,List.map_nil,upper_hex (n / 16) (by omega),upper_hex (n%16) (by omega)]
      rcases h4 with rfl|rfl|rfl|rfl
      · omega
      all_goals simp[hexFix,e1,hexU0,Nat.mod_eq_of_lt (show n / 16<16 by omega),List.replicate]
    · by_cases a3:n<4096
      · have e1:n / 16 / 16 / 16=0:=by omega
        rw[if_neg a1,if_neg a2,if_pos a3]
        have e2:n / 256=n / 16 / 16:=by omega
        simp only[List.map_cons,List.map_nil,upper_hex (n / 256) (by omega),upper_hex (n / 16%16) (by omega),upper_hex (n%16) (by omega)]
        rcases h4 with rfl|rfl|rfl|rfl
        · omega
        · omega
        all_goals simp[hexFix,e1,e2,hexU0,Nat.mod_eq_of_lt (show n / 16 / 16<16 by omega),List.replicate]
      · rw[if_neg a1,if_neg a2,if_neg a3]
        have e2:n / 256=n / 16 / 16:=by omega
        have e3:n / 4096=n / 16 / 16 / 16:=by omega
        simp only[List.map_cons,List.map_nil,upper_hex (n / 4096) (by omega),upper_hex (n / 256%16) (by omega),upper_hex (n / 16%16) (by omega),upper_hex (n%16) (by omega)]
        rcases h4 with rfl|rfl|rfl|rfl
        · omega
        · omega
        · omega
        · simp[hexFix,e2,e3,Nat.mod_eq_of_lt (show n / 16 / 16 / 16<16 by omega)]
theorem bytes_append(a b:List UInt8):(⟨a.toArray⟩:ByteArray)++⟨b.toArray⟩=⟨(a++b).toArray⟩:=by
  apply ByteArray.ext
  rw[ByteArray.data_append]
  simp
theorem bytes_size(a:List UInt8):(⟨a.toArray⟩:ByteArray).size=a.length:=by
  show a.toArray.size=_
  simp
theorem digit_cut:∀(r:Nat),r<16->(⟨#[48,49,50,51,52,53,54,55,56,57,65,66,67,68,69,70]⟩:ByteArray).extract r (r+1)=⟨[hexU r].toArray⟩:=by decide
def hexText(d n:Nat):ByteArray:=if n / 16 ^ d=0 then⟨(36::hexFix d n).toArray⟩else⟨#[]⟩
theorem below_grow(w:World)(q:Nat)(os:Array Obj):RowKit.Below w.heap.size w (Sort.grow (w.drewN q) os):=
  ⟨rfl,rfl,rfl,by first|(simp[Sort.grow];done)|(simp[Sort.grow];omega),fun i hi=>by
    show((w.drewN q).heap++os)[i]?=_
    rw[Array.getElem?_append_left (by show i<w.heap.size;omega)]
    rfl⟩
end Go.Proofs.YtlacpadpdfccmaaGreatDoor.Aid
