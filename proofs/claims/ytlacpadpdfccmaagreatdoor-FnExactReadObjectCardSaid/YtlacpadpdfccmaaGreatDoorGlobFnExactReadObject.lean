/-
What the package-level variables that the law FnExactReadObject lists hold,as a walk has it.
-/
import Derived.Test.YtlacpadpdfccmaaGreatDoorProg
import Derived.Test.YtlacpadpdfccmaaGreatDoorAidG
import Derived.Lib.ItoaNum
namespace Go.Proofs.YtlacpadpdfccmaaGreatDoor.PFnExactReadObject
open Go.RowKit Go.Lib Go.Proofs.YtlacpadpdfccmaaGreatDoor.Aid Go.Proofs.YtlacpadpdfccmaaGreatDoorW.PrintWords
structure GW(w:World):Prop where
  any:True
  errsx:VarIf Tryz.prog w "strconv.ErrSyntax"
  errrg:VarIf Tryz.prog w "strconv.ErrRange"
  maxlen:∃ m,w.cell? ⟨0,0,none⟩=some (.int .i64 m)
  pow10:TabIs Tryz.prog w "internal/strconv.uint64pow10" .u64 pow10Tab
  db64:TabIs Tryz.prog w "math/bits.deBruijn64tab" .u8 [0,1,56,2,57,49,28,3,61,58,42,50,38,29,17,4,62,47,59,36,45,43,51,22,53,39,33,30,24,18,12,5,63,55,48,27,60,41,37,16,46,35,44,21,52,32,23,11,54,26,40,15,34,20,31,10,25,14,19,9,13,8,7,6]
theorem GW.below{w w':World}(h:GW w)(hb:Below w.heap.size w w'):GW w':=⟨h.any,VarIf.below h.errsx hb,VarIf.below h.errrg hb,max_below h.maxlen hb,TabIs.below h.pow10 hb,TabIs.below h.db64 hb⟩
theorem GW.drewN{w:World}(h:GW w)(m:Nat):GW (w.drewN m):=h.below (pw_below_drewN (Below.refl _ _) m)
theorem GW.drew{w:World}(h:GW w):GW w.drew:=h.below (below_drew (Below.refl _ _))
theorem GW.alloc{w:World}(h:GW w)(o:Obj):GW (w.alloc o):=h.below (below_alloc (Below.refl _ _) o)
end Go.Proofs.YtlacpadpdfccmaaGreatDoor.PFnExactReadObject
