/-
What the package-level variables that the law FnExactLineOk lists hold, as a walk has it.
-/
import Derived.Test.YtffmpmgnkhlmdaaDoorProg
import Derived.Test.YtffmpmgnkhlmdaaDoorAidG
import Derived.Lib.ItoaNum
namespace Go.Proofs.YtffmpmgnkhlmdaaDoor.PFnExactLineOk
open Go.RowKit Go.Lib Go.Proofs.YtffmpmgnkhlmdaaDoor.Aid Go.Proofs.YtffmpmgnkhlmdaaDoorW.PrintWords
structure GW (w : World) : Prop where
  any : True
  maxlen : ∃ m, w.cell? ⟨0, 0, none⟩ = some (.int .i64 m)
theorem GW.below {w w' : World} (h : GW w) (hb : Below w.heap.size w w') : GW w' := ⟨h.any, max_below h.maxlen hb⟩
theorem GW.drewN {w : World} (h : GW w) (m : Nat) : GW (w.drewN m) := h.below (pw_below_drewN (Below.refl _ _) m)
theorem GW.drew {w : World} (h : GW w) : GW w.drew := h.below (below_drew (Below.refl _ _))
theorem GW.alloc {w : World} (h : GW w) (o : Obj) : GW (w.alloc o) := h.below (below_alloc (Below.refl _ _) o)
end Go.Proofs.YtffmpmgnkhlmdaaDoor.PFnExactLineOk
