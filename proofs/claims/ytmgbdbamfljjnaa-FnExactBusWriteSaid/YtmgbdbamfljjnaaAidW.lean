/-
A whole struct read out of a block of memory, and put into one: one step each, the world behind it known by its blocks alone; with no program in sight.
-/
import Derived.Test.YtmgbdbamfljjnaaAidA
import Derived.Deep.MidRow
namespace Go.Proofs.Ytmgbdbamfljjnaa.Aid
open Go.RowKit Go.Proofs.YtmgbdbamfljjnaaW.PrintWords Go.Proofs.YtmgbdbamfljjnaaW.PrintLast Go.Proofs.YtmgbdbamfljjnaaW.PrintMore
set_option linter.unusedVariables false
/-- A row of cells with others in their place from one on. -/
def putAt (arr : Array Value) : Nat → List Value → Array Value
  | _, [] => arr
  | o, v :: r => putAt (arr.setIfInBounds o v) (o + 1) r
theorem blk_setCells (b T : Nat) : ∀ (vs : List Value) (o : Nat) (w : World) (arr : Array Value), w.heap[b]? = some (.cells arr T (0, 0)) → (w.setCells b o vs).heap[b]? = some (.cells (putAt arr o vs) T (0, 0))
  | [], _, _, _, h => h
  | v :: r, o, w, arr, h => blk_setCells b T r (o + 1) _ _ (blk_put h o v rfl)
theorem grown_setCell (w : World) (p : Addr) (u : Value) : w.grownBy (w.setCell p u) (some p.block) :=
  ⟨rfl, rfl, rfl, by simp [World.setCell], fun k _ hk => Below.heap_setCell w p u k (fun e => hk (by rw [e]))⟩
theorem grown_setCells (b : Nat) : ∀ (vs : List Value) (o : Nat) (w : World), w.grownBy (w.setCells b o vs) (some b)
  | [], _, w => World.grownBy.refl w _
  | v :: r, o, w => by
    have h1 := grown_setCell w ⟨b, o, none⟩ v
    have h2 := grown_setCells b r (o + 1) (w.setCell ⟨b, o, none⟩ v)
    exact ⟨h2.os.trans h1.os, h2.tape.trans h1.tape, h2.output.trans h1.output, Nat.le_trans h1.size h2.size, fun k hk hne => (h2.block k (Nat.lt_of_lt_of_le hk h1.size) hne).trans (h1.block k hk hne)⟩
theorem there_blk {w : World} {b T : Nat} {arr : Array Value} (h : w.heap[b]? = some (.cells arr T (0, 0))) (o n : Nat) (hn : o + n ≤ arr.size) : w.there b o n := by
  intro j hj
  refine ⟨?_, blk_frozen h (o + j)⟩
  rw [blk_cell h (o + j), Array.getElem?_eq_getElem (by omega)]
  rfl
theorem range_blk {w : World} {b T : Nat} {arr : Array Value} {fr : Nat × Nat} (h : w.heap[b]? = some (.cells arr T fr)) (o : Nat) (cs : List Value) (hc : (arr.toList.drop o).take cs.length = cs) : w.rangeAt b o cs := by
  have := World.rangeAt_of_block h o cs.length
  rw [Array.toList_extract, List.extract, Nat.add_sub_cancel_left, hc] at this
  exact this
section
variable {P : Program} {ops : Array Oper} {rest : List Oper} {o : Oper} {a : Act} {Q : Exit → Act → World → Prop} {W : World}
/-- A struct is read out of a block. -/
theorem load_blk (hgd : o.guard = none) {ty : TypeId} {p : Tmp} (ho : o.op = .load ty (.tmp p)) {b off T : Nat} {arr : Array Value} {fr : Nat × Nat} (hb : W.heap[b]? = some (.cells arr T fr)) (cs : List Value) (hx : a.eval (.tmp p) = .pointer (some ⟨b, off, none⟩))
    (hc : (arr.toList.drop off).take cs.length = cs) {d : TypeDesc} (hu : P.underlying ty = some d) (hd : d.isRow = true) (hi : (P.info? ty).map (·.size) = some cs.length)
    (h : wpList P ops Q rest (a.put o.dst (.agg cs.toArray)) W) : wpList P ops Q (o :: rest) a W :=
  wpList_load_mid hgd ty _ ho b off hx cs d (range_blk hb off cs hc) hu hd hi h
/-- A struct is put into a block. -/
theorem store_blk (hgd : o.guard = none) {ty : TypeId} {p : Tmp} {v : Operand} (ho : o.op = .store ty (.tmp p) v) (hN : o.dst = none) {b off T : Nat} {arr cells : Array Value} (arr' : Array Value) (hb : W.heap[b]? = some (.cells arr T (0, 0))) (hx : a.eval (.tmp p) = .pointer (some ⟨b, off, none⟩)) (hy : a.eval v = .agg cells)
    (hn : off + cells.size ≤ arr.size) (hi : (P.info? ty).map (·.size) = some cells.size) (h1 : cells.all (·.oneCell') = true) (he : putAt arr off cells.toList = arr')
    (h : ∀ w', w'.heap[b]? = some (.cells arr' T (0, 0)) → W.grownBy w' (some b) → wpList P ops Q rest a w') : wpList P ops Q (o :: rest) a W := by
  refine wpList_store_mid hgd ty _ v ho b off cells hx hy (there_blk hb off _ hn) hi h1 ?_
  rw [hN]
  refine h _ ?_ (grown_setCells b _ off W)
  rw [← he]
  exact blk_setCells b T _ off W arr hb
/-- One cell is put into a block. -/
theorem cell_blk (hgd : o.guard = none) {ty : TypeId} {p : Tmp} {v : Operand} (ho : o.op = .store ty (.tmp p) v) (hN : o.dst = none) {b off T : Nat} {arr : Array Value} (arr' : Array Value) (u : Value) (hb : W.heap[b]? = some (.cells arr T (0, 0)))
    (hrun : (execOp a.eval o).run P W = .ok .skip (W.setCell ⟨b, off, none⟩ u)) (he : arr.setIfInBounds off u = arr')
    (h : ∀ w', w'.heap[b]? = some (.cells arr' T (0, 0)) → W.grownBy w' (some b) → wpList P ops Q rest a w') : wpList P ops Q (o :: rest) a W := by
  refine store_event hgd ho hN hrun fun w' hw => ?_
  subst hw
  exact h _ (blk_put hb off u he) (grown_setCell W ⟨b, off, none⟩ u)
/-- One cell is read. -/
theorem event_same (hgd : o.guard = none) {v : Value} (hrun : (execOp a.eval o).run P W = .ok (.value v) W) (h : wpList P ops Q rest (a.put o.dst v) W) : wpList P ops Q (o :: rest) a W := Kd.event_run hgd hrun h
end
/-- What the cells of a block hold, one by one, and that each may be written. -/
def allCells (w : World) (g : Nat) : Nat → List Value → Prop
  | _, [] => True
  | i, v :: r => w.cell? ⟨g, i, none⟩ = some v ∧ w.frozen? ⟨g, i, none⟩ = false ∧ allCells w g (i + 1) r
theorem cells_from {w : World} {g T : Nat} (cs : List Value) (h : w.heap[g]? = some (.cells cs.toArray T (0, 0))) : ∀ (r : List Value) (i : Nat), cs.drop i = r → allCells w g i r
  | [], _, _ => trivial
  | v :: r, i, e => by
    refine ⟨?_, blk_frozen h i, cells_from cs h r (i + 1) ?_⟩
    · rw [blk_cell h i]
      have := congrArg (·[0]?) e
      simpa using this
    · rw [← List.drop_drop, e]
      rfl
theorem cells_all {w : World} {g T : Nat} {cs : List Value} (h : w.heap[g]? = some (.cells cs.toArray T (0, 0))) : allCells w g 0 cs := cells_from cs h cs 0 rfl
section
variable {P : Program} {ops : Array Oper} {rest : List Oper} {o : Oper} {a : Act} {Q : Exit → Act → World → Prop} {W : World}
/-- A struct is read out of a block: its cells are reckoned from the block's. -/
theorem load_blkg (hgd : o.guard = none) {ty : TypeId} {p : Tmp} (ho : o.op = .load ty (.tmp p)) {b T : Nat} {arr : List Value} {fr : Nat × Nat} (hb : W.heap[b]? = some (.cells arr.toArray T fr)) (off n : Nat) (hx : a.eval (.tmp p) = .pointer (some ⟨b, off, none⟩))
    (hl : ((arr.drop off).take n).length = n) {d : TypeDesc} (hu : P.underlying ty = some d) (hd : d.isRow = true) (hi : (P.info? ty).map (·.size) = some n)
    (h : wpList P ops Q rest (a.put o.dst (.agg ((arr.drop off).take n).toArray)) W) : wpList P ops Q (o :: rest) a W :=
  load_blk hgd ho hb _ hx (by rw [hl]) hu hd (by rw [hl]; exact hi) h
/-- A struct is put into a block: the block's cells behind it are reckoned. -/
theorem store_blkg (hgd : o.guard = none) {ty : TypeId} {p : Tmp} {v : Operand} (ho : o.op = .store ty (.tmp p) v) (hN : o.dst = none) {b T : Nat} {arr cells : List Value} (hb : W.heap[b]? = some (.cells arr.toArray T (0, 0))) (off : Nat) (hx : a.eval (.tmp p) = .pointer (some ⟨b, off, none⟩)) (hy : a.eval v = .agg cells.toArray)
    (hn : off + cells.length ≤ arr.length) (hi : (P.info? ty).map (·.size) = some cells.length) (h1 : cells.all (·.oneCell') = true)
    (h : ∀ w', w'.heap[b]? = some (.cells (putAt arr.toArray off cells) T (0, 0)) → W.grownBy w' (some b) → wpList P ops Q rest a w') : wpList P ops Q (o :: rest) a W :=
  store_blk hgd ho hN (putAt arr.toArray off cells) hb hx hy (by simpa using hn) (by simpa using hi) (by simpa using h1) rfl h
end
section
variable {P : Program} {ops : Array Oper} {rest : List Oper} {o : Oper} {a : Act} {Q : Exit → Act → World → Prop} {W : World}
/-- One cell is read out of a block. -/
theorem load_one (hgd : o.guard = none) {ty : TypeId} {p : Tmp} (ho : o.op = .load ty (.tmp p)) {b T : Nat} {arr : List Value} {fr : Nat × Nat} (hb : W.heap[b]? = some (.cells arr.toArray T fr)) (off : Nat) (hx : a.eval (.tmp p) = .pointer (some ⟨b, off, none⟩))
    {u : Value} (hv : arr[off]? = some u) {d : TypeDesc} (hu : P.underlying ty = some d) (hd : d.isRow = false) (h : wpList P ops Q rest (a.put o.dst u) W) : wpList P ops Q (o :: rest) a W := by
  have hagg : (isAgg ty).run P W = .ok false W := by
    unfold isAgg
    rw [Sem.run_bind, run_underlying hu W]
    cases d <;> simp_all
  have hc : W.cell? ⟨b, off, none⟩ = some u := (cell_of_row W b off arr.toArray T fr hb).trans (by simpa using hv)
  refine event_same hgd (v := u) ?_ h
  unfold execOp
  simp [ho, hx, Instr.loadAt, Instr.sureAddr, Sem.run_bind, loadVar, hagg, hc]
/-- One cell is put into a block. -/
theorem store_one (hgd : o.guard = none) {ty : TypeId} {p : Tmp} {v : Operand} (ho : o.op = .store ty (.tmp p) v) (hN : o.dst = none) {b T : Nat} {arr : List Value} (hb : W.heap[b]? = some (.cells arr.toArray T (0, 0))) (off : Nat) (hx : a.eval (.tmp p) = .pointer (some ⟨b, off, none⟩)) {u : Value} (hy : a.eval v = u) (hcs : u.cells = #[u])
    (hn : off + 1 ≤ arr.length) (hi : (P.info? ty).map (·.size) = some 1) (h1 : u.oneCell' = true)
    (h : ∀ w', w'.heap[b]? = some (.cells (arr.set off u).toArray T (0, 0)) → W.grownBy w' (some b) → wpList P ops Q rest a w') : wpList P ops Q (o :: rest) a W := by
  have ht := there_blk hb off 1 (by simpa using hn)
  have hst := run_storeCells_cells (P := P) b off [u] 0 W (fun j hj => by simpa using (ht j (by simpa using hj)).1) (fun j hj => by simpa using (ht j (by simpa using hj)).2) (fun v hv => by simp at hv; rw [hv]; exact h1)
  refine store_event hgd ho hN (w1 := W.setCell ⟨b, off, none⟩ u) ?_ fun w' hw => ?_
  · cases hq : P.info? ty with
    | none => simp [hq] at hi
    | some i =>
      have hs : i.size = 1 := by simpa [hq] using hi
      unfold execOp
      simp only [Nat.add_zero, World.setCells] at hst
      simp [ho, hx, hy, Instr.storeAt, Instr.sureAddr, Sem.run_bind, storeVar, sizeOf, typeInfo, hq, hs, hcs, hst]
  · subst hw
    exact h _ (blk_put hb off u (by simp)) (grown_setCell W ⟨b, off, none⟩ u)
end
section
variable {P : Program} {o : Oper} {a : Act} {W : World}
/-- What reading a struct out of a block yields (for regions that draw their order). -/
theorem run_load_blkg {ty : TypeId} {p : Tmp} (ho : o.op = .load ty (.tmp p)) {b T : Nat} {arr : List Value} {fr : Nat × Nat} (hb : W.heap[b]? = some (.cells arr.toArray T fr)) (off n : Nat) (hx : a.eval (.tmp p) = .pointer (some ⟨b, off, none⟩))
    (hl : ((arr.drop off).take n).length = n) {d : TypeDesc} (hu : P.underlying ty = some d) (hd : d.isRow = true) (hi : (P.info? ty).map (·.size) = some n) {cs : List Value} (hcs : (arr.drop off).take n = cs) :
    (execOp a.eval o).run P W = .ok (.value (.agg cs.toArray)) W := by
  subst hcs
  have hr := run_loadVar_mid (P := P) W b off ty _ d (range_blk hb off _ (by rw [hl])) hu hd (by rw [hl]; exact hi)
  unfold execOp
  simp only [ho, hx, Instr.loadAt, Instr.sureAddr, Sem.run_bind, Sem.run_pure, Result.andThen_ok, hr]
end
section
variable {P : Program} {o : Oper} {a : Act} {W : World}
end
theorem below_grown {w W W' : World} (h : Below w.heap.size w W) {b : Nat} (hg : W.grownBy W' (some b)) (hb : w.heap.size ≤ b) : Below w.heap.size w W' := pw_below_grown h (some b) h.size hg (fun k hk => by injection hk with hk; omega)
theorem blk_other {W W' : World} {g b : Nat} {o : Obj} (h : W.heap[g]? = some o) (hg : W.grownBy W' (some b)) (hne : g ≠ b) : W'.heap[g]? = some o := blk_grown h hg (fun e => hne (by injection e))
end Go.Proofs.Ytmgbdbamfljjnaa.Aid
