/-
Rows of strings of the call's own, written whole: what sorting and striking doubles leave; with no program in sight.
-/
import Derived.Test.YtmiebnpmckjidaaDoorAidA
import Derived.Test.YtmiebnpmckjidaaDoorWKept
import Derived.Sort.Row
import Derived.Sort.Grow
import Derived.Sort.EncStr
import Derived.Lib.SlicesCompact
namespace Go.Proofs.YtmiebnpmckjidaaDoor.Aid
open Go.Proofs Go.RowKit Go.Proofs.YtmiebnpmckjidaaDoorW.PrintWords Go.Proofs.YtmiebnpmckjidaaDoorW.PrintLast Go.Proofs.YtmiebnpmckjidaaDoorW.PrintMore
open Go.Sort (Holds putRow grow putCells mapBlock)
set_option linter.unusedVariables false

theorem R_cells {e base : Nat} {W : World} {ok : Nat → Prop} {v : Value} {xs : List ByteArray} (h : Kd.R Kd.string e W base ok v xs) :
    (v = .slice none 0 0 ∧ xs = []) ∨ ∃ (g cap : Nat) (cur : Array Value), v = .slice (some ⟨g, 0, none⟩) xs.length cap ∧ base ≤ g ∧ ok g ∧ W.heap[g]? = some (.cells cur e (0, 0)) ∧ xs.length ≤ cap ∧ cap ≤ maxLen ∧ cur.size = cap ∧ cur.toList.take xs.length = xs.map Value.string := by
  obtain ⟨h0, inner, ⟨hl, ho⟩, hr⟩ := h
  have hin : inner = xs.map Value.string := by
    obtain ⟨h1, h2⟩ := hr
    have hl1 : inner.length = xs.length := by
      have : (Kd.string).sz = 1 := rfl
      rw [this, Nat.mul_one] at h1
      exact h1
    apply List.ext_getElem?
    intro j
    by_cases hj : j < xs.length
    · have := h2 j (xs[j]) (List.getElem?_eq_getElem hj)
      have hs : (Kd.string).sz = 1 := rfl
      rw [hs, Nat.mul_one] at this
      have h3 : (inner.drop j).take 1 = [Value.string xs[j]] := this
      have h4 := congrArg (fun l => l[0]?) h3
      simp at h4
      rw [List.getElem?_map, List.getElem?_eq_getElem hj, h4]
      rfl
    · rw [List.getElem?_eq_none (by omega), List.getElem?_eq_none (by simp; omega)]
  rcases ho with ⟨rfl, hn⟩ | ⟨g, cap, cur, rfl, hb, hh, hc, hm, hs, ht⟩
  · exact .inl ⟨rfl, List.eq_nil_of_length_eq_zero hn⟩
  · refine .inr ⟨g, cap, cur, rfl, hb, h0 g rfl, hh, hc, hm, ?_, ?_⟩
    · have : (Kd.string).sz = 1 := rfl
      rw [this, Nat.mul_one] at hs
      exact hs
    · have : (Kd.string).sz = 1 := rfl
      rw [this, Nat.mul_one] at ht
      rw [ht, hin]

theorem R_of_cells {e base g cap : Nat} {W : World} {ok : Nat → Prop} {cur : Array Value} (xs : List ByteArray) (hb : base ≤ g) (hok : ok g) (hh : W.heap[g]? = some (.cells cur e (0, 0))) (hn : xs.length ≤ cap) (hm : cap ≤ maxLen) (hs : cur.size = cap) (ht : cur.toList.take xs.length = xs.map Value.string) :
    Kd.R Kd.string e W base ok (.slice (some ⟨g, 0, none⟩) xs.length cap) xs := by
  refine ⟨fun k hk => ?_, xs.map Value.string, ⟨?_, .inr ⟨g, cap, cur, rfl, hb, hh, hn, hm, ?_, ?_⟩⟩, ?_, ?_⟩
  · have : g = k := by simpa [Value.ownBlock] using hk
    exact this ▸ hok
  · show (xs.map Value.string).length = xs.length * 1
    simp
  · show cur.size = cap * 1
    omega
  · show cur.toList.take (xs.length * 1) = _
    rw [Nat.mul_one, ht]
  · show (xs.map Value.string).length = xs.length * 1
    simp
  · intro j p hp
    show ((xs.map Value.string).drop (j * 1)).take 1 = [Value.string p]
    have hj : j < xs.length := (List.getElem?_eq_some_iff.1 hp).1
    have hpj : xs[j] = p := by
      rw [List.getElem?_eq_getElem hj] at hp
      exact Option.some.inj hp
    rw [Nat.mul_one, List.drop_eq_getElem_cons (by simpa using hj)]
    simp [hpj]

/-- The strings' bytes. -/
abbrev strBytes (xs : List ByteArray) : List (List UInt8) := xs.map (·.data.toList)
theorem holds_of {e g : Nat} {W : World} {cur : Array Value} {xs : List ByteArray} (hh : W.heap[g]? = some (.cells cur e (0, 0))) (ht : cur.toList.take xs.length = xs.map Value.string) :
    Holds encStr W g 0 (strBytes xs).toArray := by
  intro j hj
  have hj' : j < xs.length := by simpa using hj
  have hc : cur[j]? = some (Value.string xs[j]) := by
    have := congrArg (fun l => l[j]?) ht
    simp only [List.getElem?_take_of_lt hj', List.getElem?_map, List.getElem?_eq_getElem hj', Option.map_some, Array.getElem?_toList] at this
    exact this
  constructor
  · show W.cell? ⟨g, 0 + j, none⟩ = _
    rw [Nat.zero_add]
    unfold World.cell?
    rw [hh]
    simp [hc, getElem!_pos, hj']
  · show W.frozen? ⟨g, 0 + j, none⟩ = _
    unfold World.frozen?
    rw [hh]
    simp

theorem put_block {e g : Nat} {W : World} {cur : Array Value} {d : Array (List UInt8)} {m : Nat} {os : Array Obj} (hh : W.heap[g]? = some (.cells cur e (0, 0))) :
    (grow (putRow encStr (Sort.ahead W m) g 0 d) os).heap[g]? = some (.cells (putCells encStr 0 d cur) e (0, 0)) := by
  have hg : g < W.heap.size := (Array.getElem?_eq_some_iff.1 hh).1
  unfold grow putRow mapBlock Sort.ahead
  simp only [Array.getElem?_append, Array.size_modify, hg, if_true, Array.getElem?_modify, hh, Option.map_some]
  rfl
theorem put_other {g k : Nat} {W : World} {d : Array (List UInt8)} {m : Nat} {os : Array Obj} (hk : k < W.heap.size) (hne : k ≠ g) :
    (grow (putRow encStr (Sort.ahead W m) g 0 d) os).heap[k]? = W.heap[k]? := by
  unfold grow putRow mapBlock Sort.ahead
  simp only [Array.getElem?_append, Array.size_modify, hk, if_true, Array.getElem?_modify]
  rw [if_neg (fun h => hne h.symm)]
theorem put_size {g : Nat} {W : World} {d : Array (List UInt8)} {m : Nat} {os : Array Obj} : W.heap.size ≤ (grow (putRow encStr (Sort.ahead W m) g 0 d) os).heap.size := by
  unfold grow putRow mapBlock Sort.ahead
  simp
theorem put_take {cur : Array Value} {d : Array (List UInt8)} {n : Nat} (hn : d.size ≤ cur.size) (h : n ≤ d.size) :
    (putCells encStr 0 d cur).toList.take n = ((d.toList.take n).map fun l => (⟨l.toArray⟩ : ByteArray)).map Value.string := by
  apply List.ext_getElem?
  intro j
  by_cases hj : j < n
  · rw [List.getElem?_take_of_lt hj]
    simp only [List.getElem?_map, List.getElem?_take_of_lt hj, Array.getElem?_toList, putCells, Array.getElem?_mapIdx]
    have h1 : j < cur.size := by omega
    have h2 : j < d.size := by omega
    rw [Array.getElem?_eq_getElem h1, Array.getElem?_eq_getElem h2]
    simp [h2, getElem!_pos]
  · rw [List.getElem?_eq_none (by simp; omega), List.getElem?_eq_none (by simp; omega)]
theorem put_cells_size {cur : Array Value} {d : Array (List UInt8)} : (putCells encStr 0 d cur).size = cur.size := by simp [putCells]
/-- What a whole row written leaves: the row, what lies below, what is kept. -/
theorem put_all {e g cap : Nat} {w0 W : World} {P : Nat → Prop} {cur : Array Value} {d : Array (List UInt8)} {m : Nat} {os : Array Obj} (n : Nat) (hB : Below w0.heap.size w0 W) (hb : w0.heap.size ≤ g) (hok : P g)
    (hh : W.heap[g]? = some (.cells cur e (0, 0))) (hd : d.size ≤ cap) (hm : cap ≤ maxLen) (hs : cur.size = cap) (hn : n ≤ d.size) :
    Kd.R Kd.string e (grow (putRow encStr (Sort.ahead W m) g 0 d) os) w0.heap.size (fun k_ => (P k_ ∨ W.heap.size ≤ k_)) (.slice (some ⟨g, 0, none⟩) n cap) ((d.toList.take n).map fun l => (⟨l.toArray⟩ : ByteArray)) ∧
    Below w0.heap.size w0 (grow (putRow encStr (Sort.ahead W m) g 0 d) os) ∧ Kept W (grow (putRow encStr (Sort.ahead W m) g 0 d) os) (fun k_ => P k_) := by
  have hlen : ((d.toList.take n).map fun l => (⟨l.toArray⟩ : ByteArray)).length = n := by simp; omega
  refine ⟨?_, ?_, put_size, fun i hi hni => put_other hi (fun h => hni (h ▸ hok))⟩
  · have := R_of_cells (e := e) (base := w0.heap.size) (g := g) (cap := cap) (W := grow (putRow encStr (Sort.ahead W m) g 0 d) os) (ok := fun k_ => (P k_ ∨ W.heap.size ≤ k_)) (cur := putCells encStr 0 d cur) ((d.toList.take n).map fun l => (⟨l.toArray⟩ : ByteArray)) hb (.inl hok) (put_block hh) (by omega) hm (by rw [put_cells_size, hs]) (by rw [hlen]; exact put_take (by omega) hn)
    rw [hlen] at this
    exact this
  · refine ⟨hB.os, hB.tape, hB.output, Nat.le_trans hB.size put_size, fun k hk => ?_⟩
    rw [put_other (Nat.lt_of_lt_of_le hk hB.size) (by omega)]
    exact hB.block k hk

theorem compactUpTo_len {α : Type} [DecidableEq α] [Inhabited α] (d : Array α) : ∀ m, (Go.Lib.compactUpTo d m).length ≤ m
  | 0 => by simp [Go.Lib.compactUpTo]
  | m + 1 => by
    rw [Go.Lib.compactUpTo_succ, List.length_append]
    have := compactUpTo_len d m
    split <;> simp <;> omega
theorem compact_len {α : Type} [DecidableEq α] [Inhabited α] (zs : List α) : (Go.Lib.compact zs).length ≤ zs.length := compactUpTo_len _ _

end Go.Proofs.YtmiebnpmckjidaaDoor.Aid
