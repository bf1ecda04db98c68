/-
An argument that can be read as data is a value of its kind: numbers, bools, strings, slices; with no program in sight.
-/
import Derived.Test.YtlacpadpdfccmaaGreatDoorAidA
import Derived.Deep.Slices
import Derived.ChangeArms
import Derived.ChangeShapes
namespace Go.Proofs.YtlacpadpdfccmaaGreatDoor.Aid
open Go.RowKit Go.ChangeShapes Go.WideShapes Go.Proofs.YtlacpadpdfccmaaGreatDoorW.PrintWords Go.Proofs.YtlacpadpdfccmaaGreatDoorW.PrintLast Go.Proofs.YtlacpadpdfccmaaGreatDoorW.PrintMore
set_option linter.unusedVariables false

/-- What reads as type t is of the kind d, and ok. -/
def Rdb {α : Type} (P : Program) (t : TypeId) (d : Kd α) (ok : α → Prop) : Prop :=
  ∀ {H : Type} (enc : TypeId × Value → H) (w : World) (fuel : Nat) (cs : List Value) (x : DataW H × List MemPlace),
    DataW.trod enc P w 0 (fun _ => true) true fuel t cs = some x → ∃ a, d.K w a cs ∧ ok a

theorem Rdb.int {P : Program} {t : TypeId} {k : IntKind} (ht : P.underlying t = some (.int k)) : Rdb P t (Kd.int k) (fun n => (Lit.int k n).wf = true) := by
  intro H enc w fuel cs x h
  obtain ⟨n, hcs, _, hw⟩ := DataW.trod_int ht h
  exact ⟨n, hcs, hw⟩
theorem Rdb.bool {P : Program} {t : TypeId} (ht : P.underlying t = some .bool) : Rdb P t Kd.bool (fun _ => True) := by
  intro H enc w fuel cs x h
  obtain ⟨n, hcs, _⟩ := DataW.trod_bool ht h
  exact ⟨n, hcs, trivial⟩
theorem Rdb.string {P : Program} {t : TypeId} (ht : P.underlying t = some .string) : Rdb P t Kd.string (fun s => s.size ≤ maxLen) := by
  intro H enc w fuel cs x h
  obtain ⟨n, hcs, _, hw⟩ := DataW.trod_string ht h
  exact ⟨n, hcs, hw⟩

theorem Rdb.slice {α : Type} {P : Program} {t e : TypeId} {d : Kd α} {ok : α → Prop} (dflt : α) (ht : P.underlying t = some (.slice e)) (hc : P.cellsOf e = d.sz) (he : Rdb P e d ok) :
    Rdb P t (Kd.slice e d) (fun xs => xs.length ≤ maxLen ∧ ∀ x ∈ xs, ok x) := by
  intro H enc w fuel cs x h
  rcases Go.Deep.open_slice ht h with ⟨rfl, _⟩ | ⟨a, len, cap, m, n, D, Pl, rfl, _, hl, hm, hmm, _, hi⟩
  · exact ⟨[], ⟨none, 0, rfl, Nat.le_refl _, rfl, by simp, fun h => absurd h (by simp)⟩, by simp, by simp⟩
  · have key : ∀ i, i < len → ∃ y : α, (∃ c : List Value, c.length = d.sz ∧ d.K w y c ∧ ∀ (j : Nat) (u : Value), c[j]? = some u → w.cell? (a.add (i * d.sz + j)) = some u) ∧ ok y := by
      intro i hil
      obtain ⟨cs', hcs, ht'⟩ := hi i (by rw [hmm]; simp; omega)
      obtain ⟨y, hk, ho⟩ := he enc w n cs' _ ht'
      obtain ⟨_, hcl, hat⟩ := World.cells?_some hcs
      have hlen := d.K_len hk
      refine ⟨y, ⟨cs', hlen, hk, fun j u hj => ?_⟩, ho⟩
      have hjl : j < cs'.length := (List.getElem?_eq_some_iff.1 hj).1
      have h2 := hat j (by omega)
      rw [Go.Deep.add_add, hc] at h2
      rw [h2, hj]
    obtain ⟨f, hf⟩ := @Go.Deep.choose_lt α ⟨dflt⟩ len _ key
    refine ⟨(List.range len).map f, ⟨some a, cap, by simp, by simpa using hl, by simp, by simp [maxLen] at hm ⊢; omega, fun _ => ⟨a, rfl, fun j p hj => ?_⟩⟩, by simp; omega, ?_⟩
    · have hj' : j < len := by
        have := (List.getElem?_eq_some_iff.1 hj).1
        simpa using this
      have hp : f j = p := by simpa [hj'] using hj
      subst hp
      exact (hf j hj').1
    · intro y hy
      obtain ⟨i, hi', rfl⟩ := List.mem_map.1 hy
      exact (hf i (List.mem_range.1 hi')).2

/-- Cells in line, each stretch reading as its type. -/
def Splits {H : Type} (enc : TypeId × Value → H) (P : Program) (w : World) (n : Nat) : List TypeId → List Value → Prop
  | [], cs => cs = []
  | t :: ts, cs => ∃ c0 c1, cs = c0 ++ c1 ∧ (∃ x, DataW.trod enc P w 0 (fun _ => true) true n t c0 = some x) ∧ Splits enc P w n ts c1
def RdF {α : Type} (P : Program) (ts : List TypeId) (d : Kd α) (ok : α → Prop) : Prop :=
  ∀ {H : Type} (enc : TypeId × Value → H) (w : World) (n : Nat) (cs : List Value), Splits enc P w n ts cs → ∃ a, d.K w a cs ∧ ok a
theorem RdF.one {α : Type} {P : Program} {t : TypeId} {d : Kd α} {ok : α → Prop} (h : Rdb P t d ok) : RdF P [t] d ok := by
  rintro H enc w n cs ⟨c0, c1, rfl, ⟨x, hx⟩, rfl⟩
  rw [List.append_nil]
  exact h enc w n c0 x hx
theorem RdF.cons {α β : Type} {P : Program} {t : TypeId} {ts : List TypeId} {d : Kd α} {d' : Kd β} {ok : α → Prop} {ok' : β → Prop} (h : Rdb P t d ok) (h' : RdF P ts d' ok') :
    RdF P (t :: ts) (Kd.pair d d') (fun x => ok x.1 ∧ ok' x.2) := by
  rintro H enc w n cs ⟨c0, c1, rfl, ⟨x, hx⟩, hs⟩
  obtain ⟨a, ha, oa⟩ := h enc w n c0 x hx
  obtain ⟨b, hb, ob⟩ := h' enc w n c1 hs
  exact ⟨(a, b), ⟨c0, c1, rfl, ha, hb⟩, oa, ob⟩
def inLine (P : Program) : Nat → List Field → Bool
  | _, [] => true
  | o, f :: r => f.offset == o && inLine P (o + P.cellsOf f.type) r
def cellsAll (P : Program) : List Field → Nat
  | [] => 0
  | f :: r => P.cellsOf f.type + cellsAll P r
theorem splits_of {H : Type} {enc : TypeId × Value → H} {P : Program} {w : World} {n : Nat} {cs : List Value} : ∀ (fs : List Field) (o : Nat), inLine P o fs = true → cs.length = o + cellsAll P fs →
    (∀ f ∈ fs, ∃ x, DataW.trod enc P w 0 (fun _ => true) true n f.type ((cs.drop f.offset).take (P.cellsOf f.type)) = some x) → Splits enc P w n (fs.map (·.type)) (cs.drop o) := by
  intro fs
  induction fs with
  | nil =>
    intro o _ hl _
    simp [Splits, cellsAll] at *
    omega
  | cons f r ih =>
    intro o hin hl hx
    simp only [inLine, Bool.and_eq_true, beq_iff_eq] at hin
    obtain ⟨ho, hin⟩ := hin
    simp only [cellsAll] at hl
    obtain ⟨x, hx0⟩ := hx f List.mem_cons_self
    rw [ho] at hx0
    have := ih (o + P.cellsOf f.type) hin (by omega) (fun g hg => hx g (List.mem_cons_of_mem _ hg))
    refine ⟨(cs.drop o).take (P.cellsOf f.type), cs.drop (o + P.cellsOf f.type), ?_, ⟨x, hx0⟩, this⟩
    rw [← List.drop_drop, List.take_append_drop]
theorem Rdb.struct {α : Type} {P : Program} {t : TypeId} {fs : Array Field} {d : Kd α} {ok : α → Prop} (ht : P.underlying t = some (.struct fs)) (hin : inLine P 0 fs.toList = true) (hc : P.cellsOf t = cellsAll P fs.toList)
    (h : RdF P (fs.toList.map (·.type)) d ok) : Rdb P t d ok := by
  intro H enc w fuel cs x hx
  obtain ⟨xs, n, _, _, hl, hlen, hf⟩ := DataW.trod_struct ht hx
  refine h enc w n cs ?_
  have := splits_of (enc := enc) (w := w) (n := n) (cs := cs) fs.toList 0 hin (by omega) (fun f hfm => ?_)
  · simpa using this
  · obtain ⟨i, hi⟩ := List.getElem?_of_mem hfm
    have hi' : fs[i]? = some f := by simpa using hi
    have hlt : i < xs.length := by
      have := (Array.getElem?_eq_some_iff.1 hi').1
      omega
    exact ⟨xs[i], by rw [hf i f hi', List.getElem?_eq_getElem hlt]⟩
theorem Rdb.iso {α β : Type} {P : Program} {t : TypeId} {d : Kd α} {ok : α → Prop} {f : β → α} (g : α → β) (hg : ∀ a, f (g a) = a) (h : Rdb P t d ok) : Rdb P t (Kd.iso d f) (fun b => ok (f b)) := by
  intro H enc w fuel cs x hx
  obtain ⟨a, ha, oa⟩ := h enc w fuel cs x hx
  exact ⟨g a, show d.K w (f (g a)) cs by rw [hg]; exact ha, by show ok (f (g a)); rw [hg]; exact oa⟩
theorem Rdb.weaken {α : Type} {P : Program} {t : TypeId} {d : Kd α} {ok ok' : α → Prop} (h : Rdb P t d ok) (hk : ∀ a, ok a → ok' a) : Rdb P t d ok' := by
  intro H enc w fuel cs x hx
  obtain ⟨a, ha, oa⟩ := h enc w fuel cs x hx
  exact ⟨a, ha, hk a oa⟩

end Go.Proofs.YtlacpadpdfccmaaGreatDoor.Aid
