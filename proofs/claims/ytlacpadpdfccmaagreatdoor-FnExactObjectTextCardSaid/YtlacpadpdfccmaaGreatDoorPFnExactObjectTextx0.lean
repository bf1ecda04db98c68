/- What the Go functions that the law FnExactObjectText reaches compute, function by function, and that Go comes to just that. -/
import Derived.Test.YtlacpadpdfccmaaGreatDoorProg
import Derived.Below
import Derived.Deep.Draws
import Derived.Deep.AppendLies
import Derived.Maps.AppendAt
import Derived.OwnWalk
import Derived.Laws.BytesArg
import Derived.Laws.MakeOwn
import Derived.Laws.OwnMore
import Derived.Deep.OwnRows
import Derived.Tactics
import Derived.Lib.ConvBytes
import Derived.Laws.Slices
import Derived.WalkKit
import Derived.KernelRfl
import Derived.RowKit3
import Derived.Deep.LoopGhost
import Derived.Deep.QuietTactic
import Derived.BigQuiet
import Derived.WideLaws
import Derived.Deep.DeepCutAuto
import Derived.Deep.CutBlock
import Derived.Deep.RegionHeld3
import Derived.Laws.Rows
import Derived.Lib.AppendStr
import Derived.ArgAppend
import Derived.Laws.IdiomCopy
import Derived.OrdersHeld
import Derived.Laws.BitsLemmas
import Derived.RowKit
import Derived.Test.YtlacpadpdfccmaaGreatDoorShelf
import Derived.RegionTactic
import Derived.RegionCalls
import Derived.Deep.RegionWith
import Derived.Laws.IdiomStrings
import Derived.Shelf.Strings.BuilderK
import Derived.Shelf.Abstract
import Derived.Lib.Hide
import Derived.Lib.Walk
import Derived.Test.YtlacpadpdfccmaaGreatDoorAidH
import Derived.Test.YtlacpadpdfccmaaGreatDoorAidS
import Derived.Test.YtlacpadpdfccmaaGreatDoorGlobFnExactObjectText
import Derived.Test.YtlacpadpdfccmaaGreatDoorWWords
import Derived.Test.YtlacpadpdfccmaaGreatDoorWLast
import Derived.Test.YtlacpadpdfccmaaGreatDoorWTab
import Derived.Test.YtlacpadpdfccmaaGreatDoorWFour
import Derived.Test.YtlacpadpdfccmaaGreatDoorWQPut
import Derived.Test.YtlacpadpdfccmaaGreatDoorWApart
import Derived.Test.YtlacpadpdfccmaaGreatDoorWArr
import Derived.Test.YtlacpadpdfccmaaGreatDoorWZeros
import Derived.Test.YtlacpadpdfccmaaGreatDoorWFoot
import Derived.Test.YtlacpadpdfccmaaGreatDoorWKept
import Derived.Test.YtlacpadpdfccmaaGreatDoorWShare
import Derived.Test.YtlacpadpdfccmaaGreatDoorWN
import Derived.Test.YtlacpadpdfccmaaGreatDoorWFootNe
import Derived.Test.YtlacpadpdfccmaaGreatDoorWAt
import Derived.Test.YtlacpadpdfccmaaGreatDoorWEqStruct
import Derived.Test.YtlacpadpdfccmaaGreatDoorWRepsOne
import Derived.Test.YtlacpadpdfccmaaGreatDoorWInv
import Derived.Test.YtlacpadpdfccmaaGreatDoorWInvWords
import Derived.Test.YtlacpadpdfccmaaGreatDoorWGuard
import Derived.Test.YtlacpadpdfccmaaGreatDoorWNEv
import Derived.Test.YtlacpadpdfccmaaGreatDoorWMore
import Derived.Test.YtlacpadpdfccmaaGreatDoorAidZ
namespace Go.Proofs.YtlacpadpdfccmaaGreatDoor.PFnExactObjectText
open Go.RowKit Go.Proofs.YtlacpadpdfccmaaGreatDoorW.PrintWords Go.Proofs.YtlacpadpdfccmaaGreatDoorW.PrintLast Go.Proofs.YtlacpadpdfccmaaGreatDoorW.PrintMore
attribute [local go_sem] max2_int min2_int max_two min_two max_three min_three max_four min_four   -- for this text's walks alone
set_option linter.unusedVariables false
set_option linter.unusedSimpArgs false

def errW : Option Int → Value
  | none => .nilIface
  | some c => .iface 0 (.int .i64 c)
theorem errW_none : errW none = .nilIface := rfl
theorem errW_some (c : Int) : errW (some c) = .iface 0 (.int .i64 c) := rfl

theorem info9 : (Tryz.prog.info? 9).map (fun i => (i.zero, i.size, i.bytes)) = some (some (.string ⟨#[]⟩), 1, 16) := by kernel_rfl
theorem info71 : (Tryz.prog.info? 71).map (fun i => (i.zero, i.size, i.bytes)) = some (some (.agg #[(.string ⟨#[]⟩), (.int .i64 0), (.int .i64 0), (.int .i64 0), (.string ⟨#[]⟩), (.slice none 0 0)]), 6, 80) := by kernel_rfl
theorem info72 : (Tryz.prog.info? 72).map (fun i => (i.zero, i.size, i.bytes)) = some (some (.agg #[(.string ⟨#[]⟩), (.int .i64 0), (.int .i64 0), (.bool false)]), 4, 40) := by kernel_rfl
theorem info75 : (Tryz.prog.info? 75).map (fun i => (i.zero, i.size, i.bytes)) = some (some (.slice none 0 0), 1, 24) := by kernel_rfl
theorem info79 : (Tryz.prog.info? 79).map (fun i => (i.zero, i.size, i.bytes)) = some (some (.agg #[(.int .i64 0), (.int .i64 0), (.slice none 0 0)]), 3, 40) := by kernel_rfl
theorem info124 : (Tryz.prog.info? 124).map (fun i => (i.zero, i.size, i.bytes)) = some (some (.agg #[(.int .i64 0), (.int .i64 0), (.string ⟨#[]⟩)]), 3, 32) := by kernel_rfl
-- the values' own types
structure S119 where
  f0 : Int
  f1 : Int
  f2 : ByteArray
def z119 : S119 := ⟨(0 : Int), (0 : Int), (⟨#[]⟩ : ByteArray)⟩
def k119 : Kd S119 := Kd.iso (Kd.pair (Kd.int .i64) (Kd.pair (Kd.int .i64) Kd.string)) (fun x : S119 => (x.f0, x.f1, x.f2))
theorem k119_open {w : World} {x : S119} {cs : List Value} (h : k119.K w x cs) : cs = [.int .i64 x.f0, .int .i64 x.f1, .string x.f2] := by
  obtain ⟨_, _, rfl, rfl, ⟨_, _, rfl, rfl, rfl⟩⟩ := h
  exact rfl
def rd_T119 (xs : List S119) (i : Int) : S119 := xs.getD i.toNat z119
theorem at_T119 {w : World} {A : Option Addr} {n : Nat} {xs : List S119} (h : Kd.C k119 w A n xs) (i : Int) (h0 : 0 ≤ i) (h1 : i < n) : ∃ ad , A = some ad ∧ w.cell? (ad.add (i.toNat * 3)) = some (.int .i64 (rd_T119 xs i).f0) ∧ w.cell? ⟨(ad.add (i.toNat * 3)).block, (ad.add (i.toNat * 3)).off + 1, none⟩ = some (.int .i64 (rd_T119 xs i).f1) ∧ w.cell? ⟨(ad.add (i.toNat * 3)).block, (ad.add (i.toNat * 3)).off + 2, none⟩ = some (.string (rd_T119 xs i).f2) := by
  obtain ⟨ad, c, e, _, hK, hc0⟩ := Kd.C_get h z119 i h0 h1
  have hc : ∀ j u, c[j]? = some u → w.cell? (ad.add (i.toNat * 3 + j)) = some u := hc0
  obtain rfl := k119_open hK
  exact ⟨ad, e, hc 0 _ rfl, by rw [← add_field _ _ 1 (by omega)]; exact hc 1 _ rfl, by rw [← add_field _ _ 2 (by omega)]; exact hc 2 _ rfl⟩

def rd_L3 (xs : List (List S119)) (i : Int) : (List S119) := xs.getD i.toNat ([] : List S119)
theorem at_L3 {w : World} {A : Option Addr} {n : Nat} {xs : List (List S119)} (h : Kd.C (Kd.slice 119 k119) w A n xs) (i : Int) (h0 : 0 ≤ i) (h1 : i < n) : ∃ ad A0 c0, A = some ad ∧ w.cell? (ad.add i.toNat) = some (.slice A0 (rd_L3 xs i).length c0) ∧ (rd_L3 xs i).length ≤ c0 ∧ k119.C w A0 (rd_L3 xs i).length (rd_L3 xs i) := by
  obtain ⟨ad, c, e, _, hK, hc0⟩ := Kd.C_get h ([] : List S119) i h0 h1
  have hc : ∀ j u, c[j]? = some u → w.cell? (ad.add (i.toNat * 1 + j)) = some u := hc0
  obtain ⟨A0, c0, rfl, l0, g0⟩ := hK
  exact ⟨ad, A0, c0, e, by have hq := hc 0 _ rfl; rwa [Nat.mul_one, Nat.add_zero] at hq, l0, g0⟩

structure S150 where
  f0 : Int
  f1 : Int
  f2 : (List S119)
def z150 : S150 := ⟨(0 : Int), (0 : Int), ([] : List S119)⟩
def k150 : Kd S150 := Kd.iso (Kd.pair (Kd.int .i64) (Kd.pair (Kd.int .i64) (Kd.slice 119 k119))) (fun x : S150 => (x.f0, x.f1, x.f2))
theorem k150_open {w : World} {x : S150} {cs : List Value} (h : k150.K w x cs) : ∃ A2 c2, cs = [.int .i64 x.f0, .int .i64 x.f1, .slice A2 x.f2.length c2] ∧ x.f2.length ≤ c2 ∧ k119.C w A2 x.f2.length x.f2 := by
  obtain ⟨_, _, rfl, rfl, ⟨_, _, rfl, rfl, ⟨A2, c2, rfl, l2, g2⟩⟩⟩ := h
  exact ⟨A2, c2, rfl, l2, g2⟩
def rd_T150 (xs : List S150) (i : Int) : S150 := xs.getD i.toNat z150
theorem at_T150 {w : World} {A : Option Addr} {n : Nat} {xs : List S150} (h : Kd.C k150 w A n xs) (i : Int) (h0 : 0 ≤ i) (h1 : i < n) : ∃ ad A2 c2, A = some ad ∧ w.cell? (ad.add (i.toNat * 3)) = some (.int .i64 (rd_T150 xs i).f0) ∧ w.cell? ⟨(ad.add (i.toNat * 3)).block, (ad.add (i.toNat * 3)).off + 1, none⟩ = some (.int .i64 (rd_T150 xs i).f1) ∧ w.cell? ⟨(ad.add (i.toNat * 3)).block, (ad.add (i.toNat * 3)).off + 2, none⟩ = some (.slice A2 (rd_T150 xs i).f2.length c2) ∧ (rd_T150 xs i).f2.length ≤ c2 ∧ k119.C w A2 (rd_T150 xs i).f2.length (rd_T150 xs i).f2 := by
  obtain ⟨ad, c, e, _, hK, hc0⟩ := Kd.C_get h z150 i h0 h1
  have hc : ∀ j u, c[j]? = some u → w.cell? (ad.add (i.toNat * 3 + j)) = some u := hc0
  obtain ⟨A2, c2, rfl, l2, g2⟩ := k150_open hK
  exact ⟨ad, A2, c2, e, hc 0 _ rfl, by rw [← add_field _ _ 1 (by omega)]; exact hc 1 _ rfl, by rw [← add_field _ _ 2 (by omega)]; exact hc 2 _ rfl, l2, g2⟩

structure S62 where
  f0 : ByteArray
  f1 : Int
  f2 : Int
  f3 : Int
  f4 : ByteArray
  f5 : (List S150)
def z62 : S62 := ⟨(⟨#[]⟩ : ByteArray), (0 : Int), (0 : Int), (0 : Int), (⟨#[]⟩ : ByteArray), ([] : List S150)⟩
def k62 : Kd S62 := Kd.iso (Kd.pair Kd.string (Kd.pair (Kd.int .i64) (Kd.pair (Kd.int .i64) (Kd.pair (Kd.int .i64) (Kd.pair Kd.string (Kd.slice 150 k150)))))) (fun x : S62 => (x.f0, x.f1, x.f2, x.f3, x.f4, x.f5))
theorem k62_open {w : World} {x : S62} {cs : List Value} (h : k62.K w x cs) : ∃ A5 c5, cs = [.string x.f0, .int .i64 x.f1, .int .i64 x.f2, .int .i64 x.f3, .string x.f4, .slice A5 x.f5.length c5] ∧ x.f5.length ≤ c5 ∧ k150.C w A5 x.f5.length x.f5 := by
  obtain ⟨_, _, rfl, rfl, ⟨_, _, rfl, rfl, ⟨_, _, rfl, rfl, ⟨_, _, rfl, rfl, ⟨_, _, rfl, rfl, ⟨A5, c5, rfl, l5, g5⟩⟩⟩⟩⟩⟩ := h
  exact ⟨A5, c5, rfl, l5, g5⟩
def rd_T62 (xs : List S62) (i : Int) : S62 := xs.getD i.toNat z62
theorem at_T62 {w : World} {A : Option Addr} {n : Nat} {xs : List S62} (h : Kd.C k62 w A n xs) (i : Int) (h0 : 0 ≤ i) (h1 : i < n) : ∃ ad A5 c5, A = some ad ∧ w.cell? (ad.add (i.toNat * 6)) = some (.string (rd_T62 xs i).f0) ∧ w.cell? ⟨(ad.add (i.toNat * 6)).block, (ad.add (i.toNat * 6)).off + 1, none⟩ = some (.int .i64 (rd_T62 xs i).f1) ∧ w.cell? ⟨(ad.add (i.toNat * 6)).block, (ad.add (i.toNat * 6)).off + 2, none⟩ = some (.int .i64 (rd_T62 xs i).f2) ∧ w.cell? ⟨(ad.add (i.toNat * 6)).block, (ad.add (i.toNat * 6)).off + 3, none⟩ = some (.int .i64 (rd_T62 xs i).f3) ∧ w.cell? ⟨(ad.add (i.toNat * 6)).block, (ad.add (i.toNat * 6)).off + 4, none⟩ = some (.string (rd_T62 xs i).f4) ∧ w.cell? ⟨(ad.add (i.toNat * 6)).block, (ad.add (i.toNat * 6)).off + 5, none⟩ = some (.slice A5 (rd_T62 xs i).f5.length c5) ∧ (rd_T62 xs i).f5.length ≤ c5 ∧ k150.C w A5 (rd_T62 xs i).f5.length (rd_T62 xs i).f5 := by
  obtain ⟨ad, c, e, _, hK, hc0⟩ := Kd.C_get h z62 i h0 h1
  have hc : ∀ j u, c[j]? = some u → w.cell? (ad.add (i.toNat * 6 + j)) = some u := hc0
  obtain ⟨A5, c5, rfl, l5, g5⟩ := k62_open hK
  exact ⟨ad, A5, c5, e, hc 0 _ rfl, by rw [← add_field _ _ 1 (by omega)]; exact hc 1 _ rfl, by rw [← add_field _ _ 2 (by omega)]; exact hc 2 _ rfl, by rw [← add_field _ _ 3 (by omega)]; exact hc 3 _ rfl, by rw [← add_field _ _ 4 (by omega)]; exact hc 4 _ rfl, by rw [← add_field _ _ 5 (by omega)]; exact hc 5 _ rfl, l5, g5⟩

structure S65 where
  f0 : ByteArray
  f1 : Int
  f2 : Int
  f3 : Bool
def z65 : S65 := ⟨(⟨#[]⟩ : ByteArray), (0 : Int), (0 : Int), false⟩
def k65 : Kd S65 := Kd.iso (Kd.pair Kd.string (Kd.pair (Kd.int .i64) (Kd.pair (Kd.int .i64) Kd.bool))) (fun x : S65 => (x.f0, x.f1, x.f2, x.f3))
theorem k65_open {w : World} {x : S65} {cs : List Value} (h : k65.K w x cs) : cs = [.string x.f0, .int .i64 x.f1, .int .i64 x.f2, .bool x.f3] := by
  obtain ⟨_, _, rfl, rfl, ⟨_, _, rfl, rfl, ⟨_, _, rfl, rfl, rfl⟩⟩⟩ := h
  exact rfl
def rd_T65 (xs : List S65) (i : Int) : S65 := xs.getD i.toNat z65
theorem at_T65 {w : World} {A : Option Addr} {n : Nat} {xs : List S65} (h : Kd.C k65 w A n xs) (i : Int) (h0 : 0 ≤ i) (h1 : i < n) : ∃ ad , A = some ad ∧ w.cell? (ad.add (i.toNat * 4)) = some (.string (rd_T65 xs i).f0) ∧ w.cell? ⟨(ad.add (i.toNat * 4)).block, (ad.add (i.toNat * 4)).off + 1, none⟩ = some (.int .i64 (rd_T65 xs i).f1) ∧ w.cell? ⟨(ad.add (i.toNat * 4)).block, (ad.add (i.toNat * 4)).off + 2, none⟩ = some (.int .i64 (rd_T65 xs i).f2) ∧ w.cell? ⟨(ad.add (i.toNat * 4)).block, (ad.add (i.toNat * 4)).off + 3, none⟩ = some (.bool (rd_T65 xs i).f3) := by
  obtain ⟨ad, c, e, _, hK, hc0⟩ := Kd.C_get h z65 i h0 h1
  have hc : ∀ j u, c[j]? = some u → w.cell? (ad.add (i.toNat * 4 + j)) = some u := hc0
  obtain rfl := k65_open hK
  exact ⟨ad, e, hc 0 _ rfl, by rw [← add_field _ _ 1 (by omega)]; exact hc 1 _ rfl, by rw [← add_field _ _ 2 (by omega)]; exact hc 2 _ rfl, by rw [← add_field _ _ 3 (by omega)]; exact hc 3 _ rfl⟩

structure S124 where
  f0 : Int
  f1 : Int
  f2 : ByteArray
def z124 : S124 := ⟨(0 : Int), (0 : Int), (⟨#[]⟩ : ByteArray)⟩
def k124 : Kd S124 := Kd.iso (Kd.pair (Kd.int .i64) (Kd.pair (Kd.int .i64) Kd.string)) (fun x : S124 => (x.f0, x.f1, x.f2))
theorem k124_open {w : World} {x : S124} {cs : List Value} (h : k124.K w x cs) : cs = [.int .i64 x.f0, .int .i64 x.f1, .string x.f2] := by
  obtain ⟨_, _, rfl, rfl, ⟨_, _, rfl, rfl, rfl⟩⟩ := h
  exact rfl
theorem k124_openM {w : World} {base : Nat} {ok : Nat → Prop} {x : S124} {cs : List Value} (h : k124.M w base ok x cs) : cs = [.int .i64 x.f0, .int .i64 x.f1, .string x.f2] := by
  obtain ⟨_, _, rfl, rfl, ⟨_, _, rfl, rfl, rfl⟩⟩ := h
  exact rfl
theorem k124_mkM (w : World) (base : Nat) (ok : Nat → Prop) (x : S124)  : k124.M w base ok x [.int .i64 x.f0, .int .i64 x.f1, .string x.f2] := ⟨[.int .i64 x.f0], [.int .i64 x.f1, .string x.f2], rfl, rfl, ⟨[.int .i64 x.f1], [.string x.f2], rfl, rfl, rfl⟩⟩
def rd_T124 (xs : List S124) (i : Int) : S124 := xs.getD i.toNat z124
theorem at_T124 {w : World} {A : Option Addr} {n : Nat} {xs : List S124} (h : Kd.C k124 w A n xs) (i : Int) (h0 : 0 ≤ i) (h1 : i < n) : ∃ ad , A = some ad ∧ w.cell? (ad.add (i.toNat * 3)) = some (.int .i64 (rd_T124 xs i).f0) ∧ w.cell? ⟨(ad.add (i.toNat * 3)).block, (ad.add (i.toNat * 3)).off + 1, none⟩ = some (.int .i64 (rd_T124 xs i).f1) ∧ w.cell? ⟨(ad.add (i.toNat * 3)).block, (ad.add (i.toNat * 3)).off + 2, none⟩ = some (.string (rd_T124 xs i).f2) := by
  obtain ⟨ad, c, e, _, hK, hc0⟩ := Kd.C_get h z124 i h0 h1
  have hc : ∀ j u, c[j]? = some u → w.cell? (ad.add (i.toNat * 3 + j)) = some u := hc0
  obtain rfl := k124_open hK
  exact ⟨ad, e, hc 0 _ rfl, by rw [← add_field _ _ 1 (by omega)]; exact hc 1 _ rfl, by rw [← add_field _ _ 2 (by omega)]; exact hc 2 _ rfl⟩

def rd_L10 (xs : List (List S124)) (i : Int) : (List S124) := xs.getD i.toNat ([] : List S124)
theorem at_L10 {w : World} {A : Option Addr} {n : Nat} {xs : List (List S124)} (h : Kd.C (Kd.slice 124 k124) w A n xs) (i : Int) (h0 : 0 ≤ i) (h1 : i < n) : ∃ ad A0 c0, A = some ad ∧ w.cell? (ad.add i.toNat) = some (.slice A0 (rd_L10 xs i).length c0) ∧ (rd_L10 xs i).length ≤ c0 ∧ k124.C w A0 (rd_L10 xs i).length (rd_L10 xs i) := by
  obtain ⟨ad, c, e, _, hK, hc0⟩ := Kd.C_get h ([] : List S124) i h0 h1
  have hc : ∀ j u, c[j]? = some u → w.cell? (ad.add (i.toNat * 1 + j)) = some u := hc0
  obtain ⟨A0, c0, rfl, l0, g0⟩ := hK
  exact ⟨ad, A0, c0, e, by have hq := hc 0 _ rfl; rwa [Nat.mul_one, Nat.add_zero] at hq, l0, g0⟩

structure S79 where
  f0 : Int
  f1 : Int
  f2 : (List S124)
def z79 : S79 := ⟨(0 : Int), (0 : Int), ([] : List S124)⟩
def k79 : Kd S79 := Kd.iso (Kd.pair (Kd.int .i64) (Kd.pair (Kd.int .i64) (Kd.slice 124 k124))) (fun x : S79 => (x.f0, x.f1, x.f2))
theorem k79_open {w : World} {x : S79} {cs : List Value} (h : k79.K w x cs) : ∃ A2 c2, cs = [.int .i64 x.f0, .int .i64 x.f1, .slice A2 x.f2.length c2] ∧ x.f2.length ≤ c2 ∧ k124.C w A2 x.f2.length x.f2 := by
  obtain ⟨_, _, rfl, rfl, ⟨_, _, rfl, rfl, ⟨A2, c2, rfl, l2, g2⟩⟩⟩ := h
  exact ⟨A2, c2, rfl, l2, g2⟩
theorem k79_openM {w : World} {base : Nat} {ok : Nat → Prop} {x : S79} {cs : List Value} (h : k79.M w base ok x cs) : ∃ v2, cs = [.int .i64 x.f0, .int .i64 x.f1, v2] ∧ k124.R 124 w base ok v2 x.f2 := by
  obtain ⟨_, _, rfl, rfl, ⟨_, _, rfl, rfl, ⟨v2, rfl, g2⟩⟩⟩ := h
  exact ⟨v2, rfl, g2⟩
theorem k79_mkM (w : World) (base : Nat) (ok : Nat → Prop) (x : S79) {v2 : Value} (g2 : k124.R 124 w base ok v2 x.f2) : k79.M w base ok x [.int .i64 x.f0, .int .i64 x.f1, v2] := ⟨[.int .i64 x.f0], [.int .i64 x.f1, v2], rfl, rfl, ⟨[.int .i64 x.f1], [v2], rfl, rfl, ⟨v2, rfl, g2⟩⟩⟩
def rd_T79 (xs : List S79) (i : Int) : S79 := xs.getD i.toNat z79
theorem at_T79 {w : World} {A : Option Addr} {n : Nat} {xs : List S79} (h : Kd.C k79 w A n xs) (i : Int) (h0 : 0 ≤ i) (h1 : i < n) : ∃ ad A2 c2, A = some ad ∧ w.cell? (ad.add (i.toNat * 3)) = some (.int .i64 (rd_T79 xs i).f0) ∧ w.cell? ⟨(ad.add (i.toNat * 3)).block, (ad.add (i.toNat * 3)).off + 1, none⟩ = some (.int .i64 (rd_T79 xs i).f1) ∧ w.cell? ⟨(ad.add (i.toNat * 3)).block, (ad.add (i.toNat * 3)).off + 2, none⟩ = some (.slice A2 (rd_T79 xs i).f2.length c2) ∧ (rd_T79 xs i).f2.length ≤ c2 ∧ k124.C w A2 (rd_T79 xs i).f2.length (rd_T79 xs i).f2 := by
  obtain ⟨ad, c, e, _, hK, hc0⟩ := Kd.C_get h z79 i h0 h1
  have hc : ∀ j u, c[j]? = some u → w.cell? (ad.add (i.toNat * 3 + j)) = some u := hc0
  obtain ⟨A2, c2, rfl, l2, g2⟩ := k79_open hK
  exact ⟨ad, A2, c2, e, hc 0 _ rfl, by rw [← add_field _ _ 1 (by omega)]; exact hc 1 _ rfl, by rw [← add_field _ _ 2 (by omega)]; exact hc 2 _ rfl, l2, g2⟩

structure S71 where
  f0 : ByteArray
  f1 : Int
  f2 : Int
  f3 : Int
  f4 : ByteArray
  f5 : (List S79)
def z71 : S71 := ⟨(⟨#[]⟩ : ByteArray), (0 : Int), (0 : Int), (0 : Int), (⟨#[]⟩ : ByteArray), ([] : List S79)⟩
def k71 : Kd S71 := Kd.iso (Kd.pair Kd.string (Kd.pair (Kd.int .i64) (Kd.pair (Kd.int .i64) (Kd.pair (Kd.int .i64) (Kd.pair Kd.string (Kd.slice 79 k79)))))) (fun x : S71 => (x.f0, x.f1, x.f2, x.f3, x.f4, x.f5))
theorem k71_open {w : World} {x : S71} {cs : List Value} (h : k71.K w x cs) : ∃ A5 c5, cs = [.string x.f0, .int .i64 x.f1, .int .i64 x.f2, .int .i64 x.f3, .string x.f4, .slice A5 x.f5.length c5] ∧ x.f5.length ≤ c5 ∧ k79.C w A5 x.f5.length x.f5 := by
  obtain ⟨_, _, rfl, rfl, ⟨_, _, rfl, rfl, ⟨_, _, rfl, rfl, ⟨_, _, rfl, rfl, ⟨_, _, rfl, rfl, ⟨A5, c5, rfl, l5, g5⟩⟩⟩⟩⟩⟩ := h
  exact ⟨A5, c5, rfl, l5, g5⟩
theorem k71_openM {w : World} {base : Nat} {ok : Nat → Prop} {x : S71} {cs : List Value} (h : k71.M w base ok x cs) : ∃ v5, cs = [.string x.f0, .int .i64 x.f1, .int .i64 x.f2, .int .i64 x.f3, .string x.f4, v5] ∧ k79.R 79 w base ok v5 x.f5 := by
  obtain ⟨_, _, rfl, rfl, ⟨_, _, rfl, rfl, ⟨_, _, rfl, rfl, ⟨_, _, rfl, rfl, ⟨_, _, rfl, rfl, ⟨v5, rfl, g5⟩⟩⟩⟩⟩⟩ := h
  exact ⟨v5, rfl, g5⟩
theorem k71_mkM (w : World) (base : Nat) (ok : Nat → Prop) (x : S71) {v5 : Value} (g5 : k79.R 79 w base ok v5 x.f5) : k71.M w base ok x [.string x.f0, .int .i64 x.f1, .int .i64 x.f2, .int .i64 x.f3, .string x.f4, v5] := ⟨[.string x.f0], [.int .i64 x.f1, .int .i64 x.f2, .int .i64 x.f3, .string x.f4, v5], rfl, rfl, ⟨[.int .i64 x.f1], [.int .i64 x.f2, .int .i64 x.f3, .string x.f4, v5], rfl, rfl, ⟨[.int .i64 x.f2], [.int .i64 x.f3, .string x.f4, v5], rfl, rfl, ⟨[.int .i64 x.f3], [.string x.f4, v5], rfl, rfl, ⟨[.string x.f4], [v5], rfl, rfl, ⟨v5, rfl, g5⟩⟩⟩⟩⟩⟩
def rd_T71 (xs : List S71) (i : Int) : S71 := xs.getD i.toNat z71
theorem at_T71 {w : World} {A : Option Addr} {n : Nat} {xs : List S71} (h : Kd.C k71 w A n xs) (i : Int) (h0 : 0 ≤ i) (h1 : i < n) : ∃ ad A5 c5, A = some ad ∧ w.cell? (ad.add (i.toNat * 6)) = some (.string (rd_T71 xs i).f0) ∧ w.cell? ⟨(ad.add (i.toNat * 6)).block, (ad.add (i.toNat * 6)).off + 1, none⟩ = some (.int .i64 (rd_T71 xs i).f1) ∧ w.cell? ⟨(ad.add (i.toNat * 6)).block, (ad.add (i.toNat * 6)).off + 2, none⟩ = some (.int .i64 (rd_T71 xs i).f2) ∧ w.cell? ⟨(ad.add (i.toNat * 6)).block, (ad.add (i.toNat * 6)).off + 3, none⟩ = some (.int .i64 (rd_T71 xs i).f3) ∧ w.cell? ⟨(ad.add (i.toNat * 6)).block, (ad.add (i.toNat * 6)).off + 4, none⟩ = some (.string (rd_T71 xs i).f4) ∧ w.cell? ⟨(ad.add (i.toNat * 6)).block, (ad.add (i.toNat * 6)).off + 5, none⟩ = some (.slice A5 (rd_T71 xs i).f5.length c5) ∧ (rd_T71 xs i).f5.length ≤ c5 ∧ k79.C w A5 (rd_T71 xs i).f5.length (rd_T71 xs i).f5 := by
  obtain ⟨ad, c, e, _, hK, hc0⟩ := Kd.C_get h z71 i h0 h1
  have hc : ∀ j u, c[j]? = some u → w.cell? (ad.add (i.toNat * 6 + j)) = some u := hc0
  obtain ⟨A5, c5, rfl, l5, g5⟩ := k71_open hK
  exact ⟨ad, A5, c5, e, hc 0 _ rfl, by rw [← add_field _ _ 1 (by omega)]; exact hc 1 _ rfl, by rw [← add_field _ _ 2 (by omega)]; exact hc 2 _ rfl, by rw [← add_field _ _ 3 (by omega)]; exact hc 3 _ rfl, by rw [← add_field _ _ 4 (by omega)]; exact hc 4 _ rfl, by rw [← add_field _ _ 5 (by omega)]; exact hc 5 _ rfl, l5, g5⟩

structure S72 where
  f0 : ByteArray
  f1 : Int
  f2 : Int
  f3 : Bool
def z72 : S72 := ⟨(⟨#[]⟩ : ByteArray), (0 : Int), (0 : Int), false⟩
def k72 : Kd S72 := Kd.iso (Kd.pair Kd.string (Kd.pair (Kd.int .i64) (Kd.pair (Kd.int .i64) Kd.bool))) (fun x : S72 => (x.f0, x.f1, x.f2, x.f3))
theorem k72_open {w : World} {x : S72} {cs : List Value} (h : k72.K w x cs) : cs = [.string x.f0, .int .i64 x.f1, .int .i64 x.f2, .bool x.f3] := by
  obtain ⟨_, _, rfl, rfl, ⟨_, _, rfl, rfl, ⟨_, _, rfl, rfl, rfl⟩⟩⟩ := h
  exact rfl
theorem k72_openM {w : World} {base : Nat} {ok : Nat → Prop} {x : S72} {cs : List Value} (h : k72.M w base ok x cs) : cs = [.string x.f0, .int .i64 x.f1, .int .i64 x.f2, .bool x.f3] := by
  obtain ⟨_, _, rfl, rfl, ⟨_, _, rfl, rfl, ⟨_, _, rfl, rfl, rfl⟩⟩⟩ := h
  exact rfl
theorem k72_mkM (w : World) (base : Nat) (ok : Nat → Prop) (x : S72)  : k72.M w base ok x [.string x.f0, .int .i64 x.f1, .int .i64 x.f2, .bool x.f3] := ⟨[.string x.f0], [.int .i64 x.f1, .int .i64 x.f2, .bool x.f3], rfl, rfl, ⟨[.int .i64 x.f1], [.int .i64 x.f2, .bool x.f3], rfl, rfl, ⟨[.int .i64 x.f2], [.bool x.f3], rfl, rfl, rfl⟩⟩⟩
def rd_T72 (xs : List S72) (i : Int) : S72 := xs.getD i.toNat z72
theorem at_T72 {w : World} {A : Option Addr} {n : Nat} {xs : List S72} (h : Kd.C k72 w A n xs) (i : Int) (h0 : 0 ≤ i) (h1 : i < n) : ∃ ad , A = some ad ∧ w.cell? (ad.add (i.toNat * 4)) = some (.string (rd_T72 xs i).f0) ∧ w.cell? ⟨(ad.add (i.toNat * 4)).block, (ad.add (i.toNat * 4)).off + 1, none⟩ = some (.int .i64 (rd_T72 xs i).f1) ∧ w.cell? ⟨(ad.add (i.toNat * 4)).block, (ad.add (i.toNat * 4)).off + 2, none⟩ = some (.int .i64 (rd_T72 xs i).f2) ∧ w.cell? ⟨(ad.add (i.toNat * 4)).block, (ad.add (i.toNat * 4)).off + 3, none⟩ = some (.bool (rd_T72 xs i).f3) := by
  obtain ⟨ad, c, e, _, hK, hc0⟩ := Kd.C_get h z72 i h0 h1
  have hc : ∀ j u, c[j]? = some u → w.cell? (ad.add (i.toNat * 4 + j)) = some u := hc0
  obtain rfl := k72_open hK
  exact ⟨ad, e, hc 0 _ rfl, by rw [← add_field _ _ 1 (by omega)]; exact hc 1 _ rfl, by rw [← add_field _ _ 2 (by omega)]; exact hc 2 _ rfl, by rw [← add_field _ _ 3 (by omega)]; exact hc 3 _ rfl⟩

end Go.Proofs.YtlacpadpdfccmaaGreatDoor.PFnExactObjectText
namespace Go.Proofs.YtlacpadpdfccmaaGreatDoor.PFnExactObjectText
open Go.RowKit Go.Proofs.YtlacpadpdfccmaaGreatDoor.Z Go.Proofs.YtlacpadpdfccmaaGreatDoorW.PrintWords Go.Proofs.YtlacpadpdfccmaaGreatDoorW.PrintLast Go.Proofs.YtlacpadpdfccmaaGreatDoorW.PrintMore
attribute [local go_sem] max2_int min2_int max_two min_two max_three min_three max_four min_four   -- for this text's walks alone
set_option linter.unusedVariables false
set_option linter.unusedSimpArgs false

def laws_szENode.f (a0_0 : Int) (a0_1 : Int) (a0_2 : ByteArray) (a1 : Int) : Option (Int) := if (wrap64 (a1 - (a0_2.size : Int))) < 0 then (some (-1)) else (some (wrap64 (a1 - (a0_2.size : Int))))
set_option maxHeartbeats 8000000 in
set_option maxRecDepth 100000 in
theorem laws_szENode.calls (a0_0 : Int) (a0_1 : Int) (a0_2 : ByteArray) (a1 : Int) (r : Int) (w : World) (h : laws_szENode.f a0_0 a0_1 a0_2 a1 = some r) :
 Calls Tryz.prog 82 #[.agg #[.int .i64 a0_0, .int .i64 a0_1, .string a0_2], .int .i64 a1] w fun e w' => e = .returned (.int .i64 r) ∧ Below w.heap.size w w' := by
 have hu119 := Tryz.underlying119
 have HB := Aside0.mk (Below.refl w.heap.size w)
 have H : (if (wrap64 (a1 - (a0_2.size : Int))) < 0 then (some (-1)) else (some (wrap64 (a1 - (a0_2.size : Int))))) = some r := h
 clear h
 by_cases c3 : (wrap64 (a1 - (a0_2.size : Int))) < 0
 ·rw [if_pos c3] at H
  have c3b0 : decide ((wrap64 (a1 - (a0_2.size : Int))) < 0) = true := decide_eq_true c3
  clear c3
  obtain rfl := Option.some.inj H
  go_enter Tryz.func82, Tryz.ntmps82
  go_wp2_with (first | ((with_reducible refine gate_dst (N := 2) rfl ?_); refine zbx 2 #[.int .i64 a0_0, .int .i64 a0_1, .string a0_2] 119 ?_; intro gb101 hg w4 hbox hb; have BK101 := Aside0.mk (hbox); have GW101 := zs w hg; have GE101 := GW101; replace HB := zt w hb; clear hb hbox hg; obtain ⟨hcz5_0, hcz5_1, hcz5_2, hfz5_0, hfz5_1, hfz5_2⟩ := zF3 BK101))
  go_ret
  exact ⟨ze _, zb _⟩
 ·rw [if_neg c3] at H
  have c3b0 : decide ((wrap64 (a1 - (a0_2.size : Int))) < 0) = false := decide_eq_false c3
  clear c3
  obtain rfl := Option.some.inj H
  go_enter Tryz.func82, Tryz.ntmps82
  go_wp2_with (first | ((with_reducible refine gate_dst (N := 2) rfl ?_); refine zbx 2 #[.int .i64 a0_0, .int .i64 a0_1, .string a0_2] 119 ?_; intro gb101 hg w6 hbox hb; have BK101 := Aside0.mk (hbox); have GW101 := zs w hg; have GE101 := GW101; replace HB := zt w hb; clear hb hbox hg; obtain ⟨hcz7_0, hcz7_1, hcz7_2, hfz7_0, hfz7_1, hfz7_2⟩ := zF3 BK101))
  go_ret
  exact ⟨ze _, zb _⟩

def laws_szENodeS.l0 : Nat → List (S119) → Int → Int → Option (Int)
  | 0, _, _, _ => none
  | k + 1, x0, x1, x5 => if x5 < (x0.length : Int) then (if 0 ≤ x5 then ((laws_szENode.f ((rd_T119 x0 x5).f0) ((rd_T119 x0 x5).f1) ((rd_T119 x0 x5).f2) x1).bind fun t103 => (if t103 < 0 then (some (-1)) else (laws_szENodeS.l0 k x0 t103 (wrap64 (x5 + 1))))) else (none)) else (some x1)
def laws_szENodeS.f (k : Nat) (l0 : List (S119)) (a1 : Int) : Option (Int) := if (wrap64 (a1 - (l0.length : Int))) < 0 then (some (-1)) else (laws_szENodeS.l0 k l0 (wrap64 (a1 - (l0.length : Int))) 0)
theorem laws_szENodeS.mono_l : ∀ k, (∀ y0 y1 y2, LeO (laws_szENodeS.l0 k y0 y1 y2) (laws_szENodeS.l0 (k + 1) y0 y1 y2))
  | 0 => fun _ _ _ r h => by simp [laws_szENodeS.l0] at h
  | k + 1 => by
    have ih0 := laws_szENodeS.mono_l k
    · intro y0 y1 y2
      unfold laws_szENodeS.l0
      repeat' with_reducible first | exact ih0 _ _ _ | exact LeO.refl _ | exact LeO.none _ | refine LeO.ite ?_ ?_ | refine LeO.bind ?_ (fun _ => ?_)
theorem laws_szENodeS.mono : ∀ a0 a1 k, LeO (laws_szENodeS.f k a0 a1) (laws_szENodeS.f (k + 1) a0 a1) := by
  intro a0 a1 k
  have ih0 := laws_szENodeS.mono_l k
  unfold laws_szENodeS.f
  repeat' with_reducible first | exact ih0 _ _ _ | exact LeO.refl _ | exact LeO.none _ | refine LeO.ite ?_ ?_ | refine LeO.bind ?_ (fun _ => ?_)
set_option maxHeartbeats 8000000 in
set_option maxRecDepth 100000 in
theorem laws_szENodeS.calls (k : Nat) (A0 : Option Addr) (c0 : Nat) (l0 : List (S119)) (a1 : Int) (r : Int) (w : World) (hr0 : Kd.C k119 w A0 l0.length l0) (hc0 : l0.length ≤ c0) (h : laws_szENodeS.f k l0 a1 = some r) :
 Calls Tryz.prog 39 #[.slice A0 l0.length c0, .int .i64 a1] w fun e w' => e = .returned (.int .i64 r) ∧ Below w.heap.size w w' := by
 have hu119 := Tryz.underlying119
 have HR0 := Aside0.mk hr0
 have HC0 := Aside0.mk hc0
 clear hr0 hc0
 have HB := Aside0.mk (Below.refl w.heap.size w)
 have H : (if (wrap64 (a1 - (l0.length : Int))) < 0 then (some (-1)) else (laws_szENodeS.l0 k l0 (wrap64 (a1 - (l0.length : Int))) 0)) = some r := h
 clear h
 by_cases c3 : (wrap64 (a1 - (l0.length : Int))) < 0
 ·rw [if_pos c3] at H
  have c3b0 : decide ((wrap64 (a1 - (l0.length : Int))) < 0) = true := decide_eq_true c3
  clear c3
  obtain rfl := Option.some.inj H
  go_enter Tryz.func39, Tryz.ntmps39
  go_wp2
  go_ret
  exact ⟨ze _, zb _⟩
 ·rw [if_neg c3] at H
  have c3b0 : decide ((wrap64 (a1 - (l0.length : Int))) < 0) = false := decide_eq_false c3
  clear c3
  have H' := Aside0.mk H
  clear H
  go_enter Tryz.func39, Tryz.ntmps39
  go_wp2
  go_loopg [1, 5] k (fun kq v1 v5 w' => ∃ (x1_1 : Int) (x5_1 : Int), v1 = .int .i64 x1_1 ∧ v5 = .int .i64 x5_1 ∧ Aside0 (laws_szENodeS.l0 kq l0 x1_1 x5_1 = some r) ∧ Aside0 (kq ≤ k) ∧ Aside0 (Below w.heap.size w w'))
  case atStart => exact ⟨(wrap64 (a1 - (l0.length : Int))), (0), (zE _), (zE _), H', ⟨Nat.le_refl _⟩, ⟨zb _⟩⟩
  case round =>
   clear H'
   obtain ⟨x1_1, x5_1, rfl, rfl, HA, HK1, HB⟩ := hrel
   cases gk with
   | zero => exact absurd HA.out (by simp [laws_szENodeS.l0])
   | succ k1 =>
    have H := HA.out
    clear HA
    simp only [laws_szENodeS.l0] at H
    by_cases c4 : x5_1 < (l0.length : Int)
    ·rw [if_pos c4] at H
     have c4b0 : decide (x5_1 < (l0.length : Int)) = true := decide_eq_true c4
     clear c4
     by_cases c5 : 0 ≤ x5_1
     ·rw [if_pos c5] at H
      have c5b0 : decide (0 ≤ x5_1) = true := decide_eq_true c5
      clear c5
      obtain ⟨t103, A60, H⟩ := Option.bind_eq_some_iff.mp H
      have A6 := Aside0.mk A60
      clear A60
      by_cases c7 : t103 < 0
      ·rw [if_pos c7] at H
       have c7b0 : decide (t103 < 0) = true := decide_eq_true c7
       clear c7
       obtain rfl := Option.some.inj H
       have p102 : 0 ≤ (x5_1 : Int) := of_decide_eq_true (za _)
       have q102 : x5_1 < (l0.length : Int) := of_decide_eq_true (za _)
       obtain ⟨ad102, e102, hx102_0, hx102_1, hx102_2⟩ := at_T119 HR0.out x5_1 p102 q102
       cases e102
       replace hx102_0 := zx HB hx102_0
       replace hx102_1 := zx HB hx102_1
       replace hx102_2 := zx HB hx102_2
       replace p102 := eq_true p102
       replace q102 := eq_true q102
       go_wp2_with (first | ((with_reducible refine gate_callee (f := 82) rfl ?_); refine zc (some 23) Tryz.func82 #[.agg #[.int .i64 ((rd_T119 l0 x5_1).f0), .int .i64 ((rd_T119 l0 x5_1).f1), .string ((rd_T119 l0 x5_1).f2)], .int .i64 x1_1] ?_; (with_reducible refine (laws_szENode.calls ((rd_T119 l0 x5_1).f0) ((rd_T119 l0 x5_1).f1) ((rd_T119 l0 x5_1).f2) x1_1 t103 _ A6.out).mono ?_); rintro e w8 ⟨rfl, hb⟩; refine ⟨_, rfl, ?_⟩; replace HB := zt w hb; (try clear hb); (try clear hb2); (try clear hk); (try clear hi)))
       go_ret
       exact ⟨ze _, zb _⟩
      ·rw [if_neg c7] at H
       have c7b0 : decide (t103 < 0) = false := decide_eq_false c7
       clear c7
       have H' := Aside0.mk H
       clear H
       have p102 : 0 ≤ (x5_1 : Int) := of_decide_eq_true (za _)
       have q102 : x5_1 < (l0.length : Int) := of_decide_eq_true (za _)
       obtain ⟨ad102, e102, hx102_0, hx102_1, hx102_2⟩ := at_T119 HR0.out x5_1 p102 q102
       cases e102
       replace hx102_0 := zx HB hx102_0
       replace hx102_1 := zx HB hx102_1
       replace hx102_2 := zx HB hx102_2
       replace p102 := eq_true p102
       replace q102 := eq_true q102
       go_wp2_with (first | ((with_reducible refine gate_callee (f := 82) rfl ?_); refine zc (some 23) Tryz.func82 #[.agg #[.int .i64 ((rd_T119 l0 x5_1).f0), .int .i64 ((rd_T119 l0 x5_1).f1), .string ((rd_T119 l0 x5_1).f2)], .int .i64 x1_1] ?_; (with_reducible refine (laws_szENode.calls ((rd_T119 l0 x5_1).f0) ((rd_T119 l0 x5_1).f1) ((rd_T119 l0 x5_1).f2) x1_1 t103 _ A6.out).mono ?_); rintro e w9 ⟨rfl, hb⟩; refine ⟨_, rfl, ?_⟩; replace HB := zt w hb; (try clear hb); (try clear hb2); (try clear hk); (try clear hi)))
       go_roundg k1
       case measure => have := HK1.out; omega
       case rel => exact ⟨(t103), (wrap64 (x5_1 + 1)), (zE _), (zE _), H', ⟨by have := HK1.out; omega⟩, ⟨zb _⟩⟩
     ·rw [if_neg c5] at H
      exact absurd H (by simp)
    ·rw [if_neg c4] at H
     have c4b0 : decide (x5_1 < (l0.length : Int)) = false := decide_eq_false c4
     clear c4
     obtain rfl := Option.some.inj H
     go_wp2
     go_ret
     exact ⟨ze _, zb _⟩

def laws_szPatch.f (k : Nat) (a0_0 : Int) (a0_1 : Int) (l0_2 : List (S119)) (a1 : Int) : Option (Int) := (laws_szENodeS.f k l0_2 a1).bind fun t105 => (if t105 < 0 then (some (-1)) else (some t105))
theorem laws_szPatch.mono : ∀ a0 a1 a2 a3 k, LeO (laws_szPatch.f k a0 a1 a2 a3) (laws_szPatch.f (k + 1) a0 a1 a2 a3) := by
  intro a0 a1 a2 a3 k
  unfold laws_szPatch.f
  repeat' with_reducible first | exact laws_szENodeS.mono _ _ _ | exact LeO.refl _ | exact LeO.none _ | refine LeO.ite ?_ ?_ | refine LeO.bind ?_ (fun _ => ?_)
set_option maxHeartbeats 8000000 in
set_option maxRecDepth 100000 in
theorem laws_szPatch.calls (k : Nat) (a0_0 : Int) (a0_1 : Int) (A0_2 : Option Addr) (c0_2 : Nat) (l0_2 : List (S119)) (a1 : Int) (r : Int) (w : World) (hr0_2 : Kd.C k119 w A0_2 l0_2.length l0_2) (hc0_2 : l0_2.length ≤ c0_2) (h : laws_szPatch.f k a0_0 a0_1 l0_2 a1 = some r) :
 Calls Tryz.prog 118 #[.agg #[.int .i64 a0_0, .int .i64 a0_1, .slice A0_2 l0_2.length c0_2], .int .i64 a1] w fun e w' => e = .returned (.int .i64 r) ∧ Below w.heap.size w w' := by
 have hu150 := Tryz.underlying150
 have HR0_2 := Aside0.mk hr0_2
 have HC0_2 := Aside0.mk hc0_2
 clear hr0_2 hc0_2
 have HB := Aside0.mk (Below.refl w.heap.size w)
 have H : ((laws_szENodeS.f k l0_2 a1).bind fun t105 => (if t105 < 0 then (some (-1)) else (some t105))) = some r := h
 clear h
 obtain ⟨t105, A30, H⟩ := Option.bind_eq_some_iff.mp H
 have A3 := Aside0.mk A30
 clear A30
 by_cases c4 : t105 < 0
 ·rw [if_pos c4] at H
  have c4b0 : decide (t105 < 0) = true := decide_eq_true c4
  clear c4
  obtain rfl := Option.some.inj H
  go_enter Tryz.func118, Tryz.ntmps118
  go_wp2_with (first | ((with_reducible refine gate_dst (N := 2) rfl ?_); refine zbx 2 #[.int .i64 a0_0, .int .i64 a0_1, .slice A0_2 l0_2.length c0_2] 150 ?_; intro gb104 hg w5 hbox hb; have BK104 := Aside0.mk (hbox); have GW104 := zs w hg; have GE104 := GW104; replace HB := zt w hb; clear hb hbox hg; obtain ⟨hcz6_0, hcz6_1, hcz6_2, hfz6_0, hfz6_1, hfz6_2⟩ := zF3 BK104) | ((with_reducible refine gate_callee (f := 39) rfl ?_); refine zc (some 8) Tryz.func39 #[.slice A0_2 l0_2.length c0_2, .int .i64 a1] ?_; (with_reducible refine (laws_szENodeS.calls k _ _ l0_2 a1 t105 _ ?side1 ?side2 A3.out).mono ?_); (case side1 => repeat (first | exact (Kd.C_below HR0_2.out HB.out) | (with_reducible refine Kd.C_alloc ?_ _) | (with_reducible refine Kd.C_drewN ?_ _) | (with_reducible refine Kd.C_drew ?_))); (case side2 => exact HC0_2.out); rintro e w7 ⟨rfl, hb⟩; refine ⟨_, rfl, ?_⟩; replace BK104 := zk BK104 hb; replace HB := zt w hb; (try clear hb); (try clear hb2); (try clear hk); (try clear hi)))
  go_ret
  exact ⟨ze _, zb _⟩
 ·rw [if_neg c4] at H
  have c4b0 : decide (t105 < 0) = false := decide_eq_false c4
  clear c4
  obtain rfl := Option.some.inj H
  go_enter Tryz.func118, Tryz.ntmps118
  go_wp2_with (first | ((with_reducible refine gate_dst (N := 2) rfl ?_); refine zbx 2 #[.int .i64 a0_0, .int .i64 a0_1, .slice A0_2 l0_2.length c0_2] 150 ?_; intro gb104 hg w8 hbox hb; have BK104 := Aside0.mk (hbox); have GW104 := zs w hg; have GE104 := GW104; replace HB := zt w hb; clear hb hbox hg; obtain ⟨hcz9_0, hcz9_1, hcz9_2, hfz9_0, hfz9_1, hfz9_2⟩ := zF3 BK104) | ((with_reducible refine gate_callee (f := 39) rfl ?_); refine zc (some 8) Tryz.func39 #[.slice A0_2 l0_2.length c0_2, .int .i64 a1] ?_; (with_reducible refine (laws_szENodeS.calls k _ _ l0_2 a1 t105 _ ?side1 ?side2 A3.out).mono ?_); (case side1 => repeat (first | exact (Kd.C_below HR0_2.out HB.out) | (with_reducible refine Kd.C_alloc ?_ _) | (with_reducible refine Kd.C_drewN ?_ _) | (with_reducible refine Kd.C_drew ?_))); (case side2 => exact HC0_2.out); rintro e w10 ⟨rfl, hb⟩; refine ⟨_, rfl, ?_⟩; replace BK104 := zk BK104 hb; replace HB := zt w hb; (try clear hb); (try clear hb2); (try clear hk); (try clear hi)))
  go_ret
  exact ⟨ze _, zb _⟩

def laws_szPatchS.l0 : Nat → List (S150) → Int → Int → Option (Int)
  | 0, _, _, _ => none
  | k + 1, x0, x1, x5 => if x5 < (x0.length : Int) then (if 0 ≤ x5 then ((laws_szPatch.f k ((rd_T150 x0 x5).f0) ((rd_T150 x0 x5).f1) ((rd_T150 x0 x5).f2) x1).bind fun t107 => (if t107 < 0 then (some (-1)) else (laws_szPatchS.l0 k x0 t107 (wrap64 (x5 + 1))))) else (none)) else (some x1)
def laws_szPatchS.f (k : Nat) (l0 : List (S150)) (a1 : Int) : Option (Int) := if (wrap64 (a1 - (l0.length : Int))) < 0 then (some (-1)) else (laws_szPatchS.l0 k l0 (wrap64 (a1 - (l0.length : Int))) 0)
theorem laws_szPatchS.mono_l : ∀ k, (∀ y0 y1 y2, LeO (laws_szPatchS.l0 k y0 y1 y2) (laws_szPatchS.l0 (k + 1) y0 y1 y2))
  | 0 => fun _ _ _ r h => by simp [laws_szPatchS.l0] at h
  | k + 1 => by
    have ih0 := laws_szPatchS.mono_l k
    · intro y0 y1 y2
      unfold laws_szPatchS.l0
      repeat' with_reducible first | exact ih0 _ _ _ | exact laws_szPatch.mono _ _ _ _ _ | exact LeO.refl _ | exact LeO.none _ | refine LeO.ite ?_ ?_ | refine LeO.bind ?_ (fun _ => ?_)
theorem laws_szPatchS.mono : ∀ a0 a1 k, LeO (laws_szPatchS.f k a0 a1) (laws_szPatchS.f (k + 1) a0 a1) := by
  intro a0 a1 k
  have ih0 := laws_szPatchS.mono_l k
  unfold laws_szPatchS.f
  repeat' with_reducible first | exact ih0 _ _ _ | exact laws_szPatch.mono _ _ _ _ _ | exact LeO.refl _ | exact LeO.none _ | refine LeO.ite ?_ ?_ | refine LeO.bind ?_ (fun _ => ?_)
set_option maxHeartbeats 8000000 in
set_option maxRecDepth 100000 in
theorem laws_szPatchS.calls (k : Nat) (A0 : Option Addr) (c0 : Nat) (l0 : List (S150)) (a1 : Int) (r : Int) (w : World) (hr0 : Kd.C k150 w A0 l0.length l0) (hc0 : l0.length ≤ c0) (h : laws_szPatchS.f k l0 a1 = some r) :
 Calls Tryz.prog 81 #[.slice A0 l0.length c0, .int .i64 a1] w fun e w' => e = .returned (.int .i64 r) ∧ Below w.heap.size w w' := by
 have hu150 := Tryz.underlying150
 have HR0 := Aside0.mk hr0
 have HC0 := Aside0.mk hc0
 clear hr0 hc0
 have HB := Aside0.mk (Below.refl w.heap.size w)
 have H : (if (wrap64 (a1 - (l0.length : Int))) < 0 then (some (-1)) else (laws_szPatchS.l0 k l0 (wrap64 (a1 - (l0.length : Int))) 0)) = some r := h
 clear h
 by_cases c3 : (wrap64 (a1 - (l0.length : Int))) < 0
 ·rw [if_pos c3] at H
  have c3b0 : decide ((wrap64 (a1 - (l0.length : Int))) < 0) = true := decide_eq_true c3
  clear c3
  obtain rfl := Option.some.inj H
  go_enter Tryz.func81, Tryz.ntmps81
  go_wp2
  go_ret
  exact ⟨ze _, zb _⟩
 ·rw [if_neg c3] at H
  have c3b0 : decide ((wrap64 (a1 - (l0.length : Int))) < 0) = false := decide_eq_false c3
  clear c3
  have H' := Aside0.mk H
  clear H
  go_enter Tryz.func81, Tryz.ntmps81
  go_wp2
  go_loopg [1, 5] k (fun kq v1 v5 w' => ∃ (x1_1 : Int) (x5_1 : Int), v1 = .int .i64 x1_1 ∧ v5 = .int .i64 x5_1 ∧ Aside0 (laws_szPatchS.l0 kq l0 x1_1 x5_1 = some r) ∧ Aside0 (kq ≤ k) ∧ Aside0 (Below w.heap.size w w'))
  case atStart => exact ⟨(wrap64 (a1 - (l0.length : Int))), (0), (zE _), (zE _), H', ⟨Nat.le_refl _⟩, ⟨zb _⟩⟩
  case round =>
   clear H'
   obtain ⟨x1_1, x5_1, rfl, rfl, HA, HK1, HB⟩ := hrel
   cases gk with
   | zero => exact absurd HA.out (by simp [laws_szPatchS.l0])
   | succ k1 =>
    have H := HA.out
    clear HA
    simp only [laws_szPatchS.l0] at H
    by_cases c4 : x5_1 < (l0.length : Int)
    ·rw [if_pos c4] at H
     have c4b0 : decide (x5_1 < (l0.length : Int)) = true := decide_eq_true c4
     clear c4
     by_cases c5 : 0 ≤ x5_1
     ·rw [if_pos c5] at H
      have c5b0 : decide (0 ≤ x5_1) = true := decide_eq_true c5
      clear c5
      obtain ⟨t107, A60, H⟩ := Option.bind_eq_some_iff.mp H
      have A6 := Aside0.mk A60
      clear A60
      by_cases c7 : t107 < 0
      ·rw [if_pos c7] at H
       have c7b0 : decide (t107 < 0) = true := decide_eq_true c7
       clear c7
       obtain rfl := Option.some.inj H
       have p106 : 0 ≤ (x5_1 : Int) := of_decide_eq_true (za _)
       have q106 : x5_1 < (l0.length : Int) := of_decide_eq_true (za _)
       obtain ⟨ad106, A106_2, c106_2, e106, hx106_0, hx106_1, hx106_2, hl106_2, hi106_2⟩ := at_T150 HR0.out x5_1 p106 q106
       cases e106
       replace hx106_0 := zx HB hx106_0
       replace hx106_1 := zx HB hx106_1
       replace hx106_2 := zx HB hx106_2
       have HR106_2 := Aside0.mk hi106_2
       have HC106_2 := Aside0.mk hl106_2
       clear hi106_2 hl106_2
       replace p106 := eq_true p106
       replace q106 := eq_true q106
       go_wp2_with (first | ((with_reducible refine gate_callee (f := 118) rfl ?_); refine zc (some 23) Tryz.func118 #[.agg #[.int .i64 ((rd_T150 l0 x5_1).f0), .int .i64 ((rd_T150 l0 x5_1).f1), .slice A106_2 ((rd_T150 l0 x5_1).f2).length c106_2], .int .i64 x1_1] ?_; (with_reducible refine (laws_szPatch.calls k1 ((rd_T150 l0 x5_1).f0) ((rd_T150 l0 x5_1).f1) _ _ ((rd_T150 l0 x5_1).f2) x1_1 t107 _ ?side1 ?side2 A6.out).mono ?_); (case side1 => repeat (first | exact (Kd.C_below HR106_2.out HB.out) | (with_reducible refine Kd.C_alloc ?_ _) | (with_reducible refine Kd.C_drewN ?_ _) | (with_reducible refine Kd.C_drew ?_))); (case side2 => exact HC106_2.out); rintro e w8 ⟨rfl, hb⟩; refine ⟨_, rfl, ?_⟩; replace HB := zt w hb; (try clear hb); (try clear hb2); (try clear hk); (try clear hi)))
       go_ret
       exact ⟨ze _, zb _⟩
      ·rw [if_neg c7] at H
       have c7b0 : decide (t107 < 0) = false := decide_eq_false c7
       clear c7
       have H' := Aside0.mk H
       clear H
       have p106 : 0 ≤ (x5_1 : Int) := of_decide_eq_true (za _)
       have q106 : x5_1 < (l0.length : Int) := of_decide_eq_true (za _)
       obtain ⟨ad106, A106_2, c106_2, e106, hx106_0, hx106_1, hx106_2, hl106_2, hi106_2⟩ := at_T150 HR0.out x5_1 p106 q106
       cases e106
       replace hx106_0 := zx HB hx106_0
       replace hx106_1 := zx HB hx106_1
       replace hx106_2 := zx HB hx106_2
       have HR106_2 := Aside0.mk hi106_2
       have HC106_2 := Aside0.mk hl106_2
       clear hi106_2 hl106_2
       replace p106 := eq_true p106
       replace q106 := eq_true q106
       go_wp2_with (first | ((with_reducible refine gate_callee (f := 118) rfl ?_); refine zc (some 23) Tryz.func118 #[.agg #[.int .i64 ((rd_T150 l0 x5_1).f0), .int .i64 ((rd_T150 l0 x5_1).f1), .slice A106_2 ((rd_T150 l0 x5_1).f2).length c106_2], .int .i64 x1_1] ?_; (with_reducible refine (laws_szPatch.calls k1 ((rd_T150 l0 x5_1).f0) ((rd_T150 l0 x5_1).f1) _ _ ((rd_T150 l0 x5_1).f2) x1_1 t107 _ ?side1 ?side2 A6.out).mono ?_); (case side1 => repeat (first | exact (Kd.C_below HR106_2.out HB.out) | (with_reducible refine Kd.C_alloc ?_ _) | (with_reducible refine Kd.C_drewN ?_ _) | (with_reducible refine Kd.C_drew ?_))); (case side2 => exact HC106_2.out); rintro e w9 ⟨rfl, hb⟩; refine ⟨_, rfl, ?_⟩; replace HB := zt w hb; (try clear hb); (try clear hb2); (try clear hk); (try clear hi)))
       go_roundg k1
       case measure => have := HK1.out; omega
       case rel => exact ⟨(t107), (wrap64 (x5_1 + 1)), (zE _), (zE _), H', ⟨by have := HK1.out; omega⟩, ⟨zb _⟩⟩
     ·rw [if_neg c5] at H
      exact absurd H (by simp)
    ·rw [if_neg c4] at H
     have c4b0 : decide (x5_1 < (l0.length : Int)) = false := decide_eq_false c4
     clear c4
     obtain rfl := Option.some.inj H
     go_wp2
     go_ret
     exact ⟨ze _, zb _⟩

def laws_szSection.f (k : Nat) (a0_0 : ByteArray) (a0_1 : Int) (a0_2 : Int) (a0_3 : Int) (a0_4 : ByteArray) (l0_5 : List (S150)) (a1 : Int) : Option (Int) := if (wrap64 (a1 - (a0_0.size : Int))) < 0 then (some (-1)) else (if (wrap64 ((wrap64 (a1 - (a0_0.size : Int))) - (a0_4.size : Int))) < 0 then (some (-1)) else ((laws_szPatchS.f k l0_5 (wrap64 ((wrap64 (a1 - (a0_0.size : Int))) - (a0_4.size : Int)))).bind fun t109 => (if t109 < 0 then (some (-1)) else (some t109))))
theorem laws_szSection.mono : ∀ a0 a1 a2 a3 a4 a5 a6 k, LeO (laws_szSection.f k a0 a1 a2 a3 a4 a5 a6) (laws_szSection.f (k + 1) a0 a1 a2 a3 a4 a5 a6) := by
  intro a0 a1 a2 a3 a4 a5 a6 k
  unfold laws_szSection.f
  repeat' with_reducible first | exact laws_szPatchS.mono _ _ _ | exact LeO.refl _ | exact LeO.none _ | refine LeO.ite ?_ ?_ | refine LeO.bind ?_ (fun _ => ?_)
set_option maxHeartbeats 8000000 in
set_option maxRecDepth 100000 in
theorem laws_szSection.calls (k : Nat) (a0_0 : ByteArray) (a0_1 : Int) (a0_2 : Int) (a0_3 : Int) (a0_4 : ByteArray) (A0_5 : Option Addr) (c0_5 : Nat) (l0_5 : List (S150)) (a1 : Int) (r : Int) (w : World) (hr0_5 : Kd.C k150 w A0_5 l0_5.length l0_5) (hc0_5 : l0_5.length ≤ c0_5) (h : laws_szSection.f k a0_0 a0_1 a0_2 a0_3 a0_4 l0_5 a1 = some r) :
 Calls Tryz.prog 37 #[.agg #[.string a0_0, .int .i64 a0_1, .int .i64 a0_2, .int .i64 a0_3, .string a0_4, .slice A0_5 l0_5.length c0_5], .int .i64 a1] w fun e w' => e = .returned (.int .i64 r) ∧ Below w.heap.size w w' := by
 have hu62 := Tryz.underlying62
 have HR0_5 := Aside0.mk hr0_5
 have HC0_5 := Aside0.mk hc0_5
 clear hr0_5 hc0_5
 have HB := Aside0.mk (Below.refl w.heap.size w)
 have H : (if (wrap64 (a1 - (a0_0.size : Int))) < 0 then (some (-1)) else (if (wrap64 ((wrap64 (a1 - (a0_0.size : Int))) - (a0_4.size : Int))) < 0 then (some (-1)) else ((laws_szPatchS.f k l0_5 (wrap64 ((wrap64 (a1 - (a0_0.size : Int))) - (a0_4.size : Int)))).bind fun t109 => (if t109 < 0 then (some (-1)) else (some t109))))) = some r := h
 clear h
 by_cases c3 : (wrap64 (a1 - (a0_0.size : Int))) < 0
 ·rw [if_pos c3] at H
  have c3b0 : decide ((wrap64 (a1 - (a0_0.size : Int))) < 0) = true := decide_eq_true c3
  clear c3
  obtain rfl := Option.some.inj H
  go_enter Tryz.func37, Tryz.ntmps37
  go_wp2_with (first | ((with_reducible refine gate_dst (N := 2) rfl ?_); refine zbx 2 #[.string a0_0, .int .i64 a0_1, .int .i64 a0_2, .int .i64 a0_3, .string a0_4, .slice A0_5 l0_5.length c0_5] 62 ?_; intro gb108 hg w4 hbox hb; have BK108 := Aside0.mk (hbox); have GW108 := zs w hg; have GE108 := GW108; replace HB := zt w hb; clear hb hbox hg; have hcz5_0 := zc0 BK108; have hcz5_1 := zc1 BK108; have hcz5_2 := zc2 BK108; have hcz5_3 := zc3 BK108; have hcz5_4 := zc4 BK108; have hcz5_5 := zc5 BK108; have hfz5_0 := blk_frozen BK108.out 0; have hfz5_1 := blk_frozen BK108.out 1; have hfz5_2 := blk_frozen BK108.out 2; have hfz5_3 := blk_frozen BK108.out 3; have hfz5_4 := blk_frozen BK108.out 4; have hfz5_5 := blk_frozen BK108.out 5))
  go_ret
  exact ⟨ze _, zb _⟩
 ·rw [if_neg c3] at H
  have c3b0 : decide ((wrap64 (a1 - (a0_0.size : Int))) < 0) = false := decide_eq_false c3
  clear c3
  by_cases c6 : (wrap64 ((wrap64 (a1 - (a0_0.size : Int))) - (a0_4.size : Int))) < 0
  ·rw [if_pos c6] at H
   have c6b0 : decide ((wrap64 ((wrap64 (a1 - (a0_0.size : Int))) - (a0_4.size : Int))) < 0) = true := decide_eq_true c6
   clear c6
   obtain rfl := Option.some.inj H
   go_enter Tryz.func37, Tryz.ntmps37
   go_wp2_with (first | ((with_reducible refine gate_dst (N := 2) rfl ?_); refine zbx 2 #[.string a0_0, .int .i64 a0_1, .int .i64 a0_2, .int .i64 a0_3, .string a0_4, .slice A0_5 l0_5.length c0_5] 62 ?_; intro gb108 hg w7 hbox hb; have BK108 := Aside0.mk (hbox); have GW108 := zs w hg; have GE108 := GW108; replace HB := zt w hb; clear hb hbox hg; have hcz8_0 := zc0 BK108; have hcz8_1 := zc1 BK108; have hcz8_2 := zc2 BK108; have hcz8_3 := zc3 BK108; have hcz8_4 := zc4 BK108; have hcz8_5 := zc5 BK108; have hfz8_0 := blk_frozen BK108.out 0; have hfz8_1 := blk_frozen BK108.out 1; have hfz8_2 := blk_frozen BK108.out 2; have hfz8_3 := blk_frozen BK108.out 3; have hfz8_4 := blk_frozen BK108.out 4; have hfz8_5 := blk_frozen BK108.out 5))
   go_ret
   exact ⟨ze _, zb _⟩
  ·rw [if_neg c6] at H
   have c6b0 : decide ((wrap64 ((wrap64 (a1 - (a0_0.size : Int))) - (a0_4.size : Int))) < 0) = false := decide_eq_false c6
   clear c6
   obtain ⟨t109, A90, H⟩ := Option.bind_eq_some_iff.mp H
   have A9 := Aside0.mk A90
   clear A90
   by_cases c10 : t109 < 0
   ·rw [if_pos c10] at H
    have c10b0 : decide (t109 < 0) = true := decide_eq_true c10
    clear c10
    obtain rfl := Option.some.inj H
    go_enter Tryz.func37, Tryz.ntmps37
    go_wp2_with (first | ((with_reducible refine gate_dst (N := 2) rfl ?_); refine zbx 2 #[.string a0_0, .int .i64 a0_1, .int .i64 a0_2, .int .i64 a0_3, .string a0_4, .slice A0_5 l0_5.length c0_5] 62 ?_; intro gb108 hg w11 hbox hb; have BK108 := Aside0.mk (hbox); have GW108 := zs w hg; have GE108 := GW108; replace HB := zt w hb; clear hb hbox hg; have hcz12_0 := zc0 BK108; have hcz12_1 := zc1 BK108; have hcz12_2 := zc2 BK108; have hcz12_3 := zc3 BK108; have hcz12_4 := zc4 BK108; have hcz12_5 := zc5 BK108; have hfz12_0 := blk_frozen BK108.out 0; have hfz12_1 := blk_frozen BK108.out 1; have hfz12_2 := blk_frozen BK108.out 2; have hfz12_3 := blk_frozen BK108.out 3; have hfz12_4 := blk_frozen BK108.out 4; have hfz12_5 := blk_frozen BK108.out 5) | ((with_reducible refine gate_callee (f := 81) rfl ?_); refine zc (some 22) Tryz.func81 #[.slice A0_5 l0_5.length c0_5, .int .i64 (wrap64 ((wrap64 (a1 - (a0_0.size : Int))) - (a0_4.size : Int)))] ?_; (with_reducible refine (laws_szPatchS.calls k _ _ l0_5 (wrap64 ((wrap64 (a1 - (a0_0.size : Int))) - (a0_4.size : Int))) t109 _ ?side1 ?side2 A9.out).mono ?_); (case side1 => repeat (first | exact (Kd.C_below HR0_5.out HB.out) | (with_reducible refine Kd.C_alloc ?_ _) | (with_reducible refine Kd.C_drewN ?_ _) | (with_reducible refine Kd.C_drew ?_))); (case side2 => exact HC0_5.out); rintro e w13 ⟨rfl, hb⟩; refine ⟨_, rfl, ?_⟩; replace BK108 := zk BK108 hb; replace HB := zt w hb; (try clear hb); (try clear hb2); (try clear hk); (try clear hi)))
    go_ret
    exact ⟨ze _, zb _⟩
   ·rw [if_neg c10] at H
    have c10b0 : decide (t109 < 0) = false := decide_eq_false c10
    clear c10
    obtain rfl := Option.some.inj H
    go_enter Tryz.func37, Tryz.ntmps37
    go_wp2_with (first | ((with_reducible refine gate_dst (N := 2) rfl ?_); refine zbx 2 #[.string a0_0, .int .i64 a0_1, .int .i64 a0_2, .int .i64 a0_3, .string a0_4, .slice A0_5 l0_5.length c0_5] 62 ?_; intro gb108 hg w14 hbox hb; have BK108 := Aside0.mk (hbox); have GW108 := zs w hg; have GE108 := GW108; replace HB := zt w hb; clear hb hbox hg; have hcz15_0 := zc0 BK108; have hcz15_1 := zc1 BK108; have hcz15_2 := zc2 BK108; have hcz15_3 := zc3 BK108; have hcz15_4 := zc4 BK108; have hcz15_5 := zc5 BK108; have hfz15_0 := blk_frozen BK108.out 0; have hfz15_1 := blk_frozen BK108.out 1; have hfz15_2 := blk_frozen BK108.out 2; have hfz15_3 := blk_frozen BK108.out 3; have hfz15_4 := blk_frozen BK108.out 4; have hfz15_5 := blk_frozen BK108.out 5) | ((with_reducible refine gate_callee (f := 81) rfl ?_); refine zc (some 22) Tryz.func81 #[.slice A0_5 l0_5.length c0_5, .int .i64 (wrap64 ((wrap64 (a1 - (a0_0.size : Int))) - (a0_4.size : Int)))] ?_; (with_reducible refine (laws_szPatchS.calls k _ _ l0_5 (wrap64 ((wrap64 (a1 - (a0_0.size : Int))) - (a0_4.size : Int))) t109 _ ?side1 ?side2 A9.out).mono ?_); (case side1 => repeat (first | exact (Kd.C_below HR0_5.out HB.out) | (with_reducible refine Kd.C_alloc ?_ _) | (with_reducible refine Kd.C_drewN ?_ _) | (with_reducible refine Kd.C_drew ?_))); (case side2 => exact HC0_5.out); rintro e w16 ⟨rfl, hb⟩; refine ⟨_, rfl, ?_⟩; replace BK108 := zk BK108 hb; replace HB := zt w hb; (try clear hb); (try clear hb2); (try clear hk); (try clear hi)))
    go_ret
    exact ⟨ze _, zb _⟩

def laws_szSectionS.l0 : Nat → List (S62) → Int → Int → Option (Int)
  | 0, _, _, _ => none
  | k + 1, x0, x1, x5 => if x5 < (x0.length : Int) then (if 0 ≤ x5 then ((laws_szSection.f k ((rd_T62 x0 x5).f0) ((rd_T62 x0 x5).f1) ((rd_T62 x0 x5).f2) ((rd_T62 x0 x5).f3) ((rd_T62 x0 x5).f4) ((rd_T62 x0 x5).f5) x1).bind fun t111 => (if t111 < 0 then (some (-1)) else (laws_szSectionS.l0 k x0 t111 (wrap64 (x5 + 1))))) else (none)) else (some x1)
def laws_szSectionS.f (k : Nat) (l0 : List (S62)) (a1 : Int) : Option (Int) := if (wrap64 (a1 - (l0.length : Int))) < 0 then (some (-1)) else (laws_szSectionS.l0 k l0 (wrap64 (a1 - (l0.length : Int))) 0)
theorem laws_szSectionS.mono_l : ∀ k, (∀ y0 y1 y2, LeO (laws_szSectionS.l0 k y0 y1 y2) (laws_szSectionS.l0 (k + 1) y0 y1 y2))
  | 0 => fun _ _ _ r h => by simp [laws_szSectionS.l0] at h
  | k + 1 => by
    have ih0 := laws_szSectionS.mono_l k
    · intro y0 y1 y2
      unfold laws_szSectionS.l0
      repeat' with_reducible first | exact ih0 _ _ _ | exact laws_szSection.mono _ _ _ _ _ _ _ _ | exact LeO.refl _ | exact LeO.none _ | refine LeO.ite ?_ ?_ | refine LeO.bind ?_ (fun _ => ?_)
theorem laws_szSectionS.mono : ∀ a0 a1 k, LeO (laws_szSectionS.f k a0 a1) (laws_szSectionS.f (k + 1) a0 a1) := by
  intro a0 a1 k
  have ih0 := laws_szSectionS.mono_l k
  unfold laws_szSectionS.f
  repeat' with_reducible first | exact ih0 _ _ _ | exact laws_szSection.mono _ _ _ _ _ _ _ _ | exact LeO.refl _ | exact LeO.none _ | refine LeO.ite ?_ ?_ | refine LeO.bind ?_ (fun _ => ?_)
set_option maxHeartbeats 8000000 in
set_option maxRecDepth 100000 in
theorem laws_szSectionS.calls (k : Nat) (A0 : Option Addr) (c0 : Nat) (l0 : List (S62)) (a1 : Int) (r : Int) (w : World) (hr0 : Kd.C k62 w A0 l0.length l0) (hc0 : l0.length ≤ c0) (h : laws_szSectionS.f k l0 a1 = some r) :
 Calls Tryz.prog 14 #[.slice A0 l0.length c0, .int .i64 a1] w fun e w' => e = .returned (.int .i64 r) ∧ Below w.heap.size w w' := by
 have hu62 := Tryz.underlying62
 have HR0 := Aside0.mk hr0
 have HC0 := Aside0.mk hc0
 clear hr0 hc0
 have HB := Aside0.mk (Below.refl w.heap.size w)
 have H : (if (wrap64 (a1 - (l0.length : Int))) < 0 then (some (-1)) else (laws_szSectionS.l0 k l0 (wrap64 (a1 - (l0.length : Int))) 0)) = some r := h
 clear h
 by_cases c3 : (wrap64 (a1 - (l0.length : Int))) < 0
 ·rw [if_pos c3] at H
  have c3b0 : decide ((wrap64 (a1 - (l0.length : Int))) < 0) = true := decide_eq_true c3
  clear c3
  obtain rfl := Option.some.inj H
  go_enter Tryz.func14, Tryz.ntmps14
  go_wp2
  go_ret
  exact ⟨ze _, zb _⟩
 ·rw [if_neg c3] at H
  have c3b0 : decide ((wrap64 (a1 - (l0.length : Int))) < 0) = false := decide_eq_false c3
  clear c3
  have H' := Aside0.mk H
  clear H
  go_enter Tryz.func14, Tryz.ntmps14
  go_wp2
  go_loopg [1, 5] k (fun kq v1 v5 w' => ∃ (x1_1 : Int) (x5_1 : Int), v1 = .int .i64 x1_1 ∧ v5 = .int .i64 x5_1 ∧ Aside0 (laws_szSectionS.l0 kq l0 x1_1 x5_1 = some r) ∧ Aside0 (kq ≤ k) ∧ Aside0 (Below w.heap.size w w'))
  case atStart => exact ⟨(wrap64 (a1 - (l0.length : Int))), (0), (zE _), (zE _), H', ⟨Nat.le_refl _⟩, ⟨zb _⟩⟩
  case round =>
   clear H'
   obtain ⟨x1_1, x5_1, rfl, rfl, HA, HK1, HB⟩ := hrel
   cases gk with
   | zero => exact absurd HA.out (by simp [laws_szSectionS.l0])
   | succ k1 =>
    have H := HA.out
    clear HA
    simp only [laws_szSectionS.l0] at H
    by_cases c4 : x5_1 < (l0.length : Int)
    ·rw [if_pos c4] at H
     have c4b0 : decide (x5_1 < (l0.length : Int)) = true := decide_eq_true c4
     clear c4
     by_cases c5 : 0 ≤ x5_1
     ·rw [if_pos c5] at H
      have c5b0 : decide (0 ≤ x5_1) = true := decide_eq_true c5
      clear c5
      obtain ⟨t111, A60, H⟩ := Option.bind_eq_some_iff.mp H
      have A6 := Aside0.mk A60
      clear A60
      by_cases c7 : t111 < 0
      ·rw [if_pos c7] at H
       have c7b0 : decide (t111 < 0) = true := decide_eq_true c7
       clear c7
       obtain rfl := Option.some.inj H
       have p110 : 0 ≤ (x5_1 : Int) := of_decide_eq_true (za _)
       have q110 : x5_1 < (l0.length : Int) := of_decide_eq_true (za _)
       obtain ⟨ad110, A110_5, c110_5, e110, hx110_0, hx110_1, hx110_2, hx110_3, hx110_4, hx110_5, hl110_5, hi110_5⟩ := at_T62 HR0.out x5_1 p110 q110
       cases e110
       replace hx110_0 := zx HB hx110_0
       replace hx110_1 := zx HB hx110_1
       replace hx110_2 := zx HB hx110_2
       replace hx110_3 := zx HB hx110_3
       replace hx110_4 := zx HB hx110_4
       replace hx110_5 := zx HB hx110_5
       have HR110_5 := Aside0.mk hi110_5
       have HC110_5 := Aside0.mk hl110_5
       clear hi110_5 hl110_5
       replace p110 := eq_true p110
       replace q110 := eq_true q110
       go_wp2_with (first | ((with_reducible refine gate_callee (f := 37) rfl ?_); refine zc (some 23) Tryz.func37 #[.agg #[.string ((rd_T62 l0 x5_1).f0), .int .i64 ((rd_T62 l0 x5_1).f1), .int .i64 ((rd_T62 l0 x5_1).f2), .int .i64 ((rd_T62 l0 x5_1).f3), .string ((rd_T62 l0 x5_1).f4), .slice A110_5 ((rd_T62 l0 x5_1).f5).length c110_5], .int .i64 x1_1] ?_; (with_reducible refine (laws_szSection.calls k1 ((rd_T62 l0 x5_1).f0) ((rd_T62 l0 x5_1).f1) ((rd_T62 l0 x5_1).f2) ((rd_T62 l0 x5_1).f3) ((rd_T62 l0 x5_1).f4) _ _ ((rd_T62 l0 x5_1).f5) x1_1 t111 _ ?side1 ?side2 A6.out).mono ?_); (case side1 => repeat (first | exact (Kd.C_below HR110_5.out HB.out) | (with_reducible refine Kd.C_alloc ?_ _) | (with_reducible refine Kd.C_drewN ?_ _) | (with_reducible refine Kd.C_drew ?_))); (case side2 => exact HC110_5.out); rintro e w8 ⟨rfl, hb⟩; refine ⟨_, rfl, ?_⟩; replace HB := zt w hb; (try clear hb); (try clear hb2); (try clear hk); (try clear hi)))
       go_ret
       exact ⟨ze _, zb _⟩
      ·rw [if_neg c7] at H
       have c7b0 : decide (t111 < 0) = false := decide_eq_false c7
       clear c7
       have H' := Aside0.mk H
       clear H
       have p110 : 0 ≤ (x5_1 : Int) := of_decide_eq_true (za _)
       have q110 : x5_1 < (l0.length : Int) := of_decide_eq_true (za _)
       obtain ⟨ad110, A110_5, c110_5, e110, hx110_0, hx110_1, hx110_2, hx110_3, hx110_4, hx110_5, hl110_5, hi110_5⟩ := at_T62 HR0.out x5_1 p110 q110
       cases e110
       replace hx110_0 := zx HB hx110_0
       replace hx110_1 := zx HB hx110_1
       replace hx110_2 := zx HB hx110_2
       replace hx110_3 := zx HB hx110_3
       replace hx110_4 := zx HB hx110_4
       replace hx110_5 := zx HB hx110_5
       have HR110_5 := Aside0.mk hi110_5
       have HC110_5 := Aside0.mk hl110_5
       clear hi110_5 hl110_5
       replace p110 := eq_true p110
       replace q110 := eq_true q110
       go_wp2_with (first | ((with_reducible refine gate_callee (f := 37) rfl ?_); refine zc (some 23) Tryz.func37 #[.agg #[.string ((rd_T62 l0 x5_1).f0), .int .i64 ((rd_T62 l0 x5_1).f1), .int .i64 ((rd_T62 l0 x5_1).f2), .int .i64 ((rd_T62 l0 x5_1).f3), .string ((rd_T62 l0 x5_1).f4), .slice A110_5 ((rd_T62 l0 x5_1).f5).length c110_5], .int .i64 x1_1] ?_; (with_reducible refine (laws_szSection.calls k1 ((rd_T62 l0 x5_1).f0) ((rd_T62 l0 x5_1).f1) ((rd_T62 l0 x5_1).f2) ((rd_T62 l0 x5_1).f3) ((rd_T62 l0 x5_1).f4) _ _ ((rd_T62 l0 x5_1).f5) x1_1 t111 _ ?side1 ?side2 A6.out).mono ?_); (case side1 => repeat (first | exact (Kd.C_below HR110_5.out HB.out) | (with_reducible refine Kd.C_alloc ?_ _) | (with_reducible refine Kd.C_drewN ?_ _) | (with_reducible refine Kd.C_drew ?_))); (case side2 => exact HC110_5.out); rintro e w9 ⟨rfl, hb⟩; refine ⟨_, rfl, ?_⟩; replace HB := zt w hb; (try clear hb); (try clear hb2); (try clear hk); (try clear hi)))
       go_roundg k1
       case measure => have := HK1.out; omega
       case rel => exact ⟨(t111), (wrap64 (x5_1 + 1)), (zE _), (zE _), H', ⟨by have := HK1.out; omega⟩, ⟨zb _⟩⟩
     ·rw [if_neg c5] at H
      exact absurd H (by simp)
    ·rw [if_neg c4] at H
     have c4b0 : decide (x5_1 < (l0.length : Int)) = false := decide_eq_false c4
     clear c4
     obtain rfl := Option.some.inj H
     go_wp2
     go_ret
     exact ⟨ze _, zb _⟩

def laws_szOSym.f (a0_0 : ByteArray) (a0_1 : Int) (a0_2 : Int) (a0_3 : Bool) (a1 : Int) : Option (Int) := if (wrap64 (a1 - (a0_0.size : Int))) < 0 then (some (-1)) else (some (wrap64 (a1 - (a0_0.size : Int))))
set_option maxHeartbeats 8000000 in
set_option maxRecDepth 100000 in
theorem laws_szOSym.calls (a0_0 : ByteArray) (a0_1 : Int) (a0_2 : Int) (a0_3 : Bool) (a1 : Int) (r : Int) (w : World) (h : laws_szOSym.f a0_0 a0_1 a0_2 a0_3 a1 = some r) :
 Calls Tryz.prog 38 #[.agg #[.string a0_0, .int .i64 a0_1, .int .i64 a0_2, .bool a0_3], .int .i64 a1] w fun e w' => e = .returned (.int .i64 r) ∧ Below w.heap.size w w' := by
 have hu65 := Tryz.underlying65
 have HB := Aside0.mk (Below.refl w.heap.size w)
 have H : (if (wrap64 (a1 - (a0_0.size : Int))) < 0 then (some (-1)) else (some (wrap64 (a1 - (a0_0.size : Int))))) = some r := h
 clear h
 by_cases c3 : (wrap64 (a1 - (a0_0.size : Int))) < 0
 ·rw [if_pos c3] at H
  have c3b0 : decide ((wrap64 (a1 - (a0_0.size : Int))) < 0) = true := decide_eq_true c3
  clear c3
  obtain rfl := Option.some.inj H
  go_enter Tryz.func38, Tryz.ntmps38
  go_wp2_with (first | ((with_reducible refine gate_dst (N := 2) rfl ?_); refine zbx 2 #[.string a0_0, .int .i64 a0_1, .int .i64 a0_2, .bool a0_3] 65 ?_; intro gb112 hg w4 hbox hb; have BK112 := Aside0.mk (hbox); have GW112 := zs w hg; have GE112 := GW112; replace HB := zt w hb; clear hb hbox hg; have hcz5_0 := zc0 BK112; have hcz5_1 := zc1 BK112; have hcz5_2 := zc2 BK112; have hcz5_3 := zc3 BK112; have hfz5_0 := blk_frozen BK112.out 0; have hfz5_1 := blk_frozen BK112.out 1; have hfz5_2 := blk_frozen BK112.out 2; have hfz5_3 := blk_frozen BK112.out 3))
  go_ret
  exact ⟨ze _, zb _⟩
 ·rw [if_neg c3] at H
  have c3b0 : decide ((wrap64 (a1 - (a0_0.size : Int))) < 0) = false := decide_eq_false c3
  clear c3
  obtain rfl := Option.some.inj H
  go_enter Tryz.func38, Tryz.ntmps38
  go_wp2_with (first | ((with_reducible refine gate_dst (N := 2) rfl ?_); refine zbx 2 #[.string a0_0, .int .i64 a0_1, .int .i64 a0_2, .bool a0_3] 65 ?_; intro gb112 hg w6 hbox hb; have BK112 := Aside0.mk (hbox); have GW112 := zs w hg; have GE112 := GW112; replace HB := zt w hb; clear hb hbox hg; have hcz7_0 := zc0 BK112; have hcz7_1 := zc1 BK112; have hcz7_2 := zc2 BK112; have hcz7_3 := zc3 BK112; have hfz7_0 := blk_frozen BK112.out 0; have hfz7_1 := blk_frozen BK112.out 1; have hfz7_2 := blk_frozen BK112.out 2; have hfz7_3 := blk_frozen BK112.out 3))
  go_ret
  exact ⟨ze _, zb _⟩

def laws_szOSymS.l0 : Nat → List (S65) → Int → Int → Option (Int)
  | 0, _, _, _ => none
  | k + 1, x0, x1, x5 => if x5 < (x0.length : Int) then (if 0 ≤ x5 then ((laws_szOSym.f ((rd_T65 x0 x5).f0) ((rd_T65 x0 x5).f1) ((rd_T65 x0 x5).f2) ((rd_T65 x0 x5).f3) x1).bind fun t114 => (if t114 < 0 then (some (-1)) else (laws_szOSymS.l0 k x0 t114 (wrap64 (x5 + 1))))) else (none)) else (some x1)
def laws_szOSymS.f (k : Nat) (l0 : List (S65)) (a1 : Int) : Option (Int) := if (wrap64 (a1 - (l0.length : Int))) < 0 then (some (-1)) else (laws_szOSymS.l0 k l0 (wrap64 (a1 - (l0.length : Int))) 0)
theorem laws_szOSymS.mono_l : ∀ k, (∀ y0 y1 y2, LeO (laws_szOSymS.l0 k y0 y1 y2) (laws_szOSymS.l0 (k + 1) y0 y1 y2))
  | 0 => fun _ _ _ r h => by simp [laws_szOSymS.l0] at h
  | k + 1 => by
    have ih0 := laws_szOSymS.mono_l k
    · intro y0 y1 y2
      unfold laws_szOSymS.l0
      repeat' with_reducible first | exact ih0 _ _ _ | exact LeO.refl _ | exact LeO.none _ | refine LeO.ite ?_ ?_ | refine LeO.bind ?_ (fun _ => ?_)
theorem laws_szOSymS.mono : ∀ a0 a1 k, LeO (laws_szOSymS.f k a0 a1) (laws_szOSymS.f (k + 1) a0 a1) := by
  intro a0 a1 k
  have ih0 := laws_szOSymS.mono_l k
  unfold laws_szOSymS.f
  repeat' with_reducible first | exact ih0 _ _ _ | exact LeO.refl _ | exact LeO.none _ | refine LeO.ite ?_ ?_ | refine LeO.bind ?_ (fun _ => ?_)
set_option maxHeartbeats 8000000 in
set_option maxRecDepth 100000 in
theorem laws_szOSymS.calls (k : Nat) (A0 : Option Addr) (c0 : Nat) (l0 : List (S65)) (a1 : Int) (r : Int) (w : World) (hr0 : Kd.C k65 w A0 l0.length l0) (hc0 : l0.length ≤ c0) (h : laws_szOSymS.f k l0 a1 = some r) :
 Calls Tryz.prog 15 #[.slice A0 l0.length c0, .int .i64 a1] w fun e w' => e = .returned (.int .i64 r) ∧ Below w.heap.size w w' := by
 have hu65 := Tryz.underlying65
 have HR0 := Aside0.mk hr0
 have HC0 := Aside0.mk hc0
 clear hr0 hc0
 have HB := Aside0.mk (Below.refl w.heap.size w)
 have H : (if (wrap64 (a1 - (l0.length : Int))) < 0 then (some (-1)) else (laws_szOSymS.l0 k l0 (wrap64 (a1 - (l0.length : Int))) 0)) = some r := h
 clear h
 by_cases c3 : (wrap64 (a1 - (l0.length : Int))) < 0
 ·rw [if_pos c3] at H
  have c3b0 : decide ((wrap64 (a1 - (l0.length : Int))) < 0) = true := decide_eq_true c3
  clear c3
  obtain rfl := Option.some.inj H
  go_enter Tryz.func15, Tryz.ntmps15
  go_wp2
  go_ret
  exact ⟨ze _, zb _⟩
 ·rw [if_neg c3] at H
  have c3b0 : decide ((wrap64 (a1 - (l0.length : Int))) < 0) = false := decide_eq_false c3
  clear c3
  have H' := Aside0.mk H
  clear H
  go_enter Tryz.func15, Tryz.ntmps15
  go_wp2
  go_loopg [1, 5] k (fun kq v1 v5 w' => ∃ (x1_1 : Int) (x5_1 : Int), v1 = .int .i64 x1_1 ∧ v5 = .int .i64 x5_1 ∧ Aside0 (laws_szOSymS.l0 kq l0 x1_1 x5_1 = some r) ∧ Aside0 (kq ≤ k) ∧ Aside0 (Below w.heap.size w w'))
  case atStart => exact ⟨(wrap64 (a1 - (l0.length : Int))), (0), (zE _), (zE _), H', ⟨Nat.le_refl _⟩, ⟨zb _⟩⟩
  case round =>
   clear H'
   obtain ⟨x1_1, x5_1, rfl, rfl, HA, HK1, HB⟩ := hrel
   cases gk with
   | zero => exact absurd HA.out (by simp [laws_szOSymS.l0])
   | succ k1 =>
    have H := HA.out
    clear HA
    simp only [laws_szOSymS.l0] at H
    by_cases c4 : x5_1 < (l0.length : Int)
    ·rw [if_pos c4] at H
     have c4b0 : decide (x5_1 < (l0.length : Int)) = true := decide_eq_true c4
     clear c4
     by_cases c5 : 0 ≤ x5_1
     ·rw [if_pos c5] at H
      have c5b0 : decide (0 ≤ x5_1) = true := decide_eq_true c5
      clear c5
      obtain ⟨t114, A60, H⟩ := Option.bind_eq_some_iff.mp H
      have A6 := Aside0.mk A60
      clear A60
      by_cases c7 : t114 < 0
      ·rw [if_pos c7] at H
       have c7b0 : decide (t114 < 0) = true := decide_eq_true c7
       clear c7
       obtain rfl := Option.some.inj H
       have p113 : 0 ≤ (x5_1 : Int) := of_decide_eq_true (za _)
       have q113 : x5_1 < (l0.length : Int) := of_decide_eq_true (za _)
       obtain ⟨ad113, e113, hx113_0, hx113_1, hx113_2, hx113_3⟩ := at_T65 HR0.out x5_1 p113 q113
       cases e113
       replace hx113_0 := zx HB hx113_0
       replace hx113_1 := zx HB hx113_1
       replace hx113_2 := zx HB hx113_2
       replace hx113_3 := zx HB hx113_3
       replace p113 := eq_true p113
       replace q113 := eq_true q113
       go_wp2_with (first | ((with_reducible refine gate_callee (f := 38) rfl ?_); refine zc (some 23) Tryz.func38 #[.agg #[.string ((rd_T65 l0 x5_1).f0), .int .i64 ((rd_T65 l0 x5_1).f1), .int .i64 ((rd_T65 l0 x5_1).f2), .bool ((rd_T65 l0 x5_1).f3)], .int .i64 x1_1] ?_; (with_reducible refine (laws_szOSym.calls ((rd_T65 l0 x5_1).f0) ((rd_T65 l0 x5_1).f1) ((rd_T65 l0 x5_1).f2) ((rd_T65 l0 x5_1).f3) x1_1 t114 _ A6.out).mono ?_); rintro e w8 ⟨rfl, hb⟩; refine ⟨_, rfl, ?_⟩; replace HB := zt w hb; (try clear hb); (try clear hb2); (try clear hk); (try clear hi)))
       go_ret
       exact ⟨ze _, zb _⟩
      ·rw [if_neg c7] at H
       have c7b0 : decide (t114 < 0) = false := decide_eq_false c7
       clear c7
       have H' := Aside0.mk H
       clear H
       have p113 : 0 ≤ (x5_1 : Int) := of_decide_eq_true (za _)
       have q113 : x5_1 < (l0.length : Int) := of_decide_eq_true (za _)
       obtain ⟨ad113, e113, hx113_0, hx113_1, hx113_2, hx113_3⟩ := at_T65 HR0.out x5_1 p113 q113
       cases e113
       replace hx113_0 := zx HB hx113_0
       replace hx113_1 := zx HB hx113_1
       replace hx113_2 := zx HB hx113_2
       replace hx113_3 := zx HB hx113_3
       replace p113 := eq_true p113
       replace q113 := eq_true q113
       go_wp2_with (first | ((with_reducible refine gate_callee (f := 38) rfl ?_); refine zc (some 23) Tryz.func38 #[.agg #[.string ((rd_T65 l0 x5_1).f0), .int .i64 ((rd_T65 l0 x5_1).f1), .int .i64 ((rd_T65 l0 x5_1).f2), .bool ((rd_T65 l0 x5_1).f3)], .int .i64 x1_1] ?_; (with_reducible refine (laws_szOSym.calls ((rd_T65 l0 x5_1).f0) ((rd_T65 l0 x5_1).f1) ((rd_T65 l0 x5_1).f2) ((rd_T65 l0 x5_1).f3) x1_1 t114 _ A6.out).mono ?_); rintro e w9 ⟨rfl, hb⟩; refine ⟨_, rfl, ?_⟩; replace HB := zt w hb; (try clear hb); (try clear hb2); (try clear hk); (try clear hi)))
       go_roundg k1
       case measure => have := HK1.out; omega
       case rel => exact ⟨(t114), (wrap64 (x5_1 + 1)), (zE _), (zE _), H', ⟨by have := HK1.out; omega⟩, ⟨zb _⟩⟩
     ·rw [if_neg c5] at H
      exact absurd H (by simp)
    ·rw [if_neg c4] at H
     have c4b0 : decide (x5_1 < (l0.length : Int)) = false := decide_eq_false c4
     clear c4
     obtain rfl := Option.some.inj H
     go_wp2
     go_ret
     exact ⟨ze _, zb _⟩

def laws_szENodeSS.l0 : Nat → List (List (S119)) → Int → Int → Option (Int)
  | 0, _, _, _ => none
  | k + 1, x0, x1, x5 => if x5 < (x0.length : Int) then (if 0 ≤ x5 then ((laws_szENodeS.f k (rd_L3 x0 x5) x1).bind fun t116 => (if t116 < 0 then (some (-1)) else (laws_szENodeSS.l0 k x0 t116 (wrap64 (x5 + 1))))) else (none)) else (some x1)
def laws_szENodeSS.f (k : Nat) (l0 : List (List (S119))) (a1 : Int) : Option (Int) := if (wrap64 (a1 - (l0.length : Int))) < 0 then (some (-1)) else (laws_szENodeSS.l0 k l0 (wrap64 (a1 - (l0.length : Int))) 0)
theorem laws_szENodeSS.mono_l : ∀ k, (∀ y0 y1 y2, LeO (laws_szENodeSS.l0 k y0 y1 y2) (laws_szENodeSS.l0 (k + 1) y0 y1 y2))
  | 0 => fun _ _ _ r h => by simp [laws_szENodeSS.l0] at h
  | k + 1 => by
    have ih0 := laws_szENodeSS.mono_l k
    · intro y0 y1 y2
      unfold laws_szENodeSS.l0
      repeat' with_reducible first | exact ih0 _ _ _ | exact laws_szENodeS.mono _ _ _ | exact LeO.refl _ | exact LeO.none _ | refine LeO.ite ?_ ?_ | refine LeO.bind ?_ (fun _ => ?_)
theorem laws_szENodeSS.mono : ∀ a0 a1 k, LeO (laws_szENodeSS.f k a0 a1) (laws_szENodeSS.f (k + 1) a0 a1) := by
  intro a0 a1 k
  have ih0 := laws_szENodeSS.mono_l k
  unfold laws_szENodeSS.f
  repeat' with_reducible first | exact ih0 _ _ _ | exact laws_szENodeS.mono _ _ _ | exact LeO.refl _ | exact LeO.none _ | refine LeO.ite ?_ ?_ | refine LeO.bind ?_ (fun _ => ?_)
set_option maxHeartbeats 8000000 in
set_option maxRecDepth 100000 in
theorem laws_szENodeSS.calls (k : Nat) (A0 : Option Addr) (c0 : Nat) (l0 : List (List (S119))) (a1 : Int) (r : Int) (w : World) (hr0 : Kd.C (Kd.slice 119 k119) w A0 l0.length l0) (hc0 : l0.length ≤ c0) (h : laws_szENodeSS.f k l0 a1 = some r) :
 Calls Tryz.prog 16 #[.slice A0 l0.length c0, .int .i64 a1] w fun e w' => e = .returned (.int .i64 r) ∧ Below w.heap.size w w' := by
 have HR0 := Aside0.mk hr0
 have HC0 := Aside0.mk hc0
 clear hr0 hc0
 have HB := Aside0.mk (Below.refl w.heap.size w)
 have H : (if (wrap64 (a1 - (l0.length : Int))) < 0 then (some (-1)) else (laws_szENodeSS.l0 k l0 (wrap64 (a1 - (l0.length : Int))) 0)) = some r := h
 clear h
 by_cases c3 : (wrap64 (a1 - (l0.length : Int))) < 0
 ·rw [if_pos c3] at H
  have c3b0 : decide ((wrap64 (a1 - (l0.length : Int))) < 0) = true := decide_eq_true c3
  clear c3
  obtain rfl := Option.some.inj H
  go_enter Tryz.func16, Tryz.ntmps16
  go_wp2
  go_ret
  exact ⟨ze _, zb _⟩
 ·rw [if_neg c3] at H
  have c3b0 : decide ((wrap64 (a1 - (l0.length : Int))) < 0) = false := decide_eq_false c3
  clear c3
  have H' := Aside0.mk H
  clear H
  go_enter Tryz.func16, Tryz.ntmps16
  go_wp2
  go_loopg [1, 5] k (fun kq v1 v5 w' => ∃ (x1_1 : Int) (x5_1 : Int), v1 = .int .i64 x1_1 ∧ v5 = .int .i64 x5_1 ∧ Aside0 (laws_szENodeSS.l0 kq l0 x1_1 x5_1 = some r) ∧ Aside0 (kq ≤ k) ∧ Aside0 (Below w.heap.size w w'))
  case atStart => exact ⟨(wrap64 (a1 - (l0.length : Int))), (0), (zE _), (zE _), H', ⟨Nat.le_refl _⟩, ⟨zb _⟩⟩
  case round =>
   clear H'
   obtain ⟨x1_1, x5_1, rfl, rfl, HA, HK1, HB⟩ := hrel
   cases gk with
   | zero => exact absurd HA.out (by simp [laws_szENodeSS.l0])
   | succ k1 =>
    have H := HA.out
    clear HA
    simp only [laws_szENodeSS.l0] at H
    by_cases c4 : x5_1 < (l0.length : Int)
    ·rw [if_pos c4] at H
     have c4b0 : decide (x5_1 < (l0.length : Int)) = true := decide_eq_true c4
     clear c4
     by_cases c5 : 0 ≤ x5_1
     ·rw [if_pos c5] at H
      have c5b0 : decide (0 ≤ x5_1) = true := decide_eq_true c5
      clear c5
      obtain ⟨t116, A60, H⟩ := Option.bind_eq_some_iff.mp H
      have A6 := Aside0.mk A60
      clear A60
      by_cases c7 : t116 < 0
      ·rw [if_pos c7] at H
       have c7b0 : decide (t116 < 0) = true := decide_eq_true c7
       clear c7
       obtain rfl := Option.some.inj H
       have p115 : 0 ≤ (x5_1 : Int) := of_decide_eq_true (za _)
       have q115 : x5_1 < (l0.length : Int) := of_decide_eq_true (za _)
       obtain ⟨ad115, A115_0, c115_0, e115, hx115_0, hl115_0, hi115_0⟩ := at_L3 HR0.out x5_1 p115 q115
       cases e115
       replace hx115_0 := zx HB hx115_0
       have HR115_0 := Aside0.mk hi115_0
       have HC115_0 := Aside0.mk hl115_0
       clear hi115_0 hl115_0
       replace p115 := eq_true p115
       replace q115 := eq_true q115
       go_wp2_with (first | ((with_reducible refine gate_callee (f := 39) rfl ?_); refine zc (some 23) Tryz.func39 #[.slice A115_0 (rd_L3 l0 x5_1).length c115_0, .int .i64 x1_1] ?_; (with_reducible refine (laws_szENodeS.calls k1 _ _ (rd_L3 l0 x5_1) x1_1 t116 _ ?side1 ?side2 A6.out).mono ?_); (case side1 => repeat (first | exact (Kd.C_below HR115_0.out HB.out) | (with_reducible refine Kd.C_alloc ?_ _) | (with_reducible refine Kd.C_drewN ?_ _) | (with_reducible refine Kd.C_drew ?_))); (case side2 => exact HC115_0.out); rintro e w8 ⟨rfl, hb⟩; refine ⟨_, rfl, ?_⟩; replace HB := zt w hb; (try clear hb); (try clear hb2); (try clear hk); (try clear hi)))
       go_ret
       exact ⟨ze _, zb _⟩
      ·rw [if_neg c7] at H
       have c7b0 : decide (t116 < 0) = false := decide_eq_false c7
       clear c7
       have H' := Aside0.mk H
       clear H
       have p115 : 0 ≤ (x5_1 : Int) := of_decide_eq_true (za _)
       have q115 : x5_1 < (l0.length : Int) := of_decide_eq_true (za _)
       obtain ⟨ad115, A115_0, c115_0, e115, hx115_0, hl115_0, hi115_0⟩ := at_L3 HR0.out x5_1 p115 q115
       cases e115
       replace hx115_0 := zx HB hx115_0
       have HR115_0 := Aside0.mk hi115_0
       have HC115_0 := Aside0.mk hl115_0
       clear hi115_0 hl115_0
       replace p115 := eq_true p115
       replace q115 := eq_true q115
       go_wp2_with (first | ((with_reducible refine gate_callee (f := 39) rfl ?_); refine zc (some 23) Tryz.func39 #[.slice A115_0 (rd_L3 l0 x5_1).length c115_0, .int .i64 x1_1] ?_; (with_reducible refine (laws_szENodeS.calls k1 _ _ (rd_L3 l0 x5_1) x1_1 t116 _ ?side1 ?side2 A6.out).mono ?_); (case side1 => repeat (first | exact (Kd.C_below HR115_0.out HB.out) | (with_reducible refine Kd.C_alloc ?_ _) | (with_reducible refine Kd.C_drewN ?_ _) | (with_reducible refine Kd.C_drew ?_))); (case side2 => exact HC115_0.out); rintro e w9 ⟨rfl, hb⟩; refine ⟨_, rfl, ?_⟩; replace HB := zt w hb; (try clear hb); (try clear hb2); (try clear hk); (try clear hi)))
       go_roundg k1
       case measure => have := HK1.out; omega
       case rel => exact ⟨(t116), (wrap64 (x5_1 + 1)), (zE _), (zE _), H', ⟨by have := HK1.out; omega⟩, ⟨zb _⟩⟩
     ·rw [if_neg c5] at H
      exact absurd H (by simp)
    ·rw [if_neg c4] at H
     have c4b0 : decide (x5_1 < (l0.length : Int)) = false := decide_eq_false c4
     clear c4
     obtain rfl := Option.some.inj H
     go_wp2
     go_ret
     exact ⟨ze _, zb _⟩

end Go.Proofs.YtlacpadpdfccmaaGreatDoor.PFnExactObjectText
namespace Go.Proofs.YtlacpadpdfccmaaGreatDoor.PFnExactObjectText
open Go.RowKit Go.Proofs.YtlacpadpdfccmaaGreatDoor.Z Go.Proofs.YtlacpadpdfccmaaGreatDoorW.PrintWords Go.Proofs.YtlacpadpdfccmaaGreatDoorW.PrintLast Go.Proofs.YtlacpadpdfccmaaGreatDoorW.PrintMore
attribute [local go_sem] max2_int min2_int max_two min_two max_three min_three max_four min_four   -- for this text's walks alone
set_option linter.unusedVariables false
set_option linter.unusedSimpArgs false

def laws_szObject.f (k : Nat) (l0_0 : List (S62)) (l0_1 : List (S65)) (l0_2 : List (List (S119))) (a1 : Int) : Option (Int) := (laws_szSectionS.f k l0_0 a1).bind fun t118 => (if t118 < 0 then (some (-1)) else ((laws_szOSymS.f k l0_1 t118).bind fun t119 => (if t119 < 0 then (some (-1)) else ((laws_szENodeSS.f k l0_2 t119).bind fun t120 => (if t120 < 0 then (some (-1)) else (some t120))))))
theorem laws_szObject.mono : ∀ a0 a1 a2 a3 k, LeO (laws_szObject.f k a0 a1 a2 a3) (laws_szObject.f (k + 1) a0 a1 a2 a3) := by
  intro a0 a1 a2 a3 k
  unfold laws_szObject.f
  repeat' with_reducible first | exact laws_szENodeSS.mono _ _ _ | exact laws_szOSymS.mono _ _ _ | exact laws_szSectionS.mono _ _ _ | exact LeO.refl _ | exact LeO.none _ | refine LeO.ite ?_ ?_ | refine LeO.bind ?_ (fun _ => ?_)
set_option maxHeartbeats 8000000 in
set_option maxRecDepth 100000 in
theorem laws_szObject.calls (k : Nat) (A0_0 : Option Addr) (c0_0 : Nat) (l0_0 : List (S62)) (A0_1 : Option Addr) (c0_1 : Nat) (l0_1 : List (S65)) (A0_2 : Option Addr) (c0_2 : Nat) (l0_2 : List (List (S119))) (a1 : Int) (r : Int) (w : World) (hr0_0 : Kd.C k62 w A0_0 l0_0.length l0_0) (hc0_0 : l0_0.length ≤ c0_0) (hr0_1 : Kd.C k65 w A0_1 l0_1.length l0_1) (hc0_1 : l0_1.length ≤ c0_1) (hr0_2 : Kd.C (Kd.slice 119 k119) w A0_2 l0_2.length l0_2) (hc0_2 : l0_2.length ≤ c0_2) (h : laws_szObject.f k l0_0 l0_1 l0_2 a1 = some r) :
 Calls Tryz.prog 5 #[.agg #[.slice A0_0 l0_0.length c0_0, .slice A0_1 l0_1.length c0_1, .slice A0_2 l0_2.length c0_2], .int .i64 a1] w fun e w' => e = .returned (.int .i64 r) ∧ Below w.heap.size w w' := by
 have hu26 := Tryz.underlying26
 have HR0_0 := Aside0.mk hr0_0
 have HC0_0 := Aside0.mk hc0_0
 clear hr0_0 hc0_0
 have HR0_1 := Aside0.mk hr0_1
 have HC0_1 := Aside0.mk hc0_1
 clear hr0_1 hc0_1
 have HR0_2 := Aside0.mk hr0_2
 have HC0_2 := Aside0.mk hc0_2
 clear hr0_2 hc0_2
 have HB := Aside0.mk (Below.refl w.heap.size w)
 have H : ((laws_szSectionS.f k l0_0 a1).bind fun t118 => (if t118 < 0 then (some (-1)) else ((laws_szOSymS.f k l0_1 t118).bind fun t119 => (if t119 < 0 then (some (-1)) else ((laws_szENodeSS.f k l0_2 t119).bind fun t120 => (if t120 < 0 then (some (-1)) else (some t120))))))) = some r := h
 clear h
 obtain ⟨t118, A30, H⟩ := Option.bind_eq_some_iff.mp H
 have A3 := Aside0.mk A30
 clear A30
 by_cases c4 : t118 < 0
 ·rw [if_pos c4] at H
  have c4b0 : decide (t118 < 0) = true := decide_eq_true c4
  clear c4
  obtain rfl := Option.some.inj H
  go_enter Tryz.func5, Tryz.ntmps5
  go_wp2_with (first | ((with_reducible refine gate_dst (N := 2) rfl ?_); refine zbx 2 #[.slice A0_0 l0_0.length c0_0, .slice A0_1 l0_1.length c0_1, .slice A0_2 l0_2.length c0_2] 26 ?_; intro gb117 hg w5 hbox hb; have BK117 := Aside0.mk (hbox); have GW117 := zs w hg; have GE117 := GW117; replace HB := zt w hb; clear hb hbox hg; obtain ⟨hcz6_0, hcz6_1, hcz6_2, hfz6_0, hfz6_1, hfz6_2⟩ := zF3 BK117) | ((with_reducible refine gate_callee (f := 14) rfl ?_); refine zc (some 8) Tryz.func14 #[.slice A0_0 l0_0.length c0_0, .int .i64 a1] ?_; (with_reducible refine (laws_szSectionS.calls k _ _ l0_0 a1 t118 _ ?side1 ?side2 A3.out).mono ?_); (case side1 => repeat (first | exact (Kd.C_below HR0_0.out HB.out) | (with_reducible refine Kd.C_alloc ?_ _) | (with_reducible refine Kd.C_drewN ?_ _) | (with_reducible refine Kd.C_drew ?_))); (case side2 => exact HC0_0.out); rintro e w7 ⟨rfl, hb⟩; refine ⟨_, rfl, ?_⟩; replace BK117 := zk BK117 hb; replace HB := zt w hb; (try clear hb); (try clear hb2); (try clear hk); (try clear hi)))
  go_ret
  exact ⟨ze _, zb _⟩
 ·rw [if_neg c4] at H
  have c4b0 : decide (t118 < 0) = false := decide_eq_false c4
  clear c4
  obtain ⟨t119, A80, H⟩ := Option.bind_eq_some_iff.mp H
  have A8 := Aside0.mk A80
  clear A80
  by_cases c9 : t119 < 0
  ·rw [if_pos c9] at H
   have c9b0 : decide (t119 < 0) = true := decide_eq_true c9
   clear c9
   obtain rfl := Option.some.inj H
   go_enter Tryz.func5, Tryz.ntmps5
   go_wp2_with (first | ((with_reducible refine gate_dst (N := 2) rfl ?_); refine zbx 2 #[.slice A0_0 l0_0.length c0_0, .slice A0_1 l0_1.length c0_1, .slice A0_2 l0_2.length c0_2] 26 ?_; intro gb117 hg w10 hbox hb; have BK117 := Aside0.mk (hbox); have GW117 := zs w hg; have GE117 := GW117; replace HB := zt w hb; clear hb hbox hg; obtain ⟨hcz11_0, hcz11_1, hcz11_2, hfz11_0, hfz11_1, hfz11_2⟩ := zF3 BK117) | ((with_reducible refine gate_callee (f := 14) rfl ?_); refine zc (some 8) Tryz.func14 #[.slice A0_0 l0_0.length c0_0, .int .i64 a1] ?_; (with_reducible refine (laws_szSectionS.calls k _ _ l0_0 a1 t118 _ ?side1 ?side2 A3.out).mono ?_); (case side1 => repeat (first | exact (Kd.C_below HR0_0.out HB.out) | (with_reducible refine Kd.C_alloc ?_ _) | (with_reducible refine Kd.C_drewN ?_ _) | (with_reducible refine Kd.C_drew ?_))); (case side2 => exact HC0_0.out); rintro e w12 ⟨rfl, hb⟩; refine ⟨_, rfl, ?_⟩; replace BK117 := zk BK117 hb; replace HB := zt w hb; (try clear hb); (try clear hb2); (try clear hk); (try clear hi); obtain ⟨hcz13_0, hcz13_1, hcz13_2, hfz13_0, hfz13_1, hfz13_2⟩ := zF3 BK117) | ((with_reducible refine gate_callee (f := 15) rfl ?_); refine zc (some 14) Tryz.func15 #[.slice A0_1 l0_1.length c0_1, .int .i64 t118] ?_; (with_reducible refine (laws_szOSymS.calls k _ _ l0_1 t118 t119 _ ?side1 ?side2 A8.out).mono ?_); (case side1 => repeat (first | exact (Kd.C_below HR0_1.out HB.out) | (with_reducible refine Kd.C_alloc ?_ _) | (with_reducible refine Kd.C_drewN ?_ _) | (with_reducible refine Kd.C_drew ?_))); (case side2 => exact HC0_1.out); rintro e w14 ⟨rfl, hb⟩; refine ⟨_, rfl, ?_⟩; replace BK117 := zk BK117 hb; replace HB := zt w hb; (try clear hb); (try clear hb2); (try clear hk); (try clear hi)))
   go_ret
   exact ⟨ze _, zb _⟩
  ·rw [if_neg c9] at H
   have c9b0 : decide (t119 < 0) = false := decide_eq_false c9
   clear c9
   obtain ⟨t120, A150, H⟩ := Option.bind_eq_some_iff.mp H
   have A15 := Aside0.mk A150
   clear A150
   by_cases c16 : t120 < 0
   ·rw [if_pos c16] at H
    have c16b0 : decide (t120 < 0) = true := decide_eq_true c16
    clear c16
    obtain rfl := Option.some.inj H
    go_enter Tryz.func5, Tryz.ntmps5
    go_wp2_with (first | ((with_reducible refine gate_dst (N := 2) rfl ?_); refine zbx 2 #[.slice A0_0 l0_0.length c0_0, .slice A0_1 l0_1.length c0_1, .slice A0_2 l0_2.length c0_2] 26 ?_; intro gb117 hg w17 hbox hb; have BK117 := Aside0.mk (hbox); have GW117 := zs w hg; have GE117 := GW117; replace HB := zt w hb; clear hb hbox hg; obtain ⟨hcz18_0, hcz18_1, hcz18_2, hfz18_0, hfz18_1, hfz18_2⟩ := zF3 BK117) | ((with_reducible refine gate_callee (f := 14) rfl ?_); refine zc (some 8) Tryz.func14 #[.slice A0_0 l0_0.length c0_0, .int .i64 a1] ?_; (with_reducible refine (laws_szSectionS.calls k _ _ l0_0 a1 t118 _ ?side1 ?side2 A3.out).mono ?_); (case side1 => repeat (first | exact (Kd.C_below HR0_0.out HB.out) | (with_reducible refine Kd.C_alloc ?_ _) | (with_reducible refine Kd.C_drewN ?_ _) | (with_reducible refine Kd.C_drew ?_))); (case side2 => exact HC0_0.out); rintro e w19 ⟨rfl, hb⟩; refine ⟨_, rfl, ?_⟩; replace BK117 := zk BK117 hb; replace HB := zt w hb; (try clear hb); (try clear hb2); (try clear hk); (try clear hi); obtain ⟨hcz20_0, hcz20_1, hcz20_2, hfz20_0, hfz20_1, hfz20_2⟩ := zF3 BK117) | ((with_reducible refine gate_callee (f := 15) rfl ?_); refine zc (some 14) Tryz.func15 #[.slice A0_1 l0_1.length c0_1, .int .i64 t118] ?_; (with_reducible refine (laws_szOSymS.calls k _ _ l0_1 t118 t119 _ ?side1 ?side2 A8.out).mono ?_); (case side1 => repeat (first | exact (Kd.C_below HR0_1.out HB.out) | (with_reducible refine Kd.C_alloc ?_ _) | (with_reducible refine Kd.C_drewN ?_ _) | (with_reducible refine Kd.C_drew ?_))); (case side2 => exact HC0_1.out); rintro e w21 ⟨rfl, hb⟩; refine ⟨_, rfl, ?_⟩; replace BK117 := zk BK117 hb; replace HB := zt w hb; (try clear hb); (try clear hb2); (try clear hk); (try clear hi); obtain ⟨hcz22_0, hcz22_1, hcz22_2, hfz22_0, hfz22_1, hfz22_2⟩ := zF3 BK117) | ((with_reducible refine gate_callee (f := 16) rfl ?_); refine zc (some 20) Tryz.func16 #[.slice A0_2 l0_2.length c0_2, .int .i64 t119] ?_; (with_reducible refine (laws_szENodeSS.calls k _ _ l0_2 t119 t120 _ ?side1 ?side2 A15.out).mono ?_); (case side1 => repeat (first | exact (Kd.C_below HR0_2.out HB.out) | (with_reducible refine Kd.C_alloc ?_ _) | (with_reducible refine Kd.C_drewN ?_ _) | (with_reducible refine Kd.C_drew ?_))); (case side2 => exact HC0_2.out); rintro e w23 ⟨rfl, hb⟩; refine ⟨_, rfl, ?_⟩; replace BK117 := zk BK117 hb; replace HB := zt w hb; (try clear hb); (try clear hb2); (try clear hk); (try clear hi)))
    go_ret
    exact ⟨ze _, zb _⟩
   ·rw [if_neg c16] at H
    have c16b0 : decide (t120 < 0) = false := decide_eq_false c16
    clear c16
    obtain rfl := Option.some.inj H
    go_enter Tryz.func5, Tryz.ntmps5
    go_wp2_with (first | ((with_reducible refine gate_dst (N := 2) rfl ?_); refine zbx 2 #[.slice A0_0 l0_0.length c0_0, .slice A0_1 l0_1.length c0_1, .slice A0_2 l0_2.length c0_2] 26 ?_; intro gb117 hg w24 hbox hb; have BK117 := Aside0.mk (hbox); have GW117 := zs w hg; have GE117 := GW117; replace HB := zt w hb; clear hb hbox hg; obtain ⟨hcz25_0, hcz25_1, hcz25_2, hfz25_0, hfz25_1, hfz25_2⟩ := zF3 BK117) | ((with_reducible refine gate_callee (f := 14) rfl ?_); refine zc (some 8) Tryz.func14 #[.slice A0_0 l0_0.length c0_0, .int .i64 a1] ?_; (with_reducible refine (laws_szSectionS.calls k _ _ l0_0 a1 t118 _ ?side1 ?side2 A3.out).mono ?_); (case side1 => repeat (first | exact (Kd.C_below HR0_0.out HB.out) | (with_reducible refine Kd.C_alloc ?_ _) | (with_reducible refine Kd.C_drewN ?_ _) | (with_reducible refine Kd.C_drew ?_))); (case side2 => exact HC0_0.out); rintro e w26 ⟨rfl, hb⟩; refine ⟨_, rfl, ?_⟩; replace BK117 := zk BK117 hb; replace HB := zt w hb; (try clear hb); (try clear hb2); (try clear hk); (try clear hi); obtain ⟨hcz27_0, hcz27_1, hcz27_2, hfz27_0, hfz27_1, hfz27_2⟩ := zF3 BK117) | ((with_reducible refine gate_callee (f := 15) rfl ?_); refine zc (some 14) Tryz.func15 #[.slice A0_1 l0_1.length c0_1, .int .i64 t118] ?_; (with_reducible refine (laws_szOSymS.calls k _ _ l0_1 t118 t119 _ ?side1 ?side2 A8.out).mono ?_); (case side1 => repeat (first | exact (Kd.C_below HR0_1.out HB.out) | (with_reducible refine Kd.C_alloc ?_ _) | (with_reducible refine Kd.C_drewN ?_ _) | (with_reducible refine Kd.C_drew ?_))); (case side2 => exact HC0_1.out); rintro e w28 ⟨rfl, hb⟩; refine ⟨_, rfl, ?_⟩; replace BK117 := zk BK117 hb; replace HB := zt w hb; (try clear hb); (try clear hb2); (try clear hk); (try clear hi); obtain ⟨hcz29_0, hcz29_1, hcz29_2, hfz29_0, hfz29_1, hfz29_2⟩ := zF3 BK117) | ((with_reducible refine gate_callee (f := 16) rfl ?_); refine zc (some 20) Tryz.func16 #[.slice A0_2 l0_2.length c0_2, .int .i64 t119] ?_; (with_reducible refine (laws_szENodeSS.calls k _ _ l0_2 t119 t120 _ ?side1 ?side2 A15.out).mono ?_); (case side1 => repeat (first | exact (Kd.C_below HR0_2.out HB.out) | (with_reducible refine Kd.C_alloc ?_ _) | (with_reducible refine Kd.C_drewN ?_ _) | (with_reducible refine Kd.C_drew ?_))); (case side2 => exact HC0_2.out); rintro e w30 ⟨rfl, hb⟩; refine ⟨_, rfl, ?_⟩; replace BK117 := zk BK117 hb; replace HB := zt w hb; (try clear hb); (try clear hb2); (try clear hk); (try clear hi)))
    go_ret
    exact ⟨ze _, zb _⟩

def spec_l1Letter.f (a0 : Int) : Option (Bool) := if a0 ≥ 97 then (if a0 ≤ 122 then (some true) else (if a0 = 95 then (some true) else (some (a0 == 46)))) else (if a0 = 95 then (some true) else (some (a0 == 46)))
set_option maxHeartbeats 8000000 in
set_option maxRecDepth 100000 in
theorem spec_l1Letter.calls (a0 : Int) (r : Bool) (w : World) (h : spec_l1Letter.f a0 = some r) :
 Calls Tryz.prog 85 #[.int .u8 a0] w fun e w' => e = .returned (.bool r) ∧ Drawn0 w w' := by
 have H : (if a0 ≥ 97 then (if a0 ≤ 122 then (some true) else (if a0 = 95 then (some true) else (some (a0 == 46)))) else (if a0 = 95 then (some true) else (some (a0 == 46)))) = some r := h
 clear h
 by_cases c2 : a0 ≥ 97
 ·rw [if_pos c2] at H
  have c2b0 : decide (97 ≤ a0) = true := decide_eq_true c2
  clear c2
  by_cases c3 : a0 ≤ 122
  ·rw [if_pos c3] at H
   have c3b0 : decide (a0 ≤ 122) = true := decide_eq_true c3
   clear c3
   obtain rfl := Option.some.inj H
   go_enter Tryz.func85, Tryz.ntmps85
   go_wp2
   go_ret
   exact ⟨zE _, zd _⟩
  ·rw [if_neg c3] at H
   have c3b0 : decide (a0 ≤ 122) = false := decide_eq_false c3
   clear c3
   by_cases c4 : a0 = 95
   ·rw [if_pos c4] at H
    have c4b0 : (a0 == 95) = true := beq_iff_eq.mpr c4
    have c4b1 : (a0 != 95) = false := bne_eq_false_iff_eq.mpr c4
    clear c4
    obtain rfl := Option.some.inj H
    go_enter Tryz.func85, Tryz.ntmps85
    go_wp2
    go_ret
    exact ⟨zE _, zd _⟩
   ·rw [if_neg c4] at H
    have c4b0 : (a0 == 95) = false := beq_eq_false_iff_ne.mpr c4
    have c4b1 : (a0 != 95) = true := bne_iff_ne.mpr c4
    obtain rfl := Option.some.inj H
    go_enter Tryz.func85, Tryz.ntmps85
    go_wp2
    go_ret
    exact ⟨zE _, zd _⟩
 ·rw [if_neg c2] at H
  have c2b0 : decide (97 ≤ a0) = false := decide_eq_false c2
  clear c2
  by_cases c5 : a0 = 95
  ·rw [if_pos c5] at H
   have c5b0 : (a0 == 95) = true := beq_iff_eq.mpr c5
   have c5b1 : (a0 != 95) = false := bne_eq_false_iff_eq.mpr c5
   clear c5
   obtain rfl := Option.some.inj H
   go_enter Tryz.func85, Tryz.ntmps85
   go_wp2
   go_ret
   exact ⟨zE _, zd _⟩
  ·rw [if_neg c5] at H
   have c5b0 : (a0 == 95) = false := beq_eq_false_iff_ne.mpr c5
   have c5b1 : (a0 != 95) = true := bne_iff_ne.mpr c5
   obtain rfl := Option.some.inj H
   go_enter Tryz.func85, Tryz.ntmps85
   go_wp2
   go_ret
   exact ⟨zE _, zd _⟩

mutual
def spec_NameOk.j0 : Nat → ByteArray → Bool → Option (Bool)
  | 0, _, _ => none
  | k + 1, x0, x17 => if x17 = true then (some false) else (spec_NameOk.l0 k x0 0)
def spec_NameOk.l0 : Nat → ByteArray → Int → Option (Bool)
  | 0, _, _ => none
  | k + 1, x0, x3 => if x3 < (x0.size : Int) then (if 0 ≤ x3 then ((spec_l1Letter.f (bt x0 x3)).bind fun t122 => (if t122 = true then (spec_NameOk.l0 k x0 (wrap64 (x3 + 1))) else (if (bt x0 x3) ≥ 48 then (if ((bt x0 x3) ≤ 57) then (spec_NameOk.l0 k x0 (wrap64 (x3 + 1))) else (some false)) else (some false)))) else (none)) else (some true)
end
def spec_NameOk.f (k : Nat) (a0 : ByteArray) : Option (Bool) := if (a0.size : Int) < 1 then (spec_NameOk.j0 k a0 true) else (if (a0.size : Int) > 16 then (spec_NameOk.j0 k a0 true) else (if 0 < (a0.size : Int) then ((spec_l1Letter.f (bt a0 0)).bind fun t121 => (spec_NameOk.j0 k a0 (!t121))) else (none)))
theorem spec_NameOk.mono_l : ∀ k, (∀ y0 y1, LeO (spec_NameOk.j0 k y0 y1) (spec_NameOk.j0 (k + 1) y0 y1)) ∧ (∀ y0 y1, LeO (spec_NameOk.l0 k y0 y1) (spec_NameOk.l0 (k + 1) y0 y1))
  | 0 => ⟨fun _ _ r h => by simp [spec_NameOk.j0] at h, fun _ _ r h => by simp [spec_NameOk.l0] at h⟩
  | k + 1 => by
    obtain ⟨ih0, ih1⟩ := spec_NameOk.mono_l k
    refine ⟨?_, ?_⟩
    · intro y0 y1
      unfold spec_NameOk.j0
      repeat' with_reducible first | exact ih0 _ _ | exact ih1 _ _ | exact LeO.refl _ | exact LeO.none _ | refine LeO.ite ?_ ?_ | refine LeO.bind ?_ (fun _ => ?_)
    · intro y0 y1
      unfold spec_NameOk.l0
      repeat' with_reducible first | exact ih0 _ _ | exact ih1 _ _ | exact LeO.refl _ | exact LeO.none _ | refine LeO.ite ?_ ?_ | refine LeO.bind ?_ (fun _ => ?_)
theorem spec_NameOk.mono : ∀ a0 k, LeO (spec_NameOk.f k a0) (spec_NameOk.f (k + 1) a0) := by
  intro a0 k
  obtain ⟨ih0, ih1⟩ := spec_NameOk.mono_l k
  unfold spec_NameOk.f
  repeat' with_reducible first | exact ih0 _ _ | exact ih1 _ _ | exact LeO.refl _ | exact LeO.none _ | refine LeO.ite ?_ ?_ | refine LeO.bind ?_ (fun _ => ?_)
set_option maxHeartbeats 8000000 in
set_option maxRecDepth 100000 in
theorem spec_NameOk.calls (k : Nat) (a0 : ByteArray) (r : Bool) (w : World) (h : spec_NameOk.f k a0 = some r) :
 Calls Tryz.prog 41 #[.string a0] w fun e w' => e = .returned (.bool r) ∧ Drawn0 w w' := by
 have H : (if (a0.size : Int) < 1 then (spec_NameOk.j0 k a0 true) else (if (a0.size : Int) > 16 then (spec_NameOk.j0 k a0 true) else (if 0 < (a0.size : Int) then ((spec_l1Letter.f (bt a0 0)).bind fun t121 => (spec_NameOk.j0 k a0 (!t121))) else (none)))) = some r := h
 clear h
 have HC2 := Aside0.mk H
 clear H
 go_enter Tryz.func41, Tryz.ntmps41
 go_upto_region 1 with (fail)
 go_cut [17] (fun v17 wc => ∃ (kq : Nat) (x17_1 : Bool), v17 = .bool x17_1 ∧ Aside0 (spec_NameOk.j0 kq a0 x17_1 = some r) ∧ Aside0 (kq ≤ k) ∧ Drawn0 w wc)
 case first =>
  have H := HC2.out
  clear HC2
  by_cases c3 : (a0.size : Int) < 1
  ·rw [if_pos c3] at H
   have c3b0 : decide ((a0.size : Int) < 1) = true := decide_eq_true c3
   have c3b1 : decide (a0.size < 1) = true := decide_eq_true (by omega)
   clear c3
   (first | rw [c3b0] | (simp only [i64_w, i32_w]; rw [c3b0]) | skip)
   have H' := Aside0.mk H
   clear H
   go_wp2
   go_meet
   case rel => exact ⟨_, (true), (zE _), H', ⟨by first | omega | exact Nat.le_refl _⟩, zd _⟩
  ·rw [if_neg c3] at H
   have c3b0 : decide ((a0.size : Int) < 1) = false := decide_eq_false c3
   have c3b1 : decide (a0.size < 1) = false := decide_eq_false (by omega)
   clear c3
   (first | rw [c3b0] | (simp only [i64_w, i32_w]; rw [c3b0]) | skip)
   by_cases c4 : (a0.size : Int) > 16
   ·rw [if_pos c4] at H
    have c4b0 : decide (16 < (a0.size : Int)) = true := decide_eq_true c4
    have c4b1 : decide (16 < a0.size) = true := decide_eq_true (by omega)
    clear c4
    have H' := Aside0.mk H
    clear H
    go_wp2
    go_meet
    case rel => exact ⟨_, (true), (zE _), H', ⟨by first | omega | exact Nat.le_refl _⟩, zd _⟩
   ·rw [if_neg c4] at H
    have c4b0 : decide (16 < (a0.size : Int)) = false := decide_eq_false c4
    have c4b1 : decide (16 < a0.size) = false := decide_eq_false (by omega)
    clear c4
    by_cases c5 : 0 < (a0.size : Int)
    ·rw [if_pos c5] at H
     have c5b0 : decide (0 < (a0.size : Int)) = true := decide_eq_true c5
     have c5b1 : decide (0 < a0.size) = true := decide_eq_true (by omega)
     clear c5
     obtain ⟨t121, A70, H⟩ := Option.bind_eq_some_iff.mp H
     have A7 := Aside0.mk A70
     clear A70
     have H' := Aside0.mk H
     clear H
     have p6 : 0 ≤ (0 : Int) := (by omega)
     have q6 : 0 < a0.size := (by have : (0 : Int) < (a0.size : Int) := of_decide_eq_true (za _); omega)
     have hx6 : ∀ h : 0 < a0.size, ((a0[0]'h).toNat : Int) = bt a0 0 := bt_at a0 0
     clear p6
     have qi6 : (0 < (a0.size : Int)) = True := eq_true (of_decide_eq_true (za _))
     replace q6 := eq_true q6
     go_wp2_with (first | (go_at_call 85; (with_reducible refine (spec_l1Letter.calls (bt a0 0) t121 _ A7.out).mono ?_); rintro e w' ⟨rfl, ⟨nd, rfl⟩⟩))
     go_meet
     case rel => exact ⟨_, (!t121), (zE _), H', ⟨by first | omega | exact Nat.le_refl _⟩, zd _⟩
    ·rw [if_neg c5] at H
     exact absurd H (by simp)
 case rest =>
  clear HC2
  obtain ⟨kq, x17_1, rfl, HA, HJ1, ⟨mc1, rfl⟩⟩ := hcut
  cases kq with
  | zero => exact absurd HA.out (by simp [spec_NameOk.j0])
  | succ kj1 =>
   have H := HA.out
   clear HA
   simp only [spec_NameOk.j0] at H
   by_cases c8 : x17_1 = true
   ·subst c8
    rw [if_pos rfl] at H
    obtain rfl := Option.some.inj H
    go_wp2
    go_ret
    exact ⟨zE _, zd _⟩
   ·replace c8 := Bool.eq_false_iff.mpr c8
    subst c8
    rw [if_neg (show ¬ (false = true) by decide)] at H
    have H' := Aside0.mk H
    clear H
    go_wp2
    go_loopg [3] kj1 (fun kq v3 w' => ∃ (x3_2 : Int), v3 = .int .i64 x3_2 ∧ Aside0 (spec_NameOk.l0 kq a0 x3_2 = some r) ∧ Aside0 (kq ≤ kj1) ∧ Drawn0 w w')
    case atStart => exact ⟨(0), (zE _), H', ⟨Nat.le_refl _⟩, zd _⟩
    case round =>
     clear H'
     obtain ⟨x3_2, rfl, HA, HK2, ⟨m2, rfl⟩⟩ := hrel
     cases gk with
     | zero => exact absurd HA.out (by simp [spec_NameOk.l0])
     | succ k2 =>
      have H := HA.out
      clear HA
      simp only [spec_NameOk.l0] at H
      by_cases c9 : x3_2 < (a0.size : Int)
      ·rw [if_pos c9] at H
       have c9b0 : decide (x3_2 < (a0.size : Int)) = true := decide_eq_true c9
       clear c9
       by_cases c10 : 0 ≤ x3_2
       ·rw [if_pos c10] at H
        have c10b0 : decide (0 ≤ x3_2) = true := decide_eq_true c10
        clear c10
        obtain ⟨t122, A120, H⟩ := Option.bind_eq_some_iff.mp H
        have A12 := Aside0.mk A120
        clear A120
        by_cases c13 : t122 = true
        ·subst c13
         rw [if_pos rfl] at H
         have H' := Aside0.mk H
         clear H
         have p11 : 0 ≤ (x3_2 : Int) := of_decide_eq_true (za _)
         have q11 : x3_2 < (a0.size : Int) := of_decide_eq_true (za _)
         have hx11 := bt_at a0 x3_2
         replace p11 := eq_true p11
         replace q11 := eq_true q11
         go_wp2_with (first | ((with_reducible refine gate_callee (f := 85) rfl ?_); refine zc (some 27) Tryz.func85 #[.int .u8 (bt a0 x3_2)] ?_; (with_reducible refine (spec_l1Letter.calls (bt a0 x3_2) true _ A12.out).mono ?_); rintro e w' ⟨rfl, ⟨nd, rfl⟩⟩; refine ⟨_, rfl, ?_⟩))
         go_roundg k2
         case measure => have := HJ1.out; have := HK2.out; omega
         case rel => exact ⟨(wrap64 (x3_2 + 1)), (zE _), H', ⟨by have := HJ1.out; have := HK2.out; omega⟩, zd _⟩
        ·replace c13 := Bool.eq_false_iff.mpr c13
         subst c13
         rw [if_neg (show ¬ (false = true) by decide)] at H
         by_cases c15 : (bt a0 x3_2) ≥ 48
         ·rw [if_pos c15] at H
          have c15b0 : decide (48 ≤ (bt a0 x3_2)) = true := decide_eq_true c15
          clear c15
          by_cases c17 : ((bt a0 x3_2) ≤ 57)
          ·rw [if_pos c17] at H
           have c17b0 : decide ((bt a0 x3_2) ≤ 57) = true := decide_eq_true c17
           clear c17
           have H' := Aside0.mk H
           clear H
           have p11 : 0 ≤ (x3_2 : Int) := of_decide_eq_true (za _)
           have q11 : x3_2 < (a0.size : Int) := of_decide_eq_true (za _)
           have hx11 := bt_at a0 x3_2
           replace p11 := eq_true p11
           replace q11 := eq_true q11
           go_wp2_with (first | ((with_reducible refine gate_callee (f := 85) rfl ?_); refine zc (some 27) Tryz.func85 #[.int .u8 (bt a0 x3_2)] ?_; (with_reducible refine (spec_l1Letter.calls (bt a0 x3_2) false _ A12.out).mono ?_); rintro e w' ⟨rfl, ⟨nd, rfl⟩⟩; refine ⟨_, rfl, ?_⟩; have p14 : 0 ≤ (x3_2 : Int) := of_decide_eq_true (za _); have q14 : x3_2 < (a0.size : Int) := of_decide_eq_true (za _); have hx14 := bt_at a0 x3_2; replace p14 := eq_true p14; replace q14 := eq_true q14; have p16 : 0 ≤ (x3_2 : Int) := of_decide_eq_true (za _); have q16 : x3_2 < (a0.size : Int) := of_decide_eq_true (za _); have hx16 := bt_at a0 x3_2; replace p16 := eq_true p16; replace q16 := eq_true q16))
           go_roundg k2
           case measure => have := HJ1.out; have := HK2.out; omega
           case rel => exact ⟨(wrap64 (x3_2 + 1)), (zE _), H', ⟨by have := HJ1.out; have := HK2.out; omega⟩, zd _⟩
          ·rw [if_neg c17] at H
           have c17b0 : decide ((bt a0 x3_2) ≤ 57) = false := decide_eq_false c17
           clear c17
           obtain rfl := Option.some.inj H
           have p11 : 0 ≤ (x3_2 : Int) := of_decide_eq_true (za _)
           have q11 : x3_2 < (a0.size : Int) := of_decide_eq_true (za _)
           have hx11 := bt_at a0 x3_2
           replace p11 := eq_true p11
           replace q11 := eq_true q11
           go_wp2_with (first | ((with_reducible refine gate_callee (f := 85) rfl ?_); refine zc (some 27) Tryz.func85 #[.int .u8 (bt a0 x3_2)] ?_; (with_reducible refine (spec_l1Letter.calls (bt a0 x3_2) false _ A12.out).mono ?_); rintro e w' ⟨rfl, ⟨nd, rfl⟩⟩; refine ⟨_, rfl, ?_⟩; have p14 : 0 ≤ (x3_2 : Int) := of_decide_eq_true (za _); have q14 : x3_2 < (a0.size : Int) := of_decide_eq_true (za _); have hx14 := bt_at a0 x3_2; replace p14 := eq_true p14; replace q14 := eq_true q14; have p16 : 0 ≤ (x3_2 : Int) := of_decide_eq_true (za _); have q16 : x3_2 < (a0.size : Int) := of_decide_eq_true (za _); have hx16 := bt_at a0 x3_2; replace p16 := eq_true p16; replace q16 := eq_true q16))
           go_ret
           exact ⟨zE _, zd _⟩
         ·rw [if_neg c15] at H
          have c15b0 : decide (48 ≤ (bt a0 x3_2)) = false := decide_eq_false c15
          clear c15
          obtain rfl := Option.some.inj H
          have p11 : 0 ≤ (x3_2 : Int) := of_decide_eq_true (za _)
          have q11 : x3_2 < (a0.size : Int) := of_decide_eq_true (za _)
          have hx11 := bt_at a0 x3_2
          replace p11 := eq_true p11
          replace q11 := eq_true q11
          go_wp2_with (first | ((with_reducible refine gate_callee (f := 85) rfl ?_); refine zc (some 27) Tryz.func85 #[.int .u8 (bt a0 x3_2)] ?_; (with_reducible refine (spec_l1Letter.calls (bt a0 x3_2) false _ A12.out).mono ?_); rintro e w' ⟨rfl, ⟨nd, rfl⟩⟩; refine ⟨_, rfl, ?_⟩; have p14 : 0 ≤ (x3_2 : Int) := of_decide_eq_true (za _); have q14 : x3_2 < (a0.size : Int) := of_decide_eq_true (za _); have hx14 := bt_at a0 x3_2; replace p14 := eq_true p14; replace q14 := eq_true q14))
          go_ret
          exact ⟨zE _, zd _⟩
       ·rw [if_neg c10] at H
        exact absurd H (by simp)
      ·rw [if_neg c9] at H
       have c9b0 : decide (x3_2 < (a0.size : Int)) = false := decide_eq_false c9
       clear c9
       obtain rfl := Option.some.inj H
       go_wp2
       go_ret
       exact ⟨zE _, zd _⟩

def spec_l1In.f (a0 : Int) (a1 : Int) (a2 : Int) : Option (Bool) := if a0 ≥ a1 then (some (decide (a0 ≤ a2))) else (some false)
set_option maxHeartbeats 8000000 in
set_option maxRecDepth 100000 in
theorem spec_l1In.calls (a0 : Int) (a1 : Int) (a2 : Int) (r : Bool) (w : World) (h : spec_l1In.f a0 a1 a2 = some r) :
 Calls Tryz.prog 42 #[.int .i64 a0, .int .i64 a1, .int .i64 a2] w fun e w' => e = .returned (.bool r) ∧ Drawn0 w w' := by
 have H : (if a0 ≥ a1 then (some (decide (a0 ≤ a2))) else (some false)) = some r := h
 clear h
 by_cases c4 : a0 ≥ a1
 ·rw [if_pos c4] at H
  have c4b0 : decide (a1 ≤ a0) = true := decide_eq_true c4
  clear c4
  obtain rfl := Option.some.inj H
  go_enter Tryz.func42, Tryz.ntmps42
  go_wp2
  go_ret
  exact ⟨zE _, zd _⟩
 ·rw [if_neg c4] at H
  have c4b0 : decide (a1 ≤ a0) = false := decide_eq_false c4
  clear c4
  obtain rfl := Option.some.inj H
  go_enter Tryz.func42, Tryz.ntmps42
  go_wp2
  go_ret
  exact ⟨zE _, zd _⟩

def spec_l9Base.f (a0 : Int) : Option (Int) := if a0 = 0 then (some 0) else (if a0 = 1 then (some 256) else (some 49152))
set_option maxHeartbeats 8000000 in
set_option maxRecDepth 100000 in
theorem spec_l9Base.calls (a0 : Int) (r : Int) (w : World) (h : spec_l9Base.f a0 = some r) :
 Calls Tryz.prog 83 #[.int .i64 a0] w fun e w' => e = .returned (.int .i64 r) ∧ Drawn0 w w' := by
 have H : (if a0 = 0 then (some 0) else (if a0 = 1 then (some 256) else (some 49152))) = some r := h
 clear h
 by_cases c2 : a0 = 0
 ·rw [if_pos c2] at H
  have c2b0 : (a0 == 0) = true := beq_iff_eq.mpr c2
  have c2b1 : (a0 != 0) = false := bne_eq_false_iff_eq.mpr c2
  clear c2
  obtain rfl := Option.some.inj H
  go_enter Tryz.func83, Tryz.ntmps83
  go_wp2
  go_ret
  exact ⟨zE _, zd _⟩
 ·rw [if_neg c2] at H
  have c2b0 : (a0 == 0) = false := beq_eq_false_iff_ne.mpr c2
  have c2b1 : (a0 != 0) = true := bne_iff_ne.mpr c2
  by_cases c3 : a0 = 1
  ·rw [if_pos c3] at H
   have c3b0 : (a0 == 1) = true := beq_iff_eq.mpr c3
   have c3b1 : (a0 != 1) = false := bne_eq_false_iff_eq.mpr c3
   clear c3
   obtain rfl := Option.some.inj H
   go_enter Tryz.func83, Tryz.ntmps83
   go_wp2
   go_ret
   exact ⟨zE _, zd _⟩
  ·rw [if_neg c3] at H
   have c3b0 : (a0 == 1) = false := beq_eq_false_iff_ne.mpr c3
   have c3b1 : (a0 != 1) = true := bne_iff_ne.mpr c3
   obtain rfl := Option.some.inj H
   go_enter Tryz.func83, Tryz.ntmps83
   go_wp2
   go_ret
   exact ⟨zE _, zd _⟩

def spec_l2Takes.f (a0 : Int) : Option (Int) := (spec_l1In.f a0 1 3).bind fun t123 => (if t123 = true then (some 0) else ((spec_l1In.f a0 4 7).bind fun t124 => (if t124 = true then (some 1) else ((spec_l1In.f a0 8 17).bind fun t125 => (if t125 = true then (some 2) else (some (-1)))))))
set_option maxHeartbeats 8000000 in
set_option maxRecDepth 100000 in
theorem spec_l2Takes.calls (a0 : Int) (r : Int) (w : World) (h : spec_l2Takes.f a0 = some r) :
 Calls Tryz.prog 87 #[.int .i64 a0] w fun e w' => e = .returned (.int .i64 r) ∧ Drawn0 w w' := by
 have H : ((spec_l1In.f a0 1 3).bind fun t123 => (if t123 = true then (some 0) else ((spec_l1In.f a0 4 7).bind fun t124 => (if t124 = true then (some 1) else ((spec_l1In.f a0 8 17).bind fun t125 => (if t125 = true then (some 2) else (some (-1)))))))) = some r := h
 clear h
 obtain ⟨t123, A20, H⟩ := Option.bind_eq_some_iff.mp H
 have A2 := Aside0.mk A20
 clear A20
 by_cases c3 : t123 = true
 ·subst c3
  rw [if_pos rfl] at H
  obtain rfl := Option.some.inj H
  go_enter Tryz.func87, Tryz.ntmps87
  go_wp2_with (first | ((with_reducible refine gate_callee (f := 42) rfl ?_); refine zc (some 5) Tryz.func42 #[.int .i64 a0, .int .i64 1, .int .i64 3] ?_; (with_reducible refine (spec_l1In.calls a0 1 3 true _ A2.out).mono ?_); rintro e w' ⟨rfl, ⟨nd, rfl⟩⟩; refine ⟨_, rfl, ?_⟩))
  go_ret
  exact ⟨zE _, zd _⟩
 ·replace c3 := Bool.eq_false_iff.mpr c3
  subst c3
  rw [if_neg (show ¬ (false = true) by decide)] at H
  obtain ⟨t124, A40, H⟩ := Option.bind_eq_some_iff.mp H
  have A4 := Aside0.mk A40
  clear A40
  by_cases c5 : t124 = true
  ·subst c5
   rw [if_pos rfl] at H
   obtain rfl := Option.some.inj H
   go_enter Tryz.func87, Tryz.ntmps87
   go_wp2_with (first | ((with_reducible refine gate_callee (f := 42) rfl ?_); refine zc (some 5) Tryz.func42 #[.int .i64 a0, .int .i64 1, .int .i64 3] ?_; (with_reducible refine (spec_l1In.calls a0 1 3 false _ A2.out).mono ?_); rintro e w' ⟨rfl, ⟨nd, rfl⟩⟩; refine ⟨_, rfl, ?_⟩) | ((with_reducible refine gate_callee (f := 42) rfl ?_); refine zc (some 8) Tryz.func42 #[.int .i64 a0, .int .i64 4, .int .i64 7] ?_; (with_reducible refine (spec_l1In.calls a0 4 7 true _ A4.out).mono ?_); rintro e w' ⟨rfl, ⟨nd, rfl⟩⟩; refine ⟨_, rfl, ?_⟩))
   go_ret
   exact ⟨zE _, zd _⟩
  ·replace c5 := Bool.eq_false_iff.mpr c5
   subst c5
   rw [if_neg (show ¬ (false = true) by decide)] at H
   obtain ⟨t125, A60, H⟩ := Option.bind_eq_some_iff.mp H
   have A6 := Aside0.mk A60
   clear A60
   by_cases c7 : t125 = true
   ·subst c7
    rw [if_pos rfl] at H
    obtain rfl := Option.some.inj H
    go_enter Tryz.func87, Tryz.ntmps87
    go_wp2_with (first | ((with_reducible refine gate_callee (f := 42) rfl ?_); refine zc (some 5) Tryz.func42 #[.int .i64 a0, .int .i64 1, .int .i64 3] ?_; (with_reducible refine (spec_l1In.calls a0 1 3 false _ A2.out).mono ?_); rintro e w' ⟨rfl, ⟨nd, rfl⟩⟩; refine ⟨_, rfl, ?_⟩) | ((with_reducible refine gate_callee (f := 42) rfl ?_); refine zc (some 8) Tryz.func42 #[.int .i64 a0, .int .i64 4, .int .i64 7] ?_; (with_reducible refine (spec_l1In.calls a0 4 7 false _ A4.out).mono ?_); rintro e w' ⟨rfl, ⟨nd, rfl⟩⟩; refine ⟨_, rfl, ?_⟩) | ((with_reducible refine gate_callee (f := 42) rfl ?_); refine zc (some 11) Tryz.func42 #[.int .i64 a0, .int .i64 8, .int .i64 17] ?_; (with_reducible refine (spec_l1In.calls a0 8 17 true _ A6.out).mono ?_); rintro e w' ⟨rfl, ⟨nd, rfl⟩⟩; refine ⟨_, rfl, ?_⟩))
    go_ret
    exact ⟨zE _, zd _⟩
   ·replace c7 := Bool.eq_false_iff.mpr c7
    subst c7
    rw [if_neg (show ¬ (false = true) by decide)] at H
    obtain rfl := Option.some.inj H
    go_enter Tryz.func87, Tryz.ntmps87
    go_wp2_with (first | ((with_reducible refine gate_callee (f := 42) rfl ?_); refine zc (some 5) Tryz.func42 #[.int .i64 a0, .int .i64 1, .int .i64 3] ?_; (with_reducible refine (spec_l1In.calls a0 1 3 false _ A2.out).mono ?_); rintro e w' ⟨rfl, ⟨nd, rfl⟩⟩; refine ⟨_, rfl, ?_⟩) | ((with_reducible refine gate_callee (f := 42) rfl ?_); refine zc (some 8) Tryz.func42 #[.int .i64 a0, .int .i64 4, .int .i64 7] ?_; (with_reducible refine (spec_l1In.calls a0 4 7 false _ A4.out).mono ?_); rintro e w' ⟨rfl, ⟨nd, rfl⟩⟩; refine ⟨_, rfl, ?_⟩) | ((with_reducible refine gate_callee (f := 42) rfl ?_); refine zc (some 11) Tryz.func42 #[.int .i64 a0, .int .i64 8, .int .i64 17] ?_; (with_reducible refine (spec_l1In.calls a0 8 17 false _ A6.out).mono ?_); rintro e w' ⟨rfl, ⟨nd, rfl⟩⟩; refine ⟨_, rfl, ?_⟩))
    go_ret
    exact ⟨zE _, zd _⟩

def spec_l2Node.j0 : Nat → Bool → Int → Int → ByteArray → Option (Bool)
  | 0, _, _, _, _ => none
  | k + 1, x15, x127000, x127001, x127002 => if x15 = true then (if x127001 = 0 then ((spec_NameOk.f k x127002).bind fun t128 => (some t128)) else (some false)) else (if x127001 = 0 then (if x127002.toList = ([] : List UInt8) then ((spec_l2Takes.f x127000).bind fun t129 => (some (decide (t129 > 0)))) else (some false)) else (some false))
def spec_l2Node.f (k : Nat) (a0_0 : Int) (a0_1 : Int) (a0_2 : ByteArray) : Option (Bool) := if a0_0 = 1 then ((spec_l1In.f a0_1 0 65535).bind fun t127 => (if t127 = true then (some (a0_2.toList == ([] : List UInt8))) else (some false))) else (if a0_0 = 2 then (spec_l2Node.j0 k (a0_0 == 2) a0_0 a0_1 a0_2) else (spec_l2Node.j0 k (a0_0 == 3) a0_0 a0_1 a0_2))
theorem spec_l2Node.mono_l : ∀ k, (∀ y0 y1 y2 y3, LeO (spec_l2Node.j0 k y0 y1 y2 y3) (spec_l2Node.j0 (k + 1) y0 y1 y2 y3))
  | 0 => fun _ _ _ _ r h => by simp [spec_l2Node.j0] at h
  | k + 1 => by
    have ih0 := spec_l2Node.mono_l k
    · intro y0 y1 y2 y3
      unfold spec_l2Node.j0
      repeat' with_reducible first | exact ih0 _ _ _ _ | exact spec_NameOk.mono _ _ | exact LeO.refl _ | exact LeO.none _ | refine LeO.ite ?_ ?_ | refine LeO.bind ?_ (fun _ => ?_)
theorem spec_l2Node.mono : ∀ a0 a1 a2 k, LeO (spec_l2Node.f k a0 a1 a2) (spec_l2Node.f (k + 1) a0 a1 a2) := by
  intro a0 a1 a2 k
  have ih0 := spec_l2Node.mono_l k
  unfold spec_l2Node.f
  repeat' with_reducible first | exact ih0 _ _ _ _ | exact spec_NameOk.mono _ _ | exact LeO.refl _ | exact LeO.none _ | refine LeO.ite ?_ ?_ | refine LeO.bind ?_ (fun _ => ?_)
set_option maxHeartbeats 8000000 in
set_option maxRecDepth 100000 in
theorem spec_l2Node.calls (k : Nat) (a0_0 : Int) (a0_1 : Int) (a0_2 : ByteArray) (r : Bool) (w : World) (h : spec_l2Node.f k a0_0 a0_1 a0_2 = some r) :
 Calls Tryz.prog 86 #[.agg #[.int .i64 a0_0, .int .i64 a0_1, .string a0_2]] w fun e w' => e = .returned (.bool r) ∧ Below w.heap.size w w' := by
 have hu124 := Tryz.underlying124
 have HB := Aside0.mk (Below.refl w.heap.size w)
 have H : (if a0_0 = 1 then ((spec_l1In.f a0_1 0 65535).bind fun t127 => (if t127 = true then (some (a0_2.toList == ([] : List UInt8))) else (some false))) else (if a0_0 = 2 then (spec_l2Node.j0 k (a0_0 == 2) a0_0 a0_1 a0_2) else (spec_l2Node.j0 k (a0_0 == 3) a0_0 a0_1 a0_2))) = some r := h
 clear h
 by_cases c2 : a0_0 = 1
 ·rw [if_pos c2] at H
  have c2b0 : (a0_0 == 1) = true := beq_iff_eq.mpr c2
  have c2b1 : (a0_0 != 1) = false := bne_eq_false_iff_eq.mpr c2
  clear c2
  obtain ⟨t127, A30, H⟩ := Option.bind_eq_some_iff.mp H
  have A3 := Aside0.mk A30
  clear A30
  by_cases c4 : t127 = true
  ·subst c4
   rw [if_pos rfl] at H
   obtain rfl := Option.some.inj H
   go_enter Tryz.func86, Tryz.ntmps86
   go_wp2_with (first | ((with_reducible refine gate_dst (N := 1) rfl ?_); refine zbx 1 #[.int .i64 a0_0, .int .i64 a0_1, .string a0_2] 124 ?_; intro gb126 hg w5 hbox hb; have BK126 := Aside0.mk (hbox); have GW126 := zs w hg; have GE126 := GW126; replace HB := zt w hb; clear hb hbox hg; obtain ⟨hcz6_0, hcz6_1, hcz6_2, hfz6_0, hfz6_1, hfz6_2⟩ := zF3 BK126) | ((with_reducible refine gate_callee (f := 42) rfl ?_); refine zc (some 9) Tryz.func42 #[.int .i64 a0_1, .int .i64 0, .int .i64 65535] ?_; (with_reducible refine (spec_l1In.calls a0_1 0 65535 true _ A3.out).mono ?_); rintro e w' ⟨rfl, ⟨nd, rfl⟩⟩; refine ⟨_, rfl, ?_⟩))
   go_ret
   exact ⟨ze _, zb _⟩
  ·replace c4 := Bool.eq_false_iff.mpr c4
   subst c4
   rw [if_neg (show ¬ (false = true) by decide)] at H
   obtain rfl := Option.some.inj H
   go_enter Tryz.func86, Tryz.ntmps86
   go_wp2_with (first | ((with_reducible refine gate_dst (N := 1) rfl ?_); refine zbx 1 #[.int .i64 a0_0, .int .i64 a0_1, .string a0_2] 124 ?_; intro gb126 hg w7 hbox hb; have BK126 := Aside0.mk (hbox); have GW126 := zs w hg; have GE126 := GW126; replace HB := zt w hb; clear hb hbox hg; obtain ⟨hcz8_0, hcz8_1, hcz8_2, hfz8_0, hfz8_1, hfz8_2⟩ := zF3 BK126) | ((with_reducible refine gate_callee (f := 42) rfl ?_); refine zc (some 9) Tryz.func42 #[.int .i64 a0_1, .int .i64 0, .int .i64 65535] ?_; (with_reducible refine (spec_l1In.calls a0_1 0 65535 false _ A3.out).mono ?_); rintro e w' ⟨rfl, ⟨nd, rfl⟩⟩; refine ⟨_, rfl, ?_⟩))
   go_ret
   exact ⟨ze _, zb _⟩
 ·rw [if_neg c2] at H
  have c2b0 : (a0_0 == 1) = false := beq_eq_false_iff_ne.mpr c2
  have c2b1 : (a0_0 != 1) = true := bne_iff_ne.mpr c2
  have HC9 := Aside0.mk H
  clear H
  go_enter Tryz.func86, Tryz.ntmps86
  go_upto_if 15 with (first | ((with_reducible refine gate_dst (N := 1) rfl ?_); refine zbx 1 #[.int .i64 a0_0, .int .i64 a0_1, .string a0_2] 124 ?_; intro gb126 hg w10 hbox hb; have BK126 := Aside0.mk (hbox); have GW126 := zs w hg; have GE126 := GW126; replace HB := zt w hb; clear hb hbox hg; obtain ⟨hcz11_0, hcz11_1, hcz11_2, hfz11_0, hfz11_1, hfz11_2⟩ := zF3 BK126))
  (try simp only [Act.put, List.setIfInBounds_toArray, List.set_cons_zero, List.set_cons_succ])
  go_cut [15] (fun v15 wc => ∃ (kq : Nat) (x15_8 : Bool), v15 = .bool x15_8 ∧ Aside0 (spec_l2Node.j0 kq x15_8 a0_0 a0_1 a0_2 = some r) ∧ Aside0 (kq ≤ k) ∧ Aside0 (wc.heap[gb126]? = some (.cells #[.int .i64 a0_0, .int .i64 a0_1, .string a0_2] 124 (0, 0))) ∧ Aside0 (Below w.heap.size w wc))
  case first =>
   have H := HC9.out
   clear HC9
   by_cases c12 : a0_0 = 2
   ·rw [if_pos c12] at H
    have c12b0 : (a0_0 == 2) = true := beq_iff_eq.mpr c12
    have c12b1 : (a0_0 != 2) = false := bne_eq_false_iff_eq.mpr c12
    clear c12
    (first | rw [c12b0] | (simp only [i64_w, i32_w]; rw [c12b0]) | skip)
    have H' := Aside0.mk H
    clear H
    go_wp2
    go_meet
    case rel => exact ⟨_, ((a0_0 == 2)), (zE _), H', ⟨by first | omega | exact Nat.le_refl _⟩, ⟨zr BK126⟩, ⟨zb _⟩⟩
   ·rw [if_neg c12] at H
    have c12b0 : (a0_0 == 2) = false := beq_eq_false_iff_ne.mpr c12
    have c12b1 : (a0_0 != 2) = true := bne_iff_ne.mpr c12
    (first | rw [c12b0] | (simp only [i64_w, i32_w]; rw [c12b0]) | skip)
    have H' := Aside0.mk H
    clear H
    go_wp2
    go_meet
    case rel => exact ⟨_, ((a0_0 == 3)), (zE _), H', ⟨by first | omega | exact Nat.le_refl _⟩, ⟨zr BK126⟩, ⟨zb _⟩⟩
  case rest =>
   clear HC9
   obtain ⟨kq, x15_8, rfl, HA, HJ8, BK126, HB⟩ := hcut
   cases kq with
   | zero => exact absurd HA.out (by simp [spec_l2Node.j0])
   | succ kj8 =>
    have H := HA.out
    clear HA
    simp only [spec_l2Node.j0] at H
    by_cases c13 : x15_8 = true
    ·subst c13
     rw [if_pos rfl] at H
     by_cases c14 : a0_1 = 0
     ·rw [if_pos c14] at H
      have c14b0 : (a0_1 == 0) = true := beq_iff_eq.mpr c14
      have c14b1 : (a0_1 != 0) = false := bne_eq_false_iff_eq.mpr c14
      clear c14
      obtain ⟨t128, A150, H⟩ := Option.bind_eq_some_iff.mp H
      have A15 := Aside0.mk A150
      clear A150
      obtain rfl := Option.some.inj H
      obtain ⟨hcz16_0, hcz16_1, hcz16_2, hfz16_0, hfz16_1, hfz16_2⟩ := zF3 BK126
      go_wp2_with (first | (go_at_call 41; (with_reducible refine (spec_NameOk.calls kj8 a0_2 t128 _ A15.out).mono ?_); rintro e w' ⟨rfl, ⟨nd, rfl⟩⟩))
      go_ret
      exact ⟨ze _, zb _⟩
     ·rw [if_neg c14] at H
      have c14b0 : (a0_1 == 0) = false := beq_eq_false_iff_ne.mpr c14
      have c14b1 : (a0_1 != 0) = true := bne_iff_ne.mpr c14
      obtain rfl := Option.some.inj H
      obtain ⟨hcz17_0, hcz17_1, hcz17_2, hfz17_0, hfz17_1, hfz17_2⟩ := zF3 BK126
      go_wp2
      go_ret
      exact ⟨ze _, zb _⟩
    ·replace c13 := Bool.eq_false_iff.mpr c13
     subst c13
     rw [if_neg (show ¬ (false = true) by decide)] at H
     by_cases c18 : a0_1 = 0
     ·rw [if_pos c18] at H
      have c18b0 : (a0_1 == 0) = true := beq_iff_eq.mpr c18
      have c18b1 : (a0_1 != 0) = false := bne_eq_false_iff_eq.mpr c18
      clear c18
      by_cases c19 : a0_2.toList = ([] : List UInt8)
      ·rw [if_pos c19] at H
       have c19b0 : (a0_2.toList == ([] : List UInt8)) = true := beq_iff_eq.mpr c19
       have c19b1 : (a0_2.toList != ([] : List UInt8)) = false := bne_eq_false_iff_eq.mpr c19
       clear c19
       obtain ⟨t129, A200, H⟩ := Option.bind_eq_some_iff.mp H
       have A20 := Aside0.mk A200
       clear A200
       obtain rfl := Option.some.inj H
       obtain ⟨hcz21_0, hcz21_1, hcz21_2, hfz21_0, hfz21_1, hfz21_2⟩ := zF3 BK126
       go_wp2_with (first | (go_at_call 87; (with_reducible refine (spec_l2Takes.calls a0_0 t129 _ A20.out).mono ?_); rintro e w' ⟨rfl, ⟨nd, rfl⟩⟩))
       go_ret
       exact ⟨ze _, zb _⟩
      ·rw [if_neg c19] at H
       have c19b0 : (a0_2.toList == ([] : List UInt8)) = false := beq_eq_false_iff_ne.mpr c19
       have c19b1 : (a0_2.toList != ([] : List UInt8)) = true := bne_iff_ne.mpr c19
       obtain rfl := Option.some.inj H
       obtain ⟨hcz22_0, hcz22_1, hcz22_2, hfz22_0, hfz22_1, hfz22_2⟩ := zF3 BK126
       go_wp2
       go_ret
       exact ⟨ze _, zb _⟩
     ·rw [if_neg c18] at H
      have c18b0 : (a0_1 == 0) = false := beq_eq_false_iff_ne.mpr c18
      have c18b1 : (a0_1 != 0) = true := bne_iff_ne.mpr c18
      obtain rfl := Option.some.inj H
      obtain ⟨hcz23_0, hcz23_1, hcz23_2, hfz23_0, hfz23_1, hfz23_2⟩ := zF3 BK126
      go_wp2
      go_ret
      exact ⟨ze _, zb _⟩

end Go.Proofs.YtlacpadpdfccmaaGreatDoor.PFnExactObjectText
namespace Go.Proofs.YtlacpadpdfccmaaGreatDoor.PFnExactObjectText
open Go.RowKit Go.Proofs.YtlacpadpdfccmaaGreatDoor.Z Go.Proofs.YtlacpadpdfccmaaGreatDoorW.PrintWords Go.Proofs.YtlacpadpdfccmaaGreatDoorW.PrintLast Go.Proofs.YtlacpadpdfccmaaGreatDoorW.PrintMore
attribute [local go_sem] max2_int min2_int max_two min_two max_three min_three max_four min_four   -- for this text's walks alone
set_option linter.unusedVariables false
set_option linter.unusedSimpArgs false

def spec_ExprOk.l0 : Nat → List (S124) → Int → Int → Option (Bool)
  | 0, _, _, _ => none
  | k + 1, x0, x3, x4 => if x4 < (x0.length : Int) then (if 0 ≤ x4 then ((spec_l2Node.f k ((rd_T124 x0 x4).f0) ((rd_T124 x0 x4).f1) ((rd_T124 x0 x4).f2)).bind fun t131 => (if t131 = true then ((spec_l2Takes.f ((rd_T124 x0 x4).f0)).bind fun t133 => (if t133 > x3 then (some false) else ((spec_l2Takes.f ((rd_T124 x0 x4).f0)).bind fun t135 => (spec_ExprOk.l0 k x0 (wrap64 ((wrap64 (x3 - t135)) + 1)) (wrap64 (x4 + 1)))))) else (some false))) else (none)) else (if (x0.length : Int) ≤ 30 then (some (x3 == 1)) else (some false))
def spec_ExprOk.f (k : Nat) (l0 : List (S124)) : Option (Bool) := spec_ExprOk.l0 k l0 0 0
theorem spec_ExprOk.mono_l : ∀ k, (∀ y0 y1 y2, LeO (spec_ExprOk.l0 k y0 y1 y2) (spec_ExprOk.l0 (k + 1) y0 y1 y2))
  | 0 => fun _ _ _ r h => by simp [spec_ExprOk.l0] at h
  | k + 1 => by
    have ih0 := spec_ExprOk.mono_l k
    · intro y0 y1 y2
      unfold spec_ExprOk.l0
      repeat' with_reducible first | exact ih0 _ _ _ | exact spec_l2Node.mono _ _ _ _ | exact LeO.refl _ | exact LeO.none _ | refine LeO.ite ?_ ?_ | refine LeO.bind ?_ (fun _ => ?_)
theorem spec_ExprOk.mono : ∀ a0 k, LeO (spec_ExprOk.f k a0) (spec_ExprOk.f (k + 1) a0) := by
  intro a0 k
  have ih0 := spec_ExprOk.mono_l k
  unfold spec_ExprOk.f
  repeat' with_reducible first | exact ih0 _ _ _ | exact spec_l2Node.mono _ _ _ _ | exact LeO.refl _ | exact LeO.none _ | refine LeO.ite ?_ ?_ | refine LeO.bind ?_ (fun _ => ?_)
set_option maxHeartbeats 8000000 in
set_option maxRecDepth 100000 in
theorem spec_ExprOk.calls (k : Nat) (A0 : Option Addr) (c0 : Nat) (l0 : List (S124)) (r : Bool) (w : World) (hr0 : Kd.C k124 w A0 l0.length l0) (hc0 : l0.length ≤ c0) (h : spec_ExprOk.f k l0 = some r) :
 Calls Tryz.prog 43 #[.slice A0 l0.length c0] w fun e w' => e = .returned (.bool r) ∧ Below w.heap.size w w' := by
 have hu124 := Tryz.underlying124
 have HR0 := Aside0.mk hr0
 have HC0 := Aside0.mk hc0
 clear hr0 hc0
 have HB := Aside0.mk (Below.refl w.heap.size w)
 have H : (spec_ExprOk.l0 k l0 0 0) = some r := h
 clear h
 have H' := Aside0.mk H
 clear H
 go_enter Tryz.func43, Tryz.ntmps43
 go_wp2
 go_loopg [3, 4] k (fun kq v3 v4 w' => ∃ (x3_1 : Int) (x4_1 : Int), v3 = .int .i64 x3_1 ∧ v4 = .int .i64 x4_1 ∧ Aside0 (spec_ExprOk.l0 kq l0 x3_1 x4_1 = some r) ∧ Aside0 (kq ≤ k) ∧ Aside0 (Below w.heap.size w w'))
 case atStart => exact ⟨(0), (0), (zE _), (zE _), H', ⟨Nat.le_refl _⟩, ⟨zb _⟩⟩
 case round =>
  clear H'
  obtain ⟨x3_1, x4_1, rfl, rfl, HA, HK1, HB⟩ := hrel
  cases gk with
  | zero => exact absurd HA.out (by simp [spec_ExprOk.l0])
  | succ k1 =>
   have H := HA.out
   clear HA
   simp only [spec_ExprOk.l0] at H
   by_cases c2 : x4_1 < (l0.length : Int)
   ·rw [if_pos c2] at H
    have c2b0 : decide (x4_1 < (l0.length : Int)) = true := decide_eq_true c2
    clear c2
    by_cases c3 : 0 ≤ x4_1
    ·rw [if_pos c3] at H
     have c3b0 : decide (0 ≤ x4_1) = true := decide_eq_true c3
     clear c3
     obtain ⟨t131, A40, H⟩ := Option.bind_eq_some_iff.mp H
     have A4 := Aside0.mk A40
     clear A40
     by_cases c5 : t131 = true
     ·subst c5
      rw [if_pos rfl] at H
      obtain ⟨t133, A60, H⟩ := Option.bind_eq_some_iff.mp H
      have A6 := Aside0.mk A60
      clear A60
      by_cases c7 : t133 > x3_1
      ·rw [if_pos c7] at H
       have c7b0 : decide (x3_1 < t133) = true := decide_eq_true c7
       clear c7
       obtain rfl := Option.some.inj H
       have p130 : 0 ≤ (x4_1 : Int) := of_decide_eq_true (za _)
       have q130 : x4_1 < (l0.length : Int) := of_decide_eq_true (za _)
       obtain ⟨ad130, e130, hx130_0, hx130_1, hx130_2⟩ := at_T124 HR0.out x4_1 p130 q130
       cases e130
       replace hx130_0 := zx HB hx130_0
       replace hx130_1 := zx HB hx130_1
       replace hx130_2 := zx HB hx130_2
       replace p130 := eq_true p130
       replace q130 := eq_true q130
       go_wp2_with (first | ((with_reducible refine gate_callee (f := 86) rfl ?_); refine zc (some 15) Tryz.func86 #[.agg #[.int .i64 ((rd_T124 l0 x4_1).f0), .int .i64 ((rd_T124 l0 x4_1).f1), .string ((rd_T124 l0 x4_1).f2)]] ?_; (with_reducible refine (spec_l2Node.calls k1 ((rd_T124 l0 x4_1).f0) ((rd_T124 l0 x4_1).f1) ((rd_T124 l0 x4_1).f2) true _ A4.out).mono ?_); rintro e w8 ⟨rfl, hb⟩; refine ⟨_, rfl, ?_⟩; replace HB := zt w hb; (try clear hb); (try clear hb2); (try clear hk); (try clear hi); have p132 : 0 ≤ (x4_1 : Int) := of_decide_eq_true (za _); have q132 : x4_1 < (l0.length : Int) := of_decide_eq_true (za _); obtain ⟨ad132, e132, hx132_0, hx132_1, hx132_2⟩ := at_T124 HR0.out x4_1 p132 q132; obtain rfl : ad130 = ad132 := (by injection e132); replace hx132_0 := zx HB hx132_0; replace hx132_1 := zx HB hx132_1; replace hx132_2 := zx HB hx132_2; replace p132 := eq_true p132; replace q132 := eq_true q132) | (go_at_call 87; (with_reducible refine (spec_l2Takes.calls ((rd_T124 l0 x4_1).f0) t133 _ A6.out).mono ?_); rintro e w' ⟨rfl, ⟨nd, rfl⟩⟩))
       go_ret
       exact ⟨ze _, zb _⟩
      ·rw [if_neg c7] at H
       have c7b0 : decide (x3_1 < t133) = false := decide_eq_false c7
       clear c7
       obtain ⟨t135, A90, H⟩ := Option.bind_eq_some_iff.mp H
       have A9 := Aside0.mk A90
       clear A90
       have H' := Aside0.mk H
       clear H
       have p130 : 0 ≤ (x4_1 : Int) := of_decide_eq_true (za _)
       have q130 : x4_1 < (l0.length : Int) := of_decide_eq_true (za _)
       obtain ⟨ad130, e130, hx130_0, hx130_1, hx130_2⟩ := at_T124 HR0.out x4_1 p130 q130
       cases e130
       replace hx130_0 := zx HB hx130_0
       replace hx130_1 := zx HB hx130_1
       replace hx130_2 := zx HB hx130_2
       replace p130 := eq_true p130
       replace q130 := eq_true q130
       go_wp2_with (first | ((with_reducible refine gate_callee (f := 86) rfl ?_); refine zc (some 15) Tryz.func86 #[.agg #[.int .i64 ((rd_T124 l0 x4_1).f0), .int .i64 ((rd_T124 l0 x4_1).f1), .string ((rd_T124 l0 x4_1).f2)]] ?_; (with_reducible refine (spec_l2Node.calls k1 ((rd_T124 l0 x4_1).f0) ((rd_T124 l0 x4_1).f1) ((rd_T124 l0 x4_1).f2) true _ A4.out).mono ?_); rintro e w10 ⟨rfl, hb⟩; refine ⟨_, rfl, ?_⟩; replace HB := zt w hb; (try clear hb); (try clear hb2); (try clear hk); (try clear hi); have p132 : 0 ≤ (x4_1 : Int) := of_decide_eq_true (za _); have q132 : x4_1 < (l0.length : Int) := of_decide_eq_true (za _); obtain ⟨ad132, e132, hx132_0, hx132_1, hx132_2⟩ := at_T124 HR0.out x4_1 p132 q132; obtain rfl : ad130 = ad132 := (by injection e132); replace hx132_0 := zx HB hx132_0; replace hx132_1 := zx HB hx132_1; replace hx132_2 := zx HB hx132_2; replace p132 := eq_true p132; replace q132 := eq_true q132) | (go_at_call 87; (with_reducible refine (spec_l2Takes.calls ((rd_T124 l0 x4_1).f0) t133 _ A6.out).mono ?_); rintro e w' ⟨rfl, ⟨nd, rfl⟩⟩; have p134 : 0 ≤ (x4_1 : Int) := of_decide_eq_true (za _); have q134 : x4_1 < (l0.length : Int) := of_decide_eq_true (za _); obtain ⟨ad134, e134, hx134_0, hx134_1, hx134_2⟩ := at_T124 HR0.out x4_1 p134 q134; obtain rfl : ad130 = ad134 := (by injection e134); replace hx134_0 := zx HB hx134_0; replace hx134_1 := zx HB hx134_1; replace hx134_2 := zx HB hx134_2; replace p134 := eq_true p134; replace q134 := eq_true q134) | ((with_reducible refine gate_callee (f := 87) rfl ?_); refine zc (some 33) Tryz.func87 #[.int .i64 ((rd_T124 l0 x4_1).f0)] ?_; (with_reducible refine (spec_l2Takes.calls ((rd_T124 l0 x4_1).f0) t135 _ A9.out).mono ?_); rintro e w' ⟨rfl, ⟨nd, rfl⟩⟩; refine ⟨_, rfl, ?_⟩))
       go_roundg k1
       case measure => have := HK1.out; omega
       case rel => exact ⟨(wrap64 ((wrap64 (x3_1 - t135)) + 1)), (wrap64 (x4_1 + 1)), (zE _), (zE _), H', ⟨by have := HK1.out; omega⟩, ⟨zb _⟩⟩
     ·replace c5 := Bool.eq_false_iff.mpr c5
      subst c5
      rw [if_neg (show ¬ (false = true) by decide)] at H
      obtain rfl := Option.some.inj H
      have p130 : 0 ≤ (x4_1 : Int) := of_decide_eq_true (za _)
      have q130 : x4_1 < (l0.length : Int) := of_decide_eq_true (za _)
      obtain ⟨ad130, e130, hx130_0, hx130_1, hx130_2⟩ := at_T124 HR0.out x4_1 p130 q130
      cases e130
      replace hx130_0 := zx HB hx130_0
      replace hx130_1 := zx HB hx130_1
      replace hx130_2 := zx HB hx130_2
      replace p130 := eq_true p130
      replace q130 := eq_true q130
      go_wp2_with (first | ((with_reducible refine gate_callee (f := 86) rfl ?_); refine zc (some 15) Tryz.func86 #[.agg #[.int .i64 ((rd_T124 l0 x4_1).f0), .int .i64 ((rd_T124 l0 x4_1).f1), .string ((rd_T124 l0 x4_1).f2)]] ?_; (with_reducible refine (spec_l2Node.calls k1 ((rd_T124 l0 x4_1).f0) ((rd_T124 l0 x4_1).f1) ((rd_T124 l0 x4_1).f2) false _ A4.out).mono ?_); rintro e w11 ⟨rfl, hb⟩; refine ⟨_, rfl, ?_⟩; replace HB := zt w hb; (try clear hb); (try clear hb2); (try clear hk); (try clear hi)))
      go_ret
      exact ⟨ze _, zb _⟩
    ·rw [if_neg c3] at H
     exact absurd H (by simp)
   ·rw [if_neg c2] at H
    have c2b0 : decide (x4_1 < (l0.length : Int)) = false := decide_eq_false c2
    clear c2
    by_cases c12 : (l0.length : Int) ≤ 30
    ·rw [if_pos c12] at H
     have c12b0 : decide ((l0.length : Int) ≤ 30) = true := decide_eq_true c12
     have c12b1 : decide (l0.length ≤ 30) = true := decide_eq_true (by omega)
     clear c12
     obtain rfl := Option.some.inj H
     go_wp2
     go_ret
     exact ⟨ze _, zb _⟩
    ·rw [if_neg c12] at H
     have c12b0 : decide ((l0.length : Int) ≤ 30) = false := decide_eq_false c12
     have c12b1 : decide (l0.length ≤ 30) = false := decide_eq_false (by omega)
     clear c12
     obtain rfl := Option.some.inj H
     go_wp2
     go_ret
     exact ⟨ze _, zb _⟩

def spec_l9Patch.f (k : Nat) (a0_0 : Int) (a0_1 : Int) (l0_2 : List (S124)) (a1 : Int) : Option (Bool) := if a0_1 = 2 then ((spec_l1In.f a0_1 1 3).bind fun t137 => (if t137 = true then ((spec_l1In.f a0_0 0 (wrap64 (a1 - 2))).bind fun t138 => (if t138 = true then ((spec_ExprOk.f k l0_2).bind fun t139 => (some t139)) else (some false))) else (some false))) else ((spec_l1In.f a0_1 1 3).bind fun t140 => (if t140 = true then ((spec_l1In.f a0_0 0 (wrap64 (a1 - 1))).bind fun t141 => (if t141 = true then ((spec_ExprOk.f k l0_2).bind fun t142 => (some t142)) else (some false))) else (some false)))
theorem spec_l9Patch.mono : ∀ a0 a1 a2 a3 k, LeO (spec_l9Patch.f k a0 a1 a2 a3) (spec_l9Patch.f (k + 1) a0 a1 a2 a3) := by
  intro a0 a1 a2 a3 k
  unfold spec_l9Patch.f
  repeat' with_reducible first | exact spec_ExprOk.mono _ _ | exact LeO.refl _ | exact LeO.none _ | refine LeO.ite ?_ ?_ | refine LeO.bind ?_ (fun _ => ?_)
set_option maxHeartbeats 8000000 in
set_option maxRecDepth 100000 in
theorem spec_l9Patch.calls (k : Nat) (a0_0 : Int) (a0_1 : Int) (A0_2 : Option Addr) (c0_2 : Nat) (l0_2 : List (S124)) (a1 : Int) (r : Bool) (w : World) (hr0_2 : Kd.C k124 w A0_2 l0_2.length l0_2) (hc0_2 : l0_2.length ≤ c0_2) (h : spec_l9Patch.f k a0_0 a0_1 l0_2 a1 = some r) :
 Calls Tryz.prog 84 #[.agg #[.int .i64 a0_0, .int .i64 a0_1, .slice A0_2 l0_2.length c0_2], .int .i64 a1] w fun e w' => e = .returned (.bool r) ∧ Below w.heap.size w w' := by
 have hu79 := Tryz.underlying79
 have HR0_2 := Aside0.mk hr0_2
 have HC0_2 := Aside0.mk hc0_2
 clear hr0_2 hc0_2
 have HB := Aside0.mk (Below.refl w.heap.size w)
 have H : (if a0_1 = 2 then ((spec_l1In.f a0_1 1 3).bind fun t137 => (if t137 = true then ((spec_l1In.f a0_0 0 (wrap64 (a1 - 2))).bind fun t138 => (if t138 = true then ((spec_ExprOk.f k l0_2).bind fun t139 => (some t139)) else (some false))) else (some false))) else ((spec_l1In.f a0_1 1 3).bind fun t140 => (if t140 = true then ((spec_l1In.f a0_0 0 (wrap64 (a1 - 1))).bind fun t141 => (if t141 = true then ((spec_ExprOk.f k l0_2).bind fun t142 => (some t142)) else (some false))) else (some false)))) = some r := h
 clear h
 by_cases c3 : a0_1 = 2
 ·rw [if_pos c3] at H
  have c3b0 : (a0_1 == 2) = true := beq_iff_eq.mpr c3
  have c3b1 : (a0_1 != 2) = false := bne_eq_false_iff_eq.mpr c3
  clear c3
  obtain ⟨t137, A40, H⟩ := Option.bind_eq_some_iff.mp H
  have A4 := Aside0.mk A40
  clear A40
  by_cases c5 : t137 = true
  ·subst c5
   rw [if_pos rfl] at H
   obtain ⟨t138, A60, H⟩ := Option.bind_eq_some_iff.mp H
   have A6 := Aside0.mk A60
   clear A60
   by_cases c7 : t138 = true
   ·subst c7
    rw [if_pos rfl] at H
    obtain ⟨t139, A80, H⟩ := Option.bind_eq_some_iff.mp H
    have A8 := Aside0.mk A80
    clear A80
    obtain rfl := Option.some.inj H
    go_enter Tryz.func84, Tryz.ntmps84
    go_wp2_with (first | ((with_reducible refine gate_dst (N := 2) rfl ?_); refine zbx 2 #[.int .i64 a0_0, .int .i64 a0_1, .slice A0_2 l0_2.length c0_2] 79 ?_; intro gb136 hg w9 hbox hb; have BK136 := Aside0.mk (hbox); have GW136 := zs w hg; have GE136 := GW136; replace HB := zt w hb; clear hb hbox hg; obtain ⟨hcz10_0, hcz10_1, hcz10_2, hfz10_0, hfz10_1, hfz10_2⟩ := zF3 BK136) | ((with_reducible refine gate_callee (f := 42) rfl ?_); refine zc (some 11) Tryz.func42 #[.int .i64 a0_1, .int .i64 1, .int .i64 3] ?_; (with_reducible refine (spec_l1In.calls a0_1 1 3 true _ A4.out).mono ?_); rintro e w' ⟨rfl, ⟨nd, rfl⟩⟩; refine ⟨_, rfl, ?_⟩) | (go_at_call 42; (with_reducible refine (spec_l1In.calls a0_0 0 (wrap64 (a1 - 2)) true _ A6.out).mono ?_); rintro e w' ⟨rfl, ⟨nd, rfl⟩⟩) | (go_at_call 43; (with_reducible refine (spec_ExprOk.calls k _ _ l0_2 t139 _ ?side1 ?side2 A8.out).mono ?_); (case side1 => repeat (first | exact (Kd.C_below HR0_2.out (zb _)) | (with_reducible refine Kd.C_alloc ?_ _) | (with_reducible refine Kd.C_drewN ?_ _) | (with_reducible refine Kd.C_drew ?_))); (case side2 => exact HC0_2.out); rintro e w11 ⟨rfl, hb⟩; replace BK136 := zk BK136 hb; replace HB := zt w hb; (try clear hb); (try clear hb2); (try clear hk); (try clear hi)))
    go_ret
    exact ⟨ze _, zb _⟩
   ·replace c7 := Bool.eq_false_iff.mpr c7
    subst c7
    rw [if_neg (show ¬ (false = true) by decide)] at H
    obtain rfl := Option.some.inj H
    go_enter Tryz.func84, Tryz.ntmps84
    go_wp2_with (first | ((with_reducible refine gate_dst (N := 2) rfl ?_); refine zbx 2 #[.int .i64 a0_0, .int .i64 a0_1, .slice A0_2 l0_2.length c0_2] 79 ?_; intro gb136 hg w12 hbox hb; have BK136 := Aside0.mk (hbox); have GW136 := zs w hg; have GE136 := GW136; replace HB := zt w hb; clear hb hbox hg; obtain ⟨hcz13_0, hcz13_1, hcz13_2, hfz13_0, hfz13_1, hfz13_2⟩ := zF3 BK136) | ((with_reducible refine gate_callee (f := 42) rfl ?_); refine zc (some 11) Tryz.func42 #[.int .i64 a0_1, .int .i64 1, .int .i64 3] ?_; (with_reducible refine (spec_l1In.calls a0_1 1 3 true _ A4.out).mono ?_); rintro e w' ⟨rfl, ⟨nd, rfl⟩⟩; refine ⟨_, rfl, ?_⟩) | (go_at_call 42; (with_reducible refine (spec_l1In.calls a0_0 0 (wrap64 (a1 - 2)) false _ A6.out).mono ?_); rintro e w' ⟨rfl, ⟨nd, rfl⟩⟩))
    go_ret
    exact ⟨ze _, zb _⟩
  ·replace c5 := Bool.eq_false_iff.mpr c5
   subst c5
   rw [if_neg (show ¬ (false = true) by decide)] at H
   obtain rfl := Option.some.inj H
   go_enter Tryz.func84, Tryz.ntmps84
   go_wp2_with (first | ((with_reducible refine gate_dst (N := 2) rfl ?_); refine zbx 2 #[.int .i64 a0_0, .int .i64 a0_1, .slice A0_2 l0_2.length c0_2] 79 ?_; intro gb136 hg w14 hbox hb; have BK136 := Aside0.mk (hbox); have GW136 := zs w hg; have GE136 := GW136; replace HB := zt w hb; clear hb hbox hg; obtain ⟨hcz15_0, hcz15_1, hcz15_2, hfz15_0, hfz15_1, hfz15_2⟩ := zF3 BK136) | ((with_reducible refine gate_callee (f := 42) rfl ?_); refine zc (some 11) Tryz.func42 #[.int .i64 a0_1, .int .i64 1, .int .i64 3] ?_; (with_reducible refine (spec_l1In.calls a0_1 1 3 false _ A4.out).mono ?_); rintro e w' ⟨rfl, ⟨nd, rfl⟩⟩; refine ⟨_, rfl, ?_⟩))
   go_ret
   exact ⟨ze _, zb _⟩
 ·rw [if_neg c3] at H
  have c3b0 : (a0_1 == 2) = false := beq_eq_false_iff_ne.mpr c3
  have c3b1 : (a0_1 != 2) = true := bne_iff_ne.mpr c3
  obtain ⟨t140, A160, H⟩ := Option.bind_eq_some_iff.mp H
  have A16 := Aside0.mk A160
  clear A160
  by_cases c17 : t140 = true
  ·subst c17
   rw [if_pos rfl] at H
   obtain ⟨t141, A180, H⟩ := Option.bind_eq_some_iff.mp H
   have A18 := Aside0.mk A180
   clear A180
   by_cases c19 : t141 = true
   ·subst c19
    rw [if_pos rfl] at H
    obtain ⟨t142, A200, H⟩ := Option.bind_eq_some_iff.mp H
    have A20 := Aside0.mk A200
    clear A200
    obtain rfl := Option.some.inj H
    go_enter Tryz.func84, Tryz.ntmps84
    go_wp2_with (first | ((with_reducible refine gate_dst (N := 2) rfl ?_); refine zbx 2 #[.int .i64 a0_0, .int .i64 a0_1, .slice A0_2 l0_2.length c0_2] 79 ?_; intro gb136 hg w21 hbox hb; have BK136 := Aside0.mk (hbox); have GW136 := zs w hg; have GE136 := GW136; replace HB := zt w hb; clear hb hbox hg; obtain ⟨hcz22_0, hcz22_1, hcz22_2, hfz22_0, hfz22_1, hfz22_2⟩ := zF3 BK136) | ((with_reducible refine gate_callee (f := 42) rfl ?_); refine zc (some 11) Tryz.func42 #[.int .i64 a0_1, .int .i64 1, .int .i64 3] ?_; (with_reducible refine (spec_l1In.calls a0_1 1 3 true _ A16.out).mono ?_); rintro e w' ⟨rfl, ⟨nd, rfl⟩⟩; refine ⟨_, rfl, ?_⟩) | (go_at_call 42; (with_reducible refine (spec_l1In.calls a0_0 0 (wrap64 (a1 - 1)) true _ A18.out).mono ?_); rintro e w' ⟨rfl, ⟨nd, rfl⟩⟩) | (go_at_call 43; (with_reducible refine (spec_ExprOk.calls k _ _ l0_2 t142 _ ?side1 ?side2 A20.out).mono ?_); (case side1 => repeat (first | exact (Kd.C_below HR0_2.out (zb _)) | (with_reducible refine Kd.C_alloc ?_ _) | (with_reducible refine Kd.C_drewN ?_ _) | (with_reducible refine Kd.C_drew ?_))); (case side2 => exact HC0_2.out); rintro e w23 ⟨rfl, hb⟩; replace BK136 := zk BK136 hb; replace HB := zt w hb; (try clear hb); (try clear hb2); (try clear hk); (try clear hi)))
    go_ret
    exact ⟨ze _, zb _⟩
   ·replace c19 := Bool.eq_false_iff.mpr c19
    subst c19
    rw [if_neg (show ¬ (false = true) by decide)] at H
    obtain rfl := Option.some.inj H
    go_enter Tryz.func84, Tryz.ntmps84
    go_wp2_with (first | ((with_reducible refine gate_dst (N := 2) rfl ?_); refine zbx 2 #[.int .i64 a0_0, .int .i64 a0_1, .slice A0_2 l0_2.length c0_2] 79 ?_; intro gb136 hg w24 hbox hb; have BK136 := Aside0.mk (hbox); have GW136 := zs w hg; have GE136 := GW136; replace HB := zt w hb; clear hb hbox hg; obtain ⟨hcz25_0, hcz25_1, hcz25_2, hfz25_0, hfz25_1, hfz25_2⟩ := zF3 BK136) | ((with_reducible refine gate_callee (f := 42) rfl ?_); refine zc (some 11) Tryz.func42 #[.int .i64 a0_1, .int .i64 1, .int .i64 3] ?_; (with_reducible refine (spec_l1In.calls a0_1 1 3 true _ A16.out).mono ?_); rintro e w' ⟨rfl, ⟨nd, rfl⟩⟩; refine ⟨_, rfl, ?_⟩) | (go_at_call 42; (with_reducible refine (spec_l1In.calls a0_0 0 (wrap64 (a1 - 1)) false _ A18.out).mono ?_); rintro e w' ⟨rfl, ⟨nd, rfl⟩⟩))
    go_ret
    exact ⟨ze _, zb _⟩
  ·replace c17 := Bool.eq_false_iff.mpr c17
   subst c17
   rw [if_neg (show ¬ (false = true) by decide)] at H
   obtain rfl := Option.some.inj H
   go_enter Tryz.func84, Tryz.ntmps84
   go_wp2_with (first | ((with_reducible refine gate_dst (N := 2) rfl ?_); refine zbx 2 #[.int .i64 a0_0, .int .i64 a0_1, .slice A0_2 l0_2.length c0_2] 79 ?_; intro gb136 hg w26 hbox hb; have BK136 := Aside0.mk (hbox); have GW136 := zs w hg; have GE136 := GW136; replace HB := zt w hb; clear hb hbox hg; obtain ⟨hcz27_0, hcz27_1, hcz27_2, hfz27_0, hfz27_1, hfz27_2⟩ := zF3 BK136) | ((with_reducible refine gate_callee (f := 42) rfl ?_); refine zc (some 11) Tryz.func42 #[.int .i64 a0_1, .int .i64 1, .int .i64 3] ?_; (with_reducible refine (spec_l1In.calls a0_1 1 3 false _ A16.out).mono ?_); rintro e w' ⟨rfl, ⟨nd, rfl⟩⟩; refine ⟨_, rfl, ?_⟩))
   go_ret
   exact ⟨ze _, zb _⟩

end Go.Proofs.YtlacpadpdfccmaaGreatDoor.PFnExactObjectText
namespace Go.Proofs.YtlacpadpdfccmaaGreatDoor.PFnExactObjectText
open Go.RowKit Go.Proofs.YtlacpadpdfccmaaGreatDoor.Z Go.Proofs.YtlacpadpdfccmaaGreatDoorW.PrintWords Go.Proofs.YtlacpadpdfccmaaGreatDoorW.PrintLast Go.Proofs.YtlacpadpdfccmaaGreatDoorW.PrintMore
attribute [local go_sem] max2_int min2_int max_two min_two max_three min_three max_four min_four   -- for this text's walks alone
set_option linter.unusedVariables false
set_option linter.unusedSimpArgs false

mutual
def spec_SectionOk.j0 : Nat → Int → Bool → ByteArray → Int → Int → Int → ByteArray → List (S79) → Option (Bool)
  | 0, _, _, _, _, _, _, _, _ => none
  | k + 1, x3, x29, x144000, x144001, x144002, x144003, x144004, x144005 => if x29 = true then (some false) else ((spec_l9Base.f x144001).bind fun t146 => (if x144003 = (-1) then (spec_SectionOk.j1 k x3 false x144000 x144001 x144002 x144003 x144004 x144005) else ((spec_l1In.f x144003 t146 (wrap64 ((wrap64 (t146 + 256)) - x3))).bind fun t147 => (spec_SectionOk.j1 k x3 (!t147) x144000 x144001 x144002 x144003 x144004 x144005))))
def spec_SectionOk.j1 : Nat → Int → Bool → ByteArray → Int → Int → Int → ByteArray → List (S79) → Option (Bool)
  | 0, _, _, _, _, _, _, _, _ => none
  | k + 1, x3, x46, x144000, x144001, x144002, x144003, x144004, x144005 => if x46 = true then (some false) else (if x144002 = (-1) then (spec_SectionOk.j2 k x3 false x144000 x144001 x144002 x144003 x144004 x144005) else (if x144001 = 1 then ((spec_l1In.f x144002 1 15).bind fun t148 => (spec_SectionOk.j2 k x3 (!t148) x144000 x144001 x144002 x144003 x144004 x144005)) else (spec_SectionOk.j2 k x3 true x144000 x144001 x144002 x144003 x144004 x144005)))
def spec_SectionOk.j2 : Nat → Int → Bool → ByteArray → Int → Int → Int → ByteArray → List (S79) → Option (Bool)
  | 0, _, _, _, _, _, _, _, _ => none
  | k + 1, x3, x60, x144000, x144001, x144002, x144003, x144004, x144005 => if x60 = true then (some false) else (spec_SectionOk.l0 k x3 0 x144000 x144001 x144002 x144003 x144004 x144005)
def spec_SectionOk.l0 : Nat → Int → Int → ByteArray → Int → Int → Int → ByteArray → List (S79) → Option (Bool)
  | 0, _, _, _, _, _, _, _, _ => none
  | k + 1, x3, x5, x144000, x144001, x144002, x144003, x144004, x144005 => if x5 < (x144005.length : Int) then (if 0 ≤ x5 then ((spec_l9Patch.f k ((rd_T79 x144005 x5).f0) ((rd_T79 x144005 x5).f1) ((rd_T79 x144005 x5).f2) x3).bind fun t150 => (if t150 = true then (if x144001 = 2 then (some false) else (spec_SectionOk.l0 k x3 (wrap64 (x5 + 1)) x144000 x144001 x144002 x144003 x144004 x144005)) else (some false))) else (none)) else (spec_SectionOk.l1 k 0 x144000 x144001 x144002 x144003 x144004 x144005)
def spec_SectionOk.l1 : Nat → Int → ByteArray → Int → Int → Int → ByteArray → List (S79) → Option (Bool)
  | 0, _, _, _, _, _, _, _ => none
  | k + 1, x6, x144000, x144001, x144002, x144003, x144004, x144005 => if x6 < (x144004.size : Int) then (spec_SectionOk.j5 k x6 (x144001 == 2) x144000 x144001 x144002 x144003 x144004 x144005) else (spec_SectionOk.j5 k x6 false x144000 x144001 x144002 x144003 x144004 x144005)
def spec_SectionOk.j5 : Nat → Int → Bool → ByteArray → Int → Int → Int → ByteArray → List (S79) → Option (Bool)
  | 0, _, _, _, _, _, _, _, _ => none
  | k + 1, x6, x90, x144000, x144001, x144002, x144003, x144004, x144005 => if x90 = true then (if 0 ≤ x6 then (if x6 < (x144004.size : Int) then (if (bt x144004 x6) = 0 then (spec_SectionOk.l1 k (wrap64 (x6 + 1)) x144000 x144001 x144002 x144003 x144004 x144005) else (some false)) else (none)) else (none)) else (some true)
end
def spec_SectionOk.f (k : Nat) (a0_0 : ByteArray) (a0_1 : Int) (a0_2 : Int) (a0_3 : Int) (a0_4 : ByteArray) (l0_5 : List (S79)) : Option (Bool) := (spec_NameOk.f k a0_0).bind fun t144 => (if t144 = true then ((spec_l1In.f a0_1 0 2).bind fun t145 => (if t145 = true then (if (a0_4.size : Int) > 256 then (spec_SectionOk.j0 k (a0_4.size : Int) true a0_0 a0_1 a0_2 a0_3 a0_4 l0_5) else (spec_SectionOk.j0 k (a0_4.size : Int) (decide ((l0_5.length : Int) > 256)) a0_0 a0_1 a0_2 a0_3 a0_4 l0_5)) else (spec_SectionOk.j0 k (a0_4.size : Int) true a0_0 a0_1 a0_2 a0_3 a0_4 l0_5))) else (spec_SectionOk.j0 k (a0_4.size : Int) true a0_0 a0_1 a0_2 a0_3 a0_4 l0_5))
theorem spec_SectionOk.mono_l : ∀ k, (∀ y0 y1 y2 y3 y4 y5 y6 y7, LeO (spec_SectionOk.j0 k y0 y1 y2 y3 y4 y5 y6 y7) (spec_SectionOk.j0 (k + 1) y0 y1 y2 y3 y4 y5 y6 y7)) ∧ (∀ y0 y1 y2 y3 y4 y5 y6 y7, LeO (spec_SectionOk.j1 k y0 y1 y2 y3 y4 y5 y6 y7) (spec_SectionOk.j1 (k + 1) y0 y1 y2 y3 y4 y5 y6 y7)) ∧ (∀ y0 y1 y2 y3 y4 y5 y6 y7, LeO (spec_SectionOk.j2 k y0 y1 y2 y3 y4 y5 y6 y7) (spec_SectionOk.j2 (k + 1) y0 y1 y2 y3 y4 y5 y6 y7)) ∧ (∀ y0 y1 y2 y3 y4 y5 y6 y7, LeO (spec_SectionOk.l0 k y0 y1 y2 y3 y4 y5 y6 y7) (spec_SectionOk.l0 (k + 1) y0 y1 y2 y3 y4 y5 y6 y7)) ∧ (∀ y0 y1 y2 y3 y4 y5 y6, LeO (spec_SectionOk.l1 k y0 y1 y2 y3 y4 y5 y6) (spec_SectionOk.l1 (k + 1) y0 y1 y2 y3 y4 y5 y6)) ∧ (∀ y0 y1 y2 y3 y4 y5 y6 y7, LeO (spec_SectionOk.j5 k y0 y1 y2 y3 y4 y5 y6 y7) (spec_SectionOk.j5 (k + 1) y0 y1 y2 y3 y4 y5 y6 y7))
  | 0 => ⟨fun _ _ _ _ _ _ _ _ r h => by simp [spec_SectionOk.j0] at h, fun _ _ _ _ _ _ _ _ r h => by simp [spec_SectionOk.j1] at h, fun _ _ _ _ _ _ _ _ r h => by simp [spec_SectionOk.j2] at h, fun _ _ _ _ _ _ _ _ r h => by simp [spec_SectionOk.l0] at h, fun _ _ _ _ _ _ _ r h => by simp [spec_SectionOk.l1] at h, fun _ _ _ _ _ _ _ _ r h => by simp [spec_SectionOk.j5] at h⟩
  | k + 1 => by
    obtain ⟨ih0, ih1, ih2, ih3, ih4, ih5⟩ := spec_SectionOk.mono_l k
    refine ⟨?_, ?_, ?_, ?_, ?_, ?_⟩
    · intro y0 y1 y2 y3 y4 y5 y6 y7
      unfold spec_SectionOk.j0
      repeat' with_reducible first | exact ih0 _ _ _ _ _ _ _ _ | exact ih1 _ _ _ _ _ _ _ _ | exact ih2 _ _ _ _ _ _ _ _ | exact ih3 _ _ _ _ _ _ _ _ | exact ih4 _ _ _ _ _ _ _ | exact ih5 _ _ _ _ _ _ _ _ | exact spec_NameOk.mono _ _ | exact spec_l9Patch.mono _ _ _ _ _ | exact LeO.refl _ | exact LeO.none _ | refine LeO.ite ?_ ?_ | refine LeO.bind ?_ (fun _ => ?_)
    · intro y0 y1 y2 y3 y4 y5 y6 y7
      unfold spec_SectionOk.j1
      repeat' with_reducible first | exact ih0 _ _ _ _ _ _ _ _ | exact ih1 _ _ _ _ _ _ _ _ | exact ih2 _ _ _ _ _ _ _ _ | exact ih3 _ _ _ _ _ _ _ _ | exact ih4 _ _ _ _ _ _ _ | exact ih5 _ _ _ _ _ _ _ _ | exact spec_NameOk.mono _ _ | exact spec_l9Patch.mono _ _ _ _ _ | exact LeO.refl _ | exact LeO.none _ | refine LeO.ite ?_ ?_ | refine LeO.bind ?_ (fun _ => ?_)
    · intro y0 y1 y2 y3 y4 y5 y6 y7
      unfold spec_SectionOk.j2
      repeat' with_reducible first | exact ih0 _ _ _ _ _ _ _ _ | exact ih1 _ _ _ _ _ _ _ _ | exact ih2 _ _ _ _ _ _ _ _ | exact ih3 _ _ _ _ _ _ _ _ | exact ih4 _ _ _ _ _ _ _ | exact ih5 _ _ _ _ _ _ _ _ | exact spec_NameOk.mono _ _ | exact spec_l9Patch.mono _ _ _ _ _ | exact LeO.refl _ | exact LeO.none _ | refine LeO.ite ?_ ?_ | refine LeO.bind ?_ (fun _ => ?_)
    · intro y0 y1 y2 y3 y4 y5 y6 y7
      unfold spec_SectionOk.l0
      repeat' with_reducible first | exact ih0 _ _ _ _ _ _ _ _ | exact ih1 _ _ _ _ _ _ _ _ | exact ih2 _ _ _ _ _ _ _ _ | exact ih3 _ _ _ _ _ _ _ _ | exact ih4 _ _ _ _ _ _ _ | exact ih5 _ _ _ _ _ _ _ _ | exact spec_NameOk.mono _ _ | exact spec_l9Patch.mono _ _ _ _ _ | exact LeO.refl _ | exact LeO.none _ | refine LeO.ite ?_ ?_ | refine LeO.bind ?_ (fun _ => ?_)
    · intro y0 y1 y2 y3 y4 y5 y6
      unfold spec_SectionOk.l1
      repeat' with_reducible first | exact ih0 _ _ _ _ _ _ _ _ | exact ih1 _ _ _ _ _ _ _ _ | exact ih2 _ _ _ _ _ _ _ _ | exact ih3 _ _ _ _ _ _ _ _ | exact ih4 _ _ _ _ _ _ _ | exact ih5 _ _ _ _ _ _ _ _ | exact spec_NameOk.mono _ _ | exact spec_l9Patch.mono _ _ _ _ _ | exact LeO.refl _ | exact LeO.none _ | refine LeO.ite ?_ ?_ | refine LeO.bind ?_ (fun _ => ?_)
    · intro y0 y1 y2 y3 y4 y5 y6 y7
      unfold spec_SectionOk.j5
      repeat' with_reducible first | exact ih0 _ _ _ _ _ _ _ _ | exact ih1 _ _ _ _ _ _ _ _ | exact ih2 _ _ _ _ _ _ _ _ | exact ih3 _ _ _ _ _ _ _ _ | exact ih4 _ _ _ _ _ _ _ | exact ih5 _ _ _ _ _ _ _ _ | exact spec_NameOk.mono _ _ | exact spec_l9Patch.mono _ _ _ _ _ | exact LeO.refl _ | exact LeO.none _ | refine LeO.ite ?_ ?_ | refine LeO.bind ?_ (fun _ => ?_)
theorem spec_SectionOk.mono : ∀ a0 a1 a2 a3 a4 a5 k, LeO (spec_SectionOk.f k a0 a1 a2 a3 a4 a5) (spec_SectionOk.f (k + 1) a0 a1 a2 a3 a4 a5) := by
  intro a0 a1 a2 a3 a4 a5 k
  obtain ⟨ih0, ih1, ih2, ih3, ih4, ih5⟩ := spec_SectionOk.mono_l k
  unfold spec_SectionOk.f
  repeat' with_reducible first | exact ih0 _ _ _ _ _ _ _ _ | exact ih1 _ _ _ _ _ _ _ _ | exact ih2 _ _ _ _ _ _ _ _ | exact ih3 _ _ _ _ _ _ _ _ | exact ih4 _ _ _ _ _ _ _ | exact ih5 _ _ _ _ _ _ _ _ | exact spec_NameOk.mono _ _ | exact spec_l9Patch.mono _ _ _ _ _ | exact LeO.refl _ | exact LeO.none _ | refine LeO.ite ?_ ?_ | refine LeO.bind ?_ (fun _ => ?_)
set_option maxHeartbeats 8000000 in
set_option maxRecDepth 100000 in
theorem spec_SectionOk.calls (k : Nat) (a0_0 : ByteArray) (a0_1 : Int) (a0_2 : Int) (a0_3 : Int) (a0_4 : ByteArray) (A0_5 : Option Addr) (c0_5 : Nat) (l0_5 : List (S79)) (r : Bool) (w : World) (hr0_5 : Kd.C k79 w A0_5 l0_5.length l0_5) (hc0_5 : l0_5.length ≤ c0_5) (h : spec_SectionOk.f k a0_0 a0_1 a0_2 a0_3 a0_4 l0_5 = some r) :
 Calls Tryz.prog 40 #[.agg #[.string a0_0, .int .i64 a0_1, .int .i64 a0_2, .int .i64 a0_3, .string a0_4, .slice A0_5 l0_5.length c0_5]] w fun e w' => e = .returned (.bool r) ∧ Below w.heap.size w w' := by
 have hu71 := Tryz.underlying71
 have hu79 := Tryz.underlying79
 have HR0_5 := Aside0.mk hr0_5
 have HC0_5 := Aside0.mk hc0_5
 clear hr0_5 hc0_5
 have HB := Aside0.mk (Below.refl w.heap.size w)
 have H : ((spec_NameOk.f k a0_0).bind fun t144 => (if t144 = true then ((spec_l1In.f a0_1 0 2).bind fun t145 => (if t145 = true then (if (a0_4.size : Int) > 256 then (spec_SectionOk.j0 k (a0_4.size : Int) true a0_0 a0_1 a0_2 a0_3 a0_4 l0_5) else (spec_SectionOk.j0 k (a0_4.size : Int) (decide ((l0_5.length : Int) > 256)) a0_0 a0_1 a0_2 a0_3 a0_4 l0_5)) else (spec_SectionOk.j0 k (a0_4.size : Int) true a0_0 a0_1 a0_2 a0_3 a0_4 l0_5))) else (spec_SectionOk.j0 k (a0_4.size : Int) true a0_0 a0_1 a0_2 a0_3 a0_4 l0_5))) = some r := h
 clear h
 have HC2 := Aside0.mk H
 clear H
 go_enter Tryz.func40, Tryz.ntmps40
 go_upto_region 2 with (first | ((with_reducible refine gate_dst (N := 1) rfl ?_); (try (refine gate_guard (by rfl) ?_; dsimp only)); refine zbx 1 #[.string a0_0, .int .i64 a0_1, .int .i64 a0_2, .int .i64 a0_3, .string a0_4, .slice A0_5 l0_5.length c0_5] 71 ?_; intro gb143 hg w3 hbox hb; have BK143 := Aside0.mk (hbox); have GW143 := zs w hg; have GE143 := GW143; replace HB := zt w hb; clear hb hbox hg; have hcz4_0 := zc0 BK143; have hcz4_1 := zc1 BK143; have hcz4_2 := zc2 BK143; have hcz4_3 := zc3 BK143; have hcz4_4 := zc4 BK143; have hcz4_5 := zc5 BK143; have hfz4_0 := blk_frozen BK143.out 0; have hfz4_1 := blk_frozen BK143.out 1; have hfz4_2 := blk_frozen BK143.out 2; have hfz4_3 := blk_frozen BK143.out 3; have hfz4_4 := blk_frozen BK143.out 4; have hfz4_5 := blk_frozen BK143.out 5))
 (try simp only [Act.put, List.setIfInBounds_toArray, List.set_cons_zero, List.set_cons_succ])
 go_cut [29] (fun v29 wc => ∃ (kq : Nat) (x29_1 : Bool), v29 = .bool x29_1 ∧ Aside0 (spec_SectionOk.j0 kq (a0_4.size : Int) x29_1 a0_0 a0_1 a0_2 a0_3 a0_4 l0_5 = some r) ∧ Aside0 (kq ≤ k) ∧ Aside0 (wc.heap[gb143]? = some (.cells #[.string a0_0, .int .i64 a0_1, .int .i64 a0_2, .int .i64 a0_3, .string a0_4, (.slice A0_5 l0_5.length c0_5)] 71 (0, 0))) ∧ Aside0 (Below w.heap.size w wc))
 case first =>
  have H := HC2.out
  clear HC2
  obtain ⟨t144, A50, H⟩ := Option.bind_eq_some_iff.mp H
  have A5 := Aside0.mk A50
  clear A50
  by_cases c6 : t144 = true
  ·subst c6
   rw [if_pos rfl] at H
   obtain ⟨t145, A70, H⟩ := Option.bind_eq_some_iff.mp H
   have A7 := Aside0.mk A70
   clear A70
   by_cases c8 : t145 = true
   ·subst c8
    rw [if_pos rfl] at H
    by_cases c9 : (a0_4.size : Int) > 256
    ·rw [if_pos c9] at H
     have c9b0 : decide (256 < (a0_4.size : Int)) = true := decide_eq_true c9
     have c9b1 : decide (256 < a0_4.size) = true := decide_eq_true (by omega)
     clear c9
     (first | rw [c9b0] | (simp only [i64_w, i32_w]; rw [c9b0]) | skip)
     have H' := Aside0.mk H
     clear H
     obtain ⟨hcz10_0, hcz10_1, hcz10_2, hcz10_3, hcz10_4, hcz10_5, hfz10_0, hfz10_1, hfz10_2, hfz10_3, hfz10_4, hfz10_5⟩ := zF6 BK143
     go_wp2_with (first | ((with_reducible refine gate_callee (f := 41) rfl ?_); refine zc (some 12) Tryz.func41 #[.string a0_0] ?_; (with_reducible refine (spec_NameOk.calls k a0_0 true _ A5.out).mono ?_); rintro e w' ⟨rfl, ⟨nd, rfl⟩⟩; refine ⟨_, rfl, ?_⟩) | (go_at_call 42; (with_reducible refine (spec_l1In.calls a0_1 0 2 true _ A7.out).mono ?_); rintro e w' ⟨rfl, ⟨nd, rfl⟩⟩))
     go_meet
     case rel => exact ⟨_, (true), (zE _), H', ⟨by first | omega | exact Nat.le_refl _⟩, ⟨zr BK143⟩, ⟨zb _⟩⟩
    ·rw [if_neg c9] at H
     have c9b0 : decide (256 < (a0_4.size : Int)) = false := decide_eq_false c9
     have c9b1 : decide (256 < a0_4.size) = false := decide_eq_false (by omega)
     clear c9
     (first | rw [c9b0] | (simp only [i64_w, i32_w]; rw [c9b0]) | skip)
     have H' := Aside0.mk H
     clear H
     obtain ⟨hcz11_0, hcz11_1, hcz11_2, hcz11_3, hcz11_4, hcz11_5, hfz11_0, hfz11_1, hfz11_2, hfz11_3, hfz11_4, hfz11_5⟩ := zF6 BK143
     go_wp2_with (first | ((with_reducible refine gate_callee (f := 41) rfl ?_); refine zc (some 12) Tryz.func41 #[.string a0_0] ?_; (with_reducible refine (spec_NameOk.calls k a0_0 true _ A5.out).mono ?_); rintro e w' ⟨rfl, ⟨nd, rfl⟩⟩; refine ⟨_, rfl, ?_⟩) | (go_at_call 42; (with_reducible refine (spec_l1In.calls a0_1 0 2 true _ A7.out).mono ?_); rintro e w' ⟨rfl, ⟨nd, rfl⟩⟩))
     go_meet
     case rel => exact ⟨_, (decide ((l0_5.length : Int) > 256)), (zE _), H', ⟨by first | omega | exact Nat.le_refl _⟩, ⟨zr BK143⟩, ⟨zb _⟩⟩
   ·replace c8 := Bool.eq_false_iff.mpr c8
    subst c8
    rw [if_neg (show ¬ (false = true) by decide)] at H
    have H' := Aside0.mk H
    clear H
    obtain ⟨hcz12_0, hcz12_1, hcz12_2, hcz12_3, hcz12_4, hcz12_5, hfz12_0, hfz12_1, hfz12_2, hfz12_3, hfz12_4, hfz12_5⟩ := zF6 BK143
    go_wp2_with (first | ((with_reducible refine gate_callee (f := 41) rfl ?_); refine zc (some 12) Tryz.func41 #[.string a0_0] ?_; (with_reducible refine (spec_NameOk.calls k a0_0 true _ A5.out).mono ?_); rintro e w' ⟨rfl, ⟨nd, rfl⟩⟩; refine ⟨_, rfl, ?_⟩) | (go_at_call 42; (with_reducible refine (spec_l1In.calls a0_1 0 2 false _ A7.out).mono ?_); rintro e w' ⟨rfl, ⟨nd, rfl⟩⟩))
    go_meet
    case rel => exact ⟨_, (true), (zE _), H', ⟨by first | omega | exact Nat.le_refl _⟩, ⟨zr BK143⟩, ⟨zb _⟩⟩
  ·replace c6 := Bool.eq_false_iff.mpr c6
   subst c6
   rw [if_neg (show ¬ (false = true) by decide)] at H
   have H' := Aside0.mk H
   clear H
   obtain ⟨hcz13_0, hcz13_1, hcz13_2, hcz13_3, hcz13_4, hcz13_5, hfz13_0, hfz13_1, hfz13_2, hfz13_3, hfz13_4, hfz13_5⟩ := zF6 BK143
   go_wp2_with (first | ((with_reducible refine gate_callee (f := 41) rfl ?_); refine zc (some 12) Tryz.func41 #[.string a0_0] ?_; (with_reducible refine (spec_NameOk.calls k a0_0 false _ A5.out).mono ?_); rintro e w' ⟨rfl, ⟨nd, rfl⟩⟩; refine ⟨_, rfl, ?_⟩))
   go_meet
   case rel => exact ⟨_, (true), (zE _), H', ⟨by first | omega | exact Nat.le_refl _⟩, ⟨zr BK143⟩, ⟨zb _⟩⟩
 case rest =>
  clear HC2
  obtain ⟨kq, x29_1, rfl, HA, HJ1, BK143, HB⟩ := hcut
  cases kq with
  | zero => exact absurd HA.out (by simp [spec_SectionOk.j0])
  | succ kj1 =>
   have H := HA.out
   clear HA
   simp only [spec_SectionOk.j0] at H
   by_cases c14 : x29_1 = true
   ·subst c14
    rw [if_pos rfl] at H
    obtain rfl := Option.some.inj H
    go_wp2
    go_ret
    exact ⟨ze _, zb _⟩
   ·replace c14 := Bool.eq_false_iff.mpr c14
    subst c14
    rw [if_neg (show ¬ (false = true) by decide)] at H
    obtain ⟨t146, A150, H⟩ := Option.bind_eq_some_iff.mp H
    have A15 := Aside0.mk A150
    clear A150
    have HC16 := Aside0.mk H
    clear H
    obtain ⟨hcz17_0, hcz17_1, hcz17_2, hcz17_3, hcz17_4, hcz17_5, hfz17_0, hfz17_1, hfz17_2, hfz17_3, hfz17_4, hfz17_5⟩ := zF6 BK143
    go_upto_region 5 with (first | ((with_reducible refine gate_callee (f := 83) rfl ?_); refine zc (some 32) Tryz.func83 #[.int .i64 a0_1] ?_; (with_reducible refine (spec_l9Base.calls a0_1 t146 _ A15.out).mono ?_); rintro e w' ⟨rfl, ⟨nd, rfl⟩⟩; refine ⟨_, rfl, ?_⟩))
    (try simp only [Act.put, List.setIfInBounds_toArray, List.set_cons_zero, List.set_cons_succ])
    go_cut [46] (fun v46 wc => ∃ (kq : Nat) (x46_15 : Bool), v46 = .bool x46_15 ∧ Aside0 (spec_SectionOk.j1 kq (a0_4.size : Int) x46_15 a0_0 a0_1 a0_2 a0_3 a0_4 l0_5 = some r) ∧ Aside0 (kq ≤ kj1) ∧ Aside0 (wc.heap[gb143]? = some (.cells #[.string a0_0, .int .i64 a0_1, .int .i64 a0_2, .int .i64 a0_3, .string a0_4, (.slice A0_5 l0_5.length c0_5)] 71 (0, 0))) ∧ Aside0 (Below w.heap.size w wc))
    case first =>
     have H := HC16.out
     clear HC16
     by_cases c18 : a0_3 = (-1)
     ·rw [if_pos c18] at H
      have c18b0 : (a0_3 == (-1)) = true := beq_iff_eq.mpr c18
      have c18b1 : (a0_3 != (-1)) = false := bne_eq_false_iff_eq.mpr c18
      clear c18
      (first | rw [c18b0] | (simp only [i64_w, i32_w]; rw [c18b0]) | skip)
      have H' := Aside0.mk H
      clear H
      obtain ⟨hcz19_0, hcz19_1, hcz19_2, hcz19_3, hcz19_4, hcz19_5, hfz19_0, hfz19_1, hfz19_2, hfz19_3, hfz19_4, hfz19_5⟩ := zF6 BK143
      go_wp2
      go_meet
      case rel => exact ⟨_, (false), (zE _), H', ⟨by have := HJ1.out; first | omega | exact Nat.le_refl _⟩, ⟨zr BK143⟩, ⟨zb _⟩⟩
     ·rw [if_neg c18] at H
      have c18b0 : (a0_3 == (-1)) = false := beq_eq_false_iff_ne.mpr c18
      have c18b1 : (a0_3 != (-1)) = true := bne_iff_ne.mpr c18
      (first | rw [c18b0] | (simp only [i64_w, i32_w]; rw [c18b0]) | skip)
      obtain ⟨t147, A200, H⟩ := Option.bind_eq_some_iff.mp H
      have A20 := Aside0.mk A200
      clear A200
      have H' := Aside0.mk H
      clear H
      obtain ⟨hcz21_0, hcz21_1, hcz21_2, hcz21_3, hcz21_4, hcz21_5, hfz21_0, hfz21_1, hfz21_2, hfz21_3, hfz21_4, hfz21_5⟩ := zF6 BK143
      go_wp2_with (first | (go_at_call 42; (with_reducible refine (spec_l1In.calls a0_3 t146 (wrap64 ((wrap64 (t146 + 256)) - (a0_4.size : Int))) t147 _ A20.out).mono ?_); rintro e w' ⟨rfl, ⟨nd, rfl⟩⟩))
      go_meet
      case rel => exact ⟨_, (!t147), (zE _), H', ⟨by have := HJ1.out; first | omega | exact Nat.le_refl _⟩, ⟨zr BK143⟩, ⟨zb _⟩⟩
    case rest =>
     clear HC16
     obtain ⟨kq, x46_15, rfl, HA, HJ15, BK143, HB⟩ := hcut
     cases kq with
     | zero => exact absurd HA.out (by simp [spec_SectionOk.j1])
     | succ kj15 =>
      have H := HA.out
      clear HA
      simp only [spec_SectionOk.j1] at H
      by_cases c22 : x46_15 = true
      ·subst c22
       rw [if_pos rfl] at H
       obtain rfl := Option.some.inj H
       go_wp2
       go_ret
       exact ⟨ze _, zb _⟩
      ·replace c22 := Bool.eq_false_iff.mpr c22
       subst c22
       rw [if_neg (show ¬ (false = true) by decide)] at H
       have HC23 := Aside0.mk H
       clear H
       go_upto_region 7 with (fail)
       go_cut [60] (fun v60 wc => ∃ (kq : Nat) (x60_22 : Bool), v60 = .bool x60_22 ∧ Aside0 (spec_SectionOk.j2 kq (a0_4.size : Int) x60_22 a0_0 a0_1 a0_2 a0_3 a0_4 l0_5 = some r) ∧ Aside0 (kq ≤ kj15) ∧ Aside0 (wc.heap[gb143]? = some (.cells #[.string a0_0, .int .i64 a0_1, .int .i64 a0_2, .int .i64 a0_3, .string a0_4, (.slice A0_5 l0_5.length c0_5)] 71 (0, 0))) ∧ Aside0 (Below w.heap.size w wc))
       case first =>
        have H := HC23.out
        clear HC23
        by_cases c24 : a0_2 = (-1)
        ·rw [if_pos c24] at H
         have c24b0 : (a0_2 == (-1)) = true := beq_iff_eq.mpr c24
         have c24b1 : (a0_2 != (-1)) = false := bne_eq_false_iff_eq.mpr c24
         clear c24
         (first | rw [c24b0] | (simp only [i64_w, i32_w]; rw [c24b0]) | skip)
         have H' := Aside0.mk H
         clear H
         obtain ⟨hcz25_0, hcz25_1, hcz25_2, hcz25_3, hcz25_4, hcz25_5, hfz25_0, hfz25_1, hfz25_2, hfz25_3, hfz25_4, hfz25_5⟩ := zF6 BK143
         go_wp2
         go_meet
         case rel => exact ⟨_, (false), (zE _), H', ⟨by have := HJ1.out; have := HJ15.out; first | omega | exact Nat.le_refl _⟩, ⟨zr BK143⟩, ⟨zb _⟩⟩
        ·rw [if_neg c24] at H
         have c24b0 : (a0_2 == (-1)) = false := beq_eq_false_iff_ne.mpr c24
         have c24b1 : (a0_2 != (-1)) = true := bne_iff_ne.mpr c24
         (first | rw [c24b0] | (simp only [i64_w, i32_w]; rw [c24b0]) | skip)
         by_cases c26 : a0_1 = 1
         ·rw [if_pos c26] at H
          have c26b0 : (a0_1 == 1) = true := beq_iff_eq.mpr c26
          have c26b1 : (a0_1 != 1) = false := bne_eq_false_iff_eq.mpr c26
          clear c26
          obtain ⟨t148, A270, H⟩ := Option.bind_eq_some_iff.mp H
          have A27 := Aside0.mk A270
          clear A270
          have H' := Aside0.mk H
          clear H
          obtain ⟨hcz28_0, hcz28_1, hcz28_2, hcz28_3, hcz28_4, hcz28_5, hfz28_0, hfz28_1, hfz28_2, hfz28_3, hfz28_4, hfz28_5⟩ := zF6 BK143
          go_wp2_with (first | (go_at_call 42; (with_reducible refine (spec_l1In.calls a0_2 1 15 t148 _ A27.out).mono ?_); rintro e w' ⟨rfl, ⟨nd, rfl⟩⟩))
          go_meet
          case rel => exact ⟨_, (!t148), (zE _), H', ⟨by have := HJ1.out; have := HJ15.out; first | omega | exact Nat.le_refl _⟩, ⟨zr BK143⟩, ⟨zb _⟩⟩
         ·rw [if_neg c26] at H
          have c26b0 : (a0_1 == 1) = false := beq_eq_false_iff_ne.mpr c26
          have c26b1 : (a0_1 != 1) = true := bne_iff_ne.mpr c26
          have H' := Aside0.mk H
          clear H
          obtain ⟨hcz29_0, hcz29_1, hcz29_2, hcz29_3, hcz29_4, hcz29_5, hfz29_0, hfz29_1, hfz29_2, hfz29_3, hfz29_4, hfz29_5⟩ := zF6 BK143
          go_wp2
          go_meet
          case rel => exact ⟨_, (true), (zE _), H', ⟨by have := HJ1.out; have := HJ15.out; first | omega | exact Nat.le_refl _⟩, ⟨zr BK143⟩, ⟨zb _⟩⟩
       case rest =>
        clear HC23
        obtain ⟨kq, x60_22, rfl, HA, HJ22, BK143, HB⟩ := hcut
        cases kq with
        | zero => exact absurd HA.out (by simp [spec_SectionOk.j2])
        | succ kj22 =>
         have H := HA.out
         clear HA
         simp only [spec_SectionOk.j2] at H
         by_cases c30 : x60_22 = true
         ·subst c30
          rw [if_pos rfl] at H
          obtain rfl := Option.some.inj H
          go_wp2
          go_ret
          exact ⟨ze _, zb _⟩
         ·replace c30 := Bool.eq_false_iff.mpr c30
          subst c30
          rw [if_neg (show ¬ (false = true) by decide)] at H
          have H' := Aside0.mk H
          clear H
          go_wp2
          go_loopg [5] kj22 (fun kq v5 w' => ∃ (x5_4 : Int), v5 = .int .i64 x5_4 ∧ Aside0 (spec_SectionOk.l0 kq (a0_4.size : Int) x5_4 a0_0 a0_1 a0_2 a0_3 a0_4 l0_5 = some r) ∧ Aside0 (kq ≤ kj22) ∧ Aside0 (w'.heap[gb143]? = some (.cells #[.string a0_0, .int .i64 a0_1, .int .i64 a0_2, .int .i64 a0_3, .string a0_4, (.slice A0_5 l0_5.length c0_5)] 71 (0, 0))) ∧ Aside0 (Below w.heap.size w w'))
          case atStart => exact ⟨(0), (zE _), H', ⟨Nat.le_refl _⟩, ⟨zr BK143⟩, ⟨zb _⟩⟩
          case round =>
           clear H'
           obtain ⟨x5_4, rfl, HA, HK4, BK143, HB⟩ := hrel
           cases gk with
           | zero => exact absurd HA.out (by simp [spec_SectionOk.l0])
           | succ k4 =>
            have H := HA.out
            clear HA
            simp only [spec_SectionOk.l0] at H
            by_cases c31 : x5_4 < (l0_5.length : Int)
            ·rw [if_pos c31] at H
             have c31b0 : decide (x5_4 < (l0_5.length : Int)) = true := decide_eq_true c31
             clear c31
             by_cases c32 : 0 ≤ x5_4
             ·rw [if_pos c32] at H
              have c32b0 : decide (0 ≤ x5_4) = true := decide_eq_true c32
              clear c32
              obtain ⟨t150, A330, H⟩ := Option.bind_eq_some_iff.mp H
              have A33 := Aside0.mk A330
              clear A330
              by_cases c34 : t150 = true
              ·subst c34
               rw [if_pos rfl] at H
               by_cases c35 : a0_1 = 2
               ·rw [if_pos c35] at H
                have c35b0 : (a0_1 == 2) = true := beq_iff_eq.mpr c35
                have c35b1 : (a0_1 != 2) = false := bne_eq_false_iff_eq.mpr c35
                clear c35
                obtain rfl := Option.some.inj H
                obtain ⟨hcz36_0, hcz36_1, hcz36_2, hcz36_3, hcz36_4, hcz36_5, hfz36_0, hfz36_1, hfz36_2, hfz36_3, hfz36_4, hfz36_5⟩ := zF6 BK143
                have p149 : 0 ≤ (x5_4 : Int) := of_decide_eq_true (za _)
                have q149 : x5_4 < (l0_5.length : Int) := of_decide_eq_true (za _)
                obtain ⟨ad149, A149_2, c149_2, e149, hx149_0, hx149_1, hx149_2, hl149_2, hi149_2⟩ := at_T79 HR0_5.out x5_4 p149 q149
                cases e149
                replace hx149_0 := zx HB hx149_0
                replace hx149_1 := zx HB hx149_1
                replace hx149_2 := zx HB hx149_2
                have HR149_2 := Aside0.mk hi149_2
                have HC149_2 := Aside0.mk hl149_2
                clear hi149_2 hl149_2
                replace p149 := eq_true p149
                replace q149 := eq_true q149
                go_wp2_with (first | ((with_reducible refine gate_callee (f := 84) rfl ?_); refine zc (some 74) Tryz.func84 #[.agg #[.int .i64 ((rd_T79 l0_5 x5_4).f0), .int .i64 ((rd_T79 l0_5 x5_4).f1), .slice A149_2 ((rd_T79 l0_5 x5_4).f2).length c149_2], .int .i64 (a0_4.size : Int)] ?_; (with_reducible refine (spec_l9Patch.calls k4 ((rd_T79 l0_5 x5_4).f0) ((rd_T79 l0_5 x5_4).f1) _ _ ((rd_T79 l0_5 x5_4).f2) (a0_4.size : Int) true _ ?side1 ?side2 A33.out).mono ?_); (case side1 => repeat (first | exact (Kd.C_below HR149_2.out HB.out) | (with_reducible refine Kd.C_alloc ?_ _) | (with_reducible refine Kd.C_drewN ?_ _) | (with_reducible refine Kd.C_drew ?_))); (case side2 => exact HC149_2.out); rintro e w37 ⟨rfl, hb⟩; refine ⟨_, rfl, ?_⟩; replace BK143 := zk BK143 hb; replace HB := zt w hb; (try clear hb); (try clear hb2); (try clear hk); (try clear hi); have hcz38_0 := zc0 BK143; have hcz38_1 := zc1 BK143; have hcz38_2 := zc2 BK143; have hcz38_3 := zc3 BK143; have hcz38_4 := zc4 BK143; have hcz38_5 := zc5 BK143; have hfz38_0 := blk_frozen BK143.out 0; have hfz38_1 := blk_frozen BK143.out 1; have hfz38_2 := blk_frozen BK143.out 2; have hfz38_3 := blk_frozen BK143.out 3; have hfz38_4 := blk_frozen BK143.out 4; have hfz38_5 := blk_frozen BK143.out 5))
                go_ret
                exact ⟨ze _, zb _⟩
               ·rw [if_neg c35] at H
                have c35b0 : (a0_1 == 2) = false := beq_eq_false_iff_ne.mpr c35
                have c35b1 : (a0_1 != 2) = true := bne_iff_ne.mpr c35
                have H' := Aside0.mk H
                clear H
                obtain ⟨hcz39_0, hcz39_1, hcz39_2, hcz39_3, hcz39_4, hcz39_5, hfz39_0, hfz39_1, hfz39_2, hfz39_3, hfz39_4, hfz39_5⟩ := zF6 BK143
                have p149 : 0 ≤ (x5_4 : Int) := of_decide_eq_true (za _)
                have q149 : x5_4 < (l0_5.length : Int) := of_decide_eq_true (za _)
                obtain ⟨ad149, A149_2, c149_2, e149, hx149_0, hx149_1, hx149_2, hl149_2, hi149_2⟩ := at_T79 HR0_5.out x5_4 p149 q149
                cases e149
                replace hx149_0 := zx HB hx149_0
                replace hx149_1 := zx HB hx149_1
                replace hx149_2 := zx HB hx149_2
                have HR149_2 := Aside0.mk hi149_2
                have HC149_2 := Aside0.mk hl149_2
                clear hi149_2 hl149_2
                replace p149 := eq_true p149
                replace q149 := eq_true q149
                go_wp2_with (first | ((with_reducible refine gate_callee (f := 84) rfl ?_); refine zc (some 74) Tryz.func84 #[.agg #[.int .i64 ((rd_T79 l0_5 x5_4).f0), .int .i64 ((rd_T79 l0_5 x5_4).f1), .slice A149_2 ((rd_T79 l0_5 x5_4).f2).length c149_2], .int .i64 (a0_4.size : Int)] ?_; (with_reducible refine (spec_l9Patch.calls k4 ((rd_T79 l0_5 x5_4).f0) ((rd_T79 l0_5 x5_4).f1) _ _ ((rd_T79 l0_5 x5_4).f2) (a0_4.size : Int) true _ ?side1 ?side2 A33.out).mono ?_); (case side1 => repeat (first | exact (Kd.C_below HR149_2.out HB.out) | (with_reducible refine Kd.C_alloc ?_ _) | (with_reducible refine Kd.C_drewN ?_ _) | (with_reducible refine Kd.C_drew ?_))); (case side2 => exact HC149_2.out); rintro e w40 ⟨rfl, hb⟩; refine ⟨_, rfl, ?_⟩; replace BK143 := zk BK143 hb; replace HB := zt w hb; (try clear hb); (try clear hb2); (try clear hk); (try clear hi); have hcz41_0 := zc0 BK143; have hcz41_1 := zc1 BK143; have hcz41_2 := zc2 BK143; have hcz41_3 := zc3 BK143; have hcz41_4 := zc4 BK143; have hcz41_5 := zc5 BK143; have hfz41_0 := blk_frozen BK143.out 0; have hfz41_1 := blk_frozen BK143.out 1; have hfz41_2 := blk_frozen BK143.out 2; have hfz41_3 := blk_frozen BK143.out 3; have hfz41_4 := blk_frozen BK143.out 4; have hfz41_5 := blk_frozen BK143.out 5))
                go_roundg k4
                case measure => have := HJ1.out; have := HJ15.out; have := HJ22.out; have := HK4.out; omega
                case rel => exact ⟨(wrap64 (x5_4 + 1)), (zE _), H', ⟨by have := HJ1.out; have := HJ15.out; have := HJ22.out; have := HK4.out; omega⟩, ⟨zr BK143⟩, ⟨zb _⟩⟩
              ·replace c34 := Bool.eq_false_iff.mpr c34
               subst c34
               rw [if_neg (show ¬ (false = true) by decide)] at H
               obtain rfl := Option.some.inj H
               obtain ⟨hcz42_0, hcz42_1, hcz42_2, hcz42_3, hcz42_4, hcz42_5, hfz42_0, hfz42_1, hfz42_2, hfz42_3, hfz42_4, hfz42_5⟩ := zF6 BK143
               have p149 : 0 ≤ (x5_4 : Int) := of_decide_eq_true (za _)
               have q149 : x5_4 < (l0_5.length : Int) := of_decide_eq_true (za _)
               obtain ⟨ad149, A149_2, c149_2, e149, hx149_0, hx149_1, hx149_2, hl149_2, hi149_2⟩ := at_T79 HR0_5.out x5_4 p149 q149
               cases e149
               replace hx149_0 := zx HB hx149_0
               replace hx149_1 := zx HB hx149_1
               replace hx149_2 := zx HB hx149_2
               have HR149_2 := Aside0.mk hi149_2
               have HC149_2 := Aside0.mk hl149_2
               clear hi149_2 hl149_2
               replace p149 := eq_true p149
               replace q149 := eq_true q149
               go_wp2_with (first | ((with_reducible refine gate_callee (f := 84) rfl ?_); refine zc (some 74) Tryz.func84 #[.agg #[.int .i64 ((rd_T79 l0_5 x5_4).f0), .int .i64 ((rd_T79 l0_5 x5_4).f1), .slice A149_2 ((rd_T79 l0_5 x5_4).f2).length c149_2], .int .i64 (a0_4.size : Int)] ?_; (with_reducible refine (spec_l9Patch.calls k4 ((rd_T79 l0_5 x5_4).f0) ((rd_T79 l0_5 x5_4).f1) _ _ ((rd_T79 l0_5 x5_4).f2) (a0_4.size : Int) false _ ?side1 ?side2 A33.out).mono ?_); (case side1 => repeat (first | exact (Kd.C_below HR149_2.out HB.out) | (with_reducible refine Kd.C_alloc ?_ _) | (with_reducible refine Kd.C_drewN ?_ _) | (with_reducible refine Kd.C_drew ?_))); (case side2 => exact HC149_2.out); rintro e w43 ⟨rfl, hb⟩; refine ⟨_, rfl, ?_⟩; replace BK143 := zk BK143 hb; replace HB := zt w hb; (try clear hb); (try clear hb2); (try clear hk); (try clear hi)))
               go_ret
               exact ⟨ze _, zb _⟩
             ·rw [if_neg c32] at H
              exact absurd H (by simp)
            ·rw [if_neg c31] at H
             have c31b0 : decide (x5_4 < (l0_5.length : Int)) = false := decide_eq_false c31
             clear c31
             have H' := Aside0.mk H
             clear H
             obtain ⟨hcz44_0, hcz44_1, hcz44_2, hcz44_3, hcz44_4, hcz44_5, hfz44_0, hfz44_1, hfz44_2, hfz44_3, hfz44_4, hfz44_5⟩ := zF6 BK143
             go_wp2
             go_loopg [6] k4 (fun kq v6 w' => ∃ (x6_5 : Int), v6 = .int .i64 x6_5 ∧ Aside0 (spec_SectionOk.l1 kq x6_5 a0_0 a0_1 a0_2 a0_3 a0_4 l0_5 = some r) ∧ Aside0 (kq ≤ k4) ∧ Aside0 (w'.heap[gb143]? = some (.cells #[.string a0_0, .int .i64 a0_1, .int .i64 a0_2, .int .i64 a0_3, .string a0_4, (.slice A0_5 l0_5.length c0_5)] 71 (0, 0))) ∧ Aside0 (Below w.heap.size w w'))
             case atStart => exact ⟨(0), (zE _), H', ⟨Nat.le_refl _⟩, ⟨zr BK143⟩, ⟨zb _⟩⟩
             case round =>
              clear H'
              obtain ⟨x6_5, rfl, HA, HK5, BK143, HB⟩ := hrel
              cases gk with
              | zero => exact absurd HA.out (by simp [spec_SectionOk.l1])
              | succ k5 =>
               have H := HA.out
               clear HA
               simp only [spec_SectionOk.l1] at H
               have HC45 := Aside0.mk H
               clear H
               go_upto_region 15 with (fail)
               go_cut [90] (fun v90 wc => ∃ (kq : Nat) (x90_44 : Bool), v90 = .bool x90_44 ∧ Aside0 (spec_SectionOk.j5 kq x6_5 x90_44 a0_0 a0_1 a0_2 a0_3 a0_4 l0_5 = some r) ∧ Aside0 (kq ≤ k5) ∧ Aside0 (wc.heap[gb143]? = some (.cells #[.string a0_0, .int .i64 a0_1, .int .i64 a0_2, .int .i64 a0_3, .string a0_4, (.slice A0_5 l0_5.length c0_5)] 71 (0, 0))) ∧ Aside0 (Below w.heap.size w wc))
               case first =>
                have H := HC45.out
                clear HC45
                by_cases c46 : x6_5 < (a0_4.size : Int)
                ·rw [if_pos c46] at H
                 have c46b0 : decide (x6_5 < (a0_4.size : Int)) = true := decide_eq_true c46
                 clear c46
                 (first | rw [c46b0] | (simp only [i64_w, i32_w]; rw [c46b0]) | skip)
                 have H' := Aside0.mk H
                 clear H
                 obtain ⟨hcz47_0, hcz47_1, hcz47_2, hcz47_3, hcz47_4, hcz47_5, hfz47_0, hfz47_1, hfz47_2, hfz47_3, hfz47_4, hfz47_5⟩ := zF6 BK143
                 go_wp2
                 go_meet
                 case rel => exact ⟨_, ((a0_1 == 2)), (zE _), H', ⟨by have := HJ1.out; have := HJ15.out; have := HJ22.out; have := HK4.out; have := HK5.out; first | omega | exact Nat.le_refl _⟩, ⟨zr BK143⟩, ⟨zb _⟩⟩
                ·rw [if_neg c46] at H
                 have c46b0 : decide (x6_5 < (a0_4.size : Int)) = false := decide_eq_false c46
                 clear c46
                 (first | rw [c46b0] | (simp only [i64_w, i32_w]; rw [c46b0]) | skip)
                 have H' := Aside0.mk H
                 clear H
                 obtain ⟨hcz48_0, hcz48_1, hcz48_2, hcz48_3, hcz48_4, hcz48_5, hfz48_0, hfz48_1, hfz48_2, hfz48_3, hfz48_4, hfz48_5⟩ := zF6 BK143
                 go_wp2
                 go_meet
                 case rel => exact ⟨_, (false), (zE _), H', ⟨by have := HJ1.out; have := HJ15.out; have := HJ22.out; have := HK4.out; have := HK5.out; first | omega | exact Nat.le_refl _⟩, ⟨zr BK143⟩, ⟨zb _⟩⟩
               case rest =>
                clear HC45
                obtain ⟨kq, x90_44, rfl, HA, HJ44, BK143, HB⟩ := hcut
                cases kq with
                | zero => exact absurd HA.out (by simp [spec_SectionOk.j5])
                | succ kj44 =>
                 have H := HA.out
                 clear HA
                 simp only [spec_SectionOk.j5] at H
                 by_cases c49 : x90_44 = true
                 ·subst c49
                  rw [if_pos rfl] at H
                  by_cases c50 : 0 ≤ x6_5
                  ·rw [if_pos c50] at H
                   have c50b0 : decide (0 ≤ x6_5) = true := decide_eq_true c50
                   clear c50
                   by_cases c51 : x6_5 < (a0_4.size : Int)
                   ·rw [if_pos c51] at H
                    have c51b0 : decide (x6_5 < (a0_4.size : Int)) = true := decide_eq_true c51
                    clear c51
                    by_cases c53 : (bt a0_4 x6_5) = 0
                    ·rw [if_pos c53] at H
                     have c53b0 : ((bt a0_4 x6_5) == 0) = true := beq_iff_eq.mpr c53
                     have c53b1 : ((bt a0_4 x6_5) != 0) = false := bne_eq_false_iff_eq.mpr c53
                     clear c53
                     have H' := Aside0.mk H
                     clear H
                     obtain ⟨hcz54_0, hcz54_1, hcz54_2, hcz54_3, hcz54_4, hcz54_5, hfz54_0, hfz54_1, hfz54_2, hfz54_3, hfz54_4, hfz54_5⟩ := zF6 BK143
                     have p52 : 0 ≤ (x6_5 : Int) := of_decide_eq_true (za _)
                     have q52 : x6_5 < (a0_4.size : Int) := of_decide_eq_true (za _)
                     have hx52 := bt_at a0_4 x6_5
                     replace p52 := eq_true p52
                     replace q52 := eq_true q52
                     go_wp2
                     go_roundg kj44
                     case measure => have := HJ1.out; have := HJ15.out; have := HJ22.out; have := HK4.out; have := HK5.out; have := HJ44.out; omega
                     case rel => exact ⟨(wrap64 (x6_5 + 1)), (zE _), H', ⟨by have := HJ1.out; have := HJ15.out; have := HJ22.out; have := HK4.out; have := HK5.out; have := HJ44.out; omega⟩, ⟨zr BK143⟩, ⟨zb _⟩⟩
                    ·rw [if_neg c53] at H
                     have c53b0 : ((bt a0_4 x6_5) == 0) = false := beq_eq_false_iff_ne.mpr c53
                     have c53b1 : ((bt a0_4 x6_5) != 0) = true := bne_iff_ne.mpr c53
                     obtain rfl := Option.some.inj H
                     obtain ⟨hcz55_0, hcz55_1, hcz55_2, hcz55_3, hcz55_4, hcz55_5, hfz55_0, hfz55_1, hfz55_2, hfz55_3, hfz55_4, hfz55_5⟩ := zF6 BK143
                     have p52 : 0 ≤ (x6_5 : Int) := of_decide_eq_true (za _)
                     have q52 : x6_5 < (a0_4.size : Int) := of_decide_eq_true (za _)
                     have hx52 := bt_at a0_4 x6_5
                     replace p52 := eq_true p52
                     replace q52 := eq_true q52
                     go_wp2
                     go_ret
                     exact ⟨ze _, zb _⟩
                   ·rw [if_neg c51] at H
                    exact absurd H (by simp)
                  ·rw [if_neg c50] at H
                   exact absurd H (by simp)
                 ·replace c49 := Bool.eq_false_iff.mpr c49
                  subst c49
                  rw [if_neg (show ¬ (false = true) by decide)] at H
                  obtain rfl := Option.some.inj H
                  go_wp2
                  go_ret
                  exact ⟨ze _, zb _⟩

theorem spec_SectionOk.geqS (a b : ByteArray) (W : World) : (binOp BinOp.geq 9 (.string a) (.string b)).run Tryz.prog W = .ok (.bool (!(Op.bytesLess a.toList b.toList))) W := by
 rw [show binOp BinOp.geq 9 (.string a) (.string b) = pure (.bool (!(Op.bytesLess a.toList b.toList))) from by simp [binOp, Op.stringOp]]
 rfl

end Go.Proofs.YtlacpadpdfccmaaGreatDoor.PFnExactObjectText
namespace Go.Proofs.YtlacpadpdfccmaaGreatDoor.PFnExactObjectText
open Go.RowKit Go.Proofs.YtlacpadpdfccmaaGreatDoor.Z Go.Proofs.YtlacpadpdfccmaaGreatDoorW.PrintWords Go.Proofs.YtlacpadpdfccmaaGreatDoorW.PrintLast Go.Proofs.YtlacpadpdfccmaaGreatDoorW.PrintMore
attribute [local go_sem] max2_int min2_int max_two min_two max_three min_three max_four min_four   -- for this text's walks alone
set_option linter.unusedVariables false
set_option linter.unusedSimpArgs false

mutual
def spec_ObjectOk.j0 : Nat → Bool → List (S71) → List (S72) → List (List (S124)) → Option (Bool)
  | 0, _, _, _, _ => none
  | k + 1, x22, x152000, x152001, x152002 => if x22 = true then (some false) else (spec_ObjectOk.l0 k 0 x152000 x152001 x152002)
def spec_ObjectOk.l0 : Nat → Int → List (S71) → List (S72) → List (List (S124)) → Option (Bool)
  | 0, _, _, _, _ => none
  | k + 1, x3, x152000, x152001, x152002 => if x3 < (x152000.length : Int) then (if 0 ≤ x3 then ((spec_SectionOk.f k ((rd_T71 x152000 x3).f0) ((rd_T71 x152000 x3).f1) ((rd_T71 x152000 x3).f2) ((rd_T71 x152000 x3).f3) ((rd_T71 x152000 x3).f4) ((rd_T71 x152000 x3).f5)).bind fun t153 => (if t153 = true then (spec_ObjectOk.l0 k (wrap64 (x3 + 1)) x152000 x152001 x152002) else (some false))) else (none)) else (spec_ObjectOk.l1 k 0 x152000 x152001 x152002)
def spec_ObjectOk.l1 : Nat → Int → List (S71) → List (S72) → List (List (S124)) → Option (Bool)
  | 0, _, _, _, _ => none
  | k + 1, x4, x152000, x152001, x152002 => if x4 < (x152001.length : Int) then (if 0 ≤ x4 then ((spec_NameOk.f k ((rd_T72 x152001 x4).f0)).bind fun t156 => (if t156 = true then (if x4 > 0 then (if 0 ≤ (wrap64 (x4 - 1)) then (if (wrap64 (x4 - 1)) < (x152001.length : Int) then (if ((Op.bytesLess (((rd_T72 x152001 (wrap64 (x4 - 1))).f0).toList) (((rd_T72 x152001 x4).f0).toList)) = true) then ((spec_l1In.f ((rd_T72 x152001 x4).f1) (-1) (wrap64 ((x152000.length : Int) - 1))).bind fun t158 => (spec_ObjectOk.j3 k x4 (!t158) x152000 x152001 x152002 ((rd_T72 x152001 x4).f0) ((rd_T72 x152001 x4).f1) ((rd_T72 x152001 x4).f2) ((rd_T72 x152001 x4).f3))) else (spec_ObjectOk.j3 k x4 true x152000 x152001 x152002 ((rd_T72 x152001 x4).f0) ((rd_T72 x152001 x4).f1) ((rd_T72 x152001 x4).f2) ((rd_T72 x152001 x4).f3))) else (none)) else (none)) else ((spec_l1In.f ((rd_T72 x152001 x4).f1) (-1) (wrap64 ((x152000.length : Int) - 1))).bind fun t159 => (spec_ObjectOk.j3 k x4 (!t159) x152000 x152001 x152002 ((rd_T72 x152001 x4).f0) ((rd_T72 x152001 x4).f1) ((rd_T72 x152001 x4).f2) ((rd_T72 x152001 x4).f3)))) else (spec_ObjectOk.j3 k x4 true x152000 x152001 x152002 ((rd_T72 x152001 x4).f0) ((rd_T72 x152001 x4).f1) ((rd_T72 x152001 x4).f2) ((rd_T72 x152001 x4).f3)))) else (none)) else (spec_ObjectOk.l2 k 0 x152000 x152001 x152002)
def spec_ObjectOk.j3 : Nat → Int → Bool → List (S71) → List (S72) → List (List (S124)) → ByteArray → Int → Int → Bool → Option (Bool)
  | 0, _, _, _, _, _, _, _, _, _ => none
  | k + 1, x4, x78, x152000, x152001, x152002, x156000, x156001, x156002, x156003 => if x78 = true then (some false) else (if x156001 ≥ 0 then (if 0 ≤ x156001 then (if x156001 < (x152000.length : Int) then ((spec_l1In.f x156002 0 (((rd_T71 x152000 x156001).f4).size : Int)).bind fun t161 => (if t161 = true then (if x156001 < 0 then ((spec_l1In.f x156002 (-2147483648) 2147483647).bind fun t162 => (if t162 = true then (spec_ObjectOk.l1 k (wrap64 (x4 + 1)) x152000 x152001 x152002) else (some false))) else (spec_ObjectOk.l1 k (wrap64 (x4 + 1)) x152000 x152001 x152002)) else (some false))) else (none)) else (none)) else (if x156001 < 0 then ((spec_l1In.f x156002 (-2147483648) 2147483647).bind fun t163 => (if t163 = true then (spec_ObjectOk.l1 k (wrap64 (x4 + 1)) x152000 x152001 x152002) else (some false))) else (spec_ObjectOk.l1 k (wrap64 (x4 + 1)) x152000 x152001 x152002)))
def spec_ObjectOk.l2 : Nat → Int → List (S71) → List (S72) → List (List (S124)) → Option (Bool)
  | 0, _, _, _, _ => none
  | k + 1, x6, x152000, x152001, x152002 => if x6 < (x152002.length : Int) then (if 0 ≤ x6 then ((spec_ExprOk.f k (rd_L10 x152002 x6)).bind fun t165 => (if t165 = true then (spec_ObjectOk.l2 k (wrap64 (x6 + 1)) x152000 x152001 x152002) else (some false))) else (none)) else (some true)
end
def spec_ObjectOk.f (k : Nat) (l0_0 : List (S71)) (l0_1 : List (S72)) (l0_2 : List (List (S124))) : Option (Bool) := if (l0_0.length : Int) > 12 then (spec_ObjectOk.j0 k true l0_0 l0_1 l0_2) else (if (l0_1.length : Int) > 200 then (spec_ObjectOk.j0 k true l0_0 l0_1 l0_2) else (spec_ObjectOk.j0 k (decide ((l0_2.length : Int) > 12)) l0_0 l0_1 l0_2))
theorem spec_ObjectOk.mono_l : ∀ k, (∀ y0 y1 y2 y3, LeO (spec_ObjectOk.j0 k y0 y1 y2 y3) (spec_ObjectOk.j0 (k + 1) y0 y1 y2 y3)) ∧ (∀ y0 y1 y2 y3, LeO (spec_ObjectOk.l0 k y0 y1 y2 y3) (spec_ObjectOk.l0 (k + 1) y0 y1 y2 y3)) ∧ (∀ y0 y1 y2 y3, LeO (spec_ObjectOk.l1 k y0 y1 y2 y3) (spec_ObjectOk.l1 (k + 1) y0 y1 y2 y3)) ∧ (∀ y0 y1 y2 y3 y4 y5 y6 y7 y8, LeO (spec_ObjectOk.j3 k y0 y1 y2 y3 y4 y5 y6 y7 y8) (spec_ObjectOk.j3 (k + 1) y0 y1 y2 y3 y4 y5 y6 y7 y8)) ∧ (∀ y0 y1 y2 y3, LeO (spec_ObjectOk.l2 k y0 y1 y2 y3) (spec_ObjectOk.l2 (k + 1) y0 y1 y2 y3))
  | 0 => ⟨fun _ _ _ _ r h => by simp [spec_ObjectOk.j0] at h, fun _ _ _ _ r h => by simp [spec_ObjectOk.l0] at h, fun _ _ _ _ r h => by simp [spec_ObjectOk.l1] at h, fun _ _ _ _ _ _ _ _ _ r h => by simp [spec_ObjectOk.j3] at h, fun _ _ _ _ r h => by simp [spec_ObjectOk.l2] at h⟩
  | k + 1 => by
    obtain ⟨ih0, ih1, ih2, ih3, ih4⟩ := spec_ObjectOk.mono_l k
    refine ⟨?_, ?_, ?_, ?_, ?_⟩
    · intro y0 y1 y2 y3
      unfold spec_ObjectOk.j0
      repeat' with_reducible first | exact ih0 _ _ _ _ | exact ih1 _ _ _ _ | exact ih2 _ _ _ _ | exact ih3 _ _ _ _ _ _ _ _ _ | exact ih4 _ _ _ _ | exact spec_ExprOk.mono _ _ | exact spec_NameOk.mono _ _ | exact spec_SectionOk.mono _ _ _ _ _ _ _ | exact LeO.refl _ | exact LeO.none _ | refine LeO.ite ?_ ?_ | refine LeO.bind ?_ (fun _ => ?_)
    · intro y0 y1 y2 y3
      unfold spec_ObjectOk.l0
      repeat' with_reducible first | exact ih0 _ _ _ _ | exact ih1 _ _ _ _ | exact ih2 _ _ _ _ | exact ih3 _ _ _ _ _ _ _ _ _ | exact ih4 _ _ _ _ | exact spec_ExprOk.mono _ _ | exact spec_NameOk.mono _ _ | exact spec_SectionOk.mono _ _ _ _ _ _ _ | exact LeO.refl _ | exact LeO.none _ | refine LeO.ite ?_ ?_ | refine LeO.bind ?_ (fun _ => ?_)
    · intro y0 y1 y2 y3
      unfold spec_ObjectOk.l1
      repeat' with_reducible first | exact ih0 _ _ _ _ | exact ih1 _ _ _ _ | exact ih2 _ _ _ _ | exact ih3 _ _ _ _ _ _ _ _ _ | exact ih4 _ _ _ _ | exact spec_ExprOk.mono _ _ | exact spec_NameOk.mono _ _ | exact spec_SectionOk.mono _ _ _ _ _ _ _ | exact LeO.refl _ | exact LeO.none _ | refine LeO.ite ?_ ?_ | refine LeO.bind ?_ (fun _ => ?_)
    · intro y0 y1 y2 y3 y4 y5 y6 y7 y8
      unfold spec_ObjectOk.j3
      repeat' with_reducible first | exact ih0 _ _ _ _ | exact ih1 _ _ _ _ | exact ih2 _ _ _ _ | exact ih3 _ _ _ _ _ _ _ _ _ | exact ih4 _ _ _ _ | exact spec_ExprOk.mono _ _ | exact spec_NameOk.mono _ _ | exact spec_SectionOk.mono _ _ _ _ _ _ _ | exact LeO.refl _ | exact LeO.none _ | refine LeO.ite ?_ ?_ | refine LeO.bind ?_ (fun _ => ?_)
    · intro y0 y1 y2 y3
      unfold spec_ObjectOk.l2
      repeat' with_reducible first | exact ih0 _ _ _ _ | exact ih1 _ _ _ _ | exact ih2 _ _ _ _ | exact ih3 _ _ _ _ _ _ _ _ _ | exact ih4 _ _ _ _ | exact spec_ExprOk.mono _ _ | exact spec_NameOk.mono _ _ | exact spec_SectionOk.mono _ _ _ _ _ _ _ | exact LeO.refl _ | exact LeO.none _ | refine LeO.ite ?_ ?_ | refine LeO.bind ?_ (fun _ => ?_)
theorem spec_ObjectOk.mono : ∀ a0 a1 a2 k, LeO (spec_ObjectOk.f k a0 a1 a2) (spec_ObjectOk.f (k + 1) a0 a1 a2) := by
  intro a0 a1 a2 k
  obtain ⟨ih0, ih1, ih2, ih3, ih4⟩ := spec_ObjectOk.mono_l k
  unfold spec_ObjectOk.f
  repeat' with_reducible first | exact ih0 _ _ _ _ | exact ih1 _ _ _ _ | exact ih2 _ _ _ _ | exact ih3 _ _ _ _ _ _ _ _ _ | exact ih4 _ _ _ _ | exact spec_ExprOk.mono _ _ | exact spec_NameOk.mono _ _ | exact spec_SectionOk.mono _ _ _ _ _ _ _ | exact LeO.refl _ | exact LeO.none _ | refine LeO.ite ?_ ?_ | refine LeO.bind ?_ (fun _ => ?_)
def spec_ObjectOk.T12 : Bool × List (List Nat × List Nat) := (true, [([], []), ([0], [0]), ([1], [1]), ([2], [2]), ([3, 2], [3]), ([4], [4]), ([5, 4], [4, 5]), ([6, 4, 4], [4, 6]), ([7], [7]), ([8, 7], [7, 8]), ([7], [7]), ([10, 7], [7, 10]), ([9, 11, 7], [7, 9, 11]), ([12, 7], [7, 12]), ([13, 7], [7, 13]), ([7], [7]), ([15, 7], [7, 15]), ([14, 16, 7], [7, 14, 16]), ([7, 17, 4], [4, 7, 17]), ([4, 18], [4, 18]), ([19, 7], [19]), ([20], [20]), ([21, 20], [20, 21]), ([20], [20]), ([23, 20], [20, 23]), ([24, 20], [20, 24]), ([25, 20], [20, 25]), ([22, 26, 20, 20], [20, 22, 26]), ([27, 20], [20, 27]), ([20, 28], [20, 28])])
def spec_ObjectOk.B12 : List Nat := [0, 1, 3, 7, 15, 31, 63, 127, 255, 511, 255, 1279, 4095, 8191, 16383, 255, 33023, 131071, 262143, 524287, 1048575, 2097151, 4194303, 2097151, 10485759, 27262975, 60817407, 134217727, 268435455, 536870911]
theorem spec_ObjectOk.tab12 : rtab .any (opsOf Tryz.f17 12) = spec_ObjectOk.T12 := by kernel_rfl
theorem spec_ObjectOk.bits12 : waitsOk spec_ObjectOk.T12.2 spec_ObjectOk.B12 = true := by kernel_rfl
def spec_ObjectOk.T14 : Bool × List (List Nat × List Nat) := (true, [([], []), ([0], [0]), ([1], [1]), ([2], [2]), ([3], [3]), ([4, 3], [3, 4]), ([3], [3]), ([6, 3], [3, 6]), ([3], [3]), ([8, 3], [3, 8]), ([7, 9, 3], [3, 7, 9]), ([10, 3], [3, 10]), ([11, 3], [3, 11]), ([12, 3], [3, 12]), ([5, 13, 3, 3], [3, 5, 13]), ([14, 3], [3, 14]), ([3, 15], [3, 15]), ([16, 14], [16]), ([17], [17]), ([18, 17], [17, 18]), ([19, 17], [17, 19]), ([20, 17, 17], [17, 20]), ([21], [21]), ([22, 21], [21, 22]), ([23, 21, 21], [21, 23]), ([24, 21], [21, 24]), ([21, 25, 17], [17, 21, 25]), ([17, 26], [17, 26])])
def spec_ObjectOk.B14 : List Nat := [0, 1, 3, 7, 15, 31, 15, 79, 15, 271, 975, 1999, 4047, 8143, 16383, 32767, 65535, 131071, 262143, 524287, 1048575, 2097151, 4194303, 8388607, 16777215, 33554431, 67108863, 134217727]
theorem spec_ObjectOk.tab14 : rtab .any (opsOf Tryz.f17 14) = spec_ObjectOk.T14 := by kernel_rfl
theorem spec_ObjectOk.bits14 : waitsOk spec_ObjectOk.T14.2 spec_ObjectOk.B14 = true := by kernel_rfl
set_option maxHeartbeats 8000000 in
set_option maxRecDepth 100000 in
theorem spec_ObjectOk.calls (k : Nat) (A0_0 : Option Addr) (c0_0 : Nat) (l0_0 : List (S71)) (A0_1 : Option Addr) (c0_1 : Nat) (l0_1 : List (S72)) (A0_2 : Option Addr) (c0_2 : Nat) (l0_2 : List (List (S124))) (r : Bool) (w : World) (hr0_0 : Kd.C k71 w A0_0 l0_0.length l0_0) (hc0_0 : l0_0.length ≤ c0_0) (hr0_1 : Kd.C k72 w A0_1 l0_1.length l0_1) (hc0_1 : l0_1.length ≤ c0_1) (hr0_2 : Kd.C (Kd.slice 124 k124) w A0_2 l0_2.length l0_2) (hc0_2 : l0_2.length ≤ c0_2) (h : spec_ObjectOk.f k l0_0 l0_1 l0_2 = some r) :
 Calls Tryz.prog 17 #[.agg #[.slice A0_0 l0_0.length c0_0, .slice A0_1 l0_1.length c0_1, .slice A0_2 l0_2.length c0_2]] w fun e w' => e = .returned (.bool r) ∧ Below w.heap.size w w' := by
 have hu33 := Tryz.underlying33
 have hu71 := Tryz.underlying71
 have hu72 := Tryz.underlying72
 have HR0_0 := Aside0.mk hr0_0
 have HC0_0 := Aside0.mk hc0_0
 clear hr0_0 hc0_0
 have HR0_1 := Aside0.mk hr0_1
 have HC0_1 := Aside0.mk hc0_1
 clear hr0_1 hc0_1
 have HR0_2 := Aside0.mk hr0_2
 have HC0_2 := Aside0.mk hc0_2
 clear hr0_2 hc0_2
 have HB := Aside0.mk (Below.refl w.heap.size w)
 have H : (if (l0_0.length : Int) > 12 then (spec_ObjectOk.j0 k true l0_0 l0_1 l0_2) else (if (l0_1.length : Int) > 200 then (spec_ObjectOk.j0 k true l0_0 l0_1 l0_2) else (spec_ObjectOk.j0 k (decide ((l0_2.length : Int) > 12)) l0_0 l0_1 l0_2))) = some r := h
 clear h
 have HC2 := Aside0.mk H
 clear H
 go_enter Tryz.func17, Tryz.ntmps17
 go_upto_region 1 with (first | ((with_reducible refine gate_dst (N := 1) rfl ?_); (try (refine gate_guard (by rfl) ?_; dsimp only)); refine zbx 1 #[.slice A0_0 l0_0.length c0_0, .slice A0_1 l0_1.length c0_1, .slice A0_2 l0_2.length c0_2] 33 ?_; intro gb151 hg w3 hbox hb; have BK151 := Aside0.mk (hbox); have GW151 := zs w hg; have GE151 := GW151; replace HB := zt w hb; clear hb hbox hg))
 (try simp only [Act.put, List.setIfInBounds_toArray, List.set_cons_zero, List.set_cons_succ])
 go_cut [22] (fun v22 wc => ∃ (kq : Nat) (x22_1 : Bool), v22 = .bool x22_1 ∧ Aside0 (spec_ObjectOk.j0 kq x22_1 l0_0 l0_1 l0_2 = some r) ∧ Aside0 (kq ≤ k) ∧ Aside0 (wc.heap[gb151]? = some (.cells #[(.slice A0_0 l0_0.length c0_0), (.slice A0_1 l0_1.length c0_1), (.slice A0_2 l0_2.length c0_2)] 33 (0, 0))) ∧ Aside0 (Below w.heap.size w wc))
 case first =>
  have H := HC2.out
  clear HC2
  by_cases c4 : (l0_0.length : Int) > 12
  ·rw [if_pos c4] at H
   have c4b0 : decide (12 < (l0_0.length : Int)) = true := decide_eq_true c4
   have c4b1 : decide (12 < l0_0.length) = true := decide_eq_true (by omega)
   clear c4
   (first | rw [c4b0] | (simp only [i64_w, i32_w]; rw [c4b0]) | skip)
   have H' := Aside0.mk H
   clear H
   obtain ⟨hcz5_0, hcz5_1, hcz5_2, hfz5_0, hfz5_1, hfz5_2⟩ := zF3 BK151
   go_wp2
   go_meet
   case rel => exact ⟨_, (true), (zE _), H', ⟨by first | omega | exact Nat.le_refl _⟩, ⟨zr BK151⟩, ⟨zb _⟩⟩
  ·rw [if_neg c4] at H
   have c4b0 : decide (12 < (l0_0.length : Int)) = false := decide_eq_false c4
   have c4b1 : decide (12 < l0_0.length) = false := decide_eq_false (by omega)
   clear c4
   (first | rw [c4b0] | (simp only [i64_w, i32_w]; rw [c4b0]) | skip)
   by_cases c6 : (l0_1.length : Int) > 200
   ·rw [if_pos c6] at H
    have c6b0 : decide (200 < (l0_1.length : Int)) = true := decide_eq_true c6
    have c6b1 : decide (200 < l0_1.length) = true := decide_eq_true (by omega)
    clear c6
    have H' := Aside0.mk H
    clear H
    obtain ⟨hcz7_0, hcz7_1, hcz7_2, hfz7_0, hfz7_1, hfz7_2⟩ := zF3 BK151
    go_wp2
    go_meet
    case rel => exact ⟨_, (true), (zE _), H', ⟨by first | omega | exact Nat.le_refl _⟩, ⟨zr BK151⟩, ⟨zb _⟩⟩
   ·rw [if_neg c6] at H
    have c6b0 : decide (200 < (l0_1.length : Int)) = false := decide_eq_false c6
    have c6b1 : decide (200 < l0_1.length) = false := decide_eq_false (by omega)
    clear c6
    have H' := Aside0.mk H
    clear H
    obtain ⟨hcz8_0, hcz8_1, hcz8_2, hfz8_0, hfz8_1, hfz8_2⟩ := zF3 BK151
    go_wp2
    go_meet
    case rel => exact ⟨_, (decide ((l0_2.length : Int) > 12)), (zE _), H', ⟨by first | omega | exact Nat.le_refl _⟩, ⟨zr BK151⟩, ⟨zb _⟩⟩
 case rest =>
  clear HC2
  obtain ⟨kq, x22_1, rfl, HA, HJ1, BK151, HB⟩ := hcut
  cases kq with
  | zero => exact absurd HA.out (by simp [spec_ObjectOk.j0])
  | succ kj1 =>
   have H := HA.out
   clear HA
   simp only [spec_ObjectOk.j0] at H
   by_cases c9 : x22_1 = true
   ·subst c9
    rw [if_pos rfl] at H
    obtain rfl := Option.some.inj H
    go_wp2
    go_ret
    exact ⟨ze _, zb _⟩
   ·replace c9 := Bool.eq_false_iff.mpr c9
    subst c9
    rw [if_neg (show ¬ (false = true) by decide)] at H
    have H' := Aside0.mk H
    clear H
    go_wp2
    go_loopg [3] kj1 (fun kq v3 w' => ∃ (x3_2 : Int), v3 = .int .i64 x3_2 ∧ Aside0 (spec_ObjectOk.l0 kq x3_2 l0_0 l0_1 l0_2 = some r) ∧ Aside0 (kq ≤ kj1) ∧ Aside0 (w'.heap[gb151]? = some (.cells #[(.slice A0_0 l0_0.length c0_0), (.slice A0_1 l0_1.length c0_1), (.slice A0_2 l0_2.length c0_2)] 33 (0, 0))) ∧ Aside0 (Below w.heap.size w w'))
    case atStart => exact ⟨(0), (zE _), H', ⟨Nat.le_refl _⟩, ⟨zr BK151⟩, ⟨zb _⟩⟩
    case round =>
     clear H'
     obtain ⟨x3_2, rfl, HA, HK2, BK151, HB⟩ := hrel
     cases gk with
     | zero => exact absurd HA.out (by simp [spec_ObjectOk.l0])
     | succ k2 =>
      have H := HA.out
      clear HA
      simp only [spec_ObjectOk.l0] at H
      by_cases c10 : x3_2 < (l0_0.length : Int)
      ·rw [if_pos c10] at H
       have c10b0 : decide (x3_2 < (l0_0.length : Int)) = true := decide_eq_true c10
       clear c10
       by_cases c11 : 0 ≤ x3_2
       ·rw [if_pos c11] at H
        have c11b0 : decide (0 ≤ x3_2) = true := decide_eq_true c11
        clear c11
        obtain ⟨t153, A120, H⟩ := Option.bind_eq_some_iff.mp H
        have A12 := Aside0.mk A120
        clear A120
        by_cases c13 : t153 = true
        ·subst c13
         rw [if_pos rfl] at H
         have H' := Aside0.mk H
         clear H
         obtain ⟨hcz14_0, hcz14_1, hcz14_2, hfz14_0, hfz14_1, hfz14_2⟩ := zF3 BK151
         have p152 : 0 ≤ (x3_2 : Int) := of_decide_eq_true (za _)
         have q152 : x3_2 < (l0_0.length : Int) := of_decide_eq_true (za _)
         obtain ⟨ad152, A152_5, c152_5, e152, hx152_0, hx152_1, hx152_2, hx152_3, hx152_4, hx152_5, hl152_5, hi152_5⟩ := at_T71 HR0_0.out x3_2 p152 q152
         cases e152
         replace hx152_0 := zx HB hx152_0
         replace hx152_1 := zx HB hx152_1
         replace hx152_2 := zx HB hx152_2
         replace hx152_3 := zx HB hx152_3
         replace hx152_4 := zx HB hx152_4
         replace hx152_5 := zx HB hx152_5
         have HR152_5 := Aside0.mk hi152_5
         have HC152_5 := Aside0.mk hl152_5
         clear hi152_5 hl152_5
         replace p152 := eq_true p152
         replace q152 := eq_true q152
         go_wp2_with (first | ((with_reducible refine gate_callee (f := 40) rfl ?_); refine zc (some 35) Tryz.func40 #[.agg #[.string ((rd_T71 l0_0 x3_2).f0), .int .i64 ((rd_T71 l0_0 x3_2).f1), .int .i64 ((rd_T71 l0_0 x3_2).f2), .int .i64 ((rd_T71 l0_0 x3_2).f3), .string ((rd_T71 l0_0 x3_2).f4), .slice A152_5 ((rd_T71 l0_0 x3_2).f5).length c152_5]] ?_; (with_reducible refine (spec_SectionOk.calls k2 ((rd_T71 l0_0 x3_2).f0) ((rd_T71 l0_0 x3_2).f1) ((rd_T71 l0_0 x3_2).f2) ((rd_T71 l0_0 x3_2).f3) ((rd_T71 l0_0 x3_2).f4) _ _ ((rd_T71 l0_0 x3_2).f5) true _ ?side1 ?side2 A12.out).mono ?_); (case side1 => repeat (first | exact (Kd.C_below HR152_5.out HB.out) | (with_reducible refine Kd.C_alloc ?_ _) | (with_reducible refine Kd.C_drewN ?_ _) | (with_reducible refine Kd.C_drew ?_))); (case side2 => exact HC152_5.out); rintro e w15 ⟨rfl, hb⟩; refine ⟨_, rfl, ?_⟩; replace BK151 := zk BK151 hb; replace HB := zt w hb; (try clear hb); (try clear hb2); (try clear hk); (try clear hi)))
         go_roundg k2
         case measure => have := HJ1.out; have := HK2.out; omega
         case rel => exact ⟨(wrap64 (x3_2 + 1)), (zE _), H', ⟨by have := HJ1.out; have := HK2.out; omega⟩, ⟨zr BK151⟩, ⟨zb _⟩⟩
        ·replace c13 := Bool.eq_false_iff.mpr c13
         subst c13
         rw [if_neg (show ¬ (false = true) by decide)] at H
         obtain rfl := Option.some.inj H
         obtain ⟨hcz16_0, hcz16_1, hcz16_2, hfz16_0, hfz16_1, hfz16_2⟩ := zF3 BK151
         have p152 : 0 ≤ (x3_2 : Int) := of_decide_eq_true (za _)
         have q152 : x3_2 < (l0_0.length : Int) := of_decide_eq_true (za _)
         obtain ⟨ad152, A152_5, c152_5, e152, hx152_0, hx152_1, hx152_2, hx152_3, hx152_4, hx152_5, hl152_5, hi152_5⟩ := at_T71 HR0_0.out x3_2 p152 q152
         cases e152
         replace hx152_0 := zx HB hx152_0
         replace hx152_1 := zx HB hx152_1
         replace hx152_2 := zx HB hx152_2
         replace hx152_3 := zx HB hx152_3
         replace hx152_4 := zx HB hx152_4
         replace hx152_5 := zx HB hx152_5
         have HR152_5 := Aside0.mk hi152_5
         have HC152_5 := Aside0.mk hl152_5
         clear hi152_5 hl152_5
         replace p152 := eq_true p152
         replace q152 := eq_true q152
         go_wp2_with (first | ((with_reducible refine gate_callee (f := 40) rfl ?_); refine zc (some 35) Tryz.func40 #[.agg #[.string ((rd_T71 l0_0 x3_2).f0), .int .i64 ((rd_T71 l0_0 x3_2).f1), .int .i64 ((rd_T71 l0_0 x3_2).f2), .int .i64 ((rd_T71 l0_0 x3_2).f3), .string ((rd_T71 l0_0 x3_2).f4), .slice A152_5 ((rd_T71 l0_0 x3_2).f5).length c152_5]] ?_; (with_reducible refine (spec_SectionOk.calls k2 ((rd_T71 l0_0 x3_2).f0) ((rd_T71 l0_0 x3_2).f1) ((rd_T71 l0_0 x3_2).f2) ((rd_T71 l0_0 x3_2).f3) ((rd_T71 l0_0 x3_2).f4) _ _ ((rd_T71 l0_0 x3_2).f5) false _ ?side1 ?side2 A12.out).mono ?_); (case side1 => repeat (first | exact (Kd.C_below HR152_5.out HB.out) | (with_reducible refine Kd.C_alloc ?_ _) | (with_reducible refine Kd.C_drewN ?_ _) | (with_reducible refine Kd.C_drew ?_))); (case side2 => exact HC152_5.out); rintro e w17 ⟨rfl, hb⟩; refine ⟨_, rfl, ?_⟩; replace BK151 := zk BK151 hb; replace HB := zt w hb; (try clear hb); (try clear hb2); (try clear hk); (try clear hi)))
         go_ret
         exact ⟨ze _, zb _⟩
       ·rw [if_neg c11] at H
        exact absurd H (by simp)
      ·rw [if_neg c10] at H
       have c10b0 : decide (x3_2 < (l0_0.length : Int)) = false := decide_eq_false c10
       clear c10
       have H' := Aside0.mk H
       clear H
       obtain ⟨hcz18_0, hcz18_1, hcz18_2, hfz18_0, hfz18_1, hfz18_2⟩ := zF3 BK151
       go_wp2
       go_loopg [4] k2 (fun kq v4 w' => ∃ (x4_3 : Int), v4 = .int .i64 x4_3 ∧ Aside0 (spec_ObjectOk.l1 kq x4_3 l0_0 l0_1 l0_2 = some r) ∧ Aside0 (kq ≤ k2) ∧ Aside0 (w'.heap[gb151]? = some (.cells #[(.slice A0_0 l0_0.length c0_0), (.slice A0_1 l0_1.length c0_1), (.slice A0_2 l0_2.length c0_2)] 33 (0, 0))) ∧ Aside0 (Below w.heap.size w w'))
       case atStart => exact ⟨(0), (zE _), H', ⟨Nat.le_refl _⟩, ⟨zr BK151⟩, ⟨zb _⟩⟩
       case round =>
        clear H'
        obtain ⟨x4_3, rfl, HA, HK3, BK151, HB⟩ := hrel
        cases gk with
        | zero => exact absurd HA.out (by simp [spec_ObjectOk.l1])
        | succ k3 =>
         have H := HA.out
         clear HA
         simp only [spec_ObjectOk.l1] at H
         by_cases c19 : x4_3 < (l0_1.length : Int)
         ·rw [if_pos c19] at H
          have c19b0 : decide (x4_3 < (l0_1.length : Int)) = true := decide_eq_true c19
          clear c19
          by_cases c20 : 0 ≤ x4_3
          ·rw [if_pos c20] at H
           have c20b0 : decide (0 ≤ x4_3) = true := decide_eq_true c20
           clear c20
           have HC21 := Aside0.mk H
           clear H
           obtain ⟨hcz22_0, hcz22_1, hcz22_2, hfz22_0, hfz22_1, hfz22_2⟩ := zF3 BK151
           have p154 : 0 ≤ (x4_3 : Int) := of_decide_eq_true (za _)
           have q154 : x4_3 < (l0_1.length : Int) := of_decide_eq_true (za _)
           obtain ⟨ad154, e154, hx154_0, hx154_1, hx154_2, hx154_3⟩ := at_T72 HR0_1.out x4_3 p154 q154
           cases e154
           replace hx154_0 := zx HB hx154_0
           replace hx154_1 := zx HB hx154_1
           replace hx154_2 := zx HB hx154_2
           replace hx154_3 := zx HB hx154_3
           replace p154 := eq_true p154
           replace q154 := eq_true q154
           go_upto_region 12 with (first | ((with_reducible refine gate_dst (N := 5) rfl ?_); (try (refine gate_guard (by rfl) ?_; dsimp only)); refine zbx 5 #[.string (⟨#[]⟩ : ByteArray), .int .i64 0, .int .i64 0, .bool false] 72 ?_; intro gb155 hg w23 hbox hb; have BK155 := Aside0.mk (hbox); have GW155 := zs w hg; have GE155 := GW155; have NB151_155 := zlt BK151 hg; have NB155_151 := zgt (zlt BK151 hg); replace BK151 := zk BK151 hb; replace HB := zt w hb; clear hb hbox hg; have hnb24 := NB155_151.out; have hnc24 := NB151_155.out; have hcz25_0 := zc0 BK155; have hcz25_1 := zc1 BK155; have hcz25_2 := zc2 BK155; have hcz25_3 := zc3 BK155; have hfz25_0 := blk_frozen BK155.out 0; have hfz25_1 := blk_frozen BK155.out 1; have hfz25_2 := blk_frozen BK155.out 2; have hfz25_3 := blk_frozen BK155.out 3))
           (try simp only [Act.put, List.setIfInBounds_toArray, List.set_cons_zero, List.set_cons_succ])
           go_cut [78] (fun v78 wc => ∃ (kq : Nat) (x78_20 : Bool), v78 = .bool x78_20 ∧ Aside0 (spec_ObjectOk.j3 kq x4_3 x78_20 l0_0 l0_1 l0_2 ((rd_T72 l0_1 x4_3).f0) ((rd_T72 l0_1 x4_3).f1) ((rd_T72 l0_1 x4_3).f2) ((rd_T72 l0_1 x4_3).f3) = some r) ∧ Aside0 (kq ≤ k3) ∧ Aside0 (wc.heap[gb151]? = some (.cells #[(.slice A0_0 l0_0.length c0_0), (.slice (some ad154) l0_1.length c0_1), (.slice A0_2 l0_2.length c0_2)] 33 (0, 0))) ∧ Aside0 (wc.heap[gb155]? = some (.cells #[.string ((rd_T72 l0_1 x4_3).f0), .int .i64 ((rd_T72 l0_1 x4_3).f1), .int .i64 ((rd_T72 l0_1 x4_3).f2), .bool ((rd_T72 l0_1 x4_3).f3)] 72 (0, 0))) ∧ Aside0 (Below w.heap.size w wc))
           case first =>
            have H := HC21.out
            clear HC21
            obtain ⟨t156, A260, H⟩ := Option.bind_eq_some_iff.mp H
            have A26 := Aside0.mk A260
            clear A260
            by_cases c27 : t156 = true
            ·subst c27
             rw [if_pos rfl] at H
             by_cases c28 : x4_3 > 0
             ·rw [if_pos c28] at H
              have c28b0 : decide (0 < x4_3) = true := decide_eq_true c28
              clear c28
              (first | rw [c28b0] | (simp only [i64_w, i32_w]; rw [c28b0]) | skip)
              obtain ⟨ji29, hji29⟩ : ∃ j_ : Int, (wrap64 (x4_3 - 1)) = j_ := ⟨_, rfl⟩
              replace H : (if 0 ≤ (ji29) then (if (ji29) < (l0_1.length : Int) then (if ((Op.bytesLess (((rd_T72 l0_1 (ji29)).f0).toList) (((rd_T72 l0_1 x4_3).f0).toList)) = true) then ((spec_l1In.f ((rd_T72 l0_1 x4_3).f1) (-1) (wrap64 ((l0_0.length : Int) - 1))).bind fun t158 => (spec_ObjectOk.j3 k3 x4_3 (!t158) l0_0 l0_1 l0_2 ((rd_T72 l0_1 x4_3).f0) ((rd_T72 l0_1 x4_3).f1) ((rd_T72 l0_1 x4_3).f2) ((rd_T72 l0_1 x4_3).f3))) else (spec_ObjectOk.j3 k3 x4_3 true l0_0 l0_1 l0_2 ((rd_T72 l0_1 x4_3).f0) ((rd_T72 l0_1 x4_3).f1) ((rd_T72 l0_1 x4_3).f2) ((rd_T72 l0_1 x4_3).f3))) else (none)) else (none)) = some r := by first | (rw [hji29] at H; exact H) | (simp only [hji29] at H ⊢; exact H)
              (try rw [hji29] at A26)
              have hji29w : (IntKind.i64.wrap (x4_3 - 1)) = ji29 := (i64_w _).trans hji29
              by_cases c30 : 0 ≤ (ji29)
              ·rw [if_pos c30] at H
               have c30b0 : decide (0 ≤ (ji29)) = true := decide_eq_true c30
               clear c30
               by_cases c31 : (ji29) < (l0_1.length : Int)
               ·rw [if_pos c31] at H
                have c31b0 : decide ((ji29) < (l0_1.length : Int)) = true := decide_eq_true c31
                clear c31
                by_cases c32 : ((Op.bytesLess (((rd_T72 l0_1 (ji29)).f0).toList) (((rd_T72 l0_1 x4_3).f0).toList)) = true)
                ·rw [if_pos c32] at H
                 have c32b0 : (Op.bytesLess (((rd_T72 l0_1 (ji29)).f0).toList) (((rd_T72 l0_1 x4_3).f0).toList)) = true := c32
                 have hgeq_ : ∀ W_ : World, (binOp BinOp.geq 9 (.string ((rd_T72 l0_1 (ji29)).f0)) (.string ((rd_T72 l0_1 x4_3).f0))).run Tryz.prog W_ = .ok (.bool (!true)) W_ := fun W_ => by rw [spec_SectionOk.geqS, c32b0]
                 clear c32
                 obtain ⟨t158, A330, H⟩ := Option.bind_eq_some_iff.mp H
                 have A33 := Aside0.mk A330
                 clear A330
                 have H' := Aside0.mk H
                 clear H
                 try go_wp2
                 have n0_ : Aside0 (((((w23.setCell ⟨gb155, 0, none⟩ (.string ((rd_T72 l0_1 x4_3).f0))).setCell ⟨gb155, 1, none⟩ (.int .i64 ((rd_T72 l0_1 x4_3).f1))).setCell ⟨gb155, 2, none⟩ (.int .i64 ((rd_T72 l0_1 x4_3).f2))).setCell ⟨gb155, 3, none⟩ (.bool ((rd_T72 l0_1 x4_3).f3))).heap[gb151]? = some (.cells #[.slice A0_0 l0_0.length c0_0, .slice (some ad154) l0_1.length c0_1, .slice A0_2 l0_2.length c0_2] 33 (0, 0))) := ⟨zw _⟩
                 have n1_ : Aside0 (((((w23.setCell ⟨gb155, 0, none⟩ (.string ((rd_T72 l0_1 x4_3).f0))).setCell ⟨gb155, 1, none⟩ (.int .i64 ((rd_T72 l0_1 x4_3).f1))).setCell ⟨gb155, 2, none⟩ (.int .i64 ((rd_T72 l0_1 x4_3).f2))).setCell ⟨gb155, 3, none⟩ (.bool ((rd_T72 l0_1 x4_3).f3))).heap[gb155]? = some (.cells #[.string ((rd_T72 l0_1 x4_3).f0), .int .i64 ((rd_T72 l0_1 x4_3).f1), .int .i64 ((rd_T72 l0_1 x4_3).f2), .bool ((rd_T72 l0_1 x4_3).f3)] 72 (0, 0))) := ⟨by (with_reducible repeat (first | refine blk_drewN ?_ _ | refine blk_drew ?_ | refine blk_alloc ?_ _)); refine blk_put (cs := #[.string ((rd_T72 l0_1 x4_3).f0), .int .i64 ((rd_T72 l0_1 x4_3).f1), .int .i64 ((rd_T72 l0_1 x4_3).f2), .bool false]) ?_ 3 _ rfl; (with_reducible repeat (first | refine blk_drewN ?_ _ | refine blk_drew ?_ | refine blk_alloc ?_ _)); refine blk_put (cs := #[.string ((rd_T72 l0_1 x4_3).f0), .int .i64 ((rd_T72 l0_1 x4_3).f1), .int .i64 0, .bool false]) ?_ 2 _ rfl; (with_reducible repeat (first | refine blk_drewN ?_ _ | refine blk_drew ?_ | refine blk_alloc ?_ _)); refine blk_put (cs := #[.string ((rd_T72 l0_1 x4_3).f0), .int .i64 0, .int .i64 0, .bool false]) ?_ 1 _ rfl; (with_reducible repeat (first | refine blk_drewN ?_ _ | refine blk_drew ?_ | refine blk_alloc ?_ _)); refine blk_put (cs := #[.string (⟨#[]⟩ : ByteArray), .int .i64 0, .int .i64 0, .bool false]) ?_ 0 _ rfl; (with_reducible repeat (first | refine blk_drewN ?_ _ | refine blk_drew ?_ | refine blk_alloc ?_ _)); exact BK155.out⟩
                 have n2_ : Aside0 (Below w.heap.size w ((((w23.setCell ⟨gb155, 0, none⟩ (.string ((rd_T72 l0_1 x4_3).f0))).setCell ⟨gb155, 1, none⟩ (.int .i64 ((rd_T72 l0_1 x4_3).f1))).setCell ⟨gb155, 2, none⟩ (.int .i64 ((rd_T72 l0_1 x4_3).f2))).setCell ⟨gb155, 3, none⟩ (.bool ((rd_T72 l0_1 x4_3).f3)))) := ⟨zb _⟩
                 (try clear BK151)
                 (try clear BK155)
                 (try clear HB)
                 generalize ((((w23.setCell ⟨gb155, 0, none⟩ (.string ((rd_T72 l0_1 x4_3).f0))).setCell ⟨gb155, 1, none⟩ (.int .i64 ((rd_T72 l0_1 x4_3).f1))).setCell ⟨gb155, 2, none⟩ (.int .i64 ((rd_T72 l0_1 x4_3).f2))).setCell ⟨gb155, 3, none⟩ (.bool ((rd_T72 l0_1 x4_3).f3))) = w34 at n0_ n1_ n2_ ⊢
                 have BK151 := n0_
                 have BK155 := n1_
                 have HB := n2_
                 clear n0_ n1_ n2_
                 have n0_ := Aside0.mk (blk_drew BK151.out)
                 have n1_ := Aside0.mk (blk_drew BK155.out)
                 have n2_ := Aside0.mk (below_drew1 HB.out)
                 clear BK151
                 clear BK155
                 clear HB
                 have BK151 := n0_
                 have BK155 := n1_
                 have HB := n2_
                 clear n0_ n1_ n2_
                 have p157 : 0 ≤ ((ji29) : Int) := of_decide_eq_true (za _)
                 have q157 : (ji29) < (l0_1.length : Int) := of_decide_eq_true (za _)
                 obtain ⟨ad157, e157, hx157_0, hx157_1, hx157_2, hx157_3⟩ := at_T72 HR0_1.out (ji29) p157 q157
                 have hw157_3 := hx157_3
                 have hw157_2 := hx157_2
                 have hw157_1 := hx157_1
                 have hw157_0 := hx157_0
                 obtain rfl : ad154 = ad157 := (by injection e157)
                 replace hx157_0 := zx HB hx157_0
                 replace hx157_1 := zx HB hx157_1
                 replace hx157_2 := zx HB hx157_2
                 replace hx157_3 := zx HB hx157_3
                 replace p157 := eq_true p157
                 replace q157 := eq_true q157
                 refine start_ (n := 30) (S := fun w' => w'.cell? ⟨gb155, 0, none⟩ = some (.string ((rd_T72 l0_1 x4_3).f0)) ∧ w'.cell? ⟨gb155, 1, none⟩ = some (.int .i64 ((rd_T72 l0_1 x4_3).f1)) ∧ w'.cell? ⟨gb155, 2, none⟩ = some (.int .i64 ((rd_T72 l0_1 x4_3).f2)) ∧ w'.cell? ⟨gb155, 3, none⟩ = some (.bool ((rd_T72 l0_1 x4_3).f3)) ∧ w'.cell? ⟨gb151, 0, none⟩ = some (.slice A0_0 l0_0.length c0_0) ∧ w'.cell? ⟨gb151, 1, none⟩ = some (.slice (some ad154) l0_1.length c0_1) ∧ w'.cell? ⟨gb151, 2, none⟩ = some (.slice A0_2 l0_2.length c0_2) ∧ w'.cell? (ad154.add (((ji29)).toNat * 4)) = some (.string ((rd_T72 l0_1 (ji29)).f0)) ∧ w'.cell? ⟨(ad154.add (((ji29)).toNat * 4)).block, (ad154.add (((ji29)).toNat * 4)).off + 1, none⟩ = some (.int .i64 ((rd_T72 l0_1 (ji29)).f1)) ∧ w'.cell? ⟨(ad154.add (((ji29)).toNat * 4)).block, (ad154.add (((ji29)).toNat * 4)).off + 2, none⟩ = some (.int .i64 ((rd_T72 l0_1 (ji29)).f2)) ∧ w'.cell? ⟨(ad154.add (((ji29)).toNat * 4)).block, (ad154.add (((ji29)).toNat * 4)).off + 3, none⟩ = some (.bool ((rd_T72 l0_1 (ji29)).f3))) (ds := []) (zm 30 0) (by kernel_rfl) rfl rfl ⟨zc0 BK155, zc1 BK155, zc2 BK155, zc3 BK155, zc0 BK151, zc1 BK151, zc2 BK151, (zx HB hw157_0), (zx HB hw157_1), (zx HB hw157_2), (zx HB hw157_3)⟩ (fun hHeld => ?_); refine with_tabW spec_ObjectOk.tab12 spec_ObjectOk.bits12 (fun HT_ HW_ => ?_)
                 generalize w34.drew = w35 at BK151 BK155 HB hx157_0 hx157_1 hx157_2 hx157_3 hHeld ⊢
                 refine zp 0 49 (zm 30 1) ?_
                 refine zy 1 50 (zm 30 3) hHeld ?_
                 refine one_ (i := 2) (N := some 51) (zm 30 7) rfl rfl (one_of HT_.out (by kernel_rfl)) (by decide) (fun K hK => ?_)
                 refine zi Tryz.func41 #[.string ((rd_T72 l0_1 x4_3).f0)] ?_
                 with_reducible refine (spec_NameOk.calls k3 ((rd_T72 l0_1 x4_3).f0) true _ A26.out).mono ?_
                 rintro e w' ⟨rfl, ⟨nd, rfl⟩⟩
                 refine ⟨_, rfl, ?_⟩
                 refine hK.out _ _ ⟨zc0 BK155, zc1 BK155, zc2 BK155, zc3 BK155, zc0 BK151, zc1 BK151, zc2 BK151, (zx HB hw157_0), (zx HB hw157_1), (zx HB hw157_2), (zx HB hw157_3)⟩ (fun hHeld => ?_)
                 clear hK K
                 refine zq ?_
                 refine zp 3 52 (zm 30 15) ?_
                 refine zp 4 53 (zm 30 31) ?_
                 refine zp 5 54 (zm 30 63) ?_
                 refine zp 6 55 (zm 30 127) ?_
                 refine zp 7 56 (zm 30 255) ?_
                 refine zp 8 57 (zm 30 511) ?_
                 refine zp 10 59 (zm 30 1535) ?_
                 refine zp 11 60 (zm 30 3583) ?_
                 refine zp 15 64 (zm 30 36351) ?_
                 refine zy 9 58 (zm 30 36863) hHeld ?_
                 refine zp 12 61 (zm 30 40959) ?_
                 refine zp 13 62 (zm 30 49151) ?_
                 refine zy 14 63 (zm 30 65535) hHeld ?_
                 refine zy 16 65 (zm 30 131071) hHeld ?_
                 refine zp 17 66 (zm 30 262143) ?_
                 refine zp 18 67 (zm 30 524287) ?_
                 refine zp 19 68 (zm 30 1048575) ?_
                 refine zp 20 69 (zm 30 2097151) ?_
                 refine zp 21 70 (zm 30 4194303) ?_
                 refine zp 23 72 (zm 30 12582911) ?_
                 refine zy 22 71 (zm 30 16777215) hHeld ?_
                 refine zy 24 73 (zm 30 33554431) hHeld ?_
                 refine zp 25 74 (zm 30 67108863) ?_
                 refine zp 26 75 (zm 30 134217727) ?_
                 refine one_ (i := 27) (N := some 76) (zm 30 268435455) rfl rfl (one_of HT_.out (by kernel_rfl)) (by decide) (fun K hK => ?_)
                 refine zi Tryz.func42 #[.int .i64 ((rd_T72 l0_1 x4_3).f1), .int .i64 (-1), .int .i64 (wrap64 ((l0_0.length : Int) - 1))] ?_
                 with_reducible refine (spec_l1In.calls ((rd_T72 l0_1 x4_3).f1) (-1) (wrap64 ((l0_0.length : Int) - 1)) t158 _ A33.out).mono ?_
                 rintro e w' ⟨rfl, ⟨nd, rfl⟩⟩
                 refine ⟨_, rfl, ?_⟩
                 refine hK.out _ _ ⟨zc0 BK155, zc1 BK155, zc2 BK155, zc3 BK155, zc0 BK151, zc1 BK151, zc2 BK151, (zx HB hw157_0), (zx HB hw157_1), (zx HB hw157_2), (zx HB hw157_3)⟩ (fun hHeld => ?_)
                 clear hK K
                 refine zq ?_
                 refine zp 28 77 (zm 30 536870911) ?_
                 refine zp 29 78 (zm 30 1073741823) ?_
                 refine done_ (done_of HT_.out (by kernel_rfl)) ?_
                 try go_wp2
                 go_meet
                 case rel => exact ⟨_, (!t158), (zE _), H', ⟨by have := HJ1.out; have := HK2.out; have := HK3.out; first | omega | exact Nat.le_refl _⟩, ⟨zr BK151⟩, ⟨zr BK155⟩, ⟨zb _⟩⟩
                ·rw [if_neg c32] at H
                 have c32b0 : (Op.bytesLess (((rd_T72 l0_1 (ji29)).f0).toList) (((rd_T72 l0_1 x4_3).f0).toList)) = false := by simpa using c32
                 have hgeq_ : ∀ W_ : World, (binOp BinOp.geq 9 (.string ((rd_T72 l0_1 (ji29)).f0)) (.string ((rd_T72 l0_1 x4_3).f0))).run Tryz.prog W_ = .ok (.bool (!false)) W_ := fun W_ => by rw [spec_SectionOk.geqS, c32b0]
                 clear c32
                 have H' := Aside0.mk H
                 clear H
                 try go_wp2
                 have n0_ : Aside0 (((((w23.setCell ⟨gb155, 0, none⟩ (.string ((rd_T72 l0_1 x4_3).f0))).setCell ⟨gb155, 1, none⟩ (.int .i64 ((rd_T72 l0_1 x4_3).f1))).setCell ⟨gb155, 2, none⟩ (.int .i64 ((rd_T72 l0_1 x4_3).f2))).setCell ⟨gb155, 3, none⟩ (.bool ((rd_T72 l0_1 x4_3).f3))).heap[gb151]? = some (.cells #[.slice A0_0 l0_0.length c0_0, .slice (some ad154) l0_1.length c0_1, .slice A0_2 l0_2.length c0_2] 33 (0, 0))) := ⟨zw _⟩
                 have n1_ : Aside0 (((((w23.setCell ⟨gb155, 0, none⟩ (.string ((rd_T72 l0_1 x4_3).f0))).setCell ⟨gb155, 1, none⟩ (.int .i64 ((rd_T72 l0_1 x4_3).f1))).setCell ⟨gb155, 2, none⟩ (.int .i64 ((rd_T72 l0_1 x4_3).f2))).setCell ⟨gb155, 3, none⟩ (.bool ((rd_T72 l0_1 x4_3).f3))).heap[gb155]? = some (.cells #[.string ((rd_T72 l0_1 x4_3).f0), .int .i64 ((rd_T72 l0_1 x4_3).f1), .int .i64 ((rd_T72 l0_1 x4_3).f2), .bool ((rd_T72 l0_1 x4_3).f3)] 72 (0, 0))) := ⟨by (with_reducible repeat (first | refine blk_drewN ?_ _ | refine blk_drew ?_ | refine blk_alloc ?_ _)); refine blk_put (cs := #[.string ((rd_T72 l0_1 x4_3).f0), .int .i64 ((rd_T72 l0_1 x4_3).f1), .int .i64 ((rd_T72 l0_1 x4_3).f2), .bool false]) ?_ 3 _ rfl; (with_reducible repeat (first | refine blk_drewN ?_ _ | refine blk_drew ?_ | refine blk_alloc ?_ _)); refine blk_put (cs := #[.string ((rd_T72 l0_1 x4_3).f0), .int .i64 ((rd_T72 l0_1 x4_3).f1), .int .i64 0, .bool false]) ?_ 2 _ rfl; (with_reducible repeat (first | refine blk_drewN ?_ _ | refine blk_drew ?_ | refine blk_alloc ?_ _)); refine blk_put (cs := #[.string ((rd_T72 l0_1 x4_3).f0), .int .i64 0, .int .i64 0, .bool false]) ?_ 1 _ rfl; (with_reducible repeat (first | refine blk_drewN ?_ _ | refine blk_drew ?_ | refine blk_alloc ?_ _)); refine blk_put (cs := #[.string (⟨#[]⟩ : ByteArray), .int .i64 0, .int .i64 0, .bool false]) ?_ 0 _ rfl; (with_reducible repeat (first | refine blk_drewN ?_ _ | refine blk_drew ?_ | refine blk_alloc ?_ _)); exact BK155.out⟩
                 have n2_ : Aside0 (Below w.heap.size w ((((w23.setCell ⟨gb155, 0, none⟩ (.string ((rd_T72 l0_1 x4_3).f0))).setCell ⟨gb155, 1, none⟩ (.int .i64 ((rd_T72 l0_1 x4_3).f1))).setCell ⟨gb155, 2, none⟩ (.int .i64 ((rd_T72 l0_1 x4_3).f2))).setCell ⟨gb155, 3, none⟩ (.bool ((rd_T72 l0_1 x4_3).f3)))) := ⟨zb _⟩
                 (try clear BK151)
                 (try clear BK155)
                 (try clear HB)
                 generalize ((((w23.setCell ⟨gb155, 0, none⟩ (.string ((rd_T72 l0_1 x4_3).f0))).setCell ⟨gb155, 1, none⟩ (.int .i64 ((rd_T72 l0_1 x4_3).f1))).setCell ⟨gb155, 2, none⟩ (.int .i64 ((rd_T72 l0_1 x4_3).f2))).setCell ⟨gb155, 3, none⟩ (.bool ((rd_T72 l0_1 x4_3).f3))) = w36 at n0_ n1_ n2_ ⊢
                 have BK151 := n0_
                 have BK155 := n1_
                 have HB := n2_
                 clear n0_ n1_ n2_
                 have n0_ := Aside0.mk (blk_drew BK151.out)
                 have n1_ := Aside0.mk (blk_drew BK155.out)
                 have n2_ := Aside0.mk (below_drew1 HB.out)
                 clear BK151
                 clear BK155
                 clear HB
                 have BK151 := n0_
                 have BK155 := n1_
                 have HB := n2_
                 clear n0_ n1_ n2_
                 have p157 : 0 ≤ ((ji29) : Int) := of_decide_eq_true (za _)
                 have q157 : (ji29) < (l0_1.length : Int) := of_decide_eq_true (za _)
                 obtain ⟨ad157, e157, hx157_0, hx157_1, hx157_2, hx157_3⟩ := at_T72 HR0_1.out (ji29) p157 q157
                 have hw157_3 := hx157_3
                 have hw157_2 := hx157_2
                 have hw157_1 := hx157_1
                 have hw157_0 := hx157_0
                 obtain rfl : ad154 = ad157 := (by injection e157)
                 replace hx157_0 := zx HB hx157_0
                 replace hx157_1 := zx HB hx157_1
                 replace hx157_2 := zx HB hx157_2
                 replace hx157_3 := zx HB hx157_3
                 replace p157 := eq_true p157
                 replace q157 := eq_true q157
                 refine start_ (n := 30) (S := fun w' => w'.cell? ⟨gb155, 0, none⟩ = some (.string ((rd_T72 l0_1 x4_3).f0)) ∧ w'.cell? ⟨gb155, 1, none⟩ = some (.int .i64 ((rd_T72 l0_1 x4_3).f1)) ∧ w'.cell? ⟨gb155, 2, none⟩ = some (.int .i64 ((rd_T72 l0_1 x4_3).f2)) ∧ w'.cell? ⟨gb155, 3, none⟩ = some (.bool ((rd_T72 l0_1 x4_3).f3)) ∧ w'.cell? ⟨gb151, 0, none⟩ = some (.slice A0_0 l0_0.length c0_0) ∧ w'.cell? ⟨gb151, 1, none⟩ = some (.slice (some ad154) l0_1.length c0_1) ∧ w'.cell? ⟨gb151, 2, none⟩ = some (.slice A0_2 l0_2.length c0_2) ∧ w'.cell? (ad154.add (((ji29)).toNat * 4)) = some (.string ((rd_T72 l0_1 (ji29)).f0)) ∧ w'.cell? ⟨(ad154.add (((ji29)).toNat * 4)).block, (ad154.add (((ji29)).toNat * 4)).off + 1, none⟩ = some (.int .i64 ((rd_T72 l0_1 (ji29)).f1)) ∧ w'.cell? ⟨(ad154.add (((ji29)).toNat * 4)).block, (ad154.add (((ji29)).toNat * 4)).off + 2, none⟩ = some (.int .i64 ((rd_T72 l0_1 (ji29)).f2)) ∧ w'.cell? ⟨(ad154.add (((ji29)).toNat * 4)).block, (ad154.add (((ji29)).toNat * 4)).off + 3, none⟩ = some (.bool ((rd_T72 l0_1 (ji29)).f3))) (ds := []) (zm 30 0) (by kernel_rfl) rfl rfl ⟨zc0 BK155, zc1 BK155, zc2 BK155, zc3 BK155, zc0 BK151, zc1 BK151, zc2 BK151, (zx HB hw157_0), (zx HB hw157_1), (zx HB hw157_2), (zx HB hw157_3)⟩ (fun hHeld => ?_); refine with_tabW spec_ObjectOk.tab12 spec_ObjectOk.bits12 (fun HT_ HW_ => ?_)
                 generalize w36.drew = w37 at BK151 BK155 HB hx157_0 hx157_1 hx157_2 hx157_3 hHeld ⊢
                 refine zp 0 49 (zm 30 1) ?_
                 refine zy 1 50 (zm 30 3) hHeld ?_
                 refine one_ (i := 2) (N := some 51) (zm 30 7) rfl rfl (one_of HT_.out (by kernel_rfl)) (by decide) (fun K hK => ?_)
                 refine zi Tryz.func41 #[.string ((rd_T72 l0_1 x4_3).f0)] ?_
                 with_reducible refine (spec_NameOk.calls k3 ((rd_T72 l0_1 x4_3).f0) true _ A26.out).mono ?_
                 rintro e w' ⟨rfl, ⟨nd, rfl⟩⟩
                 refine ⟨_, rfl, ?_⟩
                 refine hK.out _ _ ⟨zc0 BK155, zc1 BK155, zc2 BK155, zc3 BK155, zc0 BK151, zc1 BK151, zc2 BK151, (zx HB hw157_0), (zx HB hw157_1), (zx HB hw157_2), (zx HB hw157_3)⟩ (fun hHeld => ?_)
                 clear hK K
                 refine zq ?_
                 refine zp 3 52 (zm 30 15) ?_
                 refine zp 4 53 (zm 30 31) ?_
                 refine zp 5 54 (zm 30 63) ?_
                 refine zp 6 55 (zm 30 127) ?_
                 refine zp 7 56 (zm 30 255) ?_
                 refine zp 8 57 (zm 30 511) ?_
                 refine zp 10 59 (zm 30 1535) ?_
                 refine zp 11 60 (zm 30 3583) ?_
                 refine zp 15 64 (zm 30 36351) ?_
                 refine zy 9 58 (zm 30 36863) hHeld ?_
                 refine zp 12 61 (zm 30 40959) ?_
                 refine zp 13 62 (zm 30 49151) ?_
                 refine zy 14 63 (zm 30 65535) hHeld ?_
                 refine zy 16 65 (zm 30 131071) hHeld ?_
                 refine zp 17 66 (zm 30 262143) ?_
                 refine zp 18 67 (zm 30 524287) ?_
                 refine zp 19 68 (zm 30 1048575) ?_
                 refine zp 20 69 (zm 30 2097151) ?_
                 refine zu 21 70 (zm 30 4194303) ?_
                 refine zu 22 71 (zm 30 8388607) ?_
                 refine zu 23 72 (zm 30 16777215) ?_
                 refine zu 24 73 (zm 30 33554431) ?_
                 refine zu 25 74 (zm 30 67108863) ?_
                 refine zu 26 75 (zm 30 134217727) ?_
                 refine zu 27 76 (zm 30 268435455) ?_
                 refine zu 28 77 (zm 30 536870911) ?_
                 refine zp 29 78 (zm 30 1073741823) ?_
                 refine done_ (done_of HT_.out (by kernel_rfl)) ?_
                 try go_wp2
                 go_meet
                 case rel => exact ⟨_, (true), (zE _), H', ⟨by have := HJ1.out; have := HK2.out; have := HK3.out; first | omega | exact Nat.le_refl _⟩, ⟨zr BK151⟩, ⟨zr BK155⟩, ⟨zb _⟩⟩
               ·rw [if_neg c31] at H
                exact absurd H (by simp)
              ·rw [if_neg c30] at H
               exact absurd H (by simp)
             ·rw [if_neg c28] at H
              have c28b0 : decide (0 < x4_3) = false := decide_eq_false c28
              clear c28
              (first | rw [c28b0] | (simp only [i64_w, i32_w]; rw [c28b0]) | skip)
              obtain ⟨t159, A380, H⟩ := Option.bind_eq_some_iff.mp H
              have A38 := Aside0.mk A380
              clear A380
              have H' := Aside0.mk H
              clear H
              try go_wp2
              have n0_ : Aside0 (((((w23.setCell ⟨gb155, 0, none⟩ (.string ((rd_T72 l0_1 x4_3).f0))).setCell ⟨gb155, 1, none⟩ (.int .i64 ((rd_T72 l0_1 x4_3).f1))).setCell ⟨gb155, 2, none⟩ (.int .i64 ((rd_T72 l0_1 x4_3).f2))).setCell ⟨gb155, 3, none⟩ (.bool ((rd_T72 l0_1 x4_3).f3))).heap[gb151]? = some (.cells #[.slice A0_0 l0_0.length c0_0, .slice (some ad154) l0_1.length c0_1, .slice A0_2 l0_2.length c0_2] 33 (0, 0))) := ⟨zw _⟩
              have n1_ : Aside0 (((((w23.setCell ⟨gb155, 0, none⟩ (.string ((rd_T72 l0_1 x4_3).f0))).setCell ⟨gb155, 1, none⟩ (.int .i64 ((rd_T72 l0_1 x4_3).f1))).setCell ⟨gb155, 2, none⟩ (.int .i64 ((rd_T72 l0_1 x4_3).f2))).setCell ⟨gb155, 3, none⟩ (.bool ((rd_T72 l0_1 x4_3).f3))).heap[gb155]? = some (.cells #[.string ((rd_T72 l0_1 x4_3).f0), .int .i64 ((rd_T72 l0_1 x4_3).f1), .int .i64 ((rd_T72 l0_1 x4_3).f2), .bool ((rd_T72 l0_1 x4_3).f3)] 72 (0, 0))) := ⟨by (with_reducible repeat (first | refine blk_drewN ?_ _ | refine blk_drew ?_ | refine blk_alloc ?_ _)); refine blk_put (cs := #[.string ((rd_T72 l0_1 x4_3).f0), .int .i64 ((rd_T72 l0_1 x4_3).f1), .int .i64 ((rd_T72 l0_1 x4_3).f2), .bool false]) ?_ 3 _ rfl; (with_reducible repeat (first | refine blk_drewN ?_ _ | refine blk_drew ?_ | refine blk_alloc ?_ _)); refine blk_put (cs := #[.string ((rd_T72 l0_1 x4_3).f0), .int .i64 ((rd_T72 l0_1 x4_3).f1), .int .i64 0, .bool false]) ?_ 2 _ rfl; (with_reducible repeat (first | refine blk_drewN ?_ _ | refine blk_drew ?_ | refine blk_alloc ?_ _)); refine blk_put (cs := #[.string ((rd_T72 l0_1 x4_3).f0), .int .i64 0, .int .i64 0, .bool false]) ?_ 1 _ rfl; (with_reducible repeat (first | refine blk_drewN ?_ _ | refine blk_drew ?_ | refine blk_alloc ?_ _)); refine blk_put (cs := #[.string (⟨#[]⟩ : ByteArray), .int .i64 0, .int .i64 0, .bool false]) ?_ 0 _ rfl; (with_reducible repeat (first | refine blk_drewN ?_ _ | refine blk_drew ?_ | refine blk_alloc ?_ _)); exact BK155.out⟩
              have n2_ : Aside0 (Below w.heap.size w ((((w23.setCell ⟨gb155, 0, none⟩ (.string ((rd_T72 l0_1 x4_3).f0))).setCell ⟨gb155, 1, none⟩ (.int .i64 ((rd_T72 l0_1 x4_3).f1))).setCell ⟨gb155, 2, none⟩ (.int .i64 ((rd_T72 l0_1 x4_3).f2))).setCell ⟨gb155, 3, none⟩ (.bool ((rd_T72 l0_1 x4_3).f3)))) := ⟨zb _⟩
              (try clear BK151)
              (try clear BK155)
              (try clear HB)
              generalize ((((w23.setCell ⟨gb155, 0, none⟩ (.string ((rd_T72 l0_1 x4_3).f0))).setCell ⟨gb155, 1, none⟩ (.int .i64 ((rd_T72 l0_1 x4_3).f1))).setCell ⟨gb155, 2, none⟩ (.int .i64 ((rd_T72 l0_1 x4_3).f2))).setCell ⟨gb155, 3, none⟩ (.bool ((rd_T72 l0_1 x4_3).f3))) = w39 at n0_ n1_ n2_ ⊢
              have BK151 := n0_
              have BK155 := n1_
              have HB := n2_
              clear n0_ n1_ n2_
              have n0_ := Aside0.mk (blk_drew BK151.out)
              have n1_ := Aside0.mk (blk_drew BK155.out)
              have n2_ := Aside0.mk (below_drew1 HB.out)
              clear BK151
              clear BK155
              clear HB
              have BK151 := n0_
              have BK155 := n1_
              have HB := n2_
              clear n0_ n1_ n2_
              refine start_ (n := 30) (S := fun w' => w'.cell? ⟨gb155, 0, none⟩ = some (.string ((rd_T72 l0_1 x4_3).f0)) ∧ w'.cell? ⟨gb155, 1, none⟩ = some (.int .i64 ((rd_T72 l0_1 x4_3).f1)) ∧ w'.cell? ⟨gb155, 2, none⟩ = some (.int .i64 ((rd_T72 l0_1 x4_3).f2)) ∧ w'.cell? ⟨gb155, 3, none⟩ = some (.bool ((rd_T72 l0_1 x4_3).f3)) ∧ w'.cell? ⟨gb151, 0, none⟩ = some (.slice A0_0 l0_0.length c0_0) ∧ w'.cell? ⟨gb151, 1, none⟩ = some (.slice (some ad154) l0_1.length c0_1) ∧ w'.cell? ⟨gb151, 2, none⟩ = some (.slice A0_2 l0_2.length c0_2)) (ds := []) (zm 30 0) (by kernel_rfl) rfl rfl ⟨zc0 BK155, zc1 BK155, zc2 BK155, zc3 BK155, zc0 BK151, zc1 BK151, zc2 BK151⟩ (fun hHeld => ?_); refine with_tabW spec_ObjectOk.tab12 spec_ObjectOk.bits12 (fun HT_ HW_ => ?_)
              generalize w39.drew = w40 at BK151 BK155 HB hHeld ⊢
              refine zp 0 49 (zm 30 1) ?_
              refine zy 1 50 (zm 30 3) hHeld ?_
              refine one_ (i := 2) (N := some 51) (zm 30 7) rfl rfl (one_of HT_.out (by kernel_rfl)) (by decide) (fun K hK => ?_)
              refine zi Tryz.func41 #[.string ((rd_T72 l0_1 x4_3).f0)] ?_
              with_reducible refine (spec_NameOk.calls k3 ((rd_T72 l0_1 x4_3).f0) true _ A26.out).mono ?_
              rintro e w' ⟨rfl, ⟨nd, rfl⟩⟩
              refine ⟨_, rfl, ?_⟩
              refine hK.out _ _ ⟨zc0 BK155, zc1 BK155, zc2 BK155, zc3 BK155, zc0 BK151, zc1 BK151, zc2 BK151⟩ (fun hHeld => ?_)
              clear hK K
              refine zq ?_
              refine zp 3 52 (zm 30 15) ?_
              refine zp 4 53 (zm 30 31) ?_
              refine zp 5 54 (zm 30 63) ?_
              refine zp 6 55 (zm 30 127) ?_
              refine zp 7 56 (zm 30 255) ?_
              refine zu 8 57 (zm 30 511) ?_
              refine zu 9 58 (zm 30 1023) ?_
              refine zu 10 59 (zm 30 2047) ?_
              refine zu 11 60 (zm 30 4095) ?_
              refine zu 12 61 (zm 30 8191) ?_
              refine zu 13 62 (zm 30 16383) ?_
              refine zu 14 63 (zm 30 32767) ?_
              refine zu 15 64 (zm 30 65535) ?_
              refine zu 16 65 (zm 30 131071) ?_
              refine zu 17 66 (zm 30 262143) ?_
              refine zp 18 67 (zm 30 524287) ?_
              refine zp 19 68 (zm 30 1048575) ?_
              refine zp 20 69 (zm 30 2097151) ?_
              refine zp 21 70 (zm 30 4194303) ?_
              refine zp 23 72 (zm 30 12582911) ?_
              refine zy 22 71 (zm 30 16777215) hHeld ?_
              refine zy 24 73 (zm 30 33554431) hHeld ?_
              refine zp 25 74 (zm 30 67108863) ?_
              refine zp 26 75 (zm 30 134217727) ?_
              refine one_ (i := 27) (N := some 76) (zm 30 268435455) rfl rfl (one_of HT_.out (by kernel_rfl)) (by decide) (fun K hK => ?_)
              refine zi Tryz.func42 #[.int .i64 ((rd_T72 l0_1 x4_3).f1), .int .i64 (-1), .int .i64 (wrap64 ((l0_0.length : Int) - 1))] ?_
              with_reducible refine (spec_l1In.calls ((rd_T72 l0_1 x4_3).f1) (-1) (wrap64 ((l0_0.length : Int) - 1)) t159 _ A38.out).mono ?_
              rintro e w' ⟨rfl, ⟨nd, rfl⟩⟩
              refine ⟨_, rfl, ?_⟩
              refine hK.out _ _ ⟨zc0 BK155, zc1 BK155, zc2 BK155, zc3 BK155, zc0 BK151, zc1 BK151, zc2 BK151⟩ (fun hHeld => ?_)
              clear hK K
              refine zq ?_
              refine zp 28 77 (zm 30 536870911) ?_
              refine zp 29 78 (zm 30 1073741823) ?_
              refine done_ (done_of HT_.out (by kernel_rfl)) ?_
              try go_wp2
              go_meet
              case rel => exact ⟨_, (!t159), (zE _), H', ⟨by have := HJ1.out; have := HK2.out; have := HK3.out; first | omega | exact Nat.le_refl _⟩, ⟨zr BK151⟩, ⟨zr BK155⟩, ⟨zb _⟩⟩
            ·replace c27 := Bool.eq_false_iff.mpr c27
             subst c27
             rw [if_neg (show ¬ (false = true) by decide)] at H
             have H' := Aside0.mk H
             clear H
             try go_wp2
             have n0_ : Aside0 (((((w23.setCell ⟨gb155, 0, none⟩ (.string ((rd_T72 l0_1 x4_3).f0))).setCell ⟨gb155, 1, none⟩ (.int .i64 ((rd_T72 l0_1 x4_3).f1))).setCell ⟨gb155, 2, none⟩ (.int .i64 ((rd_T72 l0_1 x4_3).f2))).setCell ⟨gb155, 3, none⟩ (.bool ((rd_T72 l0_1 x4_3).f3))).heap[gb151]? = some (.cells #[.slice A0_0 l0_0.length c0_0, .slice (some ad154) l0_1.length c0_1, .slice A0_2 l0_2.length c0_2] 33 (0, 0))) := ⟨zw _⟩
             have n1_ : Aside0 (((((w23.setCell ⟨gb155, 0, none⟩ (.string ((rd_T72 l0_1 x4_3).f0))).setCell ⟨gb155, 1, none⟩ (.int .i64 ((rd_T72 l0_1 x4_3).f1))).setCell ⟨gb155, 2, none⟩ (.int .i64 ((rd_T72 l0_1 x4_3).f2))).setCell ⟨gb155, 3, none⟩ (.bool ((rd_T72 l0_1 x4_3).f3))).heap[gb155]? = some (.cells #[.string ((rd_T72 l0_1 x4_3).f0), .int .i64 ((rd_T72 l0_1 x4_3).f1), .int .i64 ((rd_T72 l0_1 x4_3).f2), .bool ((rd_T72 l0_1 x4_3).f3)] 72 (0, 0))) := ⟨by (with_reducible repeat (first | refine blk_drewN ?_ _ | refine blk_drew ?_ | refine blk_alloc ?_ _)); refine blk_put (cs := #[.string ((rd_T72 l0_1 x4_3).f0), .int .i64 ((rd_T72 l0_1 x4_3).f1), .int .i64 ((rd_T72 l0_1 x4_3).f2), .bool false]) ?_ 3 _ rfl; (with_reducible repeat (first | refine blk_drewN ?_ _ | refine blk_drew ?_ | refine blk_alloc ?_ _)); refine blk_put (cs := #[.string ((rd_T72 l0_1 x4_3).f0), .int .i64 ((rd_T72 l0_1 x4_3).f1), .int .i64 0, .bool false]) ?_ 2 _ rfl; (with_reducible repeat (first | refine blk_drewN ?_ _ | refine blk_drew ?_ | refine blk_alloc ?_ _)); refine blk_put (cs := #[.string ((rd_T72 l0_1 x4_3).f0), .int .i64 0, .int .i64 0, .bool false]) ?_ 1 _ rfl; (with_reducible repeat (first | refine blk_drewN ?_ _ | refine blk_drew ?_ | refine blk_alloc ?_ _)); refine blk_put (cs := #[.string (⟨#[]⟩ : ByteArray), .int .i64 0, .int .i64 0, .bool false]) ?_ 0 _ rfl; (with_reducible repeat (first | refine blk_drewN ?_ _ | refine blk_drew ?_ | refine blk_alloc ?_ _)); exact BK155.out⟩
             have n2_ : Aside0 (Below w.heap.size w ((((w23.setCell ⟨gb155, 0, none⟩ (.string ((rd_T72 l0_1 x4_3).f0))).setCell ⟨gb155, 1, none⟩ (.int .i64 ((rd_T72 l0_1 x4_3).f1))).setCell ⟨gb155, 2, none⟩ (.int .i64 ((rd_T72 l0_1 x4_3).f2))).setCell ⟨gb155, 3, none⟩ (.bool ((rd_T72 l0_1 x4_3).f3)))) := ⟨zb _⟩
             (try clear BK151)
             (try clear BK155)
             (try clear HB)
             generalize ((((w23.setCell ⟨gb155, 0, none⟩ (.string ((rd_T72 l0_1 x4_3).f0))).setCell ⟨gb155, 1, none⟩ (.int .i64 ((rd_T72 l0_1 x4_3).f1))).setCell ⟨gb155, 2, none⟩ (.int .i64 ((rd_T72 l0_1 x4_3).f2))).setCell ⟨gb155, 3, none⟩ (.bool ((rd_T72 l0_1 x4_3).f3))) = w41 at n0_ n1_ n2_ ⊢
             have BK151 := n0_
             have BK155 := n1_
             have HB := n2_
             clear n0_ n1_ n2_
             have n0_ := Aside0.mk (blk_drew BK151.out)
             have n1_ := Aside0.mk (blk_drew BK155.out)
             have n2_ := Aside0.mk (below_drew1 HB.out)
             clear BK151
             clear BK155
             clear HB
             have BK151 := n0_
             have BK155 := n1_
             have HB := n2_
             clear n0_ n1_ n2_
             refine start_ (n := 30) (S := fun w' => w'.cell? ⟨gb155, 0, none⟩ = some (.string ((rd_T72 l0_1 x4_3).f0)) ∧ w'.cell? ⟨gb155, 1, none⟩ = some (.int .i64 ((rd_T72 l0_1 x4_3).f1)) ∧ w'.cell? ⟨gb155, 2, none⟩ = some (.int .i64 ((rd_T72 l0_1 x4_3).f2)) ∧ w'.cell? ⟨gb155, 3, none⟩ = some (.bool ((rd_T72 l0_1 x4_3).f3))) (ds := []) (zm 30 0) (by kernel_rfl) rfl rfl ⟨zc0 BK155, zc1 BK155, zc2 BK155, zc3 BK155⟩ (fun hHeld => ?_); refine with_tabW spec_ObjectOk.tab12 spec_ObjectOk.bits12 (fun HT_ HW_ => ?_)
             generalize w41.drew = w42 at BK151 BK155 HB hHeld ⊢
             refine zp 0 49 (zm 30 1) ?_
             refine zy 1 50 (zm 30 3) hHeld ?_
             refine one_ (i := 2) (N := some 51) (zm 30 7) rfl rfl (one_of HT_.out (by kernel_rfl)) (by decide) (fun K hK => ?_)
             refine zi Tryz.func41 #[.string ((rd_T72 l0_1 x4_3).f0)] ?_
             with_reducible refine (spec_NameOk.calls k3 ((rd_T72 l0_1 x4_3).f0) false _ A26.out).mono ?_
             rintro e w' ⟨rfl, ⟨nd, rfl⟩⟩
             refine ⟨_, rfl, ?_⟩
             refine hK.out _ _ ⟨zc0 BK155, zc1 BK155, zc2 BK155, zc3 BK155⟩ (fun hHeld => ?_)
             clear hK K
             refine zq ?_
             refine zp 3 52 (zm 30 15) ?_
             refine zp 4 53 (zm 30 31) ?_
             refine zu 5 54 (zm 30 63) ?_
             refine zu 6 55 (zm 30 127) ?_
             refine zu 7 56 (zm 30 255) ?_
             refine zu 8 57 (zm 30 511) ?_
             refine zu 9 58 (zm 30 1023) ?_
             refine zu 10 59 (zm 30 2047) ?_
             refine zu 11 60 (zm 30 4095) ?_
             refine zu 12 61 (zm 30 8191) ?_
             refine zu 13 62 (zm 30 16383) ?_
             refine zu 14 63 (zm 30 32767) ?_
             refine zu 15 64 (zm 30 65535) ?_
             refine zu 16 65 (zm 30 131071) ?_
             refine zu 17 66 (zm 30 262143) ?_
             refine zu 18 67 (zm 30 524287) ?_
             refine zp 19 68 (zm 30 1048575) ?_
             refine zp 20 69 (zm 30 2097151) ?_
             refine zu 21 70 (zm 30 4194303) ?_
             refine zu 22 71 (zm 30 8388607) ?_
             refine zu 23 72 (zm 30 16777215) ?_
             refine zu 24 73 (zm 30 33554431) ?_
             refine zu 25 74 (zm 30 67108863) ?_
             refine zu 26 75 (zm 30 134217727) ?_
             refine zu 27 76 (zm 30 268435455) ?_
             refine zu 28 77 (zm 30 536870911) ?_
             refine zp 29 78 (zm 30 1073741823) ?_
             refine done_ (done_of HT_.out (by kernel_rfl)) ?_
             try go_wp2
             go_meet
             case rel => exact ⟨_, (true), (zE _), H', ⟨by have := HJ1.out; have := HK2.out; have := HK3.out; first | omega | exact Nat.le_refl _⟩, ⟨zr BK151⟩, ⟨zr BK155⟩, ⟨zb _⟩⟩
           case rest =>
            clear HC21
            obtain ⟨kq, x78_20, rfl, HA, HJ20, BK151, BK155, HB⟩ := hcut
            cases kq with
            | zero => exact absurd HA.out (by simp [spec_ObjectOk.j3])
            | succ kj20 =>
             have H := HA.out
             clear HA
             simp only [spec_ObjectOk.j3] at H
             by_cases c43 : x78_20 = true
             ·subst c43
              rw [if_pos rfl] at H
              obtain rfl := Option.some.inj H
              go_wp2
              go_ret
              exact ⟨ze _, zb _⟩
             ·replace c43 := Bool.eq_false_iff.mpr c43
              subst c43
              rw [if_neg (show ¬ (false = true) by decide)] at H
              by_cases c44 : ((rd_T72 l0_1 x4_3).f1) ≥ 0
              ·rw [if_pos c44] at H
               have c44b0 : decide (0 ≤ ((rd_T72 l0_1 x4_3).f1)) = true := decide_eq_true c44
               clear c44
               by_cases c45 : 0 ≤ ((rd_T72 l0_1 x4_3).f1)
               ·rw [if_pos c45] at H
                have c45b0 : decide (0 ≤ ((rd_T72 l0_1 x4_3).f1)) = true := decide_eq_true c45
                clear c45
                by_cases c46 : ((rd_T72 l0_1 x4_3).f1) < (l0_0.length : Int)
                ·rw [if_pos c46] at H
                 have c46b0 : decide (((rd_T72 l0_1 x4_3).f1) < (l0_0.length : Int)) = true := decide_eq_true c46
                 clear c46
                 obtain ⟨t161, A470, H⟩ := Option.bind_eq_some_iff.mp H
                 have A47 := Aside0.mk A470
                 clear A470
                 by_cases c48 : t161 = true
                 ·subst c48
                  rw [if_pos rfl] at H
                  by_cases c49 : ((rd_T72 l0_1 x4_3).f1) < 0
                  ·rw [if_pos c49] at H
                   have c49b0 : decide (((rd_T72 l0_1 x4_3).f1) < 0) = true := decide_eq_true c49
                   clear c49
                   obtain ⟨t162, A500, H⟩ := Option.bind_eq_some_iff.mp H
                   have A50 := Aside0.mk A500
                   clear A500
                   by_cases c51 : t162 = true
                   ·subst c51
                    rw [if_pos rfl] at H
                    have H' := Aside0.mk H
                    clear H
                    try go_wp2
                    have n0_ := Aside0.mk (blk_drew BK151.out)
                    have n1_ := Aside0.mk (blk_drew BK155.out)
                    have n2_ := Aside0.mk (below_drew1 HB.out)
                    clear BK151
                    clear BK155
                    clear HB
                    have BK151 := n0_
                    have BK155 := n1_
                    have HB := n2_
                    clear n0_ n1_ n2_
                    have p160 : 0 ≤ (((rd_T72 l0_1 x4_3).f1) : Int) := of_decide_eq_true (za _)
                    have q160 : ((rd_T72 l0_1 x4_3).f1) < (l0_0.length : Int) := of_decide_eq_true (za _)
                    obtain ⟨ad160, A160_5, c160_5, e160, hx160_0, hx160_1, hx160_2, hx160_3, hx160_4, hx160_5, hl160_5, hi160_5⟩ := at_T71 HR0_0.out ((rd_T72 l0_1 x4_3).f1) p160 q160
                    have hw160_5 := hx160_5
                    have hw160_4 := hx160_4
                    have hw160_3 := hx160_3
                    have hw160_2 := hx160_2
                    have hw160_1 := hx160_1
                    have hw160_0 := hx160_0
                    cases e160
                    replace hx160_0 := zx HB hx160_0
                    replace hx160_1 := zx HB hx160_1
                    replace hx160_2 := zx HB hx160_2
                    replace hx160_3 := zx HB hx160_3
                    replace hx160_4 := zx HB hx160_4
                    replace hx160_5 := zx HB hx160_5
                    have HR160_5 := Aside0.mk hi160_5
                    have HC160_5 := Aside0.mk hl160_5
                    clear hi160_5 hl160_5
                    replace p160 := eq_true p160
                    replace q160 := eq_true q160
                    refine start_ (n := 28) (S := fun w' => w'.cell? ⟨gb155, 0, none⟩ = some (.string ((rd_T72 l0_1 x4_3).f0)) ∧ w'.cell? ⟨gb155, 1, none⟩ = some (.int .i64 ((rd_T72 l0_1 x4_3).f1)) ∧ w'.cell? ⟨gb155, 2, none⟩ = some (.int .i64 ((rd_T72 l0_1 x4_3).f2)) ∧ w'.cell? ⟨gb155, 3, none⟩ = some (.bool ((rd_T72 l0_1 x4_3).f3)) ∧ w'.cell? ⟨gb151, 0, none⟩ = some (.slice (some ad160) l0_0.length c0_0) ∧ w'.cell? ⟨gb151, 1, none⟩ = some (.slice (some ad154) l0_1.length c0_1) ∧ w'.cell? ⟨gb151, 2, none⟩ = some (.slice A0_2 l0_2.length c0_2) ∧ w'.cell? (ad160.add ((((rd_T72 l0_1 x4_3).f1)).toNat * 6)) = some (.string ((rd_T71 l0_0 ((rd_T72 l0_1 x4_3).f1)).f0)) ∧ w'.cell? ⟨(ad160.add ((((rd_T72 l0_1 x4_3).f1)).toNat * 6)).block, (ad160.add ((((rd_T72 l0_1 x4_3).f1)).toNat * 6)).off + 1, none⟩ = some (.int .i64 ((rd_T71 l0_0 ((rd_T72 l0_1 x4_3).f1)).f1)) ∧ w'.cell? ⟨(ad160.add ((((rd_T72 l0_1 x4_3).f1)).toNat * 6)).block, (ad160.add ((((rd_T72 l0_1 x4_3).f1)).toNat * 6)).off + 2, none⟩ = some (.int .i64 ((rd_T71 l0_0 ((rd_T72 l0_1 x4_3).f1)).f2)) ∧ w'.cell? ⟨(ad160.add ((((rd_T72 l0_1 x4_3).f1)).toNat * 6)).block, (ad160.add ((((rd_T72 l0_1 x4_3).f1)).toNat * 6)).off + 3, none⟩ = some (.int .i64 ((rd_T71 l0_0 ((rd_T72 l0_1 x4_3).f1)).f3)) ∧ w'.cell? ⟨(ad160.add ((((rd_T72 l0_1 x4_3).f1)).toNat * 6)).block, (ad160.add ((((rd_T72 l0_1 x4_3).f1)).toNat * 6)).off + 4, none⟩ = some (.string ((rd_T71 l0_0 ((rd_T72 l0_1 x4_3).f1)).f4)) ∧ w'.cell? ⟨(ad160.add ((((rd_T72 l0_1 x4_3).f1)).toNat * 6)).block, (ad160.add ((((rd_T72 l0_1 x4_3).f1)).toNat * 6)).off + 5, none⟩ = some (.slice A160_5 ((rd_T71 l0_0 ((rd_T72 l0_1 x4_3).f1)).f5).length c160_5)) (ds := []) (zm 28 0) (by kernel_rfl) rfl rfl ⟨zc0 BK155, zc1 BK155, zc2 BK155, zc3 BK155, zc0 BK151, zc1 BK151, zc2 BK151, (zx HB hw160_0), (zx HB hw160_1), (zx HB hw160_2), (zx HB hw160_3), (zx HB hw160_4), (zx HB hw160_5)⟩ (fun hHeld => ?_); refine with_tabW spec_ObjectOk.tab14 spec_ObjectOk.bits14 (fun HT_ HW_ => ?_)
                    generalize wc.drew = w52 at BK151 BK155 HB HR160_5 hx160_0 hx160_1 hx160_2 hx160_3 hx160_4 hx160_5 hHeld ⊢
                    refine zp 0 79 (zm 28 1) ?_
                    refine zy 1 80 (zm 28 3) hHeld ?_
                    refine zp 2 81 (zm 28 7) ?_
                    refine zp 3 82 (zm 28 15) ?_
                    refine zp 4 83 (zm 28 31) ?_
                    refine zp 6 85 (zm 28 95) ?_
                    refine zp 8 87 (zm 28 351) ?_
                    refine zy 5 84 (zm 28 383) hHeld ?_
                    refine zy 7 86 (zm 28 511) hHeld ?_
                    refine zy 9 88 (zm 28 1023) hHeld ?_
                    refine zp 10 89 (zm 28 2047) ?_
                    refine zp 11 90 (zm 28 4095) ?_
                    refine zy 12 91 (zm 28 8191) hHeld ?_
                    refine zp 13 92 (zm 28 16383) ?_
                    refine one_ (i := 14) (N := some 93) (zm 28 32767) rfl rfl (one_of HT_.out (by kernel_rfl)) (by decide) (fun K hK => ?_)
                    refine zi Tryz.func42 #[.int .i64 ((rd_T72 l0_1 x4_3).f2), .int .i64 0, .int .i64 (((rd_T71 l0_0 ((rd_T72 l0_1 x4_3).f1)).f4).size : Int)] ?_
                    with_reducible refine (spec_l1In.calls ((rd_T72 l0_1 x4_3).f2) 0 (((rd_T71 l0_0 ((rd_T72 l0_1 x4_3).f1)).f4).size : Int) true _ A47.out).mono ?_
                    rintro e w' ⟨rfl, ⟨nd, rfl⟩⟩
                    refine ⟨_, rfl, ?_⟩
                    refine hK.out _ _ ⟨zc0 BK155, zc1 BK155, zc2 BK155, zc3 BK155, zc0 BK151, zc1 BK151, zc2 BK151, (zx HB hw160_0), (zx HB hw160_1), (zx HB hw160_2), (zx HB hw160_3), (zx HB hw160_4), (zx HB hw160_5)⟩ (fun hHeld => ?_)
                    clear hK K
                    refine zq ?_
                    refine zp 15 94 (zm 28 65535) ?_
                    refine zp 16 95 (zm 28 131071) ?_
                    refine zp 17 96 (zm 28 262143) ?_
                    refine zp 18 97 (zm 28 524287) ?_
                    refine zy 19 98 (zm 28 1048575) hHeld ?_
                    refine zp 20 99 (zm 28 2097151) ?_
                    refine zp 21 100 (zm 28 4194303) ?_
                    refine zp 22 101 (zm 28 8388607) ?_
                    refine zy 23 102 (zm 28 16777215) hHeld ?_
                    refine one_ (i := 24) (N := some 103) (zm 28 33554431) rfl rfl (one_of HT_.out (by kernel_rfl)) (by decide) (fun K hK => ?_)
                    refine zi Tryz.func42 #[.int .i64 ((rd_T72 l0_1 x4_3).f2), .int .i64 (-2147483648), .int .i64 2147483647] ?_
                    with_reducible refine (spec_l1In.calls ((rd_T72 l0_1 x4_3).f2) (-2147483648) 2147483647 true _ A50.out).mono ?_
                    rintro e w' ⟨rfl, ⟨nd, rfl⟩⟩
                    refine ⟨_, rfl, ?_⟩
                    refine hK.out _ _ ⟨zc0 BK155, zc1 BK155, zc2 BK155, zc3 BK155, zc0 BK151, zc1 BK151, zc2 BK151, (zx HB hw160_0), (zx HB hw160_1), (zx HB hw160_2), (zx HB hw160_3), (zx HB hw160_4), (zx HB hw160_5)⟩ (fun hHeld => ?_)
                    clear hK K
                    refine zq ?_
                    refine zp 25 104 (zm 28 67108863) ?_
                    refine zp 26 105 (zm 28 134217727) ?_
                    refine zp 27 106 (zm 28 268435455) ?_
                    refine done_ (done_of HT_.out (by kernel_rfl)) ?_
                    try go_wp2
                    go_roundg kj20
                    case measure => have := HJ1.out; have := HK2.out; have := HK3.out; have := HJ20.out; omega
                    case rel => exact ⟨(wrap64 (x4_3 + 1)), (zE _), H', ⟨by have := HJ1.out; have := HK2.out; have := HK3.out; have := HJ20.out; omega⟩, ⟨zr BK151⟩, ⟨zb _⟩⟩
                   ·replace c51 := Bool.eq_false_iff.mpr c51
                    subst c51
                    rw [if_neg (show ¬ (false = true) by decide)] at H
                    obtain rfl := Option.some.inj H
                    try go_wp2
                    have n0_ := Aside0.mk (blk_drew BK151.out)
                    have n1_ := Aside0.mk (blk_drew BK155.out)
                    have n2_ := Aside0.mk (below_drew1 HB.out)
                    clear BK151
                    clear BK155
                    clear HB
                    have BK151 := n0_
                    have BK155 := n1_
                    have HB := n2_
                    clear n0_ n1_ n2_
                    have p160 : 0 ≤ (((rd_T72 l0_1 x4_3).f1) : Int) := of_decide_eq_true (za _)
                    have q160 : ((rd_T72 l0_1 x4_3).f1) < (l0_0.length : Int) := of_decide_eq_true (za _)
                    obtain ⟨ad160, A160_5, c160_5, e160, hx160_0, hx160_1, hx160_2, hx160_3, hx160_4, hx160_5, hl160_5, hi160_5⟩ := at_T71 HR0_0.out ((rd_T72 l0_1 x4_3).f1) p160 q160
                    have hw160_5 := hx160_5
                    have hw160_4 := hx160_4
                    have hw160_3 := hx160_3
                    have hw160_2 := hx160_2
                    have hw160_1 := hx160_1
                    have hw160_0 := hx160_0
                    cases e160
                    replace hx160_0 := zx HB hx160_0
                    replace hx160_1 := zx HB hx160_1
                    replace hx160_2 := zx HB hx160_2
                    replace hx160_3 := zx HB hx160_3
                    replace hx160_4 := zx HB hx160_4
                    replace hx160_5 := zx HB hx160_5
                    have HR160_5 := Aside0.mk hi160_5
                    have HC160_5 := Aside0.mk hl160_5
                    clear hi160_5 hl160_5
                    replace p160 := eq_true p160
                    replace q160 := eq_true q160
                    refine start_ (n := 28) (S := fun w' => w'.cell? ⟨gb155, 0, none⟩ = some (.string ((rd_T72 l0_1 x4_3).f0)) ∧ w'.cell? ⟨gb155, 1, none⟩ = some (.int .i64 ((rd_T72 l0_1 x4_3).f1)) ∧ w'.cell? ⟨gb155, 2, none⟩ = some (.int .i64 ((rd_T72 l0_1 x4_3).f2)) ∧ w'.cell? ⟨gb155, 3, none⟩ = some (.bool ((rd_T72 l0_1 x4_3).f3)) ∧ w'.cell? ⟨gb151, 0, none⟩ = some (.slice (some ad160) l0_0.length c0_0) ∧ w'.cell? ⟨gb151, 1, none⟩ = some (.slice (some ad154) l0_1.length c0_1) ∧ w'.cell? ⟨gb151, 2, none⟩ = some (.slice A0_2 l0_2.length c0_2) ∧ w'.cell? (ad160.add ((((rd_T72 l0_1 x4_3).f1)).toNat * 6)) = some (.string ((rd_T71 l0_0 ((rd_T72 l0_1 x4_3).f1)).f0)) ∧ w'.cell? ⟨(ad160.add ((((rd_T72 l0_1 x4_3).f1)).toNat * 6)).block, (ad160.add ((((rd_T72 l0_1 x4_3).f1)).toNat * 6)).off + 1, none⟩ = some (.int .i64 ((rd_T71 l0_0 ((rd_T72 l0_1 x4_3).f1)).f1)) ∧ w'.cell? ⟨(ad160.add ((((rd_T72 l0_1 x4_3).f1)).toNat * 6)).block, (ad160.add ((((rd_T72 l0_1 x4_3).f1)).toNat * 6)).off + 2, none⟩ = some (.int .i64 ((rd_T71 l0_0 ((rd_T72 l0_1 x4_3).f1)).f2)) ∧ w'.cell? ⟨(ad160.add ((((rd_T72 l0_1 x4_3).f1)).toNat * 6)).block, (ad160.add ((((rd_T72 l0_1 x4_3).f1)).toNat * 6)).off + 3, none⟩ = some (.int .i64 ((rd_T71 l0_0 ((rd_T72 l0_1 x4_3).f1)).f3)) ∧ w'.cell? ⟨(ad160.add ((((rd_T72 l0_1 x4_3).f1)).toNat * 6)).block, (ad160.add ((((rd_T72 l0_1 x4_3).f1)).toNat * 6)).off + 4, none⟩ = some (.string ((rd_T71 l0_0 ((rd_T72 l0_1 x4_3).f1)).f4)) ∧ w'.cell? ⟨(ad160.add ((((rd_T72 l0_1 x4_3).f1)).toNat * 6)).block, (ad160.add ((((rd_T72 l0_1 x4_3).f1)).toNat * 6)).off + 5, none⟩ = some (.slice A160_5 ((rd_T71 l0_0 ((rd_T72 l0_1 x4_3).f1)).f5).length c160_5)) (ds := []) (zm 28 0) (by kernel_rfl) rfl rfl ⟨zc0 BK155, zc1 BK155, zc2 BK155, zc3 BK155, zc0 BK151, zc1 BK151, zc2 BK151, (zx HB hw160_0), (zx HB hw160_1), (zx HB hw160_2), (zx HB hw160_3), (zx HB hw160_4), (zx HB hw160_5)⟩ (fun hHeld => ?_); refine with_tabW spec_ObjectOk.tab14 spec_ObjectOk.bits14 (fun HT_ HW_ => ?_)
                    generalize wc.drew = w53 at BK151 BK155 HB HR160_5 hx160_0 hx160_1 hx160_2 hx160_3 hx160_4 hx160_5 hHeld ⊢
                    refine zp 0 79 (zm 28 1) ?_
                    refine zy 1 80 (zm 28 3) hHeld ?_
                    refine zp 2 81 (zm 28 7) ?_
                    refine zp 3 82 (zm 28 15) ?_
                    refine zp 4 83 (zm 28 31) ?_
                    refine zp 6 85 (zm 28 95) ?_
                    refine zp 8 87 (zm 28 351) ?_
                    refine zy 5 84 (zm 28 383) hHeld ?_
                    refine zy 7 86 (zm 28 511) hHeld ?_
                    refine zy 9 88 (zm 28 1023) hHeld ?_
                    refine zp 10 89 (zm 28 2047) ?_
                    refine zp 11 90 (zm 28 4095) ?_
                    refine zy 12 91 (zm 28 8191) hHeld ?_
                    refine zp 13 92 (zm 28 16383) ?_
                    refine one_ (i := 14) (N := some 93) (zm 28 32767) rfl rfl (one_of HT_.out (by kernel_rfl)) (by decide) (fun K hK => ?_)
                    refine zi Tryz.func42 #[.int .i64 ((rd_T72 l0_1 x4_3).f2), .int .i64 0, .int .i64 (((rd_T71 l0_0 ((rd_T72 l0_1 x4_3).f1)).f4).size : Int)] ?_
                    with_reducible refine (spec_l1In.calls ((rd_T72 l0_1 x4_3).f2) 0 (((rd_T71 l0_0 ((rd_T72 l0_1 x4_3).f1)).f4).size : Int) true _ A47.out).mono ?_
                    rintro e w' ⟨rfl, ⟨nd, rfl⟩⟩
                    refine ⟨_, rfl, ?_⟩
                    refine hK.out _ _ ⟨zc0 BK155, zc1 BK155, zc2 BK155, zc3 BK155, zc0 BK151, zc1 BK151, zc2 BK151, (zx HB hw160_0), (zx HB hw160_1), (zx HB hw160_2), (zx HB hw160_3), (zx HB hw160_4), (zx HB hw160_5)⟩ (fun hHeld => ?_)
                    clear hK K
                    refine zq ?_
                    refine zp 15 94 (zm 28 65535) ?_
                    refine zp 16 95 (zm 28 131071) ?_
                    refine zp 17 96 (zm 28 262143) ?_
                    refine zp 18 97 (zm 28 524287) ?_
                    refine zy 19 98 (zm 28 1048575) hHeld ?_
                    refine zp 20 99 (zm 28 2097151) ?_
                    refine zp 21 100 (zm 28 4194303) ?_
                    refine zp 22 101 (zm 28 8388607) ?_
                    refine zy 23 102 (zm 28 16777215) hHeld ?_
                    refine one_ (i := 24) (N := some 103) (zm 28 33554431) rfl rfl (one_of HT_.out (by kernel_rfl)) (by decide) (fun K hK => ?_)
                    refine zi Tryz.func42 #[.int .i64 ((rd_T72 l0_1 x4_3).f2), .int .i64 (-2147483648), .int .i64 2147483647] ?_
                    with_reducible refine (spec_l1In.calls ((rd_T72 l0_1 x4_3).f2) (-2147483648) 2147483647 false _ A50.out).mono ?_
                    rintro e w' ⟨rfl, ⟨nd, rfl⟩⟩
                    refine ⟨_, rfl, ?_⟩
                    refine hK.out _ _ ⟨zc0 BK155, zc1 BK155, zc2 BK155, zc3 BK155, zc0 BK151, zc1 BK151, zc2 BK151, (zx HB hw160_0), (zx HB hw160_1), (zx HB hw160_2), (zx HB hw160_3), (zx HB hw160_4), (zx HB hw160_5)⟩ (fun hHeld => ?_)
                    clear hK K
                    refine zq ?_
                    refine zp 25 104 (zm 28 67108863) ?_
                    refine zp 26 105 (zm 28 134217727) ?_
                    refine zp 27 106 (zm 28 268435455) ?_
                    refine done_ (done_of HT_.out (by kernel_rfl)) ?_
                    try go_wp2
                    go_ret
                    exact ⟨ze _, zb _⟩
                  ·rw [if_neg c49] at H
                   have c49b0 : decide (((rd_T72 l0_1 x4_3).f1) < 0) = false := decide_eq_false c49
                   clear c49
                   have H' := Aside0.mk H
                   clear H
                   try go_wp2
                   have n0_ := Aside0.mk (blk_drew BK151.out)
                   have n1_ := Aside0.mk (blk_drew BK155.out)
                   have n2_ := Aside0.mk (below_drew1 HB.out)
                   clear BK151
                   clear BK155
                   clear HB
                   have BK151 := n0_
                   have BK155 := n1_
                   have HB := n2_
                   clear n0_ n1_ n2_
                   have p160 : 0 ≤ (((rd_T72 l0_1 x4_3).f1) : Int) := of_decide_eq_true (za _)
                   have q160 : ((rd_T72 l0_1 x4_3).f1) < (l0_0.length : Int) := of_decide_eq_true (za _)
                   obtain ⟨ad160, A160_5, c160_5, e160, hx160_0, hx160_1, hx160_2, hx160_3, hx160_4, hx160_5, hl160_5, hi160_5⟩ := at_T71 HR0_0.out ((rd_T72 l0_1 x4_3).f1) p160 q160
                   have hw160_5 := hx160_5
                   have hw160_4 := hx160_4
                   have hw160_3 := hx160_3
                   have hw160_2 := hx160_2
                   have hw160_1 := hx160_1
                   have hw160_0 := hx160_0
                   cases e160
                   replace hx160_0 := zx HB hx160_0
                   replace hx160_1 := zx HB hx160_1
                   replace hx160_2 := zx HB hx160_2
                   replace hx160_3 := zx HB hx160_3
                   replace hx160_4 := zx HB hx160_4
                   replace hx160_5 := zx HB hx160_5
                   have HR160_5 := Aside0.mk hi160_5
                   have HC160_5 := Aside0.mk hl160_5
                   clear hi160_5 hl160_5
                   replace p160 := eq_true p160
                   replace q160 := eq_true q160
                   refine start_ (n := 28) (S := fun w' => w'.cell? ⟨gb155, 0, none⟩ = some (.string ((rd_T72 l0_1 x4_3).f0)) ∧ w'.cell? ⟨gb155, 1, none⟩ = some (.int .i64 ((rd_T72 l0_1 x4_3).f1)) ∧ w'.cell? ⟨gb155, 2, none⟩ = some (.int .i64 ((rd_T72 l0_1 x4_3).f2)) ∧ w'.cell? ⟨gb155, 3, none⟩ = some (.bool ((rd_T72 l0_1 x4_3).f3)) ∧ w'.cell? ⟨gb151, 0, none⟩ = some (.slice (some ad160) l0_0.length c0_0) ∧ w'.cell? ⟨gb151, 1, none⟩ = some (.slice (some ad154) l0_1.length c0_1) ∧ w'.cell? ⟨gb151, 2, none⟩ = some (.slice A0_2 l0_2.length c0_2) ∧ w'.cell? (ad160.add ((((rd_T72 l0_1 x4_3).f1)).toNat * 6)) = some (.string ((rd_T71 l0_0 ((rd_T72 l0_1 x4_3).f1)).f0)) ∧ w'.cell? ⟨(ad160.add ((((rd_T72 l0_1 x4_3).f1)).toNat * 6)).block, (ad160.add ((((rd_T72 l0_1 x4_3).f1)).toNat * 6)).off + 1, none⟩ = some (.int .i64 ((rd_T71 l0_0 ((rd_T72 l0_1 x4_3).f1)).f1)) ∧ w'.cell? ⟨(ad160.add ((((rd_T72 l0_1 x4_3).f1)).toNat * 6)).block, (ad160.add ((((rd_T72 l0_1 x4_3).f1)).toNat * 6)).off + 2, none⟩ = some (.int .i64 ((rd_T71 l0_0 ((rd_T72 l0_1 x4_3).f1)).f2)) ∧ w'.cell? ⟨(ad160.add ((((rd_T72 l0_1 x4_3).f1)).toNat * 6)).block, (ad160.add ((((rd_T72 l0_1 x4_3).f1)).toNat * 6)).off + 3, none⟩ = some (.int .i64 ((rd_T71 l0_0 ((rd_T72 l0_1 x4_3).f1)).f3)) ∧ w'.cell? ⟨(ad160.add ((((rd_T72 l0_1 x4_3).f1)).toNat * 6)).block, (ad160.add ((((rd_T72 l0_1 x4_3).f1)).toNat * 6)).off + 4, none⟩ = some (.string ((rd_T71 l0_0 ((rd_T72 l0_1 x4_3).f1)).f4)) ∧ w'.cell? ⟨(ad160.add ((((rd_T72 l0_1 x4_3).f1)).toNat * 6)).block, (ad160.add ((((rd_T72 l0_1 x4_3).f1)).toNat * 6)).off + 5, none⟩ = some (.slice A160_5 ((rd_T71 l0_0 ((rd_T72 l0_1 x4_3).f1)).f5).length c160_5)) (ds := []) (zm 28 0) (by kernel_rfl) rfl rfl ⟨zc0 BK155, zc1 BK155, zc2 BK155, zc3 BK155, zc0 BK151, zc1 BK151, zc2 BK151, (zx HB hw160_0), (zx HB hw160_1), (zx HB hw160_2), (zx HB hw160_3), (zx HB hw160_4), (zx HB hw160_5)⟩ (fun hHeld => ?_); refine with_tabW spec_ObjectOk.tab14 spec_ObjectOk.bits14 (fun HT_ HW_ => ?_)
                   generalize wc.drew = w54 at BK151 BK155 HB HR160_5 hx160_0 hx160_1 hx160_2 hx160_3 hx160_4 hx160_5 hHeld ⊢
                   refine zp 0 79 (zm 28 1) ?_
                   refine zy 1 80 (zm 28 3) hHeld ?_
                   refine zp 2 81 (zm 28 7) ?_
                   refine zp 3 82 (zm 28 15) ?_
                   refine zp 4 83 (zm 28 31) ?_
                   refine zp 6 85 (zm 28 95) ?_
                   refine zp 8 87 (zm 28 351) ?_
                   refine zy 5 84 (zm 28 383) hHeld ?_
                   refine zy 7 86 (zm 28 511) hHeld ?_
                   refine zy 9 88 (zm 28 1023) hHeld ?_
                   refine zp 10 89 (zm 28 2047) ?_
                   refine zp 11 90 (zm 28 4095) ?_
                   refine zy 12 91 (zm 28 8191) hHeld ?_
                   refine zp 13 92 (zm 28 16383) ?_
                   refine one_ (i := 14) (N := some 93) (zm 28 32767) rfl rfl (one_of HT_.out (by kernel_rfl)) (by decide) (fun K hK => ?_)
                   refine zi Tryz.func42 #[.int .i64 ((rd_T72 l0_1 x4_3).f2), .int .i64 0, .int .i64 (((rd_T71 l0_0 ((rd_T72 l0_1 x4_3).f1)).f4).size : Int)] ?_
                   with_reducible refine (spec_l1In.calls ((rd_T72 l0_1 x4_3).f2) 0 (((rd_T71 l0_0 ((rd_T72 l0_1 x4_3).f1)).f4).size : Int) true _ A47.out).mono ?_
                   rintro e w' ⟨rfl, ⟨nd, rfl⟩⟩
                   refine ⟨_, rfl, ?_⟩
                   refine hK.out _ _ ⟨zc0 BK155, zc1 BK155, zc2 BK155, zc3 BK155, zc0 BK151, zc1 BK151, zc2 BK151, (zx HB hw160_0), (zx HB hw160_1), (zx HB hw160_2), (zx HB hw160_3), (zx HB hw160_4), (zx HB hw160_5)⟩ (fun hHeld => ?_)
                   clear hK K
                   refine zq ?_
                   refine zp 15 94 (zm 28 65535) ?_
                   refine zp 16 95 (zm 28 131071) ?_
                   refine zp 17 96 (zm 28 262143) ?_
                   refine zp 18 97 (zm 28 524287) ?_
                   refine zy 19 98 (zm 28 1048575) hHeld ?_
                   refine zp 20 99 (zm 28 2097151) ?_
                   refine zp 21 100 (zm 28 4194303) ?_
                   refine zu 22 101 (zm 28 8388607) ?_
                   refine zu 23 102 (zm 28 16777215) ?_
                   refine zu 24 103 (zm 28 33554431) ?_
                   refine zu 25 104 (zm 28 67108863) ?_
                   refine zp 26 105 (zm 28 134217727) ?_
                   refine zp 27 106 (zm 28 268435455) ?_
                   refine done_ (done_of HT_.out (by kernel_rfl)) ?_
                   try go_wp2
                   go_roundg kj20
                   case measure => have := HJ1.out; have := HK2.out; have := HK3.out; have := HJ20.out; omega
                   case rel => exact ⟨(wrap64 (x4_3 + 1)), (zE _), H', ⟨by have := HJ1.out; have := HK2.out; have := HK3.out; have := HJ20.out; omega⟩, ⟨zr BK151⟩, ⟨zb _⟩⟩
                 ·replace c48 := Bool.eq_false_iff.mpr c48
                  subst c48
                  rw [if_neg (show ¬ (false = true) by decide)] at H
                  obtain rfl := Option.some.inj H
                  try go_wp2
                  have n0_ := Aside0.mk (blk_drew BK151.out)
                  have n1_ := Aside0.mk (blk_drew BK155.out)
                  have n2_ := Aside0.mk (below_drew1 HB.out)
                  clear BK151
                  clear BK155
                  clear HB
                  have BK151 := n0_
                  have BK155 := n1_
                  have HB := n2_
                  clear n0_ n1_ n2_
                  have p160 : 0 ≤ (((rd_T72 l0_1 x4_3).f1) : Int) := of_decide_eq_true (za _)
                  have q160 : ((rd_T72 l0_1 x4_3).f1) < (l0_0.length : Int) := of_decide_eq_true (za _)
                  obtain ⟨ad160, A160_5, c160_5, e160, hx160_0, hx160_1, hx160_2, hx160_3, hx160_4, hx160_5, hl160_5, hi160_5⟩ := at_T71 HR0_0.out ((rd_T72 l0_1 x4_3).f1) p160 q160
                  have hw160_5 := hx160_5
                  have hw160_4 := hx160_4
                  have hw160_3 := hx160_3
                  have hw160_2 := hx160_2
                  have hw160_1 := hx160_1
                  have hw160_0 := hx160_0
                  cases e160
                  replace hx160_0 := zx HB hx160_0
                  replace hx160_1 := zx HB hx160_1
                  replace hx160_2 := zx HB hx160_2
                  replace hx160_3 := zx HB hx160_3
                  replace hx160_4 := zx HB hx160_4
                  replace hx160_5 := zx HB hx160_5
                  have HR160_5 := Aside0.mk hi160_5
                  have HC160_5 := Aside0.mk hl160_5
                  clear hi160_5 hl160_5
                  replace p160 := eq_true p160
                  replace q160 := eq_true q160
                  refine start_ (n := 28) (S := fun w' => w'.cell? ⟨gb155, 0, none⟩ = some (.string ((rd_T72 l0_1 x4_3).f0)) ∧ w'.cell? ⟨gb155, 1, none⟩ = some (.int .i64 ((rd_T72 l0_1 x4_3).f1)) ∧ w'.cell? ⟨gb155, 2, none⟩ = some (.int .i64 ((rd_T72 l0_1 x4_3).f2)) ∧ w'.cell? ⟨gb155, 3, none⟩ = some (.bool ((rd_T72 l0_1 x4_3).f3)) ∧ w'.cell? ⟨gb151, 0, none⟩ = some (.slice (some ad160) l0_0.length c0_0) ∧ w'.cell? ⟨gb151, 1, none⟩ = some (.slice (some ad154) l0_1.length c0_1) ∧ w'.cell? ⟨gb151, 2, none⟩ = some (.slice A0_2 l0_2.length c0_2) ∧ w'.cell? (ad160.add ((((rd_T72 l0_1 x4_3).f1)).toNat * 6)) = some (.string ((rd_T71 l0_0 ((rd_T72 l0_1 x4_3).f1)).f0)) ∧ w'.cell? ⟨(ad160.add ((((rd_T72 l0_1 x4_3).f1)).toNat * 6)).block, (ad160.add ((((rd_T72 l0_1 x4_3).f1)).toNat * 6)).off + 1, none⟩ = some (.int .i64 ((rd_T71 l0_0 ((rd_T72 l0_1 x4_3).f1)).f1)) ∧ w'.cell? ⟨(ad160.add ((((rd_T72 l0_1 x4_3).f1)).toNat * 6)).block, (ad160.add ((((rd_T72 l0_1 x4_3).f1)).toNat * 6)).off + 2, none⟩ = some (.int .i64 ((rd_T71 l0_0 ((rd_T72 l0_1 x4_3).f1)).f2)) ∧ w'.cell? ⟨(ad160.add ((((rd_T72 l0_1 x4_3).f1)).toNat * 6)).block, (ad160.add ((((rd_T72 l0_1 x4_3).f1)).toNat * 6)).off + 3, none⟩ = some (.int .i64 ((rd_T71 l0_0 ((rd_T72 l0_1 x4_3).f1)).f3)) ∧ w'.cell? ⟨(ad160.add ((((rd_T72 l0_1 x4_3).f1)).toNat * 6)).block, (ad160.add ((((rd_T72 l0_1 x4_3).f1)).toNat * 6)).off + 4, none⟩ = some (.string ((rd_T71 l0_0 ((rd_T72 l0_1 x4_3).f1)).f4)) ∧ w'.cell? ⟨(ad160.add ((((rd_T72 l0_1 x4_3).f1)).toNat * 6)).block, (ad160.add ((((rd_T72 l0_1 x4_3).f1)).toNat * 6)).off + 5, none⟩ = some (.slice A160_5 ((rd_T71 l0_0 ((rd_T72 l0_1 x4_3).f1)).f5).length c160_5)) (ds := []) (zm 28 0) (by kernel_rfl) rfl rfl ⟨zc0 BK155, zc1 BK155, zc2 BK155, zc3 BK155, zc0 BK151, zc1 BK151, zc2 BK151, (zx HB hw160_0), (zx HB hw160_1), (zx HB hw160_2), (zx HB hw160_3), (zx HB hw160_4), (zx HB hw160_5)⟩ (fun hHeld => ?_); refine with_tabW spec_ObjectOk.tab14 spec_ObjectOk.bits14 (fun HT_ HW_ => ?_)
                  generalize wc.drew = w55 at BK151 BK155 HB HR160_5 hx160_0 hx160_1 hx160_2 hx160_3 hx160_4 hx160_5 hHeld ⊢
                  refine zp 0 79 (zm 28 1) ?_
                  refine zy 1 80 (zm 28 3) hHeld ?_
                  refine zp 2 81 (zm 28 7) ?_
                  refine zp 3 82 (zm 28 15) ?_
                  refine zp 4 83 (zm 28 31) ?_
                  refine zp 6 85 (zm 28 95) ?_
                  refine zp 8 87 (zm 28 351) ?_
                  refine zy 5 84 (zm 28 383) hHeld ?_
                  refine zy 7 86 (zm 28 511) hHeld ?_
                  refine zy 9 88 (zm 28 1023) hHeld ?_
                  refine zp 10 89 (zm 28 2047) ?_
                  refine zp 11 90 (zm 28 4095) ?_
                  refine zy 12 91 (zm 28 8191) hHeld ?_
                  refine zp 13 92 (zm 28 16383) ?_
                  refine one_ (i := 14) (N := some 93) (zm 28 32767) rfl rfl (one_of HT_.out (by kernel_rfl)) (by decide) (fun K hK => ?_)
                  refine zi Tryz.func42 #[.int .i64 ((rd_T72 l0_1 x4_3).f2), .int .i64 0, .int .i64 (((rd_T71 l0_0 ((rd_T72 l0_1 x4_3).f1)).f4).size : Int)] ?_
                  with_reducible refine (spec_l1In.calls ((rd_T72 l0_1 x4_3).f2) 0 (((rd_T71 l0_0 ((rd_T72 l0_1 x4_3).f1)).f4).size : Int) false _ A47.out).mono ?_
                  rintro e w' ⟨rfl, ⟨nd, rfl⟩⟩
                  refine ⟨_, rfl, ?_⟩
                  refine hK.out _ _ ⟨zc0 BK155, zc1 BK155, zc2 BK155, zc3 BK155, zc0 BK151, zc1 BK151, zc2 BK151, (zx HB hw160_0), (zx HB hw160_1), (zx HB hw160_2), (zx HB hw160_3), (zx HB hw160_4), (zx HB hw160_5)⟩ (fun hHeld => ?_)
                  clear hK K
                  refine zq ?_
                  refine zp 15 94 (zm 28 65535) ?_
                  refine zp 16 95 (zm 28 131071) ?_
                  refine zp 17 96 (zm 28 262143) ?_
                  refine zu 18 97 (zm 28 524287) ?_
                  refine zu 19 98 (zm 28 1048575) ?_
                  refine zu 20 99 (zm 28 2097151) ?_
                  refine zu 21 100 (zm 28 4194303) ?_
                  refine zu 22 101 (zm 28 8388607) ?_
                  refine zu 23 102 (zm 28 16777215) ?_
                  refine zu 24 103 (zm 28 33554431) ?_
                  refine zu 25 104 (zm 28 67108863) ?_
                  refine zu 26 105 (zm 28 134217727) ?_
                  refine zp 27 106 (zm 28 268435455) ?_
                  refine done_ (done_of HT_.out (by kernel_rfl)) ?_
                  try go_wp2
                  go_ret
                  exact ⟨ze _, zb _⟩
                ·rw [if_neg c46] at H
                 exact absurd H (by simp)
               ·rw [if_neg c45] at H
                exact absurd H (by simp)
              ·rw [if_neg c44] at H
               have c44b0 : decide (0 ≤ ((rd_T72 l0_1 x4_3).f1)) = false := decide_eq_false c44
               clear c44
               by_cases c56 : ((rd_T72 l0_1 x4_3).f1) < 0
               ·rw [if_pos c56] at H
                have c56b0 : decide (((rd_T72 l0_1 x4_3).f1) < 0) = true := decide_eq_true c56
                clear c56
                obtain ⟨t163, A570, H⟩ := Option.bind_eq_some_iff.mp H
                have A57 := Aside0.mk A570
                clear A570
                by_cases c58 : t163 = true
                ·subst c58
                 rw [if_pos rfl] at H
                 have H' := Aside0.mk H
                 clear H
                 try go_wp2
                 have n0_ := Aside0.mk (blk_drew BK151.out)
                 have n1_ := Aside0.mk (blk_drew BK155.out)
                 have n2_ := Aside0.mk (below_drew1 HB.out)
                 clear BK151
                 clear BK155
                 clear HB
                 have BK151 := n0_
                 have BK155 := n1_
                 have HB := n2_
                 clear n0_ n1_ n2_
                 refine start_ (n := 28) (S := fun w' => w'.cell? ⟨gb155, 0, none⟩ = some (.string ((rd_T72 l0_1 x4_3).f0)) ∧ w'.cell? ⟨gb155, 1, none⟩ = some (.int .i64 ((rd_T72 l0_1 x4_3).f1)) ∧ w'.cell? ⟨gb155, 2, none⟩ = some (.int .i64 ((rd_T72 l0_1 x4_3).f2)) ∧ w'.cell? ⟨gb155, 3, none⟩ = some (.bool ((rd_T72 l0_1 x4_3).f3))) (ds := []) (zm 28 0) (by kernel_rfl) rfl rfl ⟨zc0 BK155, zc1 BK155, zc2 BK155, zc3 BK155⟩ (fun hHeld => ?_); refine with_tabW spec_ObjectOk.tab14 spec_ObjectOk.bits14 (fun HT_ HW_ => ?_)
                 generalize wc.drew = w59 at BK151 BK155 HB hHeld ⊢
                 refine zp 0 79 (zm 28 1) ?_
                 refine zy 1 80 (zm 28 3) hHeld ?_
                 refine zp 2 81 (zm 28 7) ?_
                 refine zp 3 82 (zm 28 15) ?_
                 refine zu 4 83 (zm 28 31) ?_
                 refine zu 5 84 (zm 28 63) ?_
                 refine zu 6 85 (zm 28 127) ?_
                 refine zu 7 86 (zm 28 255) ?_
                 refine zu 8 87 (zm 28 511) ?_
                 refine zu 9 88 (zm 28 1023) ?_
                 refine zu 10 89 (zm 28 2047) ?_
                 refine zu 11 90 (zm 28 4095) ?_
                 refine zu 12 91 (zm 28 8191) ?_
                 refine zu 13 92 (zm 28 16383) ?_
                 refine zu 14 93 (zm 28 32767) ?_
                 refine zu 15 94 (zm 28 65535) ?_
                 refine zp 16 95 (zm 28 131071) ?_
                 refine zp 17 96 (zm 28 262143) ?_
                 refine zp 18 97 (zm 28 524287) ?_
                 refine zy 19 98 (zm 28 1048575) hHeld ?_
                 refine zp 20 99 (zm 28 2097151) ?_
                 refine zp 21 100 (zm 28 4194303) ?_
                 refine zp 22 101 (zm 28 8388607) ?_
                 refine zy 23 102 (zm 28 16777215) hHeld ?_
                 refine one_ (i := 24) (N := some 103) (zm 28 33554431) rfl rfl (one_of HT_.out (by kernel_rfl)) (by decide) (fun K hK => ?_)
                 refine zi Tryz.func42 #[.int .i64 ((rd_T72 l0_1 x4_3).f2), .int .i64 (-2147483648), .int .i64 2147483647] ?_
                 with_reducible refine (spec_l1In.calls ((rd_T72 l0_1 x4_3).f2) (-2147483648) 2147483647 true _ A57.out).mono ?_
                 rintro e w' ⟨rfl, ⟨nd, rfl⟩⟩
                 refine ⟨_, rfl, ?_⟩
                 refine hK.out _ _ ⟨zc0 BK155, zc1 BK155, zc2 BK155, zc3 BK155⟩ (fun hHeld => ?_)
                 clear hK K
                 refine zq ?_
                 refine zp 25 104 (zm 28 67108863) ?_
                 refine zp 26 105 (zm 28 134217727) ?_
                 refine zp 27 106 (zm 28 268435455) ?_
                 refine done_ (done_of HT_.out (by kernel_rfl)) ?_
                 try go_wp2
                 go_roundg kj20
                 case measure => have := HJ1.out; have := HK2.out; have := HK3.out; have := HJ20.out; omega
                 case rel => exact ⟨(wrap64 (x4_3 + 1)), (zE _), H', ⟨by have := HJ1.out; have := HK2.out; have := HK3.out; have := HJ20.out; omega⟩, ⟨zr BK151⟩, ⟨zb _⟩⟩
                ·replace c58 := Bool.eq_false_iff.mpr c58
                 subst c58
                 rw [if_neg (show ¬ (false = true) by decide)] at H
                 obtain rfl := Option.some.inj H
                 try go_wp2
                 have n0_ := Aside0.mk (blk_drew BK151.out)
                 have n1_ := Aside0.mk (blk_drew BK155.out)
                 have n2_ := Aside0.mk (below_drew1 HB.out)
                 clear BK151
                 clear BK155
                 clear HB
                 have BK151 := n0_
                 have BK155 := n1_
                 have HB := n2_
                 clear n0_ n1_ n2_
                 refine start_ (n := 28) (S := fun w' => w'.cell? ⟨gb155, 0, none⟩ = some (.string ((rd_T72 l0_1 x4_3).f0)) ∧ w'.cell? ⟨gb155, 1, none⟩ = some (.int .i64 ((rd_T72 l0_1 x4_3).f1)) ∧ w'.cell? ⟨gb155, 2, none⟩ = some (.int .i64 ((rd_T72 l0_1 x4_3).f2)) ∧ w'.cell? ⟨gb155, 3, none⟩ = some (.bool ((rd_T72 l0_1 x4_3).f3))) (ds := []) (zm 28 0) (by kernel_rfl) rfl rfl ⟨zc0 BK155, zc1 BK155, zc2 BK155, zc3 BK155⟩ (fun hHeld => ?_); refine with_tabW spec_ObjectOk.tab14 spec_ObjectOk.bits14 (fun HT_ HW_ => ?_)
                 generalize wc.drew = w60 at BK151 BK155 HB hHeld ⊢
                 refine zp 0 79 (zm 28 1) ?_
                 refine zy 1 80 (zm 28 3) hHeld ?_
                 refine zp 2 81 (zm 28 7) ?_
                 refine zp 3 82 (zm 28 15) ?_
                 refine zu 4 83 (zm 28 31) ?_
                 refine zu 5 84 (zm 28 63) ?_
                 refine zu 6 85 (zm 28 127) ?_
                 refine zu 7 86 (zm 28 255) ?_
                 refine zu 8 87 (zm 28 511) ?_
                 refine zu 9 88 (zm 28 1023) ?_
                 refine zu 10 89 (zm 28 2047) ?_
                 refine zu 11 90 (zm 28 4095) ?_
                 refine zu 12 91 (zm 28 8191) ?_
                 refine zu 13 92 (zm 28 16383) ?_
                 refine zu 14 93 (zm 28 32767) ?_
                 refine zu 15 94 (zm 28 65535) ?_
                 refine zp 16 95 (zm 28 131071) ?_
                 refine zp 17 96 (zm 28 262143) ?_
                 refine zp 18 97 (zm 28 524287) ?_
                 refine zy 19 98 (zm 28 1048575) hHeld ?_
                 refine zp 20 99 (zm 28 2097151) ?_
                 refine zp 21 100 (zm 28 4194303) ?_
                 refine zp 22 101 (zm 28 8388607) ?_
                 refine zy 23 102 (zm 28 16777215) hHeld ?_
                 refine one_ (i := 24) (N := some 103) (zm 28 33554431) rfl rfl (one_of HT_.out (by kernel_rfl)) (by decide) (fun K hK => ?_)
                 refine zi Tryz.func42 #[.int .i64 ((rd_T72 l0_1 x4_3).f2), .int .i64 (-2147483648), .int .i64 2147483647] ?_
                 with_reducible refine (spec_l1In.calls ((rd_T72 l0_1 x4_3).f2) (-2147483648) 2147483647 false _ A57.out).mono ?_
                 rintro e w' ⟨rfl, ⟨nd, rfl⟩⟩
                 refine ⟨_, rfl, ?_⟩
                 refine hK.out _ _ ⟨zc0 BK155, zc1 BK155, zc2 BK155, zc3 BK155⟩ (fun hHeld => ?_)
                 clear hK K
                 refine zq ?_
                 refine zp 25 104 (zm 28 67108863) ?_
                 refine zp 26 105 (zm 28 134217727) ?_
                 refine zp 27 106 (zm 28 268435455) ?_
                 refine done_ (done_of HT_.out (by kernel_rfl)) ?_
                 try go_wp2
                 go_ret
                 exact ⟨ze _, zb _⟩
               ·rw [if_neg c56] at H
                have c56b0 : decide (((rd_T72 l0_1 x4_3).f1) < 0) = false := decide_eq_false c56
                clear c56
                have H' := Aside0.mk H
                clear H
                try go_wp2
                have n0_ := Aside0.mk (blk_drew BK151.out)
                have n1_ := Aside0.mk (blk_drew BK155.out)
                have n2_ := Aside0.mk (below_drew1 HB.out)
                clear BK151
                clear BK155
                clear HB
                have BK151 := n0_
                have BK155 := n1_
                have HB := n2_
                clear n0_ n1_ n2_
                refine start_ (n := 28) (S := fun w' => w'.cell? ⟨gb155, 0, none⟩ = some (.string ((rd_T72 l0_1 x4_3).f0)) ∧ w'.cell? ⟨gb155, 1, none⟩ = some (.int .i64 ((rd_T72 l0_1 x4_3).f1)) ∧ w'.cell? ⟨gb155, 2, none⟩ = some (.int .i64 ((rd_T72 l0_1 x4_3).f2)) ∧ w'.cell? ⟨gb155, 3, none⟩ = some (.bool ((rd_T72 l0_1 x4_3).f3))) (ds := []) (zm 28 0) (by kernel_rfl) rfl rfl ⟨zc0 BK155, zc1 BK155, zc2 BK155, zc3 BK155⟩ (fun hHeld => ?_); refine with_tabW spec_ObjectOk.tab14 spec_ObjectOk.bits14 (fun HT_ HW_ => ?_)
                generalize wc.drew = w61 at BK151 BK155 HB hHeld ⊢
                refine zp 0 79 (zm 28 1) ?_
                refine zy 1 80 (zm 28 3) hHeld ?_
                refine zp 2 81 (zm 28 7) ?_
                refine zp 3 82 (zm 28 15) ?_
                refine zu 4 83 (zm 28 31) ?_
                refine zu 5 84 (zm 28 63) ?_
                refine zu 6 85 (zm 28 127) ?_
                refine zu 7 86 (zm 28 255) ?_
                refine zu 8 87 (zm 28 511) ?_
                refine zu 9 88 (zm 28 1023) ?_
                refine zu 10 89 (zm 28 2047) ?_
                refine zu 11 90 (zm 28 4095) ?_
                refine zu 12 91 (zm 28 8191) ?_
                refine zu 13 92 (zm 28 16383) ?_
                refine zu 14 93 (zm 28 32767) ?_
                refine zu 15 94 (zm 28 65535) ?_
                refine zp 16 95 (zm 28 131071) ?_
                refine zp 17 96 (zm 28 262143) ?_
                refine zp 18 97 (zm 28 524287) ?_
                refine zy 19 98 (zm 28 1048575) hHeld ?_
                refine zp 20 99 (zm 28 2097151) ?_
                refine zp 21 100 (zm 28 4194303) ?_
                refine zu 22 101 (zm 28 8388607) ?_
                refine zu 23 102 (zm 28 16777215) ?_
                refine zu 24 103 (zm 28 33554431) ?_
                refine zu 25 104 (zm 28 67108863) ?_
                refine zp 26 105 (zm 28 134217727) ?_
                refine zp 27 106 (zm 28 268435455) ?_
                refine done_ (done_of HT_.out (by kernel_rfl)) ?_
                try go_wp2
                go_roundg kj20
                case measure => have := HJ1.out; have := HK2.out; have := HK3.out; have := HJ20.out; omega
                case rel => exact ⟨(wrap64 (x4_3 + 1)), (zE _), H', ⟨by have := HJ1.out; have := HK2.out; have := HK3.out; have := HJ20.out; omega⟩, ⟨zr BK151⟩, ⟨zb _⟩⟩
          ·rw [if_neg c20] at H
           exact absurd H (by simp)
         ·rw [if_neg c19] at H
          have c19b0 : decide (x4_3 < (l0_1.length : Int)) = false := decide_eq_false c19
          clear c19
          have H' := Aside0.mk H
          clear H
          obtain ⟨hcz62_0, hcz62_1, hcz62_2, hfz62_0, hfz62_1, hfz62_2⟩ := zF3 BK151
          go_wp2
          go_loopg [6] k3 (fun kq v6 w' => ∃ (x6_4 : Int), v6 = .int .i64 x6_4 ∧ Aside0 (spec_ObjectOk.l2 kq x6_4 l0_0 l0_1 l0_2 = some r) ∧ Aside0 (kq ≤ k3) ∧ Aside0 (w'.heap[gb151]? = some (.cells #[(.slice A0_0 l0_0.length c0_0), (.slice A0_1 l0_1.length c0_1), (.slice A0_2 l0_2.length c0_2)] 33 (0, 0))) ∧ Aside0 (Below w.heap.size w w'))
          case atStart => exact ⟨(0), (zE _), H', ⟨Nat.le_refl _⟩, ⟨zr BK151⟩, ⟨zb _⟩⟩
          case round =>
           clear H'
           obtain ⟨x6_4, rfl, HA, HK4, BK151, HB⟩ := hrel
           cases gk with
           | zero => exact absurd HA.out (by simp [spec_ObjectOk.l2])
           | succ k4 =>
            have H := HA.out
            clear HA
            simp only [spec_ObjectOk.l2] at H
            by_cases c63 : x6_4 < (l0_2.length : Int)
            ·rw [if_pos c63] at H
             have c63b0 : decide (x6_4 < (l0_2.length : Int)) = true := decide_eq_true c63
             clear c63
             by_cases c64 : 0 ≤ x6_4
             ·rw [if_pos c64] at H
              have c64b0 : decide (0 ≤ x6_4) = true := decide_eq_true c64
              clear c64
              obtain ⟨t165, A650, H⟩ := Option.bind_eq_some_iff.mp H
              have A65 := Aside0.mk A650
              clear A650
              by_cases c66 : t165 = true
              ·subst c66
               rw [if_pos rfl] at H
               have H' := Aside0.mk H
               clear H
               obtain ⟨hcz67_0, hcz67_1, hcz67_2, hfz67_0, hfz67_1, hfz67_2⟩ := zF3 BK151
               have p164 : 0 ≤ (x6_4 : Int) := of_decide_eq_true (za _)
               have q164 : x6_4 < (l0_2.length : Int) := of_decide_eq_true (za _)
               obtain ⟨ad164, A164_0, c164_0, e164, hx164_0, hl164_0, hi164_0⟩ := at_L10 HR0_2.out x6_4 p164 q164
               cases e164
               replace hx164_0 := zx HB hx164_0
               have HR164_0 := Aside0.mk hi164_0
               have HC164_0 := Aside0.mk hl164_0
               clear hi164_0 hl164_0
               replace p164 := eq_true p164
               replace q164 := eq_true q164
               go_wp2_with (first | ((with_reducible refine gate_callee (f := 43) rfl ?_); refine zc (some 119) Tryz.func43 #[.slice A164_0 (rd_L10 l0_2 x6_4).length c164_0] ?_; (with_reducible refine (spec_ExprOk.calls k4 _ _ (rd_L10 l0_2 x6_4) true _ ?side1 ?side2 A65.out).mono ?_); (case side1 => repeat (first | exact (Kd.C_below HR164_0.out HB.out) | (with_reducible refine Kd.C_alloc ?_ _) | (with_reducible refine Kd.C_drewN ?_ _) | (with_reducible refine Kd.C_drew ?_))); (case side2 => exact HC164_0.out); rintro e w68 ⟨rfl, hb⟩; refine ⟨_, rfl, ?_⟩; replace BK151 := zk BK151 hb; replace HB := zt w hb; (try clear hb); (try clear hb2); (try clear hk); (try clear hi)))
               go_roundg k4
               case measure => have := HJ1.out; have := HK2.out; have := HK3.out; have := HK4.out; omega
               case rel => exact ⟨(wrap64 (x6_4 + 1)), (zE _), H', ⟨by have := HJ1.out; have := HK2.out; have := HK3.out; have := HK4.out; omega⟩, ⟨zr BK151⟩, ⟨zb _⟩⟩
              ·replace c66 := Bool.eq_false_iff.mpr c66
               subst c66
               rw [if_neg (show ¬ (false = true) by decide)] at H
               obtain rfl := Option.some.inj H
               obtain ⟨hcz69_0, hcz69_1, hcz69_2, hfz69_0, hfz69_1, hfz69_2⟩ := zF3 BK151
               have p164 : 0 ≤ (x6_4 : Int) := of_decide_eq_true (za _)
               have q164 : x6_4 < (l0_2.length : Int) := of_decide_eq_true (za _)
               obtain ⟨ad164, A164_0, c164_0, e164, hx164_0, hl164_0, hi164_0⟩ := at_L10 HR0_2.out x6_4 p164 q164
               cases e164
               replace hx164_0 := zx HB hx164_0
               have HR164_0 := Aside0.mk hi164_0
               have HC164_0 := Aside0.mk hl164_0
               clear hi164_0 hl164_0
               replace p164 := eq_true p164
               replace q164 := eq_true q164
               go_wp2_with (first | ((with_reducible refine gate_callee (f := 43) rfl ?_); refine zc (some 119) Tryz.func43 #[.slice A164_0 (rd_L10 l0_2 x6_4).length c164_0] ?_; (with_reducible refine (spec_ExprOk.calls k4 _ _ (rd_L10 l0_2 x6_4) false _ ?side1 ?side2 A65.out).mono ?_); (case side1 => repeat (first | exact (Kd.C_below HR164_0.out HB.out) | (with_reducible refine Kd.C_alloc ?_ _) | (with_reducible refine Kd.C_drewN ?_ _) | (with_reducible refine Kd.C_drew ?_))); (case side2 => exact HC164_0.out); rintro e w70 ⟨rfl, hb⟩; refine ⟨_, rfl, ?_⟩; replace BK151 := zk BK151 hb; replace HB := zt w hb; (try clear hb); (try clear hb2); (try clear hk); (try clear hi)))
               go_ret
               exact ⟨ze _, zb _⟩
             ·rw [if_neg c64] at H
              exact absurd H (by simp)
            ·rw [if_neg c63] at H
             have c63b0 : decide (x6_4 < (l0_2.length : Int)) = false := decide_eq_false c63
             clear c63
             obtain rfl := Option.some.inj H
             obtain ⟨hcz71_0, hcz71_1, hcz71_2, hfz71_0, hfz71_1, hfz71_2⟩ := zF3 BK151
             go_wp2
             go_ret
             exact ⟨ze _, zb _⟩

end Go.Proofs.YtlacpadpdfccmaaGreatDoor.PFnExactObjectText
