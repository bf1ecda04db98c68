/- Contracts of functions of Go's library, laid over this translation out of the library's own theorems, in plain words. -/
import Derived.Shelf.Strings.Builder1
import Derived.Shelf.Strings.Builder2
import Derived.Shelf.Small.Bits
import Derived.Shelf.Strings.BuilderF
import Derived.Shelf.Strings.BuilderK
import Derived.Shelf.Strings.Builder2Cap
import Derived.Shelf.Strconv.Itoa0
import Derived.Shelf.Sort.Plain
import Derived.Shelf.Strings.Prefix
import Derived.Shelf.Bits.Mul64
import Derived.Shelf.Strings.Repeat
import Derived.Shelf.Strings.BuilderCap
import Derived.Shelf.Slices.CompactS
import Derived.Shelf.Slices.Cells
import Derived.Shelf.Slices.In.SortNone
import Derived.Test.YtffmpmgnkhlmdaaProg
namespace Go.Proofs
open Go.Shelf
def Try.lays105_ren : Go.Shelf.Ren := ⟨fun | 105 => 114 | 212 => 151 | 99 => 152 | 165 => 153 | 166 => 132 | 170 => 135 | 169 => 134 | 263 => 160 | 264 => 161 | 206 => 162 | 240 => 157 | 241 => 163 | 276 => 164 | 277 => 176 | n => n, fun | 9 => 9 | 3 => 3 | 4 => 4 | 20 => 20 | 0 => 0 | 46 => 158 | 109 => 192 | 5 => 5 | 72 => 169 | 76 => 172 | 51 => 198 | 146 => 202 | 53 => 204 | 148 => 205 | 70 => 167 | 37 => 92 | 75 => 171 | 127 => 199 | 164 => 207 | 80 => 175 | n => n, fun | n => n⟩
theorem Try.lays105 : Go.Proofs.Lays.n105 Try.prog Try.lays105_ren := {
  mixed := by kernel_rfl
  f99 := Try.func152.trans (congrArg some (by kernel_rfl))
  f105 := Try.func114.trans (congrArg some (by kernel_rfl))
  f165 := Try.func153.trans (congrArg some (by kernel_rfl))
  f166 := Try.func132.trans (congrArg some (by kernel_rfl))
  f169 := Try.func134.trans (congrArg some (by kernel_rfl))
  f170 := Try.func135.trans (congrArg some (by kernel_rfl))
  f206 := Try.func162.trans (congrArg some (by kernel_rfl))
  f212 := Try.func151.trans (congrArg some (by kernel_rfl))
  f240 := Try.func157.trans (congrArg some (by kernel_rfl))
  f241 := Try.func163.trans (congrArg some (by kernel_rfl))
  f263 := Try.func160.trans (congrArg some (by kernel_rfl))
  f264 := Try.func161.trans (congrArg some (by kernel_rfl))
  f276 := Try.func164.trans (congrArg some (by kernel_rfl))
  f277 := Try.func176.trans (congrArg some (by kernel_rfl))
  t0 := Try.underlying0
  a0 := Try.isAgg0
  z0 := Try.sizeOf0
  v0 := Try.zeroValue0
  t3 := Try.underlying3
  a3 := Try.isAgg3
  z3 := Try.sizeOf3
  v3 := Try.zeroValue3
  t4 := Try.underlying4
  a4 := Try.isAgg4
  z4 := Try.sizeOf4
  v4 := Try.zeroValue4
  t5 := Try.underlying5
  a5 := Try.isAgg5
  z5 := Try.sizeOf5
  v5 := Try.zeroValue5
  t9 := Try.underlying9
  a9 := Try.isAgg9
  z9 := Try.sizeOf9
  v9 := Try.zeroValue9
  t20 := Try.underlying20
  a20 := Try.isAgg20
  z20 := Try.sizeOf20
  v20 := Try.zeroValue20
  t37 := Try.underlying92
  a37 := Try.isAgg92
  z37 := Try.sizeOf92
  v37 := Try.zeroValue92
  t46 := Try.underlying158
  a46 := Try.isAgg158
  z46 := Try.sizeOf158
  v46 := Try.zeroValue158
  t51 := Try.underlying198
  a51 := Try.isAgg198
  z51 := Try.sizeOf198
  v51 := Try.zeroValue198
  t53 := Try.underlying204
  a53 := Try.isAgg204
  z53 := Try.sizeOf204
  v53 := Try.zeroValue204
  t70 := Try.underlying167
  a70 := Try.isAgg167
  z70 := Try.sizeOf167
  v70 := Try.zeroValue167
  t72 := Try.underlying169
  a72 := Try.isAgg169
  z72 := Try.sizeOf169
  v72 := Try.zeroValue169
  t75 := Try.underlying171
  a75 := Try.isAgg171
  z75 := Try.sizeOf171
  v75 := Try.zeroValue171
  t76 := Try.underlying172
  a76 := Try.isAgg172
  z76 := Try.sizeOf172
  v76 := Try.zeroValue172
  t109 := Try.underlying192
  a109 := Try.isAgg192
  z109 := Try.sizeOf192
  v109 := Try.zeroValue192
  t127 := Try.underlying199
  a127 := Try.isAgg199
  z127 := Try.sizeOf199
  v127 := Try.zeroValue199
  t146 := Try.underlying202
  a146 := Try.isAgg202
  z146 := Try.sizeOf202
  v146 := Try.zeroValue202
  t148 := Try.underlying205
  a148 := Try.isAgg205
  z148 := Try.sizeOf205
  v148 := Try.zeroValue205
  t164 := Try.underlying207
  a164 := Try.isAgg207
  z164 := Try.sizeOf207
  v164 := Try.zeroValue207 }
theorem Try.Builder_Extra_105 : Builder.Extra Try.prog Try.lays105_ren := {
  sizeBuilder := by kernel_rfl
  liesBuilder := by kernel_rfl
  t5 := Try.underlying5
  a5 := Try.isAgg5
  z5 := Try.sizeOf5
  v5 := Try.zeroValue5
  infoByte := by kernel_rfl
  cellsByte := by kernel_rfl
  sizeByte := by kernel_rfl
  neB5 := by decide }
open Go.RowKit Go.Lib in
/-- **strings.Repeat: count ≥ 0, the result within one allocation: count copies of s.** (LAID: no walk: one application.) -/
theorem Try.strings_Repeat (s : ByteArray) (c : Nat) (w : World) (hc : c ≤ 9223372036854775807) (hlen : s.size * c ≤ 140737488355328) :
    Calls Try.prog 114 #[.string s, .int .i64 c] w fun e w' => e = .returned (.string ⟨(Lib.repeatL s.data.toList c).toArray⟩) ∧ Below w.heap.size w w' := Any.strings_Repeat Try.lays105 Try.Builder_Extra_105 s c w hc hlen
end Go.Proofs
