/- Contracts of functions of Go's library, laid over this translation out of the library's own theorems, in plain words. -/
import Derived.Shelf.Strings.Builder1
import Derived.Shelf.Strings.Builder2
import Derived.Shelf.Strings.OnBuilder
import Derived.Shelf.Small.Utf8
import Derived.Shelf.Small.Strs
import Derived.Shelf.Small.Wraps
import Derived.Shelf.Strings.BuilderF
import Derived.Shelf.Strings.BuilderK
import Derived.Shelf.Strings.BuilderRune
import Derived.Shelf.Utf8.AppendRune
import Derived.Shelf.Utf8.AppendRunePlain
import Derived.Shelf.Utf8.RuneCount
import Derived.Shelf.Strings.Builder2Cap
import Derived.Shelf.Strconv.Itoa0
import Derived.Shelf.Strconv.Itoa1
import Derived.Shelf.LaysM
import Derived.Shelf.Strconv.Itoa2
import Derived.Shelf.Strconv.Itoa3
import Derived.Shelf.Strconv.Itoa4
import Derived.Shelf.Strconv.ParseIntEmpty
import Derived.Shelf.Strconv.Clone
import Derived.Shelf.Strconv.SyntaxError
import Derived.Shelf.LaysC
import Derived.Shelf.Strconv.ToError
import Derived.Shelf.Strconv.Lower
import Derived.Shelf.Strconv.ParseUint10
import Derived.Shelf.Strconv.ParseUint10Empty
import Derived.Shelf.Strconv.ParseUint10Any
import Derived.Shelf.Strconv.ParseInt10
import Derived.Shelf.Strconv.RangeError
import Derived.Shelf.Strconv.ToErrorRange
import Derived.Shelf.Strconv.ParseUintEmpty
import Derived.Shelf.Strconv.ParseUint10b64
import Derived.Shelf.Strconv.ParseUint10b32
import Derived.Shelf.Strconv.ParseUint10b16
import Derived.Shelf.Strconv.ParseUint10b8
import Derived.Shelf.Strconv.ParseUint10At
import Derived.Shelf.Strconv.ParseInt10At64
import Derived.Shelf.Strconv.ParseInt10At32
import Derived.Shelf.Strconv.ParseInt10At16
import Derived.Shelf.Strconv.ParseInt10At8
import Derived.Shelf.Strconv.ParseInt10All
import Derived.Shelf.Strconv.ParseIntPublic10
import Derived.Shelf.Strconv.ErrVarParseInt
import Derived.Shelf.Strings.Search1
import Derived.Shelf.Strings.Search2
import Derived.Shelf.Strings.Search3
import Derived.Shelf.Strings.Count
import Derived.Shelf.Strings.Shaped
import Derived.Shelf.Strings.Prefix
import Derived.Shelf.Strings.Split
import Derived.Shelf.Strings.SplitShaped
import Derived.Shelf.Unicode.Latin
import Derived.Shelf.Unicode.Decode
import Derived.Shelf.Strings.RuneCount
import Derived.Shelf.Strings.Explode
import Derived.Shelf.Bits.Mul64
import Derived.Shelf.Strings.Repeat
import Derived.Shelf.Unicode.DecodeSlow
import Derived.Shelf.Unicode.DecodeAny
import Derived.Shelf.Unicode.CaseLookup
import Derived.Shelf.Unicode.CaseConvert
import Derived.Shelf.Unicode.CaseTo
import Derived.Shelf.Unicode.CaseLaid
import Derived.Shelf.Strings.MapAny
import Derived.Shelf.Strings.CaseAny
import Derived.Shelf.Strings.BuilderCap
import Derived.Shelf.Strings.MapGrows
import Derived.Shelf.Slices.Turned
import Derived.Test.YtlacpadpdfccmaaGreatDoorProg
namespace Go.Proofs
open Go.Shelf
def Tryz.lays169_ren:Go.Shelf.Ren:=⟨fun|169=>63|n=>n,fun|70=>88|9=>9|0=>0|72=>91|37=>89|127=>136|3=>3|5=>5|n=>n,fun|n=>n⟩
theorem Tryz.lays169:Go.Proofs.Lays.n169 Tryz.prog Tryz.lays169_ren:={
  mixed:=by kernel_rfl
  f169:=Tryz.func63.trans (congrArg some (by kernel_rfl))
  t0:=Tryz.underlying0
  a0:=Tryz.isAgg0
  z0:=Tryz.sizeOf0
  v0:=Tryz.zeroValue0
  t3:=Tryz.underlying3
  a3:=Tryz.isAgg3
  z3:=Tryz.sizeOf3
  v3:=Tryz.zeroValue3
  t9:=Tryz.underlying9
  a9:=Tryz.isAgg9
  z9:=Tryz.sizeOf9
  v9:=Tryz.zeroValue9
  t37:=Tryz.underlying89
  a37:=Tryz.isAgg89
  z37:=Tryz.sizeOf89
  v37:=Tryz.zeroValue89
  t70:=Tryz.underlying88
  a70:=Tryz.isAgg88
  z70:=Tryz.sizeOf88
  v70:=Tryz.zeroValue88
  t72:=Tryz.underlying91
  a72:=Tryz.isAgg91
  z72:=Tryz.sizeOf91
  v72:=Tryz.zeroValue91
  t127:=Tryz.underlying136
  a127:=Tryz.isAgg136
  z127:=Tryz.sizeOf136
  v127:=Tryz.zeroValue136}
theorem Tryz.Builder_Extra_169:Builder.Extra Tryz.prog Tryz.lays169_ren:={
  sizeBuilder:=by kernel_rfl
  liesBuilder:=by kernel_rfl
  t5:=Tryz.underlying5
  a5:=Tryz.isAgg5
  z5:=Tryz.sizeOf5
  v5:=Tryz.zeroValue5
  infoByte:=by kernel_rfl
  cellsByte:=by kernel_rfl
  sizeByte:=by kernel_rfl
  neB5:=by decide}
open Go.RowKit in
theorem Tryz.Builder_String_any(B b:Nat)(l:List UInt8)(w:World)(h:Lib.IsBuilder 91 5 B b (Lib.byteCells l) w)(hBw:B<=w.heap.size) :
    Calls Tryz.prog 63 #[.pointer (some ⟨b,0,none⟩)] w fun e w'=>e = .returned (.string ⟨l.toArray⟩)/\Below B w w':=Any.Builder_String_any Tryz.lays169 Tryz.Builder_Extra_169 B b l w h hBw
def Tryz.lays158_ren:Go.Shelf.Ren:=⟨fun|158=>127|165=>117|166=>58|167=>146|169=>63|230=>147|203=>148|240=>102|241=>138|197=>131|118=>169|168=>170|270=>171|262=>172|276=>125|277=>161|260=>150|242=>182|313=>183|278=>185|274=>186|275=>187|n=>n,fun|9=>9|4=>4|3=>3|5=>5|72=>91|0=>0|76=>94|75=>93|107=>177|70=>88|20=>20|37=>89|127=>136|21=>21|105=>160|164=>155|162=>213|203=>211|119=>200|46=>164|139=>203|138=>202|51=>187|160=>219|208=>225|206=>223|80=>97|n=>n,fun|13=>6|3=>2|4=>3|n=>n⟩
theorem Tryz.lays158:Go.Proofs.Lays.n158 Tryz.prog Tryz.lays158_ren:={
  mixed:=by kernel_rfl
  f118:=Tryz.func169.trans (congrArg some (by kernel_rfl))
  f158:=Tryz.func127.trans (congrArg some (by kernel_rfl))
  f165:=Tryz.func117.trans (congrArg some (by kernel_rfl))
  f166:=Tryz.func58.trans (congrArg some (by kernel_rfl))
  f167:=Tryz.func146.trans (congrArg some (by kernel_rfl))
  f168:=Tryz.func170.trans (congrArg some (by kernel_rfl))
  f169:=Tryz.func63.trans (congrArg some (by kernel_rfl))
  f197:=Tryz.func131.trans (congrArg some (by kernel_rfl))
  f203:=Tryz.func148.trans (congrArg some (by kernel_rfl))
  f230:=Tryz.func147.trans (congrArg some (by kernel_rfl))
  f240:=Tryz.func102.trans (congrArg some (by kernel_rfl))
  f241:=Tryz.func138.trans (congrArg some (by kernel_rfl))
  f242:=Tryz.func182.trans (congrArg some (by kernel_rfl))
  f260:=Tryz.func150.trans (congrArg some (by kernel_rfl))
  f262:=Tryz.func172.trans (congrArg some (by kernel_rfl))
  f270:=Tryz.func171.trans (congrArg some (by kernel_rfl))
  f274:=Tryz.func186.trans (congrArg some (by kernel_rfl))
  f275:=Tryz.func187.trans (congrArg some (by kernel_rfl))
  f276:=Tryz.func125.trans (congrArg some (by kernel_rfl))
  f277:=Tryz.func161.trans (congrArg some (by kernel_rfl))
  f278:=Tryz.func185.trans (congrArg some (by kernel_rfl))
  f313:=Tryz.func183.trans (congrArg some (by kernel_rfl))
  t0:=Tryz.underlying0
  a0:=Tryz.isAgg0
  z0:=Tryz.sizeOf0
  v0:=Tryz.zeroValue0
  t3:=Tryz.underlying3
  a3:=Tryz.isAgg3
  z3:=Tryz.sizeOf3
  v3:=Tryz.zeroValue3
  t4:=Tryz.underlying4
  a4:=Tryz.isAgg4
  z4:=Tryz.sizeOf4
  v4:=Tryz.zeroValue4
  t5:=Tryz.underlying5
  a5:=Tryz.isAgg5
  z5:=Tryz.sizeOf5
  v5:=Tryz.zeroValue5
  t9:=Tryz.underlying9
  a9:=Tryz.isAgg9
  z9:=Tryz.sizeOf9
  v9:=Tryz.zeroValue9
  t20:=Tryz.underlying20
  a20:=Tryz.isAgg20
  z20:=Tryz.sizeOf20
  v20:=Tryz.zeroValue20
  t21:=Tryz.underlying21
  a21:=Tryz.isAgg21
  z21:=Tryz.sizeOf21
  v21:=Tryz.zeroValue21
  t37:=Tryz.underlying89
  a37:=Tryz.isAgg89
  z37:=Tryz.sizeOf89
  v37:=Tryz.zeroValue89
  t46:=Tryz.underlying164
  a46:=Tryz.isAgg164
  z46:=Tryz.sizeOf164
  v46:=Tryz.zeroValue164
  t51:=Tryz.underlying187
  a51:=Tryz.isAgg187
  z51:=Tryz.sizeOf187
  v51:=Tryz.zeroValue187
  t70:=Tryz.underlying88
  a70:=Tryz.isAgg88
  z70:=Tryz.sizeOf88
  v70:=Tryz.zeroValue88
  t72:=Tryz.underlying91
  a72:=Tryz.isAgg91
  z72:=Tryz.sizeOf91
  v72:=Tryz.zeroValue91
  t75:=Tryz.underlying93
  a75:=Tryz.isAgg93
  z75:=Tryz.sizeOf93
  v75:=Tryz.zeroValue93
  t76:=Tryz.underlying94
  a76:=Tryz.isAgg94
  z76:=Tryz.sizeOf94
  v76:=Tryz.zeroValue94
  t105:=Tryz.underlying160
  a105:=Tryz.isAgg160
  z105:=Tryz.sizeOf160
  v105:=Tryz.zeroValue160
  t107:=Tryz.underlying177
  a107:=Tryz.isAgg177
  z107:=Tryz.sizeOf177
  v107:=Tryz.zeroValue177
  t119:=Tryz.underlying200
  a119:=Tryz.isAgg200
  z119:=Tryz.sizeOf200
  t127:=Tryz.underlying136
  a127:=Tryz.isAgg136
  z127:=Tryz.sizeOf136
  v127:=Tryz.zeroValue136
  t138:=Tryz.underlying202
  a138:=Tryz.isAgg202
  z138:=Tryz.sizeOf202
  v138:=Tryz.zeroValue202
  t139:=Tryz.underlying203
  a139:=Tryz.isAgg203
  z139:=Tryz.sizeOf203
  v139:=Tryz.zeroValue203
  t160:=Tryz.underlying219
  a160:=Tryz.isAgg219
  z160:=Tryz.sizeOf219
  v160:=Tryz.zeroValue219
  t162:=Tryz.underlying213
  a162:=Tryz.isAgg213
  z162:=Tryz.sizeOf213
  v162:=Tryz.zeroValue213
  t164:=Tryz.underlying155
  a164:=Tryz.isAgg155
  z164:=Tryz.sizeOf155
  v164:=Tryz.zeroValue155
  t203:=Tryz.underlying211
  a203:=Tryz.isAgg211
  z203:=Tryz.sizeOf211
  v203:=Tryz.zeroValue211
  t206:=Tryz.underlying223
  a206:=Tryz.isAgg223
  z206:=Tryz.sizeOf223
  v206:=Tryz.zeroValue223
  t208:=Tryz.underlying225
  a208:=Tryz.isAgg225
  z208:=Tryz.sizeOf225
  v208:=Tryz.zeroValue225
  g3:=by kernel_rfl
  g4:=by kernel_rfl
  g13:=by kernel_rfl}
theorem Tryz.Builder_Extra_158:Builder.Extra Tryz.prog Tryz.lays158_ren:={
  sizeBuilder:=by kernel_rfl
  liesBuilder:=by kernel_rfl
  t5:=Tryz.underlying5
  a5:=Tryz.isAgg5
  z5:=Tryz.sizeOf5
  v5:=Tryz.zeroValue5
  infoByte:=by kernel_rfl
  cellsByte:=by kernel_rfl
  sizeByte:=by kernel_rfl
  neB5:=by decide}
open Go.RowKit in
theorem Tryz.strings_ToUpper_ascii(s:ByteArray)(w:World)(hs:s.size<=140737488355328)(hascii:∀(j:Nat) (b:UInt8),s.data.toList[j]?=some b->b.toNat<128) :
    Calls Tryz.prog 127 #[.string s] w fun e w'=>e = .returned (.string ⟨(Lib.toUpperA s.data.toList).toArray⟩)/\Below w.heap.size w w':=Any.strings_ToUpper_ascii Tryz.lays158 Tryz.Builder_Extra_158 s w hs hascii
def Tryz.lays156_ren:Go.Shelf.Ren:=⟨fun|156=>75|165=>117|166=>58|169=>63|240=>102|241=>138|276=>125|277=>161|n=>n,fun|31=>54|9=>9|3=>3|4=>4|0=>0|20=>20|72=>91|76=>94|70=>88|37=>89|75=>93|127=>136|164=>155|5=>5|80=>97|n=>n,fun|n=>n⟩
theorem Tryz.lays156:Go.Proofs.Lays.n156 Tryz.prog Tryz.lays156_ren:={
  mixed:=by kernel_rfl
  f156:=Tryz.func75.trans (congrArg some (by kernel_rfl))
  f165:=Tryz.func117.trans (congrArg some (by kernel_rfl))
  f166:=Tryz.func58.trans (congrArg some (by kernel_rfl))
  f169:=Tryz.func63.trans (congrArg some (by kernel_rfl))
  f240:=Tryz.func102.trans (congrArg some (by kernel_rfl))
  f241:=Tryz.func138.trans (congrArg some (by kernel_rfl))
  f276:=Tryz.func125.trans (congrArg some (by kernel_rfl))
  f277:=Tryz.func161.trans (congrArg some (by kernel_rfl))
  t0:=Tryz.underlying0
  a0:=Tryz.isAgg0
  z0:=Tryz.sizeOf0
  v0:=Tryz.zeroValue0
  t3:=Tryz.underlying3
  a3:=Tryz.isAgg3
  z3:=Tryz.sizeOf3
  v3:=Tryz.zeroValue3
  t4:=Tryz.underlying4
  a4:=Tryz.isAgg4
  z4:=Tryz.sizeOf4
  v4:=Tryz.zeroValue4
  t9:=Tryz.underlying9
  a9:=Tryz.isAgg9
  z9:=Tryz.sizeOf9
  v9:=Tryz.zeroValue9
  t20:=Tryz.underlying20
  a20:=Tryz.isAgg20
  z20:=Tryz.sizeOf20
  v20:=Tryz.zeroValue20
  t31:=Tryz.underlying54
  a31:=Tryz.isAgg54
  z31:=Tryz.sizeOf54
  v31:=Tryz.zeroValue54
  t37:=Tryz.underlying89
  a37:=Tryz.isAgg89
  z37:=Tryz.sizeOf89
  v37:=Tryz.zeroValue89
  t70:=Tryz.underlying88
  a70:=Tryz.isAgg88
  z70:=Tryz.sizeOf88
  v70:=Tryz.zeroValue88
  t72:=Tryz.underlying91
  a72:=Tryz.isAgg91
  z72:=Tryz.sizeOf91
  v72:=Tryz.zeroValue91
  t75:=Tryz.underlying93
  a75:=Tryz.isAgg93
  z75:=Tryz.sizeOf93
  v75:=Tryz.zeroValue93
  t76:=Tryz.underlying94
  a76:=Tryz.isAgg94
  z76:=Tryz.sizeOf94
  v76:=Tryz.zeroValue94
  t127:=Tryz.underlying136
  a127:=Tryz.isAgg136
  z127:=Tryz.sizeOf136
  v127:=Tryz.zeroValue136
  t164:=Tryz.underlying155
  a164:=Tryz.isAgg155
  z164:=Tryz.sizeOf155
  v164:=Tryz.zeroValue155}
theorem Tryz.Builder_Extra_156:Builder.Extra Tryz.prog Tryz.lays156_ren:={
  sizeBuilder:=by kernel_rfl
  liesBuilder:=by kernel_rfl
  t5:=Tryz.underlying5
  a5:=Tryz.isAgg5
  z5:=Tryz.sizeOf5
  v5:=Tryz.zeroValue5
  infoByte:=by kernel_rfl
  cellsByte:=by kernel_rfl
  sizeByte:=by kernel_rfl
  neB5:=by decide}
open Go.RowKit in
theorem Tryz.strings_Join_none(a:Option Addr)(c:Nat)(sep:ByteArray)(w:World) :
    Calls Tryz.prog 75 #[.slice a 0 c,.string sep] w fun e w'=>e = .returned (.string ⟨#[]⟩)/\w'=w:=Any.strings_Join_none Tryz.lays156 Tryz.Builder_Extra_156 a c sep w
open Go.RowKit in
theorem Tryz.strings_Join(bk o c:Nat)(xs:List ByteArray)(sep:ByteArray)(w:World)(hcells:∀(j:Nat) x,xs[j]?=some x->w.cell? ⟨bk,o+j,none⟩=some (.string x))(hbk:bk<w.heap.size)(hN:xs.length<=140737488355328)(hcap:xs.length<=c)(hlen:(Lib.join (xs.map (·.data.toList)) sep.data.toList).length<=140737488355328) :
    Calls Tryz.prog 75 #[.slice (some ⟨bk,o,none⟩) xs.length c,.string sep] w fun e w'=>e = .returned (.string ⟨(Lib.join (xs.map (·.data.toList)) sep.data.toList).toArray⟩)/\Below w.heap.size w w':=Any.strings_Join Tryz.lays156 Tryz.Builder_Extra_156 bk o c xs sep w hcells hbk hN hcap hlen
def Tryz.lays137_ren:Go.Shelf.Ren:=⟨fun|137=>136|217=>151|266=>173|n=>n,fun|9=>9|5=>5|3=>3|n=>n,fun|n=>n⟩
theorem Tryz.lays137:Go.Proofs.Lays.n137 Tryz.prog Tryz.lays137_ren:={
  mixed:=by kernel_rfl
  f137:=Tryz.func136.trans (congrArg some (by kernel_rfl))
  f217:=Tryz.func151.trans (congrArg some (by kernel_rfl))
  f266:=Tryz.func173.trans (congrArg some (by kernel_rfl))
  t3:=Tryz.underlying3
  a3:=Tryz.isAgg3
  z3:=Tryz.sizeOf3
  v3:=Tryz.zeroValue3
  t5:=Tryz.underlying5
  a5:=Tryz.isAgg5
  z5:=Tryz.sizeOf5
  v5:=Tryz.zeroValue5
  t9:=Tryz.underlying9
  a9:=Tryz.isAgg9
  z9:=Tryz.sizeOf9
  v9:=Tryz.zeroValue9}
open Go.RowKit in
theorem Tryz.strings_IndexByte(s:ByteArray)(c:Int)(w:World) :
    Calls Tryz.prog 136 #[.string s,.int .u8 c] w fun e w'=>e = .returned (.int .i64 (Lib.indexByte s.data.toList c.toNat.toUInt8))/\w'=w:=Any.strings_IndexByte Tryz.lays137 s c w
def Tryz.lays210_ren:Go.Shelf.Ren:=⟨fun|210=>137|206=>160|n=>n,fun|9=>9|4=>4|3=>3|n=>n,fun|n=>n⟩
theorem Tryz.lays210:Go.Proofs.Lays.n210 Tryz.prog Tryz.lays210_ren:={
  mixed:=by kernel_rfl
  f206:=Tryz.func160.trans (congrArg some (by kernel_rfl))
  f210:=Tryz.func137.trans (congrArg some (by kernel_rfl))
  t3:=Tryz.underlying3
  a3:=Tryz.isAgg3
  z3:=Tryz.sizeOf3
  v3:=Tryz.zeroValue3
  t4:=Tryz.underlying4
  a4:=Tryz.isAgg4
  z4:=Tryz.sizeOf4
  v4:=Tryz.zeroValue4
  t9:=Tryz.underlying9
  a9:=Tryz.isAgg9
  z9:=Tryz.sizeOf9
  v9:=Tryz.zeroValue9}
open Go.RowKit in
theorem Tryz.stringslite_CutPrefix(s p:ByteArray)(w:World) :
    Calls Tryz.prog 137 #[.string s,.string p] w fun e w'=>e = .returned (.tuple #[.string ⟨(Lib.trimPrefix s.data.toList p.data.toList).toArray⟩,.bool (Lib.hasPrefix s.data.toList p.data.toList)])/\w'=w:=Any.stringslite_CutPrefix Tryz.lays210 s p w
def Tryz.lays103_ren:Go.Shelf.Ren:=⟨fun|103=>115|210=>137|206=>160|n=>n,fun|9=>9|4=>4|24=>104|3=>3|n=>n,fun|n=>n⟩
theorem Tryz.lays103:Go.Proofs.Lays.n103 Tryz.prog Tryz.lays103_ren:={
  mixed:=by kernel_rfl
  f103:=Tryz.func115.trans (congrArg some (by kernel_rfl))
  f206:=Tryz.func160.trans (congrArg some (by kernel_rfl))
  f210:=Tryz.func137.trans (congrArg some (by kernel_rfl))
  t3:=Tryz.underlying3
  a3:=Tryz.isAgg3
  z3:=Tryz.sizeOf3
  v3:=Tryz.zeroValue3
  t4:=Tryz.underlying4
  a4:=Tryz.isAgg4
  z4:=Tryz.sizeOf4
  v4:=Tryz.zeroValue4
  t9:=Tryz.underlying9
  a9:=Tryz.isAgg9
  z9:=Tryz.sizeOf9
  v9:=Tryz.zeroValue9
  t24:=Tryz.underlying104
  a24:=Tryz.isAgg104
  z24:=Tryz.sizeOf104
  v24:=Tryz.zeroValue104}
open Go.RowKit in
theorem Tryz.strings_CutPrefix(s p:ByteArray)(w:World) :
    Calls Tryz.prog 115 #[.string s,.string p] w fun e w'=>e = .returned (.tuple #[.string ⟨(Lib.trimPrefix s.data.toList p.data.toList).toArray⟩,.bool (Lib.hasPrefix s.data.toList p.data.toList)])/\w'=w:=Any.strings_CutPrefix Tryz.lays103 s p w
open Go.RowKit in
theorem Tryz.Builder_String_any_f(B b:Nat)(l:List UInt8)(w:World)(h:Lib.IsBuilderF 91 5 B b (Lib.byteCells l) w)(hBw:B<=w.heap.size) :
    Calls Tryz.prog 63 #[.pointer (some ⟨b,0,none⟩)] w fun e w'=>e = .returned (.string ⟨l.toArray⟩)/\(Lib.IsBuilderF 91 5 B b (Lib.byteCells l) w'/\Below B w w'):=Any.Builder_String_any_f Tryz.lays169 Tryz.Builder_Extra_169 B b l w h hBw
def Tryz.laysM173_ren:Go.Shelf.Ren:=⟨fun|173=>103|246=>126|283=>142|284=>143|285=>144|286=>145|129=>165|317=>164|318=>166|319=>167|320=>168|337=>180|338=>181|n=>n,fun|2=>2|3=>3|9=>9|4=>4|171=>169|0=>0|53=>170|37=>89|5=>5|173=>173|212=>193|51=>187|20=>20|213=>194|46=>164|232=>217|233=>218|n=>n,fun|17=>1|18=>7|19=>8|n=>n⟩
theorem Tryz.laysM173:Go.Proofs.LaysM.n173 Tryz.prog Tryz.laysM173_ren:={
  mixed:=by kernel_rfl
  f129:=Tryz.func165.trans (congrArg some (by kernel_rfl))
  f173:=Tryz.func103.trans (congrArg some (by kernel_rfl))
  f246:=Tryz.func126.trans (congrArg some (by kernel_rfl))
  f283:=Tryz.func142.trans (congrArg some (by kernel_rfl))
  f284:=Tryz.func143.trans (congrArg some (by kernel_rfl))
  f285:=Tryz.func144.trans (congrArg some (by kernel_rfl))
  f286:=Tryz.func145.trans (congrArg some (by kernel_rfl))
  f317:=Tryz.func164.trans (congrArg some (by kernel_rfl))
  f318:=Tryz.func166.trans (congrArg some (by kernel_rfl))
  f319:=Tryz.func167.trans (congrArg some (by kernel_rfl))
  f320:=Tryz.func168.trans (congrArg some (by kernel_rfl))
  f337:=Tryz.func180.trans (congrArg some (by kernel_rfl))
  f338:=Tryz.func181.trans (congrArg some (by kernel_rfl))
  t0:=Tryz.underlying0
  a0:=Tryz.isAgg0
  z0:=Tryz.sizeOf0
  v0:=Tryz.zeroValue0
  t2:=Tryz.underlying2
  a2:=Tryz.isAgg2
  z2:=Tryz.sizeOf2
  v2:=Tryz.zeroValue2
  t3:=Tryz.underlying3
  a3:=Tryz.isAgg3
  z3:=Tryz.sizeOf3
  v3:=Tryz.zeroValue3
  t4:=Tryz.underlying4
  a4:=Tryz.isAgg4
  z4:=Tryz.sizeOf4
  v4:=Tryz.zeroValue4
  t5:=Tryz.underlying5
  a5:=Tryz.isAgg5
  z5:=Tryz.sizeOf5
  v5:=Tryz.zeroValue5
  t9:=Tryz.underlying9
  a9:=Tryz.isAgg9
  z9:=Tryz.sizeOf9
  v9:=Tryz.zeroValue9
  t20:=Tryz.underlying20
  a20:=Tryz.isAgg20
  z20:=Tryz.sizeOf20
  v20:=Tryz.zeroValue20
  t37:=Tryz.underlying89
  a37:=Tryz.isAgg89
  z37:=Tryz.sizeOf89
  v37:=Tryz.zeroValue89
  t46:=Tryz.underlying164
  a46:=Tryz.isAgg164
  z46:=Tryz.sizeOf164
  v46:=Tryz.zeroValue164
  t51:=Tryz.underlying187
  a51:=Tryz.isAgg187
  z51:=Tryz.sizeOf187
  v51:=Tryz.zeroValue187
  t53:=Tryz.underlying170
  a53:=Tryz.isAgg170
  z53:=Tryz.sizeOf170
  v53:=Tryz.zeroValue170
  t171:=Tryz.underlying169
  a171:=Tryz.isAgg169
  z171:=Tryz.sizeOf169
  v171:=Tryz.zeroValue169
  t173:=Tryz.underlying173
  a173:=Tryz.isAgg173
  z173:=Tryz.sizeOf173
  v173:=Tryz.zeroValue173
  t212:=Tryz.underlying193
  a212:=Tryz.isAgg193
  z212:=Tryz.sizeOf193
  v212:=Tryz.zeroValue193
  t213:=Tryz.underlying194
  a213:=Tryz.isAgg194
  z213:=Tryz.sizeOf194
  t232:=Tryz.underlying217
  a232:=Tryz.isAgg217
  z232:=Tryz.sizeOf217
  v232:=Tryz.zeroValue217
  t233:=Tryz.underlying218
  a233:=Tryz.isAgg218
  z233:=Tryz.sizeOf218
  v233:=Tryz.zeroValue218
  g17:=by kernel_rfl
  g18:=by kernel_rfl
  g19:=by kernel_rfl
  i0:=by kernel_rfl
  i2:=by kernel_rfl
  i3:=by kernel_rfl
  i4:=by kernel_rfl
  i5:=by kernel_rfl
  i9:=by kernel_rfl
  i20:=by kernel_rfl
  i37:=by kernel_rfl
  i46:=by kernel_rfl
  i51:=by kernel_rfl
  i53:=by kernel_rfl
  i171:=by kernel_rfl
  i173:=by kernel_rfl
  i212:=by kernel_rfl
  i232:=by kernel_rfl
  i233:=by kernel_rfl
  m17:=by kernel_rfl
  m18:=by kernel_rfl
  m19:=by kernel_rfl}
open Go.RowKit Go.Sort Go.Lib in
theorem Tryz.strconv_FormatInt_10(n:Int)(h0:-9223372036854775808<=n)(h1:n<=9223372036854775807)(w:World)(htab:Lib.TabIs Tryz.prog w "internal/strconv.uint64pow10" .u64 Lib.pow10Tab) :
    Calls Tryz.prog 103 #[.int .i64 n,.int .i64 10] w fun e w'=>e = .returned (.string ⟨(Lib.itoa n).toArray⟩)/\∃ k os,w'=grow (w.drewN k) os:=Any.strconv_FormatInt_10 Tryz.laysM173 n h0 h1 w htab
open Go.RowKit in
def Tryz.laysC174_ren:Go.Shelf.Ren:=⟨fun|174=>113|247=>134|245=>135|287=>155|279=>156|280=>157|281=>158|282=>159|321=>175|322=>176|316=>177|171=>179|205=>178|243=>184|246=>126|283=>142|284=>143|285=>144|286=>145|129=>165|317=>164|318=>166|319=>167|320=>168|337=>180|338=>181|n=>n,fun|9=>9|3=>3|2=>2|75=>93|85=>142|4=>4|167=>180|5=>5|53=>170|175=>181|46=>164|168=>183|37=>89|0=>0|210=>207|21=>21|127=>136|145=>216|143=>214|171=>169|173=>173|212=>193|51=>187|20=>20|213=>194|232=>217|233=>218|80=>97|n=>n,fun|15=>4|16=>5|17=>1|18=>7|19=>8|n=>n⟩
theorem Tryz.laysC174:Go.Proofs.LaysC.n174 Tryz.prog Tryz.laysC174_ren:={
  mixed:=by kernel_rfl
  f129:=Tryz.func165.trans (congrArg some (by kernel_rfl))
  f171:=Tryz.func179.trans (congrArg some (by kernel_rfl))
  f174:=Tryz.func113.trans (congrArg some (by kernel_rfl))
  f205:=Tryz.func178.trans (congrArg some (by kernel_rfl))
  f243:=Tryz.func184.trans (congrArg some (by kernel_rfl))
  f245:=Tryz.func135.trans (congrArg some (by kernel_rfl))
  f246:=Tryz.func126.trans (congrArg some (by kernel_rfl))
  f247:=Tryz.func134.trans (congrArg some (by kernel_rfl))
  f279:=Tryz.func156.trans (congrArg some (by kernel_rfl))
  f280:=Tryz.func157.trans (congrArg some (by kernel_rfl))
  f281:=Tryz.func158.trans (congrArg some (by kernel_rfl))
  f282:=Tryz.func159.trans (congrArg some (by kernel_rfl))
  f283:=Tryz.func142.trans (congrArg some (by kernel_rfl))
  f284:=Tryz.func143.trans (congrArg some (by kernel_rfl))
  f285:=Tryz.func144.trans (congrArg some (by kernel_rfl))
  f286:=Tryz.func145.trans (congrArg some (by kernel_rfl))
  f287:=Tryz.func155.trans (congrArg some (by kernel_rfl))
  f316:=Tryz.func177.trans (congrArg some (by kernel_rfl))
  f317:=Tryz.func164.trans (congrArg some (by kernel_rfl))
  f318:=Tryz.func166.trans (congrArg some (by kernel_rfl))
  f319:=Tryz.func167.trans (congrArg some (by kernel_rfl))
  f320:=Tryz.func168.trans (congrArg some (by kernel_rfl))
  f321:=Tryz.func175.trans (congrArg some (by kernel_rfl))
  f322:=Tryz.func176.trans (congrArg some (by kernel_rfl))
  f337:=Tryz.func180.trans (congrArg some (by kernel_rfl))
  f338:=Tryz.func181.trans (congrArg some (by kernel_rfl))
  t0:=Tryz.underlying0
  a0:=Tryz.isAgg0
  z0:=Tryz.sizeOf0
  v0:=Tryz.zeroValue0
  t2:=Tryz.underlying2
  a2:=Tryz.isAgg2
  z2:=Tryz.sizeOf2
  v2:=Tryz.zeroValue2
  t3:=Tryz.underlying3
  a3:=Tryz.isAgg3
  z3:=Tryz.sizeOf3
  v3:=Tryz.zeroValue3
  t4:=Tryz.underlying4
  a4:=Tryz.isAgg4
  z4:=Tryz.sizeOf4
  v4:=Tryz.zeroValue4
  t5:=Tryz.underlying5
  a5:=Tryz.isAgg5
  z5:=Tryz.sizeOf5
  v5:=Tryz.zeroValue5
  t9:=Tryz.underlying9
  a9:=Tryz.isAgg9
  z9:=Tryz.sizeOf9
  v9:=Tryz.zeroValue9
  t20:=Tryz.underlying20
  a20:=Tryz.isAgg20
  z20:=Tryz.sizeOf20
  v20:=Tryz.zeroValue20
  t21:=Tryz.underlying21
  a21:=Tryz.isAgg21
  z21:=Tryz.sizeOf21
  v21:=Tryz.zeroValue21
  t37:=Tryz.underlying89
  a37:=Tryz.isAgg89
  z37:=Tryz.sizeOf89
  v37:=Tryz.zeroValue89
  t46:=Tryz.underlying164
  a46:=Tryz.isAgg164
  z46:=Tryz.sizeOf164
  v46:=Tryz.zeroValue164
  t51:=Tryz.underlying187
  a51:=Tryz.isAgg187
  z51:=Tryz.sizeOf187
  v51:=Tryz.zeroValue187
  t53:=Tryz.underlying170
  a53:=Tryz.isAgg170
  z53:=Tryz.sizeOf170
  v53:=Tryz.zeroValue170
  t75:=Tryz.underlying93
  a75:=Tryz.isAgg93
  z75:=Tryz.sizeOf93
  v75:=Tryz.zeroValue93
  t85:=Tryz.underlying142
  a85:=Tryz.isAgg142
  z85:=Tryz.sizeOf142
  v85:=Tryz.zeroValue142
  t127:=Tryz.underlying136
  a127:=Tryz.isAgg136
  z127:=Tryz.sizeOf136
  v127:=Tryz.zeroValue136
  t143:=Tryz.underlying214
  a143:=Tryz.isAgg214
  z143:=Tryz.sizeOf214
  v143:=Tryz.zeroValue214
  t145:=Tryz.underlying216
  a145:=Tryz.isAgg216
  z145:=Tryz.sizeOf216
  v145:=Tryz.zeroValue216
  t167:=Tryz.underlying180
  a167:=Tryz.isAgg180
  z167:=Tryz.sizeOf180
  v167:=Tryz.zeroValue180
  t168:=Tryz.underlying183
  a168:=Tryz.isAgg183
  z168:=Tryz.sizeOf183
  v168:=Tryz.zeroValue183
  t171:=Tryz.underlying169
  a171:=Tryz.isAgg169
  z171:=Tryz.sizeOf169
  v171:=Tryz.zeroValue169
  t173:=Tryz.underlying173
  a173:=Tryz.isAgg173
  z173:=Tryz.sizeOf173
  v173:=Tryz.zeroValue173
  t175:=Tryz.underlying181
  a175:=Tryz.isAgg181
  z175:=Tryz.sizeOf181
  v175:=Tryz.zeroValue181
  t210:=Tryz.underlying207
  a210:=Tryz.isAgg207
  z210:=Tryz.sizeOf207
  v210:=Tryz.zeroValue207
  t212:=Tryz.underlying193
  a212:=Tryz.isAgg193
  z212:=Tryz.sizeOf193
  v212:=Tryz.zeroValue193
  t213:=Tryz.underlying194
  a213:=Tryz.isAgg194
  z213:=Tryz.sizeOf194
  t232:=Tryz.underlying217
  a232:=Tryz.isAgg217
  z232:=Tryz.sizeOf217
  v232:=Tryz.zeroValue217
  t233:=Tryz.underlying218
  a233:=Tryz.isAgg218
  z233:=Tryz.sizeOf218
  v233:=Tryz.zeroValue218
  g15:=by kernel_rfl
  g16:=by kernel_rfl
  g17:=by kernel_rfl
  g18:=by kernel_rfl
  g19:=by kernel_rfl
  t80:=Tryz.underlying97
  a80:=Tryz.isAgg97
  z80:=Tryz.sizeOf97
  v80:=Tryz.zeroValue97
  i0:=by kernel_rfl
  i2:=by kernel_rfl
  i3:=by kernel_rfl
  i4:=by kernel_rfl
  i5:=by kernel_rfl
  i9:=by kernel_rfl
  i20:=by kernel_rfl
  i21:=by kernel_rfl
  i37:=by kernel_rfl
  i46:=by kernel_rfl
  i51:=by kernel_rfl
  i53:=by kernel_rfl
  i75:=by kernel_rfl
  i80:=by kernel_rfl
  i85:=by kernel_rfl
  i127:=by kernel_rfl
  i143:=by kernel_rfl
  i145:=by kernel_rfl
  i167:=by kernel_rfl
  i168:=by kernel_rfl
  i171:=by kernel_rfl
  i173:=by kernel_rfl
  i175:=by kernel_rfl
  i210:=by kernel_rfl
  i212:=by kernel_rfl
  i232:=by kernel_rfl
  i233:=by kernel_rfl
  m15:=by kernel_rfl
  m16:=by kernel_rfl
  m17:=by kernel_rfl
  m18:=by kernel_rfl
  m19:=by kernel_rfl
  c0:=by kernel_rfl
  c2:=by kernel_rfl
  c3:=by kernel_rfl
  c4:=by kernel_rfl
  c5:=by kernel_rfl
  c9:=by kernel_rfl
  c20:=by kernel_rfl
  c21:=by kernel_rfl
  c37:=by kernel_rfl
  c46:=by kernel_rfl
  c51:=by kernel_rfl
  c53:=by kernel_rfl
  c75:=by kernel_rfl
  c80:=by kernel_rfl
  c85:=by kernel_rfl
  c127:=by kernel_rfl
  c143:=by kernel_rfl
  c145:=by kernel_rfl
  c167:=by kernel_rfl
  c168:=by kernel_rfl
  c171:=by kernel_rfl
  c173:=by kernel_rfl
  c175:=by kernel_rfl
  c210:=by kernel_rfl
  c212:=by kernel_rfl
  c213:=by kernel_rfl
  c232:=by kernel_rfl
  c233:=by kernel_rfl}
def Tryz.lays206_ren:Go.Shelf.Ren:=⟨fun|206=>160|n=>n,fun|9=>9|4=>4|3=>3|n=>n,fun|n=>n⟩
theorem Tryz.lays206:Go.Proofs.Lays.n206 Tryz.prog Tryz.lays206_ren:={
  mixed:=by kernel_rfl
  f206:=Tryz.func160.trans (congrArg some (by kernel_rfl))
  t3:=Tryz.underlying3
  a3:=Tryz.isAgg3
  z3:=Tryz.sizeOf3
  v3:=Tryz.zeroValue3
  t4:=Tryz.underlying4
  a4:=Tryz.isAgg4
  z4:=Tryz.sizeOf4
  v4:=Tryz.zeroValue4
  t9:=Tryz.underlying9
  a9:=Tryz.isAgg9
  z9:=Tryz.sizeOf9
  v9:=Tryz.zeroValue9}
open Go.RowKit Go.Lib in
theorem Tryz.stringslite_HasPrefix(s p:ByteArray)(w:World) :
    Calls Tryz.prog 160 #[.string s,.string p] w fun e w'=>e = .returned (.bool (Lib.hasPrefix s.data.toList p.data.toList))/\w'=w:=Any.stringslite_HasPrefix Tryz.lays206 s p w
def Tryz.lays146_ren:Go.Shelf.Ren:=⟨fun|146=>29|221=>71|268=>110|138=>111|143=>112|195=>130|197=>131|218=>132|219=>133|260=>150|217=>151|225=>152|224=>153|267=>154|266=>173|314=>174|n=>n,fun|9=>9|31=>54|3=>3|4=>4|0=>0|105=>160|21=>21|5=>5|46=>164|119=>200|139=>203|138=>202|146=>188|51=>187|n=>n,fun|1=>0|3=>2|4=>3|n=>n⟩
theorem Tryz.lays146:Go.Proofs.Lays.n146 Tryz.prog Tryz.lays146_ren:={
  mixed:=by kernel_rfl
  f138:=Tryz.func111.trans (congrArg some (by kernel_rfl))
  f143:=Tryz.func112.trans (congrArg some (by kernel_rfl))
  f146:=Tryz.func29.trans (congrArg some (by kernel_rfl))
  f195:=Tryz.func130.trans (congrArg some (by kernel_rfl))
  f197:=Tryz.func131.trans (congrArg some (by kernel_rfl))
  f217:=Tryz.func151.trans (congrArg some (by kernel_rfl))
  f218:=Tryz.func132.trans (congrArg some (by kernel_rfl))
  f219:=Tryz.func133.trans (congrArg some (by kernel_rfl))
  f221:=Tryz.func71.trans (congrArg some (by kernel_rfl))
  f224:=Tryz.func153.trans (congrArg some (by kernel_rfl))
  f225:=Tryz.func152.trans (congrArg some (by kernel_rfl))
  f260:=Tryz.func150.trans (congrArg some (by kernel_rfl))
  f266:=Tryz.func173.trans (congrArg some (by kernel_rfl))
  f267:=Tryz.func154.trans (congrArg some (by kernel_rfl))
  f268:=Tryz.func110.trans (congrArg some (by kernel_rfl))
  f314:=Tryz.func174.trans (congrArg some (by kernel_rfl))
  t0:=Tryz.underlying0
  a0:=Tryz.isAgg0
  z0:=Tryz.sizeOf0
  v0:=Tryz.zeroValue0
  t3:=Tryz.underlying3
  a3:=Tryz.isAgg3
  z3:=Tryz.sizeOf3
  v3:=Tryz.zeroValue3
  t4:=Tryz.underlying4
  a4:=Tryz.isAgg4
  z4:=Tryz.sizeOf4
  v4:=Tryz.zeroValue4
  t5:=Tryz.underlying5
  a5:=Tryz.isAgg5
  z5:=Tryz.sizeOf5
  v5:=Tryz.zeroValue5
  t9:=Tryz.underlying9
  a9:=Tryz.isAgg9
  z9:=Tryz.sizeOf9
  v9:=Tryz.zeroValue9
  t21:=Tryz.underlying21
  a21:=Tryz.isAgg21
  z21:=Tryz.sizeOf21
  v21:=Tryz.zeroValue21
  t31:=Tryz.underlying54
  a31:=Tryz.isAgg54
  z31:=Tryz.sizeOf54
  v31:=Tryz.zeroValue54
  t46:=Tryz.underlying164
  a46:=Tryz.isAgg164
  z46:=Tryz.sizeOf164
  v46:=Tryz.zeroValue164
  t51:=Tryz.underlying187
  a51:=Tryz.isAgg187
  z51:=Tryz.sizeOf187
  v51:=Tryz.zeroValue187
  t105:=Tryz.underlying160
  a105:=Tryz.isAgg160
  z105:=Tryz.sizeOf160
  v105:=Tryz.zeroValue160
  t119:=Tryz.underlying200
  a119:=Tryz.isAgg200
  z119:=Tryz.sizeOf200
  t138:=Tryz.underlying202
  a138:=Tryz.isAgg202
  z138:=Tryz.sizeOf202
  v138:=Tryz.zeroValue202
  t139:=Tryz.underlying203
  a139:=Tryz.isAgg203
  z139:=Tryz.sizeOf203
  v139:=Tryz.zeroValue203
  t146:=Tryz.underlying188
  a146:=Tryz.isAgg188
  z146:=Tryz.sizeOf188
  v146:=Tryz.zeroValue188
  g1:=by kernel_rfl
  g3:=by kernel_rfl
  g4:=by kernel_rfl}
open Go.RowKit Go.Lib in
theorem Tryz.strings_Split(s sep:ByteArray)(m:Int)(w:World)(hs:s.size<4294967281)(hm:w.cell? ⟨0,0,none⟩=some (.int .i64 m))(h1:1<=sep.size) :
    Calls Tryz.prog 29 #[.string s,.string sep] w fun e w'=>
      e = .returned (.slice (some ⟨w.heap.size,0,none⟩) (Lib.countB s sep+1) (Lib.countB s sep+1))/\w'=w.alloc (.cells ((Lib.splitB sep 0 (Lib.countB s sep) s).map Value.string).toArray 9):=Any.strings_Split Tryz.lays146 (by kernel_rfl) s sep m w hs hm h1
def Tryz.lays203_ren:Go.Shelf.Ren:=⟨fun|203=>148|262=>172|313=>183|274=>186|275=>187|n=>n,fun|21=>21|4=>4|3=>3|162=>213|203=>211|160=>219|46=>164|0=>0|208=>225|51=>187|206=>223|n=>n,fun|13=>6|n=>n⟩
theorem Tryz.lays203:Go.Proofs.Lays.n203 Tryz.prog Tryz.lays203_ren:={
  mixed:=by kernel_rfl
  f203:=Tryz.func148.trans (congrArg some (by kernel_rfl))
  f262:=Tryz.func172.trans (congrArg some (by kernel_rfl))
  f274:=Tryz.func186.trans (congrArg some (by kernel_rfl))
  f275:=Tryz.func187.trans (congrArg some (by kernel_rfl))
  f313:=Tryz.func183.trans (congrArg some (by kernel_rfl))
  t0:=Tryz.underlying0
  a0:=Tryz.isAgg0
  z0:=Tryz.sizeOf0
  v0:=Tryz.zeroValue0
  t3:=Tryz.underlying3
  a3:=Tryz.isAgg3
  z3:=Tryz.sizeOf3
  v3:=Tryz.zeroValue3
  t4:=Tryz.underlying4
  a4:=Tryz.isAgg4
  z4:=Tryz.sizeOf4
  v4:=Tryz.zeroValue4
  t21:=Tryz.underlying21
  a21:=Tryz.isAgg21
  z21:=Tryz.sizeOf21
  v21:=Tryz.zeroValue21
  t46:=Tryz.underlying164
  a46:=Tryz.isAgg164
  z46:=Tryz.sizeOf164
  v46:=Tryz.zeroValue164
  t51:=Tryz.underlying187
  a51:=Tryz.isAgg187
  z51:=Tryz.sizeOf187
  v51:=Tryz.zeroValue187
  t160:=Tryz.underlying219
  a160:=Tryz.isAgg219
  z160:=Tryz.sizeOf219
  v160:=Tryz.zeroValue219
  t162:=Tryz.underlying213
  a162:=Tryz.isAgg213
  z162:=Tryz.sizeOf213
  v162:=Tryz.zeroValue213
  t203:=Tryz.underlying211
  a203:=Tryz.isAgg211
  z203:=Tryz.sizeOf211
  v203:=Tryz.zeroValue211
  t206:=Tryz.underlying223
  a206:=Tryz.isAgg223
  z206:=Tryz.sizeOf223
  v206:=Tryz.zeroValue223
  t208:=Tryz.underlying225
  a208:=Tryz.isAgg225
  z208:=Tryz.sizeOf225
  v208:=Tryz.zeroValue225
  g13:=by kernel_rfl}
def Tryz.lays105_ren:Go.Shelf.Ren:=⟨fun|105=>122|212=>139|99=>140|165=>117|166=>58|170=>141|169=>63|263=>162|264=>163|206=>160|240=>102|241=>138|276=>125|277=>161|n=>n,fun|9=>9|3=>3|4=>4|20=>20|0=>0|46=>164|109=>165|5=>5|72=>91|76=>94|51=>187|146=>188|53=>170|148=>190|70=>88|37=>89|75=>93|127=>136|164=>155|80=>97|n=>n,fun|n=>n⟩
theorem Tryz.lays105:Go.Proofs.Lays.n105 Tryz.prog Tryz.lays105_ren:={
  mixed:=by kernel_rfl
  f99:=Tryz.func140.trans (congrArg some (by kernel_rfl))
  f105:=Tryz.func122.trans (congrArg some (by kernel_rfl))
  f165:=Tryz.func117.trans (congrArg some (by kernel_rfl))
  f166:=Tryz.func58.trans (congrArg some (by kernel_rfl))
  f169:=Tryz.func63.trans (congrArg some (by kernel_rfl))
  f170:=Tryz.func141.trans (congrArg some (by kernel_rfl))
  f206:=Tryz.func160.trans (congrArg some (by kernel_rfl))
  f212:=Tryz.func139.trans (congrArg some (by kernel_rfl))
  f240:=Tryz.func102.trans (congrArg some (by kernel_rfl))
  f241:=Tryz.func138.trans (congrArg some (by kernel_rfl))
  f263:=Tryz.func162.trans (congrArg some (by kernel_rfl))
  f264:=Tryz.func163.trans (congrArg some (by kernel_rfl))
  f276:=Tryz.func125.trans (congrArg some (by kernel_rfl))
  f277:=Tryz.func161.trans (congrArg some (by kernel_rfl))
  t0:=Tryz.underlying0
  a0:=Tryz.isAgg0
  z0:=Tryz.sizeOf0
  v0:=Tryz.zeroValue0
  t3:=Tryz.underlying3
  a3:=Tryz.isAgg3
  z3:=Tryz.sizeOf3
  v3:=Tryz.zeroValue3
  t4:=Tryz.underlying4
  a4:=Tryz.isAgg4
  z4:=Tryz.sizeOf4
  v4:=Tryz.zeroValue4
  t5:=Tryz.underlying5
  a5:=Tryz.isAgg5
  z5:=Tryz.sizeOf5
  v5:=Tryz.zeroValue5
  t9:=Tryz.underlying9
  a9:=Tryz.isAgg9
  z9:=Tryz.sizeOf9
  v9:=Tryz.zeroValue9
  t20:=Tryz.underlying20
  a20:=Tryz.isAgg20
  z20:=Tryz.sizeOf20
  v20:=Tryz.zeroValue20
  t37:=Tryz.underlying89
  a37:=Tryz.isAgg89
  z37:=Tryz.sizeOf89
  v37:=Tryz.zeroValue89
  t46:=Tryz.underlying164
  a46:=Tryz.isAgg164
  z46:=Tryz.sizeOf164
  v46:=Tryz.zeroValue164
  t51:=Tryz.underlying187
  a51:=Tryz.isAgg187
  z51:=Tryz.sizeOf187
  v51:=Tryz.zeroValue187
  t53:=Tryz.underlying170
  a53:=Tryz.isAgg170
  z53:=Tryz.sizeOf170
  v53:=Tryz.zeroValue170
  t70:=Tryz.underlying88
  a70:=Tryz.isAgg88
  z70:=Tryz.sizeOf88
  v70:=Tryz.zeroValue88
  t72:=Tryz.underlying91
  a72:=Tryz.isAgg91
  z72:=Tryz.sizeOf91
  v72:=Tryz.zeroValue91
  t75:=Tryz.underlying93
  a75:=Tryz.isAgg93
  z75:=Tryz.sizeOf93
  v75:=Tryz.zeroValue93
  t76:=Tryz.underlying94
  a76:=Tryz.isAgg94
  z76:=Tryz.sizeOf94
  v76:=Tryz.zeroValue94
  t109:=Tryz.underlying165
  a109:=Tryz.isAgg165
  z109:=Tryz.sizeOf165
  v109:=Tryz.zeroValue165
  t127:=Tryz.underlying136
  a127:=Tryz.isAgg136
  z127:=Tryz.sizeOf136
  v127:=Tryz.zeroValue136
  t146:=Tryz.underlying188
  a146:=Tryz.isAgg188
  z146:=Tryz.sizeOf188
  v146:=Tryz.zeroValue188
  t148:=Tryz.underlying190
  a148:=Tryz.isAgg190
  z148:=Tryz.sizeOf190
  v148:=Tryz.zeroValue190
  t164:=Tryz.underlying155
  a164:=Tryz.isAgg155
  z164:=Tryz.sizeOf155
  v164:=Tryz.zeroValue155}
theorem Tryz.Builder_Extra_105:Builder.Extra Tryz.prog Tryz.lays105_ren:={
  sizeBuilder:=by kernel_rfl
  liesBuilder:=by kernel_rfl
  t5:=Tryz.underlying5
  a5:=Tryz.isAgg5
  z5:=Tryz.sizeOf5
  v5:=Tryz.zeroValue5
  infoByte:=by kernel_rfl
  cellsByte:=by kernel_rfl
  sizeByte:=by kernel_rfl
  neB5:=by decide}
open Go.RowKit Go.Lib in
theorem Tryz.strings_Repeat(s:ByteArray)(c:Nat)(w:World)(hc:c<=9223372036854775807)(hlen:s.size*c<=140737488355328) :
    Calls Tryz.prog 122 #[.string s,.int .i64 c] w fun e w'=>e = .returned (.string ⟨(Lib.repeatL s.data.toList c).toArray⟩)/\Below w.heap.size w w':=Any.strings_Repeat Tryz.lays105 Tryz.Builder_Extra_105 s c w hc hlen
end Go.Proofs
