/- Walks. -/
import Derived.Test.YtppnecgeboonbaaGreatDoorZ00
import Derived.Shelf.Strings.Builder1
import Derived.Shelf.Strings.Builder2
import Derived.Shelf.Small.Utf8
import Derived.Shelf.Small.Strs
import Derived.Shelf.Small.Wraps
import Derived.Shelf.Strings.BuilderF
import Derived.Shelf.Strings.BuilderK
import Derived.Shelf.Utf8.RuneCount
import Derived.Shelf.Strings.Builder2Cap
import Derived.Shelf.Strconv.Itoa0
import Derived.Shelf.Strconv.Itoa1
import Derived.Shelf.LaysM
import Derived.Shelf.Strconv.Itoa2
import Derived.Shelf.Strings.Search1
import Derived.Shelf.Strings.Search2
import Derived.Shelf.Strings.Search3
import Derived.Shelf.Strings.Cut
import Derived.Shelf.Strings.Count
import Derived.Shelf.Strings.Shaped
import Derived.Shelf.Strings.Prefix
import Derived.Shelf.Strings.Split
import Derived.Shelf.Strings.SplitShaped
import Derived.Shelf.Unicode.Decode
import Derived.Shelf.Strings.Runes
import Derived.Shelf.Strings.RuneCount
import Derived.Shelf.Strings.IndexAny
import Derived.Shelf.Strings.AsciiSet
import Derived.Shelf.Strings.IndexAnyAll
import Derived.Shelf.Strings.Explode
import Derived.Shelf.Bits.Mul64
import Derived.Shelf.Strings.Repeat
import Derived.Shelf.Unicode.DecodeSlow
import Derived.Shelf.Unicode.DecodeAny
import Derived.Shelf.Strings.BuilderCap
import Derived.Test.YtppnecgeboonbaaGreatDoorProg
namespace Go.Proofs.YtppnecgeboonbaaGreatDoor
set_option linter.all false
def Pd:=@Go.Lib.hid
def aaV:=@Go.Proofs.Tryz.underlying9
def aaX:=@Go.Proofs.Tryz.underlying3
def abd:=@Go.Proofs.Tryz.underlying5
def abe:=@Go.Lib.byteCells_length
def abF:=@Go.Proofs.Tryz.underlying127
def abI:=@Go.Proofs.Tryz.zeroValue3
def abQ:=@Go.Proofs.Tryz.underlying4
def abU:=@Go.Proofs.Tryz.underlying22
def abX:=@Go.Proofs.Tryz.zeroValue9
def ab9:=@Go.Proofs.Tryz.sizeOf3
def acd:=@Go.Proofs.Tryz.zeroValue4
def ace:=@Go.Proofs.Tryz.zeroValue5
def acl:=@Go.Proofs.Tryz.isAgg3
def acs:=@Go.Proofs.Tryz.sizeOf9
def acB:=@Go.Proofs.Tryz.isAgg9
def acC:=@Go.Proofs.Tryz.sizeOf4
def acD:=@Go.Proofs.Tryz.sizeOf5
def acG:=@Go.Proofs.Tryz.underlying0
def acO:=@Go.Proofs.Tryz.isAgg4
def acP:=@Go.Proofs.Tryz.isAgg5
def acR:=@Go.Proofs.Tryz.zeroValue0
def ac5:=@Go.Proofs.Tryz.underlying115
def adg:=@Go.Proofs.Tryz.zeroValue115
def ads:=@Go.Proofs.Tryz.sizeOf0
def adB:=@Go.Proofs.Tryz.isAgg0
def adE:=@Go.Proofs.Tryz.underlying21
def adK:=@Go.Proofs.Tryz.sizeOf115
def adS:=@Go.Proofs.Tryz.isAgg115
def adW:=@Go.Lib.run_next_any_at
def aed:=@Go.Proofs.Tryz.underlying231
def aeG:=@Go.Lib.below_iterAt
def aeI:=@Go.Proofs.Tryz.zeroValue21
def aeP:=@Go.Lib.byteCells_append
def aeQ:=@Go.Lib.iterAt_heap
def aeX:=@Go.Proofs.Tryz.func132
def aeY:=@Go.Proofs.Tryz.func136
def aeZ:=@Go.Proofs.Tryz.func163
def ae0:=@Go.Proofs.Tryz.func166
def ae8:=@Go.Lib.run_next_end_at
def afn:=@Go.Proofs.Tryz.underlying208
def afy:=@Go.Proofs.Tryz.sizeOf21
def afT:=@Go.zero_of_info
end Go.Proofs.YtppnecgeboonbaaGreatDoor
namespace Go.Proofs
open Go.Proofs.YtppnecgeboonbaaGreatDoor
set_option maxRecDepth 100000
set_option linter.all false
open Go.RowKit Go.Lib
open Go.Shelf
open Go.RowKit in
def Tryz.lays169_ren:Go.Shelf.Ren:=⟨fun|169=>78|n=>n,fun|70=>132|9=>9|0=>0|72=>134|37=>127|127=>165|3=>3|5=>5|n=>n,fun|n=>n⟩
theorem Tryz.lays169:Go.Proofs.Lays.n169 Tryz.prog Tryz.lays169_ren:={
 mixed:=by kernel_rfl
 f169:=Tryz.func78.trans (aaw some (by kernel_rfl))
 t0:=acG
 a0:=adB
 z0:=ads
 v0:=acR
 t3:=aaX
 a3:=acl
 z3:=ab9
 v3:=abI
 t9:=aaV
 a9:=acB
 z9:=acs
 v9:=abX
 t37:=abF
 a37:=Tryz.isAgg127
 z37:=Tryz.sizeOf127
 v37:=Tryz.zeroValue127
 t70:=Tryz.underlying132
 a70:=Tryz.isAgg132
 z70:=Tryz.sizeOf132
 v70:=Tryz.zeroValue132
 t72:=Tryz.underlying134
 a72:=Tryz.isAgg134
 z72:=Tryz.sizeOf134
 v72:=Tryz.zeroValue134
 t127:=Tryz.underlying165
 a127:=Tryz.isAgg165
 z127:=Tryz.sizeOf165
 v127:=Tryz.zeroValue165 }
theorem Tryz.Builder_Extra_169:Builder.Extra Tryz.prog Tryz.lays169_ren:={
 sizeBuilder:=by kernel_rfl
 liesBuilder:=by kernel_rfl
 t5:=abd
 a5:=acP
 z5:=acD
 v5:=ace
 infoByte:=by kernel_rfl
 cellsByte:=by kernel_rfl
 sizeByte:=by kernel_rfl
 neB5:=by decide }
open Go.RowKit in
open Go.RowKit in
open Go.RowKit in
open Go.RowKit in
open Go.RowKit in
def Tryz.lays137_ren:Go.Shelf.Ren:=⟨fun|137=>165|217=>132|266=>163|n=>n,fun|9=>9|5=>5|3=>3|n=>n,fun|n=>n⟩
theorem Tryz.lays137:Go.Proofs.Lays.n137 Tryz.prog Tryz.lays137_ren:={
 mixed:=by kernel_rfl
 f137:=Tryz.func165.trans (aaw some (by kernel_rfl))
 f217:=aeX.trans (aaw some (by kernel_rfl))
 f266:=aeZ.trans (aaw some (by kernel_rfl))
 t3:=aaX
 a3:=acl
 z3:=ab9
 v3:=abI
 t5:=abd
 a5:=acP
 z5:=acD
 v5:=ace
 t9:=aaV
 a9:=acB
 z9:=acs
 v9:=abX }
open Go.RowKit in
theorem Tryz.strings_IndexByte(s:ByteArray)(c:Int)(w:World) :
  Calls Tryz.prog 165 #[.string s,.int .u8 c] w fun e w'=>e=.returned (.int .i64 (Lib.indexByte s.data.toList c.toNat.toUInt8))/\w'=w:=Any.strings_IndexByte Tryz.lays137 s c w
open Go.RowKit in
def Tryz.lays103_ren:Go.Shelf.Ren:=⟨fun|103=>198|210=>211|206=>222|n=>n,fun|9=>9|4=>4|24=>40|3=>3|n=>n,fun|n=>n⟩
theorem Tryz.lays103:Go.Proofs.Lays.n103 Tryz.prog Tryz.lays103_ren:={
 mixed:=by kernel_rfl
 f103:=Tryz.func198.trans (aaw some (by kernel_rfl))
 f206:=Tryz.func222.trans (aaw some (by kernel_rfl))
 f210:=Tryz.func211.trans (aaw some (by kernel_rfl))
 t3:=aaX
 a3:=acl
 z3:=ab9
 v3:=abI
 t4:=abQ
 a4:=acO
 z4:=acC
 v4:=acd
 t9:=aaV
 a9:=acB
 z9:=acs
 v9:=abX
 t24:=Tryz.underlying40
 a24:=Tryz.isAgg40
 z24:=Tryz.sizeOf40
 v24:=Tryz.zeroValue40 }
open Go.RowKit in
theorem Tryz.strings_CutPrefix(s p:ByteArray)(w:World) :
  Calls Tryz.prog 198 #[.string s,.string p] w fun e w'=>e=.returned (.tuple #[.string ⟨(Lib.trimPrefix s.data.toList p.data.toList).toArray⟩,.bool (Lib.hasPrefix s.data.toList p.data.toList)])/\w'=w:=Any.strings_CutPrefix Tryz.lays103 s p w
open Go.RowKit in
def Tryz.lays122_ren:Go.Shelf.Ren:=⟨fun|122=>215|215=>223|n=>n,fun|3=>3|4=>4|n=>n,fun|n=>n⟩
theorem Tryz.lays122:Go.Proofs.Lays.n122 Tryz.prog Tryz.lays122_ren:={
 mixed:=by kernel_rfl
 f122:=Tryz.func215.trans (aaw some (by kernel_rfl))
 f215:=Tryz.func223.trans (aaw some (by kernel_rfl))
 t3:=aaX
 a3:=acl
 z3:=ab9
 v3:=abI
 t4:=abQ
 a4:=acO
 z4:=acC
 v4:=acd }
open Go.RowKit in
theorem Tryz.cmp_Compare_int(x y:Int)(w:World) :
  Calls Tryz.prog 215 #[.int .i64 x,.int .i64 y] w fun e w'=>e=.returned (.int .i64 (Lib.compareInt x y))/\w'=w:=Any.cmp_Compare_int Tryz.lays122 x y w
open Go.RowKit in
open Go.RowKit in
open Go.RowKit in
open Go.RowKit in
theorem Tryz.Builder_String_any_f(B b:Nat)(l:List UInt8)(w:World)(h:Lib.IsBuilderF 134 5 B b (Lib.byteCells l) w)(hBw:B<=w.heap.size) :
  Calls Tryz.prog 78 #[.pointer (some ⟨b,0,none⟩)] w fun e w'=>e=.returned (.string ⟨l.toArray⟩)/\(Lib.IsBuilderF 134 5 B b (Lib.byteCells l) w'/\Below B w w'):=Any.Builder_String_any_f Tryz.lays169 Tryz.Builder_Extra_169 B b l w h hBw
open Go.RowKit in
open Go.RowKit in
open Go.RowKit in
open Go.RowKit in
open Go.RowKit in
open Go.RowKit in
open Go.Lib in
open Go.Lib in
def Tryz.lays283_ren:Go.Shelf.Ren:=⟨fun|283=>231|n=>n,fun|3=>3|9=>9|4=>4|n=>n,fun|n=>n⟩
theorem Tryz.lays283:Go.Proofs.Lays.n283 Tryz.prog Tryz.lays283_ren:={
 mixed:=by kernel_rfl
 f283:=Tryz.func231.trans (aaw some (by kernel_rfl))
 t3:=aaX
 a3:=acl
 z3:=ab9
 v3:=abI
 t4:=abQ
 a4:=acO
 z4:=acC
 v4:=acd
 t9:=aaV
 a9:=acB
 z9:=acs
 v9:=abX }
open Go.Lib in
theorem Tryz.internal_strconv_small(i:Nat)(h:i<100)(w:World) :
  Calls Tryz.prog 231 #[.int .i64 i] w fun e w'=>e=.returned (.string ⟨(Lib.decDigits i).toArray⟩)/\w'=w:=Any.internal_strconv_small Tryz.lays283 i h w
def Tryz.laysM284_ren:Go.Shelf.Ren:=⟨fun|284=>232|129=>239|317=>238|318=>240|n=>n,fun|53=>231|3=>3|212=>265|0=>0|4=>4|46=>115|5=>5|9=>9|n=>n,fun|17=>3|n=>n⟩
theorem Tryz.laysM284:Go.Proofs.LaysM.n284 Tryz.prog Tryz.laysM284_ren:={
 mixed:=by kernel_rfl
 f129:=Tryz.func239.trans (aaw some (by kernel_rfl))
 f284:=Tryz.func232.trans (aaw some (by kernel_rfl))
 f317:=Tryz.func238.trans (aaw some (by kernel_rfl))
 f318:=Tryz.func240.trans (aaw some (by kernel_rfl))
 t0:=acG
 a0:=adB
 z0:=ads
 v0:=acR
 t3:=aaX
 a3:=acl
 z3:=ab9
 v3:=abI
 t4:=abQ
 a4:=acO
 z4:=acC
 v4:=acd
 t5:=abd
 a5:=acP
 z5:=acD
 v5:=ace
 t9:=aaV
 a9:=acB
 z9:=acs
 v9:=abX
 t46:=ac5
 a46:=adS
 z46:=adK
 v46:=adg
 t53:=aed
 a53:=Tryz.isAgg231
 z53:=Tryz.sizeOf231
 v53:=Tryz.zeroValue231
 t212:=Tryz.underlying265
 a212:=Tryz.isAgg265
 z212:=Tryz.sizeOf265
 v212:=Tryz.zeroValue265
 g17:=by kernel_rfl
 i0:=by kernel_rfl
 i3:=by kernel_rfl
 i4:=by kernel_rfl
 i5:=by kernel_rfl
 i9:=by kernel_rfl
 i46:=by kernel_rfl
 i53:=by kernel_rfl
 i212:=by kernel_rfl
 m17:=by kernel_rfl }
open Go.Lib in
theorem Tryz.internal_strconv_numDigits(u:Nat)(h1:1<=u)(h2:u<18446744073709551616)(w:World)(htab:Lib.TabIs Tryz.prog w "internal/strconv.uint64pow10" .u64 Lib.pow10Tab) :
  Calls Tryz.prog 232 #[.int .u64 u] w fun e w'=>e=.returned (.int .i64 (Lib.nDigits u))/\w'=w:=Any.internal_strconv_numDigits Tryz.laysM284 u h1 h2 w htab
def Tryz.lays285_ren:Go.Shelf.Ren:=⟨fun|285=>233|n=>n,fun|37=>127|53=>231|3=>3|4=>4|51=>208|9=>9|5=>5|0=>0|n=>n,fun|n=>n⟩
theorem Tryz.lays285:Go.Proofs.Lays.n285 Tryz.prog Tryz.lays285_ren:={
 mixed:=by kernel_rfl
 f285:=Tryz.func233.trans (aaw some (by kernel_rfl))
 t0:=acG
 a0:=adB
 z0:=ads
 v0:=acR
 t3:=aaX
 a3:=acl
 z3:=ab9
 v3:=abI
 t4:=abQ
 a4:=acO
 z4:=acC
 v4:=acd
 t5:=abd
 a5:=acP
 z5:=acD
 v5:=ace
 t9:=aaV
 a9:=acB
 z9:=acs
 v9:=abX
 t37:=abF
 a37:=Tryz.isAgg127
 z37:=Tryz.sizeOf127
 v37:=Tryz.zeroValue127
 t51:=afn
 a51:=Tryz.isAgg208
 z51:=Tryz.sizeOf208
 v51:=Tryz.zeroValue208
 t53:=aed
 a53:=Tryz.isAgg231
 z53:=Tryz.sizeOf231
 v53:=Tryz.zeroValue231 }
open Go.RowKit Go.Sort Go.Lib in
theorem Tryz.internal_strconv_formatBase10(blk off cap:Nat)(u:Nat)(d:Array UInt8)(w:World)(hH:Holds (fun(b:UInt8)=>Value.int .u8 (b.toNat:Int)) w blk off d)(hu:u<10 ^ d.size)(hu64:u<18446744073709551616)(hsz:d.size<4611686018427387904) :
  Calls Tryz.prog 233 #[.slice (some ⟨blk,off,none⟩) d.size cap,.int .u64 u] w fun e w'=>
   e=.returned (.tuple #[])/\∃(n v':Nat) (dk:Array UInt8),w'=(putRow (fun(b:UInt8)=>Value.int .u8 (b.toNat:Int)) w blk off dk).drewN n/\FmtInv d.size u 0 v' dk:=Any.internal_strconv_formatBase10 Tryz.lays285 blk off cap u d w hH hu hu64 hsz
def Tryz.lays217_ren:Go.Shelf.Ren:=⟨fun|217=>132|266=>163|n=>n,fun|9=>9|5=>5|3=>3|n=>n,fun|n=>n⟩
theorem Tryz.lays217:Go.Proofs.Lays.n217 Tryz.prog Tryz.lays217_ren:={
 mixed:=by kernel_rfl
 f217:=aeX.trans (aaw some (by kernel_rfl))
 f266:=aeZ.trans (aaw some (by kernel_rfl))
 t3:=aaX
 a3:=acl
 z3:=ab9
 v3:=abI
 t5:=abd
 a5:=acP
 z5:=acD
 v5:=ace
 t9:=aaV
 a9:=acB
 z9:=acs
 v9:=abX }
open Go.RowKit Go.Lib in
theorem Tryz.stringslite_IndexByte(s:ByteArray)(c:Int)(w:World) :
  Calls Tryz.prog 132 #[.string s,.int .u8 c] w fun e w'=>e=.returned (.int .i64 (Lib.indexByte s.data.toList c.toNat.toUInt8))/\w'=w:=Any.stringslite_IndexByte Tryz.lays217 s c w
open Go.RowKit Go.Lib in
open Go.RowKit Go.Lib in
open Go.RowKit Go.Lib in
open Go.RowKit Go.Lib in
open Go.RowKit Go.Lib in
open Go.RowKit Go.Lib in
open Go.RowKit Go.Lib in
open Go.RowKit Go.Lib in
open Go.RowKit Go.Lib in
open Go.RowKit Go.Lib in
open Go.RowKit Go.Lib in
open Go.RowKit Go.Lib in
open Go.RowKit Go.Lib in
open Go.RowKit Go.Lib in
open Go.RowKit Go.Lib in
open Go.RowKit Go.Lib in
open Go.RowKit Go.Lib in
open Go.RowKit Go.Lib in
open Go.RowKit Go.Lib in
open Go.RowKit Go.Lib in
def Tryz.lays146_ren:Go.Shelf.Ren:=⟨fun|146=>36|221=>69|268=>89|138=>90|143=>91|195=>111|197=>112|218=>113|219=>114|260=>131|217=>132|225=>133|224=>134|267=>135|266=>163|314=>164|n=>n,fun|9=>9|31=>22|3=>3|4=>4|0=>0|105=>174|21=>21|5=>5|46=>115|119=>204|139=>207|138=>206|146=>209|51=>208|n=>n,fun|1=>0|3=>1|4=>2|n=>n⟩
theorem Tryz.lays146:Go.Proofs.Lays.n146 Tryz.prog Tryz.lays146_ren:={
 mixed:=by kernel_rfl
 f138:=Tryz.func90.trans (aaw some (by kernel_rfl))
 f143:=Tryz.func91.trans (aaw some (by kernel_rfl))
 f146:=Tryz.func36.trans (aaw some (by kernel_rfl))
 f195:=Tryz.func111.trans (aaw some (by kernel_rfl))
 f197:=Tryz.func112.trans (aaw some (by kernel_rfl))
 f217:=aeX.trans (aaw some (by kernel_rfl))
 f218:=Tryz.func113.trans (aaw some (by kernel_rfl))
 f219:=Tryz.func114.trans (aaw some (by kernel_rfl))
 f221:=Tryz.func69.trans (aaw some (by kernel_rfl))
 f224:=Tryz.func134.trans (aaw some (by kernel_rfl))
 f225:=Tryz.func133.trans (aaw some (by kernel_rfl))
 f260:=Tryz.func131.trans (aaw some (by kernel_rfl))
 f266:=aeZ.trans (aaw some (by kernel_rfl))
 f267:=Tryz.func135.trans (aaw some (by kernel_rfl))
 f268:=Tryz.func89.trans (aaw some (by kernel_rfl))
 f314:=Tryz.func164.trans (aaw some (by kernel_rfl))
 t0:=acG
 a0:=adB
 z0:=ads
 v0:=acR
 t3:=aaX
 a3:=acl
 z3:=ab9
 v3:=abI
 t4:=abQ
 a4:=acO
 z4:=acC
 v4:=acd
 t5:=abd
 a5:=acP
 z5:=acD
 v5:=ace
 t9:=aaV
 a9:=acB
 z9:=acs
 v9:=abX
 t21:=adE
 a21:=Tryz.isAgg21
 z21:=afy
 v21:=aeI
 t31:=abU
 a31:=Tryz.isAgg22
 z31:=Tryz.sizeOf22
 v31:=Tryz.zeroValue22
 t46:=ac5
 a46:=adS
 z46:=adK
 v46:=adg
 t51:=afn
 a51:=Tryz.isAgg208
 z51:=Tryz.sizeOf208
 v51:=Tryz.zeroValue208
 t105:=Tryz.underlying174
 a105:=Tryz.isAgg174
 z105:=Tryz.sizeOf174
 v105:=Tryz.zeroValue174
 t119:=Tryz.underlying204
 a119:=Tryz.isAgg204
 z119:=Tryz.sizeOf204
 t138:=Tryz.underlying206
 a138:=Tryz.isAgg206
 z138:=Tryz.sizeOf206
 v138:=Tryz.zeroValue206
 t139:=Tryz.underlying207
 a139:=Tryz.isAgg207
 z139:=Tryz.sizeOf207
 v139:=Tryz.zeroValue207
 t146:=Tryz.underlying209
 a146:=Tryz.isAgg209
 z146:=Tryz.sizeOf209
 v146:=Tryz.zeroValue209
 g1:=by kernel_rfl
 g3:=by kernel_rfl
 g4:=by kernel_rfl }
open Go.RowKit Go.Lib in
theorem Tryz.strings_Split(s sep:ByteArray)(m:Int)(w:World)(hs:s.size<4294967281)(hm:w.cell? ⟨0,0,none⟩=some (.int .i64 m))(h1:1<=sep.size) :
  Calls Tryz.prog 36 #[.string s,.string sep] w fun e w'=>
   e=.returned (.slice (some ⟨w.heap.size,0,none⟩) (Lib.countB s sep+1) (Lib.countB s sep+1))/\w'=w.alloc (.cells ((Lib.splitB sep 0 (Lib.countB s sep) s).map Value.string).toArray 9):=Any.strings_Split Tryz.lays146 (by kernel_rfl) s sep m w hs hm h1
open Go.RowKit Go.Lib in
def Tryz.lays197_ren:Go.Shelf.Ren:=⟨fun|197=>112|260=>131|n=>n,fun|9=>9|21=>21|3=>3|4=>4|5=>5|105=>174|119=>204|0=>0|46=>115|139=>207|138=>206|n=>n,fun|3=>1|4=>2|n=>n⟩
theorem Tryz.lays197:Go.Proofs.Lays.n197 Tryz.prog Tryz.lays197_ren:={
 mixed:=by kernel_rfl
 f197:=Tryz.func112.trans (aaw some (by kernel_rfl))
 f260:=Tryz.func131.trans (aaw some (by kernel_rfl))
 t0:=acG
 a0:=adB
 z0:=ads
 v0:=acR
 t3:=aaX
 a3:=acl
 z3:=ab9
 v3:=abI
 t4:=abQ
 a4:=acO
 z4:=acC
 v4:=acd
 t5:=abd
 a5:=acP
 z5:=acD
 v5:=ace
 t9:=aaV
 a9:=acB
 z9:=acs
 v9:=abX
 t21:=adE
 a21:=Tryz.isAgg21
 z21:=afy
 v21:=aeI
 t46:=ac5
 a46:=adS
 z46:=adK
 v46:=adg
 t105:=Tryz.underlying174
 a105:=Tryz.isAgg174
 z105:=Tryz.sizeOf174
 v105:=Tryz.zeroValue174
 t119:=Tryz.underlying204
 a119:=Tryz.isAgg204
 z119:=Tryz.sizeOf204
 t138:=Tryz.underlying206
 a138:=Tryz.isAgg206
 z138:=Tryz.sizeOf206
 v138:=Tryz.zeroValue206
 t139:=Tryz.underlying207
 a139:=Tryz.isAgg207
 z139:=Tryz.sizeOf207
 v139:=Tryz.zeroValue207
 g3:=by kernel_rfl
 g4:=by kernel_rfl }
open Go.RowKit Go.Lib in
def Tryz.lays152_ren:Go.Shelf.Ren:=⟨fun|152=>136|137=>165|119=>166|224=>134|225=>133|217=>132|266=>163|n=>n,fun|9=>9|21=>21|3=>3|4=>4|5=>5|0=>0|46=>115|n=>n,fun|n=>n⟩
theorem Tryz.lays152:Go.Proofs.Lays.n152 Tryz.prog Tryz.lays152_ren:={
 mixed:=by kernel_rfl
 f119:=ae0.trans (aaw some (by kernel_rfl))
 f137:=Tryz.func165.trans (aaw some (by kernel_rfl))
 f152:=aeY.trans (aaw some (by kernel_rfl))
 f217:=aeX.trans (aaw some (by kernel_rfl))
 f224:=Tryz.func134.trans (aaw some (by kernel_rfl))
 f225:=Tryz.func133.trans (aaw some (by kernel_rfl))
 f266:=aeZ.trans (aaw some (by kernel_rfl))
 t0:=acG
 a0:=adB
 z0:=ads
 v0:=acR
 t3:=aaX
 a3:=acl
 z3:=ab9
 v3:=abI
 t4:=abQ
 a4:=acO
 z4:=acC
 v4:=acd
 t5:=abd
 a5:=acP
 z5:=acD
 v5:=ace
 t9:=aaV
 a9:=acB
 z9:=acs
 v9:=abX
 t21:=adE
 a21:=Tryz.isAgg21
 z21:=afy
 v21:=aeI
 t46:=ac5
 a46:=adS
 z46:=adK
 v46:=adg }
open Go.RowKit Go.Lib in
theorem Tryz.strings_IndexRune_ascii(s:ByteArray)(r:Int)(w:World)(h0:0<=r)(h1:r<128) :
  Calls Tryz.prog 136 #[.string s,.int .i32 r] w fun e w'=>e=.returned (.int .i64 (Lib.indexByte s.data.toList r.toNat.toUInt8))/\w'=w:=Any.strings_IndexRune_ascii Tryz.lays152 s r w h0 h1
open Go.RowKit Go.Lib in
def Tryz.lays226_ren:Go.Shelf.Ren:=⟨fun|226=>137|n=>n,fun|3=>3|4=>4|n=>n,fun|n=>n⟩
theorem Tryz.lays226:Go.Proofs.Lays.n226 Tryz.prog Tryz.lays226_ren:={
 mixed:=by kernel_rfl
 f226:=Tryz.func137.trans (aaw some (by kernel_rfl))
 t3:=aaX
 a3:=acl
 z3:=ab9
 v3:=abI
 t4:=abQ
 a4:=acO
 z4:=acC
 v4:=acd }
open Go.RowKit Go.Lib in
theorem Tryz.strings_shouldUseASCIISet(n:Int)(w:World) :
  Calls Tryz.prog 137 #[.int .i64 n] w fun e w'=>e=.returned (.bool (decide (8<n)))/\w'=w:=Any.strings_shouldUseASCIISet Tryz.lays226 n w
def Tryz.lays153_ren:Go.Shelf.Ren:=⟨fun|153=>116|152=>136|226=>137|227=>138|228=>139|137=>165|119=>166|224=>134|225=>133|217=>132|266=>163|n=>n,fun|9=>9|3=>3|4=>4|5=>5|21=>21|117=>196|116=>195|0=>0|46=>115|124=>212|n=>n,fun|n=>n⟩
theorem Tryz.lays153:Go.Proofs.Lays.n153 Tryz.prog Tryz.lays153_ren:={
 mixed:=by kernel_rfl
 f119:=ae0.trans (aaw some (by kernel_rfl))
 f137:=Tryz.func165.trans (aaw some (by kernel_rfl))
 f152:=aeY.trans (aaw some (by kernel_rfl))
 f153:=Tryz.func116.trans (aaw some (by kernel_rfl))
 f217:=aeX.trans (aaw some (by kernel_rfl))
 f224:=Tryz.func134.trans (aaw some (by kernel_rfl))
 f225:=Tryz.func133.trans (aaw some (by kernel_rfl))
 f226:=Tryz.func137.trans (aaw some (by kernel_rfl))
 f227:=Tryz.func138.trans (aaw some (by kernel_rfl))
 f228:=Tryz.func139.trans (aaw some (by kernel_rfl))
 f266:=aeZ.trans (aaw some (by kernel_rfl))
 t0:=acG
 a0:=adB
 z0:=ads
 v0:=acR
 t3:=aaX
 a3:=acl
 z3:=ab9
 v3:=abI
 t4:=abQ
 a4:=acO
 z4:=acC
 v4:=acd
 t5:=abd
 a5:=acP
 z5:=acD
 v5:=ace
 t9:=aaV
 a9:=acB
 z9:=acs
 v9:=abX
 t21:=adE
 a21:=Tryz.isAgg21
 z21:=afy
 v21:=aeI
 t46:=ac5
 a46:=adS
 z46:=adK
 v46:=adg
 t116:=Tryz.underlying195
 a116:=Tryz.isAgg195
 z116:=Tryz.sizeOf195
 t117:=Tryz.underlying196
 a117:=Tryz.isAgg196
 z117:=Tryz.sizeOf196
 v117:=Tryz.zeroValue196
 t124:=Tryz.underlying212
 a124:=Tryz.isAgg212
 z124:=Tryz.sizeOf212
 v124:=Tryz.zeroValue212 }
open Go.RowKit Go.Lib in
open Go.RowKit Go.Lib in
open Go.RowKit Go.Lib in
open Go.RowKit Go.Lib in
open Go.RowKit Go.Lib in
open Go.RowKit Go.Lib in
theorem Tryz.strings_IndexAny_long(hv116:∀w,(zeroValue 195).run Tryz.prog w=.ok (.agg (Array.replicate 256 (.bool false))) w)(s chars:ByteArray)(w:World)(h2:2<=chars.size)(h8:8<s.size)(hs:s.size<4294967281)(hcs:chars.size<4294967281)(hascii:∀(j:Nat) b,chars.data.toList[j]? = some b->b.toNat<128) :
  Calls Tryz.prog 116 #[.string s,.string chars] w fun e w'=>e=.returned (.int .i64 (Lib.indexAny s.data.toList chars.data.toList))/\w'=((w.alloc (.cells (Lib.setCells chars.data.toList) 195)).alloc (.cells (Lib.setCells chars.data.toList) 195)):=Any.strings_IndexAny_long Tryz.lays153 hv116 (by kernel_rfl) s chars w h2 h8 hs hcs hascii
open Go.RowKit Go.Lib in
open Go.RowKit Go.Lib in
open Go.RowKit Go.Lib in
open Go.RowKit Go.Lib in
open Go.RowKit Go.Lib in
open Go.RowKit Go.Lib in
open Go.RowKit Go.Lib in
open Go.RowKit Go.Lib in
open Go.RowKit Go.Lib in
def Tryz.lays105_ren:Go.Shelf.Ren:=⟨fun|105=>218|212=>226|99=>227|165=>228|166=>77|170=>229|169=>78|263=>235|264=>236|206=>222|240=>101|241=>237|276=>118|277=>243|n=>n,fun|9=>9|3=>3|4=>4|20=>20|0=>0|46=>115|109=>253|5=>5|72=>134|76=>137|51=>208|146=>209|53=>231|148=>251|70=>132|37=>127|75=>136|127=>165|164=>181|80=>142|n=>n,fun|n=>n⟩
theorem Tryz.lays105:Go.Proofs.Lays.n105 Tryz.prog Tryz.lays105_ren:={
 mixed:=by kernel_rfl
 f99:=Tryz.func227.trans (aaw some (by kernel_rfl))
 f105:=Tryz.func218.trans (aaw some (by kernel_rfl))
 f165:=Tryz.func228.trans (aaw some (by kernel_rfl))
 f166:=Tryz.func77.trans (aaw some (by kernel_rfl))
 f169:=Tryz.func78.trans (aaw some (by kernel_rfl))
 f170:=Tryz.func229.trans (aaw some (by kernel_rfl))
 f206:=Tryz.func222.trans (aaw some (by kernel_rfl))
 f212:=Tryz.func226.trans (aaw some (by kernel_rfl))
 f240:=Tryz.func101.trans (aaw some (by kernel_rfl))
 f241:=Tryz.func237.trans (aaw some (by kernel_rfl))
 f263:=Tryz.func235.trans (aaw some (by kernel_rfl))
 f264:=Tryz.func236.trans (aaw some (by kernel_rfl))
 f276:=Tryz.func118.trans (aaw some (by kernel_rfl))
 f277:=Tryz.func243.trans (aaw some (by kernel_rfl))
 t0:=acG
 a0:=adB
 z0:=ads
 v0:=acR
 t3:=aaX
 a3:=acl
 z3:=ab9
 v3:=abI
 t4:=abQ
 a4:=acO
 z4:=acC
 v4:=acd
 t5:=abd
 a5:=acP
 z5:=acD
 v5:=ace
 t9:=aaV
 a9:=acB
 z9:=acs
 v9:=abX
 t20:=Tryz.underlying20
 a20:=Tryz.isAgg20
 z20:=Tryz.sizeOf20
 v20:=Tryz.zeroValue20
 t37:=abF
 a37:=Tryz.isAgg127
 z37:=Tryz.sizeOf127
 v37:=Tryz.zeroValue127
 t46:=ac5
 a46:=adS
 z46:=adK
 v46:=adg
 t51:=afn
 a51:=Tryz.isAgg208
 z51:=Tryz.sizeOf208
 v51:=Tryz.zeroValue208
 t53:=aed
 a53:=Tryz.isAgg231
 z53:=Tryz.sizeOf231
 v53:=Tryz.zeroValue231
 t70:=Tryz.underlying132
 a70:=Tryz.isAgg132
 z70:=Tryz.sizeOf132
 v70:=Tryz.zeroValue132
 t72:=Tryz.underlying134
 a72:=Tryz.isAgg134
 z72:=Tryz.sizeOf134
 v72:=Tryz.zeroValue134
 t75:=Tryz.underlying136
 a75:=Tryz.isAgg136
 z75:=Tryz.sizeOf136
 v75:=Tryz.zeroValue136
 t76:=Tryz.underlying137
 a76:=Tryz.isAgg137
 z76:=Tryz.sizeOf137
 v76:=Tryz.zeroValue137
 t109:=Tryz.underlying253
 a109:=Tryz.isAgg253
 z109:=Tryz.sizeOf253
 v109:=Tryz.zeroValue253
 t127:=Tryz.underlying165
 a127:=Tryz.isAgg165
 z127:=Tryz.sizeOf165
 v127:=Tryz.zeroValue165
 t146:=Tryz.underlying209
 a146:=Tryz.isAgg209
 z146:=Tryz.sizeOf209
 v146:=Tryz.zeroValue209
 t148:=Tryz.underlying251
 a148:=Tryz.isAgg251
 z148:=Tryz.sizeOf251
 v148:=Tryz.zeroValue251
 t164:=Tryz.underlying181
 a164:=Tryz.isAgg181
 z164:=Tryz.sizeOf181
 v164:=Tryz.zeroValue181 }
theorem Tryz.Builder_Extra_105:Builder.Extra Tryz.prog Tryz.lays105_ren:={
 sizeBuilder:=by kernel_rfl
 liesBuilder:=by kernel_rfl
 t5:=abd
 a5:=acP
 z5:=acD
 v5:=ace
 infoByte:=by kernel_rfl
 cellsByte:=by kernel_rfl
 sizeByte:=by kernel_rfl
 neB5:=by decide }
open Go.RowKit Go.Lib in
open Go.RowKit Go.Lib in
open Go.RowKit Go.Lib in
open Go.RowKit Go.Lib in
open Go.RowKit Go.Lib in
open Go.RowKit Go.Lib in
open Go.RowKit Go.Lib in
theorem Tryz.strings_Repeat(s:ByteArray)(c:Nat)(w:World)(hc:c<=9223372036854775807)(hlen:s.size*c<=140737488355328) :
  Calls Tryz.prog 218 #[.string s,.int .i64 c] w fun e w'=>e=.returned (.string ⟨(Lib.repeatL s.data.toList c).toArray⟩)/\Below w w w':=Any.strings_Repeat Tryz.lays105 Tryz.Builder_Extra_105 s c w hc hlen
open Go.RowKit Go.Lib in
open Go.RowKit Go.Lib in
theorem Tryz.utf8_DecodeRuneInString(s:ByteArray)(w:World)(hT:Lib.Utf8Tabs 1 2 w) :
  Calls Tryz.prog 112 #[.string s] w fun e w'=>e=.returned (.tuple #[.int .i32 (Lib.decodeGo s).1,.int .i64 (Lib.decodeGo s).2])/\Below w w w':=Any.utf8_DecodeRuneInString Tryz.lays197 s w hT
end Go.Proofs
