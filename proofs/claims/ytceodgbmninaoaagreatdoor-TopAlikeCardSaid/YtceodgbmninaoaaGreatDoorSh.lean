/- DERIVED: THE SHELF's CONTRACTS AT THIS DUMP, IN PLAIN WORDS. -/
import Derived.Test.YtceodgbmninaoaaGreatDoorSzzz
import Derived.Shelf.Strings.OnBuilder
import Derived.Shelf.Strings.Trim
import Derived.Shelf.Small.Wraps
import Derived.Shelf.Strconv.Itoa1
import Derived.Shelf.LaysM
import Derived.Shelf.Strconv.Itoa2
import Derived.Shelf.Strings.Cut
import Derived.Shelf.Strings.Prefix
import Derived.Shelf.Strings.Repeat
import Derived.Test.YtceodgbmninaoaaGreatDoorProg
set_option linter.all false
namespace Go.Proofs
open Go.Shelf
def bo:Go.Shelf.Ren:=⟨fun | 156=>71 | 165=>106 | 166=>46 | 169=>47 | 240=>73 | 241=>159 | 276=>108 | 277=>251 | n=>n,fun | 31=>25 | 9=>9 | 3=>3 | 4=>4 | 0=>0 | 20=>20 | 72=>93 | 76=>96 | 70=>90 | 37=>91 | 75=>95 | 127=>131 | 164=>168 | 5=>5 | 80=>64 | n=>n,fun | n=>n⟩
theorem be:Go.Proofs.Lays.n156 Tryz.prog bo:={
 mixed:=V
 f156:=Tryz.func71.trans (MW some V)
 f165:=Tryz.func106.trans (MW some V)
 f166:=Tryz.func46.trans (MW some V)
 f169:=Tryz.func47.trans (MW some V)
 f240:=Tryz.func73.trans (MW some V)
 f241:=Tryz.func159.trans (MW some V)
 f276:=Tryz.func108.trans (MW some V)
 f277:=Tryz.func251.trans (MW some V)
 t0:=Tryz.underlying0
 a0:=Tryz.isAgg0
 z0:=Tryz.sizeOf0
 v0:=Tryz.zeroValue0
 t3:=Tryz.underlying3
 a3:=Tryz.isAgg3
 z3:=Tryz.sizeOf3
 v3:=Tryz.zeroValue3
 t4:=Tryz.underlying4
 a4:=Tryz.isAgg4
 z4:=Tryz.sizeOf4
 v4:=Tryz.zeroValue4
 t9:=Tryz.underlying9
 a9:=Tryz.isAgg9
 z9:=Tryz.sizeOf9
 v9:=Tryz.zeroValue9
 t20:=Tryz.underlying20
 a20:=Tryz.isAgg20
 z20:=Tryz.sizeOf20
 v20:=Tryz.zeroValue20
 t31:=Tryz.underlying25
 a31:=Tryz.isAgg25
 z31:=Tryz.sizeOf25
 v31:=Tryz.zeroValue25
 t37:=Tryz.underlying91
 a37:=Tryz.isAgg91
 z37:=Tryz.sizeOf91
 v37:=Tryz.zeroValue91
 t70:=Tryz.underlying90
 a70:=Tryz.isAgg90
 z70:=Tryz.sizeOf90
 v70:=Tryz.zeroValue90
 t72:=Tryz.underlying93
 a72:=Tryz.isAgg93
 z72:=Tryz.sizeOf93
 v72:=Tryz.zeroValue93
 t75:=Tryz.underlying95
 a75:=Tryz.isAgg95
 z75:=Tryz.sizeOf95
 v75:=Tryz.zeroValue95
 t76:=Tryz.underlying96
 a76:=Tryz.isAgg96
 z76:=Tryz.sizeOf96
 v76:=Tryz.zeroValue96
 t127:=Tryz.underlying131
 a127:=Tryz.isAgg131
 z127:=Tryz.sizeOf131
 v127:=Tryz.zeroValue131
 t164:=Tryz.underlying168
 a164:=Tryz.isAgg168
 z164:=Tryz.sizeOf168
 v164:=Tryz.zeroValue168}
theorem aw:Builder.Extra Tryz.prog bo:={
 sizeBuilder:=V
 liesBuilder:=V
 t5:=Tryz.underlying5
 a5:=Tryz.isAgg5
 z5:=Tryz.sizeOf5
 v5:=Tryz.zeroValue5
 infoByte:=V
 cellsByte:=V
 sizeByte:=V
 neB5:=by decide}
open Go.RowKit in
theorem Tryz.strings_Join_none (a:Option Addr) (c:Nat) (b:ByteArray) (w:World):
 Calls Tryz.prog 71 #[.slice a 0 c,.string b] w fun e w'=>e= .returned (.string ⟨#[]⟩)/\w'=w:=Any.strings_Join_none be aw a c b w
open Go.RowKit in
theorem Tryz.strings_Join (g o c:Nat) (xs:List ByteArray) (a:ByteArray) (w:World) (b:∀ (j:Nat) x,xs[j]? =some x->w.cell? ⟨g,o+j,none⟩=some (.string x)) (h:g<w.heap.size) (i:xs.length<=140737488355328) (f:xs.length<=c) (d:(Lib.join (xs.map (·.data.toList)) a.data.toList).length<=140737488355328):
 Calls Tryz.prog 71 #[.slice (some ⟨g,o,none⟩) xs.length c,.string a] w fun e w'=>e= .returned (.string ⟨(Lib.join (xs.map (·.data.toList)) a.data.toList).toArray⟩)/\Below w.heap.size w w':=Any.strings_Join be aw g o c xs a w b h i f d
open Go.RowKit in
def ce:Go.Shelf.Ren:=⟨fun | 161=>105 | 231=>155 | 227=>156 | 233=>157 | 235=>158 | 228=>248 | 197=>249 | 151=>250 | 260=>345 | 152=>346 | 137=>429 | 119=>430 | 224=>431 | 225=>432 | 217=>487 | 266=>514 | n=>n,fun | 9=>9 | 4=>4 | 3=>3 | 5=>5 | 117=>234 | 116=>233 | 0=>0 | 124=>237 | 105=>325 | 21=>21 | 119=>469 | 46=>225 | 139=>472 | 138=>471 | n=>n,fun | 3=>2 | 4=>3 | n=>n⟩
theorem cU:Go.Proofs.Lays.n161 Tryz.prog ce:={
 mixed:=V
 f119:=Tryz.func430.trans (MW some V)
 f137:=Tryz.func429.trans (MW some V)
 f151:=Tryz.func250.trans (MW some V)
 f152:=Tryz.func346.trans (MW some V)
 f161:=Tryz.func105.trans (MW some V)
 f197:=Tryz.func249.trans (MW some V)
 f217:=Tryz.func487.trans (MW some V)
 f224:=Tryz.func431.trans (MW some V)
 f225:=Tryz.func432.trans (MW some V)
 f227:=Tryz.func156.trans (MW some V)
 f228:=Tryz.func248.trans (MW some V)
 f231:=Tryz.func155.trans (MW some V)
 f233:=Tryz.func157.trans (MW some V)
 f235:=Tryz.func158.trans (MW some V)
 f260:=Tryz.func345.trans (MW some V)
 f266:=Tryz.func514.trans (MW some V)
 t0:=Tryz.underlying0
 a0:=Tryz.isAgg0
 z0:=Tryz.sizeOf0
 v0:=Tryz.zeroValue0
 t3:=Tryz.underlying3
 a3:=Tryz.isAgg3
 z3:=Tryz.sizeOf3
 v3:=Tryz.zeroValue3
 t4:=Tryz.underlying4
 a4:=Tryz.isAgg4
 z4:=Tryz.sizeOf4
 v4:=Tryz.zeroValue4
 t5:=Tryz.underlying5
 a5:=Tryz.isAgg5
 z5:=Tryz.sizeOf5
 v5:=Tryz.zeroValue5
 t9:=Tryz.underlying9
 a9:=Tryz.isAgg9
 z9:=Tryz.sizeOf9
 v9:=Tryz.zeroValue9
 t21:=Tryz.underlying21
 a21:=Tryz.isAgg21
 z21:=Tryz.sizeOf21
 v21:=Tryz.zeroValue21
 t46:=Tryz.underlying225
 a46:=Tryz.isAgg225
 z46:=Tryz.sizeOf225
 v46:=Tryz.zeroValue225
 t105:=Tryz.underlying325
 a105:=Tryz.isAgg325
 z105:=Tryz.sizeOf325
 v105:=Tryz.zeroValue325
 t116:=Tryz.underlying233
 a116:=Tryz.isAgg233
 z116:=Tryz.sizeOf233
 t117:=Tryz.underlying234
 a117:=Tryz.isAgg234
 z117:=Tryz.sizeOf234
 v117:=Tryz.zeroValue234
 t119:=Tryz.underlying469
 a119:=Tryz.isAgg469
 z119:=Tryz.sizeOf469
 t124:=Tryz.underlying237
 a124:=Tryz.isAgg237
 z124:=Tryz.sizeOf237
 v124:=Tryz.zeroValue237
 t138:=Tryz.underlying471
 a138:=Tryz.isAgg471
 z138:=Tryz.sizeOf471
 v138:=Tryz.zeroValue471
 t139:=Tryz.underlying472
 a139:=Tryz.isAgg472
 z139:=Tryz.sizeOf472
 v139:=Tryz.zeroValue472
 g3:=V
 g4:=by kernel_rfl}
open Go.RowKit in
theorem Tryz.strings_TrimLeft_one (s:ByteArray) (c:UInt8) (a:c.toNat<128) (w:World):
 Calls Tryz.prog 105 #[.string s,.string ⟨#[c]⟩] w fun e w'=>e= .returned (.string ⟨(Lib.trimLeftB s.data.toList c).toArray⟩)/\w'=w:=Any.strings_TrimLeft_one cU s c a w
open Go.RowKit in
def ci:Go.Shelf.Ren:=⟨fun | 103=>434 | 210=>489 | 206=>247 | n=>n,fun | 9=>9 | 4=>4 | 24=>243 | 3=>3 | n=>n,fun | n=>n⟩
theorem cY:Go.Proofs.Lays.n103 Tryz.prog ci:={
 mixed:=V
 f103:=Tryz.func434.trans (MW some V)
 f206:=Tryz.func247.trans (MW some V)
 f210:=Tryz.func489.trans (MW some V)
 t3:=Tryz.underlying3
 a3:=Tryz.isAgg3
 z3:=Tryz.sizeOf3
 v3:=Tryz.zeroValue3
 t4:=Tryz.underlying4
 a4:=Tryz.isAgg4
 z4:=Tryz.sizeOf4
 v4:=Tryz.zeroValue4
 t9:=Tryz.underlying9
 a9:=Tryz.isAgg9
 z9:=Tryz.sizeOf9
 v9:=Tryz.zeroValue9
 t24:=Tryz.underlying243
 a24:=Tryz.isAgg243
 z24:=Tryz.sizeOf243
 v24:=Tryz.zeroValue243}
open Go.RowKit in
theorem Tryz.strings_CutPrefix (s p:ByteArray) (w:World):
 Calls Tryz.prog 434 #[.string s,.string p] w fun e w'=>e= .returned (.tuple #[.string ⟨(Lib.trimPrefix s.data.toList p.data.toList).toArray⟩,.bool (Lib.hasPrefix s.data.toList p.data.toList)])/\w'=w:=Any.strings_CutPrefix cY s p w
open Go.RowKit in
def cg:Go.Shelf.Ren:=⟨fun | 104=>164 | 211=>257 | 207=>349 | n=>n,fun | 9=>9 | 4=>4 | 24=>243 | 3=>3 | n=>n,fun | n=>n⟩
theorem cX:Go.Proofs.Lays.n104 Tryz.prog cg:={
 mixed:=V
 f104:=Tryz.func164.trans (MW some V)
 f207:=Tryz.func349.trans (MW some V)
 f211:=Tryz.func257.trans (MW some V)
 t3:=Tryz.underlying3
 a3:=Tryz.isAgg3
 z3:=Tryz.sizeOf3
 v3:=Tryz.zeroValue3
 t4:=Tryz.underlying4
 a4:=Tryz.isAgg4
 z4:=Tryz.sizeOf4
 v4:=Tryz.zeroValue4
 t9:=Tryz.underlying9
 a9:=Tryz.isAgg9
 z9:=Tryz.sizeOf9
 v9:=Tryz.zeroValue9
 t24:=Tryz.underlying243
 a24:=Tryz.isAgg243
 z24:=Tryz.sizeOf243
 v24:=Tryz.zeroValue243}
open Go.RowKit in
theorem Tryz.strings_CutSuffix (s p:ByteArray) (w:World) (a:s.size<=9223372036854775807):
 Calls Tryz.prog 164 #[.string s,.string p] w fun e w'=>e= .returned (.tuple #[.string ⟨(Lib.trimSuffix s.data.toList p.data.toList).toArray⟩,.bool (Lib.hasSuffix s.data.toList p.data.toList)])/\w'=w:=Any.strings_CutSuffix cX s p w a
open Go.RowKit in
open Go.RowKit in
open Go.Lib in
open Go.Lib in
def cd:Go.Shelf.Ren:=⟨fun | 283=>160 | n=>n,fun | 3=>3 | 9=>9 | 4=>4 | n=>n,fun | n=>n⟩
theorem cT:Go.Proofs.Lays.n283 Tryz.prog cd:={
 mixed:=V
 f283:=Tryz.func160.trans (MW some V)
 t3:=Tryz.underlying3
 a3:=Tryz.isAgg3
 z3:=Tryz.sizeOf3
 v3:=Tryz.zeroValue3
 t4:=Tryz.underlying4
 a4:=Tryz.isAgg4
 z4:=Tryz.sizeOf4
 v4:=Tryz.zeroValue4
 t9:=Tryz.underlying9
 a9:=Tryz.isAgg9
 z9:=Tryz.sizeOf9
 v9:=Tryz.zeroValue9}
open Go.Lib in
theorem Tryz.internal_strconv_small (i:Nat) (h:i<100) (w:World):
 Calls Tryz.prog 160 #[.int .i64 i] w fun e w'=>e= .returned (.string ⟨(Lib.decDigits i).toArray⟩)/\w'=w:=Any.internal_strconv_small cT i h w
def bU:Go.Shelf.Ren:=⟨fun | 284=>161 | 129=>253 | 317=>252 | 318=>254 | n=>n,fun | 53=>162 | 3=>3 | 212=>331 | 0=>0 | 4=>4 | 46=>225 | 5=>5 | 9=>9 | n=>n,fun | 17=>0 | n=>n⟩
theorem cN:Go.Proofs.LaysM.n284 Tryz.prog bU:={
 mixed:=V
 f129:=Tryz.func253.trans (MW some V)
 f284:=Tryz.func161.trans (MW some V)
 f317:=Tryz.func252.trans (MW some V)
 f318:=Tryz.func254.trans (MW some V)
 t0:=Tryz.underlying0
 a0:=Tryz.isAgg0
 z0:=Tryz.sizeOf0
 v0:=Tryz.zeroValue0
 t3:=Tryz.underlying3
 a3:=Tryz.isAgg3
 z3:=Tryz.sizeOf3
 v3:=Tryz.zeroValue3
 t4:=Tryz.underlying4
 a4:=Tryz.isAgg4
 z4:=Tryz.sizeOf4
 v4:=Tryz.zeroValue4
 t5:=Tryz.underlying5
 a5:=Tryz.isAgg5
 z5:=Tryz.sizeOf5
 v5:=Tryz.zeroValue5
 t9:=Tryz.underlying9
 a9:=Tryz.isAgg9
 z9:=Tryz.sizeOf9
 v9:=Tryz.zeroValue9
 t46:=Tryz.underlying225
 a46:=Tryz.isAgg225
 z46:=Tryz.sizeOf225
 v46:=Tryz.zeroValue225
 t53:=Tryz.underlying162
 a53:=Tryz.isAgg162
 z53:=Tryz.sizeOf162
 v53:=Tryz.zeroValue162
 t212:=Tryz.underlying331
 a212:=Tryz.isAgg331
 z212:=Tryz.sizeOf331
 v212:=Tryz.zeroValue331
 g17:=V
 i0:=V
 i3:=V
 i4:=V
 i5:=V
 i9:=V
 i46:=V
 i53:=V
 i212:=V
 m17:=by kernel_rfl}
open Go.Lib in
theorem Tryz.internal_strconv_numDigits (u:Nat) (h1:1<=u) (b:u<18446744073709551616) (w:World) (a:Lib.TabIs Tryz.prog w "internal/strconv.uint64pow10" .u64 Lib.pow10Tab):
 Calls Tryz.prog 161 #[.int .u64 u] w fun e w'=>e= .returned (.int .i64 (Lib.nDigits u))/\w'=w:=Any.internal_strconv_numDigits cN u h1 b w a
def ca:Go.Shelf.Ren:=⟨fun | 285=>162 | n=>n,fun | 37=>91 | 53=>162 | 3=>3 | 4=>4 | 51=>125 | 9=>9 | 5=>5 | 0=>0 | n=>n,fun | n=>n⟩
theorem cS:Go.Proofs.Lays.n285 Tryz.prog ca:={
 mixed:=V
 f285:=Tryz.func162.trans (MW some V)
 t0:=Tryz.underlying0
 a0:=Tryz.isAgg0
 z0:=Tryz.sizeOf0
 v0:=Tryz.zeroValue0
 t3:=Tryz.underlying3
 a3:=Tryz.isAgg3
 z3:=Tryz.sizeOf3
 v3:=Tryz.zeroValue3
 t4:=Tryz.underlying4
 a4:=Tryz.isAgg4
 z4:=Tryz.sizeOf4
 v4:=Tryz.zeroValue4
 t5:=Tryz.underlying5
 a5:=Tryz.isAgg5
 z5:=Tryz.sizeOf5
 v5:=Tryz.zeroValue5
 t9:=Tryz.underlying9
 a9:=Tryz.isAgg9
 z9:=Tryz.sizeOf9
 v9:=Tryz.zeroValue9
 t37:=Tryz.underlying91
 a37:=Tryz.isAgg91
 z37:=Tryz.sizeOf91
 v37:=Tryz.zeroValue91
 t51:=Tryz.underlying125
 a51:=Tryz.isAgg125
 z51:=Tryz.sizeOf125
 v51:=Tryz.zeroValue125
 t53:=Tryz.underlying162
 a53:=Tryz.isAgg162
 z53:=Tryz.sizeOf162
 v53:=Tryz.zeroValue162}
open Go.RowKit Go.Sort Go.Lib in
theorem Tryz.internal_strconv_formatBase10 (a off cap:Nat) (u:Nat) (d:Array UInt8) (w:World) (i:Holds (fun (b:UInt8)=>Value.int .u8 (b.toNat:Int)) w a off d) (h:u<10^d.size) (c:u<18446744073709551616) (hsz:d.size<4611686018427387904):
 Calls Tryz.prog 162 #[.slice (some ⟨a,off,none⟩) d.size cap,.int .u64 u] w fun e w'=>
  e= .returned (.tuple #[])/\∃ (n g:Nat) (f:Array UInt8),w'=(putRow (fun (b:UInt8)=>Value.int .u8 (b.toNat:Int)) w a off f).drewN n/\FmtInv d.size u 0 g f:=Any.internal_strconv_formatBase10 cS a off cap u d w i h c hsz
open Go.RowKit Go.Lib in
def cf:Go.Shelf.Ren:=⟨fun | 145=>259 | 220=>350 | 219=>433 | 217=>487 | 225=>432 | 224=>431 | 267=>488 | 266=>514 | 314=>515 | n=>n,fun | 9=>9 | 4=>4 | 59=>333 | 3=>3 | 5=>5 | 46=>225 | 146=>320 | 51=>125 | n=>n,fun | 1=>1 | n=>n⟩
theorem cV:Go.Proofs.Lays.n145 Tryz.prog cf:={
 mixed:=V
 f145:=Tryz.func259.trans (MW some V)
 f217:=Tryz.func487.trans (MW some V)
 f219:=Tryz.func433.trans (MW some V)
 f220:=Tryz.func350.trans (MW some V)
 f224:=Tryz.func431.trans (MW some V)
 f225:=Tryz.func432.trans (MW some V)
 f266:=Tryz.func514.trans (MW some V)
 f267:=Tryz.func488.trans (MW some V)
 f314:=Tryz.func515.trans (MW some V)
 t3:=Tryz.underlying3
 a3:=Tryz.isAgg3
 z3:=Tryz.sizeOf3
 v3:=Tryz.zeroValue3
 t4:=Tryz.underlying4
 a4:=Tryz.isAgg4
 z4:=Tryz.sizeOf4
 v4:=Tryz.zeroValue4
 t5:=Tryz.underlying5
 a5:=Tryz.isAgg5
 z5:=Tryz.sizeOf5
 v5:=Tryz.zeroValue5
 t9:=Tryz.underlying9
 a9:=Tryz.isAgg9
 z9:=Tryz.sizeOf9
 v9:=Tryz.zeroValue9
 t46:=Tryz.underlying225
 a46:=Tryz.isAgg225
 z46:=Tryz.sizeOf225
 v46:=Tryz.zeroValue225
 t51:=Tryz.underlying125
 a51:=Tryz.isAgg125
 z51:=Tryz.sizeOf125
 v51:=Tryz.zeroValue125
 t59:=Tryz.underlying333
 a59:=Tryz.isAgg333
 z59:=Tryz.sizeOf333
 v59:=Tryz.zeroValue333
 t146:=Tryz.underlying320
 a146:=Tryz.isAgg320
 z146:=Tryz.sizeOf320
 v146:=Tryz.zeroValue320
 g1:=by kernel_rfl}
open Go.RowKit Go.Lib in
theorem Tryz.strings_Cut (s a:ByteArray) (m:Int) (w:World) (b:s.size<4294967281) (c:w.cell? ⟨1,0,none⟩=some (.int .i64 m)):
 Calls Tryz.prog 259 #[.string s,.string a] w fun e w'=>e= .returned (.tuple #[.string ⟨(Lib.cut s.data.toList a.data.toList).1.toArray⟩,.string ⟨(Lib.cut s.data.toList a.data.toList).2.1.toArray⟩,.bool (Lib.cut s.data.toList a.data.toList).2.2])/\∃ n,w'=w.drewN n:=Any.strings_Cut cV s a m w b c
open Go.RowKit Go.Lib in
open Go.RowKit Go.Lib in
open Go.RowKit Go.Lib in
open Go.RowKit Go.Lib in
def cj:Go.Shelf.Ren:=⟨fun | 101=>352 | 208=>435 | 206=>247 | n=>n,fun | 9=>9 | 4=>4 | 3=>3 | n=>n,fun | n=>n⟩
theorem cZ:Go.Proofs.Lays.n101 Tryz.prog cj:={
 mixed:=V
 f101:=Tryz.func352.trans (MW some V)
 f206:=Tryz.func247.trans (MW some V)
 f208:=Tryz.func435.trans (MW some V)
 t3:=Tryz.underlying3
 a3:=Tryz.isAgg3
 z3:=Tryz.sizeOf3
 v3:=Tryz.zeroValue3
 t4:=Tryz.underlying4
 a4:=Tryz.isAgg4
 z4:=Tryz.sizeOf4
 v4:=Tryz.zeroValue4
 t9:=Tryz.underlying9
 a9:=Tryz.isAgg9
 z9:=Tryz.sizeOf9
 v9:=Tryz.zeroValue9}
open Go.RowKit Go.Lib in
theorem Tryz.strings_TrimPrefix (s p:ByteArray) (w:World):
 Calls Tryz.prog 352 #[.string s,.string p] w fun e w'=>e= .returned (.string ⟨(Lib.trimPrefix s.data.toList p.data.toList).toArray⟩)/\w'=w:=Any.strings_TrimPrefix cZ s p w
def bu:Go.Shelf.Ren:=⟨fun | 105=>104 | 212=>152 | 99=>153 | 165=>106 | 166=>46 | 170=>154 | 169=>47 | 263=>245 | 264=>246 | 206=>247 | 240=>73 | 241=>159 | 276=>108 | 277=>251 | n=>n,fun | 9=>9 | 3=>3 | 4=>4 | 20=>20 | 0=>0 | 46=>225 | 109=>227 | 5=>5 | 72=>93 | 76=>96 | 51=>125 | 146=>320 | 53=>162 | 148=>322 | 70=>90 | 37=>91 | 75=>95 | 127=>131 | 164=>168 | 80=>64 | n=>n,fun | n=>n⟩
theorem cW:Go.Proofs.Lays.n105 Tryz.prog bu:={
 mixed:=V
 f99:=Tryz.func153.trans (MW some V)
 f105:=Tryz.func104.trans (MW some V)
 f165:=Tryz.func106.trans (MW some V)
 f166:=Tryz.func46.trans (MW some V)
 f169:=Tryz.func47.trans (MW some V)
 f170:=Tryz.func154.trans (MW some V)
 f206:=Tryz.func247.trans (MW some V)
 f212:=Tryz.func152.trans (MW some V)
 f240:=Tryz.func73.trans (MW some V)
 f241:=Tryz.func159.trans (MW some V)
 f263:=Tryz.func245.trans (MW some V)
 f264:=Tryz.func246.trans (MW some V)
 f276:=Tryz.func108.trans (MW some V)
 f277:=Tryz.func251.trans (MW some V)
 t0:=Tryz.underlying0
 a0:=Tryz.isAgg0
 z0:=Tryz.sizeOf0
 v0:=Tryz.zeroValue0
 t3:=Tryz.underlying3
 a3:=Tryz.isAgg3
 z3:=Tryz.sizeOf3
 v3:=Tryz.zeroValue3
 t4:=Tryz.underlying4
 a4:=Tryz.isAgg4
 z4:=Tryz.sizeOf4
 v4:=Tryz.zeroValue4
 t5:=Tryz.underlying5
 a5:=Tryz.isAgg5
 z5:=Tryz.sizeOf5
 v5:=Tryz.zeroValue5
 t9:=Tryz.underlying9
 a9:=Tryz.isAgg9
 z9:=Tryz.sizeOf9
 v9:=Tryz.zeroValue9
 t20:=Tryz.underlying20
 a20:=Tryz.isAgg20
 z20:=Tryz.sizeOf20
 v20:=Tryz.zeroValue20
 t37:=Tryz.underlying91
 a37:=Tryz.isAgg91
 z37:=Tryz.sizeOf91
 v37:=Tryz.zeroValue91
 t46:=Tryz.underlying225
 a46:=Tryz.isAgg225
 z46:=Tryz.sizeOf225
 v46:=Tryz.zeroValue225
 t51:=Tryz.underlying125
 a51:=Tryz.isAgg125
 z51:=Tryz.sizeOf125
 v51:=Tryz.zeroValue125
 t53:=Tryz.underlying162
 a53:=Tryz.isAgg162
 z53:=Tryz.sizeOf162
 v53:=Tryz.zeroValue162
 t70:=Tryz.underlying90
 a70:=Tryz.isAgg90
 z70:=Tryz.sizeOf90
 v70:=Tryz.zeroValue90
 t72:=Tryz.underlying93
 a72:=Tryz.isAgg93
 z72:=Tryz.sizeOf93
 v72:=Tryz.zeroValue93
 t75:=Tryz.underlying95
 a75:=Tryz.isAgg95
 z75:=Tryz.sizeOf95
 v75:=Tryz.zeroValue95
 t76:=Tryz.underlying96
 a76:=Tryz.isAgg96
 z76:=Tryz.sizeOf96
 v76:=Tryz.zeroValue96
 t109:=Tryz.underlying227
 a109:=Tryz.isAgg227
 z109:=Tryz.sizeOf227
 v109:=Tryz.zeroValue227
 t127:=Tryz.underlying131
 a127:=Tryz.isAgg131
 z127:=Tryz.sizeOf131
 v127:=Tryz.zeroValue131
 t146:=Tryz.underlying320
 a146:=Tryz.isAgg320
 z146:=Tryz.sizeOf320
 v146:=Tryz.zeroValue320
 t148:=Tryz.underlying322
 a148:=Tryz.isAgg322
 z148:=Tryz.sizeOf322
 v148:=Tryz.zeroValue322
 t164:=Tryz.underlying168
 a164:=Tryz.isAgg168
 z164:=Tryz.sizeOf168
 v164:=Tryz.zeroValue168}
theorem bv:Builder.Extra Tryz.prog bu:={
 sizeBuilder:=V
 liesBuilder:=V
 t5:=Tryz.underlying5
 a5:=Tryz.isAgg5
 z5:=Tryz.sizeOf5
 v5:=Tryz.zeroValue5
 infoByte:=V
 cellsByte:=V
 sizeByte:=V
 neB5:=by decide}
open Go.RowKit Go.Lib in
open Go.RowKit Go.Lib in
open Go.RowKit Go.Lib in
open Go.RowKit Go.Lib in
open Go.RowKit Go.Lib in
open Go.RowKit Go.Lib in
open Go.RowKit Go.Lib in
theorem Tryz.strings_Repeat (s:ByteArray) (c:Nat) (w:World) (b:c<=9223372036854775807) (a:s.size*c<=140737488355328):
 Calls Tryz.prog 104 #[.string s,.int .i64 c] w fun e w'=>e= .returned (.string ⟨(Lib.repeatL s.data.toList c).toArray⟩)/\Below w.heap.size w w':=Any.strings_Repeat cW bv s c w b a
end Go.Proofs
