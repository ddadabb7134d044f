/- Parts. -/
import Derived.Test.YtpldocnhbdlgfaaGreatDoorPc00
import Derived.Shelf.Small.Wraps
import Derived.Shelf.Strconv.Itoa1
import Derived.Shelf.Strconv.Itoa2
import Derived.Shelf.Strings.Shaped
import Derived.Shelf.Strings.Repeat
import Derived.Shelf.Strings.BuilderCap
namespace Go.Proofs.YtpldocnhbdlgfaaGreatDoor
set_option maxRecDepth 100000
set_option linter.all false
set_option maxHeartbeats 16000000
open Go Tryz
end Go.Proofs.YtpldocnhbdlgfaaGreatDoor
namespace Go.Proofs
open Go.Shelf Tryz
def Tryz.lays169_ren:Go.Shelf.Ren:=⟨fun |169=>240 |n=>n,fun |70=>231 |9=>9 |0=>0 |72=>233 |37=>217 |127=>245 |3=>3 |5=>5 |n=>n,fun |n=>n⟩
theorem Tryz.lays169:Go.Proofs.Lays.n169 Tryz.prog Tryz.lays169_ren:={mixed:=by kernel_rfl,f169:=func240.trans (congrArg some (by kernel_rfl)),t0:=underlying0,a0:=isAgg0,z0:=sizeOf0,v0:=zeroValue0,t3:=underlying3,a3:=isAgg3,z3:=sizeOf3,v3:=zeroValue3,t9:=underlying9,a9:=isAgg9,z9:=sizeOf9,v9:=zeroValue9,t37:=underlying217,a37:=isAgg217,z37:=sizeOf217,v37:=zeroValue217,t70:=underlying231,a70:=isAgg231,z70:=sizeOf231,v70:=zeroValue231,t72:=underlying233,a72:=isAgg233,z72:=sizeOf233,v72:=zeroValue233,t127:=underlying245,a127:=isAgg245,z127:=sizeOf245,v127:=zeroValue245 }
theorem Tryz.Builder_Extra_169:Builder.Extra Tryz.prog Tryz.lays169_ren:={
 sizeBuilder:=by kernel_rfl
 liesBuilder:=by kernel_rfl,t5:=underlying5,a5:=isAgg5,z5:=sizeOf5,v5:=zeroValue5
 infoByte:=by kernel_rfl
 cellsByte:=by kernel_rfl
 sizeByte:=by kernel_rfl
 neB5:=by decide }
open Go.RowKit in
theorem Tryz.Builder_String_any(B b:Nat)(l:List UInt8)(w:World)(h:Lib.IsBuilder 233 5 B b (Lib.byteCells l) w)(hBw:B≤w.heap.size):
  Calls Tryz.prog 240 #[.pointer (some ⟨b,0,none⟩)] w λe w'=>e=.returned (.string ⟨l.toArray⟩)∧Below B w w':=Any.Builder_String_any Tryz.lays169 Tryz.Builder_Extra_169 B b l w h hBw
def Tryz.lays103_ren:Go.Shelf.Ren:=⟨fun |103=>194 |210=>220 |206=>233 |n=>n,fun |9=>9 |4=>4 |24=>204 |3=>3 |n=>n,fun |n=>n⟩
theorem Tryz.lays103:Go.Proofs.Lays.n103 Tryz.prog Tryz.lays103_ren:={mixed:=by kernel_rfl,f103:=func194.trans (congrArg some (by kernel_rfl)),f206:=func233.trans (congrArg some (by kernel_rfl)),f210:=func220.trans (congrArg some (by kernel_rfl)),t3:=underlying3,a3:=isAgg3,z3:=sizeOf3,v3:=zeroValue3,t4:=underlying4,a4:=isAgg4,z4:=sizeOf4,v4:=zeroValue4,t9:=underlying9,a9:=isAgg9,z9:=sizeOf9,v9:=zeroValue9,t24:=underlying204,a24:=isAgg204,z24:=sizeOf204,v24:=zeroValue204 }
open Go.RowKit in
theorem Tryz.strings_CutPrefix(s p:ByteArray)(w:World):
  Calls Tryz.prog 194 #[.string s,.string p] w λe w'=>e=.returned (.tuple #[.string ⟨(Lib.trimPrefix s.data.toList p.data.toList).toArray⟩,.bool (Lib.hasPrefix s.data.toList p.data.toList)])∧w'=w:=Any.strings_CutPrefix Tryz.lays103 s p w
def Tryz.lays215_ren:Go.Shelf.Ren:=⟨fun |215=>257 |n=>n,fun |3=>3 |4=>4 |n=>n,fun |n=>n⟩
def Tryz.lays122_ren:Go.Shelf.Ren:=⟨fun |122=>243 |215=>257 |n=>n,fun |3=>3 |4=>4 |n=>n,fun |n=>n⟩
theorem Tryz.lays122:Go.Proofs.Lays.n122 Tryz.prog Tryz.lays122_ren:={mixed:=by kernel_rfl,f122:=func243.trans (congrArg some (by kernel_rfl)),f215:=func257.trans (congrArg some (by kernel_rfl)),t3:=underlying3,a3:=isAgg3,z3:=sizeOf3,v3:=zeroValue3,t4:=underlying4,a4:=isAgg4,z4:=sizeOf4,v4:=zeroValue4 }
open Go.RowKit in
theorem Tryz.cmp_Compare_int(x y:Int)(w:World):
  Calls Tryz.prog 243 #[.int .i64 x,.int .i64 y] w λe w'=>e=.returned (.int .i64 (Lib.compareInt x y))∧w'=w:=Any.cmp_Compare_int Tryz.lays122 x y w
def Tryz.lays283_ren:Go.Shelf.Ren:=⟨fun |283=>261 |n=>n,fun |3=>3 |9=>9 |4=>4 |n=>n,fun |n=>n⟩
theorem Tryz.lays283:Go.Proofs.Lays.n283 Tryz.prog Tryz.lays283_ren:={mixed:=by kernel_rfl,f283:=func261.trans (congrArg some (by kernel_rfl)),t3:=underlying3,a3:=isAgg3,z3:=sizeOf3,v3:=zeroValue3,t4:=underlying4,a4:=isAgg4,z4:=sizeOf4,v4:=zeroValue4,t9:=underlying9,a9:=isAgg9,z9:=sizeOf9,v9:=zeroValue9 }
open Go.Lib in
theorem Tryz.internal_strconv_small(i:Nat)(h:i < 100)(w:World):
  Calls Tryz.prog 261 #[.int .i64 i] w λe w'=>e=.returned (.string ⟨(Lib.decDigits i).toArray⟩)∧w'=w:=Any.internal_strconv_small Tryz.lays283 i h w
def Tryz.laysM284_ren:Go.Shelf.Ren:=⟨fun |284=>262 |129=>268 |317=>267 |318=>269 |n=>n,fun |53=>196 |3=>3 |212=>256 |0=>0 |4=>4 |46=>104 |5=>5 |9=>9 |n=>n,fun |17=>1 |n=>n⟩
theorem Tryz.laysM284:Go.Proofs.LaysM.n284 Tryz.prog Tryz.laysM284_ren:={mixed:=by kernel_rfl,f129:=func268.trans (congrArg some (by kernel_rfl)),f284:=func262.trans (congrArg some (by kernel_rfl)),f317:=func267.trans (congrArg some (by kernel_rfl)),f318:=func269.trans (congrArg some (by kernel_rfl)),t0:=underlying0,a0:=isAgg0,z0:=sizeOf0,v0:=zeroValue0,t3:=underlying3,a3:=isAgg3,z3:=sizeOf3,v3:=zeroValue3,t4:=underlying4,a4:=isAgg4,z4:=sizeOf4,v4:=zeroValue4,t5:=underlying5,a5:=isAgg5,z5:=sizeOf5,v5:=zeroValue5,t9:=underlying9,a9:=isAgg9,z9:=sizeOf9,v9:=zeroValue9,t46:=underlying104,a46:=isAgg104,z46:=sizeOf104,v46:=zeroValue104,t53:=underlying196,a53:=isAgg196,z53:=sizeOf196,v53:=zeroValue196,t212:=underlying256,a212:=isAgg256,z212:=sizeOf256,v212:=zeroValue256,g17:=by kernel_rfl,i0:=by kernel_rfl,i3:=by kernel_rfl,i4:=by kernel_rfl,i5:=by kernel_rfl,i9:=by kernel_rfl,i46:=by kernel_rfl,i53:=by kernel_rfl,i212:=by kernel_rfl,m17:=by kernel_rfl }
open Go.Lib in
theorem Tryz.internal_strconv_numDigits(u:Nat)(h1:1≤u)(h2:u < 18446744073709551616)(w:World)(htab:Lib.TabIs Tryz.prog w "internal/strconv.uint64pow10" .u64 Lib.pow10Tab) :
  Calls Tryz.prog 262 #[.int .u64 u] w λe w'=>e=.returned (.int .i64 (Lib.nDigits u))∧w'=w:=Any.internal_strconv_numDigits Tryz.laysM284 u h1 h2 w htab
def Tryz.lays285_ren:Go.Shelf.Ren:=⟨fun |285=>263 |n=>n,fun |37=>217 |53=>196 |3=>3 |4=>4 |51=>193 |9=>9 |5=>5 |0=>0 |n=>n,fun |n=>n⟩
theorem Tryz.lays285:Go.Proofs.Lays.n285 Tryz.prog Tryz.lays285_ren:={mixed:=by kernel_rfl,f285:=func263.trans (congrArg some (by kernel_rfl)),t0:=underlying0,a0:=isAgg0,z0:=sizeOf0,v0:=zeroValue0,t3:=underlying3,a3:=isAgg3,z3:=sizeOf3,v3:=zeroValue3,t4:=underlying4,a4:=isAgg4,z4:=sizeOf4,v4:=zeroValue4,t5:=underlying5,a5:=isAgg5,z5:=sizeOf5,v5:=zeroValue5,t9:=underlying9,a9:=isAgg9,z9:=sizeOf9,v9:=zeroValue9,t37:=underlying217,a37:=isAgg217,z37:=sizeOf217,v37:=zeroValue217,t51:=underlying193,a51:=isAgg193,z51:=sizeOf193,v51:=zeroValue193,t53:=underlying196,a53:=isAgg196,z53:=sizeOf196,v53:=zeroValue196 }
open Go.RowKit Go.Sort Go.Lib in
theorem Tryz.internal_strconv_formatBase10(blk off cap:Nat)(u:Nat)(d:Array UInt8)(w:World)(hH:Holds (λ(b:UInt8)=>Value.int .u8 (b.toNat:Int)) w blk off d)(hu:u < 10 ^ d.size)(hu64:u < 18446744073709551616)(hsz:d.size < 4611686018427387904):
  Calls Tryz.prog 263 #[.slice (some ⟨blk,off,none⟩) d.size cap,.int .u64 u] w λe w' =>
   e=.returned (.tuple #[])∧∃(n v':Nat) (dk:Array UInt8),w'=(putRow (λ(b:UInt8)=>Value.int .u8 (b.toNat:Int)) w blk off dk).drewN n∧FmtInv d.size u 0 v' dk:=Any.internal_strconv_formatBase10 Tryz.lays285 blk off cap u d w hH hu hu64 hsz
def Tryz.lays217_ren:Go.Shelf.Ren:=⟨fun |217=>247 |266=>259 |n=>n,fun |9=>9 |5=>5 |3=>3 |n=>n,fun |n=>n⟩
theorem Tryz.lays217:Go.Proofs.Lays.n217 Tryz.prog Tryz.lays217_ren:={mixed:=by kernel_rfl,f217:=func247.trans (congrArg some (by kernel_rfl)),f266:=func259.trans (congrArg some (by kernel_rfl)),t3:=underlying3,a3:=isAgg3,z3:=sizeOf3,v3:=zeroValue3,t5:=underlying5,a5:=isAgg5,z5:=sizeOf5,v5:=zeroValue5,t9:=underlying9,a9:=isAgg9,z9:=sizeOf9,v9:=zeroValue9 }
open Go.RowKit Go.Lib in
theorem Tryz.stringslite_IndexByte(s:ByteArray)(c:Int)(w:World):
  Calls Tryz.prog 247 #[.string s,.int .u8 c] w λe w'=>e=.returned (.int .i64 (Lib.indexByte s.data.toList c.toNat.toUInt8))∧w'=w:=Any.stringslite_IndexByte Tryz.lays217 s c w
def Tryz.lays105_ren:Go.Shelf.Ren:=⟨fun |105=>239 |212=>159 |99=>254 |165=>255 |166=>238 |170=>256 |169=>240 |263=>189 |264=>190 |206=>233 |240=>253 |241=>266 |276=>265 |277=>272 |n=>n,fun |9=>9 |3=>3 |4=>4 |20=>20 |0=>0 |46=>104 |109=>172 |5=>5 |72=>233 |76=>237 |51=>193 |146=>194 |53=>196 |148=>197 |70=>231 |37=>217 |75=>236 |127=>245 |164=>253 |80=>227 |n=>n,fun |n=>n⟩
theorem Tryz.lays105:Go.Proofs.Lays.n105 Tryz.prog Tryz.lays105_ren:={mixed:=by kernel_rfl,f99:=func254.trans (congrArg some (by kernel_rfl)),f105:=func239.trans (congrArg some (by kernel_rfl)),f165:=func255.trans (congrArg some (by kernel_rfl)),f166:=func238.trans (congrArg some (by kernel_rfl)),f169:=func240.trans (congrArg some (by kernel_rfl)),f170:=func256.trans (congrArg some (by kernel_rfl)),f206:=func233.trans (congrArg some (by kernel_rfl)),f212:=func159.trans (congrArg some (by kernel_rfl)),f240:=func253.trans (congrArg some (by kernel_rfl)),f241:=func266.trans (congrArg some (by kernel_rfl)),f263:=func189.trans (congrArg some (by kernel_rfl)),f264:=func190.trans (congrArg some (by kernel_rfl)),f276:=func265.trans (congrArg some (by kernel_rfl)),f277:=func272.trans (congrArg some (by kernel_rfl)),t0:=underlying0,a0:=isAgg0,z0:=sizeOf0,v0:=zeroValue0,t3:=underlying3,a3:=isAgg3,z3:=sizeOf3,v3:=zeroValue3,t4:=underlying4,a4:=isAgg4,z4:=sizeOf4,v4:=zeroValue4,t5:=underlying5,a5:=isAgg5,z5:=sizeOf5,v5:=zeroValue5,t9:=underlying9,a9:=isAgg9,z9:=sizeOf9,v9:=zeroValue9,t20:=underlying20,a20:=isAgg20,z20:=sizeOf20,v20:=zeroValue20,t37:=underlying217,a37:=isAgg217,z37:=sizeOf217,v37:=zeroValue217,t46:=underlying104,a46:=isAgg104,z46:=sizeOf104,v46:=zeroValue104,t51:=underlying193,a51:=isAgg193,z51:=sizeOf193,v51:=zeroValue193,t53:=underlying196,a53:=isAgg196,z53:=sizeOf196,v53:=zeroValue196,t70:=underlying231,a70:=isAgg231,z70:=sizeOf231,v70:=zeroValue231,t72:=underlying233,a72:=isAgg233,z72:=sizeOf233,v72:=zeroValue233,t75:=underlying236,a75:=isAgg236,z75:=sizeOf236,v75:=zeroValue236,t76:=underlying237,a76:=isAgg237,z76:=sizeOf237,v76:=zeroValue237,t109:=underlying172,a109:=isAgg172,z109:=sizeOf172,v109:=zeroValue172,t127:=underlying245,a127:=isAgg245,z127:=sizeOf245,v127:=zeroValue245,t146:=underlying194,a146:=isAgg194,z146:=sizeOf194,v146:=zeroValue194,t148:=underlying197,a148:=isAgg197,z148:=sizeOf197,v148:=zeroValue197,t164:=underlying253,a164:=isAgg253,z164:=sizeOf253,v164:=zeroValue253 }
theorem Tryz.Builder_Extra_105:Builder.Extra Tryz.prog Tryz.lays105_ren:={
 sizeBuilder:=by kernel_rfl
 liesBuilder:=by kernel_rfl,t5:=underlying5,a5:=isAgg5,z5:=sizeOf5,v5:=zeroValue5
 infoByte:=by kernel_rfl
 cellsByte:=by kernel_rfl
 sizeByte:=by kernel_rfl
 neB5:=by decide }
open Go.RowKit Go.Lib in
theorem Tryz.strings_Repeat(s:ByteArray)(c:Nat)(w:World)(hc:c≤9223372036854775807)(hlen:s.size*c≤140737488355328):
  Calls Tryz.prog 239 #[.string s,.int .i64 c] w λe w'=>e=.returned (.string ⟨(Lib.repeatL s.data.toList c).toArray⟩)∧Below w.heap.size w w':=Any.strings_Repeat Tryz.lays105 Tryz.Builder_Extra_105 s c w hc hlen
open Go.RowKit Go.Lib in
theorem Tryz.lays166:Go.Proofs.Lays.n166 Tryz.prog Tryz.lays105_ren:={Tryz.lays105 with }
open Go.RowKit in
theorem Tryz.Builder_WriteString(B b:Nat)(bs:List Value)(s:ByteArray)(w:World)(h:Lib.IsBuilder 233 5 B b bs w)(hlen:bs.length+s.size≤140737488355328)(hBw:B≤w.heap.size):
  Calls Tryz.prog 238 #[.pointer (some ⟨b,0,none⟩),.string s] w λe w'=>e=.returned (.tuple #[.int .i64 s.size,.nilIface])∧(Lib.BuilderAt 233 5 B b (.pointer (some ⟨b,0,none⟩)) (bs++Lib.strCells s) w'∧Below B w w') :=
 Any.Builder_WriteString Tryz.lays166 Tryz.Builder_Extra_105 B b bs s w h hlen hBw
end Go.Proofs
namespace Go.Proofs.YtpldocnhbdlgfaaGreatDoor
set_option maxRecDepth 100000
set_option linter.all false
set_option maxHeartbeats 16000000
open Go Tryz
end Go.Proofs.YtpldocnhbdlgfaaGreatDoor
