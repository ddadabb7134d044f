/- Parts of a proof: Shelf MC Fmt Text Valid Ops MM MD. -/
import Derived.Shelf.Strings.Builder1
import Derived.Shelf.Strings.Builder2
import Derived.Shelf.Small.Wraps
import Derived.Shelf.Strings.BuilderF
import Derived.Shelf.Strings.BuilderK
import Derived.Shelf.Strings.Builder2Cap
import Derived.Shelf.Strconv.Itoa0
import Derived.Shelf.Strconv.Itoa1
import Derived.Shelf.LaysM
import Derived.Shelf.Strconv.Itoa2
import Derived.Shelf.Strings.Search1
import Derived.Shelf.Strings.Search2
import Derived.Shelf.Strings.Cut
import Derived.Shelf.Strings.Shaped
import Derived.Shelf.Strings.Prefix
import Derived.Shelf.Bits.Mul64
import Derived.Shelf.Strings.Repeat
import Derived.Shelf.Strings.BuilderCap
import Derived.Test.YteappjogmnogcaaGreatDoorProg
import Derived.Test.YteappjogmnogcaaGreatDoorW01
import Derived.Deep.QuietTactic
import Derived.BigQuiet
import Derived.Test.YteappjogmnogcaaGreatDoorW00
import Derived.Lib.ItoaMem
import Derived.Lib.AppendIntMem
import Derived.BigCall
import Derived.BigGuard
import Derived.Lib.Repeat
import Derived.WalkKit
import Derived.WalkSpells
import Derived.WalkLawsBesides
import Derived.Lib.Hide
import Derived.Lib.Strings
import Derived.Deep.Cut
import Derived.Deep.DeepCutAuto
namespace Go.Proofs.YteappjogmnogcaaGreatDoor
set_option maxRecDepth 100000
set_option linter.unusedSimpArgs false
set_option linter.unusedVariables false
set_option linter.unusedSectionVars false
set_option maxHeartbeats 16000000
open Go Tryz
end Go.Proofs.YteappjogmnogcaaGreatDoor
namespace Go.Proofs
open Go.Shelf
def Tryz.lays169_ren:Go.Shelf.Ren:=⟨fun | 169=>235 | n=>n,fun | 70=>218 | 9=>9 | 0=>0 | 72=>220 | 37=>175 | 127=>233 | 3=>3 | 5=>5 | n=>n,fun | n=>n⟩
theorem Tryz.lays169:Go.Proofs.Lays.n169 Tryz.prog Tryz.lays169_ren:={
 mixed:=by kernel_rfl
 f169:=Tryz.func235.trans (congrArg some (by kernel_rfl))
 t0:=Tryz.underlying0
 a0:=Tryz.isAgg0
 z0:=Tryz.sizeOf0
 v0:=Tryz.zeroValue0
 t3:=Tryz.underlying3
 a3:=Tryz.isAgg3
 z3:=Tryz.sizeOf3
 v3:=Tryz.zeroValue3
 t9:=Tryz.underlying9
 a9:=Tryz.isAgg9
 z9:=Tryz.sizeOf9
 v9:=Tryz.zeroValue9
 t37:=Tryz.underlying175
 a37:=Tryz.isAgg175
 z37:=Tryz.sizeOf175
 v37:=Tryz.zeroValue175
 t70:=Tryz.underlying218
 a70:=Tryz.isAgg218
 z70:=Tryz.sizeOf218
 v70:=Tryz.zeroValue218
 t72:=Tryz.underlying220
 a72:=Tryz.isAgg220
 z72:=Tryz.sizeOf220
 v72:=Tryz.zeroValue220
 t127:=Tryz.underlying233
 a127:=Tryz.isAgg233
 z127:=Tryz.sizeOf233
 v127:=Tryz.zeroValue233 }
theorem Tryz.Builder_Extra_169:Builder.Extra Tryz.prog Tryz.lays169_ren:={
 sizeBuilder:=by kernel_rfl
 liesBuilder:=by kernel_rfl
 t5:=Tryz.underlying5
 a5:=Tryz.isAgg5
 z5:=Tryz.sizeOf5
 v5:=Tryz.zeroValue5
 infoByte:=by kernel_rfl
 cellsByte:=by kernel_rfl
 sizeByte:=by kernel_rfl
 neB5:=by decide }
open Go.RowKit in
theorem Tryz.Builder_String_any (B b:Nat) (l:List UInt8) (w:World) (h:Lib.IsBuilder 220 5 B b (Lib.byteCells l) w) (hBw:B≤w.heap.size) :
  Calls Tryz.prog 235 #[.pointer (some ⟨b,0,none⟩)] w fun e w'=>e=.returned (.string ⟨l.toArray⟩)∧Below B w w':=Any.Builder_String_any Tryz.lays169 Tryz.Builder_Extra_169 B b l w h hBw
def Tryz.lays103_ren:Go.Shelf.Ren:=⟨fun | 103=>210 | 210=>225 | 206=>239 | n=>n,fun | 9=>9 | 4=>4 | 24=>203 | 3=>3 | n=>n,fun | n=>n⟩
theorem Tryz.lays103:Go.Proofs.Lays.n103 Tryz.prog Tryz.lays103_ren:={
 mixed:=by kernel_rfl
 f103:=Tryz.func210.trans (congrArg some (by kernel_rfl))
 f206:=Tryz.func239.trans (congrArg some (by kernel_rfl))
 f210:=Tryz.func225.trans (congrArg some (by kernel_rfl))
 t3:=Tryz.underlying3
 a3:=Tryz.isAgg3
 z3:=Tryz.sizeOf3
 v3:=Tryz.zeroValue3
 t4:=Tryz.underlying4
 a4:=Tryz.isAgg4
 z4:=Tryz.sizeOf4
 v4:=Tryz.zeroValue4
 t9:=Tryz.underlying9
 a9:=Tryz.isAgg9
 z9:=Tryz.sizeOf9
 v9:=Tryz.zeroValue9
 t24:=Tryz.underlying203
 a24:=Tryz.isAgg203
 z24:=Tryz.sizeOf203
 v24:=Tryz.zeroValue203 }
open Go.RowKit in
theorem Tryz.strings_CutPrefix (s p:ByteArray) (w:World) :
  Calls Tryz.prog 210 #[.string s,.string p] w fun e w'=>e=.returned (.tuple #[.string ⟨(Lib.trimPrefix s.data.toList p.data.toList).toArray⟩,.bool (Lib.hasPrefix s.data.toList p.data.toList)])∧w'=w:=Any.strings_CutPrefix Tryz.lays103 s p w
def Tryz.lays215_ren:Go.Shelf.Ren:=⟨fun | 215=>241 | n=>n,fun | 3=>3 | 4=>4 | n=>n,fun | n=>n⟩
def Tryz.lays122_ren:Go.Shelf.Ren:=⟨fun | 122=>230 | 215=>241 | n=>n,fun | 3=>3 | 4=>4 | n=>n,fun | n=>n⟩
theorem Tryz.lays122:Go.Proofs.Lays.n122 Tryz.prog Tryz.lays122_ren:={
 mixed:=by kernel_rfl
 f122:=Tryz.func230.trans (congrArg some (by kernel_rfl))
 f215:=Tryz.func241.trans (congrArg some (by kernel_rfl))
 t3:=Tryz.underlying3
 a3:=Tryz.isAgg3
 z3:=Tryz.sizeOf3
 v3:=Tryz.zeroValue3
 t4:=Tryz.underlying4
 a4:=Tryz.isAgg4
 z4:=Tryz.sizeOf4
 v4:=Tryz.zeroValue4 }
open Go.RowKit in
theorem Tryz.cmp_Compare_int (x y:Int) (w:World) :
  Calls Tryz.prog 230 #[.int .i64 x,.int .i64 y] w fun e w'=>e=.returned (.int .i64 (Lib.compareInt x y))∧w'=w:=Any.cmp_Compare_int Tryz.lays122 x y w
def Tryz.lays283_ren:Go.Shelf.Ren:=⟨fun | 283=>253 | n=>n,fun | 3=>3 | 9=>9 | 4=>4 | n=>n,fun | n=>n⟩
theorem Tryz.lays283:Go.Proofs.Lays.n283 Tryz.prog Tryz.lays283_ren:={
 mixed:=by kernel_rfl
 f283:=Tryz.func253.trans (congrArg some (by kernel_rfl))
 t3:=Tryz.underlying3
 a3:=Tryz.isAgg3
 z3:=Tryz.sizeOf3
 v3:=Tryz.zeroValue3
 t4:=Tryz.underlying4
 a4:=Tryz.isAgg4
 z4:=Tryz.sizeOf4
 v4:=Tryz.zeroValue4
 t9:=Tryz.underlying9
 a9:=Tryz.isAgg9
 z9:=Tryz.sizeOf9
 v9:=Tryz.zeroValue9 }
open Go.Lib in
theorem Tryz.internal_strconv_small (i:Nat) (h:i < 100) (w:World) :
  Calls Tryz.prog 253 #[.int .i64 i] w fun e w'=>e=.returned (.string ⟨(Lib.decDigits i).toArray⟩)∧w'=w:=Any.internal_strconv_small Tryz.lays283 i h w
def Tryz.laysM284_ren:Go.Shelf.Ren:=⟨fun | 284=>254 | 129=>262 | 317=>261 | 318=>263 | n=>n,fun | 53=>179 | 3=>3 | 212=>243 | 0=>0 | 4=>4 | 46=>83 | 5=>5 | 9=>9 | n=>n,fun | 17=>1 | n=>n⟩
theorem Tryz.laysM284:Go.Proofs.LaysM.n284 Tryz.prog Tryz.laysM284_ren:={
 mixed:=by kernel_rfl
 f129:=Tryz.func262.trans (congrArg some (by kernel_rfl))
 f284:=Tryz.func254.trans (congrArg some (by kernel_rfl))
 f317:=Tryz.func261.trans (congrArg some (by kernel_rfl))
 f318:=Tryz.func263.trans (congrArg some (by kernel_rfl))
 t0:=Tryz.underlying0
 a0:=Tryz.isAgg0
 z0:=Tryz.sizeOf0
 v0:=Tryz.zeroValue0
 t3:=Tryz.underlying3
 a3:=Tryz.isAgg3
 z3:=Tryz.sizeOf3
 v3:=Tryz.zeroValue3
 t4:=Tryz.underlying4
 a4:=Tryz.isAgg4
 z4:=Tryz.sizeOf4
 v4:=Tryz.zeroValue4
 t5:=Tryz.underlying5
 a5:=Tryz.isAgg5
 z5:=Tryz.sizeOf5
 v5:=Tryz.zeroValue5
 t9:=Tryz.underlying9
 a9:=Tryz.isAgg9
 z9:=Tryz.sizeOf9
 v9:=Tryz.zeroValue9
 t46:=Tryz.underlying83
 a46:=Tryz.isAgg83
 z46:=Tryz.sizeOf83
 v46:=Tryz.zeroValue83
 t53:=Tryz.underlying179
 a53:=Tryz.isAgg179
 z53:=Tryz.sizeOf179
 v53:=Tryz.zeroValue179
 t212:=Tryz.underlying243
 a212:=Tryz.isAgg243
 z212:=Tryz.sizeOf243
 v212:=Tryz.zeroValue243
 g17:=by kernel_rfl
 i0:=by kernel_rfl
 i3:=by kernel_rfl
 i4:=by kernel_rfl
 i5:=by kernel_rfl
 i9:=by kernel_rfl
 i46:=by kernel_rfl
 i53:=by kernel_rfl
 i212:=by kernel_rfl
 m17:=by kernel_rfl }
open Go.Lib in
theorem Tryz.internal_strconv_numDigits (u:Nat) (h1:1≤u) (h2:u < 18446744073709551616) (w:World) (htab:Lib.TabIs Tryz.prog w "internal/strconv.uint64pow10" .u64 Lib.pow10Tab) :
  Calls Tryz.prog 254 #[.int .u64 u] w fun e w'=>e=.returned (.int .i64 (Lib.nDigits u))∧w'=w:=Any.internal_strconv_numDigits Tryz.laysM284 u h1 h2 w htab
def Tryz.lays285_ren:Go.Shelf.Ren:=⟨fun | 285=>255 | n=>n,fun | 37=>175 | 53=>179 | 3=>3 | 4=>4 | 51=>176 | 9=>9 | 5=>5 | 0=>0 | n=>n,fun | n=>n⟩
theorem Tryz.lays285:Go.Proofs.Lays.n285 Tryz.prog Tryz.lays285_ren:={
 mixed:=by kernel_rfl
 f285:=Tryz.func255.trans (congrArg some (by kernel_rfl))
 t0:=Tryz.underlying0
 a0:=Tryz.isAgg0
 z0:=Tryz.sizeOf0
 v0:=Tryz.zeroValue0
 t3:=Tryz.underlying3
 a3:=Tryz.isAgg3
 z3:=Tryz.sizeOf3
 v3:=Tryz.zeroValue3
 t4:=Tryz.underlying4
 a4:=Tryz.isAgg4
 z4:=Tryz.sizeOf4
 v4:=Tryz.zeroValue4
 t5:=Tryz.underlying5
 a5:=Tryz.isAgg5
 z5:=Tryz.sizeOf5
 v5:=Tryz.zeroValue5
 t9:=Tryz.underlying9
 a9:=Tryz.isAgg9
 z9:=Tryz.sizeOf9
 v9:=Tryz.zeroValue9
 t37:=Tryz.underlying175
 a37:=Tryz.isAgg175
 z37:=Tryz.sizeOf175
 v37:=Tryz.zeroValue175
 t51:=Tryz.underlying176
 a51:=Tryz.isAgg176
 z51:=Tryz.sizeOf176
 v51:=Tryz.zeroValue176
 t53:=Tryz.underlying179
 a53:=Tryz.isAgg179
 z53:=Tryz.sizeOf179
 v53:=Tryz.zeroValue179 }
open Go.RowKit Go.Sort Go.Lib in
theorem Tryz.internal_strconv_formatBase10 (blk off cap:Nat) (u:Nat) (d:Array UInt8) (w:World) (hH:Holds (fun (b:UInt8)=>Value.int .u8 (b.toNat:Int)) w blk off d) (hu:u < 10 ^ d.size) (hu64:u < 18446744073709551616) (hsz:d.size < 4611686018427387904) :
  Calls Tryz.prog 255 #[.slice (some ⟨blk,off,none⟩) d.size cap,.int .u64 u] w fun e w' =>
   e=.returned (.tuple #[])∧∃ (n v':Nat) (dk:Array UInt8),w'=(putRow (fun (b:UInt8)=>Value.int .u8 (b.toNat:Int)) w blk off dk).drewN n∧FmtInv d.size u 0 v' dk:=Any.internal_strconv_formatBase10 Tryz.lays285 blk off cap u d w hH hu hu64 hsz
def Tryz.lays217_ren:Go.Shelf.Ren:=⟨fun | 217=>249 | 266=>259 | n=>n,fun | 9=>9 | 5=>5 | 3=>3 | n=>n,fun | n=>n⟩
theorem Tryz.lays217:Go.Proofs.Lays.n217 Tryz.prog Tryz.lays217_ren:={
 mixed:=by kernel_rfl
 f217:=Tryz.func249.trans (congrArg some (by kernel_rfl))
 f266:=Tryz.func259.trans (congrArg some (by kernel_rfl))
 t3:=Tryz.underlying3
 a3:=Tryz.isAgg3
 z3:=Tryz.sizeOf3
 v3:=Tryz.zeroValue3
 t5:=Tryz.underlying5
 a5:=Tryz.isAgg5
 z5:=Tryz.sizeOf5
 v5:=Tryz.zeroValue5
 t9:=Tryz.underlying9
 a9:=Tryz.isAgg9
 z9:=Tryz.sizeOf9
 v9:=Tryz.zeroValue9 }
open Go.RowKit Go.Lib in
theorem Tryz.stringslite_IndexByte (s:ByteArray) (c:Int) (w:World) :
  Calls Tryz.prog 249 #[.string s,.int .u8 c] w fun e w'=>e=.returned (.int .i64 (Lib.indexByte s.data.toList c.toNat.toUInt8))∧w'=w:=Any.stringslite_IndexByte Tryz.lays217 s c w
def Tryz.lays212_ren:Go.Shelf.Ren:=⟨fun | 212=>152 | 263=>180 | 264=>181 | n=>n,fun | 46=>83 | 51=>176 | 146=>177 | 53=>179 | 148=>180 | n=>n,fun | n=>n⟩
theorem Tryz.lays212:Go.Proofs.Lays.n212 Tryz.prog Tryz.lays212_ren:={
 mixed:=by kernel_rfl
 f212:=Tryz.func152.trans (congrArg some (by kernel_rfl))
 f263:=Tryz.func180.trans (congrArg some (by kernel_rfl))
 f264:=Tryz.func181.trans (congrArg some (by kernel_rfl))
 t46:=Tryz.underlying83
 a46:=Tryz.isAgg83
 z46:=Tryz.sizeOf83
 v46:=Tryz.zeroValue83
 t51:=Tryz.underlying176
 a51:=Tryz.isAgg176
 z51:=Tryz.sizeOf176
 v51:=Tryz.zeroValue176
 t53:=Tryz.underlying179
 a53:=Tryz.isAgg179
 z53:=Tryz.sizeOf179
 v53:=Tryz.zeroValue179
 t146:=Tryz.underlying177
 a146:=Tryz.isAgg177
 z146:=Tryz.sizeOf177
 v146:=Tryz.zeroValue177
 t148:=Tryz.underlying180
 a148:=Tryz.isAgg180
 z148:=Tryz.sizeOf180
 v148:=Tryz.zeroValue180 }
open Go.RowKit Go.Lib in
theorem Tryz.bits_Mul (x y:Nat) (hx:x < 18446744073709551616) (hy:y < 18446744073709551616) (w:World) :
  Calls Tryz.prog 152 #[.int .u64 x,.int .u64 y] w fun e w'=>e=.returned (.tuple #[.int .u64 ((x*y / 18446744073709551616:Nat):Int),.int .u64 ((x*y % 18446744073709551616:Nat):Int)])∧w'=w:=Any.bits_Mul Tryz.lays212 x y hx hy w
def Tryz.lays105_ren:Go.Shelf.Ren:=⟨fun | 105=>234 | 212=>152 | 99=>245 | 165=>246 | 166=>233 | 170=>247 | 169=>235 | 263=>180 | 264=>181 | 206=>239 | 240=>244 | 241=>258 | 276=>257 | 277=>266 | n=>n,fun | 9=>9 | 3=>3 | 4=>4 | 20=>20 | 0=>0 | 46=>83 | 109=>164 | 5=>5 | 72=>220 | 76=>224 | 51=>176 | 146=>177 | 53=>179 | 148=>180 | 70=>218 | 37=>175 | 75=>223 | 127=>233 | 164=>239 | 80=>208 | n=>n,fun | n=>n⟩
theorem Tryz.lays105:Go.Proofs.Lays.n105 Tryz.prog Tryz.lays105_ren:={
 mixed:=by kernel_rfl
 f99:=Tryz.func245.trans (congrArg some (by kernel_rfl))
 f105:=Tryz.func234.trans (congrArg some (by kernel_rfl))
 f165:=Tryz.func246.trans (congrArg some (by kernel_rfl))
 f166:=Tryz.func233.trans (congrArg some (by kernel_rfl))
 f169:=Tryz.func235.trans (congrArg some (by kernel_rfl))
 f170:=Tryz.func247.trans (congrArg some (by kernel_rfl))
 f206:=Tryz.func239.trans (congrArg some (by kernel_rfl))
 f212:=Tryz.func152.trans (congrArg some (by kernel_rfl))
 f240:=Tryz.func244.trans (congrArg some (by kernel_rfl))
 f241:=Tryz.func258.trans (congrArg some (by kernel_rfl))
 f263:=Tryz.func180.trans (congrArg some (by kernel_rfl))
 f264:=Tryz.func181.trans (congrArg some (by kernel_rfl))
 f276:=Tryz.func257.trans (congrArg some (by kernel_rfl))
 f277:=Tryz.func266.trans (congrArg some (by kernel_rfl))
 t0:=Tryz.underlying0
 a0:=Tryz.isAgg0
 z0:=Tryz.sizeOf0
 v0:=Tryz.zeroValue0
 t3:=Tryz.underlying3
 a3:=Tryz.isAgg3
 z3:=Tryz.sizeOf3
 v3:=Tryz.zeroValue3
 t4:=Tryz.underlying4
 a4:=Tryz.isAgg4
 z4:=Tryz.sizeOf4
 v4:=Tryz.zeroValue4
 t5:=Tryz.underlying5
 a5:=Tryz.isAgg5
 z5:=Tryz.sizeOf5
 v5:=Tryz.zeroValue5
 t9:=Tryz.underlying9
 a9:=Tryz.isAgg9
 z9:=Tryz.sizeOf9
 v9:=Tryz.zeroValue9
 t20:=Tryz.underlying20
 a20:=Tryz.isAgg20
 z20:=Tryz.sizeOf20
 v20:=Tryz.zeroValue20
 t37:=Tryz.underlying175
 a37:=Tryz.isAgg175
 z37:=Tryz.sizeOf175
 v37:=Tryz.zeroValue175
 t46:=Tryz.underlying83
 a46:=Tryz.isAgg83
 z46:=Tryz.sizeOf83
 v46:=Tryz.zeroValue83
 t51:=Tryz.underlying176
 a51:=Tryz.isAgg176
 z51:=Tryz.sizeOf176
 v51:=Tryz.zeroValue176
 t53:=Tryz.underlying179
 a53:=Tryz.isAgg179
 z53:=Tryz.sizeOf179
 v53:=Tryz.zeroValue179
 t70:=Tryz.underlying218
 a70:=Tryz.isAgg218
 z70:=Tryz.sizeOf218
 v70:=Tryz.zeroValue218
 t72:=Tryz.underlying220
 a72:=Tryz.isAgg220
 z72:=Tryz.sizeOf220
 v72:=Tryz.zeroValue220
 t75:=Tryz.underlying223
 a75:=Tryz.isAgg223
 z75:=Tryz.sizeOf223
 v75:=Tryz.zeroValue223
 t76:=Tryz.underlying224
 a76:=Tryz.isAgg224
 z76:=Tryz.sizeOf224
 v76:=Tryz.zeroValue224
 t109:=Tryz.underlying164
 a109:=Tryz.isAgg164
 z109:=Tryz.sizeOf164
 v109:=Tryz.zeroValue164
 t127:=Tryz.underlying233
 a127:=Tryz.isAgg233
 z127:=Tryz.sizeOf233
 v127:=Tryz.zeroValue233
 t146:=Tryz.underlying177
 a146:=Tryz.isAgg177
 z146:=Tryz.sizeOf177
 v146:=Tryz.zeroValue177
 t148:=Tryz.underlying180
 a148:=Tryz.isAgg180
 z148:=Tryz.sizeOf180
 v148:=Tryz.zeroValue180
 t164:=Tryz.underlying239
 a164:=Tryz.isAgg239
 z164:=Tryz.sizeOf239
 v164:=Tryz.zeroValue239 }
theorem Tryz.Builder_Extra_105:Builder.Extra Tryz.prog Tryz.lays105_ren:={
 sizeBuilder:=by kernel_rfl
 liesBuilder:=by kernel_rfl
 t5:=Tryz.underlying5
 a5:=Tryz.isAgg5
 z5:=Tryz.sizeOf5
 v5:=Tryz.zeroValue5
 infoByte:=by kernel_rfl
 cellsByte:=by kernel_rfl
 sizeByte:=by kernel_rfl
 neB5:=by decide }
open Go.RowKit Go.Lib in
theorem Tryz.strings_Repeat (s:ByteArray) (c:Nat) (w:World) (hc:c≤9223372036854775807) (hlen:s.size*c≤140737488355328) :
  Calls Tryz.prog 234 #[.string s,.int .i64 c] w fun e w'=>e=.returned (.string ⟨(Lib.repeatL s.data.toList c).toArray⟩)∧Below w.heap.size w w':=Any.strings_Repeat Tryz.lays105 Tryz.Builder_Extra_105 s c w hc hlen
open Go.RowKit Go.Lib in
theorem Tryz.lays166:Go.Proofs.Lays.n166 Tryz.prog Tryz.lays105_ren:={ Tryz.lays105 with }
open Go.RowKit in
theorem Tryz.Builder_WriteString (B b:Nat) (bs:List Value) (s:ByteArray) (w:World) (h:Lib.IsBuilder 220 5 B b bs w) (hlen:bs.length+s.size≤140737488355328) (hBw:B≤w.heap.size) :
  Calls Tryz.prog 233 #[.pointer (some ⟨b,0,none⟩),.string s] w fun e w'=>e=.returned (.tuple #[.int .i64 s.size,.nilIface])∧(Lib.BuilderAt 220 5 B b (.pointer (some ⟨b,0,none⟩)) (bs++Lib.strCells s) w'∧Below B w w') :=
 Any.Builder_WriteString Tryz.lays166 Tryz.Builder_Extra_105 B b bs s w h hlen hBw
end Go.Proofs
namespace Go.Proofs.YteappjogmnogcaaGreatDoor
set_option maxRecDepth 100000
set_option linter.unusedSimpArgs false
set_option linter.unusedVariables false
set_option linter.unusedSectionVars false
set_option maxHeartbeats 16000000
open Go Tryz
section
open Go.RowKit
def cmpN (m n:Nat):Int:=if m<n then -1 else if n<m then 1 else 0
theorem z7t {m n:Nat} (h:m<n):cmpN m n=-1:=by unfold cmpN;rw[if_pos h]
theorem z7x {m n:Nat} (h:n<m):cmpN m n=1:=by unfold cmpN;rw[if_neg (by omega),if_pos h]
theorem y1p {m n:Nat} (h:m=n):cmpN m n=0:=by unfold cmpN;rw[if_neg (by omega),if_neg (by omega)]
theorem y4h (x:Int) (w:World):Calls prog 242 #[.int .u64 x] w fun e w'=>e=.returned (.bool false)/\w=w':=by
 have h:(x != x)=false:=by simp
 go_enter func242,ntmps242
 go_wp2;go_ret;exact⟨rfl,rfl⟩
theorem x1k (x y:Nat) (w:World):Calls prog 231 #[.int .u64 (x:Int),.int .u64 (y:Int)] w fun e w'=>e=.returned (.int .i64 (cmpN x y))/\w=w':=by
 rcases Nat.lt_trichotomy x y with h|h|h
 ·have c:=z7t h;have d:=qh c;clear c
  go_enter func231,ntmps231
  go_wp2_with (go_at_call 242;refine(y4h _ _).mono ?_;rintro e w' ⟨rfl,rfl⟩)
  go_ret;exact⟨z5k d.out.symm,rfl⟩
 ·subst h;have c:=y1p (rfl:x=x);have d:=qh c;clear c
  go_enter func231,ntmps231
  go_wp2_with (go_at_call 242;refine(y4h _ _).mono ?_;rintro e w' ⟨rfl,rfl⟩)
  go_ret;exact⟨z5k d.out.symm,rfl⟩
 have c:=z7x h;have d:=qh c;clear c
 go_enter func231,ntmps231
 go_wp2_with (go_at_call 242;refine(y4h _ _).mono ?_;rintro e w' ⟨rfl,rfl⟩)
 go_ret;exact⟨z5k d.out.symm,rfl⟩
theorem y2m (xs:List Nat) (k i:Nat):nth (xs.drop k) i=nth xs (k+i):=by simp[nth,List.getD_eq_getElem?_getD]
theorem y6k (xs:List Nat) (j:Nat):bval xs=bval (xs.take j)+BB ^ j*nth xs j+BB ^ (j+1)*bval (xs.drop (j+1)):=by
 rw[<- z0k];by_cases h:j+1<=xs.length
 ·have:=z4g (xs.take (j+1)) (xs.drop (j+1));rw[List.take_append_drop,List.length_take,Nat.min_eq_left h] at this;exact this
 rw[List.take_of_length_le (by omega),List.drop_of_length_le (by omega)];simp[bval]
theorem y1x {xs c:List Nat} (g:xs.length=c.length) (h:∀ j,j<xs.length->nth xs j=nth c j):xs=c:=by
 apply List.ext_getElem g
 intro i d k;have:=h i d;rw[y1k xs i d,y1k c i k] at this;exact this
theorem y5p {xs c:List Nat} (h:Small xs) (g:xs.length=c.length) (j:Nat) (k:∀ i,j<i->i<xs.length->nth xs i=nth c i) (d:nth xs j<nth c j):bval xs<bval c:=by
 rw[y6k xs j,y6k c j];have e:xs.drop (j+1)=c.drop (j+1):=y1x (by simp[g]) (fun i hi=>by
  rw[y2m,y2m];rw[List.length_drop] at hi;exact k _ (by omega) (by omega))
 rw[e];have m:bval (xs.take j)<BB ^ j:=Nat.lt_of_lt_of_le (z3s (z4j h j)) (Nat.pow_le_pow_right z1w (by rw[List.length_take];omega));have l:BB ^ j*(nth xs j+1)<=BB ^ j*nth c j:=Nat.mul_le_mul_left _ d;rw[Nat.mul_add] at l;omega
theorem y9g {m n:Nat} (h:(toB m).length<(toB n).length):m<n:=by
 rcases Nat.lt_or_ge m n with c|c
 ·exact c
 have:=z2h c;omega
def CmpEnd (m n:Nat) (w:World) (e:Ending) (w':World):Prop:=e=.returned (.int .i64 (cmpN m n))/\Below w.heap.size w w'
theorem cmpint (x y:Nat) (w:World):Calls prog 230 #[.int .i64 (x:Int),.int .i64 (y:Int)] w fun e w'=>e=.returned (.int .i64 (cmpN x y))/\w=w':=by
 refine(Tryz.cmp_Compare_int x y w).mono fun e w' h=>⟨?_,h.2.symm⟩;rw[h.1]
 apply z5k
 unfold Lib.compareInt cmpN
 repeat' split
 all_goals first|rfl|omega
theorem z5m (Y X:Value) (m n:Nat) (w:World) (hx:Sl w .u64 Y (toB m)) (W:Sl w .u64 X (toB n)) :
  Calls prog 220 #[Y,X] w (CmpEnd m n w):=by
 obtain⟨ax,cx,bx,ox,rfl,A,U,F,Q,d⟩:=hx.open;obtain⟨ay,cy,N,oy,rfl,z,Z,G,O,c⟩:=W.open;unfold maxLen at F G;clear hx W;by_cases K:(toB m).length=(toB n).length
 ·have I:(((toB m).length:Int) != ((toB n).length:Int))=false:=by rw[K];simp
  go_enter func220,ntmps220
  have s:=qh K;clear K;go_wp2;clear I
  go_loopw [19] (fun i wr=>∃ k:Nat,k<=(toB m).length/\i=.int .i64 k/\(∀ j,(toB m).length-1-k<j->j<(toB m).length->nth (toB m) j=nth (toB n) j)/\(k=(toB m).length->0<k->nth (toB m) 0=nth (toB n) 0)/\Below w.heap.size w wr) (fun i _=>(toB m).length-(intOf i).toNat)
  case atStart=>exact⟨0,Nat.zero_le _,rfl,fun j C B=>by omega,fun _ h=>absurd h (Nat.lt_irrefl _),blr⟩
  obtain⟨k,hk,rfl,J,o,hb⟩:=hrel;have L:=qh J;clear J;have R:=qh o;clear o;have D:=qh hb;clear hb;by_cases a1:k<(toB m).length
  ·obtain rfl:=A (by omega);obtain rfl:=z (by have:=s.out;omega);have c1:=(D.out.cell (p:=⟨bx,ox+((toB m).length-1-k),none⟩) (Q (by omega))).trans (d ((toB m).length-1-k) (by omega));have c2:=(D.out.cell (p:=⟨N,oy+((toB m).length-1-k),none⟩) (O (by have:=s.out;omega))).trans (c ((toB m).length-1-k) (by have:=s.out;omega));have T:(((toB m).length:Int)-1-(k:Int))<((toB n).length:Int):=by have:=s.out;omega
   have S:0<=(((toB m).length:Int)-1-(k:Int)):=by omega
   clear A z d c
   rcases Nat.lt_trichotomy (nth (toB m) ((toB m).length-1-k)) (nth (toB n) ((toB m).length-1-k)) with g|g|g
   ·have u:=z7t g;have l:cmpN m n=-1:=z7t (by
     have:=y5p (z0x m) s.out ((toB m).length-1-k) (fun i C B=>L.out i C B) g
     rwa [z1a,z1a] at this)
    clear g;have E:=qh l;clear l;have H:=qh u;clear u
    go_wp2_with fail
    go_quiet ((go_at_call 231;exact Calls.quiet_of_same ((x1k _ _ _).mono fun e P h=>⟨by rw[h.1,H.out],h.2.symm⟩)))
    go_wp2;go_ret;exact⟨z5k E.out.symm,below_drewN D.out _⟩
   ·have u:=y1p g;have HC:=qh g;clear g;have H:=qh u;clear u
    go_wp2_with fail
    go_quiet ((go_at_call 231;exact Calls.quiet_of_same ((x1k _ _ _).mono fun e P h=>⟨by rw[h.1,H.out],h.2.symm⟩)))
    go_wp2;go_roundw
    case rel =>
     refine⟨k+1,by omega,by go_num,fun j C B=>?_,fun C _=>?_,below_drewN D.out _⟩
     ·by_cases e:j=(toB m).length-1-k
      ·rw[e];exact HC.out
      exact L.out j (by omega) B
     have:=HC.out
     rwa [show (toB m).length-1-k=0 by omega] at this
    simp[intOf];omega
   have u:=z7x g;have l:cmpN m n=1:=z7x (by
    have:=y5p (z0x n) s.out.symm ((toB m).length-1-k) (fun i C B=>(L.out i C (by rw[s.out];exact B)).symm) g
    rwa [z1a,z1a] at this)
   clear g;have E:=qh l;clear l;have H:=qh u;clear u
   go_wp2_with fail
   go_quiet ((go_at_call 231;exact Calls.quiet_of_same ((x1k _ _ _).mono fun e P h=>⟨by rw[h.1,H.out],h.2.symm⟩)))
   go_wp2;go_ret;exact⟨z5k E.out.symm,below_drewN D.out _⟩
  go_wp2;go_ret;have l:cmpN m n=0:=y1p (by
   have e:toB m=toB n:=y1x s.out (fun j hj=>by
    by_cases h0:j=0
    ·subst h0;exact R.out (by omega) (by omega)
    exact L.out j (by omega) hj)
   rw[<- z1a m,e,z1a])
  exact⟨z5k l.symm,D.out⟩
 have I:(((toB m).length:Int) != ((toB n).length:Int))=true:=by rw[bne_iff_ne];omega
 have l:cmpN (toB m).length (toB n).length=cmpN m n:=by
  rcases Nat.lt_or_ge (toB m).length (toB n).length with h|h
  ·rw[z7t h,z7t (y9g h)]
  rw[z7x (show (toB n).length<(toB m).length by omega),z7x (y9g (by omega))]
 have E:=qh l;clear l;clear K A z d c
 go_enter func220,ntmps220
 go_wp2_with (go_at_call 230;refine(cmpint _ _ _).mono ?_;rintro e P ⟨rfl,rfl⟩)
 go_ret;exact⟨z5k E.out,blr⟩
end
section
def padj:Nat->Nat->List UInt8|0,_=>[] | j+1,b=>padj j (b / 10)++[UInt8.ofNat (48+b % 10)]
theorem v9g (j:Nat):∀ (n b:Nat),1<=n->b<10 ^ j->dec (n*10 ^ j+b)=dec n++padj j b:=by
 induction j with
 | zero=>intro n b _ hb;simp at hb;subst hb;simp[padj]
 | succ j ih =>
  intro n b c hb;have h:10<=n*10 ^ (j+1)+b:=by
   have:1*10 ^ (j+1)<=n*10 ^ (j+1):=Nat.mul_le_mul_right _ c;have:1<=10 ^ j:=Nat.pow_pos (by omega);rw[Nat.pow_succ] at *;omega
  rw[y1q (by omega)];have g:(n*10 ^ (j+1)+b) / 10=n*10 ^ j+b / 10:=by rw[Nat.pow_succ,<- Nat.mul_assoc];omega
  have d:(n*10 ^ (j+1)+b) % 10=b % 10:=by rw[Nat.pow_succ,<- Nat.mul_assoc];omega
  rw[g,d,ih n (b / 10) c (by rw[Nat.pow_succ] at hb;omega)];simp[padj]
theorem v1t (j:Nat):padj j 0=List.replicate j 48:=by
 induction j with
 | zero=>rfl
 | succ j ih=>simp only[padj,Nat.zero_div,Nat.zero_mod,ih];rw[List.replicate_succ'];rfl
theorem v9p (j:Nat):∀ b,1<=j->b<10 ^ j->padj j b=List.replicate (j-(dec b).length) 48++dec b:=by
 induction j with
 | zero=>intro b h;omega
 | succ j ih =>
  intro b _ hb;by_cases h:b<10
  ·simp only[padj];rw[z2q h,Nat.div_eq_of_lt h,v1t,Nat.mod_eq_of_lt h];simp
  have d:1<=j:=by
   rcases Nat.eq_zero_or_pos j with c|c
   ·subst c;simp at hb;omega
   exact c
  simp only[padj];rw[ih (b / 10) d (by rw[Nat.pow_succ] at hb;omega),y1q h];simp
theorem v0t {n b:Nat} (hn:1<=n) (hb:b<BB):dec (b+BB*n)=dec n++(List.replicate (9-(dec b).length) 48++dec b):=by
 rw[z0r] at *;have h:b+1000000000*n=n*10 ^ 9+b:=by omega
 rw[h,v9g 9 n b hn (by omega),v9p 9 b (by omega) (by omega)]
theorem v6g {b:Nat} (hb:b<BB):(dec b).length<=9:=by rw[z0r] at hb;exact z3n.2 ⟨by omega,by omega⟩
noncomputable def topB (n k:Nat):List UInt8:=if k=0 then [] else dec (bval ((toB n).drop ((toB n).length-k)))
theorem y8x (n:Nat):topB n 0=[]:=rfl
theorem y3i (xs:List Nat) (k:Nat) (c:k<xs.length):bval (xs.drop (xs.length-(k+1)))=nth xs (xs.length-1-k)+BB*bval (xs.drop (xs.length-k)):=by
 rw[List.drop_eq_getElem_cons (by omega),show xs.length-(k+1)+1=xs.length-k by omega];simp only[bval];rw[y1k xs _ (by omega)]
 congr 2
 omega
theorem v5u (n:Nat) (h:n≠0):topB n 1=dec (nth (toB n) ((toB n).length-1)):=by
 have:=y2f h;unfold topB;rw[if_neg (by omega),y3i (toB n) 0 (by omega),Nat.sub_zero,Nat.sub_zero,List.drop_length];simp[bval]
theorem v4g (n:Nat) (h:n≠0) (k:Nat) (g:1<=k) (d:k<=(toB n).length):1<=bval ((toB n).drop ((toB n).length-k)):=by
 induction k with
 | zero=>omega
 | succ k ih =>
  rw[y3i (toB n) k d]
  rcases Nat.eq_zero_or_pos k with c|c
  ·subst c;rw[Nat.sub_zero];have:=y6t h;omega
  have:=ih c (by omega);have:BB*1<=BB*bval ((toB n).drop ((toB n).length-k)):=Nat.mul_le_mul_left _ this;have:=z1w;omega
theorem v0f (n:Nat) (h:n≠0) (k:Nat) (d:1<=k) (c:k<(toB n).length) :
  topB n (k+1)=topB n k++(List.replicate (9-(dec (nth (toB n) ((toB n).length-1-k))).length) 48++dec (nth (toB n) ((toB n).length-1-k))):=by
 unfold topB;rw[if_neg (by omega),if_neg (by omega),y3i (toB n) k c,v0t (v4g n h k d (by omega)) (z0x n _)]
theorem x4q (n:Nat) (h:n≠0):topB n (toB n).length=dec n:=by
 have:=y2f h;unfold topB;rw[if_neg (by omega),Nat.sub_self,List.drop_zero,z1a]
theorem x3n (n k:Nat):(topB n k).length<=9*k:=by
 unfold topB
 split
 ·simp
 have c:Small ((toB n).drop ((toB n).length-k)):=fun i=>by rw[y2m];exact z0x n _
 have d:=z3s c;refine z3n.2 ⟨Nat.lt_of_lt_of_le d ?_,by omega⟩;rw[pow9];exact Nat.pow_le_pow_right z1w (by rw[List.length_drop];omega)
end
section
open Go.RowKit Go.Sort
def Tab (w:World):Prop:=Lib.TabIs prog w "internal/strconv.uint64pow10" .u64 Lib.pow10Tab
theorem Tab.below {B:Nat} {w c:World} (h:Tab w) (hb:Below B w c) (d:w.heap.size<=B):Tab c:=(Lib.tabBelow_of_tabIs h) c (hb.mono d)
theorem below_grow {B:Nat} {a w:World} (h:Below B a w) (os:Array Obj) (c:B<=w.heap.size):Below B a (grow w os) :=
 h.trans ⟨rfl,rfl,rfl,by simp[grow],fun k d=>by
  show (w.heap++os)[k]?=_;rw[Array.getElem?_append_left (by omega)]⟩
abbrev encB:UInt8->Value:=fun b=>.int .u8 (b.toNat:Int)
theorem holds_zero0 (w:World) (T:TypeId) (c:Nat) (h:c<=24):Holds encB (w.alloc (.cells Lib.zeros24 T)) w.heap.size 0 (Array.replicate c (0:UInt8)):=fun j d=>by
 have g:j<c:=by simpa using d
 refine⟨?_,World.frozen?_alloc_new _ _ _ _⟩;rw[World.cell?_alloc_new,Lib.zeros24_at _ (by omega),getElem!_pos _ j d];simp
theorem v5v (w:World) (o:Obj) (d:Array UInt8) (k:Nat):∃ os,(putRow encB (w.alloc o) w.heap.size 0 d).drewN k=grow (w.drewN k) os:=by
 rw[alloc_eq_grow];obtain⟨c,_,e⟩:=putRow_grow_new encB w #[o] w.heap.size 0 d nlr;exact⟨c,by rw[e];rfl⟩
set_option maxRecDepth 100000 in
theorem v2m (u:Nat) (z:u<18446744073709551616) (w:World) (d:Tab w) :
  Calls prog 243 #[.int .u64 (u:Int),.int .i64 10] w fun e w'=>e=.returned (.string (str (dec u)))/\Below w.heap.size w w':=by
 by_cases F:u<100
 ·go_enter func243,ntmps243
  go_wp2_with (go_at_call 253;refine(Tryz.internal_strconv_small u F _).mono ?_;rintro e w' ⟨rfl,rfl⟩)
  go_ret;exact⟨rfl,blr⟩
 have o:1<=u:=by omega
 have p:Lib.nDigits u<=20:=Lib.nDigits_le20 u z;have m:prog.arrayLen 234=24:=by simp[Program.arrayLen,underlying234]
 have B:∀ W,(Instr.sliceAt 234 (.pointer (some ⟨w.heap.size,0,none⟩)) none (some (.int .i64 (Lib.nDigits u:Int))) none).run prog W=.ok (.slice (some ⟨w.heap.size,0,none⟩) (Lib.nDigits u) 24) W:=fun W=>by
  rw[run_sliceAt_array_h W 234 ⟨w.heap.size,0,none⟩ (by simp[Program.arrayLen,Program.elem,underlying234]) .i64 (Lib.nDigits u:Int) (by omega) (by rw[m];omega)];go_simp
 have g:=holds_zero0 w 234 (Lib.nDigits u) (by omega);have c:=Tryz.internal_strconv_formatBase10 w.heap.size 0 24 u (Array.replicate (Lib.nDigits u) 0) (w.alloc (.cells Lib.zeros24 234)) g (by rw[Array.size_replicate];exact Lib.lt_pow_nDigits u) z (by rw[Array.size_replicate];omega);rw[Array.size_replicate] at c;have A:=qh g;clear g m;have E:=qh d;clear d
 go_enter func243,ntmps243
 go_wp2_with (go_at_call 254;refine(Tryz.internal_strconv_numDigits u o z _ (Lib.tabIs_alloc E.out _)).mono ?_;rintro e w' ⟨rfl,rfl⟩)
 refine c.mono ?_;rintro e w' ⟨rfl,k,H,l,rfl,i⟩;have D:(convert 175 9 (.slice (some ⟨w.heap.size,0,none⟩) (Lib.nDigits u) 24)).run prog ((putRow encB (w.alloc (.cells Lib.zeros24 234)) w.heap.size 0 l).drewN k)=.ok (.string ⟨(Lib.decDigits u).toArray⟩) ((putRow encB (w.alloc (.cells Lib.zeros24 234)) w.heap.size 0 l).drewN k):=by
  have h:=run_convert_bytes_back (P:=prog) ((putRow encB (w.alloc (.cells Lib.zeros24 234)) w.heap.size 0 l).drewN k) 175 9 5 ⟨w.heap.size,0,none⟩ 24 (Lib.decDigits u) underlying175 underlying5 underlying9 (fun j s=>by
   rw[Lib.row_is_numeral i j s,Lib.add_plain,World.cell?_drewN];exact cell?_putRow encB _ w.heap.size 0 _ l A.out (by rw[i.size,Array.size_replicate]) j (by rw[i.size];rw[Lib.decDigits_length] at s;exact s))
  rw[Lib.decDigits_length] at h;exact h
 have G:=qh i;clear i;go_wp2;go_ret;obtain⟨os,C⟩:=v5v w (.cells Lib.zeros24 234) l k;refine⟨rfl,?_⟩;have:=below_grow (below_drewN (Below.refl w.heap.size w) k) os nlr;rw[<- C] at this;exact this
theorem v9e (u:Nat) (d:u<18446744073709551616) (w:World) (c:Tab w) :
  Calls prog 232 #[.int .u64 (u:Int),.int .i64 10] w fun e w'=>e=.returned (.string (str (dec u)))/\Below w.heap.size w w':=by
 have g:=qh c;clear c
 go_enter func232,ntmps232
 go_wp2_with fail
 refine(v2m u d w g.out).mono ?_;rintro e w' ⟨rfl,hb⟩;have h:=qh hb;clear hb;go_wp2;go_ret;exact⟨rfl,h.out⟩
end
section
open Go.RowKit
abbrev TB:TypeId:=220
abbrev TU8:TypeId:=5
theorem y4v {B b o:Nat} {p:Value} {m:List Value} {w s:World} (h:Lib.BuilderAt TB TU8 B b p m w) (hb:Below o w s) (E:w.heap.size<=o):Lib.BuilderAt TB TU8 B b p m s:=by
 obtain⟨D,v,u,c,k⟩:=h;have A:=(Array.getElem?_eq_some_iff.1 u).1;refine⟨D,v,by rw[hb.block b (by omega)];exact u,⟨c.1,?_⟩,k⟩
 rcases c.2 with z|⟨g,j,l,rfl,C,d,i⟩
 ·exact .inl z
 have:=(Array.getElem?_eq_some_iff.1 d).1;exact .inr ⟨g,j,l,rfl,C,by rw[hb.block g (by omega)];exact d,i⟩
theorem z9m {B b i:Nat} {c:List Value} {w d:World} (h:Lib.IsBuilder TB TU8 B b c w) (hb:Below i w d) (g:w.heap.size<=i):Lib.IsBuilder TB TU8 B b c d:=by
 rcases h with h|h
 ·exact .inl (y4v h hb g)
 exact .inr (y4v h hb g)
theorem byteCells_append (l r:List UInt8):Lib.byteCells l++Lib.byteCells r=Lib.byteCells (l++r):=by simp[Lib.byteCells]
theorem z6b (l:List UInt8):Lib.strCells (str l)=Lib.byteCells l:=by simp[Lib.strCells,Lib.byteCells,str]
def TextEnd (n:Nat) (w:World) (e:Ending) (w':World):Prop:=e=.returned (.string (str (dec n)))/\Below w.heap.size w w'
theorem x8j (d:Value) (w:World) (c:Sl w .u64 d (toB 0)):Calls prog 221 #[d] w (TextEnd 0 w):=by
 obtain⟨i,h,rfl⟩:=c.shape;have g:(toB 0).length=0:=rfl;rw[g];clear g c
 go_enter func221,ntmps221
 go_wp2;go_ret;exact⟨v3j (by rw[z2q (by omega)];rfl),blr⟩
theorem v3a (w:World):Lib.IsBuilder TB TU8 w.heap.size w.heap.size (Lib.byteCells []) (w.alloc (.cells #[.pointer none,.slice none 0 0] TB)) :=
 .inl ⟨nlr,.slice none 0 0,Go.heap_alloc_new w _,World.ownsRow_nil _ _ _ _,by simp[Value.ownBlock]⟩
theorem rep48 (c:Nat):(⟨(Lib.repeatL (⟨#[48]⟩:ByteArray).data.toList c).toArray⟩:ByteArray)=str (List.replicate c 48):=by
 have:=Lib.repeatL_replicate 48 1 c;simp at this;show str (Lib.repeatL [48] c)=_;rw[this]
theorem v5c (vx:Value) (n:Nat) (h0:n≠0) (w:World) (F:Sl w .u64 vx (toB n)) (lx:(toB n).length<=100000) (ht:Tab w):Calls prog 221 #[vx] w (TextEnd n w):=by
 obtain⟨ax,cx,bx,ox,rfl,S,a8,K,O,g⟩:=F.open;have hl:=y2f h0;obtain rfl:=S hl;have W:=O hl;have a3:(((toB n).length:Int)==0)=false:=by rw[beq_eq_false_iff_ne];omega
 have HT:=qh ht;clear ht;have H0:=qh h0;clear h0;unfold maxLen at K;clear F S O
 go_enter func221,ntmps221
 go_wp2;clear a3
 go_loopw [11] (fun i wr=>∃ k:Nat,k<=(toB n).length/\i=.int .i64 k/\Lib.IsBuilder TB TU8 w.heap.size w.heap.size (Lib.byteCells (topB n k)) wr/\Below w.heap.size w wr) (fun i _=>(toB n).length-(intOf i).toNat)
 case atStart=>exact⟨0,Nat.zero_le _,rfl,v3a w,blr.alloc nlr _⟩
 obtain⟨k,hk,rfl,z,hb⟩:=hrel;have HW:=qh z;clear z;have G:=qh hb;clear hb;have C:=G.out.size;by_cases a2:k<(toB n).length
 ·have c1:=(G.out.cell (p:=⟨bx,ox+((toB n).length-1-k),none⟩) W).trans (g ((toB n).length-1-k) (by omega));have s:=z0x n ((toB n).length-1-k);have A:=v6g s;have E:=y8n (nth (toB n) ((toB n).length-1-k));have I:0<=(((toB n).length:Int)-1-(k:Int)):=by omega
  obtain⟨x,F⟩:=exq (nth (toB n) ((toB n).length-1-k));rw[<- F] at c1 s A E;have Q:=v9e x (by rw[z0r] at s;omega) wr (HT.out.below G.out nlr);have L:=qh Q;clear Q;have b0:=x3n n k;have a7:(str (dec x)).size<=9:=by rw[z1g];exact A
  have a5:1<=(str (dec x)).size:=by rw[z1g];exact E
  have HX:=qh F;clear F;clear g s E A;by_cases R:k=0
  ·subst R;rw[Nat.sub_zero] at c1;clear I
   go_wp2_with fail
   refine L.out.mono ?_;rintro e X ⟨rfl,c⟩;have m:=z9m HW.out c nlr;have B:=qh m;clear m;have d:=qh c;clear c;have P:=d.out.size
   go_wp2_with fail
   refine(Tryz.Builder_WriteString w.heap.size w.heap.size _ (str (dec x)) X B.out (by rw[y8x];simp[Lib.byteCells];omega) (by omega)).mono ?_;rintro e w2 ⟨rfl,l,h⟩;have D:=qh l;clear l;have u:=qh h;clear h;go_wp2;go_roundw
   case rel =>
    refine⟨1,by omega,rfl,.inr ?_,G.out.trans ((d.out.mono C).trans u.out)⟩;have:=D.out;rw[y8x,z6b,byteCells_append,HX.out,Nat.sub_zero,List.nil_append] at this;rw[v5u n H0.out];exact this
   simp[intOf];omega
  have b1:0<k:=by omega
  clear R
  go_wp2_with fail
  refine L.out.mono ?_;rintro e X ⟨rfl,c⟩;have m:=z9m HW.out c nlr;have B:=qh m;clear m;have d:=qh c;clear c;have P:=d.out.size
  go_wp2_with fail
  have e9:(9-((str (dec x)).size:Int))=((9-(str (dec x)).size:Nat):Int):=by omega
  rw[e9];clear e9;refine(Tryz.strings_Repeat ⟨#[48]⟩ (9-(str (dec x)).size) X (by omega) (by show 1*(9-(str (dec x)).size)<=140737488355328;omega)).mono ?_;rintro e w2 ⟨rfl,h⟩;rw[rep48];have N:=z9m B.out h nlr;have D:=qh N;clear N;have u:=qh h;clear h;have a9:=u.out.size
  go_wp2_with fail
  refine(Tryz.Builder_WriteString w.heap.size w.heap.size _ (str (List.replicate (9-(str (dec x)).size) 48)) w2 D.out (by rw[Lib.byteCells_length,z1g,List.length_replicate];omega) (by omega)).mono ?_;rintro e w3 ⟨rfl,o,J⟩;have Y:=qh o;clear o;have T:=qh J;clear J;have a6:=T.out.size
  go_wp2_with fail
  refine(Tryz.Builder_WriteString w.heap.size w.heap.size _ (str (dec x)) w3 (.inr Y.out) (by rw[List.length_append,Lib.byteCells_length,z6b,Lib.byteCells_length,List.length_replicate];omega) (by omega)).mono ?_;rintro e w4 ⟨rfl,j,U⟩;have a4:=qh j;clear j;have a1:=qh U;clear U;go_wp2;go_roundw
  case rel =>
   refine⟨k+1,by omega,by go_num,.inr ?_,G.out.trans ((d.out.mono C).trans ((u.out.mono (by omega)).trans (T.out.trans a1.out)))⟩;have:=a4.out;rw[z6b,z6b,byteCells_append,byteCells_append,z1g,List.append_assoc,HX.out] at this;rw[v0f n H0.out k (by omega) a2];exact this
  simp[intOf];omega
 go_wp2_with fail
 have H:k=(toB n).length:=by omega
 refine(Tryz.Builder_String_any w.heap.size w.heap.size (topB n k) wr HW.out C).mono ?_;rintro e X ⟨rfl,c⟩;have Z:=qh H;clear H;have d:=qh c;clear c;go_wp2;go_ret;exact⟨v3j (by rw[Z.out,x4q n H0.out];rfl),G.out.trans d.out⟩
theorem y0m (c:Value) (n:Nat) (w:World) (d:Sl w .u64 c (toB n)) (i:(toB n).length<=100000) (h:Tab w):Calls prog 221 #[c] w (TextEnd n w):=by
 by_cases g:n=0
 ·subst g;exact x8j c w d
 exact v5c c n g w d i h
end
section
open Go.RowKit
theorem z8d (s:ByteArray) (h:0<s.size):s.toList.isEmpty=false:=by
 rw[Lib.toList_data];cases c:s.data.toList with
 | nil =>
      have:s.size=0:=by rw[<- z1p,bts,c];rfl
      omega
 | cons a l=>rfl
theorem y0w (s:ByteArray) (h:0<s.size):¬ s.toList=[]:=by
 have:=z8d s h;intro e;rw[e] at this;simp at this
theorem u4s (s:ByteArray) (h:s.size=0):s.toList=[]:=by
 rw[Lib.toList_data];exact List.length_eq_zero_iff.1 (by have:=z1p s;unfold bts at this;omega)
theorem v9r (c:UInt8) (h:c≠48):((c.toNat:Int)==48)=false:=by
 rw[beq_eq_false_iff_ne];intro e;apply h;apply UInt8.toNat_inj.1;show c.toNat=48;omega
theorem v7e {c:UInt8} (d:(48:Int)<=(c.toNat:Int)) (g:(c.toNat:Int)<=57):dgt c=true:=by
 simp[dgt];omega
theorem u4g {c:UInt8} (d:(c.toNat:Int)<48):dgt c=false:=by simp[dgt];omega
theorem u3k {c:UInt8} (d:(57:Int)<(c.toNat:Int)):dgt c=false:=by simp[dgt];omega
theorem x7e (s:ByteArray) (w:World) (j:1<=s.size) (E:s.size<=1000) (B:s.size=1\/(bts s).headD 0≠48) :
  Calls prog 204 #[.string s] w fun e w'=>e=.returned (.bool (dgts (bts s)))/\w=w':=by
 have C:s.toList.isEmpty=false:=z8d s j;have A:¬ s.toList=[]:=y0w s j;have u:0<s.size:=by omega
 have z:decide ((1000:Int)<(s.size:Int))=false:=by simp;omega
 by_cases G:s.size=1
 all_goals
  have o:1<s.size->((s[0].toNat:Int)==48)=false:=fun h=>v9r _ (by
                                            rw[<- y9d s u];rcases B with g|g;· omega
                                            exact g)
  try have F:=o (by omega)
  clear o
  go_enter func204,ntmps204
  go_wp2;clear A C z
  go_loop [23] (fun i=>∃ k:Nat,k<=s.size/\i=.int .i64 k/\dgts ((bts s).take k)=true) (fun i=>s.size-(intOf i).toNat)
  case atStart=>exact⟨0,Nat.zero_le _,rfl,rfl⟩
  obtain⟨k,D,rfl,l⟩:=hrel;have m:=qh l;clear l;by_cases c:k<s.size
  ·go_wp2
   ·have d:(57:Int)<(s[k].toNat:Int):=by omega
    go_ret;exact⟨z0v (y5u s k c (u3k d)).symm,rfl⟩
   ·have d:(48:Int)<=(s[k].toNat:Int):=by omega
    have p:(s[k].toNat:Int)<=57:=by omega
    go_round
    case rel=>exact⟨k+1,by omega,by go_num,by rw[x0z s k c,z7h,m.out,v7e d p];rfl⟩
    simp[intOf];omega
   have d:(s[k].toNat:Int)<48:=by assumption
   go_ret;exact⟨z0v (y5u s k c (u4g d)).symm,rfl⟩
  go_wp2;go_ret;exact⟨z0v (by rw[<- m.out,List.take_of_length_le (by rw[z1p];omega)]),rfl⟩
theorem v0k (s:ByteArray) (w:World) (o:s.size<=maxLen) :
  Calls prog 204 #[.string s] w fun e w'=>e=.returned (.bool (z1u (bts s)))/\w=w':=by
 unfold maxLen at o;by_cases k:s.size=0
 ·have c:z1u (bts s)=false:=by simp[z1u,z1p,k]
  have i:=u4s s k;have g:=qh c;clear c
  go_enter func204,ntmps204
  go_wp2;go_ret;exact⟨z0v g.out.symm,rfl⟩
 by_cases A:1000<s.size
 ·have c:z1u (bts s)=false:=by simp[z1u,z1p];intros;omega
  have g:=qh c;clear c;have c:s.toList.isEmpty=false:=z8d s (by omega);have i:¬ s.toList=[]:=y0w s (by omega)
  go_enter func204,ntmps204
  go_wp2;go_ret;exact⟨z0v g.out.symm,rfl⟩
 by_cases d:s.size=1\/(bts s).headD 0≠48
 ·refine(x7e s w (by omega) (by omega) d).mono fun e w' ⟨p,m⟩=>⟨?_,m⟩;rw[p];have:z1u (bts s)=dgts (bts s):=by
   cases j:dgts (bts s) with
   | false=>simp[z1u,j]
   | true=>exact x4i (by rw[z1p];omega) (by rw[z1p];omega) (by rw[z1p];exact d) j
  rw[this]
 have c:z1u (bts s)=false:=by
  cases u:z1u (bts s) with
  | false=>rfl
  | true=>exact absurd (by have:=(z4k u).2.2.1;rw[z1p] at this;exact this) d
 have g:=qh c;clear c;have l:0<s.size:=by omega
 have c:s.toList.isEmpty=false:=z8d s (by omega);have i:¬ s.toList=[]:=y0w s (by omega);have B:((s[0].toNat:Int)==48)=true:=by
  have:(bts s).headD 0=48:=by
   by_cases h:(bts s).headD 0=48
   ·exact h
   exact absurd (Or.inr h) d
  rw[y9d s l] at this;rw[this];rfl
 have C:1<s.size:=by
  by_cases h:s.size=1
  ·exact absurd (Or.inl h) d
  omega
 have z:decide ((1000:Int)<(s.size:Int))=false:=by simp;omega
 clear d
 go_enter func204,ntmps204
 go_wp2;go_ret;exact⟨z0v g.out.symm,rfl⟩
end
section
open Go.RowKit
def PairEnd (r:ByteArray × Nat) (w:World) (e:Ending) (w':World):Prop:=e=.returned (.tuple #[.string r.1,.int .i64 (r.2:Int)])/\Below w.heap.size w w'
def limS (n:Nat):ByteArray × Nat:=if (dec n).length<=1000 then (str (dec n),0) else (str [],2)
def vld (s:ByteArray):Bool:=z1u (bts s)
def val (s:ByteArray):Nat:=num (bts s)
def addF (s t:ByteArray):ByteArray × Nat:=if vld s&&vld t then limS (val s+val t) else (str [],1)
def subF (s t:ByteArray):ByteArray × Nat:=if vld s&&vld t then (if val s<val t then (str [],4) else (str (dec (val s-val t)),0)) else (str [],1)
def mulF (s t:ByteArray):ByteArray × Nat:=if vld s&&vld t then limS (val s*val t) else (str [],1)
def cmpF (s t:ByteArray):Int:=if vld s&&vld t then cmpN (val s) (val t) else 0
theorem u4n {s c:ByteArray} {a b:Int} (h:s=c) (d:a=b):Ending.returned (.tuple #[.string s,.int .i64 a])=.returned (.tuple #[.string c,.int .i64 b]):=by rw[h,d]
theorem x4z {s:ByteArray} (h:vld s=true):1<=s.size/\s.size<=1000:=by
 obtain⟨c,d,_⟩:=z4k h;rw[z1p] at c d;exact⟨c,d⟩
theorem x5g {s:ByteArray} (h:vld s=true):dgts (bts s)=true:=(z4k h).2.2.2
theorem x7f {l:List UInt8} (h:dgts l=true) (k:Nat) (d:l.length<=9*k):num l<BB ^ k:=by
 have c:10 ^ l.length<=10 ^ (9*k):=Nat.pow_le_pow_right (by omega) d;rw[pow9] at c;exact Nat.lt_of_lt_of_le (v8e _ h) c
theorem v2r {s:ByteArray} (h:vld s=true):val s<BB ^ 112:=x7f (x5g h) 112 (by rw[z1p];have:=x4z h;omega)
theorem z1s {s:ByteArray} (h:vld s=true):(toB (val s)).length<=112:=z6j (v2r h)
theorem z3v (s:ByteArray) (w:World) (c:s.size<=maxLen) :
  Calls prog 204 #[.string s] w fun e w'=>e=.returned (.bool (vld s))/\w=w':=v0k s w c
theorem z4v (s:ByteArray) (w:World) (h:vld s=true):Calls prog 205 #[.string s] w (BlocksEnd (val s) w):=x6m s w (x4z h).2 (x5g h)
theorem y4g (i:Value) (n:Nat) (w:World) (o:Sl w .u64 i (toB n)) (p:(toB n).length<=100000) (l:Tab w) :
  Calls prog 206 #[i] w (PairEnd (limS n) w):=by
 have g:=x3n n (toB n).length;have k:(dec n).length<=900000\/n=0:=by
  by_cases u:n=0
  ·exact .inr u
  rw[x4q n u] at g;exact .inl (by omega)
 have c:(dec n).length<=900000:=by
  rcases k with h|h
  ·exact h
  subst h;rw[z2q (by omega)];simp
 clear g k;have z:(str (dec n)).size<=900000:=by rw[z1g];exact c
 have s:=y0m i n w o p l;have m:=qh s;clear s o l p;by_cases h:(dec n).length<=1000
 ·have d:limS n=(str (dec n),0):=by unfold limS;rw[if_pos h]
  have A:(str (dec n)).size<=1000:=by rw[z1g];exact h
  rw[d];clear d h c
  go_enter func206,ntmps206
  go_wp2_with fail
  refine m.out.mono ?_;rintro e B ⟨rfl,hb⟩;have j:=qh hb;clear hb;go_wp2;go_ret2;exact⟨rfl,j.out⟩
 have d:limS n=(str [],2):=by unfold limS;rw[if_neg h]
 have A:1000<(str (dec n)).size:=by rw[z1g];omega
 rw[d];clear d h c
 go_enter func206,ntmps206
 go_wp2_with fail
 refine m.out.mono ?_;rintro e B ⟨rfl,hb⟩;have j:=qh hb;clear hb;go_wp2;go_ret2;exact⟨rfl,j.out⟩
theorem u0i (s t:ByteArray) (w:World) (S:s.size<=maxLen) (N:t.size<=maxLen) (h:Tab w) :
  Calls prog 201 #[.string s,.string t] w (PairEnd (addF s t) w):=by
 have L:=qh h;clear h;have c1:=z3v s w S;have c2:=z3v t w N;clear S N;cases c:vld s with
 | false =>
  have i:addF s t=(str [],1):=by unfold addF;rw[c];rfl
  rw[i];rw[c] at c1;clear i c c2 L;have p:=qh c1;clear c1
  go_enter func201,ntmps201
  go_wp2_with fail
  refine p.out.mono ?_;rintro e D ⟨rfl,rfl⟩;go_wp2;go_ret2;exact⟨rfl,blr⟩
 | true =>
  cases d:vld t with
  | false =>
   have i:addF s t=(str [],1):=by unfold addF;rw[c,d];rfl
   rw[i];rw[c] at c1;rw[d] at c2;clear i c d L;have p:=qh c1;clear c1;have E:=qh c2;clear c2
   go_enter func201,ntmps201
   go_wp2_with fail
   refine p.out.mono ?_;rintro e D ⟨rfl,rfl⟩
   go_wp2_with fail
   refine E.out.mono ?_;rintro e D ⟨rfl,rfl⟩;go_wp2;go_ret2;exact⟨rfl,blr⟩
  | true =>
   rw[c] at c1;rw[d] at c2;have p:=qh c1;clear c1;have E:=qh c2;clear c2;have lm:=z1s c;have ln:=z1s d;have P:=z4v s w c;have Y:=qh P;clear P;have O:=fun w=>z4v t w d;have B2:=qh O;clear O;have T:=qh c;clear c;have Q:=qh d;clear d;have i:addF s t=limS (val s+val t):=by unfold addF;rw[T.out,Q.out];rfl
   rw[i];clear i
   go_enter func201,ntmps201
   go_wp2_with fail
   refine p.out.mono ?_;rintro e D ⟨rfl,rfl⟩
   go_wp2_with fail
   refine E.out.mono ?_;rintro e D ⟨rfl,rfl⟩
   go_wp2_with fail
   refine Y.out.mono ?_;rintro e U ⟨v1,rfl,l,o⟩;have K:=qh l;clear l;have C:=qh o;clear o;have G:=C.out.size
   go_wp2_with fail
   refine(B2.out U).mono ?_;rintro e w2 ⟨Z,rfl,k,z⟩;have F:=qh k;clear k;have j:=qh z;clear z;have X:=j.out.size;have J:=qh (K.out.sl.below j.out nlr)
   go_wp2_with fail
   refine(v3p v1 Z (val s) (val t) w2 J.out F.out.sl (by omega) (by omega)).mono ?_;rintro e w3 ⟨v3,rfl,u,m⟩;have I:=qh u;clear u;have A:=qh m;clear m;have R:=qh (C.out.trans ((j.out.mono G).trans (A.out.mono (by omega))));have g:=y4g v3 (val s+val t) w3 I.out.sl (by
    have c:=v2r T.out;have d:=v2r Q.out;have:val s+val t<BB ^ 113:=by
     have e:BB ^ 113=BB ^ 112*BB:=Nat.pow_succ ..;rw[e];have:BB ^ 112*2<=BB ^ 112*BB:=Nat.mul_le_mul_left _ y5j;omega
    have:=z6j this;omega) (L.out.below R.out nlr)
   have W:=qh g;clear g
   go_wp2_with fail
   refine W.out.mono ?_;rintro e w4 ⟨rfl,B⟩;have H:=qh B;clear B;have a1:=A.out.size;go_wp2;go_ret2;exact⟨rfl,R.out.trans (H.out.mono (by omega))⟩
theorem u1r (s t:ByteArray) (w:World) (hs:s.size<=maxLen) (ht:t.size<=maxLen) (C:Tab w) :
  Calls prog 203 #[.string s,.string t] w (PairEnd (subF s t) w):=by
 have Z:=qh C;clear C;have c1:=z3v s w hs;have c2:=z3v t w ht;clear hs ht;cases m:vld s with
 | false =>
  have l:subF s t=(str [],1):=by unfold subF;rw[m];rfl
  rw[l];rw[m] at c1;clear l m c2 Z;have I:=qh c1;clear c1
  go_enter func203,ntmps203
  go_wp2_with fail
  refine I.out.mono ?_;rintro e H ⟨rfl,rfl⟩;go_wp2;go_ret2;exact⟨rfl,blr⟩
 | true =>
  cases D:vld t with
  | false =>
   have l:subF s t=(str [],1):=by unfold subF;rw[m,D];rfl
   rw[l];rw[m] at c1;rw[D] at c2;clear l m D Z;have I:=qh c1;clear c1;have S:=qh c2;clear c2
   go_enter func203,ntmps203
   go_wp2_with fail
   refine I.out.mono ?_;rintro e H ⟨rfl,rfl⟩
   go_wp2_with fail
   refine S.out.mono ?_;rintro e H ⟨rfl,rfl⟩;go_wp2;go_ret2;exact⟨rfl,blr⟩
  | true =>
   rw[m] at c1;rw[D] at c2;have I:=qh c1;clear c1;have S:=qh c2;clear c2;have lm:=z1s m;have ln:=z1s D;have b1:=z4v s w m;have B1:=qh b1;clear b1;have b2:=fun w=>z4v t w D;have B2:=qh b2;clear b2;have H1:=qh m;clear m;have H2:=qh D;clear D;by_cases p:val s<val t
   ·have l:subF s t=(str [],4):=by unfold subF;rw[H1.out,H2.out,if_pos p];rfl
    have Q:cmpN (val s) (val t)=-1:=z7t p;rw[l];clear l p;have HC:=qh Q;clear Q
    go_enter func203,ntmps203
    go_wp2_with fail
    refine I.out.mono ?_;rintro e H ⟨rfl,rfl⟩
    go_wp2_with fail
    refine S.out.mono ?_;rintro e H ⟨rfl,rfl⟩
    go_wp2_with fail
    refine B1.out.mono ?_;rintro e W ⟨v1,rfl,u,k⟩;have G:=qh u;clear u;have o:=qh k;clear k;have E:=o.out.size
    go_wp2_with fail
    refine(B2.out W).mono ?_;rintro e w2 ⟨T,rfl,i,z⟩;have A:=qh i;clear i;have d:=qh z;clear z;have a2:=d.out.size;have B:=qh (G.out.sl.below d.out nlr);have c:=z5m v1 T (val s) (val t) w2 B.out A.out.sl;unfold CmpEnd at c;rw[HC.out] at c;have F:=qh c;clear c
    go_wp2_with fail
    refine F.out.mono ?_;rintro e w3 ⟨rfl,j⟩;have g:=qh j;clear j;go_wp2;go_ret2;exact⟨rfl,o.out.trans ((d.out.mono E).trans (g.out.mono (by omega)))⟩
   have l:subF s t=(str (dec (val s-val t)),0):=by unfold subF;rw[H1.out,H2.out,if_neg p];rfl
   have Q:cmpN (val s) (val t)=0\/cmpN (val s) (val t)=1:=by
    rcases Nat.lt_or_ge (val t) (val s) with h|h
    ·exact .inr (z7x h)
    exact .inl (y1p (by omega))
   have L:val t<=val s:=by omega
   have a4:=qh L;clear L;rw[l];clear l p;have U:∃ q:Int,cmpN (val s) (val t)=q/\0<=q:=by
    rcases Q with h|h
    ·exact⟨0,h,by omega⟩
    exact⟨1,h,by omega⟩
   obtain⟨q,hq,a5⟩:=U;clear Q;have HC:=qh hq;clear hq
   go_enter func203,ntmps203
   go_wp2_with fail
   refine I.out.mono ?_;rintro e H ⟨rfl,rfl⟩
   go_wp2_with fail
   refine S.out.mono ?_;rintro e H ⟨rfl,rfl⟩
   go_wp2_with fail
   refine B1.out.mono ?_;rintro e W ⟨v1,rfl,u,k⟩;have G:=qh u;clear u;have o:=qh k;clear k;have E:=o.out.size
   go_wp2_with fail
   refine(B2.out W).mono ?_;rintro e w2 ⟨T,rfl,i,z⟩;have A:=qh i;clear i;have d:=qh z;clear z;have a2:=d.out.size;have B:=qh (G.out.sl.below d.out nlr);have c:=z5m v1 T (val s) (val t) w2 B.out A.out.sl;unfold CmpEnd at c;rw[HC.out] at c;have F:=qh c;clear c
   go_wp2_with fail
   refine F.out.mono ?_;rintro e w3 ⟨rfl,j⟩;have g:=qh j;clear j;have a6:=g.out.size;have J:=v2x v1 T (val s) (val t) w3 (B.out.below g.out nlr) (A.out.sl.below g.out nlr) (by omega) (by omega) a4.out;have a3:=qh J;clear J
   go_wp2_with fail
   refine a3.out.mono ?_;rintro e w4 ⟨v4,rfl,P,R⟩;have a1:=qh P;clear P;have K:=qh R;clear R;have a7:=K.out.size;have HB:=qh (o.out.trans ((d.out.mono E).trans ((g.out.mono (by omega)).trans (K.out.mono (by omega)))));have O:=y0m v4 (val s-val t) w4 a1.out.sl (by have:=z2h (Nat.sub_le (val s) (val t));omega) (Z.out.below HB.out nlr);have Y:=qh O;clear O
   go_wp2_with fail
   refine Y.out.mono ?_;rintro e w5 ⟨rfl,N⟩;have X:=qh N;clear N;go_wp2;go_ret2;exact⟨rfl,HB.out.trans (X.out.mono (by omega))⟩
def IntEnd (q:Int) (w:World) (e:Ending) (w':World):Prop:=e=.returned (.int .i64 q)/\Below w.heap.size w w'
theorem u0b (s t:ByteArray) (w:World) (K:s.size<=maxLen) (H:t.size<=maxLen) :
  Calls prog 202 #[.string s,.string t] w (IntEnd (cmpF s t) w):=by
 have c1:=z3v s w K;have c2:=z3v t w H;clear K H;cases c:vld s with
 | false =>
  have g:cmpF s t=0:=by unfold cmpF;rw[c];rfl
  rw[g];rw[c] at c1;clear g c c2;have o:=qh c1;clear c1
  go_enter func202,ntmps202
  go_wp2_with fail
  refine o.out.mono ?_;rintro e z ⟨rfl,rfl⟩;go_wp2;go_ret;exact⟨rfl,blr⟩
 | true =>
  cases d:vld t with
  | false =>
   have g:cmpF s t=0:=by unfold cmpF;rw[c,d];rfl
   rw[g];rw[c] at c1;rw[d] at c2;clear g c d;have o:=qh c1;clear c1;have A:=qh c2;clear c2
   go_enter func202,ntmps202
   go_wp2_with fail
   refine o.out.mono ?_;rintro e z ⟨rfl,rfl⟩
   go_wp2_with fail
   refine A.out.mono ?_;rintro e z ⟨rfl,rfl⟩;go_wp2;go_ret;exact⟨rfl,blr⟩
  | true =>
   rw[c] at c1;rw[d] at c2;have o:=qh c1;clear c1;have A:=qh c2;clear c2;have U:=z1s c;have W:=z1s d;have J:=z4v s w c;have O:=qh J;clear J;have I:=fun w=>z4v t w d;have T:=qh I;clear I;have R:=qh c;clear c;have P:=qh d;clear d;have g:cmpF s t=cmpN (val s) (val t):=by unfold cmpF;rw[R.out,P.out];rfl
   rw[g];clear g
   go_enter func202,ntmps202
   go_wp2_with fail
   refine o.out.mono ?_;rintro e z ⟨rfl,rfl⟩
   go_wp2_with fail
   refine A.out.mono ?_;rintro e z ⟨rfl,rfl⟩
   go_wp2_with fail
   refine O.out.mono ?_;rintro e L ⟨v1,rfl,k,m⟩;have F:=qh k;clear k;have u:=qh m;clear m;have C:=u.out.size
   go_wp2_with fail
   refine(T.out L).mono ?_;rintro e S ⟨Q,rfl,j,p⟩;have B:=qh j;clear j;have h:=qh p;clear p;have N:=h.out.size;have E:=qh (F.out.sl.below h.out nlr);have i:=z5m v1 Q (val s) (val t) S E.out B.out.sl;unfold CmpEnd at i;have D:=qh i;clear i
   go_wp2_with fail
   refine D.out.mono ?_;rintro e X ⟨rfl,l⟩;have G:=qh l;clear l;go_wp2;go_ret;exact⟨rfl,u.out.trans ((h.out.mono C).trans (G.out.mono (by omega)))⟩
end
section
open Go.RowKit
theorem y1v (L:List Nat) (j v i:Nat) (h:j<L.length):nth (L.set j v) i=if i=j then v else nth L i:=by
 unfold nth;simp only[List.getD_eq_getElem?_getD,List.getElem?_set];by_cases e:j=i
 ·subst e;simp[h]
 rw[if_neg e,if_neg (fun c=>e c.symm)]
theorem z7u {L:List Nat} (h:Small L) (j v:Nat) (c:v<BB):Small (L.set j v):=fun i=>by
 by_cases d:j<L.length
 ·rw[y1v L j v i d];split
  ·exact c
  exact h i
 rw[List.set_eq_of_length_le (by omega)];exact h i
theorem v3u (L:List Nat):∀ (j v:Nat),j<L.length->bval (L.set j v)+BB ^ j*nth L j=bval L+BB ^ j*v:=by
 induction L with
 | nil=>intro j v h;simp at h
 | cons x L ih =>
  intro j v h;cases j with
  | zero=>simp only[List.set_cons_zero,bval,z6t,Nat.pow_zero];omega
  | succ j =>
   have:=ih j v (by simpa using h);simp only[List.set_cons_succ,bval,z5d,Nat.pow_succ];have e:BB*(bval (L.set j v)+BB ^ j*nth L j)=BB*(bval L+BB ^ j*v):=by rw[this]
   rw[Nat.mul_add,Nat.mul_add,<- Nat.mul_assoc,<- Nat.mul_assoc,Nat.mul_comm BB (BB ^ j)] at e;omega
theorem y5f (k:Nat):bval (List.replicate k 0)=0:=y9c (fun i=>by unfold nth;simp[List.getD_eq_getElem?_getD,List.getElem?_replicate];split<;>rfl)
theorem z7m (k:Nat):Small (List.replicate k 0):=fun i=>by
 have:nth (List.replicate k 0) i=0:=by unfold nth;simp[List.getD_eq_getElem?_getD,List.getElem?_replicate];split<;>rfl
 rw[this];exact z1w
structure MulIn (xs ys L:List Nat) (i k c:Nat):Prop where
 small:Small L
 carry:c<BB
 len:L.length=xs.length+ys.length+1
 val:bval L+BB ^ (i+k)*c=bval (xs.take i)*bval ys+BB ^ i*(nth xs i*bval (ys.take k))
structure MulOut (xs ys L:List Nat) (i:Nat):Prop where
 small:Small L
 len:L.length=xs.length+ys.length+1
 val:bval L=bval (xs.take i)*bval ys
theorem MulOut.start (xs c:List Nat):MulOut xs c (List.replicate (xs.length+c.length+1) 0) 0 :=
 ⟨z7m _,by simp,by rw[y5f];simp[bval]⟩
theorem MulOut.inner {xs c L:List Nat} {i:Nat} (h:MulOut xs c L i):MulIn xs c L i 0 0 :=
 ⟨h.small,z1w,h.len,by rw[h.val];simp[bval]⟩
theorem z9b {l c x y:Nat} (g:l<BB) (d:c<BB) (i:x<BB) (h:y<BB):l+c+x*y<1000000000*1000000000:=by
 rw[z0r] at *;have:x*y<=999999999*999999999:=Nat.mul_le_mul (by omega) (by omega);omega
theorem MulIn.step {xs d L:List Nat} {i k c:Nat} (h:MulIn xs d L i k c) (s:Small xs) (o:Small d) (hi:i<xs.length) (A:k<d.length+1) :
  MulIn xs d (L.set (i+k) ((nth L (i+k)+c+nth xs i*nth d k) % 1000000000)) i (k+1) ((nth L (i+k)+c+nth xs i*nth d k) / 1000000000):=by
 have hb:=z9b (h.small (i+k)) h.carry (s i) (o k);have g:i+k<L.length:=by rw[h.len];omega
 have m:=v3u L (i+k) ((nth L (i+k)+c+nth xs i*nth d k) % 1000000000) g;have l:=h.val;have j:=z0k d k;generalize hp:nth L (i+k)+c+nth xs i*nth d k=p at *;have z:BB ^ (i+k)*nth L (i+k)+BB ^ (i+k)*c+BB ^ (i+k)*(nth xs i*nth d k)=BB ^ (i+k)*p:=by rw[<- hp,Nat.mul_add,Nat.mul_add]
 have u:BB ^ (i+k)*p=BB ^ (i+k)*(p % 1000000000)+BB ^ (i+k)*BB*(p / 1000000000):=by
  rw[Nat.mul_assoc,<- Nat.mul_add,z0r,Nat.mod_add_div]
 refine⟨z7u h.small _ _ (by rw[z0r];exact Nat.mod_lt _ (by omega)),by rw[z0r];omega,by simp[h.len],?_⟩;rw[j,Nat.mul_add,Nat.mul_add,show i+(k+1)=i+k+1 by omega,Nat.pow_succ BB (i+k)];have e:BB ^ i*(nth xs i*(BB ^ k*nth d k))=BB ^ (i+k)*(nth xs i*nth d k):=by
  rw[Nat.pow_add,Nat.mul_left_comm (nth xs i),Nat.mul_assoc]
 rw[e];omega
theorem MulIn.done {xs d L:List Nat} {i c:Nat} (h:MulIn xs d L i (d.length+1) c) (m:Small xs) (k:Small d) (hi:i<xs.length):MulOut xs d L (i+1):=by
 refine⟨h.small,h.len,?_⟩;have g:=h.val;rw[z2p (by omega:d.length<=d.length+1)] at g;have e:bval (xs.take i)*bval d+BB ^ i*(nth xs i*bval d)=bval (xs.take (i+1))*bval d:=by
  rw[z0k,Nat.add_mul,Nat.mul_assoc]
 rw[e] at g;have l:bval (xs.take (i+1))<BB ^ (i+1):=by
  have:=z3s (z4j m (i+1));rw[List.length_take,Nat.min_eq_left (by omega)] at this;exact this
 have u:=z3s k;have o:bval (xs.take (i+1))*bval d<BB ^ (i+1)*BB ^ d.length:=by
  have p:bval (xs.take (i+1))*bval d<=bval (xs.take (i+1))*BB ^ d.length:=Nat.mul_le_mul_left _ (by omega);have s:bval (xs.take (i+1))*BB ^ d.length<BB ^ (i+1)*BB ^ d.length:=Nat.mul_lt_mul_of_pos_right l (Nat.pow_pos z1w);omega
 rw[<- Nat.pow_add,show i+1+d.length=i+(d.length+1) by omega] at o
 rcases Nat.eq_zero_or_pos c with j|j
 ·subst j;rw[Nat.mul_zero,Nat.add_zero] at g;exact g
 have:BB ^ (i+(d.length+1))*1<=BB ^ (i+(d.length+1))*c:=Nat.mul_le_mul_left _ j;omega
theorem MulOut.done {xs c L:List Nat} (h:MulOut xs c L xs.length):bval L=bval xs*bval c:=by rw[h.val,List.take_length]
theorem Own.set {w:World} {B:Nat} {e:TypeId} {k:IntKind} {g n cap:Nat} {L:List Nat} (h:Own w B e k (.slice (some ⟨g,0,none⟩) n cap) L) (hn:L.length=n) (j v:Nat) :
  Own (w.setCell ⟨g,j,none⟩ (.int k (v:Int))) B e k (.slice (some ⟨g,0,none⟩) n cap) (L.set j v):=by
 subst hn;have:=(World.ownsRow.stored h j (.int k (v:Int))).1;have c:(vals k L).set j (.int k (v:Int))=vals k (L.set j v):=by unfold vals;rw[List.map_set]
 rw[c] at this;unfold Own;rw[List.length_set];exact this
theorem Own.base {w:World} {B:Nat} {e:TypeId} {k:IntKind} {g n cap:Nat} {c:Nat} {L:List Nat} (h:Own w B e k (.slice (some ⟨g,c,none⟩) n cap) L):B<=g/\g<w.heap.size:=by
 have:=World.ownsRow.lt h g (by simp[Value.ownBlock]);exact this
theorem Own.cell {w:World} {B:Nat} {e:TypeId} {k:IntKind} {g n cap:Nat} {L:List Nat} (h:Own w B e k (.slice (some ⟨g,0,none⟩) n cap) L) (hn:L.length=n) (j:Nat) (c:j<n):w.cell? ⟨g,j,none⟩=some (.int k ((nth L j:Nat):Int)):=by
 subst hn;rw[World.ownsRow.cellAt h j (by omega),x4w k L j c]
theorem Own.free {w:World} {B:Nat} {e:TypeId} {k:IntKind} {g n cap:Nat} {L:List Nat} (h:Own w B e k (.slice (some ⟨g,0,none⟩) n cap) L) (hn:L.length=n) (j:Nat):w.frozen? ⟨g,j,none⟩=false:=by
 subst hn;exact World.ownsRow.frozenAt h j
theorem z8x (k:IntKind) (n:Nat):vals k (List.replicate n 0)=List.replicate n (.int k 0):=by simp[vals]
end
section
open Go.RowKit
set_option maxRecDepth 100000 in
theorem v9k (s t:ByteArray) (w:World) (hs:s.size<=maxLen) (ht:t.size<=maxLen) (T:Tab w) :
  Calls prog 189 #[.string s,.string t] w (PairEnd (mulF s t) w):=by
 have HT:=qh T;clear T;have c1:=z3v s w hs;have c2:=z3v t w ht;clear hs ht;cases o:vld s with
 | false =>
  have U:mulF s t=(str [],1):=by unfold mulF;rw[o];rfl
  rw[U];rw[o] at c1;clear U o c2 HT;have C1:=qh c1;clear c1
  go_enter func189,ntmps189
  go_wp2_with fail
  refine C1.out.mono ?_;rintro e w' ⟨rfl,rfl⟩;go_wp2;go_ret2;exact⟨rfl,blr⟩
 | true =>
  cases N:vld t with
  | false =>
   have U:mulF s t=(str [],1):=by unfold mulF;rw[o,N];rfl
   rw[U];rw[o] at c1;rw[N] at c2;clear U o N HT;have C1:=qh c1;clear c1;have C2:=qh c2;clear c2
   go_enter func189,ntmps189
   go_wp2_with fail
   refine C1.out.mono ?_;rintro e w' ⟨rfl,rfl⟩
   go_wp2_with fail
   refine C2.out.mono ?_;rintro e w' ⟨rfl,rfl⟩;go_wp2;go_ret2;exact⟨rfl,blr⟩
  | true =>
   rw[o] at c1;rw[N] at c2;have C1:=qh c1;clear c1;have C2:=qh c2;clear c2;have lm:=z1s o;have ln:=z1s N;have b1:=z4v s w o;have B1:=qh b1;clear b1;have b2:=fun w=>z4v t w N;have B2:=qh b2;clear b2;have H1:=qh o;clear o;have H2:=qh N;clear N;have U:mulF s t=limS (val s*val t):=by unfold mulF;rw[H1.out,H2.out];rfl
   rw[U];clear U
   go_enter func189,ntmps189
   go_wp2_with fail
   refine C1.out.mono ?_;rintro e w' ⟨rfl,rfl⟩
   go_wp2_with fail
   refine C2.out.mono ?_;rintro e w' ⟨rfl,rfl⟩
   go_wp2_with fail
   refine B1.out.mono ?_;rintro e w1 ⟨v1,rfl,d6,c9⟩;have b9:=qh d6;clear d6;have d5:=qh c9;clear c9;have g5:=d5.out.size
   go_wp2_with fail
   refine(B2.out w1).mono ?_;rintro e G ⟨v2,rfl,b0,c7⟩;have b6:=qh b0;clear b0;have a2:=qh c7;clear c7;have h5:=a2.out.size;have e1:=qh (b9.out.sl.below a2.out nlr);obtain⟨i0,g3,g2,e7,f8⟩:=info_parts y0g;have f0:=fun x=>z0x (val s) x;have a7:Small (toB (val s)):=z0x _;have a1:Small (toB (val t)):=z0x _;obtain⟨g,a9⟩:=exq (toB (val s));obtain⟨d,a3⟩:=exq (toB (val t));rw[<- a9] at e1 lm a7;rw[<- a3] at b6 ln a1;have HX:=qh a9;clear a9;have HY:=qh a3;clear a3;have P:=qh a7;clear a7;have S:=qh a1;clear a1;clear f0 b9;obtain⟨ax,cx,bx,ox,rfl,b8,g9,d1,R,E⟩:=e1.out.open;obtain⟨ay,cy,e6,oy,rfl,d0,h4,b7,O,B⟩:=b6.out.sl.open;unfold maxLen at d1 b7;have f9:=qh E;clear E;have f7:=qh B;clear B;have f4:=qh b8;clear b8;have f2:=qh d0;clear d0;have g4:=qh R;clear R;have f1:=qh O;clear O;obtain⟨wm,e3,h,a8⟩:=run_make_full G w.heap.size 199 179 i0 (.int .u64 0) 1 underlying199 g3 g2 e7 .i64 .i64 (g.length+d.length+1) (by rw[f8];omega) (by unfold maxLen;omega) (by omega);rw[show ((g.length+d.length+1:Nat):Int)=(g.length:Int)+(d.length:Int)+1 by omega] at e3;have e4:Below w.heap.size w wm:=d5.out.trans ((a2.out.mono g5).trans (blr.grown a8 (by omega) (by simp)));have Y:Below G.heap.size G wm:=blr.grown a8 nlr (by simp);have d7:Own wm w.heap.size 179 .u64 (.slice (some ⟨G.heap.size,0,none⟩) (g.length+d.length+1) (g.length+d.length+1)) (List.replicate (g.length+d.length+1) 0):=by
    unfold Own;rw[z8x,List.length_replicate];have:=h;rw[Nat.mul_one,show (Value.int .u64 0).cells=#[Value.int .u64 0] from rfl,toList_madeCells_one] at this;exact this
   have HM:=qh e4;clear e4;have f5:=qh Y;clear Y;have g6:=qh d7;clear d7 h a8;go_wp2;clear e3
   go_loopw [34] (fun i wr=>∃ (k:Nat) (L:List Nat),k<=g.length/\i=.int .i64 k/\MulOut g d L k/\Own wr w.heap.size 179 .u64 (.slice (some ⟨G.heap.size,0,none⟩) (g.length+d.length+1) (g.length+d.length+1)) L/\Below w.heap.size w wr/\Below G.heap.size G wr)
    (fun i _=>g.length-(intOf i).toNat)
   case atStart=>exact⟨0,_,Nat.zero_le _,rfl,MulOut.start g d,g6.out,HM.out,f5.out⟩
   obtain⟨i,L,h6,rfl,m,h,J,l⟩:=hrel;have d9:=qh m;clear m;have HO:=qh h;clear h;have Q:=qh J;clear J;have d8:=qh l;clear l;obtain⟨wo,rfl⟩:∃ wo:World,wo=wr:=⟨_,rfl⟩;by_cases a6:i<g.length
   ·obtain rfl:=f4.out (by omega);have R:=g4.out (by omega);go_wp2
    go_loopw [10,40] (fun c q wr=>∃ (k Z:Nat) (L:List Nat),k<=d.length+1/\q=.int .i64 k/\c=.int .u64 Z/\MulIn g d L i k Z/\Own wr w.heap.size 179 .u64 (.slice (some ⟨G.heap.size,0,none⟩) (g.length+d.length+1) (g.length+d.length+1)) L/\Below w.heap.size w wr/\Below G.heap.size G wr)
     (fun _ q _=>d.length+1-(intOf q).toNat)
    case atStart=>exact⟨0,0,L,Nat.zero_le _,rfl,rfl,d9.out.inner,HO.out,Q.out,d8.out⟩
    obtain⟨k,Z,L',h8,rfl,rfl,b4,h,J,l⟩:=hrel;have u:=qh b4;clear b4;have z:=qh h;clear h;have H:=qh J;clear J;have j:=qh l;clear l;by_cases b5:k<d.length+1
    ·have I:=u.out.step P.out S.out a6 b5;have D:=u.out.len;have a4:=qh I;clear I;have cl:=z.out.cell D (i+k) (by omega);have fl:=z.out.free D (i+k);have e0:=z9b (u.out.small (i+k)) u.out.carry (P.out i) (S.out k);have X:=qh D;clear D
     rcases Nat.lt_or_ge k d.length with a5|a5
     ·obtain rfl:=f2.out (by omega);have O:=f1.out (by omega);have c1:=(j.out.cell (p:=⟨bx,ox+i,none⟩) R).trans (f9.out i a6);have c2:=(j.out.cell (p:=⟨e6,oy+k,none⟩) O).trans (f7.out k a5);have F:(((nth g i:Nat):Int)*((nth d k:Nat):Int))=((nth g i*nth d k:Nat):Int):=by simp
      have h0:((nth g i:Nat):Int)*((nth d k:Nat):Int)<=999999998000000001:=by
       have o:=P.out i;have N:=S.out k;rw[z0r] at o N;have:nth g i*nth d k<=999999999*999999999:=Nat.mul_le_mul (by omega) (by omega);rw[F];omega
      have h7:nth L' (i+k)<=999999999:=by have:=u.out.small (i+k);rw[z0r] at this;omega
      have h9:Z<=999999999:=by have:=u.out.carry;rw[z0r] at this;omega
      have h3:0<=((nth g i:Nat):Int)*((nth d k:Nat):Int):=by rw[F];omega
      have g0:=qh F;clear F e0
      go_wp2_with fail
      go_quiet (fail)
      go_wp2;go_roundw
      case rel =>
       have em:((nth L' (i+k):Nat):Int)+(Z:Int)+((nth g i:Nat):Int)*((nth d k:Nat):Int)=((nth L' (i+k)+Z+nth g i*nth d k:Nat):Int):=by rw[g0.out];omega
       rw[em];have ho:=(z.out.kept (below_drewN (Below.refl _ wr) nq) nlr).set X.out (i+k) ((nth L' (i+k)+Z+nth g i*nth d k) % 1000000000);exact⟨k+1,_,_,by omega,by go_num,by go_num,a4.out,ho,(below_drewN H.out nq).setCell z.out.base.1 _,(below_drewN j.out nq).setCell nlr _⟩
      simp[intOf];omega
     have hz:nth d k=0:=z1q d k a5;have K:=a4.out;rw[hz,Nat.mul_zero,Nat.add_zero] at K;rw[hz,Nat.mul_zero,Nat.add_zero] at e0;have g8:=qh K;clear K hz a4;go_wp2;go_roundw
     case rel =>
      have ho:=z.out.set X.out (i+k) ((nth L' (i+k)+Z) % 1000000000);exact⟨k+1,_,_,by omega,by go_num,by go_num,g8.out,ho,H.out.setCell z.out.base.1 _,j.out.setCell nlr _⟩
     simp[intOf];omega
    have c8:k=d.length+1:=by omega
    have e5:=qh c8;clear c8;go_wp2;go_roundw
    case rel =>
     have o:=u.out;rw[e5.out] at o;exact⟨i+1,L',by omega,by go_num,o.done P.out S.out a6,z.out,H.out,j.out⟩
    simp[intOf];omega
   have b3:i=g.length:=by omega
   have e9:=qh b3;clear b3;have m:=d9.out;rw[e9.out] at m;have g1:=Q.out.size;have e2:=z7d (some ⟨G.heap.size,0,none⟩) (g.length+d.length+1) L wo (by rw[m.len];exact HO.out.sl);rw[m.len] at e2;have C:=qh m;clear m
   go_wp2_with fail
   refine e2.mono ?_;rintro e w4 ⟨kk,hk,rfl,rfl⟩;have HK:=qh hk;clear hk;have hb:=C.out.done;have A:(toB (val s*val t))=L.take kk:=by
    rw[z4i C.out.small HK.out.1 HK.out.2.1 HK.out.2.2,hb,HX.out,HY.out,z1a,z1a]
   have g7:kk<=g.length+d.length+1:=by have:=HK.out.1;rw[C.out.len] at this;exact this
   have d4:Sl wo .u64 (.slice (some ⟨G.heap.size,0,none⟩) kk (g.length+d.length+1)) (toB (val s*val t)):=by
    rw[A];exact HO.out.sl.take (by rw[C.out.len];exact g7)
   have d2:(toB (val s*val t)).length<=100000:=by rw[A,List.length_take];omega
   have W:=y4g _ (val s*val t) wo d4 d2 (HT.out.below Q.out nlr);have f3:=qh W;clear W d4 d2 A hb
   go_wp2_with fail
   refine f3.out.mono ?_;rintro e w5 ⟨rfl,d3⟩;have e8:=qh d3;clear d3;go_wp2;go_ret2;exact⟨rfl,Q.out.trans (e8.out.mono g1)⟩
end
section
open Go.RowKit
structure Est (us vs:List Nat) (n q r:Nat):Prop where
 top:q*nth vs (n-1)+r=nth us n*BB+nth us (n-1)
 ge:bval us / bval vs<=q
structure DivIn (us vs:List Nat) (n:Nat):Prop where
 su:Small us
 sv:Small vs
 n1:1<=n
 lu:us.length=n+1
 lv:vs.length=n
 v1:1<=nth vs (n-1)
 lt:bval us<bval vs*BB
theorem x5j {n:Nat} (h:1<=n):BB ^ n=BB ^ (n-1)*BB:=by
 obtain⟨k,rfl⟩:∃ k,n=k+1:=⟨n-1,by omega⟩;exact Nat.pow_succ ..
theorem y9x {n:Nat} (h:2<=n):BB ^ (n-1)=BB ^ (n-2)*BB:=by
 obtain⟨k,rfl⟩:∃ k,n=k+2:=⟨n-2,by omega⟩;exact Nat.pow_succ ..
theorem z9y {xs:List Nat} {n:Nat} (h:xs.length=n+1) (g:1<=n):bval xs=bval (xs.take (n-1))+BB ^ (n-1)*(nth xs n*BB+nth xs (n-1)):=by
 have d:=z0k xs n;rw[z2p (by omega)] at d;have c:=z0k xs (n-1);rw[show n-1+1=n by omega] at c;have i:BB ^ n=BB ^ (n-1)*BB:=x5j g;rw[d,c,i,Nat.mul_add,<- Nat.mul_assoc,Nat.mul_assoc (BB ^ (n-1)) BB,Nat.mul_comm BB (nth xs n)];rw[Nat.mul_assoc];omega
theorem y0e {xs:List Nat} {n:Nat} (h:xs.length=n) (d:1<=n):bval xs=bval (xs.take (n-1))+BB ^ (n-1)*nth xs (n-1):=by
 have c:=z0k xs (n-1);rw[show n-1+1=n by omega,z2p (by omega)] at c;exact c
theorem y3w {xs:List Nat} (h:Small xs) (k:Nat) (c:k<=xs.length):bval (xs.take k)<BB ^ k:=by
 have:=z3s (z4j h k);rwa [List.length_take,Nat.min_eq_left c] at this
theorem DivIn.vpos {d c:List Nat} {n:Nat} (h:DivIn d c n):BB ^ (n-1)<=bval c:=by
 rw[y0e h.lv h.n1];have:BB ^ (n-1)*1<=BB ^ (n-1)*nth c (n-1):=Nat.mul_le_mul_left _ h.v1;omega
theorem DivIn.vpos' {d c:List Nat} {n:Nat} (h:DivIn d c n):0<bval c:=Nat.lt_of_lt_of_le (Nat.pow_pos z1w) h.vpos
theorem DivIn.qlt {d c:List Nat} {n:Nat} (h:DivIn d c n):bval d / bval c<BB:=Nat.div_lt_of_lt_mul h.lt
theorem Est.start {c d:List Nat} {n:Nat} (h:DivIn c d n) :
  Est c d n ((nth c n*BB+nth c (n-1)) / nth d (n-1)) ((nth c n*BB+nth c (n-1)) % nth d (n-1)):=by
 refine⟨by rw[Nat.mul_comm];exact Nat.div_add_mod _ _,?_⟩;rw[Nat.le_div_iff_mul_le h.v1];have i:=Nat.div_mul_le_self (bval c) (bval d);generalize bval c / bval d=Q at *;have m:=z9y h.lu h.n1;have l:=y3w h.su (n-1) (by rw[h.lu];omega);have j:=y0e h.lv h.n1;have k:Q*(BB ^ (n-1)*nth d (n-1))<=Q*bval d:=Nat.mul_le_mul_left _ (by omega);have g:BB ^ (n-1)*(Q*nth d (n-1))<BB ^ (n-1)*(nth c n*BB+nth c (n-1)+1):=by
  rw[Nat.mul_left_comm,Nat.mul_add];omega
 have:=Nat.lt_of_mul_lt_mul_left g;omega
theorem y9b {xs:List Nat} {n:Nat} (h:xs.length=n+1) (d:2<=n):bval xs=bval (xs.take (n-2))+BB ^ (n-2)*((nth xs n*BB+nth xs (n-1))*BB+nth xs (n-2)):=by
 have c:=z0k xs (n-2);rw[show n-2+1=n-1 by omega] at c;rw[z9y h (by omega),c];have g:BB ^ (n-1)=BB ^ (n-2)*BB:=y9x d;rw[g,Nat.mul_add (BB ^ (n-2)),Nat.mul_assoc,Nat.mul_comm BB (nth xs n*BB+nth xs (n-1))];omega
theorem y5s {xs:List Nat} {n:Nat} (h:xs.length=n) (c:2<=n):bval xs=bval (xs.take (n-2))+BB ^ (n-2)*(nth xs (n-1)*BB+nth xs (n-2)):=by
 have:=z9y (n:=n-1) (xs:=xs) (by omega) (by omega)
 rwa [show n-1-1=n-2 by omega] at this
theorem Est.back {d c:List Nat} {n q r:Nat} (h:DivIn d c n) (l:Est d c n q r) (i:BB<=q\/(2<=n/\r*BB+nth d (n-2)<q*nth c (n-2))) :
  1<=q/\Est d c n (q-1) (r+nth c (n-1)):=by
 have g:bval d / bval c<q:=by
  rcases i with i|⟨k,i⟩
  ·exact Nat.lt_of_lt_of_le h.qlt i
  rw[Nat.div_lt_iff_lt_mul h.vpos'];have s:=y9b h.lu k;have z:=y5s h.lv k;have u:=y3w h.su (n-2) (by rw[h.lu];omega);have o:(nth d n*BB+nth d (n-1))*BB+nth d (n-2)+1<=q*(nth c (n-1)*BB+nth c (n-2)):=by
   rw[<- l.top,Nat.add_mul,Nat.mul_add,Nat.mul_assoc];omega
  have m:BB ^ (n-2)*((nth d n*BB+nth d (n-1))*BB+nth d (n-2)+1)<=BB ^ (n-2)*(q*(nth c (n-1)*BB+nth c (n-2))):=Nat.mul_le_mul_left _ o;have p:BB ^ (n-2)*(q*(nth c (n-1)*BB+nth c (n-2)))<=q*bval c:=by
   rw[Nat.mul_left_comm];exact Nat.mul_le_mul_left _ (by omega)
  rw[Nat.mul_add (BB ^ (n-2)) _ 1,Nat.mul_one] at m;omega
 have j:1<=q:=Nat.lt_of_le_of_lt (Nat.zero_le _) g;refine⟨j,?_,Nat.le_sub_one_of_lt g⟩;clear g;have:=l.top;have e:q*nth c (n-1)=(q-1)*nth c (n-1)+nth c (n-1):=by
  have:q=q-1+1:=by omega
  rw[this,Nat.add_mul,Nat.one_mul,Nat.add_sub_cancel]
 omega
theorem Est.done {d c:List Nat} {n q r:Nat} (h:DivIn d c n) (k:Est d c n q r) (s:q<BB) (l:n=1\/BB<=r\/(2<=n/\q*nth c (n-2)<=r*BB+nth d (n-2))) :
  q*bval c<bval d+bval c:=by
 by_cases m:n=1
 ·subst m;have i:=z9y h.lu (by omega);have j:=y0e h.lv (by omega);simp only[Nat.sub_self,Nat.pow_zero,Nat.one_mul,List.take_zero,show bval []=0 from rfl,Nat.zero_add] at i j;have:=k.top;simp only[Nat.sub_self] at this;have:=h.vpos';rw[j] at *;omega
 have g:2<=n:=by have:=h.n1;omega
 have A:q*nth c (n-2)<=r*BB+nth d (n-2):=by
  rcases l with i|i|i
  ·omega
  ·have j:q*nth c (n-2)<=BB*BB:=Nat.mul_le_mul (by omega) (by have:=h.sv (n-2);omega);have p:BB*BB<=r*BB:=Nat.mul_le_mul_right _ i;omega
  exact i.2
 have i:=y9b h.lu g;have j:=y5s h.lv g;have p:=y3w h.sv (n-2) (by rw[h.lv];omega);have o:q*(nth c (n-1)*BB+nth c (n-2))<=(nth d n*BB+nth d (n-1))*BB+nth d (n-2):=by
  rw[<- k.top,Nat.add_mul,Nat.mul_add,Nat.mul_assoc];omega
 have B:BB ^ (n-2)*(q*(nth c (n-1)*BB+nth c (n-2)))<=BB ^ (n-2)*((nth d n*BB+nth d (n-1))*BB+nth d (n-2)):=Nat.mul_le_mul_left _ o;have u:q*bval c=q*bval (c.take (n-2))+BB ^ (n-2)*(q*(nth c (n-1)*BB+nth c (n-2))):=by
  rw[j,Nat.mul_add,Nat.mul_left_comm]
 have z:q*bval (c.take (n-2))<BB ^ (n-1):=by
  have e:BB ^ (n-1)=BB*BB ^ (n-2):=by rw[Nat.mul_comm];exact y9x g
  rw[e];exact Nat.mul_lt_mul_of_lt_of_le s (by omega) (Nat.pow_pos z1w)
 have:=h.vpos;omega
structure SubIn (us vs us':List Nat) (q i c bo:Nat):Prop where
 len:us'.length=us.length
 small:Small us'
 carry:c<BB
 borrow:bo<=1
 same:∀ j,i<=j->nth us' j=nth us j
 val:bval (us'.take i)+q*bval (vs.take i)=bval (us.take i)+BB ^ i*(c+bo)
theorem SubIn.start (c d:List Nat) (q:Nat) (h:Small c):SubIn c d c q 0 0 0:=⟨rfl,h,z1w,by omega,fun _ _=>rfl,by simp[bval]⟩
theorem take_set (L:List Nat) (i v:Nat):(L.set i v).take i=L.take i:=by
 rw[List.take_set];apply List.set_eq_of_length_le;rw[List.length_take];omega
def dSub (u c b x:Nat):Nat:=u+1000000000-(c+x) % 1000000000-b
theorem x0u {u c b x:Nat} (hb:b<=1):((u:Int)+1000000000-((c:Int)+(x:Int)) % 1000000000-(b:Int))=((dSub u c b x:Nat):Int):=by unfold dSub;omega
theorem SubIn.step {k g m:List Nat} {q i c o:Nat} (h:SubIn k g m q i c o) (G:Small g) (B:q<BB) (hi:i<k.length) :
  SubIn k g (m.set i (dSub (nth k i) c o (q*nth g i) % 1000000000)) q (i+1) ((c+q*nth g i) / 1000000000) (1-dSub (nth k i) c o (q*nth g i) / 1000000000):=by
 have hb:=z9b (l:=0) z1w h.carry B (G i);rw[Nat.zero_add] at hb;have C:nth k i<BB:=by rw[<- h.same i nlr];exact h.small i
 have p:i<m.length:=by rw[h.len];exact hi
 have s:=h.val;have D:=h.carry;have u:=h.borrow;have I:(c+q*nth g i) % 1000000000<1000000000:=Nat.mod_lt _ (by omega);have E:(c+q*nth g i) % 1000000000+1000000000*((c+q*nth g i) / 1000000000)=c+q*nth g i:=Nat.mod_add_div _ _;rw[z0r] at C D;refine⟨by simp[h.len],z7u h.small _ _ (by rw[z0r];exact Nat.mod_lt _ (by omega)),by rw[z0r];omega,by omega,fun j H=>?_,?_⟩
 ·rw[y1v _ _ _ _ p,if_neg (by omega)];exact h.same j (by omega)
 rw[z0k,z0k g,z0k k,take_set,y1v _ _ _ _ p,if_pos rfl,Nat.mul_add,Nat.pow_succ];generalize hd:dSub (nth k i) c o (q*nth g i)=d at *;unfold dSub at hd;generalize hx:q*nth g i=x at *;have A:q*(BB ^ i*nth g i)=BB ^ i*x:=by rw[Nat.mul_left_comm,hx]
 rw[A];have z:d % 1000000000+x+c+o=nth k i+BB*((c+x) / 1000000000+(1-d / 1000000000)):=by rw[z0r];omega
 have F:BB ^ i*(d % 1000000000+x+c+o)=BB ^ i*nth k i+BB ^ i*BB*((c+x) / 1000000000+(1-d / 1000000000)):=by rw[z,Nat.mul_add,Nat.mul_assoc]
 rw[Nat.mul_add,Nat.mul_add,Nat.mul_add] at F;rw[Nat.mul_add (BB ^ i)] at s;omega
theorem SubIn.last {i d g:List Nat} {n q c j:Nat} (h:SubIn i d g q n c j) (k:d.length=n):(c+q*nth d n) / 1000000000=0:=by
 rw[z1q d n (by omega),Nat.mul_zero,Nat.add_zero];have:=h.carry;rw[z0r] at this;exact Nat.div_eq_of_lt this
theorem SubIn.done {i j d:List Nat} {n q k:Nat} (h:SubIn i j d q (n+1) 0 k) (l:i.length=n+1) (m:j.length=n) :
  bval d+q*bval j=bval i+BB ^ (n+1)*k/\bval d<BB ^ (n+1):=by
 have c:=h.val;have g:=h.len;rw[z2p (by omega),z2p (by omega),z2p (by omega),Nat.zero_add] at c;have:=z3s h.small;rw[g,l] at this;exact⟨c,this⟩
theorem SubIn.fits {c d g:List Nat} {n q:Nat} (i:DivIn c d n) (h:SubIn c d g q (n+1) 0 0) (m:bval c / bval d<=q):q=bval c / bval d/\bval g=bval c % bval d:=by
 obtain⟨k,o⟩:=h.done i.lu i.lv;rw[Nat.mul_zero,Nat.add_zero] at k;have l:q<=bval c / bval d:=by rw[Nat.le_div_iff_mul_le i.vpos'];omega
 have j:q=bval c / bval d:=by omega
 refine⟨j,?_⟩;have:=Nat.div_add_mod (bval c) (bval d);rw[<- j,Nat.mul_comm] at this;omega
structure AddIn (us vs us':List Nat) (i c:Nat):Prop where
 len:us'.length=us.length
 small:Small us'
 carry:c<=1
 same:∀ j,i<=j->nth us' j=nth us j
 val:bval (us'.take i)+BB ^ i*c=bval (us.take i)+bval (vs.take i)
theorem AddIn.start (c d:List Nat) (h:Small c):AddIn c d c 0 0:=⟨rfl,h,by omega,fun _ _=>rfl,by simp[bval]⟩
theorem AddIn.step {d g k:List Nat} {i c:Nat} (h:AddIn d g k i c) (s:Small g) (hi:i<d.length) :
  AddIn d g (k.set i ((nth d i+c+nth g i) % 1000000000)) (i+1) ((nth d i+c+nth g i) / 1000000000):=by
 have p:nth d i<BB:=by rw[<- h.same i nlr];exact h.small i
 have m:=s i;have l:i<k.length:=by rw[h.len];exact hi
 have o:=h.val;have A:=h.carry;rw[z0r] at p m;refine⟨by simp[h.len],z7u h.small _ _ (by rw[z0r];exact Nat.mod_lt _ (by omega)),by omega,fun j B=>?_,?_⟩
 ·rw[y1v _ _ _ _ l,if_neg (by omega)];exact h.same j (by omega)
 rw[z0k,z0k g,z0k d,take_set,y1v _ _ _ _ l,if_pos rfl,Nat.pow_succ];generalize nth d i=a at *;generalize nth g i=x at *;have z:(a+c+x) % 1000000000+BB*((a+c+x) / 1000000000)=a+c+x:=by rw[z0r];omega
 have u:BB ^ i*(a+c+x)=BB ^ i*((a+c+x) % 1000000000)+BB ^ i*BB*((a+c+x) / 1000000000):=by rw[Nat.mul_assoc,<- Nat.mul_add,z]
 rw[Nat.mul_add,Nat.mul_add] at u;omega
theorem AddIn.fits {h d l g:List Nat} {n q c:Nat} (j:DivIn h d n) (B:SubIn h d l q (n+1) 0 1) (p:AddIn l d g (n+1) c) (I:bval h / bval d<=q) (C:q*bval d<bval h+bval d) :
  1<=q/\q-1=bval h / bval d/\bval g=bval h % bval d:=by
 obtain⟨A,N⟩:=B.done j.lu j.lv;have m:=p.len;have u:=B.len;have o:=j.lu;have E:=j.lv;have i:=p.val;rw[z2p (by omega),z2p (by omega),z2p (by omega)] at i;have F:=z3s p.small;rw[m,u,o] at F;rw[Nat.mul_one] at A;have s:1<=q:=by
  rcases Nat.eq_zero_or_pos q with k|k
  ·subst k;rw[Nat.zero_mul] at A;have:=z3s j.su;rw[o] at this;omega
  exact k
 have e:q*bval d=(q-1)*bval d+bval d:=by
  have:q=q-1+1:=by omega
  rw[this,Nat.add_mul,Nat.one_mul,Nat.add_sub_cancel]
 have G:c=1:=by
  have:=p.carry
  rcases Nat.eq_zero_or_pos c with k|k
  ·subst k;rw[Nat.mul_zero,Nat.add_zero] at i;omega
  omega
 subst G;rw[Nat.mul_one] at i;have D:(q-1)*bval d<=bval h:=by omega
 have J:bval g=bval h-(q-1)*bval d:=by omega
 have K:bval g<bval d:=by omega
 have z:q-1=bval h / bval d:=by
  have L:q-1<=bval h / bval d:=by rw[Nat.le_div_iff_mul_le j.vpos'];exact D
  have H:bval h / bval d<q:=by rw[Nat.div_lt_iff_lt_mul j.vpos'];omega
  omega
 refine⟨s,z,?_⟩;have:=Nat.div_add_mod (bval h) (bval d);rw[<- z,Nat.mul_comm] at this;omega
end
section
open Go.RowKit
theorem y7t (w:World) (r:Option Nat):w.grownBy w r:=⟨rfl,rfl,rfl,nlr,fun _ _ _=>rfl⟩
theorem x9k {w g j:World} {r:Option Nat} (h:w.grownBy g r) (d:g.grownBy j r):w.grownBy j r :=
 ⟨d.os.trans h.os,d.tape.trans h.tape,d.output.trans h.output,Nat.le_trans h.size d.size,fun k i c=>(d.block k (Nat.lt_of_lt_of_le i h.size) c).trans (h.block k i c)⟩
theorem z3a {w c:World} {r:Option Nat} (h:w.grownBy c r) (n:Nat):w.grownBy (c.drewN n) r:=⟨h.os,h.tape,h.output,h.size,h.block⟩
theorem y1m {w d:World} {g:Nat} (h:w.grownBy d (some g)) (j:Nat) (v:Value):w.grownBy (d.setCell ⟨g,j,none⟩ v) (some g) :=
 x9k h ⟨rfl,rfl,rfl,by simp[World.setCell],fun k _ c=>Below.heap_setCell _ _ _ _ (by intro e;apply c;rw[e])⟩
theorem y3n (A c C:List Nat) (i:Nat) (h:i<c.length):nth (A++c++C) (A.length+i)=nth c i:=by
 rw[z4b _ _ _ (by rw[List.length_append];omega),z3d _ _ _ (by omega),Nat.add_sub_cancel_left]
theorem set_mid (A c C:List Nat) (i v:Nat) (h:i<c.length):(A++c++C).set (A.length+i) v=A++c.set i v++C:=by
 rw[List.set_append_left _ _ (by rw[List.length_append];omega),List.set_append_right _ _ (by omega),Nat.add_sub_cancel_left]
def DigEnd (B g N cap:Nat) (A us C vs:List Nat) (w:World) (e:Ending) (w':World):Prop :=
 ∃ us':List Nat,e=.returned (.int .u64 ((bval us / bval vs:Nat):Int))/\us'.length=us.length/\Small us'/\bval us'=bval us % bval vs /\
  Own w' B 179 .u64 (.slice (some ⟨g,0,none⟩) N cap) (A++us'++C)/\w.grownBy w' (some g)
set_option maxRecDepth 100000 in
theorem v0x (B g N cap g0 bv ov cv n:Nat) (A p C j:List Nat) (w:World) (hN:(A++p++C).length=N) (c9:Own w B 179 .u64 (.slice (some ⟨g,0,none⟩) N cap) (A++p++C))
  (hd:DivIn p j n) (hn:n<=100000) (c7:bv≠g) (hv:∀ i,i<n->w.cell? ⟨bv,ov+i,none⟩=some (.int .u64 ((nth j i:Nat):Int))) :
  Calls prog 238 #[.slice (some ⟨g,A.length,none⟩) (n+1) g0,.slice (some ⟨bv,ov,none⟩) n cv] w (DigEnd B g N cap A p C j w):=by
 have z:=qh hd;clear hd;have HN:=qh hN;clear hN;have HO:=qh c9;clear c9;have HV:=qh hv;clear hv;have h1:=z.out.n1;have e9:=z.out.lu;have F:=qh e9;clear e9;have un:w.cell? ⟨g,A.length+n,none⟩=some (.int .u64 ((nth p n:Nat):Int)):=by
  have h:=HO.out.cell HN.out (A.length+n) (by rw[<- HN.out,List.length_append,List.length_append,F.out];omega)
  rwa [y3n _ _ _ _ (by rw[F.out];omega)] at h
 have h6:w.cell? ⟨g,A.length+(n-1),none⟩=some (.int .u64 ((nth p (n-1):Nat):Int)):=by
  have h:=HO.out.cell HN.out (A.length+(n-1)) (by rw[<- HN.out,List.length_append,List.length_append,F.out];omega)
  rwa [y3n _ _ _ _ (by rw[F.out];omega)] at h
 have e5:=HV.out (n-1) (by omega);have g6:=z.out.v1;have f2:=z.out.su n;have d0:=z.out.su (n-1);rw[z0r] at f2 d0
 go_enter func238,ntmps238
 go_wp2_with fail
 go_quiet (fail)
 go_wp2_with fail
 go_quiet (fail)
 go_upto_block 0 with (fail)
 generalize hw2:(World.drewN _ _)=w2;have m:w.grownBy w2 (some g):=by rw[<- hw2];exact z3a (z3a (y7t _ _) _) _
 have b6:Below w.heap.size w w2:=by rw[<- hw2];exact below_drewN (below_drewN blr _) _
 have o:Own w2 B 179 .u64 (.slice (some ⟨g,0,none⟩) N cap) (A++p++C):=HO.out.kept b6 nlr;have e6:=qh m;clear m;have f0:=qh o;clear o;clear hw2 b6 un h6 e5 HO
 go_cut [7,8] from 43 (fun q r wx=>∃ d I:Nat,q=.int .u64 (d:Int)/\r=.int .u64 (I:Int)/\d<BB/\bval p / bval j<=d/\d*bval j<bval p+bval j /\
   Own wx B 179 .u64 (.slice (some ⟨g,0,none⟩) N cap) (A++p++C)/\w.grownBy wx (some g))
 case first =>
  go_wp2_with fail
  go_loopw [7,8] (fun q r wr=>∃ d I:Nat,q=.int .u64 (d:Int)/\r=.int .u64 (I:Int)/\Est p j n d I /\
    Own wr B 179 .u64 (.slice (some ⟨g,0,none⟩) N cap) (A++p++C)/\w.grownBy wr (some g)) (fun q _ _=>(intOf q).toNat)
  case atStart =>
   have he:=Est.start z.out;rw[z0r] at he;exact⟨_,_,by go_num,by go_num,he,f0.out,e6.out⟩
  obtain⟨d,I,rfl,rfl,he,o,m⟩:=hrel;have d1:=he.top;have e7:=z.out.su (n-2);have g3:=z.out.sv (n-2);have i7:=z.out.sv (n-1);rw[z0r] at d1 e7 g3 i7;have j3:d<=999999999999999999:=by
   have:d*1<=d*nth j (n-1):=Nat.mul_le_mul_left _ g6;omega
  have j6:I<=999999999999999999:=by omega
  have f5:(((n:Int)-1).toNat)=n-1:=by omega
  have e5:wr.cell? ⟨bv,ov+(n-1),none⟩=some (.int .u64 ((nth j (n-1):Nat):Int)):=m.cell (HV.out (n-1) (by omega)) (by simpa using c7);have c8:2<=n->wr.cell? ⟨g,A.length+(n-2),none⟩=some (.int .u64 ((nth p (n-2):Nat):Int)):=fun h2=>by
   have h:=o.cell HN.out (A.length+(n-2)) (by rw[<- HN.out,List.length_append,List.length_append,F.out];omega)
   rwa [y3n _ _ _ _ (by rw[F.out];omega)] at h
  have b9:2<=n->wr.cell? ⟨bv,ov+(n-2),none⟩=some (.int .u64 ((nth j (n-2):Nat):Int)):=fun h2=>m.cell (HV.out (n-2) (by omega)) (by simpa using c7);have HE:=qh he;clear he d1 f5;have E:=qh o;clear o;have D:=qh m;clear m;by_cases hA:BB<=d
  ·have Z:=HE.out.back z.out (.inl hA);have L:=qh Z;clear Z;rw[z0r] at hA;have f8:(1000000000:Int)<=(d:Int):=by omega
   clear c8 b9
   go_wp2_with fail
   go_quiet (fail)
   go_wp2_with fail
   ·have b2:(1000000000:Int)<=(I:Int)+((nth j (n-1):Nat):Int):=by assumption
    have j4:(d:Int)-1<1000000000:=by assumption
    go_meet
    refine⟨d-1,I+nth j (n-1),by go_num,by go_num,by rw[z0r];omega,L.out.2.ge,L.out.2.done z.out (by rw[z0r];omega) (.inr (.inl (by rw[z0r];omega))),E.out.kept (below_drewN (Below.refl _ wr) _) nlr,z3a D.out _⟩
   ·go_roundw
    case rel=>exact⟨d-1,I+nth j (n-1),by go_num,by go_num,L.out.2,E.out.kept (below_drewN (Below.refl _ wr) _) nlr,z3a D.out _⟩
    have:=L.out.1;simp[intOf];omega
   go_roundw
   case rel=>exact⟨d-1,I+nth j (n-1),by go_num,by go_num,L.out.2,E.out.kept (below_drewN (Below.refl _ wr) _) nlr,z3a D.out _⟩
   have:=L.out.1;simp[intOf];omega
  have d4:d<BB:=by omega
  have a1:=qh d4;clear d4;rw[z0r] at hA;have f8:decide ((1000000000:Int)<=(d:Int))=false:=by simp;omega
  by_cases b5:2<=n
  ·have e8:=c8 b5;have f9:=b9 b5;clear c8 b9;have O:((d:Int)*((nth j (n-2):Nat):Int))=((d*nth j (n-2):Nat):Int):=by simp
   obtain⟨P,hP⟩:=exq (d*nth j (n-2));have i4:(P:Int)<=999999998000000001:=by
    have:d*nth j (n-2)<=999999999*999999999:=Nat.mul_le_mul (by omega) (by omega);omega
   have hw:IntKind.u64.wrap ((d:Int)*((nth j (n-2):Nat):Int))=(P:Int):=by
    rw[O,<- hP];exact IntWalk.u64_in _ ⟨by omega,by omega⟩
   have HP:=qh hP;clear hP O;have d9:(1:Int)<(n:Int):=by omega
   by_cases h7:I<1000000000
   ·have d2:(I:Int)<1000000000:=by omega
    by_cases ht:I*1000000000+nth p (n-2)<P
    ·have Z:=HE.out.back z.out (.inr ⟨b5,by rw[z0r,<- HP.out];exact ht⟩);have f3:(I:Int)*1000000000+((nth p (n-2):Nat):Int)<(P:Int):=by omega
     have b1:(1:Int)<=(d:Int):=by have:=Z.1;omega
     have L:=qh Z;clear Z ht
     go_wp2_with fail
     go_quiet (fail)
     clear f3 hw i4;have i9:(d:Int)<=999999999:=by omega
     clear hA f8 h7 d2 e7 g3 e8 f9 b5 d9
     go_wp2_with fail
     ·have b2:(1000000000:Int)<=(I:Int)+((nth j (n-1):Nat):Int):=by assumption
      go_meet
      refine⟨d-1,I+nth j (n-1),by go_num,by go_num,by rw[z0r];omega,L.out.2.ge,L.out.2.done z.out (by rw[z0r];omega) (.inr (.inl (by rw[z0r];omega))),E.out.kept (below_drewN (Below.refl _ wr) _) nlr,z3a D.out _⟩
     go_roundw
     case rel=>exact⟨d-1,I+nth j (n-1),by go_num,by go_num,L.out.2,E.out.kept (below_drewN (Below.refl _ wr) _) nlr,z3a D.out _⟩
     have:=L.out.1;simp[intOf];omega
    have f3:decide ((I:Int)*1000000000+((nth p (n-2):Nat):Int)<(P:Int))=false:=by simp;omega
    have g8:=qh ht;clear ht
    go_wp2_with fail
    go_quiet (fail)
    go_wp2_with fail
    go_meet
    exact⟨d,I,rfl,rfl,a1.out,HE.out.ge,HE.out.done z.out a1.out (.inr (.inr ⟨b5,by have:=g8.out;rw[z0r,<- HP.out];omega⟩)),E.out.kept (below_drewN (Below.refl _ wr) _) nlr,z3a D.out _⟩
   have d2:decide ((I:Int)<1000000000)=false:=by simp;omega
   go_wp2_with fail
   go_quiet (fail)
   go_wp2_with fail
   go_meet
   exact⟨d,I,rfl,rfl,a1.out,HE.out.ge,HE.out.done z.out a1.out (.inr (.inl (by rw[z0r];omega))),E.out.kept (below_drewN (Below.refl _ wr) _) nlr,z3a D.out _⟩
  have d9:decide ((1:Int)<(n:Int))=false:=by simp;omega
  clear c8 b9
  go_wp2_with fail
  go_quiet (fail)
  go_wp2_with fail
  go_meet
  exact⟨d,I,rfl,rfl,a1.out,HE.out.ge,HE.out.done z.out a1.out (.inl (by omega)),E.out.kept (below_drewN (Below.refl _ wr) _) nlr,z3a D.out _⟩
 case rest =>
  obtain⟨d,I,rfl,rfl,b1,e3,g1,o,m⟩:=hcut;have d4:(d:Int)<=999999999:=by rw[z0r] at b1;omega
  have i5:=qh b1;clear b1;have f7:=qh e3;clear e3;have g9:=qh g1;clear g1;have h4:=qh o;clear o;have h9:=qh m;clear m;clear f0 e6 f2 d0
  go_wp2_with fail
  go_loopw [9,10,88] (fun b c i wr=>∃ (k S Y:Nat) (u:List Nat),k<=n+1/\i=.int .i64 (k:Int)/\c=.int .u64 (S:Int)/\b=.int .u64 (Y:Int)/\SubIn p j u d k S Y/\(k=n+1->S=0) /\
    Own wr B 179 .u64 (.slice (some ⟨g,0,none⟩) N cap) (A++u++C)/\w.grownBy wr (some g)) (fun _ _ i _=>n+1-(intOf i).toNat)
  case atStart=>exact⟨0,0,0,p,Nat.zero_le _,rfl,rfl,rfl,SubIn.start p j d z.out.su,fun _=>rfl,h4.out,h9.out⟩
  obtain⟨k,S,Y,u,hk,rfl,rfl,rfl,H,a7,o,m⟩:=hrel;have s:=H.len;rw[F.out] at s;have b7:(A++u++C).length=N:=by rw[<- HN.out,List.length_append,List.length_append,List.length_append,List.length_append,s,F.out]
  have X:=qh s;clear s;have b3:=qh b7;clear b7;have g2:=qh a7;clear a7;have R:=qh H;clear H;have a3:=qh o;clear o;have b4:=qh m;clear m;by_cases d8:k<n+1
  ·have i8:(S:Int)<=999999999:=by have:=R.out.carry;rw[z0r] at this;omega
   have j2:(Y:Int)<=1:=by have:=R.out.borrow;omega
   have h3:((nth p k:Nat):Int)<=999999999:=by have:=z.out.su k;rw[z0r] at this;omega
   have uc:wr.cell? ⟨g,A.length+k,none⟩=some (.int .u64 ((nth p k:Nat):Int)):=by
    have h:=a3.out.cell b3.out (A.length+k) (by rw[<- b3.out,List.length_append,List.length_append,X.out];omega)
    rwa [y3n _ _ _ _ (by rw[X.out];omega),R.out.same k nlr] at h
   have uf:wr.frozen? ⟨g,A.length+k,none⟩=false:=a3.out.free b3.out _;have J:=R.out.step z.out.sv i5.out (by rw[F.out];exact d8);have a2:=qh J;clear J;by_cases d3:k<n
   ·have vc:wr.cell? ⟨bv,ov+k,none⟩=some (.int .u64 ((nth j k:Nat):Int)):=b4.out.cell (HV.out k d3) (by simpa using c7);have O:((d:Int)*((nth j k:Nat):Int))=((d*nth j k:Nat):Int):=by simp
    have j0:(d:Int)*((nth j k:Nat):Int)<=999999998000000001:=by
     have h2:=z.out.sv k;rw[z0r] at h2;have:d*nth j k<=999999999*999999999:=Nat.mul_le_mul (by omega) (by omega);rw[O];omega
    have j1:0<=(d:Int)*((nth j k:Nat):Int):=by rw[O];omega
    have i3:=qh O;clear O;go_wp2;go_roundw
    case rel =>
     have i2:dSub (nth p k) S Y (d*nth j k)<=1999999999:=by unfold dSub;omega
     rw[i3.out,x0u R.out.borrow];have l:=a3.out.set b3.out (A.length+k) (dSub (nth p k) S Y (d*nth j k) % 1000000000);rw[set_mid _ _ _ _ _ (by rw[X.out];exact d8)] at l;exact⟨k+1,_,_,_,by omega,by go_num,by go_num,by go_num,a2.out,fun h=>by omega,l,y1m b4.out _ _⟩
    simp[intOf];omega
   have K:k=n:=by omega
   have a5:nth j k=0:=z1q j k (by have:=z.out.lv;omega);have e4:(S+d*nth j k) / 1000000000=0:=by
    have h:=R.out;rw[K] at h ⊢;exact h.last z.out.lv
   have g7:=qh K;clear K;have f4:=qh a5;clear a5;have i6:=qh e4;clear e4;go_wp2;go_roundw
   case rel =>
    have e0:(S:Int)=(S:Int)+((d*nth j k:Nat):Int):=by rw[f4.out];simp
    have e1:(S:Int) / 1000000000=((S+d*nth j k) / 1000000000:Nat):=by rw[f4.out,Nat.mul_zero];omega
    have e2:((nth p k:Nat):Int)+1000000000-(S:Int) % 1000000000-(Y:Int)=((dSub (nth p k) S Y (d*nth j k):Nat):Int):=by
     rw[<- x0u R.out.borrow,<- e0]
    have i2:dSub (nth p k) S Y (d*nth j k)<=1999999999:=by unfold dSub;omega
    rw[e1,e2];have l:=a3.out.set b3.out (A.length+k) (dSub (nth p k) S Y (d*nth j k) % 1000000000);rw[set_mid _ _ _ _ _ (by rw[X.out];exact d8)] at l;exact⟨k+1,_,_,_,by omega,by go_num,rfl,by go_num,a2.out,fun _=>i6.out,l,y1m b4.out _ _⟩
   simp[intOf];omega
  have K:k=n+1:=by omega
  have g5:=g2.out K;have H:=R.out;rw[K,g5] at H;have U:=qh H;clear H;clear R g2 K g5
  rcases Nat.eq_zero_or_pos Y with h0|h0
  ·have h5:(((Y:Nat):Int)==0)=true:=by rw[beq_iff_eq];omega
   have Q:d=bval p / bval j/\bval u=bval p % bval j:=by
    have h:=U.out;rw[h0] at h;exact h.fits z.out f7.out
   have HF:=qh Q;clear Q;have h8:=qh h0;clear h0;go_wp2;go_ret;exact⟨u,z5k (by rw[<- HF.out.1]),by rw[X.out,F.out],U.out.small,HF.out.2,a3.out,b4.out⟩
  have h5:(((Y:Nat):Int)==0)=false:=by rw[beq_eq_false_iff_ne];omega
  have b2:Y=1:=by have:=U.out.borrow;omega
  have H:=U.out;rw[b2] at H;have d7:=qh H;clear H U;have h8:=qh b2;clear b2 h0;obtain⟨wo,rfl⟩:∃ wo:World,wo=wr:=⟨_,rfl⟩
  go_wp2_with fail
  go_loopw [10,129] (fun c i wr=>∃ (k S:Nat) (T:List Nat),k<=n+1/\i=.int .i64 (k:Int)/\c=.int .u64 (S:Int)/\AddIn u j T k S /\
   Own wr B 179 .u64 (.slice (some ⟨g,0,none⟩) N cap) (A++T++C)/\w.grownBy wr (some g)) (fun _ i _=>n+1-(intOf i).toNat)
  case atStart=>exact⟨0,0,u,Nat.zero_le _,rfl,rfl,AddIn.start u j d7.out.small,a3.out,b4.out⟩
  obtain⟨G,d5,T,j5,rfl,rfl,W,o,m⟩:=hrel;have s:=W.len;rw[X.out] at s;have b7:(A++T++C).length=N:=by rw[<- HN.out,List.length_append,List.length_append,List.length_append,List.length_append,s,F.out]
  have a9:=qh s;clear s;have a8:=qh b7;clear b7;have a4:=qh W;clear W;have b0:=qh o;clear o;have b8:=qh m;clear m;by_cases a6:G<n+1
  ·have i8:(d5:Int)<=1:=by have:=a4.out.carry;omega
   have h3:((nth u G:Nat):Int)<=999999999:=by have:=d7.out.small G;rw[z0r] at this;omega
   have f1:((nth j G:Nat):Int)<=999999999:=by have:=z.out.sv G;rw[z0r] at this;omega
   have uc:wr.cell? ⟨g,A.length+G,none⟩=some (.int .u64 ((nth u G:Nat):Int)):=by
    have h:=b0.out.cell a8.out (A.length+G) (by rw[<- a8.out,List.length_append,List.length_append,a9.out];omega)
    rwa [y3n _ _ _ _ (by rw[a9.out];omega),a4.out.same G nlr] at h
   have uf:wr.frozen? ⟨g,A.length+G,none⟩=false:=b0.out.free a8.out _;have J:=a4.out.step z.out.sv (by rw[X.out];exact a6);have a2:=qh J;clear J;by_cases d3:G<n
   ·have vc:wr.cell? ⟨bv,ov+G,none⟩=some (.int .u64 ((nth j G:Nat):Int)):=b8.out.cell (HV.out G d3) (by simpa using c7);go_wp2;go_roundw
    case rel =>
     have l:=b0.out.set a8.out (A.length+G) ((nth u G+d5+nth j G) % 1000000000);rw[set_mid _ _ _ _ _ (by rw[a9.out];exact a6)] at l;exact⟨G+1,_,_,by omega,by go_num,by go_num,a2.out,l,y1m b8.out _ _⟩
    simp[intOf];omega
   have a5:nth j G=0:=z1q j G (by have:=z.out.lv;omega);have d6:=a2.out;rw[a5,Nat.add_zero] at d6;have g4:=qh d6;clear d6 a2 a5 f1;go_wp2;go_roundw
   case rel =>
    have l:=b0.out.set a8.out (A.length+G) ((nth u G+d5) % 1000000000);rw[set_mid _ _ _ _ _ (by rw[a9.out];exact a6)] at l;exact⟨G+1,_,_,by omega,by go_num,by go_num,g4.out,l,y1m b8.out _ _⟩
   simp[intOf];omega
  have K:G=n+1:=by omega
  have W:=a4.out;rw[K] at W;have Q:=W.fits z.out d7.out f7.out g9.out;have b1:(1:Int)<=(d:Int):=by have:=Q.1;omega
  have HF:=qh Q;clear Q W;have g7:=qh K;clear K;go_wp2;go_ret;exact⟨T,z5k (by rw[<- HF.out.2.1];omega),by rw[a9.out,F.out],a4.out.small,HF.out.2.2,b0.out,b8.out⟩
end
end Go.Proofs.YteappjogmnogcaaGreatDoor
