/- Parts of a proof: Shelf MC Fmt Text Valid Ops MM MD. -/
import Derived.Shelf.Strings.Builder1
import Derived.Shelf.Strings.Builder2
import Derived.Shelf.Small.Wraps
import Derived.Shelf.Strings.BuilderF
import Derived.Shelf.Strings.BuilderK
import Derived.Shelf.Strings.Builder2Cap
import Derived.Shelf.Strconv.Itoa0
import Derived.Shelf.Strconv.Itoa1
import Derived.Shelf.LaysM
import Derived.Shelf.Strconv.Itoa2
import Derived.Shelf.Strings.Search1
import Derived.Shelf.Strings.Search2
import Derived.Shelf.Strings.Cut
import Derived.Shelf.Strings.Shaped
import Derived.Shelf.Strings.Prefix
import Derived.Shelf.Bits.Mul64
import Derived.Shelf.Strings.Repeat
import Derived.Shelf.Strings.BuilderCap
import Derived.Test.YteappjogmnogcaaGreatDoorProg
import Derived.Test.YteappjogmnogcaaGreatDoorT01
import Derived.Deep.QuietTactic
import Derived.BigQuiet
import Derived.Test.YteappjogmnogcaaGreatDoorT00
import Derived.Lib.ItoaMem
import Derived.Lib.AppendIntMem
import Derived.BigCall
import Derived.BigGuard
import Derived.Lib.Repeat
import Derived.WalkKit
import Derived.WalkSpells
import Derived.WalkLawsBesides
import Derived.Lib.Hide
import Derived.Lib.Strings
import Derived.Deep.Cut
import Derived.Deep.DeepCutAuto
namespace Go.Proofs.YteappjogmnogcaaGreatDoor
set_option maxRecDepth 100000
set_option linter.unusedSimpArgs false
set_option linter.unusedVariables false
set_option linter.unusedSectionVars false
set_option maxHeartbeats 16000000
open Go Tryz
end Go.Proofs.YteappjogmnogcaaGreatDoor
namespace Go.Proofs
open Go.Shelf
def Tryz.lays169_ren:Go.Shelf.Ren:=⟨fun | 169=>235 | n=>n,fun | 70=>218 | 9=>9 | 0=>0 | 72=>220 | 37=>175 | 127=>233 | 3=>3 | 5=>5 | n=>n,fun | n=>n⟩
theorem Tryz.lays169:Go.Proofs.Lays.n169 Tryz.prog Tryz.lays169_ren:={
 mixed:=by kernel_rfl
 f169:=Tryz.func235.trans (congrArg some (by kernel_rfl))
 t0:=Tryz.underlying0
 a0:=Tryz.isAgg0
 z0:=Tryz.sizeOf0
 v0:=Tryz.zeroValue0
 t3:=Tryz.underlying3
 a3:=Tryz.isAgg3
 z3:=Tryz.sizeOf3
 v3:=Tryz.zeroValue3
 t9:=Tryz.underlying9
 a9:=Tryz.isAgg9
 z9:=Tryz.sizeOf9
 v9:=Tryz.zeroValue9
 t37:=Tryz.underlying175
 a37:=Tryz.isAgg175
 z37:=Tryz.sizeOf175
 v37:=Tryz.zeroValue175
 t70:=Tryz.underlying218
 a70:=Tryz.isAgg218
 z70:=Tryz.sizeOf218
 v70:=Tryz.zeroValue218
 t72:=Tryz.underlying220
 a72:=Tryz.isAgg220
 z72:=Tryz.sizeOf220
 v72:=Tryz.zeroValue220
 t127:=Tryz.underlying233
 a127:=Tryz.isAgg233
 z127:=Tryz.sizeOf233
 v127:=Tryz.zeroValue233 }
theorem Tryz.Builder_Extra_169:Builder.Extra Tryz.prog Tryz.lays169_ren:={
 sizeBuilder:=by kernel_rfl
 liesBuilder:=by kernel_rfl
 t5:=Tryz.underlying5
 a5:=Tryz.isAgg5
 z5:=Tryz.sizeOf5
 v5:=Tryz.zeroValue5
 infoByte:=by kernel_rfl
 cellsByte:=by kernel_rfl
 sizeByte:=by kernel_rfl
 neB5:=by decide }
open Go.RowKit in
theorem Tryz.Builder_String_any (B b:Nat) (l:List UInt8) (w:World) (h:Lib.IsBuilder 220 5 B b (Lib.byteCells l) w) (hBw:B≤w.heap.size) :
  Calls Tryz.prog 235 #[.pointer (some ⟨b,0,none⟩)] w fun e w'=>e=.returned (.string ⟨l.toArray⟩)∧Below B w w':=Any.Builder_String_any Tryz.lays169 Tryz.Builder_Extra_169 B b l w h hBw
def Tryz.lays103_ren:Go.Shelf.Ren:=⟨fun | 103=>210 | 210=>225 | 206=>239 | n=>n,fun | 9=>9 | 4=>4 | 24=>203 | 3=>3 | n=>n,fun | n=>n⟩
theorem Tryz.lays103:Go.Proofs.Lays.n103 Tryz.prog Tryz.lays103_ren:={
 mixed:=by kernel_rfl
 f103:=Tryz.func210.trans (congrArg some (by kernel_rfl))
 f206:=Tryz.func239.trans (congrArg some (by kernel_rfl))
 f210:=Tryz.func225.trans (congrArg some (by kernel_rfl))
 t3:=Tryz.underlying3
 a3:=Tryz.isAgg3
 z3:=Tryz.sizeOf3
 v3:=Tryz.zeroValue3
 t4:=Tryz.underlying4
 a4:=Tryz.isAgg4
 z4:=Tryz.sizeOf4
 v4:=Tryz.zeroValue4
 t9:=Tryz.underlying9
 a9:=Tryz.isAgg9
 z9:=Tryz.sizeOf9
 v9:=Tryz.zeroValue9
 t24:=Tryz.underlying203
 a24:=Tryz.isAgg203
 z24:=Tryz.sizeOf203
 v24:=Tryz.zeroValue203 }
open Go.RowKit in
theorem Tryz.strings_CutPrefix (s p:ByteArray) (w:World) :
  Calls Tryz.prog 210 #[.string s,.string p] w fun e w'=>e=.returned (.tuple #[.string ⟨(Lib.trimPrefix s.data.toList p.data.toList).toArray⟩,.bool (Lib.hasPrefix s.data.toList p.data.toList)])∧w'=w:=Any.strings_CutPrefix Tryz.lays103 s p w
def Tryz.lays215_ren:Go.Shelf.Ren:=⟨fun | 215=>241 | n=>n,fun | 3=>3 | 4=>4 | n=>n,fun | n=>n⟩
def Tryz.lays122_ren:Go.Shelf.Ren:=⟨fun | 122=>230 | 215=>241 | n=>n,fun | 3=>3 | 4=>4 | n=>n,fun | n=>n⟩
theorem Tryz.lays122:Go.Proofs.Lays.n122 Tryz.prog Tryz.lays122_ren:={
 mixed:=by kernel_rfl
 f122:=Tryz.func230.trans (congrArg some (by kernel_rfl))
 f215:=Tryz.func241.trans (congrArg some (by kernel_rfl))
 t3:=Tryz.underlying3
 a3:=Tryz.isAgg3
 z3:=Tryz.sizeOf3
 v3:=Tryz.zeroValue3
 t4:=Tryz.underlying4
 a4:=Tryz.isAgg4
 z4:=Tryz.sizeOf4
 v4:=Tryz.zeroValue4 }
open Go.RowKit in
theorem Tryz.cmp_Compare_int (x y:Int) (w:World) :
  Calls Tryz.prog 230 #[.int .i64 x,.int .i64 y] w fun e w'=>e=.returned (.int .i64 (Lib.compareInt x y))∧w'=w:=Any.cmp_Compare_int Tryz.lays122 x y w
def Tryz.lays283_ren:Go.Shelf.Ren:=⟨fun | 283=>253 | n=>n,fun | 3=>3 | 9=>9 | 4=>4 | n=>n,fun | n=>n⟩
theorem Tryz.lays283:Go.Proofs.Lays.n283 Tryz.prog Tryz.lays283_ren:={
 mixed:=by kernel_rfl
 f283:=Tryz.func253.trans (congrArg some (by kernel_rfl))
 t3:=Tryz.underlying3
 a3:=Tryz.isAgg3
 z3:=Tryz.sizeOf3
 v3:=Tryz.zeroValue3
 t4:=Tryz.underlying4
 a4:=Tryz.isAgg4
 z4:=Tryz.sizeOf4
 v4:=Tryz.zeroValue4
 t9:=Tryz.underlying9
 a9:=Tryz.isAgg9
 z9:=Tryz.sizeOf9
 v9:=Tryz.zeroValue9 }
open Go.Lib in
theorem Tryz.internal_strconv_small (i:Nat) (h:i < 100) (w:World) :
  Calls Tryz.prog 253 #[.int .i64 i] w fun e w'=>e=.returned (.string ⟨(Lib.decDigits i).toArray⟩)∧w'=w:=Any.internal_strconv_small Tryz.lays283 i h w
def Tryz.laysM284_ren:Go.Shelf.Ren:=⟨fun | 284=>254 | 129=>262 | 317=>261 | 318=>263 | n=>n,fun | 53=>179 | 3=>3 | 212=>243 | 0=>0 | 4=>4 | 46=>83 | 5=>5 | 9=>9 | n=>n,fun | 17=>1 | n=>n⟩
theorem Tryz.laysM284:Go.Proofs.LaysM.n284 Tryz.prog Tryz.laysM284_ren:={
 mixed:=by kernel_rfl
 f129:=Tryz.func262.trans (congrArg some (by kernel_rfl))
 f284:=Tryz.func254.trans (congrArg some (by kernel_rfl))
 f317:=Tryz.func261.trans (congrArg some (by kernel_rfl))
 f318:=Tryz.func263.trans (congrArg some (by kernel_rfl))
 t0:=Tryz.underlying0
 a0:=Tryz.isAgg0
 z0:=Tryz.sizeOf0
 v0:=Tryz.zeroValue0
 t3:=Tryz.underlying3
 a3:=Tryz.isAgg3
 z3:=Tryz.sizeOf3
 v3:=Tryz.zeroValue3
 t4:=Tryz.underlying4
 a4:=Tryz.isAgg4
 z4:=Tryz.sizeOf4
 v4:=Tryz.zeroValue4
 t5:=Tryz.underlying5
 a5:=Tryz.isAgg5
 z5:=Tryz.sizeOf5
 v5:=Tryz.zeroValue5
 t9:=Tryz.underlying9
 a9:=Tryz.isAgg9
 z9:=Tryz.sizeOf9
 v9:=Tryz.zeroValue9
 t46:=Tryz.underlying83
 a46:=Tryz.isAgg83
 z46:=Tryz.sizeOf83
 v46:=Tryz.zeroValue83
 t53:=Tryz.underlying179
 a53:=Tryz.isAgg179
 z53:=Tryz.sizeOf179
 v53:=Tryz.zeroValue179
 t212:=Tryz.underlying243
 a212:=Tryz.isAgg243
 z212:=Tryz.sizeOf243
 v212:=Tryz.zeroValue243
 g17:=by kernel_rfl
 i0:=by kernel_rfl
 i3:=by kernel_rfl
 i4:=by kernel_rfl
 i5:=by kernel_rfl
 i9:=by kernel_rfl
 i46:=by kernel_rfl
 i53:=by kernel_rfl
 i212:=by kernel_rfl
 m17:=by kernel_rfl }
open Go.Lib in
theorem Tryz.internal_strconv_numDigits (u:Nat) (h1:1≤u) (h2:u < 18446744073709551616) (w:World) (htab:Lib.TabIs Tryz.prog w "internal/strconv.uint64pow10" .u64 Lib.pow10Tab) :
  Calls Tryz.prog 254 #[.int .u64 u] w fun e w'=>e=.returned (.int .i64 (Lib.nDigits u))∧w'=w:=Any.internal_strconv_numDigits Tryz.laysM284 u h1 h2 w htab
def Tryz.lays285_ren:Go.Shelf.Ren:=⟨fun | 285=>255 | n=>n,fun | 37=>175 | 53=>179 | 3=>3 | 4=>4 | 51=>176 | 9=>9 | 5=>5 | 0=>0 | n=>n,fun | n=>n⟩
theorem Tryz.lays285:Go.Proofs.Lays.n285 Tryz.prog Tryz.lays285_ren:={
 mixed:=by kernel_rfl
 f285:=Tryz.func255.trans (congrArg some (by kernel_rfl))
 t0:=Tryz.underlying0
 a0:=Tryz.isAgg0
 z0:=Tryz.sizeOf0
 v0:=Tryz.zeroValue0
 t3:=Tryz.underlying3
 a3:=Tryz.isAgg3
 z3:=Tryz.sizeOf3
 v3:=Tryz.zeroValue3
 t4:=Tryz.underlying4
 a4:=Tryz.isAgg4
 z4:=Tryz.sizeOf4
 v4:=Tryz.zeroValue4
 t5:=Tryz.underlying5
 a5:=Tryz.isAgg5
 z5:=Tryz.sizeOf5
 v5:=Tryz.zeroValue5
 t9:=Tryz.underlying9
 a9:=Tryz.isAgg9
 z9:=Tryz.sizeOf9
 v9:=Tryz.zeroValue9
 t37:=Tryz.underlying175
 a37:=Tryz.isAgg175
 z37:=Tryz.sizeOf175
 v37:=Tryz.zeroValue175
 t51:=Tryz.underlying176
 a51:=Tryz.isAgg176
 z51:=Tryz.sizeOf176
 v51:=Tryz.zeroValue176
 t53:=Tryz.underlying179
 a53:=Tryz.isAgg179
 z53:=Tryz.sizeOf179
 v53:=Tryz.zeroValue179 }
open Go.RowKit Go.Sort Go.Lib in
theorem Tryz.internal_strconv_formatBase10 (blk off cap:Nat) (u:Nat) (d:Array UInt8) (w:World) (hH:Holds (fun (b:UInt8)=>Value.int .u8 (b.toNat:Int)) w blk off d) (hu:u < 10 ^ d.size) (hu64:u < 18446744073709551616) (hsz:d.size < 4611686018427387904) :
  Calls Tryz.prog 255 #[.slice (some ⟨blk,off,none⟩) d.size cap,.int .u64 u] w fun e w' =>
   e=.returned (.tuple #[])∧∃ (n v':Nat) (dk:Array UInt8),w'=(putRow (fun (b:UInt8)=>Value.int .u8 (b.toNat:Int)) w blk off dk).drewN n∧FmtInv d.size u 0 v' dk:=Any.internal_strconv_formatBase10 Tryz.lays285 blk off cap u d w hH hu hu64 hsz
def Tryz.lays217_ren:Go.Shelf.Ren:=⟨fun | 217=>249 | 266=>259 | n=>n,fun | 9=>9 | 5=>5 | 3=>3 | n=>n,fun | n=>n⟩
theorem Tryz.lays217:Go.Proofs.Lays.n217 Tryz.prog Tryz.lays217_ren:={
 mixed:=by kernel_rfl
 f217:=Tryz.func249.trans (congrArg some (by kernel_rfl))
 f266:=Tryz.func259.trans (congrArg some (by kernel_rfl))
 t3:=Tryz.underlying3
 a3:=Tryz.isAgg3
 z3:=Tryz.sizeOf3
 v3:=Tryz.zeroValue3
 t5:=Tryz.underlying5
 a5:=Tryz.isAgg5
 z5:=Tryz.sizeOf5
 v5:=Tryz.zeroValue5
 t9:=Tryz.underlying9
 a9:=Tryz.isAgg9
 z9:=Tryz.sizeOf9
 v9:=Tryz.zeroValue9 }
open Go.RowKit Go.Lib in
theorem Tryz.stringslite_IndexByte (s:ByteArray) (c:Int) (w:World) :
  Calls Tryz.prog 249 #[.string s,.int .u8 c] w fun e w'=>e=.returned (.int .i64 (Lib.indexByte s.data.toList c.toNat.toUInt8))∧w'=w:=Any.stringslite_IndexByte Tryz.lays217 s c w
def Tryz.lays212_ren:Go.Shelf.Ren:=⟨fun | 212=>152 | 263=>180 | 264=>181 | n=>n,fun | 46=>83 | 51=>176 | 146=>177 | 53=>179 | 148=>180 | n=>n,fun | n=>n⟩
theorem Tryz.lays212:Go.Proofs.Lays.n212 Tryz.prog Tryz.lays212_ren:={
 mixed:=by kernel_rfl
 f212:=Tryz.func152.trans (congrArg some (by kernel_rfl))
 f263:=Tryz.func180.trans (congrArg some (by kernel_rfl))
 f264:=Tryz.func181.trans (congrArg some (by kernel_rfl))
 t46:=Tryz.underlying83
 a46:=Tryz.isAgg83
 z46:=Tryz.sizeOf83
 v46:=Tryz.zeroValue83
 t51:=Tryz.underlying176
 a51:=Tryz.isAgg176
 z51:=Tryz.sizeOf176
 v51:=Tryz.zeroValue176
 t53:=Tryz.underlying179
 a53:=Tryz.isAgg179
 z53:=Tryz.sizeOf179
 v53:=Tryz.zeroValue179
 t146:=Tryz.underlying177
 a146:=Tryz.isAgg177
 z146:=Tryz.sizeOf177
 v146:=Tryz.zeroValue177
 t148:=Tryz.underlying180
 a148:=Tryz.isAgg180
 z148:=Tryz.sizeOf180
 v148:=Tryz.zeroValue180 }
open Go.RowKit Go.Lib in
theorem Tryz.bits_Mul (x y:Nat) (hx:x < 18446744073709551616) (hy:y < 18446744073709551616) (w:World) :
  Calls Tryz.prog 152 #[.int .u64 x,.int .u64 y] w fun e w'=>e=.returned (.tuple #[.int .u64 ((x*y / 18446744073709551616:Nat):Int),.int .u64 ((x*y % 18446744073709551616:Nat):Int)])∧w'=w:=Any.bits_Mul Tryz.lays212 x y hx hy w
def Tryz.lays105_ren:Go.Shelf.Ren:=⟨fun | 105=>234 | 212=>152 | 99=>245 | 165=>246 | 166=>233 | 170=>247 | 169=>235 | 263=>180 | 264=>181 | 206=>239 | 240=>244 | 241=>258 | 276=>257 | 277=>266 | n=>n,fun | 9=>9 | 3=>3 | 4=>4 | 20=>20 | 0=>0 | 46=>83 | 109=>164 | 5=>5 | 72=>220 | 76=>224 | 51=>176 | 146=>177 | 53=>179 | 148=>180 | 70=>218 | 37=>175 | 75=>223 | 127=>233 | 164=>239 | 80=>208 | n=>n,fun | n=>n⟩
theorem Tryz.lays105:Go.Proofs.Lays.n105 Tryz.prog Tryz.lays105_ren:={
 mixed:=by kernel_rfl
 f99:=Tryz.func245.trans (congrArg some (by kernel_rfl))
 f105:=Tryz.func234.trans (congrArg some (by kernel_rfl))
 f165:=Tryz.func246.trans (congrArg some (by kernel_rfl))
 f166:=Tryz.func233.trans (congrArg some (by kernel_rfl))
 f169:=Tryz.func235.trans (congrArg some (by kernel_rfl))
 f170:=Tryz.func247.trans (congrArg some (by kernel_rfl))
 f206:=Tryz.func239.trans (congrArg some (by kernel_rfl))
 f212:=Tryz.func152.trans (congrArg some (by kernel_rfl))
 f240:=Tryz.func244.trans (congrArg some (by kernel_rfl))
 f241:=Tryz.func258.trans (congrArg some (by kernel_rfl))
 f263:=Tryz.func180.trans (congrArg some (by kernel_rfl))
 f264:=Tryz.func181.trans (congrArg some (by kernel_rfl))
 f276:=Tryz.func257.trans (congrArg some (by kernel_rfl))
 f277:=Tryz.func266.trans (congrArg some (by kernel_rfl))
 t0:=Tryz.underlying0
 a0:=Tryz.isAgg0
 z0:=Tryz.sizeOf0
 v0:=Tryz.zeroValue0
 t3:=Tryz.underlying3
 a3:=Tryz.isAgg3
 z3:=Tryz.sizeOf3
 v3:=Tryz.zeroValue3
 t4:=Tryz.underlying4
 a4:=Tryz.isAgg4
 z4:=Tryz.sizeOf4
 v4:=Tryz.zeroValue4
 t5:=Tryz.underlying5
 a5:=Tryz.isAgg5
 z5:=Tryz.sizeOf5
 v5:=Tryz.zeroValue5
 t9:=Tryz.underlying9
 a9:=Tryz.isAgg9
 z9:=Tryz.sizeOf9
 v9:=Tryz.zeroValue9
 t20:=Tryz.underlying20
 a20:=Tryz.isAgg20
 z20:=Tryz.sizeOf20
 v20:=Tryz.zeroValue20
 t37:=Tryz.underlying175
 a37:=Tryz.isAgg175
 z37:=Tryz.sizeOf175
 v37:=Tryz.zeroValue175
 t46:=Tryz.underlying83
 a46:=Tryz.isAgg83
 z46:=Tryz.sizeOf83
 v46:=Tryz.zeroValue83
 t51:=Tryz.underlying176
 a51:=Tryz.isAgg176
 z51:=Tryz.sizeOf176
 v51:=Tryz.zeroValue176
 t53:=Tryz.underlying179
 a53:=Tryz.isAgg179
 z53:=Tryz.sizeOf179
 v53:=Tryz.zeroValue179
 t70:=Tryz.underlying218
 a70:=Tryz.isAgg218
 z70:=Tryz.sizeOf218
 v70:=Tryz.zeroValue218
 t72:=Tryz.underlying220
 a72:=Tryz.isAgg220
 z72:=Tryz.sizeOf220
 v72:=Tryz.zeroValue220
 t75:=Tryz.underlying223
 a75:=Tryz.isAgg223
 z75:=Tryz.sizeOf223
 v75:=Tryz.zeroValue223
 t76:=Tryz.underlying224
 a76:=Tryz.isAgg224
 z76:=Tryz.sizeOf224
 v76:=Tryz.zeroValue224
 t109:=Tryz.underlying164
 a109:=Tryz.isAgg164
 z109:=Tryz.sizeOf164
 v109:=Tryz.zeroValue164
 t127:=Tryz.underlying233
 a127:=Tryz.isAgg233
 z127:=Tryz.sizeOf233
 v127:=Tryz.zeroValue233
 t146:=Tryz.underlying177
 a146:=Tryz.isAgg177
 z146:=Tryz.sizeOf177
 v146:=Tryz.zeroValue177
 t148:=Tryz.underlying180
 a148:=Tryz.isAgg180
 z148:=Tryz.sizeOf180
 v148:=Tryz.zeroValue180
 t164:=Tryz.underlying239
 a164:=Tryz.isAgg239
 z164:=Tryz.sizeOf239
 v164:=Tryz.zeroValue239 }
theorem Tryz.Builder_Extra_105:Builder.Extra Tryz.prog Tryz.lays105_ren:={
 sizeBuilder:=by kernel_rfl
 liesBuilder:=by kernel_rfl
 t5:=Tryz.underlying5
 a5:=Tryz.isAgg5
 z5:=Tryz.sizeOf5
 v5:=Tryz.zeroValue5
 infoByte:=by kernel_rfl
 cellsByte:=by kernel_rfl
 sizeByte:=by kernel_rfl
 neB5:=by decide }
open Go.RowKit Go.Lib in
theorem Tryz.strings_Repeat (s:ByteArray) (c:Nat) (w:World) (hc:c≤9223372036854775807) (hlen:s.size*c≤140737488355328) :
  Calls Tryz.prog 234 #[.string s,.int .i64 c] w fun e w'=>e=.returned (.string ⟨(Lib.repeatL s.data.toList c).toArray⟩)∧Below w.heap.size w w':=Any.strings_Repeat Tryz.lays105 Tryz.Builder_Extra_105 s c w hc hlen
open Go.RowKit Go.Lib in
theorem Tryz.lays166:Go.Proofs.Lays.n166 Tryz.prog Tryz.lays105_ren:={ Tryz.lays105 with }
open Go.RowKit in
theorem Tryz.Builder_WriteString (B b:Nat) (bs:List Value) (s:ByteArray) (w:World) (h:Lib.IsBuilder 220 5 B b bs w) (hlen:bs.length+s.size≤140737488355328) (hBw:B≤w.heap.size) :
  Calls Tryz.prog 233 #[.pointer (some ⟨b,0,none⟩),.string s] w fun e w'=>e=.returned (.tuple #[.int .i64 s.size,.nilIface])∧(Lib.BuilderAt 220 5 B b (.pointer (some ⟨b,0,none⟩)) (bs++Lib.strCells s) w'∧Below B w w') :=
 Any.Builder_WriteString Tryz.lays166 Tryz.Builder_Extra_105 B b bs s w h hlen hBw
end Go.Proofs
namespace Go.Proofs.YteappjogmnogcaaGreatDoor
set_option maxRecDepth 100000
set_option linter.unusedSimpArgs false
set_option linter.unusedVariables false
set_option linter.unusedSectionVars false
set_option maxHeartbeats 16000000
open Go Tryz
section
open Go.RowKit
def cmpN (m n:Nat):Int:=if m<n then -1 else if n<m then 1 else 0
theorem z8b {m n:Nat} (h:m<n):cmpN m n=-1:=by unfold cmpN;rw[if_pos h]
theorem z8c {m n:Nat} (h:n<m):cmpN m n=1:=by unfold cmpN;rw[if_neg (by omega),if_pos h]
theorem y0y {m n:Nat} (h:m=n):cmpN m n=0:=by unfold cmpN;rw[if_neg (by omega),if_neg (by omega)]
theorem y5g (x:Int) (w:World):Calls prog 242 #[.int .u64 x] w fun e w'=>e=.returned (.bool false)/\w=w':=by
 have h:(x != x)=false:=by simp
 go_enter func242,ntmps242
 go_wp2;go_ret;exact⟨rfl,rfl⟩
theorem x1d (x y:Nat) (w:World):Calls prog 231 #[.int .u64 (x:Int),.int .u64 (y:Int)] w fun e w'=>e=.returned (.int .i64 (cmpN x y))/\w=w':=by
 rcases Nat.lt_trichotomy x y with h|h|h
 ·have c:=z8b h;have d:=qh c;clear c
  go_enter func231,ntmps231
  go_wp2_with (go_at_call 242;refine(y5g _ _).mono ?_;rintro e w' ⟨rfl,rfl⟩)
  go_ret;exact⟨z5j d.out.symm,rfl⟩
 ·subst h;have c:=y0y (rfl:x=x);have d:=qh c;clear c
  go_enter func231,ntmps231
  go_wp2_with (go_at_call 242;refine(y5g _ _).mono ?_;rintro e w' ⟨rfl,rfl⟩)
  go_ret;exact⟨z5j d.out.symm,rfl⟩
 have c:=z8c h;have d:=qh c;clear c
 go_enter func231,ntmps231
 go_wp2_with (go_at_call 242;refine(y5g _ _).mono ?_;rintro e w' ⟨rfl,rfl⟩)
 go_ret;exact⟨z5j d.out.symm,rfl⟩
theorem y3a (xs:List Nat) (k i:Nat):nth (xs.drop k) i=nth xs (k+i):=by simp[nth,List.getD_eq_getElem?_getD]
theorem y5t (xs:List Nat) (j:Nat):bval xs=bval (xs.take j)+BB ^ j*nth xs j+BB ^ (j+1)*bval (xs.drop (j+1)):=by
 rw[<- z0k];by_cases h:j+1<=xs.length
 ·have:=z4p (xs.take (j+1)) (xs.drop (j+1));rw[List.take_append_drop,List.length_take,Nat.min_eq_left h] at this;exact this
 rw[List.take_of_length_le (by omega),List.drop_of_length_le (by omega)];simp[bval]
theorem y2f {xs c:List Nat} (g:xs.length=c.length) (h:∀ j,j<xs.length->nth xs j=nth c j):xs=c:=by
 apply List.ext_getElem g
 intro i d k;have:=h i d;rw[y1t xs i d,y1t c i k] at this;exact this
theorem y6d {xs c:List Nat} (k:Small xs) (g:xs.length=c.length) (j:Nat) (h:∀ i,j<i->i<xs.length->nth xs i=nth c i) (d:nth xs j<nth c j):bval xs<bval c:=by
 rw[y5t xs j,y5t c j];have e:xs.drop (j+1)=c.drop (j+1):=y2f (by simp[g]) (fun i hi=>by
  rw[y3a,y3a];rw[List.length_drop] at hi;exact h _ (by omega) (by omega))
 rw[e];have m:bval (xs.take j)<BB ^ j:=Nat.lt_of_lt_of_le (z3z (z4m k j)) (Nat.pow_le_pow_right z1w (by rw[List.length_take];omega));have l:BB ^ j*(nth xs j+1)<=BB ^ j*nth c j:=Nat.mul_le_mul_left _ d;rw[Nat.mul_add] at l;omega
theorem x0y {m n:Nat} (h:(toB m).length<(toB n).length):m<n:=by
 rcases Nat.lt_or_ge m n with c|c
 ·exact c
 have:=z2i c;omega
def CmpEnd (m n:Nat) (w:World) (e:Ending) (w':World):Prop:=e=.returned (.int .i64 (cmpN m n))/\Below w.heap.size w w'
theorem cmpint (x y:Nat) (w:World):Calls prog 230 #[.int .i64 (x:Int),.int .i64 (y:Int)] w fun e w'=>e=.returned (.int .i64 (cmpN x y))/\w=w':=by
 refine(Tryz.cmp_Compare_int x y w).mono fun e w' h=>⟨?_,h.2.symm⟩;rw[h.1]
 apply z5j
 unfold Lib.compareInt cmpN
 repeat' split
 all_goals first|rfl|omega
theorem z5v (vx Y:Value) (m n:Nat) (w:World) (U:Sl w .u64 vx (toB m)) (S:Sl w .u64 Y (toB n)) :
  Calls prog 220 #[vx,Y] w (CmpEnd m n w):=by
 obtain⟨ax,cx,bx,ox,rfl,A,T,I,N,d⟩:=U.open;obtain⟨ay,cy,R,oy,rfl,z,Z,G,P,c⟩:=S.open;unfold maxLen at I G;clear U S;by_cases L:(toB m).length=(toB n).length
 ·have H:(((toB m).length:Int) != ((toB n).length:Int))=false:=by rw[L];simp
  go_enter func220,ntmps220
  have s:=qh L;clear L;go_wp2;clear H
  go_loopw [19] (fun i wr=>∃ k:Nat,k<=(toB m).length/\i=.int .i64 k/\(∀ j,(toB m).length-1-k<j->j<(toB m).length->nth (toB m) j=nth (toB n) j)/\(k=(toB m).length->0<k->nth (toB m) 0=nth (toB n) 0)/\Below w.heap.size w wr) (fun i _=>(toB m).length-(intOf i).toNat)
  case atStart=>exact⟨0,Nat.zero_le _,rfl,fun j D C=>by omega,fun _ h=>absurd h (Nat.lt_irrefl _),blr⟩
  obtain⟨k,hk,rfl,F,o,hb⟩:=hrel;have K:=qh F;clear F;have Q:=qh o;clear o;have B:=qh hb;clear hb;by_cases a2:k<(toB m).length
  ·obtain rfl:=A (by omega);obtain rfl:=z (by have:=s.out;omega);have c1:=(B.out.cell (p:=⟨bx,ox+((toB m).length-1-k),none⟩) (N (by omega))).trans (d ((toB m).length-1-k) (by omega));have c2:=(B.out.cell (p:=⟨R,oy+((toB m).length-1-k),none⟩) (P (by have:=s.out;omega))).trans (c ((toB m).length-1-k) (by have:=s.out;omega));have a1:(((toB m).length:Int)-1-(k:Int))<((toB n).length:Int):=by have:=s.out;omega
   have X:0<=(((toB m).length:Int)-1-(k:Int)):=by omega
   clear A z d c
   rcases Nat.lt_trichotomy (nth (toB m) ((toB m).length-1-k)) (nth (toB n) ((toB m).length-1-k)) with g|g|g
   ·have u:=z8b g;have l:cmpN m n=-1:=z8b (by
     have:=y6d (z0x m) s.out ((toB m).length-1-k) (fun i D C=>K.out i D C) g
     rwa [z0z,z0z] at this)
    clear g;have J:=qh l;clear l;have E:=qh u;clear u
    go_wp2_with fail
    go_quiet ((go_at_call 231;exact Calls.quiet_of_same ((x1d _ _ _).mono fun e O h=>⟨by rw[h.1,E.out],h.2.symm⟩)))
    go_wp2;go_ret;exact⟨z5j J.out.symm,below_drewN B.out _⟩
   ·have u:=y0y g;have W:=qh g;clear g;have E:=qh u;clear u
    go_wp2_with fail
    go_quiet ((go_at_call 231;exact Calls.quiet_of_same ((x1d _ _ _).mono fun e O h=>⟨by rw[h.1,E.out],h.2.symm⟩)))
    go_wp2;go_roundw
    case rel =>
     refine⟨k+1,by omega,by go_num,fun j D C=>?_,fun D _=>?_,below_drewN B.out _⟩
     ·by_cases e:j=(toB m).length-1-k
      ·rw[e];exact W.out
      exact K.out j (by omega) C
     have:=W.out
     rwa [show (toB m).length-1-k=0 by omega] at this
    simp[intOf];omega
   have u:=z8c g;have l:cmpN m n=1:=z8c (by
    have:=y6d (z0x n) s.out.symm ((toB m).length-1-k) (fun i D C=>(K.out i D (by rw[s.out];exact C)).symm) g
    rwa [z0z,z0z] at this)
   clear g;have J:=qh l;clear l;have E:=qh u;clear u
   go_wp2_with fail
   go_quiet ((go_at_call 231;exact Calls.quiet_of_same ((x1d _ _ _).mono fun e O h=>⟨by rw[h.1,E.out],h.2.symm⟩)))
   go_wp2;go_ret;exact⟨z5j J.out.symm,below_drewN B.out _⟩
  go_wp2;go_ret;have l:cmpN m n=0:=y0y (by
   have e:toB m=toB n:=y2f s.out (fun j hj=>by
    by_cases h0:j=0
    ·subst h0;exact Q.out (by omega) (by omega)
    exact K.out j (by omega) hj)
   rw[<- z0z m,e,z0z])
  exact⟨z5j l.symm,B.out⟩
 have H:(((toB m).length:Int) != ((toB n).length:Int))=true:=by rw[bne_iff_ne];omega
 have l:cmpN (toB m).length (toB n).length=cmpN m n:=by
  rcases Nat.lt_or_ge (toB m).length (toB n).length with h|h
  ·rw[z8b h,z8b (x0y h)]
  rw[z8c (show (toB n).length<(toB m).length by omega),z8c (x0y (by omega))]
 have J:=qh l;clear l;clear L A z d c
 go_enter func220,ntmps220
 go_wp2_with (go_at_call 230;refine(cmpint _ _ _).mono ?_;rintro e O ⟨rfl,rfl⟩)
 go_ret;exact⟨z5j J.out,blr⟩
end
section
def padj:Nat->Nat->List UInt8|0,_=>[] | j+1,b=>padj j (b / 10)++[UInt8.ofNat (48+b % 10)]
theorem v8t (j:Nat):∀ (n b:Nat),1<=n->b<10 ^ j->dec (n*10 ^ j+b)=dec n++padj j b:=by
 induction j with
 | zero=>intro n b _ hb;simp at hb;subst hb;simp[padj]
 | succ j ih =>
  intro n b c hb;have h:10<=n*10 ^ (j+1)+b:=by
   have:1*10 ^ (j+1)<=n*10 ^ (j+1):=Nat.mul_le_mul_right _ c;have:1<=10 ^ j:=Nat.pow_pos (by omega);rw[Nat.pow_succ] at *;omega
  rw[y1r (by omega)];have d:(n*10 ^ (j+1)+b) / 10=n*10 ^ j+b / 10:=by rw[Nat.pow_succ,<- Nat.mul_assoc];omega
  have g:(n*10 ^ (j+1)+b) % 10=b % 10:=by rw[Nat.pow_succ,<- Nat.mul_assoc];omega
  rw[d,g,ih n (b / 10) c (by rw[Nat.pow_succ] at hb;omega)];simp[padj]
theorem v1r (j:Nat):padj j 0=List.replicate j 48:=by
 induction j with
 | zero=>rfl
 | succ j ih=>simp only[padj,Nat.zero_div,Nat.zero_mod,ih];rw[List.replicate_succ'];rfl
theorem v8j (j:Nat):∀ b,1<=j->b<10 ^ j->padj j b=List.replicate (j-(dec b).length) 48++dec b:=by
 induction j with
 | zero=>intro b h;omega
 | succ j ih =>
  intro b _ hb;by_cases h:b<10
  ·simp only[padj];rw[z2s h,Nat.div_eq_of_lt h,v1r,Nat.mod_eq_of_lt h];simp
  have d:1<=j:=by
   rcases Nat.eq_zero_or_pos j with c|c
   ·subst c;simp at hb;omega
   exact c
  simp only[padj];rw[ih (b / 10) d (by rw[Nat.pow_succ] at hb;omega),y1r h];simp
theorem x7r {n b:Nat} (hn:1<=n) (hb:b<BB):dec (b+BB*n)=dec n++(List.replicate (9-(dec b).length) 48++dec b):=by
 rw[z0r] at *;have h:b+1000000000*n=n*10 ^ 9+b:=by omega
 rw[h,v8t 9 n b hn (by omega),v8j 9 b (by omega) (by omega)]
theorem v7f {b:Nat} (hb:b<BB):(dec b).length<=9:=by rw[z0r] at hb;exact z3q.2 ⟨by omega,by omega⟩
noncomputable def topB (n k:Nat):List UInt8:=if k=0 then [] else dec (bval ((toB n).drop ((toB n).length-k)))
theorem x0q (n:Nat):topB n 0=[]:=rfl
theorem y4i (xs:List Nat) (k:Nat) (c:k<xs.length):bval (xs.drop (xs.length-(k+1)))=nth xs (xs.length-1-k)+BB*bval (xs.drop (xs.length-k)):=by
 rw[List.drop_eq_getElem_cons (by omega),show xs.length-(k+1)+1=xs.length-k by omega];simp only[bval];rw[y1t xs _ (by omega)]
 congr 2
 omega
theorem v6i (n:Nat) (h:n≠0):topB n 1=dec (nth (toB n) ((toB n).length-1)):=by
 have:=y2c h;unfold topB;rw[if_neg (by omega),y4i (toB n) 0 (by omega),Nat.sub_zero,Nat.sub_zero,List.drop_length];simp[bval]
theorem v7b (n:Nat) (h:n≠0) (k:Nat) (g:1<=k) (d:k<=(toB n).length):1<=bval ((toB n).drop ((toB n).length-k)):=by
 induction k with
 | zero=>omega
 | succ k ih =>
  rw[y4i (toB n) k d]
  rcases Nat.eq_zero_or_pos k with c|c
  ·subst c;rw[Nat.sub_zero];have:=y8c h;omega
  have:=ih c (by omega);have:BB*1<=BB*bval ((toB n).drop ((toB n).length-k)):=Nat.mul_le_mul_left _ this;have:=z1w;omega
theorem x9a (n:Nat) (h:n≠0) (k:Nat) (c:1<=k) (d:k<(toB n).length) :
  topB n (k+1)=topB n k++(List.replicate (9-(dec (nth (toB n) ((toB n).length-1-k))).length) 48++dec (nth (toB n) ((toB n).length-1-k))):=by
 unfold topB;rw[if_neg (by omega),if_neg (by omega),y4i (toB n) k d,x7r (v7b n h k c (by omega)) (z0x n _)]
theorem x4v (n:Nat) (h:n≠0):topB n (toB n).length=dec n:=by
 have:=y2c h;unfold topB;rw[if_neg (by omega),Nat.sub_self,List.drop_zero,z0z]
theorem x4m (n k:Nat):(topB n k).length<=9*k:=by
 unfold topB
 split
 ·simp
 have c:Small ((toB n).drop ((toB n).length-k)):=fun i=>by rw[y3a];exact z0x n _
 have d:=z3z c;refine z3q.2 ⟨Nat.lt_of_lt_of_le d ?_,by omega⟩;rw[pow9];exact Nat.pow_le_pow_right z1w (by rw[List.length_drop];omega)
end
section
open Go.RowKit Go.Sort
def Tab (w:World):Prop:=Lib.TabIs prog w "internal/strconv.uint64pow10" .u64 Lib.pow10Tab
theorem Tab.below {B:Nat} {w c:World} (h:Tab w) (hb:Below B w c) (d:w.heap.size<=B):Tab c:=(Lib.tabBelow_of_tabIs h) c (hb.mono d)
theorem below_grow {B:Nat} {a w:World} (h:Below B a w) (os:Array Obj) (c:B<=w.heap.size):Below B a (grow w os) :=
 h.trans ⟨rfl,rfl,rfl,by simp[grow],fun k d=>by
  show (w.heap++os)[k]?=_;rw[Array.getElem?_append_left (by omega)]⟩
abbrev encB:UInt8->Value:=fun b=>.int .u8 (b.toNat:Int)
theorem holds_zero0 (w:World) (T:TypeId) (c:Nat) (h:c<=24):Holds encB (w.alloc (.cells Lib.zeros24 T)) w.heap.size 0 (Array.replicate c (0:UInt8)):=fun j d=>by
 have g:j<c:=by simpa using d
 refine⟨?_,World.frozen?_alloc_new _ _ _ _⟩;rw[World.cell?_alloc_new,Lib.zeros24_at _ (by omega),getElem!_pos _ j d];simp
theorem v5m (w:World) (o:Obj) (d:Array UInt8) (k:Nat):∃ os,(putRow encB (w.alloc o) w.heap.size 0 d).drewN k=grow (w.drewN k) os:=by
 rw[alloc_eq_grow];obtain⟨c,_,e⟩:=putRow_grow_new encB w #[o] w.heap.size 0 d nlr;exact⟨c,by rw[e];rfl⟩
set_option maxRecDepth 100000 in
theorem v2m (u:Nat) (A:u<18446744073709551616) (w:World) (c:Tab w) :
  Calls prog 243 #[.int .u64 (u:Int),.int .i64 10] w fun e w'=>e=.returned (.string (str (dec u)))/\Below w.heap.size w w':=by
 by_cases F:u<100
 ·go_enter func243,ntmps243
  go_wp2_with (go_at_call 253;refine(Tryz.internal_strconv_small u F _).mono ?_;rintro e w' ⟨rfl,rfl⟩)
  go_ret;exact⟨rfl,blr⟩
 have p:1<=u:=by omega
 have s:Lib.nDigits u<=20:=Lib.nDigits_le20 u A;have i:prog.arrayLen 234=24:=by simp[Program.arrayLen,underlying234]
 have B:∀ W,(Instr.sliceAt 234 (.pointer (some ⟨w.heap.size,0,none⟩)) none (some (.int .i64 (Lib.nDigits u:Int))) none).run prog W=.ok (.slice (some ⟨w.heap.size,0,none⟩) (Lib.nDigits u) 24) W:=fun W=>by
  rw[run_sliceAt_array_h W 234 ⟨w.heap.size,0,none⟩ (by simp[Program.arrayLen,Program.elem,underlying234]) .i64 (Lib.nDigits u:Int) (by omega) (by rw[i];omega)];go_simp
 have g:=holds_zero0 w 234 (Lib.nDigits u) (by omega);have d:=Tryz.internal_strconv_formatBase10 w.heap.size 0 24 u (Array.replicate (Lib.nDigits u) 0) (w.alloc (.cells Lib.zeros24 234)) g (by rw[Array.size_replicate];exact Lib.lt_pow_nDigits u) A (by rw[Array.size_replicate];omega);rw[Array.size_replicate] at d;have o:=qh g;clear g i;have E:=qh c;clear c
 go_enter func243,ntmps243
 go_wp2_with (go_at_call 254;refine(Tryz.internal_strconv_numDigits u p A _ (Lib.tabIs_alloc E.out _)).mono ?_;rintro e w' ⟨rfl,rfl⟩)
 refine d.mono ?_;rintro e w' ⟨rfl,k,H,l,rfl,m⟩;have C:(convert 175 9 (.slice (some ⟨w.heap.size,0,none⟩) (Lib.nDigits u) 24)).run prog ((putRow encB (w.alloc (.cells Lib.zeros24 234)) w.heap.size 0 l).drewN k)=.ok (.string ⟨(Lib.decDigits u).toArray⟩) ((putRow encB (w.alloc (.cells Lib.zeros24 234)) w.heap.size 0 l).drewN k):=by
  have h:=run_convert_bytes_back (P:=prog) ((putRow encB (w.alloc (.cells Lib.zeros24 234)) w.heap.size 0 l).drewN k) 175 9 5 ⟨w.heap.size,0,none⟩ 24 (Lib.decDigits u) underlying175 underlying5 underlying9 (fun j z=>by
   rw[Lib.row_is_numeral m j z,Lib.add_plain,World.cell?_drewN];exact cell?_putRow encB _ w.heap.size 0 _ l o.out (by rw[m.size,Array.size_replicate]) j (by rw[m.size];rw[Lib.decDigits_length] at z;exact z))
  rw[Lib.decDigits_length] at h;exact h
 have G:=qh m;clear m;go_wp2;go_ret;obtain⟨os,D⟩:=v5m w (.cells Lib.zeros24 234) l k;refine⟨rfl,?_⟩;have:=below_grow (below_drewN (Below.refl w.heap.size w) k) os nlr;rw[<- D] at this;exact this
theorem u2b (u:Nat) (h:u<18446744073709551616) (w:World) (c:Tab w) :
  Calls prog 232 #[.int .u64 (u:Int),.int .i64 10] w fun e w'=>e=.returned (.string (str (dec u)))/\Below w.heap.size w w':=by
 have d:=qh c;clear c
 go_enter func232,ntmps232
 go_wp2_with fail
 refine(v2m u h w d.out).mono ?_;rintro e w' ⟨rfl,hb⟩;have g:=qh hb;clear hb;go_wp2;go_ret;exact⟨rfl,g.out⟩
end
section
open Go.RowKit
abbrev TB:TypeId:=220
abbrev TU8:TypeId:=5
theorem y5c {B b u:Nat} {p:Value} {m:List Value} {w o:World} (h:Lib.BuilderAt TB TU8 B b p m w) (hb:Below u w o) (E:w.heap.size<=u):Lib.BuilderAt TB TU8 B b p m o:=by
 obtain⟨z,v,s,c,l⟩:=h;have C:=(Array.getElem?_eq_some_iff.1 s).1;refine⟨z,v,by rw[hb.block b (by omega)];exact s,⟨c.1,?_⟩,l⟩
 rcases c.2 with A|⟨g,k,j,rfl,D,i,d⟩
 ·exact .inl A
 have:=(Array.getElem?_eq_some_iff.1 i).1;exact .inr ⟨g,k,j,rfl,D,by rw[hb.block g (by omega)];exact i,d⟩
theorem z9v {B b d:Nat} {g:List Value} {w c:World} (h:Lib.IsBuilder TB TU8 B b g w) (hb:Below d w c) (i:w.heap.size<=d):Lib.IsBuilder TB TU8 B b g c:=by
 rcases h with h|h
 ·exact .inl (y5c h hb i)
 exact .inr (y5c h hb i)
theorem byteCells_append (l r:List UInt8):Lib.byteCells l++Lib.byteCells r=Lib.byteCells (l++r):=by simp[Lib.byteCells]
theorem z6f (l:List UInt8):Lib.strCells (str l)=Lib.byteCells l:=by simp[Lib.strCells,Lib.byteCells,str]
def TextEnd (n:Nat) (w:World) (e:Ending) (w':World):Prop:=e=.returned (.string (str (dec n)))/\Below w.heap.size w w'
theorem x7u (d:Value) (w:World) (g:Sl w .u64 d (toB 0)):Calls prog 221 #[d] w (TextEnd 0 w):=by
 obtain⟨i,h,rfl⟩:=g.shape;have c:(toB 0).length=0:=rfl;rw[c];clear c g
 go_enter func221,ntmps221
 go_wp2;go_ret;exact⟨v1k (by rw[z2s (by omega)];rfl),blr⟩
theorem x8b (w:World):Lib.IsBuilder TB TU8 w.heap.size w.heap.size (Lib.byteCells []) (w.alloc (.cells #[.pointer none,.slice none 0 0] TB)) :=
 .inl ⟨nlr,.slice none 0 0,Go.heap_alloc_new w _,World.ownsRow_nil _ _ _ _,by simp[Value.ownBlock]⟩
theorem rep48 (c:Nat):(⟨(Lib.repeatL (⟨#[48]⟩:ByteArray).data.toList c).toArray⟩:ByteArray)=str (List.replicate c 48):=by
 have:=Lib.repeatL_replicate 48 1 c;simp at this;show str (Lib.repeatL [48] c)=_;rw[this]
theorem v4f (vx:Value) (n:Nat) (h0:n≠0) (w:World) (G:Sl w .u64 vx (toB n)) (lx:(toB n).length<=100000) (ht:Tab w):Calls prog 221 #[vx] w (TextEnd n w):=by
 obtain⟨ax,cx,bx,ox,rfl,S,a6,J,P,g⟩:=G.open;have hl:=y2c h0;obtain rfl:=S hl;have U:=P hl;have a3:(((toB n).length:Int)==0)=false:=by rw[beq_eq_false_iff_ne];omega
 have HT:=qh ht;clear ht;have H0:=qh h0;clear h0;unfold maxLen at J;clear G S P
 go_enter func221,ntmps221
 go_wp2;clear a3
 go_loopw [11] (fun i wr=>∃ k:Nat,k<=(toB n).length/\i=.int .i64 k/\Lib.IsBuilder TB TU8 w.heap.size w.heap.size (Lib.byteCells (topB n k)) wr/\Below w.heap.size w wr) (fun i _=>(toB n).length-(intOf i).toNat)
 case atStart=>exact⟨0,Nat.zero_le _,rfl,x8b w,blr.alloc nlr _⟩
 obtain⟨k,hk,rfl,z,hb⟩:=hrel;have Z:=qh z;clear z;have F:=qh hb;clear hb;have E:=F.out.size;by_cases a1:k<(toB n).length
 ·have c1:=(F.out.cell (p:=⟨bx,ox+((toB n).length-1-k),none⟩) U).trans (g ((toB n).length-1-k) (by omega));have s:=z0x n ((toB n).length-1-k);have D:=v7f s;have A:=y8b (nth (toB n) ((toB n).length-1-k));have K:0<=(((toB n).length:Int)-1-(k:Int)):=by omega
  obtain⟨x,G⟩:=exq (nth (toB n) ((toB n).length-1-k));rw[<- G] at c1 s D A;have W:=u2b x (by rw[z0r] at s;omega) wr (HT.out.below F.out nlr);have O:=qh W;clear W;have b1:=x4m n k;have b0:(str (dec x)).size<=9:=by rw[z1f];exact D
  have a7:1<=(str (dec x)).size:=by rw[z1f];exact A
  have HX:=qh G;clear G;clear g s A D;by_cases I:k=0
  ·subst I;rw[Nat.sub_zero] at c1;clear K
   go_wp2_with fail
   refine O.out.mono ?_;rintro e X ⟨rfl,c⟩;have l:=z9v Z.out c nlr;have B:=qh l;clear l;have d:=qh c;clear c;have Q:=d.out.size
   go_wp2_with fail
   refine(Tryz.Builder_WriteString w.heap.size w.heap.size _ (str (dec x)) X B.out (by rw[x0q];simp[Lib.byteCells];omega) (by omega)).mono ?_;rintro e w2 ⟨rfl,j,h⟩;have C:=qh j;clear j;have u:=qh h;clear h;go_wp2;go_roundw
   case rel =>
    refine⟨1,by omega,rfl,.inr ?_,F.out.trans ((d.out.mono E).trans u.out)⟩;have:=C.out;rw[x0q,z6f,byteCells_append,HX.out,Nat.sub_zero,List.nil_append] at this;rw[v6i n H0.out];exact this
   simp[intOf];omega
  have b2:0<k:=by omega
  clear I
  go_wp2_with fail
  refine O.out.mono ?_;rintro e X ⟨rfl,c⟩;have l:=z9v Z.out c nlr;have B:=qh l;clear l;have d:=qh c;clear c;have Q:=d.out.size
  go_wp2_with fail
  have e9:(9-((str (dec x)).size:Int))=((9-(str (dec x)).size:Nat):Int):=by omega
  rw[e9];clear e9;refine(Tryz.strings_Repeat ⟨#[48]⟩ (9-(str (dec x)).size) X (by omega) (by show 1*(9-(str (dec x)).size)<=140737488355328;omega)).mono ?_;rintro e w2 ⟨rfl,h⟩;rw[rep48];have N:=z9v B.out h nlr;have C:=qh N;clear N;have u:=qh h;clear h;have a8:=u.out.size
  go_wp2_with fail
  refine(Tryz.Builder_WriteString w.heap.size w.heap.size _ (str (List.replicate (9-(str (dec x)).size) 48)) w2 C.out (by rw[Lib.byteCells_length,z1f,List.length_replicate];omega) (by omega)).mono ?_;rintro e w3 ⟨rfl,m,R⟩;have a2:=qh m;clear m;have L:=qh R;clear R;have a9:=L.out.size
  go_wp2_with fail
  refine(Tryz.Builder_WriteString w.heap.size w.heap.size _ (str (dec x)) w3 (.inr a2.out) (by rw[List.length_append,Lib.byteCells_length,z6f,Lib.byteCells_length,List.length_replicate];omega) (by omega)).mono ?_;rintro e w4 ⟨rfl,o,T⟩;have Y:=qh o;clear o;have a5:=qh T;clear T;go_wp2;go_roundw
  case rel =>
   refine⟨k+1,by omega,by go_num,.inr ?_,F.out.trans ((d.out.mono E).trans ((u.out.mono (by omega)).trans (L.out.trans a5.out)))⟩;have:=Y.out;rw[z6f,z6f,byteCells_append,byteCells_append,z1f,List.append_assoc,HX.out] at this;rw[x9a n H0.out k (by omega) a1];exact this
  simp[intOf];omega
 go_wp2_with fail
 have H:k=(toB n).length:=by omega
 refine(Tryz.Builder_String_any w.heap.size w.heap.size (topB n k) wr Z.out E).mono ?_;rintro e X ⟨rfl,c⟩;have a4:=qh H;clear H;have d:=qh c;clear c;go_wp2;go_ret;exact⟨v1k (by rw[a4.out,x4v n H0.out];rfl),F.out.trans d.out⟩
theorem y0p (c:Value) (n:Nat) (w:World) (g:Sl w .u64 c (toB n)) (h:(toB n).length<=100000) (i:Tab w):Calls prog 221 #[c] w (TextEnd n w):=by
 by_cases d:n=0
 ·subst d;exact x7u c w g
 exact v4f c n d w g h i
end
section
open Go.RowKit
theorem z8k (s:ByteArray) (h:0<s.size):s.toList.isEmpty=false:=by
 rw[Lib.toList_data];cases c:s.data.toList with
 | nil =>
      have:s.size=0:=by rw[<- z1n,bts,c];rfl
      omega
 | cons a l=>rfl
theorem y1k (s:ByteArray) (h:0<s.size):¬ s.toList=[]:=by
 have:=z8k s h;intro e;rw[e] at this;simp at this
theorem u4i (s:ByteArray) (h:s.size=0):s.toList=[]:=by
 rw[Lib.toList_data];exact List.length_eq_zero_iff.1 (by have:=z1n s;unfold bts at this;omega)
theorem v9t (c:UInt8) (h:c≠48):((c.toNat:Int)==48)=false:=by
 rw[beq_eq_false_iff_ne];intro e;apply h;apply UInt8.toNat_inj.1;show c.toNat=48;omega
theorem v3e {c:UInt8} (d:(48:Int)<=(c.toNat:Int)) (g:(c.toNat:Int)<=57):dgt c=true:=by
 simp[dgt];omega
theorem u3h {c:UInt8} (d:(c.toNat:Int)<48):dgt c=false:=by simp[dgt];omega
theorem u4c {c:UInt8} (d:(57:Int)<(c.toNat:Int)):dgt c=false:=by simp[dgt];omega
theorem x7g (s:ByteArray) (w:World) (m:1<=s.size) (F:s.size<=1000) (z:s.size=1\/(bts s).headD 0≠48) :
  Calls prog 204 #[.string s] w fun e w'=>e=.returned (.bool (dgts (bts s)))/\w=w':=by
 have u:s.toList.isEmpty=false:=z8k s m;have A:¬ s.toList=[]:=y1k s m;have C:0<s.size:=by omega
 have B:decide ((1000:Int)<(s.size:Int))=false:=by simp;omega
 by_cases G:s.size=1
 all_goals
  have j:1<s.size->((s[0].toNat:Int)==48)=false:=fun h=>v9t _ (by
                                            rw[<- y9r s C];rcases z with g|g;· omega
                                            exact g)
  try have D:=j (by omega)
  clear j
  go_enter func204,ntmps204
  go_wp2;clear A u B
  go_loop [23] (fun i=>∃ k:Nat,k<=s.size/\i=.int .i64 k/\dgts ((bts s).take k)=true) (fun i=>s.size-(intOf i).toNat)
  case atStart=>exact⟨0,Nat.zero_le _,rfl,rfl⟩
  obtain⟨k,E,rfl,l⟩:=hrel;have o:=qh l;clear l;by_cases c:k<s.size
  ·go_wp2
   ·have d:(57:Int)<(s[k].toNat:Int):=by omega
    go_ret;exact⟨z0w (y5v s k c (u4c d)).symm,rfl⟩
   ·have d:(48:Int)<=(s[k].toNat:Int):=by omega
    have p:(s[k].toNat:Int)<=57:=by omega
    go_round
    case rel=>exact⟨k+1,by omega,by go_num,by rw[y9p s k c,z7n,o.out,v3e d p];rfl⟩
    simp[intOf];omega
   have d:(s[k].toNat:Int)<48:=by assumption
   go_ret;exact⟨z0w (y5v s k c (u3h d)).symm,rfl⟩
  go_wp2;go_ret;exact⟨z0w (by rw[<- o.out,List.take_of_length_le (by rw[z1n];omega)]),rfl⟩
theorem v2i (s:ByteArray) (w:World) (o:s.size<=maxLen) :
  Calls prog 204 #[.string s] w fun e w'=>e=.returned (.bool (z1t (bts s)))/\w=w':=by
 unfold maxLen at o;by_cases j:s.size=0
 ·have c:z1t (bts s)=false:=by simp[z1t,z1n,j]
  have i:=u4i s j;have g:=qh c;clear c
  go_enter func204,ntmps204
  go_wp2;go_ret;exact⟨z0w g.out.symm,rfl⟩
 by_cases A:1000<s.size
 ·have c:z1t (bts s)=false:=by simp[z1t,z1n];intros;omega
  have g:=qh c;clear c;have c:s.toList.isEmpty=false:=z8k s (by omega);have i:¬ s.toList=[]:=y1k s (by omega)
  go_enter func204,ntmps204
  go_wp2;go_ret;exact⟨z0w g.out.symm,rfl⟩
 by_cases d:s.size=1\/(bts s).headD 0≠48
 ·refine(x7g s w (by omega) (by omega) d).mono fun e w' ⟨l,u⟩=>⟨?_,u⟩;rw[l];have:z1t (bts s)=dgts (bts s):=by
   cases k:dgts (bts s) with
   | false=>simp[z1t,k]
   | true=>exact x4z (by rw[z1n];omega) (by rw[z1n];omega) (by rw[z1n];exact d) k
  rw[this]
 have c:z1t (bts s)=false:=by
  cases m:z1t (bts s) with
  | false=>rfl
  | true=>exact absurd (by have:=(z4h m).2.2.1;rw[z1n] at this;exact this) d
 have g:=qh c;clear c;have p:0<s.size:=by omega
 have c:s.toList.isEmpty=false:=z8k s (by omega);have i:¬ s.toList=[]:=y1k s (by omega);have z:((s[0].toNat:Int)==48)=true:=by
  have:(bts s).headD 0=48:=by
   by_cases h:(bts s).headD 0=48
   ·exact h
   exact absurd (Or.inr h) d
  rw[y9r s p] at this;rw[this];rfl
 have B:1<s.size:=by
  by_cases h:s.size=1
  ·exact absurd (Or.inl h) d
  omega
 have C:decide ((1000:Int)<(s.size:Int))=false:=by simp;omega
 clear d
 go_enter func204,ntmps204
 go_wp2;go_ret;exact⟨z0w g.out.symm,rfl⟩
end
section
open Go.RowKit
def PairEnd (r:ByteArray × Nat) (w:World) (e:Ending) (w':World):Prop:=e=.returned (.tuple #[.string r.1,.int .i64 (r.2:Int)])/\Below w.heap.size w w'
def limS (n:Nat):ByteArray × Nat:=if (dec n).length<=1000 then (str (dec n),0) else (str [],2)
def vld (s:ByteArray):Bool:=z1t (bts s)
def val (s:ByteArray):Nat:=num (bts s)
def addF (s t:ByteArray):ByteArray × Nat:=if vld s&&vld t then limS (val s+val t) else (str [],1)
def subF (s t:ByteArray):ByteArray × Nat:=if vld s&&vld t then (if val s<val t then (str [],4) else (str (dec (val s-val t)),0)) else (str [],1)
def mulF (s t:ByteArray):ByteArray × Nat:=if vld s&&vld t then limS (val s*val t) else (str [],1)
def cmpF (s t:ByteArray):Int:=if vld s&&vld t then cmpN (val s) (val t) else 0
theorem u4q {s c:ByteArray} {a b:Int} (h:s=c) (d:a=b):Ending.returned (.tuple #[.string s,.int .i64 a])=.returned (.tuple #[.string c,.int .i64 b]):=by rw[h,d]
theorem x3e {s:ByteArray} (h:vld s=true):1<=s.size/\s.size<=1000:=by
 obtain⟨c,d,_⟩:=z4h h;rw[z1n] at c d;exact⟨c,d⟩
theorem x5b {s:ByteArray} (h:vld s=true):dgts (bts s)=true:=(z4h h).2.2.2
theorem x6i {l:List UInt8} (h:dgts l=true) (k:Nat) (d:l.length<=9*k):num l<BB ^ k:=by
 have c:10 ^ l.length<=10 ^ (9*k):=Nat.pow_le_pow_right (by omega) d;rw[pow9] at c;exact Nat.lt_of_lt_of_le (v8h _ h) c
theorem x8w {s:ByteArray} (h:vld s=true):val s<BB ^ 112:=x6i (x5b h) 112 (by rw[z1n];have:=x3e h;omega)
theorem z1s {s:ByteArray} (h:vld s=true):(toB (val s)).length<=112:=z6q (x8w h)
theorem z3x (s:ByteArray) (w:World) (c:s.size<=maxLen) :
  Calls prog 204 #[.string s] w fun e w'=>e=.returned (.bool (vld s))/\w=w':=v2i s w c
theorem z4w (s:ByteArray) (w:World) (h:vld s=true):Calls prog 205 #[.string s] w (BlocksEnd (val s) w):=x5q s w (x3e h).2 (x5b h)
theorem y4d (j:Value) (n:Nat) (w:World) (l:Sl w .u64 j (toB n)) (s:(toB n).length<=100000) (m:Tab w) :
  Calls prog 206 #[j] w (PairEnd (limS n) w):=by
 have g:=x4m n (toB n).length;have p:(dec n).length<=900000\/n=0:=by
  by_cases k:n=0
  ·exact .inr k
  rw[x4v n k] at g;exact .inl (by omega)
 have c:(dec n).length<=900000:=by
  rcases p with h|h
  ·exact h
  subst h;rw[z2s (by omega)];simp
 clear g p;have A:(str (dec n)).size<=900000:=by rw[z1f];exact c
 have u:=y0p j n w l s m;have o:=qh u;clear u l m s;by_cases h:(dec n).length<=1000
 ·have d:limS n=(str (dec n),0):=by unfold limS;rw[if_pos h]
  have B:(str (dec n)).size<=1000:=by rw[z1f];exact h
  rw[d];clear d h c
  go_enter func206,ntmps206
  go_wp2_with fail
  refine o.out.mono ?_;rintro e z ⟨rfl,hb⟩;have i:=qh hb;clear hb;go_wp2;go_ret2;exact⟨rfl,i.out⟩
 have d:limS n=(str [],2):=by unfold limS;rw[if_neg h]
 have B:1000<(str (dec n)).size:=by rw[z1f];omega
 rw[d];clear d h c
 go_enter func206,ntmps206
 go_wp2_with fail
 refine o.out.mono ?_;rintro e z ⟨rfl,hb⟩;have i:=qh hb;clear hb;go_wp2;go_ret2;exact⟨rfl,i.out⟩
theorem v8p (s t:ByteArray) (w:World) (Q:s.size<=maxLen) (P:t.size<=maxLen) (i:Tab w) :
  Calls prog 201 #[.string s,.string t] w (PairEnd (addF s t) w):=by
 have J:=qh i;clear i;have c1:=z3x s w Q;have c2:=z3x t w P;clear Q P;cases c:vld s with
 | false =>
  have h:addF s t=(str [],1):=by unfold addF;rw[c];rfl
  rw[h];rw[c] at c1;clear h c c2 J;have C:=qh c1;clear c1
  go_enter func201,ntmps201
  go_wp2_with fail
  refine C.out.mono ?_;rintro e D ⟨rfl,rfl⟩;go_wp2;go_ret2;exact⟨rfl,blr⟩
 | true =>
  cases d:vld t with
  | false =>
   have h:addF s t=(str [],1):=by unfold addF;rw[c,d];rfl
   rw[h];rw[c] at c1;rw[d] at c2;clear h c d J;have C:=qh c1;clear c1;have L:=qh c2;clear c2
   go_enter func201,ntmps201
   go_wp2_with fail
   refine C.out.mono ?_;rintro e D ⟨rfl,rfl⟩
   go_wp2_with fail
   refine L.out.mono ?_;rintro e D ⟨rfl,rfl⟩;go_wp2;go_ret2;exact⟨rfl,blr⟩
  | true =>
   rw[c] at c1;rw[d] at c2;have C:=qh c1;clear c1;have L:=qh c2;clear c2;have lm:=z1s c;have ln:=z1s d;have S:=z4w s w c;have U:=qh S;clear S;have R:=fun w=>z4w t w d;have B2:=qh R;clear R;have T:=qh c;clear c;have O:=qh d;clear d;have h:addF s t=limS (val s+val t):=by unfold addF;rw[T.out,O.out];rfl
   rw[h];clear h
   go_enter func201,ntmps201
   go_wp2_with fail
   refine C.out.mono ?_;rintro e D ⟨rfl,rfl⟩
   go_wp2_with fail
   refine L.out.mono ?_;rintro e D ⟨rfl,rfl⟩
   go_wp2_with fail
   refine U.out.mono ?_;rintro e w1 ⟨v1,rfl,u,k⟩;have G:=qh u;clear u;have A:=qh k;clear k;have I:=A.out.size
   go_wp2_with fail
   refine(B2.out w1).mono ?_;rintro e W ⟨X,rfl,o,B⟩;have K:=qh o;clear o;have j:=qh B;clear B;have a1:=j.out.size;have F:=qh (G.out.sl.below j.out nlr)
   go_wp2_with fail
   refine(v4u v1 X (val s) (val t) W F.out K.out.sl (by omega) (by omega)).mono ?_;rintro e Z ⟨v3,rfl,z,l⟩;have E:=qh z;clear z;have p:=qh l;clear l;have N:=qh (A.out.trans ((j.out.mono I).trans (p.out.mono (by omega))));have g:=y4d v3 (val s+val t) Z E.out.sl (by
    have c:=x8w T.out;have d:=x8w O.out;have:val s+val t<BB ^ 113:=by
     have e:BB ^ 113=BB ^ 112*BB:=Nat.pow_succ ..;rw[e];have:BB ^ 112*2<=BB ^ 112*BB:=Nat.mul_le_mul_left _ y6q;omega
    have:=z6q this;omega) (J.out.below N.out nlr)
   have HL:=qh g;clear g
   go_wp2_with fail
   refine HL.out.mono ?_;rintro e w4 ⟨rfl,m⟩;have H:=qh m;clear m;have Y:=p.out.size;go_wp2;go_ret2;exact⟨rfl,N.out.trans (H.out.mono (by omega))⟩
theorem u1k (s t:ByteArray) (w:World) (hs:s.size<=maxLen) (ht:t.size<=maxLen) (C:Tab w) :
  Calls prog 203 #[.string s,.string t] w (PairEnd (subF s t) w):=by
 have HT:=qh C;clear C;have c1:=z3x s w hs;have c2:=z3x t w ht;clear hs ht;cases p:vld s with
 | false =>
  have u:subF s t=(str [],1):=by unfold subF;rw[p];rfl
  rw[u];rw[p] at c1;clear u p c2 HT;have I:=qh c1;clear c1
  go_enter func203,ntmps203
  go_wp2_with fail
  refine I.out.mono ?_;rintro e H ⟨rfl,rfl⟩;go_wp2;go_ret2;exact⟨rfl,blr⟩
 | true =>
  cases D:vld t with
  | false =>
   have u:subF s t=(str [],1):=by unfold subF;rw[p,D];rfl
   rw[u];rw[p] at c1;rw[D] at c2;clear u p D HT;have I:=qh c1;clear c1;have T:=qh c2;clear c2
   go_enter func203,ntmps203
   go_wp2_with fail
   refine I.out.mono ?_;rintro e H ⟨rfl,rfl⟩
   go_wp2_with fail
   refine T.out.mono ?_;rintro e H ⟨rfl,rfl⟩;go_wp2;go_ret2;exact⟨rfl,blr⟩
  | true =>
   rw[p] at c1;rw[D] at c2;have I:=qh c1;clear c1;have T:=qh c2;clear c2;have lm:=z1s p;have ln:=z1s D;have b1:=z4w s w p;have B1:=qh b1;clear b1;have b2:=fun w=>z4w t w D;have B2:=qh b2;clear b2;have H1:=qh p;clear p;have H2:=qh D;clear D;by_cases k:val s<val t
   ·have u:subF s t=(str [],4):=by unfold subF;rw[H1.out,H2.out,if_pos k];rfl
    have L:cmpN (val s) (val t)=-1:=z8b k;rw[u];clear u k;have U:=qh L;clear L
    go_enter func203,ntmps203
    go_wp2_with fail
    refine I.out.mono ?_;rintro e H ⟨rfl,rfl⟩
    go_wp2_with fail
    refine T.out.mono ?_;rintro e H ⟨rfl,rfl⟩
    go_wp2_with fail
    refine B1.out.mono ?_;rintro e Z ⟨v1,rfl,o,i⟩;have E:=qh o;clear o;have l:=qh i;clear i;have G:=l.out.size
    go_wp2_with fail
    refine(B2.out Z).mono ?_;rintro e w2 ⟨S,rfl,j,z⟩;have B:=qh j;clear j;have d:=qh z;clear z;have a4:=d.out.size;have A:=qh (E.out.sl.below d.out nlr);have c:=z5v v1 S (val s) (val t) w2 A.out B.out.sl;unfold CmpEnd at c;rw[U.out] at c;have F:=qh c;clear c
    go_wp2_with fail
    refine F.out.mono ?_;rintro e w3 ⟨rfl,m⟩;have g:=qh m;clear m;go_wp2;go_ret2;exact⟨rfl,l.out.trans ((d.out.mono G).trans (g.out.mono (by omega)))⟩
   have u:subF s t=(str (dec (val s-val t)),0):=by unfold subF;rw[H1.out,H2.out,if_neg k];rfl
   have L:cmpN (val s) (val t)=0\/cmpN (val s) (val t)=1:=by
    rcases Nat.lt_or_ge (val t) (val s) with h|h
    ·exact .inr (z8c h)
    exact .inl (y0y (by omega))
   have J:val t<=val s:=by omega
   have W:=qh J;clear J;rw[u];clear u k;have X:∃ q:Int,cmpN (val s) (val t)=q/\0<=q:=by
    rcases L with h|h
    ·exact⟨0,h,by omega⟩
    exact⟨1,h,by omega⟩
   obtain⟨q,hq,a5⟩:=X;clear L;have U:=qh hq;clear hq
   go_enter func203,ntmps203
   go_wp2_with fail
   refine I.out.mono ?_;rintro e H ⟨rfl,rfl⟩
   go_wp2_with fail
   refine T.out.mono ?_;rintro e H ⟨rfl,rfl⟩
   go_wp2_with fail
   refine B1.out.mono ?_;rintro e Z ⟨v1,rfl,o,i⟩;have E:=qh o;clear o;have l:=qh i;clear i;have G:=l.out.size
   go_wp2_with fail
   refine(B2.out Z).mono ?_;rintro e w2 ⟨S,rfl,j,z⟩;have B:=qh j;clear j;have d:=qh z;clear z;have a4:=d.out.size;have A:=qh (E.out.sl.below d.out nlr);have c:=z5v v1 S (val s) (val t) w2 A.out B.out.sl;unfold CmpEnd at c;rw[U.out] at c;have F:=qh c;clear c
   go_wp2_with fail
   refine F.out.mono ?_;rintro e w3 ⟨rfl,m⟩;have g:=qh m;clear m;have a6:=g.out.size;have N:=v0t v1 S (val s) (val t) w3 (A.out.below g.out nlr) (B.out.sl.below g.out nlr) (by omega) (by omega) W.out;have a1:=qh N;clear N
   go_wp2_with fail
   refine a1.out.mono ?_;rintro e w4 ⟨v4,rfl,R,O⟩;have Y:=qh R;clear R;have P:=qh O;clear O;have a7:=P.out.size;have HB:=qh (l.out.trans ((d.out.mono G).trans ((g.out.mono (by omega)).trans (P.out.mono (by omega)))));have K:=y0p v4 (val s-val t) w4 Y.out.sl (by have:=z2i (Nat.sub_le (val s) (val t));omega) (HT.out.below HB.out nlr);have a3:=qh K;clear K
   go_wp2_with fail
   refine a3.out.mono ?_;rintro e w5 ⟨rfl,Q⟩;have a2:=qh Q;clear Q;go_wp2;go_ret2;exact⟨rfl,HB.out.trans (a2.out.mono (by omega))⟩
def IntEnd (q:Int) (w:World) (e:Ending) (w':World):Prop:=e=.returned (.int .i64 q)/\Below w.heap.size w w'
theorem u0c (s t:ByteArray) (w:World) (I:s.size<=maxLen) (H:t.size<=maxLen) :
  Calls prog 202 #[.string s,.string t] w (IntEnd (cmpF s t) w):=by
 have c1:=z3x s w I;have c2:=z3x t w H;clear I H;cases c:vld s with
 | false =>
  have g:cmpF s t=0:=by unfold cmpF;rw[c];rfl
  rw[g];rw[c] at c1;clear g c c2;have u:=qh c1;clear c1
  go_enter func202,ntmps202
  go_wp2_with fail
  refine u.out.mono ?_;rintro e z ⟨rfl,rfl⟩;go_wp2;go_ret;exact⟨rfl,blr⟩
 | true =>
  cases d:vld t with
  | false =>
   have g:cmpF s t=0:=by unfold cmpF;rw[c,d];rfl
   rw[g];rw[c] at c1;rw[d] at c2;clear g c d;have u:=qh c1;clear c1;have G:=qh c2;clear c2
   go_enter func202,ntmps202
   go_wp2_with fail
   refine u.out.mono ?_;rintro e z ⟨rfl,rfl⟩
   go_wp2_with fail
   refine G.out.mono ?_;rintro e z ⟨rfl,rfl⟩;go_wp2;go_ret;exact⟨rfl,blr⟩
  | true =>
   rw[c] at c1;rw[d] at c2;have u:=qh c1;clear c1;have G:=qh c2;clear c2;have X:=z1s c;have U:=z1s d;have K:=z4w s w c;have L:=qh K;clear K;have J:=fun w=>z4w t w d;have R:=qh J;clear J;have T:=qh c;clear c;have O:=qh d;clear d;have g:cmpF s t=cmpN (val s) (val t):=by unfold cmpF;rw[T.out,O.out];rfl
   rw[g];clear g
   go_enter func202,ntmps202
   go_wp2_with fail
   refine u.out.mono ?_;rintro e z ⟨rfl,rfl⟩
   go_wp2_with fail
   refine G.out.mono ?_;rintro e z ⟨rfl,rfl⟩
   go_wp2_with fail
   refine L.out.mono ?_;rintro e S ⟨v1,rfl,m,j⟩;have B:=qh m;clear m;have o:=qh j;clear j;have E:=o.out.size
   go_wp2_with fail
   refine(R.out S).mono ?_;rintro e N ⟨P,rfl,l,p⟩;have F:=qh l;clear l;have h:=qh p;clear p;have Q:=h.out.size;have A:=qh (B.out.sl.below h.out nlr);have i:=z5v v1 P (val s) (val t) N A.out F.out.sl;unfold CmpEnd at i;have D:=qh i;clear i
   go_wp2_with fail
   refine D.out.mono ?_;rintro e W ⟨rfl,k⟩;have C:=qh k;clear k;go_wp2;go_ret;exact⟨rfl,o.out.trans ((h.out.mono E).trans (C.out.mono (by omega)))⟩
end
section
open Go.RowKit
theorem y1a (L:List Nat) (j v i:Nat) (h:j<L.length):nth (L.set j v) i=if i=j then v else nth L i:=by
 unfold nth;simp only[List.getD_eq_getElem?_getD,List.getElem?_set];by_cases e:j=i
 ·subst e;simp[h]
 rw[if_neg e,if_neg (fun c=>e c.symm)]
theorem z7x {L:List Nat} (h:Small L) (j v:Nat) (d:v<BB):Small (L.set j v):=fun i=>by
 by_cases c:j<L.length
 ·rw[y1a L j v i c];split
  ·exact d
  exact h i
 rw[List.set_eq_of_length_le (by omega)];exact h i
theorem v6f (L:List Nat):∀ (j v:Nat),j<L.length->bval (L.set j v)+BB ^ j*nth L j=bval L+BB ^ j*v:=by
 induction L with
 | nil=>intro j v h;simp at h
 | cons x L ih =>
  intro j v h;cases j with
  | zero=>simp only[List.set_cons_zero,bval,z7f,Nat.pow_zero];omega
  | succ j =>
   have:=ih j v (by simpa using h);simp only[List.set_cons_succ,bval,z5d,Nat.pow_succ];have e:BB*(bval (L.set j v)+BB ^ j*nth L j)=BB*(bval L+BB ^ j*v):=by rw[this]
   rw[Nat.mul_add,Nat.mul_add,<- Nat.mul_assoc,<- Nat.mul_assoc,Nat.mul_comm BB (BB ^ j)] at e;omega
theorem y5h (k:Nat):bval (List.replicate k 0)=0:=y9u (fun i=>by unfold nth;simp[List.getD_eq_getElem?_getD,List.getElem?_replicate];split<;>rfl)
theorem z8d (k:Nat):Small (List.replicate k 0):=fun i=>by
 have:nth (List.replicate k 0) i=0:=by unfold nth;simp[List.getD_eq_getElem?_getD,List.getElem?_replicate];split<;>rfl
 rw[this];exact z1w
structure MulIn (xs ys L:List Nat) (i k c:Nat):Prop where
 small:Small L
 carry:c<BB
 len:L.length=xs.length+ys.length+1
 val:bval L+BB ^ (i+k)*c=bval (xs.take i)*bval ys+BB ^ i*(nth xs i*bval (ys.take k))
structure MulOut (xs ys L:List Nat) (i:Nat):Prop where
 small:Small L
 len:L.length=xs.length+ys.length+1
 val:bval L=bval (xs.take i)*bval ys
theorem MulOut.start (xs c:List Nat):MulOut xs c (List.replicate (xs.length+c.length+1) 0) 0 :=
 ⟨z8d _,by simp,by rw[y5h];simp[bval]⟩
theorem MulOut.inner {xs c L:List Nat} {i:Nat} (h:MulOut xs c L i):MulIn xs c L i 0 0 :=
 ⟨h.small,z1w,h.len,by rw[h.val];simp[bval]⟩
theorem z9j {l c x y:Nat} (d:l<BB) (h:c<BB) (i:x<BB) (g:y<BB):l+c+x*y<1000000000*1000000000:=by
 rw[z0r] at *;have:x*y<=999999999*999999999:=Nat.mul_le_mul (by omega) (by omega);omega
theorem MulIn.step {xs d L:List Nat} {i k c:Nat} (h:MulIn xs d L i k c) (u:Small xs) (o:Small d) (hi:i<xs.length) (A:k<d.length+1) :
  MulIn xs d (L.set (i+k) ((nth L (i+k)+c+nth xs i*nth d k) % 1000000000)) i (k+1) ((nth L (i+k)+c+nth xs i*nth d k) / 1000000000):=by
 have hb:=z9j (h.small (i+k)) h.carry (u i) (o k);have j:i+k<L.length:=by rw[h.len];omega
 have m:=v6f L (i+k) ((nth L (i+k)+c+nth xs i*nth d k) % 1000000000) j;have l:=h.val;have g:=z0k d k;generalize hp:nth L (i+k)+c+nth xs i*nth d k=p at *;have z:BB ^ (i+k)*nth L (i+k)+BB ^ (i+k)*c+BB ^ (i+k)*(nth xs i*nth d k)=BB ^ (i+k)*p:=by rw[<- hp,Nat.mul_add,Nat.mul_add]
 have s:BB ^ (i+k)*p=BB ^ (i+k)*(p % 1000000000)+BB ^ (i+k)*BB*(p / 1000000000):=by
  rw[Nat.mul_assoc,<- Nat.mul_add,z0r,Nat.mod_add_div]
 refine⟨z7x h.small _ _ (by rw[z0r];exact Nat.mod_lt _ (by omega)),by rw[z0r];omega,by simp[h.len],?_⟩;rw[g,Nat.mul_add,Nat.mul_add,show i+(k+1)=i+k+1 by omega,Nat.pow_succ BB (i+k)];have e:BB ^ i*(nth xs i*(BB ^ k*nth d k))=BB ^ (i+k)*(nth xs i*nth d k):=by
  rw[Nat.pow_add,Nat.mul_left_comm (nth xs i),Nat.mul_assoc]
 rw[e];omega
theorem MulIn.done {xs d L:List Nat} {i c:Nat} (h:MulIn xs d L i (d.length+1) c) (m:Small xs) (k:Small d) (hi:i<xs.length):MulOut xs d L (i+1):=by
 refine⟨h.small,h.len,?_⟩;have g:=h.val;rw[z2r (by omega:d.length<=d.length+1)] at g;have e:bval (xs.take i)*bval d+BB ^ i*(nth xs i*bval d)=bval (xs.take (i+1))*bval d:=by
  rw[z0k,Nat.add_mul,Nat.mul_assoc]
 rw[e] at g;have l:bval (xs.take (i+1))<BB ^ (i+1):=by
  have:=z3z (z4m m (i+1));rw[List.length_take,Nat.min_eq_left (by omega)] at this;exact this
 have u:=z3z k;have o:bval (xs.take (i+1))*bval d<BB ^ (i+1)*BB ^ d.length:=by
  have p:bval (xs.take (i+1))*bval d<=bval (xs.take (i+1))*BB ^ d.length:=Nat.mul_le_mul_left _ (by omega);have s:bval (xs.take (i+1))*BB ^ d.length<BB ^ (i+1)*BB ^ d.length:=Nat.mul_lt_mul_of_pos_right l (Nat.pow_pos z1w);omega
 rw[<- Nat.pow_add,show i+1+d.length=i+(d.length+1) by omega] at o
 rcases Nat.eq_zero_or_pos c with j|j
 ·subst j;rw[Nat.mul_zero,Nat.add_zero] at g;exact g
 have:BB ^ (i+(d.length+1))*1<=BB ^ (i+(d.length+1))*c:=Nat.mul_le_mul_left _ j;omega
theorem MulOut.done {xs c L:List Nat} (h:MulOut xs c L xs.length):bval L=bval xs*bval c:=by rw[h.val,List.take_length]
theorem Own.set {w:World} {B:Nat} {e:TypeId} {k:IntKind} {g n cap:Nat} {L:List Nat} (h:Own w B e k (.slice (some ⟨g,0,none⟩) n cap) L) (hn:L.length=n) (j v:Nat) :
  Own (w.setCell ⟨g,j,none⟩ (.int k (v:Int))) B e k (.slice (some ⟨g,0,none⟩) n cap) (L.set j v):=by
 subst hn;have:=(World.ownsRow.stored h j (.int k (v:Int))).1;have c:(vals k L).set j (.int k (v:Int))=vals k (L.set j v):=by unfold vals;rw[List.map_set]
 rw[c] at this;unfold Own;rw[List.length_set];exact this
theorem Own.base {w:World} {B:Nat} {e:TypeId} {k:IntKind} {g n cap:Nat} {c:Nat} {L:List Nat} (h:Own w B e k (.slice (some ⟨g,c,none⟩) n cap) L):B<=g/\g<w.heap.size:=by
 have:=World.ownsRow.lt h g (by simp[Value.ownBlock]);exact this
theorem Own.cell {w:World} {B:Nat} {e:TypeId} {k:IntKind} {g n cap:Nat} {L:List Nat} (h:Own w B e k (.slice (some ⟨g,0,none⟩) n cap) L) (hn:L.length=n) (j:Nat) (c:j<n):w.cell? ⟨g,j,none⟩=some (.int k ((nth L j:Nat):Int)):=by
 subst hn;rw[World.ownsRow.cellAt h j (by omega),x3f k L j c]
theorem Own.free {w:World} {B:Nat} {e:TypeId} {k:IntKind} {g n cap:Nat} {L:List Nat} (h:Own w B e k (.slice (some ⟨g,0,none⟩) n cap) L) (hn:L.length=n) (j:Nat):w.frozen? ⟨g,j,none⟩=false:=by
 subst hn;exact World.ownsRow.frozenAt h j
theorem z9d (k:IntKind) (n:Nat):vals k (List.replicate n 0)=List.replicate n (.int k 0):=by simp[vals]
end
section
open Go.RowKit
set_option maxRecDepth 100000 in
theorem v9x (s t:ByteArray) (w:World) (hs:s.size<=maxLen) (ht:t.size<=maxLen) (X:Tab w) :
  Calls prog 189 #[.string s,.string t] w (PairEnd (mulF s t) w):=by
 have HT:=qh X;clear X;have c1:=z3x s w hs;have c2:=z3x t w ht;clear hs ht;cases o:vld s with
 | false =>
  have U:mulF s t=(str [],1):=by unfold mulF;rw[o];rfl
  rw[U];rw[o] at c1;clear U o c2 HT;have C1:=qh c1;clear c1
  go_enter func189,ntmps189
  go_wp2_with fail
  refine C1.out.mono ?_;rintro e w' ⟨rfl,rfl⟩;go_wp2;go_ret2;exact⟨rfl,blr⟩
 | true =>
  cases N:vld t with
  | false =>
   have U:mulF s t=(str [],1):=by unfold mulF;rw[o,N];rfl
   rw[U];rw[o] at c1;rw[N] at c2;clear U o N HT;have C1:=qh c1;clear c1;have C2:=qh c2;clear c2
   go_enter func189,ntmps189
   go_wp2_with fail
   refine C1.out.mono ?_;rintro e w' ⟨rfl,rfl⟩
   go_wp2_with fail
   refine C2.out.mono ?_;rintro e w' ⟨rfl,rfl⟩;go_wp2;go_ret2;exact⟨rfl,blr⟩
  | true =>
   rw[o] at c1;rw[N] at c2;have C1:=qh c1;clear c1;have C2:=qh c2;clear c2;have lm:=z1s o;have ln:=z1s N;have b1:=z4w s w o;have B1:=qh b1;clear b1;have b2:=fun w=>z4w t w N;have B2:=qh b2;clear b2;have H1:=qh o;clear o;have H2:=qh N;clear N;have U:mulF s t=limS (val s*val t):=by unfold mulF;rw[H1.out,H2.out];rfl
   rw[U];clear U
   go_enter func189,ntmps189
   go_wp2_with fail
   refine C1.out.mono ?_;rintro e w' ⟨rfl,rfl⟩
   go_wp2_with fail
   refine C2.out.mono ?_;rintro e w' ⟨rfl,rfl⟩
   go_wp2_with fail
   refine B1.out.mono ?_;rintro e w1 ⟨v1,rfl,e1,b0⟩;have b3:=qh e1;clear e1;have d1:=qh b0;clear b0;have f0:=d1.out.size
   go_wp2_with fail
   refine(B2.out w1).mono ?_;rintro e G ⟨v2,rfl,b4,e3⟩;have d3:=qh b4;clear b4;have a8:=qh e3;clear e3;have h5:=a8.out.size;have d0:=qh (b3.out.sl.below a8.out nlr);obtain⟨i0,f9,g7,e7,g3⟩:=info_parts y0n;have g1:=fun x=>z0x (val s) x;have a1:Small (toB (val s)):=z0x _;have a4:Small (toB (val t)):=z0x _;obtain⟨g,a3⟩:=exq (toB (val s));obtain⟨d,a5⟩:=exq (toB (val t));rw[<- a3] at d0 lm a1;rw[<- a5] at d3 ln a4;have HX:=qh a3;clear a3;have HY:=qh a5;clear a5;have Q:=qh a1;clear a1;have R:=qh a4;clear a4;clear g1 b3;obtain⟨ax,cx,bx,ox,rfl,d8,g9,c9,P,F⟩:=d0.out.open;obtain⟨ay,cy,g5,oy,rfl,d5,h0,c8,O,D⟩:=d3.out.sl.open;unfold maxLen at c9 c8;have g6:=qh F;clear F;have e5:=qh D;clear D;have g2:=qh d8;clear d8;have f7:=qh d5;clear d5;have g4:=qh P;clear P;have f1:=qh O;clear O;obtain⟨wm,d7,h,a2⟩:=run_make_full G w.heap.size 199 179 i0 (.int .u64 0) 1 underlying199 f9 g7 e7 .i64 .i64 (g.length+d.length+1) (by rw[g3];omega) (by unfold maxLen;omega) (by omega);rw[show ((g.length+d.length+1:Nat):Int)=(g.length:Int)+(d.length:Int)+1 by omega] at d7;have b7:Below w.heap.size w wm:=d1.out.trans ((a8.out.mono f0).trans (blr.grown a2 (by omega) (by simp)));have Y:Below G.heap.size G wm:=blr.grown a2 nlr (by simp);have d6:Own wm w.heap.size 179 .u64 (.slice (some ⟨G.heap.size,0,none⟩) (g.length+d.length+1) (g.length+d.length+1)) (List.replicate (g.length+d.length+1) 0):=by
    unfold Own;rw[z9d,List.length_replicate];have:=h;rw[Nat.mul_one,show (Value.int .u64 0).cells=#[Value.int .u64 0] from rfl,toList_madeCells_one] at this;exact this
   have HM:=qh b7;clear b7;have f5:=qh Y;clear Y;have f8:=qh d6;clear d6 h a2;go_wp2;clear d7
   go_loopw [34] (fun i wr=>∃ (k:Nat) (L:List Nat),k<=g.length/\i=.int .i64 k/\MulOut g d L k/\Own wr w.heap.size 179 .u64 (.slice (some ⟨G.heap.size,0,none⟩) (g.length+d.length+1) (g.length+d.length+1)) L/\Below w.heap.size w wr/\Below G.heap.size G wr)
    (fun i _=>g.length-(intOf i).toNat)
   case atStart=>exact⟨0,_,Nat.zero_le _,rfl,MulOut.start g d,f8.out,HM.out,f5.out⟩
   obtain⟨i,L,h8,rfl,l,h,J,m⟩:=hrel;have d4:=qh l;clear l;have HO:=qh h;clear h;have S:=qh J;clear J;have b9:=qh m;clear m;obtain⟨wo,rfl⟩:∃ wo:World,wo=wr:=⟨_,rfl⟩;by_cases a6:i<g.length
   ·obtain rfl:=g2.out (by omega);have P:=g4.out (by omega);go_wp2
    go_loopw [10,40] (fun c q wr=>∃ (k Z:Nat) (L:List Nat),k<=d.length+1/\q=.int .i64 k/\c=.int .u64 Z/\MulIn g d L i k Z/\Own wr w.heap.size 179 .u64 (.slice (some ⟨G.heap.size,0,none⟩) (g.length+d.length+1) (g.length+d.length+1)) L/\Below w.heap.size w wr/\Below G.heap.size G wr)
     (fun _ q _=>d.length+1-(intOf q).toNat)
    case atStart=>exact⟨0,0,L,Nat.zero_le _,rfl,rfl,d4.out.inner,HO.out,S.out,b9.out⟩
    obtain⟨k,Z,L',h6,rfl,rfl,d9,h,J,m⟩:=hrel;have u:=qh d9;clear d9;have z:=qh h;clear h;have I:=qh J;clear J;have j:=qh m;clear m;by_cases e2:k<d.length+1
    ·have H:=u.out.step Q.out R.out a6 e2;have E:=u.out.len;have a9:=qh H;clear H;have cl:=z.out.cell E (i+k) (by omega);have fl:=z.out.free E (i+k);have b6:=z9j (u.out.small (i+k)) u.out.carry (Q.out i) (R.out k);have T:=qh E;clear E
     rcases Nat.lt_or_ge k d.length with a7|a7
     ·obtain rfl:=f7.out (by omega);have O:=f1.out (by omega);have c1:=(j.out.cell (p:=⟨bx,ox+i,none⟩) P).trans (g6.out i a6);have c2:=(j.out.cell (p:=⟨g5,oy+k,none⟩) O).trans (e5.out k a7);have B:(((nth g i:Nat):Int)*((nth d k:Nat):Int))=((nth g i*nth d k:Nat):Int):=by simp
      have h4:((nth g i:Nat):Int)*((nth d k:Nat):Int)<=999999998000000001:=by
       have o:=Q.out i;have N:=R.out k;rw[z0r] at o N;have:nth g i*nth d k<=999999999*999999999:=Nat.mul_le_mul (by omega) (by omega);rw[B];omega
      have h9:nth L' (i+k)<=999999999:=by have:=u.out.small (i+k);rw[z0r] at this;omega
      have h7:Z<=999999999:=by have:=u.out.carry;rw[z0r] at this;omega
      have h3:0<=((nth g i:Nat):Int)*((nth d k:Nat):Int):=by rw[B];omega
      have g8:=qh B;clear B b6
      go_wp2_with fail
      go_quiet (fail)
      go_wp2;go_roundw
      case rel =>
       have em:((nth L' (i+k):Nat):Int)+(Z:Int)+((nth g i:Nat):Int)*((nth d k:Nat):Int)=((nth L' (i+k)+Z+nth g i*nth d k:Nat):Int):=by rw[g8.out];omega
       rw[em];have ho:=(z.out.kept (below_drewN (Below.refl _ wr) nq) nlr).set T.out (i+k) ((nth L' (i+k)+Z+nth g i*nth d k) % 1000000000);exact⟨k+1,_,_,by omega,by go_num,by go_num,a9.out,ho,(below_drewN I.out nq).setCell z.out.base.1 _,(below_drewN j.out nq).setCell nlr _⟩
      simp[intOf];omega
     have hz:nth d k=0:=z1p d k a7;have K:=a9.out;rw[hz,Nat.mul_zero,Nat.add_zero] at K;rw[hz,Nat.mul_zero,Nat.add_zero] at b6;have f3:=qh K;clear K hz a9;go_wp2;go_roundw
     case rel =>
      have ho:=z.out.set T.out (i+k) ((nth L' (i+k)+Z) % 1000000000);exact⟨k+1,_,_,by omega,by go_num,by go_num,f3.out,ho,I.out.setCell z.out.base.1 _,j.out.setCell nlr _⟩
     simp[intOf];omega
    have c7:k=d.length+1:=by omega
    have f4:=qh c7;clear c7;go_wp2;go_roundw
    case rel =>
     have o:=u.out;rw[f4.out] at o;exact⟨i+1,L',by omega,by go_num,o.done Q.out R.out a6,z.out,I.out,j.out⟩
    simp[intOf];omega
   have e0:i=g.length:=by omega
   have e9:=qh e0;clear e0;have l:=d4.out;rw[e9.out] at l;have g0:=S.out.size;have d2:=z7e (some ⟨G.heap.size,0,none⟩) (g.length+d.length+1) L wo (by rw[l.len];exact HO.out.sl);rw[l.len] at d2;have C:=qh l;clear l
   go_wp2_with fail
   refine d2.mono ?_;rintro e w4 ⟨kk,hk,rfl,rfl⟩;have HK:=qh hk;clear hk;have hb:=C.out.done;have A:(toB (val s*val t))=L.take kk:=by
    rw[z4j C.out.small HK.out.1 HK.out.2.1 HK.out.2.2,hb,HX.out,HY.out,z0z,z0z]
   have e6:kk<=g.length+d.length+1:=by have:=HK.out.1;rw[C.out.len] at this;exact this
   have b5:Sl wo .u64 (.slice (some ⟨G.heap.size,0,none⟩) kk (g.length+d.length+1)) (toB (val s*val t)):=by
    rw[A];exact HO.out.sl.take (by rw[C.out.len];exact e6)
   have e4:(toB (val s*val t)).length<=100000:=by rw[A,List.length_take];omega
   have W:=y4d _ (val s*val t) wo b5 e4 (HT.out.below S.out nlr);have e8:=qh W;clear W b5 e4 A hb
   go_wp2_with fail
   refine e8.out.mono ?_;rintro e w5 ⟨rfl,b8⟩;have f2:=qh b8;clear b8;go_wp2;go_ret2;exact⟨rfl,S.out.trans (f2.out.mono g0)⟩
end
section
open Go.RowKit
structure Est (us vs:List Nat) (n q r:Nat):Prop where
 top:q*nth vs (n-1)+r=nth us n*BB+nth us (n-1)
 ge:bval us / bval vs<=q
structure DivIn (us vs:List Nat) (n:Nat):Prop where
 su:Small us
 sv:Small vs
 n1:1<=n
 lu:us.length=n+1
 lv:vs.length=n
 v1:1<=nth vs (n-1)
 lt:bval us<bval vs*BB
theorem x4b {n:Nat} (h:1<=n):BB ^ n=BB ^ (n-1)*BB:=by
 obtain⟨k,rfl⟩:∃ k,n=k+1:=⟨n-1,by omega⟩;exact Nat.pow_succ ..
theorem y9k {n:Nat} (h:2<=n):BB ^ (n-1)=BB ^ (n-2)*BB:=by
 obtain⟨k,rfl⟩:∃ k,n=k+2:=⟨n-2,by omega⟩;exact Nat.pow_succ ..
theorem y0a {xs:List Nat} {n:Nat} (h:xs.length=n+1) (g:1<=n):bval xs=bval (xs.take (n-1))+BB ^ (n-1)*(nth xs n*BB+nth xs (n-1)):=by
 have c:=z0k xs n;rw[z2r (by omega)] at c;have d:=z0k xs (n-1);rw[show n-1+1=n by omega] at d;have i:BB ^ n=BB ^ (n-1)*BB:=x4b g;rw[c,d,i,Nat.mul_add,<- Nat.mul_assoc,Nat.mul_assoc (BB ^ (n-1)) BB,Nat.mul_comm BB (nth xs n)];rw[Nat.mul_assoc];omega
theorem y0x {xs:List Nat} {n:Nat} (h:xs.length=n) (d:1<=n):bval xs=bval (xs.take (n-1))+BB ^ (n-1)*nth xs (n-1):=by
 have c:=z0k xs (n-1);rw[show n-1+1=n by omega,z2r (by omega)] at c;exact c
theorem y4f {xs:List Nat} (h:Small xs) (k:Nat) (c:k<=xs.length):bval (xs.take k)<BB ^ k:=by
 have:=z3z (z4m h k);rwa [List.length_take,Nat.min_eq_left c] at this
theorem DivIn.vpos {d c:List Nat} {n:Nat} (h:DivIn d c n):BB ^ (n-1)<=bval c:=by
 rw[y0x h.lv h.n1];have:BB ^ (n-1)*1<=BB ^ (n-1)*nth c (n-1):=Nat.mul_le_mul_left _ h.v1;omega
theorem DivIn.vpos' {d c:List Nat} {n:Nat} (h:DivIn d c n):0<bval c:=Nat.lt_of_lt_of_le (Nat.pow_pos z1w) h.vpos
theorem DivIn.qlt {c d:List Nat} {n:Nat} (h:DivIn c d n):bval c / bval d<BB:=Nat.div_lt_of_lt_mul h.lt
theorem Est.start {c d:List Nat} {n:Nat} (h:DivIn c d n) :
  Est c d n ((nth c n*BB+nth c (n-1)) / nth d (n-1)) ((nth c n*BB+nth c (n-1)) % nth d (n-1)):=by
 refine⟨by rw[Nat.mul_comm];exact Nat.div_add_mod _ _,?_⟩;rw[Nat.le_div_iff_mul_le h.v1];have i:=Nat.div_mul_le_self (bval c) (bval d);generalize bval c / bval d=Q at *;have m:=y0a h.lu h.n1;have l:=y4f h.su (n-1) (by rw[h.lu];omega);have j:=y0x h.lv h.n1;have k:Q*(BB ^ (n-1)*nth d (n-1))<=Q*bval d:=Nat.mul_le_mul_left _ (by omega);have g:BB ^ (n-1)*(Q*nth d (n-1))<BB ^ (n-1)*(nth c n*BB+nth c (n-1)+1):=by
  rw[Nat.mul_left_comm,Nat.mul_add];omega
 have:=Nat.lt_of_mul_lt_mul_left g;omega
theorem y9z {xs:List Nat} {n:Nat} (h:xs.length=n+1) (d:2<=n):bval xs=bval (xs.take (n-2))+BB ^ (n-2)*((nth xs n*BB+nth xs (n-1))*BB+nth xs (n-2)):=by
 have c:=z0k xs (n-2);rw[show n-2+1=n-1 by omega] at c;rw[y0a h (by omega),c];have g:BB ^ (n-1)=BB ^ (n-2)*BB:=y9k d;rw[g,Nat.mul_add (BB ^ (n-2)),Nat.mul_assoc,Nat.mul_comm BB (nth xs n*BB+nth xs (n-1))];omega
theorem y6a {xs:List Nat} {n:Nat} (h:xs.length=n) (c:2<=n):bval xs=bval (xs.take (n-2))+BB ^ (n-2)*(nth xs (n-1)*BB+nth xs (n-2)):=by
 have:=y0a (n:=n-1) (xs:=xs) (by omega) (by omega)
 rwa [show n-1-1=n-2 by omega] at this
theorem Est.back {d c:List Nat} {n q r:Nat} (h:DivIn d c n) (k:Est d c n q r) (i:BB<=q\/(2<=n/\r*BB+nth d (n-2)<q*nth c (n-2))) :
  1<=q/\Est d c n (q-1) (r+nth c (n-1)):=by
 have g:bval d / bval c<q:=by
  rcases i with i|⟨l,i⟩
  ·exact Nat.lt_of_lt_of_le h.qlt i
  rw[Nat.div_lt_iff_lt_mul h.vpos'];have s:=y9z h.lu l;have z:=y6a h.lv l;have u:=y4f h.su (n-2) (by rw[h.lu];omega);have m:(nth d n*BB+nth d (n-1))*BB+nth d (n-2)+1<=q*(nth c (n-1)*BB+nth c (n-2)):=by
   rw[<- k.top,Nat.add_mul,Nat.mul_add,Nat.mul_assoc];omega
  have o:BB ^ (n-2)*((nth d n*BB+nth d (n-1))*BB+nth d (n-2)+1)<=BB ^ (n-2)*(q*(nth c (n-1)*BB+nth c (n-2))):=Nat.mul_le_mul_left _ m;have p:BB ^ (n-2)*(q*(nth c (n-1)*BB+nth c (n-2)))<=q*bval c:=by
   rw[Nat.mul_left_comm];exact Nat.mul_le_mul_left _ (by omega)
  rw[Nat.mul_add (BB ^ (n-2)) _ 1,Nat.mul_one] at o;omega
 have j:1<=q:=Nat.lt_of_le_of_lt (Nat.zero_le _) g;refine⟨j,?_,Nat.le_sub_one_of_lt g⟩;clear g;have:=k.top;have e:q*nth c (n-1)=(q-1)*nth c (n-1)+nth c (n-1):=by
  have:q=q-1+1:=by omega
  rw[this,Nat.add_mul,Nat.one_mul,Nat.add_sub_cancel]
 omega
theorem Est.done {d c:List Nat} {n q r:Nat} (h:DivIn d c n) (k:Est d c n q r) (l:q<BB) (m:n=1\/BB<=r\/(2<=n/\q*nth c (n-2)<=r*BB+nth d (n-2))) :
  q*bval c<bval d+bval c:=by
 by_cases p:n=1
 ·subst p;have i:=y0a h.lu (by omega);have j:=y0x h.lv (by omega);simp only[Nat.sub_self,Nat.pow_zero,Nat.one_mul,List.take_zero,show bval []=0 from rfl,Nat.zero_add] at i j;have:=k.top;simp only[Nat.sub_self] at this;have:=h.vpos';rw[j] at *;omega
 have g:2<=n:=by have:=h.n1;omega
 have u:q*nth c (n-2)<=r*BB+nth d (n-2):=by
  rcases m with i|i|i
  ·omega
  ·have j:q*nth c (n-2)<=BB*BB:=Nat.mul_le_mul (by omega) (by have:=h.sv (n-2);omega);have s:BB*BB<=r*BB:=Nat.mul_le_mul_right _ i;omega
  exact i.2
 have i:=y9z h.lu g;have j:=y6a h.lv g;have s:=y4f h.sv (n-2) (by rw[h.lv];omega);have o:q*(nth c (n-1)*BB+nth c (n-2))<=(nth d n*BB+nth d (n-1))*BB+nth d (n-2):=by
  rw[<- k.top,Nat.add_mul,Nat.mul_add,Nat.mul_assoc];omega
 have A:BB ^ (n-2)*(q*(nth c (n-1)*BB+nth c (n-2)))<=BB ^ (n-2)*((nth d n*BB+nth d (n-1))*BB+nth d (n-2)):=Nat.mul_le_mul_left _ o;have z:q*bval c=q*bval (c.take (n-2))+BB ^ (n-2)*(q*(nth c (n-1)*BB+nth c (n-2))):=by
  rw[j,Nat.mul_add,Nat.mul_left_comm]
 have B:q*bval (c.take (n-2))<BB ^ (n-1):=by
  have e:BB ^ (n-1)=BB*BB ^ (n-2):=by rw[Nat.mul_comm];exact y9k g
  rw[e];exact Nat.mul_lt_mul_of_lt_of_le l (by omega) (Nat.pow_pos z1w)
 have:=h.vpos;omega
structure SubIn (us vs us':List Nat) (q i c bo:Nat):Prop where
 len:us'.length=us.length
 small:Small us'
 carry:c<BB
 borrow:bo<=1
 same:∀ j,i<=j->nth us' j=nth us j
 val:bval (us'.take i)+q*bval (vs.take i)=bval (us.take i)+BB ^ i*(c+bo)
theorem SubIn.start (c d:List Nat) (q:Nat) (h:Small c):SubIn c d c q 0 0 0:=⟨rfl,h,z1w,by omega,fun _ _=>rfl,by simp[bval]⟩
theorem take_set (L:List Nat) (i v:Nat):(L.set i v).take i=L.take i:=by
 rw[List.take_set];apply List.set_eq_of_length_le;rw[List.length_take];omega
def dSub (u c b x:Nat):Nat:=u+1000000000-(c+x) % 1000000000-b
theorem y9d {u c b x:Nat} (hb:b<=1):((u:Int)+1000000000-((c:Int)+(x:Int)) % 1000000000-(b:Int))=((dSub u c b x:Nat):Int):=by unfold dSub;omega
theorem SubIn.step {k g m:List Nat} {q i c o:Nat} (h:SubIn k g m q i c o) (B:Small g) (D:q<BB) (hi:i<k.length) :
  SubIn k g (m.set i (dSub (nth k i) c o (q*nth g i) % 1000000000)) q (i+1) ((c+q*nth g i) / 1000000000) (1-dSub (nth k i) c o (q*nth g i) / 1000000000):=by
 have hb:=z9j (l:=0) z1w h.carry D (B i);rw[Nat.zero_add] at hb;have u:nth k i<BB:=by rw[<- h.same i nlr];exact h.small i
 have p:i<m.length:=by rw[h.len];exact hi
 have s:=h.val;have F:=h.carry;have E:=h.borrow;have I:(c+q*nth g i) % 1000000000<1000000000:=Nat.mod_lt _ (by omega);have A:(c+q*nth g i) % 1000000000+1000000000*((c+q*nth g i) / 1000000000)=c+q*nth g i:=Nat.mod_add_div _ _;rw[z0r] at u F;refine⟨by simp[h.len],z7x h.small _ _ (by rw[z0r];exact Nat.mod_lt _ (by omega)),by rw[z0r];omega,by omega,fun j H=>?_,?_⟩
 ·rw[y1a _ _ _ _ p,if_neg (by omega)];exact h.same j (by omega)
 rw[z0k,z0k g,z0k k,take_set,y1a _ _ _ _ p,if_pos rfl,Nat.mul_add,Nat.pow_succ];generalize hd:dSub (nth k i) c o (q*nth g i)=d at *;unfold dSub at hd;generalize hx:q*nth g i=x at *;have z:q*(BB ^ i*nth g i)=BB ^ i*x:=by rw[Nat.mul_left_comm,hx]
 rw[z];have G:d % 1000000000+x+c+o=nth k i+BB*((c+x) / 1000000000+(1-d / 1000000000)):=by rw[z0r];omega
 have C:BB ^ i*(d % 1000000000+x+c+o)=BB ^ i*nth k i+BB ^ i*BB*((c+x) / 1000000000+(1-d / 1000000000)):=by rw[G,Nat.mul_add,Nat.mul_assoc]
 rw[Nat.mul_add,Nat.mul_add,Nat.mul_add] at C;rw[Nat.mul_add (BB ^ i)] at s;omega
theorem SubIn.last {j d g:List Nat} {n q c i:Nat} (h:SubIn j d g q n c i) (k:d.length=n):(c+q*nth d n) / 1000000000=0:=by
 rw[z1p d n (by omega),Nat.mul_zero,Nat.add_zero];have:=h.carry;rw[z0r] at this;exact Nat.div_eq_of_lt this
theorem SubIn.done {i j d:List Nat} {n q k:Nat} (h:SubIn i j d q (n+1) 0 k) (l:i.length=n+1) (m:j.length=n) :
  bval d+q*bval j=bval i+BB ^ (n+1)*k/\bval d<BB ^ (n+1):=by
 have c:=h.val;have g:=h.len;rw[z2r (by omega),z2r (by omega),z2r (by omega),Nat.zero_add] at c;have:=z3z h.small;rw[g,l] at this;exact⟨c,this⟩
theorem SubIn.fits {c d g:List Nat} {n q:Nat} (i:DivIn c d n) (h:SubIn c d g q (n+1) 0 0) (l:bval c / bval d<=q):q=bval c / bval d/\bval g=bval c % bval d:=by
 obtain⟨k,o⟩:=h.done i.lu i.lv;rw[Nat.mul_zero,Nat.add_zero] at k;have m:q<=bval c / bval d:=by rw[Nat.le_div_iff_mul_le i.vpos'];omega
 have j:q=bval c / bval d:=by omega
 refine⟨j,?_⟩;have:=Nat.div_add_mod (bval c) (bval d);rw[<- j,Nat.mul_comm] at this;omega
structure AddIn (us vs us':List Nat) (i c:Nat):Prop where
 len:us'.length=us.length
 small:Small us'
 carry:c<=1
 same:∀ j,i<=j->nth us' j=nth us j
 val:bval (us'.take i)+BB ^ i*c=bval (us.take i)+bval (vs.take i)
theorem AddIn.start (c d:List Nat) (h:Small c):AddIn c d c 0 0:=⟨rfl,h,by omega,fun _ _=>rfl,by simp[bval]⟩
theorem AddIn.step {d g k:List Nat} {i c:Nat} (h:AddIn d g k i c) (s:Small g) (hi:i<d.length) :
  AddIn d g (k.set i ((nth d i+c+nth g i) % 1000000000)) (i+1) ((nth d i+c+nth g i) / 1000000000):=by
 have p:nth d i<BB:=by rw[<- h.same i nlr];exact h.small i
 have m:=s i;have l:i<k.length:=by rw[h.len];exact hi
 have o:=h.val;have B:=h.carry;rw[z0r] at p m;refine⟨by simp[h.len],z7x h.small _ _ (by rw[z0r];exact Nat.mod_lt _ (by omega)),by omega,fun j A=>?_,?_⟩
 ·rw[y1a _ _ _ _ l,if_neg (by omega)];exact h.same j (by omega)
 rw[z0k,z0k g,z0k d,take_set,y1a _ _ _ _ l,if_pos rfl,Nat.pow_succ];generalize nth d i=a at *;generalize nth g i=x at *;have z:(a+c+x) % 1000000000+BB*((a+c+x) / 1000000000)=a+c+x:=by rw[z0r];omega
 have u:BB ^ i*(a+c+x)=BB ^ i*((a+c+x) % 1000000000)+BB ^ i*BB*((a+c+x) / 1000000000):=by rw[Nat.mul_assoc,<- Nat.mul_add,z]
 rw[Nat.mul_add,Nat.mul_add] at u;omega
theorem AddIn.fits {h d m g:List Nat} {n q c:Nat} (j:DivIn h d n) (A:SubIn h d m q (n+1) 0 1) (p:AddIn m d g (n+1) c) (K:bval h / bval d<=q) (C:q*bval d<bval h+bval d) :
  1<=q/\q-1=bval h / bval d/\bval g=bval h % bval d:=by
 obtain⟨z,J⟩:=A.done j.lu j.lv;have o:=p.len;have s:=A.len;have l:=j.lu;have E:=j.lv;have i:=p.val;rw[z2r (by omega),z2r (by omega),z2r (by omega)] at i;have D:=z3z p.small;rw[o,s,l] at D;rw[Nat.mul_one] at z;have u:1<=q:=by
  rcases Nat.eq_zero_or_pos q with k|k
  ·subst k;rw[Nat.zero_mul] at z;have:=z3z j.su;rw[l] at this;omega
  exact k
 have e:q*bval d=(q-1)*bval d+bval d:=by
  have:q=q-1+1:=by omega
  rw[this,Nat.add_mul,Nat.one_mul,Nat.add_sub_cancel]
 have H:c=1:=by
  have:=p.carry
  rcases Nat.eq_zero_or_pos c with k|k
  ·subst k;rw[Nat.mul_zero,Nat.add_zero] at i;omega
  omega
 subst H;rw[Nat.mul_one] at i;have G:(q-1)*bval d<=bval h:=by omega
 have I:bval g=bval h-(q-1)*bval d:=by omega
 have L:bval g<bval d:=by omega
 have B:q-1=bval h / bval d:=by
  have N:q-1<=bval h / bval d:=by rw[Nat.le_div_iff_mul_le j.vpos'];exact G
  have F:bval h / bval d<q:=by rw[Nat.div_lt_iff_lt_mul j.vpos'];omega
  omega
 refine⟨u,B,?_⟩;have:=Nat.div_add_mod (bval h) (bval d);rw[<- B,Nat.mul_comm] at this;omega
end
section
open Go.RowKit
theorem y7q (w:World) (r:Option Nat):w.grownBy w r:=⟨rfl,rfl,rfl,nlr,fun _ _ _=>rfl⟩
theorem x9t {w i g:World} {r:Option Nat} (h:w.grownBy i r) (c:i.grownBy g r):w.grownBy g r :=
 ⟨c.os.trans h.os,c.tape.trans h.tape,c.output.trans h.output,Nat.le_trans h.size c.size,fun k j d=>(c.block k (Nat.lt_of_lt_of_le j h.size) d).trans (h.block k j d)⟩
theorem z3c {w c:World} {r:Option Nat} (h:w.grownBy c r) (n:Nat):w.grownBy (c.drewN n) r:=⟨h.os,h.tape,h.output,h.size,h.block⟩
theorem y1v {w d:World} {g:Nat} (h:w.grownBy d (some g)) (j:Nat) (v:Value):w.grownBy (d.setCell ⟨g,j,none⟩ v) (some g) :=
 x9t h ⟨rfl,rfl,rfl,by simp[World.setCell],fun k _ c=>Below.heap_setCell _ _ _ _ (by intro e;apply c;rw[e])⟩
theorem y3v (A c C:List Nat) (i:Nat) (h:i<c.length):nth (A++c++C) (A.length+i)=nth c i:=by
 rw[z3y _ _ _ (by rw[List.length_append];omega),z3f _ _ _ (by omega),Nat.add_sub_cancel_left]
theorem set_mid (A c C:List Nat) (i v:Nat) (h:i<c.length):(A++c++C).set (A.length+i) v=A++c.set i v++C:=by
 rw[List.set_append_left _ _ (by rw[List.length_append];omega),List.set_append_right _ _ (by omega),Nat.add_sub_cancel_left]
def DigEnd (B g N cap:Nat) (A us C vs:List Nat) (w:World) (e:Ending) (w':World):Prop :=
 ∃ us':List Nat,e=.returned (.int .u64 ((bval us / bval vs:Nat):Int))/\us'.length=us.length/\Small us'/\bval us'=bval us % bval vs /\
  Own w' B 179 .u64 (.slice (some ⟨g,0,none⟩) N cap) (A++us'++C)/\w.grownBy w' (some g)
set_option maxRecDepth 100000 in
theorem x8y (B g N cap f3 bv ov cv n:Nat) (A s C j:List Nat) (w:World) (hN:(A++s++C).length=N) (d1:Own w B 179 .u64 (.slice (some ⟨g,0,none⟩) N cap) (A++s++C))
  (hd:DivIn s j n) (hn:n<=100000) (b8:bv≠g) (hv:∀ i,i<n->w.cell? ⟨bv,ov+i,none⟩=some (.int .u64 ((nth j i:Nat):Int))) :
  Calls prog 238 #[.slice (some ⟨g,A.length,none⟩) (n+1) f3,.slice (some ⟨bv,ov,none⟩) n cv] w (DigEnd B g N cap A s C j w):=by
 have u:=qh hd;clear hd;have HN:=qh hN;clear hN;have HO:=qh d1;clear d1;have HV:=qh hv;clear hv;have h1:=u.out.n1;have e3:=u.out.lu;have F:=qh e3;clear e3;have un:w.cell? ⟨g,A.length+n,none⟩=some (.int .u64 ((nth s n:Nat):Int)):=by
  have h:=HO.out.cell HN.out (A.length+n) (by rw[<- HN.out,List.length_append,List.length_append,F.out];omega)
  rwa [y3v _ _ _ _ (by rw[F.out];omega)] at h
 have h8:w.cell? ⟨g,A.length+(n-1),none⟩=some (.int .u64 ((nth s (n-1):Nat):Int)):=by
  have h:=HO.out.cell HN.out (A.length+(n-1)) (by rw[<- HN.out,List.length_append,List.length_append,F.out];omega)
  rwa [y3v _ _ _ _ (by rw[F.out];omega)] at h
 have e5:=HV.out (n-1) (by omega);have g8:=u.out.v1;have g4:=u.out.su n;have d2:=u.out.su (n-1);rw[z0r] at g4 d2
 go_enter func238,ntmps238
 go_wp2_with fail
 go_quiet (fail)
 go_wp2_with fail
 go_quiet (fail)
 go_upto_block 0 with (fail)
 generalize hw2:(World.drewN _ _)=w2;have m:w.grownBy w2 (some g):=by rw[<- hw2];exact z3c (z3c (y7q _ _) _) _
 have a5:Below w.heap.size w w2:=by rw[<- hw2];exact below_drewN (below_drewN blr _) _
 have o:Own w2 B 179 .u64 (.slice (some ⟨g,0,none⟩) N cap) (A++s++C):=HO.out.kept a5 nlr;have e7:=qh m;clear m;have e4:=qh o;clear o;clear hw2 a5 un h8 e5 HO
 go_cut [7,8] from 43 (fun q r wx=>∃ d J:Nat,q=.int .u64 (d:Int)/\r=.int .u64 (J:Int)/\d<BB/\bval s / bval j<=d/\d*bval j<bval s+bval j /\
   Own wx B 179 .u64 (.slice (some ⟨g,0,none⟩) N cap) (A++s++C)/\w.grownBy wx (some g))
 case first =>
  go_wp2_with fail
  go_loopw [7,8] (fun q r wr=>∃ d J:Nat,q=.int .u64 (d:Int)/\r=.int .u64 (J:Int)/\Est s j n d J /\
    Own wr B 179 .u64 (.slice (some ⟨g,0,none⟩) N cap) (A++s++C)/\w.grownBy wr (some g)) (fun q _ _=>(intOf q).toNat)
  case atStart =>
   have he:=Est.start u.out;rw[z0r] at he;exact⟨_,_,by go_num,by go_num,he,e4.out,e7.out⟩
  obtain⟨d,J,rfl,rfl,he,o,m⟩:=hrel;have d0:=he.top;have g2:=u.out.su (n-2);have f4:=u.out.sv (n-2);have g6:=u.out.sv (n-1);rw[z0r] at d0 g2 f4 g6;have j4:d<=999999999999999999:=by
   have:d*1<=d*nth j (n-1):=Nat.mul_le_mul_left _ g8;omega
  have j5:J<=999999999999999999:=by omega
  have f0:(((n:Int)-1).toNat)=n-1:=by omega
  have e5:wr.cell? ⟨bv,ov+(n-1),none⟩=some (.int .u64 ((nth j (n-1):Nat):Int)):=m.cell (HV.out (n-1) (by omega)) (by simpa using b8);have b9:2<=n->wr.cell? ⟨g,A.length+(n-2),none⟩=some (.int .u64 ((nth s (n-2):Nat):Int)):=fun h2=>by
   have h:=o.cell HN.out (A.length+(n-2)) (by rw[<- HN.out,List.length_append,List.length_append,F.out];omega)
   rwa [y3v _ _ _ _ (by rw[F.out];omega)] at h
  have c8:2<=n->wr.cell? ⟨bv,ov+(n-2),none⟩=some (.int .u64 ((nth j (n-2):Nat):Int)):=fun h2=>m.cell (HV.out (n-2) (by omega)) (by simpa using b8);have HE:=qh he;clear he d0 f0;have D:=qh o;clear o;have E:=qh m;clear m;by_cases hA:BB<=d
  ·have Z:=HE.out.back u.out (.inl hA);have I:=qh Z;clear Z;rw[z0r] at hA;have e8:(1000000000:Int)<=(d:Int):=by omega
   clear b9 c8
   go_wp2_with fail
   go_quiet (fail)
   go_wp2_with fail
   ·have a4:(1000000000:Int)<=(J:Int)+((nth j (n-1):Nat):Int):=by assumption
    have j6:(d:Int)-1<1000000000:=by assumption
    go_meet
    refine⟨d-1,J+nth j (n-1),by go_num,by go_num,by rw[z0r];omega,I.out.2.ge,I.out.2.done u.out (by rw[z0r];omega) (.inr (.inl (by rw[z0r];omega))),D.out.kept (below_drewN (Below.refl _ wr) _) nlr,z3c E.out _⟩
   ·go_roundw
    case rel=>exact⟨d-1,J+nth j (n-1),by go_num,by go_num,I.out.2,D.out.kept (below_drewN (Below.refl _ wr) _) nlr,z3c E.out _⟩
    have:=I.out.1;simp[intOf];omega
   go_roundw
   case rel=>exact⟨d-1,J+nth j (n-1),by go_num,by go_num,I.out.2,D.out.kept (below_drewN (Below.refl _ wr) _) nlr,z3c E.out _⟩
   have:=I.out.1;simp[intOf];omega
  have d4:d<BB:=by omega
  have a2:=qh d4;clear d4;rw[z0r] at hA;have e8:decide ((1000000000:Int)<=(d:Int))=false:=by simp;omega
  by_cases a9:2<=n
  ·have g0:=b9 a9;have e6:=c8 a9;clear b9 c8;have H:((d:Int)*((nth j (n-2):Nat):Int))=((d*nth j (n-2):Nat):Int):=by simp
   obtain⟨P,hP⟩:=exq (d*nth j (n-2));have h5:(P:Int)<=999999998000000001:=by
    have:d*nth j (n-2)<=999999999*999999999:=Nat.mul_le_mul (by omega) (by omega);omega
   have hw:IntKind.u64.wrap ((d:Int)*((nth j (n-2):Nat):Int))=(P:Int):=by
    rw[H,<- hP];exact IntWalk.u64_in _ ⟨by omega,by omega⟩
   have HP:=qh hP;clear hP H;have f5:(1:Int)<(n:Int):=by omega
   by_cases i4:J<1000000000
   ·have c9:(J:Int)<1000000000:=by omega
    by_cases ht:J*1000000000+nth s (n-2)<P
    ·have Z:=HE.out.back u.out (.inr ⟨a9,by rw[z0r,<- HP.out];exact ht⟩);have f9:(J:Int)*1000000000+((nth s (n-2):Nat):Int)<(P:Int):=by omega
     have b5:(1:Int)<=(d:Int):=by have:=Z.1;omega
     have I:=qh Z;clear Z ht
     go_wp2_with fail
     go_quiet (fail)
     clear f9 hw h5;have i9:(d:Int)<=999999999:=by omega
     clear hA e8 i4 c9 g2 f4 g0 e6 a9 f5
     go_wp2_with fail
     ·have a4:(1000000000:Int)<=(J:Int)+((nth j (n-1):Nat):Int):=by assumption
      go_meet
      refine⟨d-1,J+nth j (n-1),by go_num,by go_num,by rw[z0r];omega,I.out.2.ge,I.out.2.done u.out (by rw[z0r];omega) (.inr (.inl (by rw[z0r];omega))),D.out.kept (below_drewN (Below.refl _ wr) _) nlr,z3c E.out _⟩
     go_roundw
     case rel=>exact⟨d-1,J+nth j (n-1),by go_num,by go_num,I.out.2,D.out.kept (below_drewN (Below.refl _ wr) _) nlr,z3c E.out _⟩
     have:=I.out.1;simp[intOf];omega
    have f9:decide ((J:Int)*1000000000+((nth s (n-2):Nat):Int)<(P:Int))=false:=by simp;omega
    have i5:=qh ht;clear ht
    go_wp2_with fail
    go_quiet (fail)
    go_wp2_with fail
    go_meet
    exact⟨d,J,rfl,rfl,a2.out,HE.out.ge,HE.out.done u.out a2.out (.inr (.inr ⟨a9,by have:=i5.out;rw[z0r,<- HP.out];omega⟩)),D.out.kept (below_drewN (Below.refl _ wr) _) nlr,z3c E.out _⟩
   have c9:decide ((J:Int)<1000000000)=false:=by simp;omega
   go_wp2_with fail
   go_quiet (fail)
   go_wp2_with fail
   go_meet
   exact⟨d,J,rfl,rfl,a2.out,HE.out.ge,HE.out.done u.out a2.out (.inr (.inl (by rw[z0r];omega))),D.out.kept (below_drewN (Below.refl _ wr) _) nlr,z3c E.out _⟩
  have f5:decide ((1:Int)<(n:Int))=false:=by simp;omega
  clear b9 c8
  go_wp2_with fail
  go_quiet (fail)
  go_wp2_with fail
  go_meet
  exact⟨d,J,rfl,rfl,a2.out,HE.out.ge,HE.out.done u.out a2.out (.inl (by omega)),D.out.kept (below_drewN (Below.refl _ wr) _) nlr,z3c E.out _⟩
 case rest =>
  obtain⟨d,J,rfl,rfl,b5,g3,g5,o,m⟩:=hcut;have d4:(d:Int)<=999999999:=by rw[z0r] at b5;omega
  have h6:=qh b5;clear b5;have e9:=qh g3;clear g3;have i3:=qh g5;clear g5;have h7:=qh o;clear o;have h3:=qh m;clear m;clear e4 e7 g4 d2
  go_wp2_with fail
  go_loopw [9,10,88] (fun b c i wr=>∃ (k S Y:Nat) (z:List Nat),k<=n+1/\i=.int .i64 (k:Int)/\c=.int .u64 (S:Int)/\b=.int .u64 (Y:Int)/\SubIn s j z d k S Y/\(k=n+1->S=0) /\
    Own wr B 179 .u64 (.slice (some ⟨g,0,none⟩) N cap) (A++z++C)/\w.grownBy wr (some g)) (fun _ _ i _=>n+1-(intOf i).toNat)
  case atStart=>exact⟨0,0,0,s,Nat.zero_le _,rfl,rfl,rfl,SubIn.start s j d u.out.su,fun _=>rfl,h7.out,h3.out⟩
  obtain⟨k,S,Y,z,hk,rfl,rfl,rfl,L,b4,o,m⟩:=hrel;have p:=L.len;rw[F.out] at p;have a7:(A++z++C).length=N:=by rw[<- HN.out,List.length_append,List.length_append,List.length_append,List.length_append,p,F.out]
  have X:=qh p;clear p;have a6:=qh a7;clear a7;have f8:=qh b4;clear b4;have R:=qh L;clear L;have a1:=qh o;clear o;have b1:=qh m;clear m;by_cases d6:k<n+1
  ·have i6:(S:Int)<=999999999:=by have:=R.out.carry;rw[z0r] at this;omega
   have j2:(Y:Int)<=1:=by have:=R.out.borrow;omega
   have i8:((nth s k:Nat):Int)<=999999999:=by have:=u.out.su k;rw[z0r] at this;omega
   have uc:wr.cell? ⟨g,A.length+k,none⟩=some (.int .u64 ((nth s k:Nat):Int)):=by
    have h:=a1.out.cell a6.out (A.length+k) (by rw[<- a6.out,List.length_append,List.length_append,X.out];omega)
    rwa [y3v _ _ _ _ (by rw[X.out];omega),R.out.same k nlr] at h
   have uf:wr.frozen? ⟨g,A.length+k,none⟩=false:=a1.out.free a6.out _;have K:=R.out.step u.out.sv h6.out (by rw[F.out];exact d6);have a3:=qh K;clear K;by_cases d7:k<n
   ·have vc:wr.cell? ⟨bv,ov+k,none⟩=some (.int .u64 ((nth j k:Nat):Int)):=b1.out.cell (HV.out k d7) (by simpa using b8);have H:((d:Int)*((nth j k:Nat):Int))=((d*nth j k:Nat):Int):=by simp
    have j1:(d:Int)*((nth j k:Nat):Int)<=999999998000000001:=by
     have h2:=u.out.sv k;rw[z0r] at h2;have:d*nth j k<=999999999*999999999:=Nat.mul_le_mul (by omega) (by omega);rw[H];omega
    have j0:0<=(d:Int)*((nth j k:Nat):Int):=by rw[H];omega
    have i7:=qh H;clear H;go_wp2;go_roundw
    case rel =>
     have g9:dSub (nth s k) S Y (d*nth j k)<=1999999999:=by unfold dSub;omega
     rw[i7.out,y9d R.out.borrow];have l:=a1.out.set a6.out (A.length+k) (dSub (nth s k) S Y (d*nth j k) % 1000000000);rw[set_mid _ _ _ _ _ (by rw[X.out];exact d6)] at l;exact⟨k+1,_,_,_,by omega,by go_num,by go_num,by go_num,a3.out,fun h=>by omega,l,y1v b1.out _ _⟩
    simp[intOf];omega
   have O:k=n:=by omega
   have b2:nth j k=0:=z1p j k (by have:=u.out.lv;omega);have g1:(S+d*nth j k) / 1000000000=0:=by
    have h:=R.out;rw[O] at h ⊢;exact h.last u.out.lv
   have h4:=qh O;clear O;have f1:=qh b2;clear b2;have i2:=qh g1;clear g1;go_wp2;go_roundw
   case rel =>
    have e0:(S:Int)=(S:Int)+((d*nth j k:Nat):Int):=by rw[f1.out];simp
    have e1:(S:Int) / 1000000000=((S+d*nth j k) / 1000000000:Nat):=by rw[f1.out,Nat.mul_zero];omega
    have e2:((nth s k:Nat):Int)+1000000000-(S:Int) % 1000000000-(Y:Int)=((dSub (nth s k) S Y (d*nth j k):Nat):Int):=by
     rw[<- y9d R.out.borrow,<- e0]
    have g9:dSub (nth s k) S Y (d*nth j k)<=1999999999:=by unfold dSub;omega
    rw[e1,e2];have l:=a1.out.set a6.out (A.length+k) (dSub (nth s k) S Y (d*nth j k) % 1000000000);rw[set_mid _ _ _ _ _ (by rw[X.out];exact d6)] at l;exact⟨k+1,_,_,_,by omega,by go_num,rfl,by go_num,a3.out,fun _=>i2.out,l,y1v b1.out _ _⟩
   simp[intOf];omega
  have O:k=n+1:=by omega
  have f2:=f8.out O;have L:=R.out;rw[O,f2] at L;have U:=qh L;clear L;clear R f8 O f2
  rcases Nat.eq_zero_or_pos Y with h0|h0
  ·have g7:(((Y:Nat):Int)==0)=true:=by rw[beq_iff_eq];omega
   have Q:d=bval s / bval j/\bval z=bval s % bval j:=by
    have h:=U.out;rw[h0] at h;exact h.fits u.out e9.out
   have HF:=qh Q;clear Q;have h9:=qh h0;clear h0;go_wp2;go_ret;exact⟨z,z5j (by rw[<- HF.out.1]),by rw[X.out,F.out],U.out.small,HF.out.2,a1.out,b1.out⟩
  have g7:(((Y:Nat):Int)==0)=false:=by rw[beq_eq_false_iff_ne];omega
  have a4:Y=1:=by have:=U.out.borrow;omega
  have L:=U.out;rw[a4] at L;have d3:=qh L;clear L U;have h9:=qh a4;clear a4 h0;obtain⟨wo,rfl⟩:∃ wo:World,wo=wr:=⟨_,rfl⟩
  go_wp2_with fail
  go_loopw [10,129] (fun c i wr=>∃ (k S:Nat) (T:List Nat),k<=n+1/\i=.int .i64 (k:Int)/\c=.int .u64 (S:Int)/\AddIn z j T k S /\
   Own wr B 179 .u64 (.slice (some ⟨g,0,none⟩) N cap) (A++T++C)/\w.grownBy wr (some g)) (fun _ i _=>n+1-(intOf i).toNat)
  case atStart=>exact⟨0,0,z,Nat.zero_le _,rfl,rfl,AddIn.start z j d3.out.small,a1.out,b1.out⟩
  obtain⟨G,d5,T,j3,rfl,rfl,W,o,m⟩:=hrel;have p:=W.len;rw[X.out] at p;have a7:(A++T++C).length=N:=by rw[<- HN.out,List.length_append,List.length_append,List.length_append,List.length_append,p,F.out]
  have b0:=qh p;clear p;have a8:=qh a7;clear a7;have b6:=qh W;clear W;have b3:=qh o;clear o;have c7:=qh m;clear m;by_cases b7:G<n+1
  ·have i6:(d5:Int)<=1:=by have:=b6.out.carry;omega
   have i8:((nth z G:Nat):Int)<=999999999:=by have:=d3.out.small G;rw[z0r] at this;omega
   have d9:((nth j G:Nat):Int)<=999999999:=by have:=u.out.sv G;rw[z0r] at this;omega
   have uc:wr.cell? ⟨g,A.length+G,none⟩=some (.int .u64 ((nth z G:Nat):Int)):=by
    have h:=b3.out.cell a8.out (A.length+G) (by rw[<- a8.out,List.length_append,List.length_append,b0.out];omega)
    rwa [y3v _ _ _ _ (by rw[b0.out];omega),b6.out.same G nlr] at h
   have uf:wr.frozen? ⟨g,A.length+G,none⟩=false:=b3.out.free a8.out _;have K:=b6.out.step u.out.sv (by rw[X.out];exact b7);have a3:=qh K;clear K;by_cases d7:G<n
   ·have vc:wr.cell? ⟨bv,ov+G,none⟩=some (.int .u64 ((nth j G:Nat):Int)):=c7.out.cell (HV.out G d7) (by simpa using b8);go_wp2;go_roundw
    case rel =>
     have l:=b3.out.set a8.out (A.length+G) ((nth z G+d5+nth j G) % 1000000000);rw[set_mid _ _ _ _ _ (by rw[b0.out];exact b7)] at l;exact⟨G+1,_,_,by omega,by go_num,by go_num,a3.out,l,y1v c7.out _ _⟩
    simp[intOf];omega
   have b2:nth j G=0:=z1p j G (by have:=u.out.lv;omega);have d8:=a3.out;rw[b2,Nat.add_zero] at d8;have f7:=qh d8;clear d8 a3 b2 d9;go_wp2;go_roundw
   case rel =>
    have l:=b3.out.set a8.out (A.length+G) ((nth z G+d5) % 1000000000);rw[set_mid _ _ _ _ _ (by rw[b0.out];exact b7)] at l;exact⟨G+1,_,_,by omega,by go_num,by go_num,f7.out,l,y1v c7.out _ _⟩
   simp[intOf];omega
  have O:G=n+1:=by omega
  have W:=b6.out;rw[O] at W;have Q:=W.fits u.out d3.out e9.out i3.out;have b5:(1:Int)<=(d:Int):=by have:=Q.1;omega
  have HF:=qh Q;clear Q W;have h4:=qh O;clear O;go_wp2;go_ret;exact⟨T,z5j (by rw[<- HF.out.2.1];omega),by rw[b0.out,F.out],b6.out.small,HF.out.2.2,b3.out,c7.out⟩
end
end Go.Proofs.YteappjogmnogcaaGreatDoor
