/- Parts of a proof: Shelf MC Fmt Text Valid Ops MM MD. -/
import Derived.Shelf.Strings.Builder1
import Derived.Shelf.Strings.Builder2
import Derived.Shelf.Small.Wraps
import Derived.Shelf.Strings.BuilderF
import Derived.Shelf.Strings.BuilderK
import Derived.Shelf.Strings.Builder2Cap
import Derived.Shelf.Strconv.Itoa0
import Derived.Shelf.Strconv.Itoa1
import Derived.Shelf.LaysM
import Derived.Shelf.Strconv.Itoa2
import Derived.Shelf.Strings.Search1
import Derived.Shelf.Strings.Search2
import Derived.Shelf.Strings.Cut
import Derived.Shelf.Strings.Shaped
import Derived.Shelf.Strings.Prefix
import Derived.Shelf.Bits.Mul64
import Derived.Shelf.Strings.Repeat
import Derived.Shelf.Strings.BuilderCap
import Derived.Test.YteappjogmnogcaaGreatDoorProg
import Derived.Test.YteappjogmnogcaaGreatDoorV01
import Derived.Deep.QuietTactic
import Derived.BigQuiet
import Derived.Test.YteappjogmnogcaaGreatDoorV00
import Derived.Lib.ItoaMem
import Derived.Lib.AppendIntMem
import Derived.BigCall
import Derived.BigGuard
import Derived.Lib.Repeat
import Derived.WalkKit
import Derived.WalkSpells
import Derived.WalkLawsBesides
import Derived.Lib.Hide
import Derived.Lib.Strings
import Derived.Deep.Cut
import Derived.Deep.DeepCutAuto
namespace Go.Proofs.YteappjogmnogcaaGreatDoor
set_option maxRecDepth 100000
set_option linter.unusedSimpArgs false
set_option linter.unusedVariables false
set_option linter.unusedSectionVars false
set_option maxHeartbeats 16000000
open Go Tryz
end Go.Proofs.YteappjogmnogcaaGreatDoor
namespace Go.Proofs
open Go.Shelf
def Tryz.lays169_ren:Go.Shelf.Ren:=⟨fun | 169=>235 | n=>n,fun | 70=>218 | 9=>9 | 0=>0 | 72=>220 | 37=>175 | 127=>233 | 3=>3 | 5=>5 | n=>n,fun | n=>n⟩
theorem Tryz.lays169:Go.Proofs.Lays.n169 Tryz.prog Tryz.lays169_ren:={
 mixed:=by kernel_rfl
 f169:=Tryz.func235.trans (congrArg some (by kernel_rfl))
 t0:=Tryz.underlying0
 a0:=Tryz.isAgg0
 z0:=Tryz.sizeOf0
 v0:=Tryz.zeroValue0
 t3:=Tryz.underlying3
 a3:=Tryz.isAgg3
 z3:=Tryz.sizeOf3
 v3:=Tryz.zeroValue3
 t9:=Tryz.underlying9
 a9:=Tryz.isAgg9
 z9:=Tryz.sizeOf9
 v9:=Tryz.zeroValue9
 t37:=Tryz.underlying175
 a37:=Tryz.isAgg175
 z37:=Tryz.sizeOf175
 v37:=Tryz.zeroValue175
 t70:=Tryz.underlying218
 a70:=Tryz.isAgg218
 z70:=Tryz.sizeOf218
 v70:=Tryz.zeroValue218
 t72:=Tryz.underlying220
 a72:=Tryz.isAgg220
 z72:=Tryz.sizeOf220
 v72:=Tryz.zeroValue220
 t127:=Tryz.underlying233
 a127:=Tryz.isAgg233
 z127:=Tryz.sizeOf233
 v127:=Tryz.zeroValue233 }
theorem Tryz.Builder_Extra_169:Builder.Extra Tryz.prog Tryz.lays169_ren:={
 sizeBuilder:=by kernel_rfl
 liesBuilder:=by kernel_rfl
 t5:=Tryz.underlying5
 a5:=Tryz.isAgg5
 z5:=Tryz.sizeOf5
 v5:=Tryz.zeroValue5
 infoByte:=by kernel_rfl
 cellsByte:=by kernel_rfl
 sizeByte:=by kernel_rfl
 neB5:=by decide }
open Go.RowKit in
theorem Tryz.Builder_String_any (B b:Nat) (l:List UInt8) (w:World) (h:Lib.IsBuilder 220 5 B b (Lib.byteCells l) w) (hBw:B≤w.heap.size) :
  Calls Tryz.prog 235 #[.pointer (some ⟨b,0,none⟩)] w fun e w'=>e=.returned (.string ⟨l.toArray⟩)∧Below B w w':=Any.Builder_String_any Tryz.lays169 Tryz.Builder_Extra_169 B b l w h hBw
def Tryz.lays103_ren:Go.Shelf.Ren:=⟨fun | 103=>210 | 210=>225 | 206=>239 | n=>n,fun | 9=>9 | 4=>4 | 24=>203 | 3=>3 | n=>n,fun | n=>n⟩
theorem Tryz.lays103:Go.Proofs.Lays.n103 Tryz.prog Tryz.lays103_ren:={
 mixed:=by kernel_rfl
 f103:=Tryz.func210.trans (congrArg some (by kernel_rfl))
 f206:=Tryz.func239.trans (congrArg some (by kernel_rfl))
 f210:=Tryz.func225.trans (congrArg some (by kernel_rfl))
 t3:=Tryz.underlying3
 a3:=Tryz.isAgg3
 z3:=Tryz.sizeOf3
 v3:=Tryz.zeroValue3
 t4:=Tryz.underlying4
 a4:=Tryz.isAgg4
 z4:=Tryz.sizeOf4
 v4:=Tryz.zeroValue4
 t9:=Tryz.underlying9
 a9:=Tryz.isAgg9
 z9:=Tryz.sizeOf9
 v9:=Tryz.zeroValue9
 t24:=Tryz.underlying203
 a24:=Tryz.isAgg203
 z24:=Tryz.sizeOf203
 v24:=Tryz.zeroValue203 }
open Go.RowKit in
theorem Tryz.strings_CutPrefix (s p:ByteArray) (w:World) :
  Calls Tryz.prog 210 #[.string s,.string p] w fun e w'=>e=.returned (.tuple #[.string ⟨(Lib.trimPrefix s.data.toList p.data.toList).toArray⟩,.bool (Lib.hasPrefix s.data.toList p.data.toList)])∧w'=w:=Any.strings_CutPrefix Tryz.lays103 s p w
def Tryz.lays215_ren:Go.Shelf.Ren:=⟨fun | 215=>241 | n=>n,fun | 3=>3 | 4=>4 | n=>n,fun | n=>n⟩
def Tryz.lays122_ren:Go.Shelf.Ren:=⟨fun | 122=>230 | 215=>241 | n=>n,fun | 3=>3 | 4=>4 | n=>n,fun | n=>n⟩
theorem Tryz.lays122:Go.Proofs.Lays.n122 Tryz.prog Tryz.lays122_ren:={
 mixed:=by kernel_rfl
 f122:=Tryz.func230.trans (congrArg some (by kernel_rfl))
 f215:=Tryz.func241.trans (congrArg some (by kernel_rfl))
 t3:=Tryz.underlying3
 a3:=Tryz.isAgg3
 z3:=Tryz.sizeOf3
 v3:=Tryz.zeroValue3
 t4:=Tryz.underlying4
 a4:=Tryz.isAgg4
 z4:=Tryz.sizeOf4
 v4:=Tryz.zeroValue4 }
open Go.RowKit in
theorem Tryz.cmp_Compare_int (x y:Int) (w:World) :
  Calls Tryz.prog 230 #[.int .i64 x,.int .i64 y] w fun e w'=>e=.returned (.int .i64 (Lib.compareInt x y))∧w'=w:=Any.cmp_Compare_int Tryz.lays122 x y w
def Tryz.lays283_ren:Go.Shelf.Ren:=⟨fun | 283=>253 | n=>n,fun | 3=>3 | 9=>9 | 4=>4 | n=>n,fun | n=>n⟩
theorem Tryz.lays283:Go.Proofs.Lays.n283 Tryz.prog Tryz.lays283_ren:={
 mixed:=by kernel_rfl
 f283:=Tryz.func253.trans (congrArg some (by kernel_rfl))
 t3:=Tryz.underlying3
 a3:=Tryz.isAgg3
 z3:=Tryz.sizeOf3
 v3:=Tryz.zeroValue3
 t4:=Tryz.underlying4
 a4:=Tryz.isAgg4
 z4:=Tryz.sizeOf4
 v4:=Tryz.zeroValue4
 t9:=Tryz.underlying9
 a9:=Tryz.isAgg9
 z9:=Tryz.sizeOf9
 v9:=Tryz.zeroValue9 }
open Go.Lib in
theorem Tryz.internal_strconv_small (i:Nat) (h:i < 100) (w:World) :
  Calls Tryz.prog 253 #[.int .i64 i] w fun e w'=>e=.returned (.string ⟨(Lib.decDigits i).toArray⟩)∧w'=w:=Any.internal_strconv_small Tryz.lays283 i h w
def Tryz.laysM284_ren:Go.Shelf.Ren:=⟨fun | 284=>254 | 129=>262 | 317=>261 | 318=>263 | n=>n,fun | 53=>179 | 3=>3 | 212=>243 | 0=>0 | 4=>4 | 46=>83 | 5=>5 | 9=>9 | n=>n,fun | 17=>1 | n=>n⟩
theorem Tryz.laysM284:Go.Proofs.LaysM.n284 Tryz.prog Tryz.laysM284_ren:={
 mixed:=by kernel_rfl
 f129:=Tryz.func262.trans (congrArg some (by kernel_rfl))
 f284:=Tryz.func254.trans (congrArg some (by kernel_rfl))
 f317:=Tryz.func261.trans (congrArg some (by kernel_rfl))
 f318:=Tryz.func263.trans (congrArg some (by kernel_rfl))
 t0:=Tryz.underlying0
 a0:=Tryz.isAgg0
 z0:=Tryz.sizeOf0
 v0:=Tryz.zeroValue0
 t3:=Tryz.underlying3
 a3:=Tryz.isAgg3
 z3:=Tryz.sizeOf3
 v3:=Tryz.zeroValue3
 t4:=Tryz.underlying4
 a4:=Tryz.isAgg4
 z4:=Tryz.sizeOf4
 v4:=Tryz.zeroValue4
 t5:=Tryz.underlying5
 a5:=Tryz.isAgg5
 z5:=Tryz.sizeOf5
 v5:=Tryz.zeroValue5
 t9:=Tryz.underlying9
 a9:=Tryz.isAgg9
 z9:=Tryz.sizeOf9
 v9:=Tryz.zeroValue9
 t46:=Tryz.underlying83
 a46:=Tryz.isAgg83
 z46:=Tryz.sizeOf83
 v46:=Tryz.zeroValue83
 t53:=Tryz.underlying179
 a53:=Tryz.isAgg179
 z53:=Tryz.sizeOf179
 v53:=Tryz.zeroValue179
 t212:=Tryz.underlying243
 a212:=Tryz.isAgg243
 z212:=Tryz.sizeOf243
 v212:=Tryz.zeroValue243
 g17:=by kernel_rfl
 i0:=by kernel_rfl
 i3:=by kernel_rfl
 i4:=by kernel_rfl
 i5:=by kernel_rfl
 i9:=by kernel_rfl
 i46:=by kernel_rfl
 i53:=by kernel_rfl
 i212:=by kernel_rfl
 m17:=by kernel_rfl }
open Go.Lib in
theorem Tryz.internal_strconv_numDigits (u:Nat) (h1:1≤u) (h2:u < 18446744073709551616) (w:World) (htab:Lib.TabIs Tryz.prog w "internal/strconv.uint64pow10" .u64 Lib.pow10Tab) :
  Calls Tryz.prog 254 #[.int .u64 u] w fun e w'=>e=.returned (.int .i64 (Lib.nDigits u))∧w'=w:=Any.internal_strconv_numDigits Tryz.laysM284 u h1 h2 w htab
def Tryz.lays285_ren:Go.Shelf.Ren:=⟨fun | 285=>255 | n=>n,fun | 37=>175 | 53=>179 | 3=>3 | 4=>4 | 51=>176 | 9=>9 | 5=>5 | 0=>0 | n=>n,fun | n=>n⟩
theorem Tryz.lays285:Go.Proofs.Lays.n285 Tryz.prog Tryz.lays285_ren:={
 mixed:=by kernel_rfl
 f285:=Tryz.func255.trans (congrArg some (by kernel_rfl))
 t0:=Tryz.underlying0
 a0:=Tryz.isAgg0
 z0:=Tryz.sizeOf0
 v0:=Tryz.zeroValue0
 t3:=Tryz.underlying3
 a3:=Tryz.isAgg3
 z3:=Tryz.sizeOf3
 v3:=Tryz.zeroValue3
 t4:=Tryz.underlying4
 a4:=Tryz.isAgg4
 z4:=Tryz.sizeOf4
 v4:=Tryz.zeroValue4
 t5:=Tryz.underlying5
 a5:=Tryz.isAgg5
 z5:=Tryz.sizeOf5
 v5:=Tryz.zeroValue5
 t9:=Tryz.underlying9
 a9:=Tryz.isAgg9
 z9:=Tryz.sizeOf9
 v9:=Tryz.zeroValue9
 t37:=Tryz.underlying175
 a37:=Tryz.isAgg175
 z37:=Tryz.sizeOf175
 v37:=Tryz.zeroValue175
 t51:=Tryz.underlying176
 a51:=Tryz.isAgg176
 z51:=Tryz.sizeOf176
 v51:=Tryz.zeroValue176
 t53:=Tryz.underlying179
 a53:=Tryz.isAgg179
 z53:=Tryz.sizeOf179
 v53:=Tryz.zeroValue179 }
open Go.RowKit Go.Sort Go.Lib in
theorem Tryz.internal_strconv_formatBase10 (blk off cap:Nat) (u:Nat) (d:Array UInt8) (w:World) (hH:Holds (fun (b:UInt8)=>Value.int .u8 (b.toNat:Int)) w blk off d) (hu:u < 10 ^ d.size) (hu64:u < 18446744073709551616) (hsz:d.size < 4611686018427387904) :
  Calls Tryz.prog 255 #[.slice (some ⟨blk,off,none⟩) d.size cap,.int .u64 u] w fun e w' =>
   e=.returned (.tuple #[])∧∃ (n v':Nat) (dk:Array UInt8),w'=(putRow (fun (b:UInt8)=>Value.int .u8 (b.toNat:Int)) w blk off dk).drewN n∧FmtInv d.size u 0 v' dk:=Any.internal_strconv_formatBase10 Tryz.lays285 blk off cap u d w hH hu hu64 hsz
def Tryz.lays217_ren:Go.Shelf.Ren:=⟨fun | 217=>249 | 266=>259 | n=>n,fun | 9=>9 | 5=>5 | 3=>3 | n=>n,fun | n=>n⟩
theorem Tryz.lays217:Go.Proofs.Lays.n217 Tryz.prog Tryz.lays217_ren:={
 mixed:=by kernel_rfl
 f217:=Tryz.func249.trans (congrArg some (by kernel_rfl))
 f266:=Tryz.func259.trans (congrArg some (by kernel_rfl))
 t3:=Tryz.underlying3
 a3:=Tryz.isAgg3
 z3:=Tryz.sizeOf3
 v3:=Tryz.zeroValue3
 t5:=Tryz.underlying5
 a5:=Tryz.isAgg5
 z5:=Tryz.sizeOf5
 v5:=Tryz.zeroValue5
 t9:=Tryz.underlying9
 a9:=Tryz.isAgg9
 z9:=Tryz.sizeOf9
 v9:=Tryz.zeroValue9 }
open Go.RowKit Go.Lib in
theorem Tryz.stringslite_IndexByte (s:ByteArray) (c:Int) (w:World) :
  Calls Tryz.prog 249 #[.string s,.int .u8 c] w fun e w'=>e=.returned (.int .i64 (Lib.indexByte s.data.toList c.toNat.toUInt8))∧w'=w:=Any.stringslite_IndexByte Tryz.lays217 s c w
def Tryz.lays212_ren:Go.Shelf.Ren:=⟨fun | 212=>152 | 263=>180 | 264=>181 | n=>n,fun | 46=>83 | 51=>176 | 146=>177 | 53=>179 | 148=>180 | n=>n,fun | n=>n⟩
theorem Tryz.lays212:Go.Proofs.Lays.n212 Tryz.prog Tryz.lays212_ren:={
 mixed:=by kernel_rfl
 f212:=Tryz.func152.trans (congrArg some (by kernel_rfl))
 f263:=Tryz.func180.trans (congrArg some (by kernel_rfl))
 f264:=Tryz.func181.trans (congrArg some (by kernel_rfl))
 t46:=Tryz.underlying83
 a46:=Tryz.isAgg83
 z46:=Tryz.sizeOf83
 v46:=Tryz.zeroValue83
 t51:=Tryz.underlying176
 a51:=Tryz.isAgg176
 z51:=Tryz.sizeOf176
 v51:=Tryz.zeroValue176
 t53:=Tryz.underlying179
 a53:=Tryz.isAgg179
 z53:=Tryz.sizeOf179
 v53:=Tryz.zeroValue179
 t146:=Tryz.underlying177
 a146:=Tryz.isAgg177
 z146:=Tryz.sizeOf177
 v146:=Tryz.zeroValue177
 t148:=Tryz.underlying180
 a148:=Tryz.isAgg180
 z148:=Tryz.sizeOf180
 v148:=Tryz.zeroValue180 }
open Go.RowKit Go.Lib in
theorem Tryz.bits_Mul (x y:Nat) (hx:x < 18446744073709551616) (hy:y < 18446744073709551616) (w:World) :
  Calls Tryz.prog 152 #[.int .u64 x,.int .u64 y] w fun e w'=>e=.returned (.tuple #[.int .u64 ((x*y / 18446744073709551616:Nat):Int),.int .u64 ((x*y % 18446744073709551616:Nat):Int)])∧w'=w:=Any.bits_Mul Tryz.lays212 x y hx hy w
def Tryz.lays105_ren:Go.Shelf.Ren:=⟨fun | 105=>234 | 212=>152 | 99=>245 | 165=>246 | 166=>233 | 170=>247 | 169=>235 | 263=>180 | 264=>181 | 206=>239 | 240=>244 | 241=>258 | 276=>257 | 277=>266 | n=>n,fun | 9=>9 | 3=>3 | 4=>4 | 20=>20 | 0=>0 | 46=>83 | 109=>164 | 5=>5 | 72=>220 | 76=>224 | 51=>176 | 146=>177 | 53=>179 | 148=>180 | 70=>218 | 37=>175 | 75=>223 | 127=>233 | 164=>239 | 80=>208 | n=>n,fun | n=>n⟩
theorem Tryz.lays105:Go.Proofs.Lays.n105 Tryz.prog Tryz.lays105_ren:={
 mixed:=by kernel_rfl
 f99:=Tryz.func245.trans (congrArg some (by kernel_rfl))
 f105:=Tryz.func234.trans (congrArg some (by kernel_rfl))
 f165:=Tryz.func246.trans (congrArg some (by kernel_rfl))
 f166:=Tryz.func233.trans (congrArg some (by kernel_rfl))
 f169:=Tryz.func235.trans (congrArg some (by kernel_rfl))
 f170:=Tryz.func247.trans (congrArg some (by kernel_rfl))
 f206:=Tryz.func239.trans (congrArg some (by kernel_rfl))
 f212:=Tryz.func152.trans (congrArg some (by kernel_rfl))
 f240:=Tryz.func244.trans (congrArg some (by kernel_rfl))
 f241:=Tryz.func258.trans (congrArg some (by kernel_rfl))
 f263:=Tryz.func180.trans (congrArg some (by kernel_rfl))
 f264:=Tryz.func181.trans (congrArg some (by kernel_rfl))
 f276:=Tryz.func257.trans (congrArg some (by kernel_rfl))
 f277:=Tryz.func266.trans (congrArg some (by kernel_rfl))
 t0:=Tryz.underlying0
 a0:=Tryz.isAgg0
 z0:=Tryz.sizeOf0
 v0:=Tryz.zeroValue0
 t3:=Tryz.underlying3
 a3:=Tryz.isAgg3
 z3:=Tryz.sizeOf3
 v3:=Tryz.zeroValue3
 t4:=Tryz.underlying4
 a4:=Tryz.isAgg4
 z4:=Tryz.sizeOf4
 v4:=Tryz.zeroValue4
 t5:=Tryz.underlying5
 a5:=Tryz.isAgg5
 z5:=Tryz.sizeOf5
 v5:=Tryz.zeroValue5
 t9:=Tryz.underlying9
 a9:=Tryz.isAgg9
 z9:=Tryz.sizeOf9
 v9:=Tryz.zeroValue9
 t20:=Tryz.underlying20
 a20:=Tryz.isAgg20
 z20:=Tryz.sizeOf20
 v20:=Tryz.zeroValue20
 t37:=Tryz.underlying175
 a37:=Tryz.isAgg175
 z37:=Tryz.sizeOf175
 v37:=Tryz.zeroValue175
 t46:=Tryz.underlying83
 a46:=Tryz.isAgg83
 z46:=Tryz.sizeOf83
 v46:=Tryz.zeroValue83
 t51:=Tryz.underlying176
 a51:=Tryz.isAgg176
 z51:=Tryz.sizeOf176
 v51:=Tryz.zeroValue176
 t53:=Tryz.underlying179
 a53:=Tryz.isAgg179
 z53:=Tryz.sizeOf179
 v53:=Tryz.zeroValue179
 t70:=Tryz.underlying218
 a70:=Tryz.isAgg218
 z70:=Tryz.sizeOf218
 v70:=Tryz.zeroValue218
 t72:=Tryz.underlying220
 a72:=Tryz.isAgg220
 z72:=Tryz.sizeOf220
 v72:=Tryz.zeroValue220
 t75:=Tryz.underlying223
 a75:=Tryz.isAgg223
 z75:=Tryz.sizeOf223
 v75:=Tryz.zeroValue223
 t76:=Tryz.underlying224
 a76:=Tryz.isAgg224
 z76:=Tryz.sizeOf224
 v76:=Tryz.zeroValue224
 t109:=Tryz.underlying164
 a109:=Tryz.isAgg164
 z109:=Tryz.sizeOf164
 v109:=Tryz.zeroValue164
 t127:=Tryz.underlying233
 a127:=Tryz.isAgg233
 z127:=Tryz.sizeOf233
 v127:=Tryz.zeroValue233
 t146:=Tryz.underlying177
 a146:=Tryz.isAgg177
 z146:=Tryz.sizeOf177
 v146:=Tryz.zeroValue177
 t148:=Tryz.underlying180
 a148:=Tryz.isAgg180
 z148:=Tryz.sizeOf180
 v148:=Tryz.zeroValue180
 t164:=Tryz.underlying239
 a164:=Tryz.isAgg239
 z164:=Tryz.sizeOf239
 v164:=Tryz.zeroValue239 }
theorem Tryz.Builder_Extra_105:Builder.Extra Tryz.prog Tryz.lays105_ren:={
 sizeBuilder:=by kernel_rfl
 liesBuilder:=by kernel_rfl
 t5:=Tryz.underlying5
 a5:=Tryz.isAgg5
 z5:=Tryz.sizeOf5
 v5:=Tryz.zeroValue5
 infoByte:=by kernel_rfl
 cellsByte:=by kernel_rfl
 sizeByte:=by kernel_rfl
 neB5:=by decide }
open Go.RowKit Go.Lib in
theorem Tryz.strings_Repeat (s:ByteArray) (c:Nat) (w:World) (hc:c≤9223372036854775807) (hlen:s.size*c≤140737488355328) :
  Calls Tryz.prog 234 #[.string s,.int .i64 c] w fun e w'=>e=.returned (.string ⟨(Lib.repeatL s.data.toList c).toArray⟩)∧Below w.heap.size w w':=Any.strings_Repeat Tryz.lays105 Tryz.Builder_Extra_105 s c w hc hlen
open Go.RowKit Go.Lib in
theorem Tryz.lays166:Go.Proofs.Lays.n166 Tryz.prog Tryz.lays105_ren:={ Tryz.lays105 with }
open Go.RowKit in
theorem Tryz.Builder_WriteString (B b:Nat) (bs:List Value) (s:ByteArray) (w:World) (h:Lib.IsBuilder 220 5 B b bs w) (hlen:bs.length+s.size≤140737488355328) (hBw:B≤w.heap.size) :
  Calls Tryz.prog 233 #[.pointer (some ⟨b,0,none⟩),.string s] w fun e w'=>e=.returned (.tuple #[.int .i64 s.size,.nilIface])∧(Lib.BuilderAt 220 5 B b (.pointer (some ⟨b,0,none⟩)) (bs++Lib.strCells s) w'∧Below B w w') :=
 Any.Builder_WriteString Tryz.lays166 Tryz.Builder_Extra_105 B b bs s w h hlen hBw
end Go.Proofs
namespace Go.Proofs.YteappjogmnogcaaGreatDoor
set_option maxRecDepth 100000
set_option linter.unusedSimpArgs false
set_option linter.unusedVariables false
set_option linter.unusedSectionVars false
set_option maxHeartbeats 16000000
open Go Tryz
section
open Go.RowKit
def cmpN (m n:Nat):Int:=if m<n then -1 else if n<m then 1 else 0
theorem z7y {m n:Nat} (h:m<n):cmpN m n=-1:=by unfold cmpN;rw[if_pos h]
theorem z8b {m n:Nat} (h:n<m):cmpN m n=1:=by unfold cmpN;rw[if_neg (by omega),if_pos h]
theorem y1x {m n:Nat} (h:m=n):cmpN m n=0:=by unfold cmpN;rw[if_neg (by omega),if_neg (by omega)]
theorem y5g (x:Int) (w:World):Calls prog 242 #[.int .u64 x] w fun e w'=>e=.returned (.bool false)/\w=w':=by
 have h:(x != x)=false:=by simp
 go_enter func242,ntmps242
 go_wp2;go_ret;exact⟨rfl,rfl⟩
theorem x3g (x y:Nat) (w:World):Calls prog 231 #[.int .u64 (x:Int),.int .u64 (y:Int)] w fun e w'=>e=.returned (.int .i64 (cmpN x y))/\w=w':=by
 rcases Nat.lt_trichotomy x y with h|h|h
 ·have c:=z7y h;have d:=qh c;clear c
  go_enter func231,ntmps231
  go_wp2_with (go_at_call 242;refine(y5g _ _).mono ?_;rintro e w' ⟨rfl,rfl⟩)
  go_ret;exact⟨z5v d.out.symm,rfl⟩
 ·subst h;have c:=y1x (rfl:x=x);have d:=qh c;clear c
  go_enter func231,ntmps231
  go_wp2_with (go_at_call 242;refine(y5g _ _).mono ?_;rintro e w' ⟨rfl,rfl⟩)
  go_ret;exact⟨z5v d.out.symm,rfl⟩
 have c:=z8b h;have d:=qh c;clear c
 go_enter func231,ntmps231
 go_wp2_with (go_at_call 242;refine(y5g _ _).mono ?_;rintro e w' ⟨rfl,rfl⟩)
 go_ret;exact⟨z5v d.out.symm,rfl⟩
theorem y2p (xs:List Nat) (k i:Nat):nth (xs.drop k) i=nth xs (k+i):=by simp[nth,List.getD_eq_getElem?_getD]
theorem y6c (xs:List Nat) (j:Nat):bval xs=bval (xs.take j)+BB ^ j*nth xs j+BB ^ (j+1)*bval (xs.drop (j+1)):=by
 rw[<- z0n];by_cases h:j+1<=xs.length
 ·have:=z4m (xs.take (j+1)) (xs.drop (j+1));rw[List.take_append_drop,List.length_take,Nat.min_eq_left h] at this;exact this
 rw[List.take_of_length_le (by omega),List.drop_of_length_le (by omega)];simp[bval]
theorem y2f {xs c:List Nat} (k:xs.length=c.length) (h:∀ j,j<xs.length->nth xs j=nth c j):xs=c:=by
 apply List.ext_getElem k
 intro i d g;have:=h i d;rw[y1i xs i d,y1i c i g] at this;exact this
theorem y6s {xs c:List Nat} (l:Small xs) (g:xs.length=c.length) (j:Nat) (h:∀ i,j<i->i<xs.length->nth xs i=nth c i) (d:nth xs j<nth c j):bval xs<bval c:=by
 rw[y6c xs j,y6c c j];have e:xs.drop (j+1)=c.drop (j+1):=y2f (by simp[g]) (fun i hi=>by
  rw[y2p,y2p];rw[List.length_drop] at hi;exact h _ (by omega) (by omega))
 rw[e];have m:bval (xs.take j)<BB ^ j:=Nat.lt_of_lt_of_le (z3z (z4p l j)) (Nat.pow_le_pow_right z1y (by rw[List.length_take];omega));have k:BB ^ j*(nth xs j+1)<=BB ^ j*nth c j:=Nat.mul_le_mul_left _ d;rw[Nat.mul_add] at k;omega
theorem y9q {m n:Nat} (h:(toB m).length<(toB n).length):m<n:=by
 rcases Nat.lt_or_ge m n with c|c
 ·exact c
 have:=z2j c;omega
def CmpEnd (m n:Nat) (w:World) (e:Ending) (w':World):Prop:=e=.returned (.int .i64 (cmpN m n))/\Below w.heap.size w w'
theorem cmpint (x y:Nat) (w:World):Calls prog 230 #[.int .i64 (x:Int),.int .i64 (y:Int)] w fun e w'=>e=.returned (.int .i64 (cmpN x y))/\w=w':=by
 refine(Tryz.cmp_Compare_int x y w).mono fun e w' h=>⟨?_,h.2.symm⟩;rw[h.1]
 apply z5v
 unfold Lib.compareInt cmpN
 repeat' split
 all_goals first|rfl|omega
theorem z5w (vx vy:Value) (m n:Nat) (w:World) (Y:Sl w .u64 vx (toB m)) (T:Sl w .u64 vy (toB n)) :
  Calls prog 220 #[vx,vy] w (CmpEnd m n w):=by
 obtain⟨ax,cx,bx,ox,rfl,z,W,J,R,d⟩:=Y.open;obtain⟨ay,cy,N,oy,rfl,A,X,H,Q,c⟩:=T.open;unfold maxLen at J H;clear Y T;by_cases K:(toB m).length=(toB n).length
 ·have G:(((toB m).length:Int) != ((toB n).length:Int))=false:=by rw[K];simp
  go_enter func220,ntmps220
  have u:=qh K;clear K;go_wp2;clear G
  go_loopw [19] (fun i wr=>∃ k:Nat,k<=(toB m).length/\i=.int .i64 k/\(∀ j,(toB m).length-1-k<j->j<(toB m).length->nth (toB m) j=nth (toB n) j)/\(k=(toB m).length->0<k->nth (toB m) 0=nth (toB n) 0)/\Below w.heap.size w wr) (fun i _=>(toB m).length-(intOf i).toNat)
  case atStart=>exact⟨0,Nat.zero_le _,rfl,fun j D C=>by omega,fun _ h=>absurd h (Nat.lt_irrefl _),blr⟩
  obtain⟨k,hk,rfl,E,o,hb⟩:=hrel;have L:=qh E;clear E;have O:=qh o;clear o;have B:=qh hb;clear hb;by_cases a1:k<(toB m).length
  ·obtain rfl:=z (by omega);obtain rfl:=A (by have:=u.out;omega);have c1:=(B.out.cell (p:=⟨bx,ox+((toB m).length-1-k),none⟩) (R (by omega))).trans (d ((toB m).length-1-k) (by omega));have c2:=(B.out.cell (p:=⟨N,oy+((toB m).length-1-k),none⟩) (Q (by have:=u.out;omega))).trans (c ((toB m).length-1-k) (by have:=u.out;omega));have U:(((toB m).length:Int)-1-(k:Int))<((toB n).length:Int):=by have:=u.out;omega
   have Z:0<=(((toB m).length:Int)-1-(k:Int)):=by omega
   clear z A d c
   rcases Nat.lt_trichotomy (nth (toB m) ((toB m).length-1-k)) (nth (toB n) ((toB m).length-1-k)) with g|g|g
   ·have s:=z7y g;have l:cmpN m n=-1:=z7y (by
     have:=y6s (z0x m) u.out ((toB m).length-1-k) (fun i D C=>L.out i D C) g
     rwa [z1b,z1b] at this)
    clear g;have F:=qh l;clear l;have I:=qh s;clear s
    go_wp2_with fail
    go_quiet ((go_at_call 231;exact Calls.quiet_of_same ((x3g _ _ _).mono fun e P h=>⟨by rw[h.1,I.out],h.2.symm⟩)))
    go_wp2;go_ret;exact⟨z5v F.out.symm,below_drewN B.out _⟩
   ·have s:=y1x g;have S:=qh g;clear g;have I:=qh s;clear s
    go_wp2_with fail
    go_quiet ((go_at_call 231;exact Calls.quiet_of_same ((x3g _ _ _).mono fun e P h=>⟨by rw[h.1,I.out],h.2.symm⟩)))
    go_wp2;go_roundw
    case rel =>
     refine⟨k+1,by omega,by go_num,fun j D C=>?_,fun D _=>?_,below_drewN B.out _⟩
     ·by_cases e:j=(toB m).length-1-k
      ·rw[e];exact S.out
      exact L.out j (by omega) C
     have:=S.out
     rwa [show (toB m).length-1-k=0 by omega] at this
    simp[intOf];omega
   have s:=z8b g;have l:cmpN m n=1:=z8b (by
    have:=y6s (z0x n) u.out.symm ((toB m).length-1-k) (fun i D C=>(L.out i D (by rw[u.out];exact C)).symm) g
    rwa [z1b,z1b] at this)
   clear g;have F:=qh l;clear l;have I:=qh s;clear s
   go_wp2_with fail
   go_quiet ((go_at_call 231;exact Calls.quiet_of_same ((x3g _ _ _).mono fun e P h=>⟨by rw[h.1,I.out],h.2.symm⟩)))
   go_wp2;go_ret;exact⟨z5v F.out.symm,below_drewN B.out _⟩
  go_wp2;go_ret;have l:cmpN m n=0:=y1x (by
   have e:toB m=toB n:=y2f u.out (fun j hj=>by
    by_cases h0:j=0
    ·subst h0;exact O.out (by omega) (by omega)
    exact L.out j (by omega) hj)
   rw[<- z1b m,e,z1b])
  exact⟨z5v l.symm,B.out⟩
 have G:(((toB m).length:Int) != ((toB n).length:Int))=true:=by rw[bne_iff_ne];omega
 have l:cmpN (toB m).length (toB n).length=cmpN m n:=by
  rcases Nat.lt_or_ge (toB m).length (toB n).length with h|h
  ·rw[z7y h,z7y (y9q h)]
  rw[z8b (show (toB n).length<(toB m).length by omega),z8b (y9q (by omega))]
 have F:=qh l;clear l;clear K z A d c
 go_enter func220,ntmps220
 go_wp2_with (go_at_call 230;refine(cmpint _ _ _).mono ?_;rintro e P ⟨rfl,rfl⟩)
 go_ret;exact⟨z5v F.out,blr⟩
end
section
def padj:Nat->Nat->List UInt8|0,_=>[] | j+1,b=>padj j (b / 10)++[UInt8.ofNat (48+b % 10)]
theorem u1d (j:Nat):∀ (n b:Nat),1<=n->b<10 ^ j->dec (n*10 ^ j+b)=dec n++padj j b:=by
 induction j with
 | zero=>intro n b _ hb;simp at hb;subst hb;simp[padj]
 | succ j ih =>
  intro n b c hb;have h:10<=n*10 ^ (j+1)+b:=by
   have:1*10 ^ (j+1)<=n*10 ^ (j+1):=Nat.mul_le_mul_right _ c;have:1<=10 ^ j:=Nat.pow_pos (by omega);rw[Nat.pow_succ] at *;omega
  rw[y1t (by omega)];have d:(n*10 ^ (j+1)+b) / 10=n*10 ^ j+b / 10:=by rw[Nat.pow_succ,<- Nat.mul_assoc];omega
  have g:(n*10 ^ (j+1)+b) % 10=b % 10:=by rw[Nat.pow_succ,<- Nat.mul_assoc];omega
  rw[d,g,ih n (b / 10) c (by rw[Nat.pow_succ] at hb;omega)];simp[padj]
theorem v1c (j:Nat):padj j 0=List.replicate j 48:=by
 induction j with
 | zero=>rfl
 | succ j ih=>simp only[padj,Nat.zero_div,Nat.zero_mod,ih];rw[List.replicate_succ'];rfl
theorem u2n (j:Nat):∀ b,1<=j->b<10 ^ j->padj j b=List.replicate (j-(dec b).length) 48++dec b:=by
 induction j with
 | zero=>intro b h;omega
 | succ j ih =>
  intro b _ hb;by_cases h:b<10
  ·simp only[padj];rw[z2x h,Nat.div_eq_of_lt h,v1c,Nat.mod_eq_of_lt h];simp
  have d:1<=j:=by
   rcases Nat.eq_zero_or_pos j with c|c
   ·subst c;simp at hb;omega
   exact c
  simp only[padj];rw[ih (b / 10) d (by rw[Nat.pow_succ] at hb;omega),y1t h];simp
theorem x9d {n b:Nat} (hn:1<=n) (hb:b<BB):dec (b+BB*n)=dec n++(List.replicate (9-(dec b).length) 48++dec b):=by
 rw[z0t] at *;have h:b+1000000000*n=n*10 ^ 9+b:=by omega
 rw[h,u1d 9 n b hn (by omega),u2n 9 b (by omega) (by omega)]
theorem v5y {b:Nat} (hb:b<BB):(dec b).length<=9:=by rw[z0t] at hb;exact z3u.2 ⟨by omega,by omega⟩
noncomputable def topB (n k:Nat):List UInt8:=if k=0 then [] else dec (bval ((toB n).drop ((toB n).length-k)))
theorem x0t (n:Nat):topB n 0=[]:=rfl
theorem y3t (xs:List Nat) (k:Nat) (c:k<xs.length):bval (xs.drop (xs.length-(k+1)))=nth xs (xs.length-1-k)+BB*bval (xs.drop (xs.length-k)):=by
 rw[List.drop_eq_getElem_cons (by omega),show xs.length-(k+1)+1=xs.length-k by omega];simp only[bval];rw[y1i xs _ (by omega)]
 congr 2
 omega
theorem v4r (n:Nat) (h:n≠0):topB n 1=dec (nth (toB n) ((toB n).length-1)):=by
 have:=y1z h;unfold topB;rw[if_neg (by omega),y3t (toB n) 0 (by omega),Nat.sub_zero,Nat.sub_zero,List.drop_length];simp[bval]
theorem v8g (n:Nat) (h:n≠0) (k:Nat) (g:1<=k) (d:k<=(toB n).length):1<=bval ((toB n).drop ((toB n).length-k)):=by
 induction k with
 | zero=>omega
 | succ k ih =>
  rw[y3t (toB n) k d]
  rcases Nat.eq_zero_or_pos k with c|c
  ·subst c;rw[Nat.sub_zero];have:=y9i h;omega
  have:=ih c (by omega);have:BB*1<=BB*bval ((toB n).drop ((toB n).length-k)):=Nat.mul_le_mul_left _ this;have:=z1y;omega
theorem v2m (n:Nat) (h:n≠0) (k:Nat) (d:1<=k) (c:k<(toB n).length) :
  topB n (k+1)=topB n k++(List.replicate (9-(dec (nth (toB n) ((toB n).length-1-k))).length) 48++dec (nth (toB n) ((toB n).length-1-k))):=by
 unfold topB;rw[if_neg (by omega),if_neg (by omega),y3t (toB n) k c,x9d (v8g n h k d (by omega)) (z0x n _)]
theorem x5t (n:Nat) (h:n≠0):topB n (toB n).length=dec n:=by
 have:=y1z h;unfold topB;rw[if_neg (by omega),Nat.sub_self,List.drop_zero,z1b]
theorem x4k (n k:Nat):(topB n k).length<=9*k:=by
 unfold topB
 split
 ·simp
 have d:Small ((toB n).drop ((toB n).length-k)):=fun i=>by rw[y2p];exact z0x n _
 have c:=z3z d;refine z3u.2 ⟨Nat.lt_of_lt_of_le c ?_,by omega⟩;rw[pow9];exact Nat.pow_le_pow_right z1y (by rw[List.length_drop];omega)
end
section
open Go.RowKit Go.Sort
def Tab (w:World):Prop:=Lib.TabIs prog w "internal/strconv.uint64pow10" .u64 Lib.pow10Tab
theorem Tab.below {B:Nat} {w c:World} (h:Tab w) (hb:Below B w c) (d:w.heap.size<=B):Tab c:=(Lib.tabBelow_of_tabIs h) c (hb.mono d)
theorem below_grow {B:Nat} {a w:World} (h:Below B a w) (os:Array Obj) (c:B<=w.heap.size):Below B a (grow w os) :=
 h.trans ⟨rfl,rfl,rfl,by simp[grow],fun k d=>by
  show (w.heap++os)[k]?=_;rw[Array.getElem?_append_left (by omega)]⟩
abbrev encB:UInt8->Value:=fun b=>.int .u8 (b.toNat:Int)
theorem holds_zero0 (w:World) (T:TypeId) (c:Nat) (h:c<=24):Holds encB (w.alloc (.cells Lib.zeros24 T)) w.heap.size 0 (Array.replicate c (0:UInt8)):=fun j d=>by
 have g:j<c:=by simpa using d
 refine⟨?_,World.frozen?_alloc_new _ _ _ _⟩;rw[World.cell?_alloc_new,Lib.zeros24_at _ (by omega),getElem!_pos _ j d];simp
theorem v4i (w:World) (o:Obj) (d:Array UInt8) (k:Nat):∃ os,(putRow encB (w.alloc o) w.heap.size 0 d).drewN k=grow (w.drewN k) os:=by
 rw[alloc_eq_grow];obtain⟨c,_,e⟩:=putRow_grow_new encB w #[o] w.heap.size 0 d nlr;exact⟨c,by rw[e];rfl⟩
set_option maxRecDepth 100000 in
theorem x8i (u:Nat) (p:u<18446744073709551616) (w:World) (d:Tab w) :
  Calls prog 243 #[.int .u64 (u:Int),.int .i64 10] w fun e w'=>e=.returned (.string (str (dec u)))/\Below w.heap.size w w':=by
 by_cases D:u<100
 ·go_enter func243,ntmps243
  go_wp2_with (go_at_call 253;refine(Tryz.internal_strconv_small u D _).mono ?_;rintro e w' ⟨rfl,rfl⟩)
  go_ret;exact⟨rfl,blr⟩
 have s:1<=u:=by omega
 have z:Lib.nDigits u<=20:=Lib.nDigits_le20 u p;have i:prog.arrayLen 234=24:=by simp[Program.arrayLen,underlying234]
 have B:∀ W,(Instr.sliceAt 234 (.pointer (some ⟨w.heap.size,0,none⟩)) none (some (.int .i64 (Lib.nDigits u:Int))) none).run prog W=.ok (.slice (some ⟨w.heap.size,0,none⟩) (Lib.nDigits u) 24) W:=fun W=>by
  rw[run_sliceAt_array_h W 234 ⟨w.heap.size,0,none⟩ (by simp[Program.arrayLen,Program.elem,underlying234]) .i64 (Lib.nDigits u:Int) (by omega) (by rw[i];omega)];go_simp
 have g:=holds_zero0 w 234 (Lib.nDigits u) (by omega);have c:=Tryz.internal_strconv_formatBase10 w.heap.size 0 24 u (Array.replicate (Lib.nDigits u) 0) (w.alloc (.cells Lib.zeros24 234)) g (by rw[Array.size_replicate];exact Lib.lt_pow_nDigits u) p (by rw[Array.size_replicate];omega);rw[Array.size_replicate] at c;have o:=qh g;clear g i;have C:=qh d;clear d
 go_enter func243,ntmps243
 go_wp2_with (go_at_call 254;refine(Tryz.internal_strconv_numDigits u s p _ (Lib.tabIs_alloc C.out _)).mono ?_;rintro e w' ⟨rfl,rfl⟩)
 refine c.mono ?_;rintro e w' ⟨rfl,k,H,l,rfl,m⟩;have F:(convert 175 9 (.slice (some ⟨w.heap.size,0,none⟩) (Lib.nDigits u) 24)).run prog ((putRow encB (w.alloc (.cells Lib.zeros24 234)) w.heap.size 0 l).drewN k)=.ok (.string ⟨(Lib.decDigits u).toArray⟩) ((putRow encB (w.alloc (.cells Lib.zeros24 234)) w.heap.size 0 l).drewN k):=by
  have h:=run_convert_bytes_back (P:=prog) ((putRow encB (w.alloc (.cells Lib.zeros24 234)) w.heap.size 0 l).drewN k) 175 9 5 ⟨w.heap.size,0,none⟩ 24 (Lib.decDigits u) underlying175 underlying5 underlying9 (fun j A=>by
   rw[Lib.row_is_numeral m j A,Lib.add_plain,World.cell?_drewN];exact cell?_putRow encB _ w.heap.size 0 _ l o.out (by rw[m.size,Array.size_replicate]) j (by rw[m.size];rw[Lib.decDigits_length] at A;exact A))
  rw[Lib.decDigits_length] at h;exact h
 have G:=qh m;clear m;go_wp2;go_ret;obtain⟨os,E⟩:=v4i w (.cells Lib.zeros24 234) l k;refine⟨rfl,?_⟩;have:=below_grow (below_drewN (Below.refl w.heap.size w) k) os nlr;rw[<- E] at this;exact this
theorem u1e (u:Nat) (g:u<18446744073709551616) (w:World) (c:Tab w) :
  Calls prog 232 #[.int .u64 (u:Int),.int .i64 10] w fun e w'=>e=.returned (.string (str (dec u)))/\Below w.heap.size w w':=by
 have d:=qh c;clear c
 go_enter func232,ntmps232
 go_wp2_with fail
 refine(x8i u g w d.out).mono ?_;rintro e w' ⟨rfl,hb⟩;have h:=qh hb;clear hb;go_wp2;go_ret;exact⟨rfl,h.out⟩
end
section
open Go.RowKit
abbrev TB:TypeId:=220
abbrev TU8:TypeId:=5
theorem y5f {B b m:Nat} {p:Value} {o:List Value} {w u:World} (h:Lib.BuilderAt TB TU8 B b p o w) (hb:Below m w u) (E:w.heap.size<=m):Lib.BuilderAt TB TU8 B b p o u:=by
 obtain⟨C,v,s,c,l⟩:=h;have z:=(Array.getElem?_eq_some_iff.1 s).1;refine⟨C,v,by rw[hb.block b (by omega)];exact s,⟨c.1,?_⟩,l⟩
 rcases c.2 with D|⟨g,k,j,rfl,A,d,i⟩
 ·exact .inl D
 have:=(Array.getElem?_eq_some_iff.1 d).1;exact .inr ⟨g,k,j,rfl,A,by rw[hb.block g (by omega)];exact d,i⟩
theorem z9r {B b g:Nat} {c:List Value} {w i:World} (h:Lib.IsBuilder TB TU8 B b c w) (hb:Below g w i) (d:w.heap.size<=g):Lib.IsBuilder TB TU8 B b c i:=by
 rcases h with h|h
 ·exact .inl (y5f h hb d)
 exact .inr (y5f h hb d)
theorem byteCells_append (l r:List UInt8):Lib.byteCells l++Lib.byteCells r=Lib.byteCells (l++r):=by simp[Lib.byteCells]
theorem z6f (l:List UInt8):Lib.strCells (str l)=Lib.byteCells l:=by simp[Lib.strCells,Lib.byteCells,str]
def TextEnd (n:Nat) (w:World) (e:Ending) (w':World):Prop:=e=.returned (.string (str (dec n)))/\Below w.heap.size w w'
theorem v3n (g:Value) (w:World) (d:Sl w .u64 g (toB 0)):Calls prog 221 #[g] w (TextEnd 0 w):=by
 obtain⟨h,i,rfl⟩:=d.shape;have c:(toB 0).length=0:=rfl;rw[c];clear c d
 go_enter func221,ntmps221
 go_wp2;go_ret;exact⟨v2u (by rw[z2x (by omega)];rfl),blr⟩
theorem v1f (w:World):Lib.IsBuilder TB TU8 w.heap.size w.heap.size (Lib.byteCells []) (w.alloc (.cells #[.pointer none,.slice none 0 0] TB)) :=
 .inl ⟨nlr,.slice none 0 0,Go.heap_alloc_new w _,World.ownsRow_nil _ _ _ _,by simp[Value.ownBlock]⟩
theorem rep48 (c:Nat):(⟨(Lib.repeatL (⟨#[48]⟩:ByteArray).data.toList c).toArray⟩:ByteArray)=str (List.replicate c 48):=by
 have:=Lib.repeatL_replicate 48 1 c;simp at this;show str (Lib.repeatL [48] c)=_;rw[this]
theorem v4e (vx:Value) (n:Nat) (h0:n≠0) (w:World) (G:Sl w .u64 vx (toB n)) (lx:(toB n).length<=100000) (ht:Tab w):Calls prog 221 #[vx] w (TextEnd n w):=by
 obtain⟨ax,cx,bx,ox,rfl,H,a7,S,U,g⟩:=G.open;have hl:=y1z h0;obtain rfl:=H hl;have W:=U hl;have a2:(((toB n).length:Int)==0)=false:=by rw[beq_eq_false_iff_ne];omega
 have HT:=qh ht;clear ht;have H0:=qh h0;clear h0;unfold maxLen at S;clear G H U
 go_enter func221,ntmps221
 go_wp2;clear a2
 go_loopw [11] (fun i wr=>∃ k:Nat,k<=(toB n).length/\i=.int .i64 k/\Lib.IsBuilder TB TU8 w.heap.size w.heap.size (Lib.byteCells (topB n k)) wr/\Below w.heap.size w wr) (fun i _=>(toB n).length-(intOf i).toNat)
 case atStart=>exact⟨0,Nat.zero_le _,rfl,v1f w,blr.alloc nlr _⟩
 obtain⟨k,hk,rfl,z,hb⟩:=hrel;have Z:=qh z;clear z;have F:=qh hb;clear hb;have A:=F.out.size;by_cases a3:k<(toB n).length
 ·have c1:=(F.out.cell (p:=⟨bx,ox+((toB n).length-1-k),none⟩) W).trans (g ((toB n).length-1-k) (by omega));have u:=z0x n ((toB n).length-1-k);have B:=v5y u;have C:=y7m (nth (toB n) ((toB n).length-1-k));have N:0<=(((toB n).length:Int)-1-(k:Int)):=by omega
  obtain⟨x,G⟩:=exq (nth (toB n) ((toB n).length-1-k));rw[<- G] at c1 u B C;have L:=u1e x (by rw[z0t] at u;omega) wr (HT.out.below F.out nlr);have O:=qh L;clear L;have b2:=x4k n k;have b0:(str (dec x)).size<=9:=by rw[z1i];exact B
  have a8:1<=(str (dec x)).size:=by rw[z1i];exact C
  have HX:=qh G;clear G;clear g u C B;by_cases J:k=0
  ·subst J;rw[Nat.sub_zero] at c1;clear N
   go_wp2_with fail
   refine O.out.mono ?_;rintro e X ⟨rfl,c⟩;have j:=z9r Z.out c nlr;have D:=qh j;clear j;have d:=qh c;clear c;have K:=d.out.size
   go_wp2_with fail
   refine(Tryz.Builder_WriteString w.heap.size w.heap.size _ (str (dec x)) X D.out (by rw[x0t];simp[Lib.byteCells];omega) (by omega)).mono ?_;rintro e w2 ⟨rfl,l,h⟩;have E:=qh l;clear l;have s:=qh h;clear h;go_wp2;go_roundw
   case rel =>
    refine⟨1,by omega,rfl,.inr ?_,F.out.trans ((d.out.mono A).trans s.out)⟩;have:=E.out;rw[x0t,z6f,byteCells_append,HX.out,Nat.sub_zero,List.nil_append] at this;rw[v4r n H0.out];exact this
   simp[intOf];omega
  have b1:0<k:=by omega
  clear J
  go_wp2_with fail
  refine O.out.mono ?_;rintro e X ⟨rfl,c⟩;have j:=z9r Z.out c nlr;have D:=qh j;clear j;have d:=qh c;clear c;have K:=d.out.size
  go_wp2_with fail
  have e9:(9-((str (dec x)).size:Int))=((9-(str (dec x)).size:Nat):Int):=by omega
  rw[e9];clear e9;refine(Tryz.strings_Repeat ⟨#[48]⟩ (9-(str (dec x)).size) X (by omega) (by show 1*(9-(str (dec x)).size)<=140737488355328;omega)).mono ?_;rintro e w2 ⟨rfl,h⟩;rw[rep48];have I:=z9r D.out h nlr;have E:=qh I;clear I;have s:=qh h;clear h;have a6:=s.out.size
  go_wp2_with fail
  refine(Tryz.Builder_WriteString w.heap.size w.heap.size _ (str (List.replicate (9-(str (dec x)).size) 48)) w2 E.out (by rw[Lib.byteCells_length,z1i,List.length_replicate];omega) (by omega)).mono ?_;rintro e w3 ⟨rfl,o,R⟩;have a1:=qh o;clear o;have Q:=qh R;clear R;have a9:=Q.out.size
  go_wp2_with fail
  refine(Tryz.Builder_WriteString w.heap.size w.heap.size _ (str (dec x)) w3 (.inr a1.out) (by rw[List.length_append,Lib.byteCells_length,z6f,Lib.byteCells_length,List.length_replicate];omega) (by omega)).mono ?_;rintro e w4 ⟨rfl,m,T⟩;have a4:=qh m;clear m;have Y:=qh T;clear T;go_wp2;go_roundw
  case rel =>
   refine⟨k+1,by omega,by go_num,.inr ?_,F.out.trans ((d.out.mono A).trans ((s.out.mono (by omega)).trans (Q.out.trans Y.out)))⟩;have:=a4.out;rw[z6f,z6f,byteCells_append,byteCells_append,z1i,List.append_assoc,HX.out] at this;rw[v2m n H0.out k (by omega) a3];exact this
  simp[intOf];omega
 go_wp2_with fail
 have P:k=(toB n).length:=by omega
 refine(Tryz.Builder_String_any w.heap.size w.heap.size (topB n k) wr Z.out A).mono ?_;rintro e X ⟨rfl,c⟩;have a5:=qh P;clear P;have d:=qh c;clear c;go_wp2;go_ret;exact⟨v2u (by rw[a5.out,x5t n H0.out];rfl),F.out.trans d.out⟩
theorem y0s (c:Value) (n:Nat) (w:World) (g:Sl w .u64 c (toB n)) (h:(toB n).length<=100000) (i:Tab w):Calls prog 221 #[c] w (TextEnd n w):=by
 by_cases d:n=0
 ·subst d;exact v3n c w g
 exact v4e c n d w g h i
end
section
open Go.RowKit
theorem z8m (s:ByteArray) (h:0<s.size):s.toList.isEmpty=false:=by
 rw[Lib.toList_data];cases c:s.data.toList with
 | nil =>
      have:s.size=0:=by rw[<- z1q,bts,c];rfl
      omega
 | cons a l=>rfl
theorem y1b (s:ByteArray) (h:0<s.size):¬ s.toList=[]:=by
 have:=z8m s h;intro e;rw[e] at this;simp at this
theorem u4a (s:ByteArray) (h:s.size=0):s.toList=[]:=by
 rw[Lib.toList_data];exact List.length_eq_zero_iff.1 (by have:=z1q s;unfold bts at this;omega)
theorem u2c (c:UInt8) (h:c≠48):((c.toNat:Int)==48)=false:=by
 rw[beq_eq_false_iff_ne];intro e;apply h;apply UInt8.toNat_inj.1;show c.toNat=48;omega
theorem v7k {c:UInt8} (g:(48:Int)<=(c.toNat:Int)) (d:(c.toNat:Int)<=57):dgt c=true:=by
 simp[dgt];omega
theorem u5x {c:UInt8} (d:(c.toNat:Int)<48):dgt c=false:=by simp[dgt];omega
theorem u6f {c:UInt8} (d:(57:Int)<(c.toNat:Int)):dgt c=false:=by simp[dgt];omega
theorem x7c (s:ByteArray) (w:World) (m:1<=s.size) (E:s.size<=1000) (B:s.size=1\/(bts s).headD 0≠48) :
  Calls prog 204 #[.string s] w fun e w'=>e=.returned (.bool (dgts (bts s)))/\w=w':=by
 have C:s.toList.isEmpty=false:=z8m s m;have z:¬ s.toList=[]:=y1b s m;have A:0<s.size:=by omega
 have p:decide ((1000:Int)<(s.size:Int))=false:=by simp;omega
 by_cases G:s.size=1
 all_goals
  have l:1<s.size->((s[0].toNat:Int)==48)=false:=fun h=>u2c _ (by
                                            rw[<- x0b s A];rcases B with o|o;· omega
                                            exact o)
  try have F:=l (by omega)
  clear l
  go_enter func204,ntmps204
  go_wp2;clear z C p
  go_loop [23] (fun i=>∃ k:Nat,k<=s.size/\i=.int .i64 k/\dgts ((bts s).take k)=true) (fun i=>s.size-(intOf i).toNat)
  case atStart=>exact⟨0,Nat.zero_le _,rfl,rfl⟩
  obtain⟨k,D,rfl,g⟩:=hrel;have j:=qh g;clear g;by_cases c:k<s.size
  ·go_wp2
   ·have d:(57:Int)<(s[k].toNat:Int):=by omega
    go_ret;exact⟨z0v (y6n s k c (u6f d)).symm,rfl⟩
   ·have d:(48:Int)<=(s[k].toNat:Int):=by omega
    have u:(s[k].toNat:Int)<=57:=by omega
    go_round
    case rel=>exact⟨k+1,by omega,by go_num,by rw[y9r s k c,z7t,j.out,v7k d u];rfl⟩
    simp[intOf];omega
   have d:(s[k].toNat:Int)<48:=by assumption
   go_ret;exact⟨z0v (y6n s k c (u5x d)).symm,rfl⟩
  go_wp2;go_ret;exact⟨z0v (by rw[<- j.out,List.take_of_length_le (by rw[z1q];omega)]),rfl⟩
theorem v0n (s:ByteArray) (w:World) (o:s.size<=maxLen) :
  Calls prog 204 #[.string s] w fun e w'=>e=.returned (.bool (z1u (bts s)))/\w=w':=by
 unfold maxLen at o;by_cases i:s.size=0
 ·have c:z1u (bts s)=false:=by simp[z1u,z1q,i]
  have j:=u4a s i;have g:=qh c;clear c
  go_enter func204,ntmps204
  go_wp2;go_ret;exact⟨z0v g.out.symm,rfl⟩
 by_cases A:1000<s.size
 ·have c:z1u (bts s)=false:=by simp[z1u,z1q];intros;omega
  have g:=qh c;clear c;have c:s.toList.isEmpty=false:=z8m s (by omega);have j:¬ s.toList=[]:=y1b s (by omega)
  go_enter func204,ntmps204
  go_wp2;go_ret;exact⟨z0v g.out.symm,rfl⟩
 by_cases d:s.size=1\/(bts s).headD 0≠48
 ·refine(x7c s w (by omega) (by omega) d).mono fun e w' ⟨m,l⟩=>⟨?_,l⟩;rw[m];have:z1u (bts s)=dgts (bts s):=by
   cases k:dgts (bts s) with
   | false=>simp[z1u,k]
   | true=>exact x5d (by rw[z1q];omega) (by rw[z1q];omega) (by rw[z1q];exact d) k
  rw[this]
 have c:z1u (bts s)=false:=by
  cases u:z1u (bts s) with
  | false=>rfl
  | true=>exact absurd (by have:=(z4s u).2.2.1;rw[z1q] at this;exact this) d
 have g:=qh c;clear c;have p:0<s.size:=by omega
 have c:s.toList.isEmpty=false:=z8m s (by omega);have j:¬ s.toList=[]:=y1b s (by omega);have C:((s[0].toNat:Int)==48)=true:=by
  have:(bts s).headD 0=48:=by
   by_cases h:(bts s).headD 0=48
   ·exact h
   exact absurd (Or.inr h) d
  rw[x0b s p] at this;rw[this];rfl
 have B:1<s.size:=by
  by_cases h:s.size=1
  ·exact absurd (Or.inl h) d
  omega
 have z:decide ((1000:Int)<(s.size:Int))=false:=by simp;omega
 clear d
 go_enter func204,ntmps204
 go_wp2;go_ret;exact⟨z0v g.out.symm,rfl⟩
end
section
open Go.RowKit
def PairEnd (r:ByteArray × Nat) (w:World) (e:Ending) (w':World):Prop:=e=.returned (.tuple #[.string r.1,.int .i64 (r.2:Int)])/\Below w.heap.size w w'
def limS (n:Nat):ByteArray × Nat:=if (dec n).length<=1000 then (str (dec n),0) else (str [],2)
def vld (s:ByteArray):Bool:=z1u (bts s)
def val (s:ByteArray):Nat:=num (bts s)
def addF (s t:ByteArray):ByteArray × Nat:=if vld s&&vld t then limS (val s+val t) else (str [],1)
def subF (s t:ByteArray):ByteArray × Nat:=if vld s&&vld t then (if val s<val t then (str [],4) else (str (dec (val s-val t)),0)) else (str [],1)
def mulF (s t:ByteArray):ByteArray × Nat:=if vld s&&vld t then limS (val s*val t) else (str [],1)
def cmpF (s t:ByteArray):Int:=if vld s&&vld t then cmpN (val s) (val t) else 0
theorem u5h {s c:ByteArray} {a b:Int} (h:s=c) (d:a=b):Ending.returned (.tuple #[.string s,.int .i64 a])=.returned (.tuple #[.string c,.int .i64 b]):=by rw[h,d]
theorem x5g {s:ByteArray} (h:vld s=true):1<=s.size/\s.size<=1000:=by
 obtain⟨d,c,_⟩:=z4s h;rw[z1q] at d c;exact⟨d,c⟩
theorem x4r {s:ByteArray} (h:vld s=true):dgts (bts s)=true:=(z4s h).2.2.2
theorem x6z {l:List UInt8} (h:dgts l=true) (k:Nat) (d:l.length<=9*k):num l<BB ^ k:=by
 have c:10 ^ l.length<=10 ^ (9*k):=Nat.pow_le_pow_right (by omega) d;rw[pow9] at c;exact Nat.lt_of_lt_of_le (v8y _ h) c
theorem v3k {s:ByteArray} (h:vld s=true):val s<BB ^ 112:=x6z (x4r h) 112 (by rw[z1q];have:=x5g h;omega)
theorem z1t {s:ByteArray} (h:vld s=true):(toB (val s)).length<=112:=z6n (v3k h)
theorem z4i (s:ByteArray) (w:World) (c:s.size<=maxLen) :
  Calls prog 204 #[.string s] w fun e w'=>e=.returned (.bool (vld s))/\w=w':=v0n s w c
theorem z4z (s:ByteArray) (w:World) (h:vld s=true):Calls prog 205 #[.string s] w (BlocksEnd (val s) w):=x6n s w (x5g h).2 (x4r h)
theorem y4f (j:Value) (n:Nat) (w:World) (o:Sl w .u64 j (toB n)) (k:(toB n).length<=100000) (u:Tab w) :
  Calls prog 206 #[j] w (PairEnd (limS n) w):=by
 have d:=x4k n (toB n).length;have s:(dec n).length<=900000\/n=0:=by
  by_cases m:n=0
  ·exact .inr m
  rw[x5t n m] at d;exact .inl (by omega)
 have c:(dec n).length<=900000:=by
  rcases s with h|h
  ·exact h
  subst h;rw[z2x (by omega)];simp
 clear d s;have A:(str (dec n)).size<=900000:=by rw[z1i];exact c
 have p:=y0s j n w o k u;have l:=qh p;clear p o u k;by_cases h:(dec n).length<=1000
 ·have g:limS n=(str (dec n),0):=by unfold limS;rw[if_pos h]
  have z:(str (dec n)).size<=1000:=by rw[z1i];exact h
  rw[g];clear g h c
  go_enter func206,ntmps206
  go_wp2_with fail
  refine l.out.mono ?_;rintro e B ⟨rfl,hb⟩;have i:=qh hb;clear hb;go_wp2;go_ret2;exact⟨rfl,i.out⟩
 have g:limS n=(str [],2):=by unfold limS;rw[if_neg h]
 have z:1000<(str (dec n)).size:=by rw[z1i];omega
 rw[g];clear g h c
 go_enter func206,ntmps206
 go_wp2_with fail
 refine l.out.mono ?_;rintro e B ⟨rfl,hb⟩;have i:=qh hb;clear hb;go_wp2;go_ret2;exact⟨rfl,i.out⟩
theorem u2t (s t:ByteArray) (w:World) (R:s.size<=maxLen) (Q:t.size<=maxLen) (i:Tab w) :
  Calls prog 201 #[.string s,.string t] w (PairEnd (addF s t) w):=by
 have E:=qh i;clear i;have c1:=z4i s w R;have c2:=z4i t w Q;clear R Q;cases c:vld s with
 | false =>
  have g:addF s t=(str [],1):=by unfold addF;rw[c];rfl
  rw[g];rw[c] at c1;clear g c c2 E;have o:=qh c1;clear c1
  go_enter func201,ntmps201
  go_wp2_with fail
  refine o.out.mono ?_;rintro e D ⟨rfl,rfl⟩;go_wp2;go_ret2;exact⟨rfl,blr⟩
 | true =>
  cases d:vld t with
  | false =>
   have g:addF s t=(str [],1):=by unfold addF;rw[c,d];rfl
   rw[g];rw[c] at c1;rw[d] at c2;clear g c d E;have o:=qh c1;clear c1;have I:=qh c2;clear c2
   go_enter func201,ntmps201
   go_wp2_with fail
   refine o.out.mono ?_;rintro e D ⟨rfl,rfl⟩
   go_wp2_with fail
   refine I.out.mono ?_;rintro e D ⟨rfl,rfl⟩;go_wp2;go_ret2;exact⟨rfl,blr⟩
  | true =>
   rw[c] at c1;rw[d] at c2;have o:=qh c1;clear c1;have I:=qh c2;clear c2;have lm:=z1t c;have ln:=z1t d;have N:=z4z s w c;have U:=qh N;clear N;have T:=fun w=>z4z t w d;have W:=qh T;clear T;have P:=qh c;clear c;have S:=qh d;clear d;have g:addF s t=limS (val s+val t):=by unfold addF;rw[P.out,S.out];rfl
   rw[g];clear g
   go_enter func201,ntmps201
   go_wp2_with fail
   refine o.out.mono ?_;rintro e D ⟨rfl,rfl⟩
   go_wp2_with fail
   refine I.out.mono ?_;rintro e D ⟨rfl,rfl⟩
   go_wp2_with fail
   refine U.out.mono ?_;rintro e X ⟨v1,rfl,z,u⟩;have G:=qh z;clear z;have B:=qh u;clear u;have L:=B.out.size
   go_wp2_with fail
   refine(W.out X).mono ?_;rintro e Y ⟨v2,rfl,k,p⟩;have F:=qh k;clear k;have j:=qh p;clear p;have a1:=j.out.size;have K:=qh (G.out.sl.below j.out nlr)
   go_wp2_with fail
   refine(v4t v1 v2 (val s) (val t) Y K.out F.out.sl (by omega) (by omega)).mono ?_;rintro e w3 ⟨v3,rfl,A,m⟩;have J:=qh A;clear A;have l:=qh m;clear m;have O:=qh (B.out.trans ((j.out.mono L).trans (l.out.mono (by omega))));have h:=y4f v3 (val s+val t) w3 J.out.sl (by
    have c:=v3k P.out;have d:=v3k S.out;have:val s+val t<BB ^ 113:=by
     have e:BB ^ 113=BB ^ 112*BB:=Nat.pow_succ ..;rw[e];have:BB ^ 112*2<=BB ^ 112*BB:=Nat.mul_le_mul_left _ y6i;omega
    have:=z6n this;omega) (E.out.below O.out nlr)
   have HL:=qh h;clear h
   go_wp2_with fail
   refine HL.out.mono ?_;rintro e w4 ⟨rfl,C⟩;have H:=qh C;clear C;have Z:=l.out.size;go_wp2;go_ret2;exact⟨rfl,O.out.trans (H.out.mono (by omega))⟩
theorem u3j (s t:ByteArray) (w:World) (hs:s.size<=maxLen) (ht:t.size<=maxLen) (C:Tab w) :
  Calls prog 203 #[.string s,.string t] w (PairEnd (subF s t) w):=by
 have HT:=qh C;clear C;have c1:=z4i s w hs;have c2:=z4i t w ht;clear hs ht;cases k:vld s with
 | false =>
  have o:subF s t=(str [],1):=by unfold subF;rw[k];rfl
  rw[o];rw[k] at c1;clear o k c2 HT;have I:=qh c1;clear c1
  go_enter func203,ntmps203
  go_wp2_with fail
  refine I.out.mono ?_;rintro e H ⟨rfl,rfl⟩;go_wp2;go_ret2;exact⟨rfl,blr⟩
 | true =>
  cases D:vld t with
  | false =>
   have o:subF s t=(str [],1):=by unfold subF;rw[k,D];rfl
   rw[o];rw[k] at c1;rw[D] at c2;clear o k D HT;have I:=qh c1;clear c1;have T:=qh c2;clear c2
   go_enter func203,ntmps203
   go_wp2_with fail
   refine I.out.mono ?_;rintro e H ⟨rfl,rfl⟩
   go_wp2_with fail
   refine T.out.mono ?_;rintro e H ⟨rfl,rfl⟩;go_wp2;go_ret2;exact⟨rfl,blr⟩
  | true =>
   rw[k] at c1;rw[D] at c2;have I:=qh c1;clear c1;have T:=qh c2;clear c2;have lm:=z1t k;have ln:=z1t D;have b1:=z4z s w k;have B1:=qh b1;clear b1;have b2:=fun w=>z4z t w D;have B2:=qh b2;clear b2;have H1:=qh k;clear k;have H2:=qh D;clear D;by_cases z:val s<val t
   ·have o:subF s t=(str [],4):=by unfold subF;rw[H1.out,H2.out,if_pos z];rfl
    have P:cmpN (val s) (val t)=-1:=z7y z;rw[o];clear o z;have HC:=qh P;clear P
    go_enter func203,ntmps203
    go_wp2_with fail
    refine I.out.mono ?_;rintro e H ⟨rfl,rfl⟩
    go_wp2_with fail
    refine T.out.mono ?_;rintro e H ⟨rfl,rfl⟩
    go_wp2_with fail
    refine B1.out.mono ?_;rintro e w1 ⟨v1,rfl,j,i⟩;have E:=qh j;clear j;have l:=qh i;clear i;have G:=l.out.size
    go_wp2_with fail
    refine(B2.out w1).mono ?_;rintro e w2 ⟨S,rfl,m,u⟩;have A:=qh m;clear m;have d:=qh u;clear u;have a2:=d.out.size;have B:=qh (E.out.sl.below d.out nlr);have c:=z5w v1 S (val s) (val t) w2 B.out A.out.sl;unfold CmpEnd at c;rw[HC.out] at c;have F:=qh c;clear c
    go_wp2_with fail
    refine F.out.mono ?_;rintro e w3 ⟨rfl,p⟩;have g:=qh p;clear p;go_wp2;go_ret2;exact⟨rfl,l.out.trans ((d.out.mono G).trans (g.out.mono (by omega)))⟩
   have o:subF s t=(str (dec (val s-val t)),0):=by unfold subF;rw[H1.out,H2.out,if_neg z];rfl
   have P:cmpN (val s) (val t)=0\/cmpN (val s) (val t)=1:=by
    rcases Nat.lt_or_ge (val t) (val s) with h|h
    ·exact .inr (z8b h)
    exact .inl (y1x (by omega))
   have O:val t<=val s:=by omega
   have Y:=qh O;clear O;rw[o];clear o z;have W:∃ q:Int,cmpN (val s) (val t)=q/\0<=q:=by
    rcases P with h|h
    ·exact⟨0,h,by omega⟩
    exact⟨1,h,by omega⟩
   obtain⟨q,hq,a4⟩:=W;clear P;have HC:=qh hq;clear hq
   go_enter func203,ntmps203
   go_wp2_with fail
   refine I.out.mono ?_;rintro e H ⟨rfl,rfl⟩
   go_wp2_with fail
   refine T.out.mono ?_;rintro e H ⟨rfl,rfl⟩
   go_wp2_with fail
   refine B1.out.mono ?_;rintro e w1 ⟨v1,rfl,j,i⟩;have E:=qh j;clear j;have l:=qh i;clear i;have G:=l.out.size
   go_wp2_with fail
   refine(B2.out w1).mono ?_;rintro e w2 ⟨S,rfl,m,u⟩;have A:=qh m;clear m;have d:=qh u;clear u;have a2:=d.out.size;have B:=qh (E.out.sl.below d.out nlr);have c:=z5w v1 S (val s) (val t) w2 B.out A.out.sl;unfold CmpEnd at c;rw[HC.out] at c;have F:=qh c;clear c
   go_wp2_with fail
   refine F.out.mono ?_;rintro e w3 ⟨rfl,p⟩;have g:=qh p;clear p;have a5:=g.out.size;have J:=x9u v1 S (val s) (val t) w3 (B.out.below g.out nlr) (A.out.sl.below g.out nlr) (by omega) (by omega) Y.out;have Z:=qh J;clear J
   go_wp2_with fail
   refine Z.out.mono ?_;rintro e w4 ⟨v4,rfl,N,R⟩;have X:=qh N;clear N;have K:=qh R;clear R;have a3:=K.out.size;have HB:=qh (l.out.trans ((d.out.mono G).trans ((g.out.mono (by omega)).trans (K.out.mono (by omega)))));have Q:=y0s v4 (val s-val t) w4 X.out.sl (by have:=z2j (Nat.sub_le (val s) (val t));omega) (HT.out.below HB.out nlr);have a1:=qh Q;clear Q
   go_wp2_with fail
   refine a1.out.mono ?_;rintro e w5 ⟨rfl,L⟩;have U:=qh L;clear L;go_wp2;go_ret2;exact⟨rfl,HB.out.trans (U.out.mono (by omega))⟩
def IntEnd (q:Int) (w:World) (e:Ending) (w':World):Prop:=e=.returned (.int .i64 q)/\Below w.heap.size w w'
theorem u0s (s t:ByteArray) (w:World) (J:s.size<=maxLen) (I:t.size<=maxLen) :
  Calls prog 202 #[.string s,.string t] w (IntEnd (cmpF s t) w):=by
 have c1:=z4i s w J;have c2:=z4i t w I;clear J I;cases c:vld s with
 | false =>
  have g:cmpF s t=0:=by unfold cmpF;rw[c];rfl
  rw[g];rw[c] at c1;clear g c c2;have l:=qh c1;clear c1
  go_enter func202,ntmps202
  go_wp2_with fail
  refine l.out.mono ?_;rintro e z ⟨rfl,rfl⟩;go_wp2;go_ret;exact⟨rfl,blr⟩
 | true =>
  cases d:vld t with
  | false =>
   have g:cmpF s t=0:=by unfold cmpF;rw[c,d];rfl
   rw[g];rw[c] at c1;rw[d] at c2;clear g c d;have l:=qh c1;clear c1;have D:=qh c2;clear c2
   go_enter func202,ntmps202
   go_wp2_with fail
   refine l.out.mono ?_;rintro e z ⟨rfl,rfl⟩
   go_wp2_with fail
   refine D.out.mono ?_;rintro e z ⟨rfl,rfl⟩;go_wp2;go_ret;exact⟨rfl,blr⟩
  | true =>
   rw[c] at c1;rw[d] at c2;have l:=qh c1;clear c1;have D:=qh c2;clear c2;have W:=z1t c;have U:=z1t d;have H:=z4z s w c;have L:=qh H;clear H;have K:=fun w=>z4z t w d;have N:=qh K;clear K;have Q:=qh c;clear c;have S:=qh d;clear d;have g:cmpF s t=cmpN (val s) (val t):=by unfold cmpF;rw[Q.out,S.out];rfl
   rw[g];clear g
   go_enter func202,ntmps202
   go_wp2_with fail
   refine l.out.mono ?_;rintro e z ⟨rfl,rfl⟩
   go_wp2_with fail
   refine D.out.mono ?_;rintro e z ⟨rfl,rfl⟩
   go_wp2_with fail
   refine L.out.mono ?_;rintro e O ⟨v1,rfl,p,o⟩;have C:=qh p;clear p;have u:=qh o;clear o;have G:=u.out.size
   go_wp2_with fail
   refine(N.out O).mono ?_;rintro e P ⟨R,rfl,j,m⟩;have B:=qh j;clear j;have h:=qh m;clear m;have T:=h.out.size;have F:=qh (C.out.sl.below h.out nlr);have i:=z5w v1 R (val s) (val t) P F.out B.out.sl;unfold CmpEnd at i;have E:=qh i;clear i
   go_wp2_with fail
   refine E.out.mono ?_;rintro e X ⟨rfl,k⟩;have A:=qh k;clear k;go_wp2;go_ret;exact⟨rfl,u.out.trans ((h.out.mono G).trans (A.out.mono (by omega)))⟩
end
section
open Go.RowKit
theorem y1e (L:List Nat) (j v i:Nat) (h:j<L.length):nth (L.set j v) i=if i=j then v else nth L i:=by
 unfold nth;simp only[List.getD_eq_getElem?_getD,List.getElem?_set];by_cases e:j=i
 ·subst e;simp[h]
 rw[if_neg e,if_neg (fun c=>e c.symm)]
theorem z7w {L:List Nat} (h:Small L) (j v:Nat) (c:v<BB):Small (L.set j v):=fun i=>by
 by_cases d:j<L.length
 ·rw[y1e L j v i d];split
  ·exact c
  exact h i
 rw[List.set_eq_of_length_le (by omega)];exact h i
theorem v7s (L:List Nat):∀ (j v:Nat),j<L.length->bval (L.set j v)+BB ^ j*nth L j=bval L+BB ^ j*v:=by
 induction L with
 | nil=>intro j v h;simp at h
 | cons x L ih =>
  intro j v h;cases j with
  | zero=>simp only[List.set_cons_zero,bval,z6y,Nat.pow_zero];omega
  | succ j =>
   have:=ih j v (by simpa using h);simp only[List.set_cons_succ,bval,z5g,Nat.pow_succ];have e:BB*(bval (L.set j v)+BB ^ j*nth L j)=BB*(bval L+BB ^ j*v):=by rw[this]
   rw[Nat.mul_add,Nat.mul_add,<- Nat.mul_assoc,<- Nat.mul_assoc,Nat.mul_comm BB (BB ^ j)] at e;omega
theorem y5s (k:Nat):bval (List.replicate k 0)=0:=x0k (fun i=>by unfold nth;simp[List.getD_eq_getElem?_getD,List.getElem?_replicate];split<;>rfl)
theorem z8c (k:Nat):Small (List.replicate k 0):=fun i=>by
 have:nth (List.replicate k 0) i=0:=by unfold nth;simp[List.getD_eq_getElem?_getD,List.getElem?_replicate];split<;>rfl
 rw[this];exact z1y
structure MulIn (xs ys L:List Nat) (i k c:Nat):Prop where
 small:Small L
 carry:c<BB
 len:L.length=xs.length+ys.length+1
 val:bval L+BB ^ (i+k)*c=bval (xs.take i)*bval ys+BB ^ i*(nth xs i*bval (ys.take k))
structure MulOut (xs ys L:List Nat) (i:Nat):Prop where
 small:Small L
 len:L.length=xs.length+ys.length+1
 val:bval L=bval (xs.take i)*bval ys
theorem MulOut.start (xs c:List Nat):MulOut xs c (List.replicate (xs.length+c.length+1) 0) 0 :=
 ⟨z8c _,by simp,by rw[y5s];simp[bval]⟩
theorem MulOut.inner {xs c L:List Nat} {i:Nat} (h:MulOut xs c L i):MulIn xs c L i 0 0 :=
 ⟨h.small,z1y,h.len,by rw[h.val];simp[bval]⟩
theorem z9y {l c x y:Nat} (i:l<BB) (h:c<BB) (d:x<BB) (g:y<BB):l+c+x*y<1000000000*1000000000:=by
 rw[z0t] at *;have:x*y<=999999999*999999999:=Nat.mul_le_mul (by omega) (by omega);omega
theorem MulIn.step {xs d L:List Nat} {i k c:Nat} (h:MulIn xs d L i k c) (z:Small xs) (u:Small d) (hi:i<xs.length) (A:k<d.length+1) :
  MulIn xs d (L.set (i+k) ((nth L (i+k)+c+nth xs i*nth d k) % 1000000000)) i (k+1) ((nth L (i+k)+c+nth xs i*nth d k) / 1000000000):=by
 have hb:=z9y (h.small (i+k)) h.carry (z i) (u k);have g:i+k<L.length:=by rw[h.len];omega
 have m:=v7s L (i+k) ((nth L (i+k)+c+nth xs i*nth d k) % 1000000000) g;have l:=h.val;have j:=z0n d k;generalize hp:nth L (i+k)+c+nth xs i*nth d k=p at *;have o:BB ^ (i+k)*nth L (i+k)+BB ^ (i+k)*c+BB ^ (i+k)*(nth xs i*nth d k)=BB ^ (i+k)*p:=by rw[<- hp,Nat.mul_add,Nat.mul_add]
 have s:BB ^ (i+k)*p=BB ^ (i+k)*(p % 1000000000)+BB ^ (i+k)*BB*(p / 1000000000):=by
  rw[Nat.mul_assoc,<- Nat.mul_add,z0t,Nat.mod_add_div]
 refine⟨z7w h.small _ _ (by rw[z0t];exact Nat.mod_lt _ (by omega)),by rw[z0t];omega,by simp[h.len],?_⟩;rw[j,Nat.mul_add,Nat.mul_add,show i+(k+1)=i+k+1 by omega,Nat.pow_succ BB (i+k)];have e:BB ^ i*(nth xs i*(BB ^ k*nth d k))=BB ^ (i+k)*(nth xs i*nth d k):=by
  rw[Nat.pow_add,Nat.mul_left_comm (nth xs i),Nat.mul_assoc]
 rw[e];omega
theorem MulIn.done {xs d L:List Nat} {i c:Nat} (h:MulIn xs d L i (d.length+1) c) (o:Small xs) (m:Small d) (hi:i<xs.length):MulOut xs d L (i+1):=by
 refine⟨h.small,h.len,?_⟩;have g:=h.val;rw[z2r (by omega:d.length<=d.length+1)] at g;have e:bval (xs.take i)*bval d+BB ^ i*(nth xs i*bval d)=bval (xs.take (i+1))*bval d:=by
  rw[z0n,Nat.add_mul,Nat.mul_assoc]
 rw[e] at g;have l:bval (xs.take (i+1))<BB ^ (i+1):=by
  have:=z3z (z4p o (i+1));rw[List.length_take,Nat.min_eq_left (by omega)] at this;exact this
 have u:=z3z m;have k:bval (xs.take (i+1))*bval d<BB ^ (i+1)*BB ^ d.length:=by
  have p:bval (xs.take (i+1))*bval d<=bval (xs.take (i+1))*BB ^ d.length:=Nat.mul_le_mul_left _ (by omega);have s:bval (xs.take (i+1))*BB ^ d.length<BB ^ (i+1)*BB ^ d.length:=Nat.mul_lt_mul_of_pos_right l (Nat.pow_pos z1y);omega
 rw[<- Nat.pow_add,show i+1+d.length=i+(d.length+1) by omega] at k
 rcases Nat.eq_zero_or_pos c with j|j
 ·subst j;rw[Nat.mul_zero,Nat.add_zero] at g;exact g
 have:BB ^ (i+(d.length+1))*1<=BB ^ (i+(d.length+1))*c:=Nat.mul_le_mul_left _ j;omega
theorem MulOut.done {xs c L:List Nat} (h:MulOut xs c L xs.length):bval L=bval xs*bval c:=by rw[h.val,List.take_length]
theorem Own.set {w:World} {B:Nat} {e:TypeId} {k:IntKind} {g n cap:Nat} {L:List Nat} (h:Own w B e k (.slice (some ⟨g,0,none⟩) n cap) L) (hn:L.length=n) (j v:Nat) :
  Own (w.setCell ⟨g,j,none⟩ (.int k (v:Int))) B e k (.slice (some ⟨g,0,none⟩) n cap) (L.set j v):=by
 subst hn;have:=(World.ownsRow.stored h j (.int k (v:Int))).1;have c:(vals k L).set j (.int k (v:Int))=vals k (L.set j v):=by unfold vals;rw[List.map_set]
 rw[c] at this;unfold Own;rw[List.length_set];exact this
theorem Own.base {w:World} {B:Nat} {e:TypeId} {k:IntKind} {g n cap:Nat} {c:Nat} {L:List Nat} (h:Own w B e k (.slice (some ⟨g,c,none⟩) n cap) L):B<=g/\g<w.heap.size:=by
 have:=World.ownsRow.lt h g (by simp[Value.ownBlock]);exact this
theorem Own.cell {w:World} {B:Nat} {e:TypeId} {k:IntKind} {g n cap:Nat} {L:List Nat} (h:Own w B e k (.slice (some ⟨g,0,none⟩) n cap) L) (hn:L.length=n) (j:Nat) (c:j<n):w.cell? ⟨g,j,none⟩=some (.int k ((nth L j:Nat):Int)):=by
 subst hn;rw[World.ownsRow.cellAt h j (by omega),x5h k L j c]
theorem Own.free {w:World} {B:Nat} {e:TypeId} {k:IntKind} {g n cap:Nat} {L:List Nat} (h:Own w B e k (.slice (some ⟨g,0,none⟩) n cap) L) (hn:L.length=n) (j:Nat):w.frozen? ⟨g,j,none⟩=false:=by
 subst hn;exact World.ownsRow.frozenAt h j
theorem z9g (k:IntKind) (n:Nat):vals k (List.replicate n 0)=List.replicate n (.int k 0):=by simp[vals]
end
section
open Go.RowKit
set_option maxRecDepth 100000 in
theorem u0h (s t:ByteArray) (w:World) (hs:s.size<=maxLen) (ht:t.size<=maxLen) (T:Tab w) :
  Calls prog 189 #[.string s,.string t] w (PairEnd (mulF s t) w):=by
 have HT:=qh T;clear T;have c1:=z4i s w hs;have c2:=z4i t w ht;clear hs ht;cases o:vld s with
 | false =>
  have W:mulF s t=(str [],1):=by unfold mulF;rw[o];rfl
  rw[W];rw[o] at c1;clear W o c2 HT;have C1:=qh c1;clear c1
  go_enter func189,ntmps189
  go_wp2_with fail
  refine C1.out.mono ?_;rintro e w' ⟨rfl,rfl⟩;go_wp2;go_ret2;exact⟨rfl,blr⟩
 | true =>
  cases N:vld t with
  | false =>
   have W:mulF s t=(str [],1):=by unfold mulF;rw[o,N];rfl
   rw[W];rw[o] at c1;rw[N] at c2;clear W o N HT;have C1:=qh c1;clear c1;have C2:=qh c2;clear c2
   go_enter func189,ntmps189
   go_wp2_with fail
   refine C1.out.mono ?_;rintro e w' ⟨rfl,rfl⟩
   go_wp2_with fail
   refine C2.out.mono ?_;rintro e w' ⟨rfl,rfl⟩;go_wp2;go_ret2;exact⟨rfl,blr⟩
  | true =>
   rw[o] at c1;rw[N] at c2;have C1:=qh c1;clear c1;have C2:=qh c2;clear c2;have lm:=z1t o;have ln:=z1t N;have b1:=z4z s w o;have B1:=qh b1;clear b1;have b2:=fun w=>z4z t w N;have B2:=qh b2;clear b2;have H1:=qh o;clear o;have H2:=qh N;clear N;have W:mulF s t=limS (val s*val t):=by unfold mulF;rw[H1.out,H2.out];rfl
   rw[W];clear W
   go_enter func189,ntmps189
   go_wp2_with fail
   refine C1.out.mono ?_;rintro e w' ⟨rfl,rfl⟩
   go_wp2_with fail
   refine C2.out.mono ?_;rintro e w' ⟨rfl,rfl⟩
   go_wp2_with fail
   refine B1.out.mono ?_;rintro e w1 ⟨v1,rfl,b4,b3⟩;have b5:=qh b4;clear b4;have b6:=qh b3;clear b3;have f8:=b6.out.size
   go_wp2_with fail
   refine(B2.out w1).mono ?_;rintro e G ⟨v2,rfl,d7,b8⟩;have d2:=qh d7;clear d7;have a1:=qh b8;clear b8;have h6:=a1.out.size;have e1:=qh (b5.out.sl.below a1.out nlr);obtain⟨i0,f3,g7,f9,f1⟩:=info_parts y0p;have e7:=fun x=>z0x (val s) x;have a9:Small (toB (val s)):=z0x _;have a5:Small (toB (val t)):=z0x _;obtain⟨g,a3⟩:=exq (toB (val s));obtain⟨d,a7⟩:=exq (toB (val t));rw[<- a3] at e1 lm a9;rw[<- a7] at d2 ln a5;have HX:=qh a3;clear a3;have HY:=qh a7;clear a7;have O:=qh a9;clear a9;have S:=qh a5;clear a5;clear e7 b5;obtain⟨ax,cx,bx,ox,rfl,b0,g9,e2,R,D⟩:=e1.out.open;obtain⟨ay,cy,g6,oy,rfl,c9,h4,e0,P,F⟩:=d2.out.sl.open;unfold maxLen at e2 e0;have g4:=qh D;clear D;have g1:=qh F;clear F;have g8:=qh b0;clear b0;have e8:=qh c9;clear c9;have f5:=qh R;clear R;have f4:=qh P;clear P;obtain⟨wm,d4,h,a4⟩:=run_make_full G w.heap.size 199 179 i0 (.int .u64 0) 1 underlying199 f3 g7 f9 .i64 .i64 (g.length+d.length+1) (by rw[f1];omega) (by unfold maxLen;omega) (by omega);rw[show ((g.length+d.length+1:Nat):Int)=(g.length:Int)+(d.length:Int)+1 by omega] at d4;have d0:Below w.heap.size w wm:=b6.out.trans ((a1.out.mono f8).trans (blr.grown a4 (by omega) (by simp)));have U:Below G.heap.size G wm:=blr.grown a4 nlr (by simp);have b9:Own wm w.heap.size 179 .u64 (.slice (some ⟨G.heap.size,0,none⟩) (g.length+d.length+1) (g.length+d.length+1)) (List.replicate (g.length+d.length+1) 0):=by
    unfold Own;rw[z9g,List.length_replicate];have:=h;rw[Nat.mul_one,show (Value.int .u64 0).cells=#[Value.int .u64 0] from rfl,toList_madeCells_one] at this;exact this
   have HM:=qh d0;clear d0;have g2:=qh U;clear U;have g0:=qh b9;clear b9 h a4;go_wp2;clear d4
   go_loopw [34] (fun i wr=>∃ (k:Nat) (L:List Nat),k<=g.length/\i=.int .i64 k/\MulOut g d L k/\Own wr w.heap.size 179 .u64 (.slice (some ⟨G.heap.size,0,none⟩) (g.length+d.length+1) (g.length+d.length+1)) L/\Below w.heap.size w wr/\Below G.heap.size G wr)
    (fun i _=>g.length-(intOf i).toNat)
   case atStart=>exact⟨0,_,Nat.zero_le _,rfl,MulOut.start g d,g0.out,HM.out,g2.out⟩
   obtain⟨i,L,h8,rfl,l,h,H,m⟩:=hrel;have c7:=qh l;clear l;have HO:=qh h;clear h;have Q:=qh H;clear H;have d1:=qh m;clear m;obtain⟨wo,rfl⟩:∃ wo:World,wo=wr:=⟨_,rfl⟩;by_cases a8:i<g.length
   ·obtain rfl:=g8.out (by omega);have R:=f5.out (by omega);go_wp2
    go_loopw [10,40] (fun c q wr=>∃ (k Y:Nat) (L:List Nat),k<=d.length+1/\q=.int .i64 k/\c=.int .u64 Y/\MulIn g d L i k Y/\Own wr w.heap.size 179 .u64 (.slice (some ⟨G.heap.size,0,none⟩) (g.length+d.length+1) (g.length+d.length+1)) L/\Below w.heap.size w wr/\Below G.heap.size G wr)
     (fun _ q _=>d.length+1-(intOf q).toNat)
    case atStart=>exact⟨0,0,L,Nat.zero_le _,rfl,rfl,c7.out.inner,HO.out,Q.out,d1.out⟩
    obtain⟨k,Y,L',h7,rfl,rfl,d3,h,H,m⟩:=hrel;have z:=qh d3;clear d3;have u:=qh h;clear h;have K:=qh H;clear H;have j:=qh m;clear m;by_cases d9:k<d.length+1
    ·have I:=z.out.step O.out S.out a8 d9;have E:=z.out.len;have a6:=qh I;clear I;have cl:=u.out.cell E (i+k) (by omega);have fl:=u.out.free E (i+k);have c8:=z9y (z.out.small (i+k)) z.out.carry (O.out i) (S.out k);have Z:=qh E;clear E
     rcases Nat.lt_or_ge k d.length with a2|a2
     ·obtain rfl:=e8.out (by omega);have P:=f4.out (by omega);have c1:=(j.out.cell (p:=⟨bx,ox+i,none⟩) R).trans (g4.out i a8);have c2:=(j.out.cell (p:=⟨g6,oy+k,none⟩) P).trans (g1.out k a2);have C:(((nth g i:Nat):Int)*((nth d k:Nat):Int))=((nth g i*nth d k:Nat):Int):=by simp
      have h0:((nth g i:Nat):Int)*((nth d k:Nat):Int)<=999999998000000001:=by
       have o:=O.out i;have N:=S.out k;rw[z0t] at o N;have:nth g i*nth d k<=999999999*999999999:=Nat.mul_le_mul (by omega) (by omega);rw[C];omega
      have h9:nth L' (i+k)<=999999999:=by have:=z.out.small (i+k);rw[z0t] at this;omega
      have h5:Y<=999999999:=by have:=z.out.carry;rw[z0t] at this;omega
      have h3:0<=((nth g i:Nat):Int)*((nth d k:Nat):Int):=by rw[C];omega
      have f0:=qh C;clear C c8
      go_wp2_with fail
      go_quiet (fail)
      go_wp2;go_roundw
      case rel =>
       have em:((nth L' (i+k):Nat):Int)+(Y:Int)+((nth g i:Nat):Int)*((nth d k:Nat):Int)=((nth L' (i+k)+Y+nth g i*nth d k:Nat):Int):=by rw[f0.out];omega
       rw[em];have ho:=(u.out.kept (below_drewN (Below.refl _ wr) nq) nlr).set Z.out (i+k) ((nth L' (i+k)+Y+nth g i*nth d k) % 1000000000);exact⟨k+1,_,_,by omega,by go_num,by go_num,a6.out,ho,(below_drewN K.out nq).setCell u.out.base.1 _,(below_drewN j.out nq).setCell nlr _⟩
      simp[intOf];omega
     have hz:nth d k=0:=z1s d k a2;have J:=a6.out;rw[hz,Nat.mul_zero,Nat.add_zero] at J;rw[hz,Nat.mul_zero,Nat.add_zero] at c8;have f7:=qh J;clear J hz a6;go_wp2;go_roundw
     case rel =>
      have ho:=u.out.set Z.out (i+k) ((nth L' (i+k)+Y) % 1000000000);exact⟨k+1,_,_,by omega,by go_num,by go_num,f7.out,ho,K.out.setCell u.out.base.1 _,j.out.setCell nlr _⟩
     simp[intOf];omega
    have d8:k=d.length+1:=by omega
    have g3:=qh d8;clear d8;go_wp2;go_roundw
    case rel =>
     have o:=z.out;rw[g3.out] at o;exact⟨i+1,L',by omega,by go_num,o.done O.out S.out a8,u.out,K.out,j.out⟩
    simp[intOf];omega
   have e4:i=g.length:=by omega
   have g5:=qh e4;clear e4;have l:=c7.out;rw[g5.out] at l;have f2:=Q.out.size;have b7:=z6w (some ⟨G.heap.size,0,none⟩) (g.length+d.length+1) L wo (by rw[l.len];exact HO.out.sl);rw[l.len] at b7;have B:=qh l;clear l
   go_wp2_with fail
   refine b7.mono ?_;rintro e w4 ⟨kk,hk,rfl,rfl⟩;have HK:=qh hk;clear hk;have hb:=B.out.done;have A:(toB (val s*val t))=L.take kk:=by
    rw[z4q B.out.small HK.out.1 HK.out.2.1 HK.out.2.2,hb,HX.out,HY.out,z1b,z1b]
   have e9:kk<=g.length+d.length+1:=by have:=HK.out.1;rw[B.out.len] at this;exact this
   have e3:Sl wo .u64 (.slice (some ⟨G.heap.size,0,none⟩) kk (g.length+d.length+1)) (toB (val s*val t)):=by
    rw[A];exact HO.out.sl.take (by rw[B.out.len];exact e9)
   have d5:(toB (val s*val t)).length<=100000:=by rw[A,List.length_take];omega
   have X:=y4f _ (val s*val t) wo e3 d5 (HT.out.below Q.out nlr);have e6:=qh X;clear X e3 d5 A hb
   go_wp2_with fail
   refine e6.out.mono ?_;rintro e w5 ⟨rfl,d6⟩;have e5:=qh d6;clear d6;go_wp2;go_ret2;exact⟨rfl,Q.out.trans (e5.out.mono f2)⟩
end
section
open Go.RowKit
structure Est (us vs:List Nat) (n q r:Nat):Prop where
 top:q*nth vs (n-1)+r=nth us n*BB+nth us (n-1)
 ge:bval us / bval vs<=q
structure DivIn (us vs:List Nat) (n:Nat):Prop where
 su:Small us
 sv:Small vs
 n1:1<=n
 lu:us.length=n+1
 lv:vs.length=n
 v1:1<=nth vs (n-1)
 lt:bval us<bval vs*BB
theorem x5y {n:Nat} (h:1<=n):BB ^ n=BB ^ (n-1)*BB:=by
 obtain⟨k,rfl⟩:∃ k,n=k+1:=⟨n-1,by omega⟩;exact Nat.pow_succ ..
theorem y9x {n:Nat} (h:2<=n):BB ^ (n-1)=BB ^ (n-2)*BB:=by
 obtain⟨k,rfl⟩:∃ k,n=k+2:=⟨n-2,by omega⟩;exact Nat.pow_succ ..
theorem y1a {xs:List Nat} {n:Nat} (h:xs.length=n+1) (g:1<=n):bval xs=bval (xs.take (n-1))+BB ^ (n-1)*(nth xs n*BB+nth xs (n-1)):=by
 have c:=z0n xs n;rw[z2r (by omega)] at c;have d:=z0n xs (n-1);rw[show n-1+1=n by omega] at d;have i:BB ^ n=BB ^ (n-1)*BB:=x5y g;rw[c,d,i,Nat.mul_add,<- Nat.mul_assoc,Nat.mul_assoc (BB ^ (n-1)) BB,Nat.mul_comm BB (nth xs n)];rw[Nat.mul_assoc];omega
theorem y0g {xs:List Nat} {n:Nat} (h:xs.length=n) (d:1<=n):bval xs=bval (xs.take (n-1))+BB ^ (n-1)*nth xs (n-1):=by
 have c:=z0n xs (n-1);rw[show n-1+1=n by omega,z2r (by omega)] at c;exact c
theorem y3y {xs:List Nat} (h:Small xs) (k:Nat) (c:k<=xs.length):bval (xs.take k)<BB ^ k:=by
 have:=z3z (z4p h k);rwa [List.length_take,Nat.min_eq_left c] at this
theorem DivIn.vpos {d c:List Nat} {n:Nat} (h:DivIn d c n):BB ^ (n-1)<=bval c:=by
 rw[y0g h.lv h.n1];have:BB ^ (n-1)*1<=BB ^ (n-1)*nth c (n-1):=Nat.mul_le_mul_left _ h.v1;omega
theorem DivIn.vpos' {d c:List Nat} {n:Nat} (h:DivIn d c n):0<bval c:=Nat.lt_of_lt_of_le (Nat.pow_pos z1y) h.vpos
theorem DivIn.qlt {d c:List Nat} {n:Nat} (h:DivIn d c n):bval d / bval c<BB:=Nat.div_lt_of_lt_mul h.lt
theorem Est.start {c d:List Nat} {n:Nat} (h:DivIn c d n) :
  Est c d n ((nth c n*BB+nth c (n-1)) / nth d (n-1)) ((nth c n*BB+nth c (n-1)) % nth d (n-1)):=by
 refine⟨by rw[Nat.mul_comm];exact Nat.div_add_mod _ _,?_⟩;rw[Nat.le_div_iff_mul_le h.v1];have m:=Nat.div_mul_le_self (bval c) (bval d);generalize bval c / bval d=Q at *;have l:=y1a h.lu h.n1;have i:=y3y h.su (n-1) (by rw[h.lu];omega);have j:=y0g h.lv h.n1;have k:Q*(BB ^ (n-1)*nth d (n-1))<=Q*bval d:=Nat.mul_le_mul_left _ (by omega);have g:BB ^ (n-1)*(Q*nth d (n-1))<BB ^ (n-1)*(nth c n*BB+nth c (n-1)+1):=by
  rw[Nat.mul_left_comm,Nat.mul_add];omega
 have:=Nat.lt_of_mul_lt_mul_left g;omega
theorem x1g {xs:List Nat} {n:Nat} (h:xs.length=n+1) (d:2<=n):bval xs=bval (xs.take (n-2))+BB ^ (n-2)*((nth xs n*BB+nth xs (n-1))*BB+nth xs (n-2)):=by
 have c:=z0n xs (n-2);rw[show n-2+1=n-1 by omega] at c;rw[y1a h (by omega),c];have g:BB ^ (n-1)=BB ^ (n-2)*BB:=y9x d;rw[g,Nat.mul_add (BB ^ (n-2)),Nat.mul_assoc,Nat.mul_comm BB (nth xs n*BB+nth xs (n-1))];omega
theorem y5y {xs:List Nat} {n:Nat} (h:xs.length=n) (c:2<=n):bval xs=bval (xs.take (n-2))+BB ^ (n-2)*(nth xs (n-1)*BB+nth xs (n-2)):=by
 have:=y1a (n:=n-1) (xs:=xs) (by omega) (by omega)
 rwa [show n-1-1=n-2 by omega] at this
theorem Est.back {d c:List Nat} {n q r:Nat} (h:DivIn d c n) (k:Est d c n q r) (i:BB<=q\/(2<=n/\r*BB+nth d (n-2)<q*nth c (n-2))) :
  1<=q/\Est d c n (q-1) (r+nth c (n-1)):=by
 have g:bval d / bval c<q:=by
  rcases i with i|⟨l,i⟩
  ·exact Nat.lt_of_lt_of_le h.qlt i
  rw[Nat.div_lt_iff_lt_mul h.vpos'];have z:=x1g h.lu l;have u:=y5y h.lv l;have s:=y3y h.su (n-2) (by rw[h.lu];omega);have m:(nth d n*BB+nth d (n-1))*BB+nth d (n-2)+1<=q*(nth c (n-1)*BB+nth c (n-2)):=by
   rw[<- k.top,Nat.add_mul,Nat.mul_add,Nat.mul_assoc];omega
  have o:BB ^ (n-2)*((nth d n*BB+nth d (n-1))*BB+nth d (n-2)+1)<=BB ^ (n-2)*(q*(nth c (n-1)*BB+nth c (n-2))):=Nat.mul_le_mul_left _ m;have p:BB ^ (n-2)*(q*(nth c (n-1)*BB+nth c (n-2)))<=q*bval c:=by
   rw[Nat.mul_left_comm];exact Nat.mul_le_mul_left _ (by omega)
  rw[Nat.mul_add (BB ^ (n-2)) _ 1,Nat.mul_one] at o;omega
 have j:1<=q:=Nat.lt_of_le_of_lt (Nat.zero_le _) g;refine⟨j,?_,Nat.le_sub_one_of_lt g⟩;clear g;have:=k.top;have e:q*nth c (n-1)=(q-1)*nth c (n-1)+nth c (n-1):=by
  have:q=q-1+1:=by omega
  rw[this,Nat.add_mul,Nat.one_mul,Nat.add_sub_cancel]
 omega
theorem Est.done {d c:List Nat} {n q r:Nat} (h:DivIn d c n) (k:Est d c n q r) (l:q<BB) (s:n=1\/BB<=r\/(2<=n/\q*nth c (n-2)<=r*BB+nth d (n-2))) :
  q*bval c<bval d+bval c:=by
 by_cases p:n=1
 ·subst p;have i:=y1a h.lu (by omega);have j:=y0g h.lv (by omega);simp only[Nat.sub_self,Nat.pow_zero,Nat.one_mul,List.take_zero,show bval []=0 from rfl,Nat.zero_add] at i j;have:=k.top;simp only[Nat.sub_self] at this;have:=h.vpos';rw[j] at *;omega
 have g:2<=n:=by have:=h.n1;omega
 have B:q*nth c (n-2)<=r*BB+nth d (n-2):=by
  rcases s with i|i|i
  ·omega
  ·have j:q*nth c (n-2)<=BB*BB:=Nat.mul_le_mul (by omega) (by have:=h.sv (n-2);omega);have m:BB*BB<=r*BB:=Nat.mul_le_mul_right _ i;omega
  exact i.2
 have i:=x1g h.lu g;have j:=y5y h.lv g;have m:=y3y h.sv (n-2) (by rw[h.lv];omega);have o:q*(nth c (n-1)*BB+nth c (n-2))<=(nth d n*BB+nth d (n-1))*BB+nth d (n-2):=by
  rw[<- k.top,Nat.add_mul,Nat.mul_add,Nat.mul_assoc];omega
 have A:BB ^ (n-2)*(q*(nth c (n-1)*BB+nth c (n-2)))<=BB ^ (n-2)*((nth d n*BB+nth d (n-1))*BB+nth d (n-2)):=Nat.mul_le_mul_left _ o;have z:q*bval c=q*bval (c.take (n-2))+BB ^ (n-2)*(q*(nth c (n-1)*BB+nth c (n-2))):=by
  rw[j,Nat.mul_add,Nat.mul_left_comm]
 have u:q*bval (c.take (n-2))<BB ^ (n-1):=by
  have e:BB ^ (n-1)=BB*BB ^ (n-2):=by rw[Nat.mul_comm];exact y9x g
  rw[e];exact Nat.mul_lt_mul_of_lt_of_le l (by omega) (Nat.pow_pos z1y)
 have:=h.vpos;omega
structure SubIn (us vs us':List Nat) (q i c bo:Nat):Prop where
 len:us'.length=us.length
 small:Small us'
 carry:c<BB
 borrow:bo<=1
 same:∀ j,i<=j->nth us' j=nth us j
 val:bval (us'.take i)+q*bval (vs.take i)=bval (us.take i)+BB ^ i*(c+bo)
theorem SubIn.start (c d:List Nat) (q:Nat) (h:Small c):SubIn c d c q 0 0 0:=⟨rfl,h,z1y,by omega,fun _ _=>rfl,by simp[bval]⟩
theorem take_set (L:List Nat) (i v:Nat):(L.set i v).take i=L.take i:=by
 rw[List.take_set];apply List.set_eq_of_length_le;rw[List.length_take];omega
def dSub (u c b x:Nat):Nat:=u+1000000000-(c+x) % 1000000000-b
theorem y9z {u c b x:Nat} (hb:b<=1):((u:Int)+1000000000-((c:Int)+(x:Int)) % 1000000000-(b:Int))=((dSub u c b x:Nat):Int):=by unfold dSub;omega
theorem SubIn.step {k g m:List Nat} {q i c o:Nat} (h:SubIn k g m q i c o) (B:Small g) (u:q<BB) (hi:i<k.length) :
  SubIn k g (m.set i (dSub (nth k i) c o (q*nth g i) % 1000000000)) q (i+1) ((c+q*nth g i) / 1000000000) (1-dSub (nth k i) c o (q*nth g i) / 1000000000):=by
 have hb:=z9y (l:=0) z1y h.carry u (B i);rw[Nat.zero_add] at hb;have D:nth k i<BB:=by rw[<- h.same i nlr];exact h.small i
 have p:i<m.length:=by rw[h.len];exact hi
 have s:=h.val;have A:=h.carry;have E:=h.borrow;have H:(c+q*nth g i) % 1000000000<1000000000:=Nat.mod_lt _ (by omega);have F:(c+q*nth g i) % 1000000000+1000000000*((c+q*nth g i) / 1000000000)=c+q*nth g i:=Nat.mod_add_div _ _;rw[z0t] at D A;refine⟨by simp[h.len],z7w h.small _ _ (by rw[z0t];exact Nat.mod_lt _ (by omega)),by rw[z0t];omega,by omega,fun j I=>?_,?_⟩
 ·rw[y1e _ _ _ _ p,if_neg (by omega)];exact h.same j (by omega)
 rw[z0n,z0n g,z0n k,take_set,y1e _ _ _ _ p,if_pos rfl,Nat.mul_add,Nat.pow_succ];generalize hd:dSub (nth k i) c o (q*nth g i)=d at *;unfold dSub at hd;generalize hx:q*nth g i=x at *;have C:q*(BB ^ i*nth g i)=BB ^ i*x:=by rw[Nat.mul_left_comm,hx]
 rw[C];have z:d % 1000000000+x+c+o=nth k i+BB*((c+x) / 1000000000+(1-d / 1000000000)):=by rw[z0t];omega
 have G:BB ^ i*(d % 1000000000+x+c+o)=BB ^ i*nth k i+BB ^ i*BB*((c+x) / 1000000000+(1-d / 1000000000)):=by rw[z,Nat.mul_add,Nat.mul_assoc]
 rw[Nat.mul_add,Nat.mul_add,Nat.mul_add] at G;rw[Nat.mul_add (BB ^ i)] at s;omega
theorem SubIn.last {i d g:List Nat} {n q c j:Nat} (h:SubIn i d g q n c j) (k:d.length=n):(c+q*nth d n) / 1000000000=0:=by
 rw[z1s d n (by omega),Nat.mul_zero,Nat.add_zero];have:=h.carry;rw[z0t] at this;exact Nat.div_eq_of_lt this
theorem SubIn.done {i j d:List Nat} {n q k:Nat} (h:SubIn i j d q (n+1) 0 k) (l:i.length=n+1) (m:j.length=n) :
  bval d+q*bval j=bval i+BB ^ (n+1)*k/\bval d<BB ^ (n+1):=by
 have c:=h.val;have g:=h.len;rw[z2r (by omega),z2r (by omega),z2r (by omega),Nat.zero_add] at c;have:=z3z h.small;rw[g,l] at this;exact⟨c,this⟩
theorem SubIn.fits {c d g:List Nat} {n q:Nat} (i:DivIn c d n) (h:SubIn c d g q (n+1) 0 0) (l:bval c / bval d<=q):q=bval c / bval d/\bval g=bval c % bval d:=by
 obtain⟨k,o⟩:=h.done i.lu i.lv;rw[Nat.mul_zero,Nat.add_zero] at k;have m:q<=bval c / bval d:=by rw[Nat.le_div_iff_mul_le i.vpos'];omega
 have j:q=bval c / bval d:=by omega
 refine⟨j,?_⟩;have:=Nat.div_add_mod (bval c) (bval d);rw[<- j,Nat.mul_comm] at this;omega
structure AddIn (us vs us':List Nat) (i c:Nat):Prop where
 len:us'.length=us.length
 small:Small us'
 carry:c<=1
 same:∀ j,i<=j->nth us' j=nth us j
 val:bval (us'.take i)+BB ^ i*c=bval (us.take i)+bval (vs.take i)
theorem AddIn.start (c d:List Nat) (h:Small c):AddIn c d c 0 0:=⟨rfl,h,by omega,fun _ _=>rfl,by simp[bval]⟩
theorem AddIn.step {d k g:List Nat} {i c:Nat} (h:AddIn d k g i c) (s:Small k) (hi:i<d.length) :
  AddIn d k (g.set i ((nth d i+c+nth k i) % 1000000000)) (i+1) ((nth d i+c+nth k i) / 1000000000):=by
 have u:nth d i<BB:=by rw[<- h.same i nlr];exact h.small i
 have m:=s i;have l:i<g.length:=by rw[h.len];exact hi
 have o:=h.val;have A:=h.carry;rw[z0t] at u m;refine⟨by simp[h.len],z7w h.small _ _ (by rw[z0t];exact Nat.mod_lt _ (by omega)),by omega,fun j B=>?_,?_⟩
 ·rw[y1e _ _ _ _ l,if_neg (by omega)];exact h.same j (by omega)
 rw[z0n,z0n k,z0n d,take_set,y1e _ _ _ _ l,if_pos rfl,Nat.pow_succ];generalize nth d i=a at *;generalize nth k i=x at *;have p:(a+c+x) % 1000000000+BB*((a+c+x) / 1000000000)=a+c+x:=by rw[z0t];omega
 have z:BB ^ i*(a+c+x)=BB ^ i*((a+c+x) % 1000000000)+BB ^ i*BB*((a+c+x) / 1000000000):=by rw[Nat.mul_assoc,<- Nat.mul_add,p]
 rw[Nat.mul_add,Nat.mul_add] at z;omega
theorem AddIn.fits {h d l g:List Nat} {n q c:Nat} (j:DivIn h d n) (A:SubIn h d l q (n+1) 0 1) (p:AddIn l d g (n+1) c) (K:bval h / bval d<=q) (C:q*bval d<bval h+bval d) :
  1<=q/\q-1=bval h / bval d/\bval g=bval h % bval d:=by
 obtain⟨z,I⟩:=A.done j.lu j.lv;have m:=p.len;have s:=A.len;have o:=j.lu;have H:=j.lv;have i:=p.val;rw[z2r (by omega),z2r (by omega),z2r (by omega)] at i;have F:=z3z p.small;rw[m,s,o] at F;rw[Nat.mul_one] at z;have u:1<=q:=by
  rcases Nat.eq_zero_or_pos q with k|k
  ·subst k;rw[Nat.zero_mul] at z;have:=z3z j.su;rw[o] at this;omega
  exact k
 have e:q*bval d=(q-1)*bval d+bval d:=by
  have:q=q-1+1:=by omega
  rw[this,Nat.add_mul,Nat.one_mul,Nat.add_sub_cancel]
 have G:c=1:=by
  have:=p.carry
  rcases Nat.eq_zero_or_pos c with k|k
  ·subst k;rw[Nat.mul_zero,Nat.add_zero] at i;omega
  omega
 subst G;rw[Nat.mul_one] at i;have D:(q-1)*bval d<=bval h:=by omega
 have L:bval g=bval h-(q-1)*bval d:=by omega
 have J:bval g<bval d:=by omega
 have B:q-1=bval h / bval d:=by
  have N:q-1<=bval h / bval d:=by rw[Nat.le_div_iff_mul_le j.vpos'];exact D
  have E:bval h / bval d<q:=by rw[Nat.div_lt_iff_lt_mul j.vpos'];omega
  omega
 refine⟨u,B,?_⟩;have:=Nat.div_add_mod (bval h) (bval d);rw[<- B,Nat.mul_comm] at this;omega
end
section
open Go.RowKit
theorem y9d (w:World) (r:Option Nat):w.grownBy w r:=⟨rfl,rfl,rfl,nlr,fun _ _ _=>rfl⟩
theorem v3m {w g i:World} {r:Option Nat} (h:w.grownBy g r) (c:g.grownBy i r):w.grownBy i r :=
 ⟨c.os.trans h.os,c.tape.trans h.tape,c.output.trans h.output,Nat.le_trans h.size c.size,fun k j d=>(c.block k (Nat.lt_of_lt_of_le j h.size) d).trans (h.block k j d)⟩
theorem z3h {w c:World} {r:Option Nat} (h:w.grownBy c r) (n:Nat):w.grownBy (c.drewN n) r:=⟨h.os,h.tape,h.output,h.size,h.block⟩
theorem y1f {w d:World} {g:Nat} (h:w.grownBy d (some g)) (j:Nat) (v:Value):w.grownBy (d.setCell ⟨g,j,none⟩ v) (some g) :=
 v3m h ⟨rfl,rfl,rfl,by simp[World.setCell],fun k _ c=>Below.heap_setCell _ _ _ _ (by intro e;apply c;rw[e])⟩
theorem y4i (A c C:List Nat) (i:Nat) (h:i<c.length):nth (A++c++C) (A.length+i)=nth c i:=by
 rw[z4b _ _ _ (by rw[List.length_append];omega),z3i _ _ _ (by omega),Nat.add_sub_cancel_left]
theorem set_mid (A c C:List Nat) (i v:Nat) (h:i<c.length):(A++c++C).set (A.length+i) v=A++c.set i v++C:=by
 rw[List.set_append_left _ _ (by rw[List.length_append];omega),List.set_append_right _ _ (by omega),Nat.add_sub_cancel_left]
def DigEnd (B g N cap:Nat) (A us C vs:List Nat) (w:World) (e:Ending) (w':World):Prop :=
 ∃ us':List Nat,e=.returned (.int .u64 ((bval us / bval vs:Nat):Int))/\us'.length=us.length/\Small us'/\bval us'=bval us % bval vs /\
  Own w' B 179 .u64 (.slice (some ⟨g,0,none⟩) N cap) (A++us'++C)/\w.grownBy w' (some g)
set_option maxRecDepth 100000 in
theorem x8y (B g N cap e5 bv ov cv n:Nat) (A p C j:List Nat) (w:World) (hN:(A++p++C).length=N) (d0:Own w B 179 .u64 (.slice (some ⟨g,0,none⟩) N cap) (A++p++C))
  (hd:DivIn p j n) (hn:n<=100000) (c8:bv≠g) (hv:∀ i,i<n->w.cell? ⟨bv,ov+i,none⟩=some (.int .u64 ((nth j i:Nat):Int))) :
  Calls prog 238 #[.slice (some ⟨g,A.length,none⟩) (n+1) e5,.slice (some ⟨bv,ov,none⟩) n cv] w (DigEnd B g N cap A p C j w):=by
 have z:=qh hd;clear hd;have HN:=qh hN;clear hN;have HO:=qh d0;clear d0;have HV:=qh hv;clear hv;have h1:=z.out.n1;have e9:=z.out.lu;have F:=qh e9;clear e9;have un:w.cell? ⟨g,A.length+n,none⟩=some (.int .u64 ((nth p n:Nat):Int)):=by
  have h:=HO.out.cell HN.out (A.length+n) (by rw[<- HN.out,List.length_append,List.length_append,F.out];omega)
  rwa [y4i _ _ _ _ (by rw[F.out];omega)] at h
 have h3:w.cell? ⟨g,A.length+(n-1),none⟩=some (.int .u64 ((nth p (n-1):Nat):Int)):=by
  have h:=HO.out.cell HN.out (A.length+(n-1)) (by rw[<- HN.out,List.length_append,List.length_append,F.out];omega)
  rwa [y4i _ _ _ _ (by rw[F.out];omega)] at h
 have e7:=HV.out (n-1) (by omega);have h6:=z.out.v1;have f1:=z.out.su n;have d2:=z.out.su (n-1);rw[z0t] at f1 d2
 go_enter func238,ntmps238
 go_wp2_with fail
 go_quiet (fail)
 go_wp2_with fail
 go_quiet (fail)
 go_upto_block 0 with (fail)
 generalize hw2:(World.drewN _ _)=w2;have m:w.grownBy w2 (some g):=by rw[<- hw2];exact z3h (z3h (y9d _ _) _) _
 have a8:Below w.heap.size w w2:=by rw[<- hw2];exact below_drewN (below_drewN blr _) _
 have o:Own w2 B 179 .u64 (.slice (some ⟨g,0,none⟩) N cap) (A++p++C):=HO.out.kept a8 nlr;have e6:=qh m;clear m;have e8:=qh o;clear o;clear hw2 a8 un h3 e7 HO
 go_cut [7,8] from 43 (fun q r wx=>∃ d K:Nat,q=.int .u64 (d:Int)/\r=.int .u64 (K:Int)/\d<BB/\bval p / bval j<=d/\d*bval j<bval p+bval j /\
   Own wx B 179 .u64 (.slice (some ⟨g,0,none⟩) N cap) (A++p++C)/\w.grownBy wx (some g))
 case first =>
  go_wp2_with fail
  go_loopw [7,8] (fun q r wr=>∃ d K:Nat,q=.int .u64 (d:Int)/\r=.int .u64 (K:Int)/\Est p j n d K /\
    Own wr B 179 .u64 (.slice (some ⟨g,0,none⟩) N cap) (A++p++C)/\w.grownBy wr (some g)) (fun q _ _=>(intOf q).toNat)
  case atStart =>
   have he:=Est.start z.out;rw[z0t] at he;exact⟨_,_,by go_num,by go_num,he,e8.out,e6.out⟩
  obtain⟨d,K,rfl,rfl,he,o,m⟩:=hrel;have d1:=he.top;have g2:=z.out.su (n-2);have d9:=z.out.sv (n-2);have h5:=z.out.sv (n-1);rw[z0t] at d1 g2 d9 h5;have j3:d<=999999999999999999:=by
   have:d*1<=d*nth j (n-1):=Nat.mul_le_mul_left _ h6;omega
  have j4:K<=999999999999999999:=by omega
  have g5:(((n:Int)-1).toNat)=n-1:=by omega
  have e7:wr.cell? ⟨bv,ov+(n-1),none⟩=some (.int .u64 ((nth j (n-1):Nat):Int)):=m.cell (HV.out (n-1) (by omega)) (by simpa using c8);have c7:2<=n->wr.cell? ⟨g,A.length+(n-2),none⟩=some (.int .u64 ((nth p (n-2):Nat):Int)):=fun h2=>by
   have h:=o.cell HN.out (A.length+(n-2)) (by rw[<- HN.out,List.length_append,List.length_append,F.out];omega)
   rwa [y4i _ _ _ _ (by rw[F.out];omega)] at h
  have b9:2<=n->wr.cell? ⟨bv,ov+(n-2),none⟩=some (.int .u64 ((nth j (n-2):Nat):Int)):=fun h2=>m.cell (HV.out (n-2) (by omega)) (by simpa using c8);have HE:=qh he;clear he d1 g5;have D:=qh o;clear o;have E:=qh m;clear m;by_cases hA:BB<=d
  ·have a1:=HE.out.back z.out (.inl hA);have L:=qh a1;clear a1;rw[z0t] at hA;have g0:(1000000000:Int)<=(d:Int):=by omega
   clear c7 b9
   go_wp2_with fail
   go_quiet (fail)
   go_wp2_with fail
   ·have a6:(1000000000:Int)<=(K:Int)+((nth j (n-1):Nat):Int):=by assumption
    have j5:(d:Int)-1<1000000000:=by assumption
    go_meet
    refine⟨d-1,K+nth j (n-1),by go_num,by go_num,by rw[z0t];omega,L.out.2.ge,L.out.2.done z.out (by rw[z0t];omega) (.inr (.inl (by rw[z0t];omega))),D.out.kept (below_drewN (Below.refl _ wr) _) nlr,z3h E.out _⟩
   ·go_roundw
    case rel=>exact⟨d-1,K+nth j (n-1),by go_num,by go_num,L.out.2,D.out.kept (below_drewN (Below.refl _ wr) _) nlr,z3h E.out _⟩
    have:=L.out.1;simp[intOf];omega
   go_roundw
   case rel=>exact⟨d-1,K+nth j (n-1),by go_num,by go_num,L.out.2,D.out.kept (below_drewN (Below.refl _ wr) _) nlr,z3h E.out _⟩
   have:=L.out.1;simp[intOf];omega
  have d7:d<BB:=by omega
  have a3:=qh d7;clear d7;rw[z0t] at hA;have g0:decide ((1000000000:Int)<=(d:Int))=false:=by simp;omega
  by_cases a4:2<=n
  ·have g4:=c7 a4;have f9:=b9 a4;clear c7 b9;have H:((d:Int)*((nth j (n-2):Nat):Int))=((d*nth j (n-2):Nat):Int):=by simp
   obtain⟨P,hP⟩:=exq (d*nth j (n-2));have i3:(P:Int)<=999999998000000001:=by
    have:d*nth j (n-2)<=999999999*999999999:=Nat.mul_le_mul (by omega) (by omega);omega
   have hw:IntKind.u64.wrap ((d:Int)*((nth j (n-2):Nat):Int))=(P:Int):=by
    rw[H,<- hP];exact IntWalk.u64_in _ ⟨by omega,by omega⟩
   have HP:=qh hP;clear hP H;have g1:(1:Int)<(n:Int):=by omega
   by_cases h9:K<1000000000
   ·have c9:(K:Int)<1000000000:=by omega
    by_cases ht:K*1000000000+nth p (n-2)<P
    ·have a1:=HE.out.back z.out (.inr ⟨a4,by rw[z0t,<- HP.out];exact ht⟩);have f5:(K:Int)*1000000000+((nth p (n-2):Nat):Int)<(P:Int):=by omega
     have a9:(1:Int)<=(d:Int):=by have:=a1.1;omega
     have L:=qh a1;clear a1 ht
     go_wp2_with fail
     go_quiet (fail)
     clear f5 hw i3;have j1:(d:Int)<=999999999:=by omega
     clear hA g0 h9 c9 g2 d9 g4 f9 a4 g1
     go_wp2_with fail
     ·have a6:(1000000000:Int)<=(K:Int)+((nth j (n-1):Nat):Int):=by assumption
      go_meet
      refine⟨d-1,K+nth j (n-1),by go_num,by go_num,by rw[z0t];omega,L.out.2.ge,L.out.2.done z.out (by rw[z0t];omega) (.inr (.inl (by rw[z0t];omega))),D.out.kept (below_drewN (Below.refl _ wr) _) nlr,z3h E.out _⟩
     go_roundw
     case rel=>exact⟨d-1,K+nth j (n-1),by go_num,by go_num,L.out.2,D.out.kept (below_drewN (Below.refl _ wr) _) nlr,z3h E.out _⟩
     have:=L.out.1;simp[intOf];omega
    have f5:decide ((K:Int)*1000000000+((nth p (n-2):Nat):Int)<(P:Int))=false:=by simp;omega
    have h7:=qh ht;clear ht
    go_wp2_with fail
    go_quiet (fail)
    go_wp2_with fail
    go_meet
    exact⟨d,K,rfl,rfl,a3.out,HE.out.ge,HE.out.done z.out a3.out (.inr (.inr ⟨a4,by have:=h7.out;rw[z0t,<- HP.out];omega⟩)),D.out.kept (below_drewN (Below.refl _ wr) _) nlr,z3h E.out _⟩
   have c9:decide ((K:Int)<1000000000)=false:=by simp;omega
   go_wp2_with fail
   go_quiet (fail)
   go_wp2_with fail
   go_meet
   exact⟨d,K,rfl,rfl,a3.out,HE.out.ge,HE.out.done z.out a3.out (.inr (.inl (by rw[z0t];omega))),D.out.kept (below_drewN (Below.refl _ wr) _) nlr,z3h E.out _⟩
  have g1:decide ((1:Int)<(n:Int))=false:=by simp;omega
  clear c7 b9
  go_wp2_with fail
  go_quiet (fail)
  go_wp2_with fail
  go_meet
  exact⟨d,K,rfl,rfl,a3.out,HE.out.ge,HE.out.done z.out a3.out (.inl (by omega)),D.out.kept (below_drewN (Below.refl _ wr) _) nlr,z3h E.out _⟩
 case rest =>
  obtain⟨d,K,rfl,rfl,a9,e3,f2,o,m⟩:=hcut;have d7:(d:Int)<=999999999:=by rw[z0t] at a9;omega
  have i8:=qh a9;clear a9;have f0:=qh e3;clear e3;have i7:=qh f2;clear f2;have h4:=qh o;clear o;have g7:=qh m;clear m;clear e8 e6 f1 d2
  go_wp2_with fail
  go_loopw [9,10,88] (fun b c i wr=>∃ (k R Y:Nat) (u:List Nat),k<=n+1/\i=.int .i64 (k:Int)/\c=.int .u64 (R:Int)/\b=.int .u64 (Y:Int)/\SubIn p j u d k R Y/\(k=n+1->R=0) /\
    Own wr B 179 .u64 (.slice (some ⟨g,0,none⟩) N cap) (A++u++C)/\w.grownBy wr (some g)) (fun _ _ i _=>n+1-(intOf i).toNat)
  case atStart=>exact⟨0,0,0,p,Nat.zero_le _,rfl,rfl,rfl,SubIn.start p j d z.out.su,fun _=>rfl,h4.out,g7.out⟩
  obtain⟨k,R,Y,u,hk,rfl,rfl,rfl,I,b7,o,m⟩:=hrel;have s:=I.len;rw[F.out] at s;have a7:(A++u++C).length=N:=by rw[<- HN.out,List.length_append,List.length_append,List.length_append,List.length_append,s,F.out]
  have X:=qh s;clear s;have b3:=qh a7;clear a7;have f7:=qh b7;clear b7;have S:=qh I;clear I;have Z:=qh o;clear o;have a5:=qh m;clear m;by_cases d8:k<n+1
  ·have g6:(R:Int)<=999999999:=by have:=S.out.carry;rw[z0t] at this;omega
   have j6:(Y:Int)<=1:=by have:=S.out.borrow;omega
   have i6:((nth p k:Nat):Int)<=999999999:=by have:=z.out.su k;rw[z0t] at this;omega
   have uc:wr.cell? ⟨g,A.length+k,none⟩=some (.int .u64 ((nth p k:Nat):Int)):=by
    have h:=Z.out.cell b3.out (A.length+k) (by rw[<- b3.out,List.length_append,List.length_append,X.out];omega)
    rwa [y4i _ _ _ _ (by rw[X.out];omega),S.out.same k nlr] at h
   have uf:wr.frozen? ⟨g,A.length+k,none⟩=false:=Z.out.free b3.out _;have J:=S.out.step z.out.sv i8.out (by rw[F.out];exact d8);have a2:=qh J;clear J;by_cases d6:k<n
   ·have vc:wr.cell? ⟨bv,ov+k,none⟩=some (.int .u64 ((nth j k:Nat):Int)):=a5.out.cell (HV.out k d6) (by simpa using c8);have H:((d:Int)*((nth j k:Nat):Int))=((d*nth j k:Nat):Int):=by simp
    have i9:(d:Int)*((nth j k:Nat):Int)<=999999998000000001:=by
     have h2:=z.out.sv k;rw[z0t] at h2;have:d*nth j k<=999999999*999999999:=Nat.mul_le_mul (by omega) (by omega);rw[H];omega
    have j0:0<=(d:Int)*((nth j k:Nat):Int):=by rw[H];omega
    have g9:=qh H;clear H;go_wp2;go_roundw
    case rel =>
     have g8:dSub (nth p k) R Y (d*nth j k)<=1999999999:=by unfold dSub;omega
     rw[g9.out,y9z S.out.borrow];have l:=Z.out.set b3.out (A.length+k) (dSub (nth p k) R Y (d*nth j k) % 1000000000);rw[set_mid _ _ _ _ _ (by rw[X.out];exact d8)] at l;exact⟨k+1,_,_,_,by omega,by go_num,by go_num,by go_num,a2.out,fun h=>by omega,l,y1f a5.out _ _⟩
    simp[intOf];omega
   have O:k=n:=by omega
   have b0:nth j k=0:=z1s j k (by have:=z.out.lv;omega);have f8:(R+d*nth j k) / 1000000000=0:=by
    have h:=S.out;rw[O] at h ⊢;exact h.last z.out.lv
   have i2:=qh O;clear O;have e4:=qh b0;clear b0;have h8:=qh f8;clear f8;go_wp2;go_roundw
   case rel =>
    have e0:(R:Int)=(R:Int)+((d*nth j k:Nat):Int):=by rw[e4.out];simp
    have e1:(R:Int) / 1000000000=((R+d*nth j k) / 1000000000:Nat):=by rw[e4.out,Nat.mul_zero];omega
    have e2:((nth p k:Nat):Int)+1000000000-(R:Int) % 1000000000-(Y:Int)=((dSub (nth p k) R Y (d*nth j k):Nat):Int):=by
     rw[<- y9z S.out.borrow,<- e0]
    have g8:dSub (nth p k) R Y (d*nth j k)<=1999999999:=by unfold dSub;omega
    rw[e1,e2];have l:=Z.out.set b3.out (A.length+k) (dSub (nth p k) R Y (d*nth j k) % 1000000000);rw[set_mid _ _ _ _ _ (by rw[X.out];exact d8)] at l;exact⟨k+1,_,_,_,by omega,by go_num,rfl,by go_num,a2.out,fun _=>h8.out,l,y1f a5.out _ _⟩
   simp[intOf];omega
  have O:k=n+1:=by omega
  have f4:=f7.out O;have I:=S.out;rw[O,f4] at I;have T:=qh I;clear I;clear S f7 O f4
  rcases Nat.eq_zero_or_pos Y with h0|h0
  ·have i5:(((Y:Nat):Int)==0)=true:=by rw[beq_iff_eq];omega
   have Q:d=bval p / bval j/\bval u=bval p % bval j:=by
    have h:=T.out;rw[h0] at h;exact h.fits z.out f0.out
   have HF:=qh Q;clear Q;have i4:=qh h0;clear h0;go_wp2;go_ret;exact⟨u,z5v (by rw[<- HF.out.1]),by rw[X.out,F.out],T.out.small,HF.out.2,Z.out,a5.out⟩
  have i5:(((Y:Nat):Int)==0)=false:=by rw[beq_eq_false_iff_ne];omega
  have a6:Y=1:=by have:=T.out.borrow;omega
  have I:=T.out;rw[a6] at I;have d3:=qh I;clear I T;have i4:=qh a6;clear a6 h0;obtain⟨wo,rfl⟩:∃ wo:World,wo=wr:=⟨_,rfl⟩
  go_wp2_with fail
  go_loopw [10,129] (fun c i wr=>∃ (k R:Nat) (U:List Nat),k<=n+1/\i=.int .i64 (k:Int)/\c=.int .u64 (R:Int)/\AddIn u j U k R /\
   Own wr B 179 .u64 (.slice (some ⟨g,0,none⟩) N cap) (A++U++C)/\w.grownBy wr (some g)) (fun _ i _=>n+1-(intOf i).toNat)
  case atStart=>exact⟨0,0,u,Nat.zero_le _,rfl,rfl,AddIn.start u j d3.out.small,Z.out,a5.out⟩
  obtain⟨G,d4,U,j2,rfl,rfl,W,o,m⟩:=hrel;have s:=W.len;rw[X.out] at s;have a7:(A++U++C).length=N:=by rw[<- HN.out,List.length_append,List.length_append,List.length_append,List.length_append,s,F.out]
  have b6:=qh s;clear s;have b1:=qh a7;clear a7;have b4:=qh W;clear W;have b2:=qh o;clear o;have b8:=qh m;clear m;by_cases b5:G<n+1
  ·have g6:(d4:Int)<=1:=by have:=b4.out.carry;omega
   have i6:((nth u G:Nat):Int)<=999999999:=by have:=d3.out.small G;rw[z0t] at this;omega
   have f3:((nth j G:Nat):Int)<=999999999:=by have:=z.out.sv G;rw[z0t] at this;omega
   have uc:wr.cell? ⟨g,A.length+G,none⟩=some (.int .u64 ((nth u G:Nat):Int)):=by
    have h:=b2.out.cell b1.out (A.length+G) (by rw[<- b1.out,List.length_append,List.length_append,b6.out];omega)
    rwa [y4i _ _ _ _ (by rw[b6.out];omega),b4.out.same G nlr] at h
   have uf:wr.frozen? ⟨g,A.length+G,none⟩=false:=b2.out.free b1.out _;have J:=b4.out.step z.out.sv (by rw[X.out];exact b5);have a2:=qh J;clear J;by_cases d6:G<n
   ·have vc:wr.cell? ⟨bv,ov+G,none⟩=some (.int .u64 ((nth j G:Nat):Int)):=b8.out.cell (HV.out G d6) (by simpa using c8);go_wp2;go_roundw
    case rel =>
     have l:=b2.out.set b1.out (A.length+G) ((nth u G+d4+nth j G) % 1000000000);rw[set_mid _ _ _ _ _ (by rw[b6.out];exact b5)] at l;exact⟨G+1,_,_,by omega,by go_num,by go_num,a2.out,l,y1f b8.out _ _⟩
    simp[intOf];omega
   have b0:nth j G=0:=z1s j G (by have:=z.out.lv;omega);have d5:=a2.out;rw[b0,Nat.add_zero] at d5;have g3:=qh d5;clear d5 a2 b0 f3;go_wp2;go_roundw
   case rel =>
    have l:=b2.out.set b1.out (A.length+G) ((nth u G+d4) % 1000000000);rw[set_mid _ _ _ _ _ (by rw[b6.out];exact b5)] at l;exact⟨G+1,_,_,by omega,by go_num,by go_num,g3.out,l,y1f b8.out _ _⟩
   simp[intOf];omega
  have O:G=n+1:=by omega
  have W:=b4.out;rw[O] at W;have Q:=W.fits z.out d3.out f0.out i7.out;have a9:(1:Int)<=(d:Int):=by have:=Q.1;omega
  have HF:=qh Q;clear Q W;have i2:=qh O;clear O;go_wp2;go_ret;exact⟨U,z5v (by rw[<- HF.out.2.1];omega),by rw[b6.out,F.out],b4.out.small,HF.out.2.2,b2.out,b8.out⟩
end
end Go.Proofs.YteappjogmnogcaaGreatDoor
