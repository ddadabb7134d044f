/- Parts of a proof: Shelf MC Fmt Text Valid Ops MM MD. -/
import Derived.Shelf.Strings.Builder1
import Derived.Shelf.Strings.Builder2
import Derived.Shelf.Small.Wraps
import Derived.Shelf.Strings.BuilderF
import Derived.Shelf.Strings.BuilderK
import Derived.Shelf.Strings.Builder2Cap
import Derived.Shelf.Strconv.Itoa0
import Derived.Shelf.Strconv.Itoa1
import Derived.Shelf.LaysM
import Derived.Shelf.Strconv.Itoa2
import Derived.Shelf.Strings.Search1
import Derived.Shelf.Strings.Search2
import Derived.Shelf.Strings.Cut
import Derived.Shelf.Strings.Shaped
import Derived.Shelf.Strings.Prefix
import Derived.Shelf.Bits.Mul64
import Derived.Shelf.Strings.Repeat
import Derived.Shelf.Strings.BuilderCap
import Derived.Test.YteappjogmnogcaaGreatDoorProg
import Derived.Test.YteappjogmnogcaaGreatDoorU01
import Derived.Deep.QuietTactic
import Derived.BigQuiet
import Derived.Test.YteappjogmnogcaaGreatDoorU00
import Derived.Lib.ItoaMem
import Derived.Lib.AppendIntMem
import Derived.BigCall
import Derived.BigGuard
import Derived.Lib.Repeat
import Derived.WalkKit
import Derived.WalkSpells
import Derived.WalkLawsBesides
import Derived.Lib.Hide
import Derived.Lib.Strings
import Derived.Deep.Cut
import Derived.Deep.DeepCutAuto
namespace Go.Proofs.YteappjogmnogcaaGreatDoor
set_option maxRecDepth 100000
set_option linter.unusedSimpArgs false
set_option linter.unusedVariables false
set_option linter.unusedSectionVars false
set_option maxHeartbeats 16000000
open Go Tryz
end Go.Proofs.YteappjogmnogcaaGreatDoor
namespace Go.Proofs
open Go.Shelf
def Tryz.lays169_ren:Go.Shelf.Ren:=⟨fun | 169=>235 | n=>n,fun | 70=>218 | 9=>9 | 0=>0 | 72=>220 | 37=>175 | 127=>233 | 3=>3 | 5=>5 | n=>n,fun | n=>n⟩
theorem Tryz.lays169:Go.Proofs.Lays.n169 Tryz.prog Tryz.lays169_ren:={
 mixed:=by kernel_rfl
 f169:=Tryz.func235.trans (congrArg some (by kernel_rfl))
 t0:=Tryz.underlying0
 a0:=Tryz.isAgg0
 z0:=Tryz.sizeOf0
 v0:=Tryz.zeroValue0
 t3:=Tryz.underlying3
 a3:=Tryz.isAgg3
 z3:=Tryz.sizeOf3
 v3:=Tryz.zeroValue3
 t9:=Tryz.underlying9
 a9:=Tryz.isAgg9
 z9:=Tryz.sizeOf9
 v9:=Tryz.zeroValue9
 t37:=Tryz.underlying175
 a37:=Tryz.isAgg175
 z37:=Tryz.sizeOf175
 v37:=Tryz.zeroValue175
 t70:=Tryz.underlying218
 a70:=Tryz.isAgg218
 z70:=Tryz.sizeOf218
 v70:=Tryz.zeroValue218
 t72:=Tryz.underlying220
 a72:=Tryz.isAgg220
 z72:=Tryz.sizeOf220
 v72:=Tryz.zeroValue220
 t127:=Tryz.underlying233
 a127:=Tryz.isAgg233
 z127:=Tryz.sizeOf233
 v127:=Tryz.zeroValue233 }
theorem Tryz.Builder_Extra_169:Builder.Extra Tryz.prog Tryz.lays169_ren:={
 sizeBuilder:=by kernel_rfl
 liesBuilder:=by kernel_rfl
 t5:=Tryz.underlying5
 a5:=Tryz.isAgg5
 z5:=Tryz.sizeOf5
 v5:=Tryz.zeroValue5
 infoByte:=by kernel_rfl
 cellsByte:=by kernel_rfl
 sizeByte:=by kernel_rfl
 neB5:=by decide }
open Go.RowKit in
theorem Tryz.Builder_String_any (B b:Nat) (l:List UInt8) (w:World) (h:Lib.IsBuilder 220 5 B b (Lib.byteCells l) w) (hBw:B≤w.heap.size) :
  Calls Tryz.prog 235 #[.pointer (some ⟨b,0,none⟩)] w fun e w'=>e=.returned (.string ⟨l.toArray⟩)∧Below B w w':=Any.Builder_String_any Tryz.lays169 Tryz.Builder_Extra_169 B b l w h hBw
def Tryz.lays103_ren:Go.Shelf.Ren:=⟨fun | 103=>210 | 210=>225 | 206=>239 | n=>n,fun | 9=>9 | 4=>4 | 24=>203 | 3=>3 | n=>n,fun | n=>n⟩
theorem Tryz.lays103:Go.Proofs.Lays.n103 Tryz.prog Tryz.lays103_ren:={
 mixed:=by kernel_rfl
 f103:=Tryz.func210.trans (congrArg some (by kernel_rfl))
 f206:=Tryz.func239.trans (congrArg some (by kernel_rfl))
 f210:=Tryz.func225.trans (congrArg some (by kernel_rfl))
 t3:=Tryz.underlying3
 a3:=Tryz.isAgg3
 z3:=Tryz.sizeOf3
 v3:=Tryz.zeroValue3
 t4:=Tryz.underlying4
 a4:=Tryz.isAgg4
 z4:=Tryz.sizeOf4
 v4:=Tryz.zeroValue4
 t9:=Tryz.underlying9
 a9:=Tryz.isAgg9
 z9:=Tryz.sizeOf9
 v9:=Tryz.zeroValue9
 t24:=Tryz.underlying203
 a24:=Tryz.isAgg203
 z24:=Tryz.sizeOf203
 v24:=Tryz.zeroValue203 }
open Go.RowKit in
theorem Tryz.strings_CutPrefix (s p:ByteArray) (w:World) :
  Calls Tryz.prog 210 #[.string s,.string p] w fun e w'=>e=.returned (.tuple #[.string ⟨(Lib.trimPrefix s.data.toList p.data.toList).toArray⟩,.bool (Lib.hasPrefix s.data.toList p.data.toList)])∧w'=w:=Any.strings_CutPrefix Tryz.lays103 s p w
def Tryz.lays215_ren:Go.Shelf.Ren:=⟨fun | 215=>241 | n=>n,fun | 3=>3 | 4=>4 | n=>n,fun | n=>n⟩
def Tryz.lays122_ren:Go.Shelf.Ren:=⟨fun | 122=>230 | 215=>241 | n=>n,fun | 3=>3 | 4=>4 | n=>n,fun | n=>n⟩
theorem Tryz.lays122:Go.Proofs.Lays.n122 Tryz.prog Tryz.lays122_ren:={
 mixed:=by kernel_rfl
 f122:=Tryz.func230.trans (congrArg some (by kernel_rfl))
 f215:=Tryz.func241.trans (congrArg some (by kernel_rfl))
 t3:=Tryz.underlying3
 a3:=Tryz.isAgg3
 z3:=Tryz.sizeOf3
 v3:=Tryz.zeroValue3
 t4:=Tryz.underlying4
 a4:=Tryz.isAgg4
 z4:=Tryz.sizeOf4
 v4:=Tryz.zeroValue4 }
open Go.RowKit in
theorem Tryz.cmp_Compare_int (x y:Int) (w:World) :
  Calls Tryz.prog 230 #[.int .i64 x,.int .i64 y] w fun e w'=>e=.returned (.int .i64 (Lib.compareInt x y))∧w'=w:=Any.cmp_Compare_int Tryz.lays122 x y w
def Tryz.lays283_ren:Go.Shelf.Ren:=⟨fun | 283=>253 | n=>n,fun | 3=>3 | 9=>9 | 4=>4 | n=>n,fun | n=>n⟩
theorem Tryz.lays283:Go.Proofs.Lays.n283 Tryz.prog Tryz.lays283_ren:={
 mixed:=by kernel_rfl
 f283:=Tryz.func253.trans (congrArg some (by kernel_rfl))
 t3:=Tryz.underlying3
 a3:=Tryz.isAgg3
 z3:=Tryz.sizeOf3
 v3:=Tryz.zeroValue3
 t4:=Tryz.underlying4
 a4:=Tryz.isAgg4
 z4:=Tryz.sizeOf4
 v4:=Tryz.zeroValue4
 t9:=Tryz.underlying9
 a9:=Tryz.isAgg9
 z9:=Tryz.sizeOf9
 v9:=Tryz.zeroValue9 }
open Go.Lib in
theorem Tryz.internal_strconv_small (i:Nat) (h:i < 100) (w:World) :
  Calls Tryz.prog 253 #[.int .i64 i] w fun e w'=>e=.returned (.string ⟨(Lib.decDigits i).toArray⟩)∧w'=w:=Any.internal_strconv_small Tryz.lays283 i h w
def Tryz.laysM284_ren:Go.Shelf.Ren:=⟨fun | 284=>254 | 129=>262 | 317=>261 | 318=>263 | n=>n,fun | 53=>179 | 3=>3 | 212=>243 | 0=>0 | 4=>4 | 46=>83 | 5=>5 | 9=>9 | n=>n,fun | 17=>1 | n=>n⟩
theorem Tryz.laysM284:Go.Proofs.LaysM.n284 Tryz.prog Tryz.laysM284_ren:={
 mixed:=by kernel_rfl
 f129:=Tryz.func262.trans (congrArg some (by kernel_rfl))
 f284:=Tryz.func254.trans (congrArg some (by kernel_rfl))
 f317:=Tryz.func261.trans (congrArg some (by kernel_rfl))
 f318:=Tryz.func263.trans (congrArg some (by kernel_rfl))
 t0:=Tryz.underlying0
 a0:=Tryz.isAgg0
 z0:=Tryz.sizeOf0
 v0:=Tryz.zeroValue0
 t3:=Tryz.underlying3
 a3:=Tryz.isAgg3
 z3:=Tryz.sizeOf3
 v3:=Tryz.zeroValue3
 t4:=Tryz.underlying4
 a4:=Tryz.isAgg4
 z4:=Tryz.sizeOf4
 v4:=Tryz.zeroValue4
 t5:=Tryz.underlying5
 a5:=Tryz.isAgg5
 z5:=Tryz.sizeOf5
 v5:=Tryz.zeroValue5
 t9:=Tryz.underlying9
 a9:=Tryz.isAgg9
 z9:=Tryz.sizeOf9
 v9:=Tryz.zeroValue9
 t46:=Tryz.underlying83
 a46:=Tryz.isAgg83
 z46:=Tryz.sizeOf83
 v46:=Tryz.zeroValue83
 t53:=Tryz.underlying179
 a53:=Tryz.isAgg179
 z53:=Tryz.sizeOf179
 v53:=Tryz.zeroValue179
 t212:=Tryz.underlying243
 a212:=Tryz.isAgg243
 z212:=Tryz.sizeOf243
 v212:=Tryz.zeroValue243
 g17:=by kernel_rfl
 i0:=by kernel_rfl
 i3:=by kernel_rfl
 i4:=by kernel_rfl
 i5:=by kernel_rfl
 i9:=by kernel_rfl
 i46:=by kernel_rfl
 i53:=by kernel_rfl
 i212:=by kernel_rfl
 m17:=by kernel_rfl }
open Go.Lib in
theorem Tryz.internal_strconv_numDigits (u:Nat) (h1:1≤u) (h2:u < 18446744073709551616) (w:World) (htab:Lib.TabIs Tryz.prog w "internal/strconv.uint64pow10" .u64 Lib.pow10Tab) :
  Calls Tryz.prog 254 #[.int .u64 u] w fun e w'=>e=.returned (.int .i64 (Lib.nDigits u))∧w'=w:=Any.internal_strconv_numDigits Tryz.laysM284 u h1 h2 w htab
def Tryz.lays285_ren:Go.Shelf.Ren:=⟨fun | 285=>255 | n=>n,fun | 37=>175 | 53=>179 | 3=>3 | 4=>4 | 51=>176 | 9=>9 | 5=>5 | 0=>0 | n=>n,fun | n=>n⟩
theorem Tryz.lays285:Go.Proofs.Lays.n285 Tryz.prog Tryz.lays285_ren:={
 mixed:=by kernel_rfl
 f285:=Tryz.func255.trans (congrArg some (by kernel_rfl))
 t0:=Tryz.underlying0
 a0:=Tryz.isAgg0
 z0:=Tryz.sizeOf0
 v0:=Tryz.zeroValue0
 t3:=Tryz.underlying3
 a3:=Tryz.isAgg3
 z3:=Tryz.sizeOf3
 v3:=Tryz.zeroValue3
 t4:=Tryz.underlying4
 a4:=Tryz.isAgg4
 z4:=Tryz.sizeOf4
 v4:=Tryz.zeroValue4
 t5:=Tryz.underlying5
 a5:=Tryz.isAgg5
 z5:=Tryz.sizeOf5
 v5:=Tryz.zeroValue5
 t9:=Tryz.underlying9
 a9:=Tryz.isAgg9
 z9:=Tryz.sizeOf9
 v9:=Tryz.zeroValue9
 t37:=Tryz.underlying175
 a37:=Tryz.isAgg175
 z37:=Tryz.sizeOf175
 v37:=Tryz.zeroValue175
 t51:=Tryz.underlying176
 a51:=Tryz.isAgg176
 z51:=Tryz.sizeOf176
 v51:=Tryz.zeroValue176
 t53:=Tryz.underlying179
 a53:=Tryz.isAgg179
 z53:=Tryz.sizeOf179
 v53:=Tryz.zeroValue179 }
open Go.RowKit Go.Sort Go.Lib in
theorem Tryz.internal_strconv_formatBase10 (blk off cap:Nat) (u:Nat) (d:Array UInt8) (w:World) (hH:Holds (fun (b:UInt8)=>Value.int .u8 (b.toNat:Int)) w blk off d) (hu:u < 10 ^ d.size) (hu64:u < 18446744073709551616) (hsz:d.size < 4611686018427387904) :
  Calls Tryz.prog 255 #[.slice (some ⟨blk,off,none⟩) d.size cap,.int .u64 u] w fun e w' =>
   e=.returned (.tuple #[])∧∃ (n v':Nat) (dk:Array UInt8),w'=(putRow (fun (b:UInt8)=>Value.int .u8 (b.toNat:Int)) w blk off dk).drewN n∧FmtInv d.size u 0 v' dk:=Any.internal_strconv_formatBase10 Tryz.lays285 blk off cap u d w hH hu hu64 hsz
def Tryz.lays217_ren:Go.Shelf.Ren:=⟨fun | 217=>249 | 266=>259 | n=>n,fun | 9=>9 | 5=>5 | 3=>3 | n=>n,fun | n=>n⟩
theorem Tryz.lays217:Go.Proofs.Lays.n217 Tryz.prog Tryz.lays217_ren:={
 mixed:=by kernel_rfl
 f217:=Tryz.func249.trans (congrArg some (by kernel_rfl))
 f266:=Tryz.func259.trans (congrArg some (by kernel_rfl))
 t3:=Tryz.underlying3
 a3:=Tryz.isAgg3
 z3:=Tryz.sizeOf3
 v3:=Tryz.zeroValue3
 t5:=Tryz.underlying5
 a5:=Tryz.isAgg5
 z5:=Tryz.sizeOf5
 v5:=Tryz.zeroValue5
 t9:=Tryz.underlying9
 a9:=Tryz.isAgg9
 z9:=Tryz.sizeOf9
 v9:=Tryz.zeroValue9 }
open Go.RowKit Go.Lib in
theorem Tryz.stringslite_IndexByte (s:ByteArray) (c:Int) (w:World) :
  Calls Tryz.prog 249 #[.string s,.int .u8 c] w fun e w'=>e=.returned (.int .i64 (Lib.indexByte s.data.toList c.toNat.toUInt8))∧w'=w:=Any.stringslite_IndexByte Tryz.lays217 s c w
def Tryz.lays212_ren:Go.Shelf.Ren:=⟨fun | 212=>152 | 263=>180 | 264=>181 | n=>n,fun | 46=>83 | 51=>176 | 146=>177 | 53=>179 | 148=>180 | n=>n,fun | n=>n⟩
theorem Tryz.lays212:Go.Proofs.Lays.n212 Tryz.prog Tryz.lays212_ren:={
 mixed:=by kernel_rfl
 f212:=Tryz.func152.trans (congrArg some (by kernel_rfl))
 f263:=Tryz.func180.trans (congrArg some (by kernel_rfl))
 f264:=Tryz.func181.trans (congrArg some (by kernel_rfl))
 t46:=Tryz.underlying83
 a46:=Tryz.isAgg83
 z46:=Tryz.sizeOf83
 v46:=Tryz.zeroValue83
 t51:=Tryz.underlying176
 a51:=Tryz.isAgg176
 z51:=Tryz.sizeOf176
 v51:=Tryz.zeroValue176
 t53:=Tryz.underlying179
 a53:=Tryz.isAgg179
 z53:=Tryz.sizeOf179
 v53:=Tryz.zeroValue179
 t146:=Tryz.underlying177
 a146:=Tryz.isAgg177
 z146:=Tryz.sizeOf177
 v146:=Tryz.zeroValue177
 t148:=Tryz.underlying180
 a148:=Tryz.isAgg180
 z148:=Tryz.sizeOf180
 v148:=Tryz.zeroValue180 }
open Go.RowKit Go.Lib in
theorem Tryz.bits_Mul (x y:Nat) (hx:x < 18446744073709551616) (hy:y < 18446744073709551616) (w:World) :
  Calls Tryz.prog 152 #[.int .u64 x,.int .u64 y] w fun e w'=>e=.returned (.tuple #[.int .u64 ((x*y / 18446744073709551616:Nat):Int),.int .u64 ((x*y % 18446744073709551616:Nat):Int)])∧w'=w:=Any.bits_Mul Tryz.lays212 x y hx hy w
def Tryz.lays105_ren:Go.Shelf.Ren:=⟨fun | 105=>234 | 212=>152 | 99=>245 | 165=>246 | 166=>233 | 170=>247 | 169=>235 | 263=>180 | 264=>181 | 206=>239 | 240=>244 | 241=>258 | 276=>257 | 277=>266 | n=>n,fun | 9=>9 | 3=>3 | 4=>4 | 20=>20 | 0=>0 | 46=>83 | 109=>164 | 5=>5 | 72=>220 | 76=>224 | 51=>176 | 146=>177 | 53=>179 | 148=>180 | 70=>218 | 37=>175 | 75=>223 | 127=>233 | 164=>239 | 80=>208 | n=>n,fun | n=>n⟩
theorem Tryz.lays105:Go.Proofs.Lays.n105 Tryz.prog Tryz.lays105_ren:={
 mixed:=by kernel_rfl
 f99:=Tryz.func245.trans (congrArg some (by kernel_rfl))
 f105:=Tryz.func234.trans (congrArg some (by kernel_rfl))
 f165:=Tryz.func246.trans (congrArg some (by kernel_rfl))
 f166:=Tryz.func233.trans (congrArg some (by kernel_rfl))
 f169:=Tryz.func235.trans (congrArg some (by kernel_rfl))
 f170:=Tryz.func247.trans (congrArg some (by kernel_rfl))
 f206:=Tryz.func239.trans (congrArg some (by kernel_rfl))
 f212:=Tryz.func152.trans (congrArg some (by kernel_rfl))
 f240:=Tryz.func244.trans (congrArg some (by kernel_rfl))
 f241:=Tryz.func258.trans (congrArg some (by kernel_rfl))
 f263:=Tryz.func180.trans (congrArg some (by kernel_rfl))
 f264:=Tryz.func181.trans (congrArg some (by kernel_rfl))
 f276:=Tryz.func257.trans (congrArg some (by kernel_rfl))
 f277:=Tryz.func266.trans (congrArg some (by kernel_rfl))
 t0:=Tryz.underlying0
 a0:=Tryz.isAgg0
 z0:=Tryz.sizeOf0
 v0:=Tryz.zeroValue0
 t3:=Tryz.underlying3
 a3:=Tryz.isAgg3
 z3:=Tryz.sizeOf3
 v3:=Tryz.zeroValue3
 t4:=Tryz.underlying4
 a4:=Tryz.isAgg4
 z4:=Tryz.sizeOf4
 v4:=Tryz.zeroValue4
 t5:=Tryz.underlying5
 a5:=Tryz.isAgg5
 z5:=Tryz.sizeOf5
 v5:=Tryz.zeroValue5
 t9:=Tryz.underlying9
 a9:=Tryz.isAgg9
 z9:=Tryz.sizeOf9
 v9:=Tryz.zeroValue9
 t20:=Tryz.underlying20
 a20:=Tryz.isAgg20
 z20:=Tryz.sizeOf20
 v20:=Tryz.zeroValue20
 t37:=Tryz.underlying175
 a37:=Tryz.isAgg175
 z37:=Tryz.sizeOf175
 v37:=Tryz.zeroValue175
 t46:=Tryz.underlying83
 a46:=Tryz.isAgg83
 z46:=Tryz.sizeOf83
 v46:=Tryz.zeroValue83
 t51:=Tryz.underlying176
 a51:=Tryz.isAgg176
 z51:=Tryz.sizeOf176
 v51:=Tryz.zeroValue176
 t53:=Tryz.underlying179
 a53:=Tryz.isAgg179
 z53:=Tryz.sizeOf179
 v53:=Tryz.zeroValue179
 t70:=Tryz.underlying218
 a70:=Tryz.isAgg218
 z70:=Tryz.sizeOf218
 v70:=Tryz.zeroValue218
 t72:=Tryz.underlying220
 a72:=Tryz.isAgg220
 z72:=Tryz.sizeOf220
 v72:=Tryz.zeroValue220
 t75:=Tryz.underlying223
 a75:=Tryz.isAgg223
 z75:=Tryz.sizeOf223
 v75:=Tryz.zeroValue223
 t76:=Tryz.underlying224
 a76:=Tryz.isAgg224
 z76:=Tryz.sizeOf224
 v76:=Tryz.zeroValue224
 t109:=Tryz.underlying164
 a109:=Tryz.isAgg164
 z109:=Tryz.sizeOf164
 v109:=Tryz.zeroValue164
 t127:=Tryz.underlying233
 a127:=Tryz.isAgg233
 z127:=Tryz.sizeOf233
 v127:=Tryz.zeroValue233
 t146:=Tryz.underlying177
 a146:=Tryz.isAgg177
 z146:=Tryz.sizeOf177
 v146:=Tryz.zeroValue177
 t148:=Tryz.underlying180
 a148:=Tryz.isAgg180
 z148:=Tryz.sizeOf180
 v148:=Tryz.zeroValue180
 t164:=Tryz.underlying239
 a164:=Tryz.isAgg239
 z164:=Tryz.sizeOf239
 v164:=Tryz.zeroValue239 }
theorem Tryz.Builder_Extra_105:Builder.Extra Tryz.prog Tryz.lays105_ren:={
 sizeBuilder:=by kernel_rfl
 liesBuilder:=by kernel_rfl
 t5:=Tryz.underlying5
 a5:=Tryz.isAgg5
 z5:=Tryz.sizeOf5
 v5:=Tryz.zeroValue5
 infoByte:=by kernel_rfl
 cellsByte:=by kernel_rfl
 sizeByte:=by kernel_rfl
 neB5:=by decide }
open Go.RowKit Go.Lib in
theorem Tryz.strings_Repeat (s:ByteArray) (c:Nat) (w:World) (hc:c≤9223372036854775807) (hlen:s.size*c≤140737488355328) :
  Calls Tryz.prog 234 #[.string s,.int .i64 c] w fun e w'=>e=.returned (.string ⟨(Lib.repeatL s.data.toList c).toArray⟩)∧Below w.heap.size w w':=Any.strings_Repeat Tryz.lays105 Tryz.Builder_Extra_105 s c w hc hlen
open Go.RowKit Go.Lib in
theorem Tryz.lays166:Go.Proofs.Lays.n166 Tryz.prog Tryz.lays105_ren:={ Tryz.lays105 with }
open Go.RowKit in
theorem Tryz.Builder_WriteString (B b:Nat) (bs:List Value) (s:ByteArray) (w:World) (h:Lib.IsBuilder 220 5 B b bs w) (hlen:bs.length+s.size≤140737488355328) (hBw:B≤w.heap.size) :
  Calls Tryz.prog 233 #[.pointer (some ⟨b,0,none⟩),.string s] w fun e w'=>e=.returned (.tuple #[.int .i64 s.size,.nilIface])∧(Lib.BuilderAt 220 5 B b (.pointer (some ⟨b,0,none⟩)) (bs++Lib.strCells s) w'∧Below B w w') :=
 Any.Builder_WriteString Tryz.lays166 Tryz.Builder_Extra_105 B b bs s w h hlen hBw
end Go.Proofs
namespace Go.Proofs.YteappjogmnogcaaGreatDoor
set_option maxRecDepth 100000
set_option linter.unusedSimpArgs false
set_option linter.unusedVariables false
set_option linter.unusedSectionVars false
set_option maxHeartbeats 16000000
open Go Tryz
section
open Go.RowKit
def cmpN (m n:Nat):Int:=if m<n then -1 else if n<m then 1 else 0
theorem z7y {m n:Nat} (h:m<n):cmpN m n=-1:=by unfold cmpN;rw[if_pos h]
theorem z7v {m n:Nat} (h:n<m):cmpN m n=1:=by unfold cmpN;rw[if_neg (by omega),if_pos h]
theorem y1p {m n:Nat} (h:m=n):cmpN m n=0:=by unfold cmpN;rw[if_neg (by omega),if_neg (by omega)]
theorem y4k (x:Int) (w:World):Calls prog 242 #[.int .u64 x] w fun e w'=>e=.returned (.bool false)/\w=w':=by
 have h:(x != x)=false:=by simp
 go_enter func242,ntmps242
 go_wp2;go_ret;exact⟨rfl,rfl⟩
theorem x3c (x y:Nat) (w:World):Calls prog 231 #[.int .u64 (x:Int),.int .u64 (y:Int)] w fun e w'=>e=.returned (.int .i64 (cmpN x y))/\w=w':=by
 rcases Nat.lt_trichotomy x y with h|h|h
 ·have c:=z7y h;have d:=qh c;clear c
  go_enter func231,ntmps231
  go_wp2_with (go_at_call 242;refine(y4k _ _).mono ?_;rintro e w' ⟨rfl,rfl⟩)
  go_ret;exact⟨z5p d.out.symm,rfl⟩
 ·subst h;have c:=y1p (rfl:x=x);have d:=qh c;clear c
  go_enter func231,ntmps231
  go_wp2_with (go_at_call 242;refine(y4k _ _).mono ?_;rintro e w' ⟨rfl,rfl⟩)
  go_ret;exact⟨z5p d.out.symm,rfl⟩
 have c:=z7v h;have d:=qh c;clear c
 go_enter func231,ntmps231
 go_wp2_with (go_at_call 242;refine(y4k _ _).mono ?_;rintro e w' ⟨rfl,rfl⟩)
 go_ret;exact⟨z5p d.out.symm,rfl⟩
theorem y2s (xs:List Nat) (k i:Nat):nth (xs.drop k) i=nth xs (k+i):=by simp[nth,List.getD_eq_getElem?_getD]
theorem y5y (xs:List Nat) (j:Nat):bval xs=bval (xs.take j)+BB ^ j*nth xs j+BB ^ (j+1)*bval (xs.drop (j+1)):=by
 rw[<- z0k];by_cases h:j+1<=xs.length
 ·have:=z4i (xs.take (j+1)) (xs.drop (j+1));rw[List.take_append_drop,List.length_take,Nat.min_eq_left h] at this;exact this
 rw[List.take_of_length_le (by omega),List.drop_of_length_le (by omega)];simp[bval]
theorem y1x {xs c:List Nat} (k:xs.length=c.length) (h:∀ j,j<xs.length->nth xs j=nth c j):xs=c:=by
 apply List.ext_getElem k
 intro i d g;have:=h i d;rw[y0x xs i d,y0x c i g] at this;exact this
theorem y5i {xs c:List Nat} (g:Small xs) (l:xs.length=c.length) (j:Nat) (h:∀ i,j<i->i<xs.length->nth xs i=nth c i) (d:nth xs j<nth c j):bval xs<bval c:=by
 rw[y5y xs j,y5y c j];have e:xs.drop (j+1)=c.drop (j+1):=y1x (by simp[l]) (fun i hi=>by
  rw[y2s,y2s];rw[List.length_drop] at hi;exact h _ (by omega) (by omega))
 rw[e];have m:bval (xs.take j)<BB ^ j:=Nat.lt_of_lt_of_le (z3w (z4h g j)) (Nat.pow_le_pow_right z1w (by rw[List.length_take];omega));have k:BB ^ j*(nth xs j+1)<=BB ^ j*nth c j:=Nat.mul_le_mul_left _ d;rw[Nat.mul_add] at k;omega
theorem y9a {m n:Nat} (h:(toB m).length<(toB n).length):m<n:=by
 rcases Nat.lt_or_ge m n with c|c
 ·exact c
 have:=z2f c;omega
def CmpEnd (m n:Nat) (w:World) (e:Ending) (w':World):Prop:=e=.returned (.int .i64 (cmpN m n))/\Below w.heap.size w w'
theorem cmpint (x y:Nat) (w:World):Calls prog 230 #[.int .i64 (x:Int),.int .i64 (y:Int)] w fun e w'=>e=.returned (.int .i64 (cmpN x y))/\w=w':=by
 refine(Tryz.cmp_Compare_int x y w).mono fun e w' h=>⟨?_,h.2.symm⟩;rw[h.1]
 apply z5p
 unfold Lib.compareInt cmpN
 repeat' split
 all_goals first|rfl|omega
theorem z5m (X T:Value) (m n:Nat) (w:World) (Y:Sl w .u64 X (toB m)) (Z:Sl w .u64 T (toB n)) :
  Calls prog 220 #[X,T] w (CmpEnd m n w):=by
 obtain⟨ax,cx,bx,ox,rfl,z,U,J,R,c⟩:=Y.open;obtain⟨ay,cy,N,oy,rfl,A,a1,G,Q,d⟩:=Z.open;unfold maxLen at J G;clear Y Z;by_cases K:(toB m).length=(toB n).length
 ·have I:(((toB m).length:Int) != ((toB n).length:Int))=false:=by rw[K];simp
  go_enter func220,ntmps220
  have s:=qh K;clear K;go_wp2;clear I
  go_loopw [19] (fun i wr=>∃ k:Nat,k<=(toB m).length/\i=.int .i64 k/\(∀ j,(toB m).length-1-k<j->j<(toB m).length->nth (toB m) j=nth (toB n) j)/\(k=(toB m).length->0<k->nth (toB m) 0=nth (toB n) 0)/\Below w.heap.size w wr) (fun i _=>(toB m).length-(intOf i).toNat)
  case atStart=>exact⟨0,Nat.zero_le _,rfl,fun j C D=>by omega,fun _ h=>absurd h (Nat.lt_irrefl _),blr⟩
  obtain⟨k,hk,rfl,F,o,hb⟩:=hrel;have L:=qh F;clear F;have P:=qh o;clear o;have B:=qh hb;clear hb;by_cases a2:k<(toB m).length
  ·obtain rfl:=z (by omega);obtain rfl:=A (by have:=s.out;omega);have c1:=(B.out.cell (p:=⟨bx,ox+((toB m).length-1-k),none⟩) (R (by omega))).trans (c ((toB m).length-1-k) (by omega));have c2:=(B.out.cell (p:=⟨N,oy+((toB m).length-1-k),none⟩) (Q (by have:=s.out;omega))).trans (d ((toB m).length-1-k) (by have:=s.out;omega));have W:(((toB m).length:Int)-1-(k:Int))<((toB n).length:Int):=by have:=s.out;omega
   have S:0<=(((toB m).length:Int)-1-(k:Int)):=by omega
   clear z A c d
   rcases Nat.lt_trichotomy (nth (toB m) ((toB m).length-1-k)) (nth (toB n) ((toB m).length-1-k)) with g|g|g
   ·have u:=z7y g;have l:cmpN m n=-1:=z7y (by
     have:=y5i (z0x m) s.out ((toB m).length-1-k) (fun i C D=>L.out i C D) g
     rwa [z0y,z0y] at this)
    clear g;have E:=qh l;clear l;have H:=qh u;clear u
    go_wp2_with fail
    go_quiet ((go_at_call 231;exact Calls.quiet_of_same ((x3c _ _ _).mono fun e O h=>⟨by rw[h.1,H.out],h.2.symm⟩)))
    go_wp2;go_ret;exact⟨z5p E.out.symm,below_drewN B.out _⟩
   ·have u:=y1p g;have HC:=qh g;clear g;have H:=qh u;clear u
    go_wp2_with fail
    go_quiet ((go_at_call 231;exact Calls.quiet_of_same ((x3c _ _ _).mono fun e O h=>⟨by rw[h.1,H.out],h.2.symm⟩)))
    go_wp2;go_roundw
    case rel =>
     refine⟨k+1,by omega,by go_num,fun j C D=>?_,fun C _=>?_,below_drewN B.out _⟩
     ·by_cases e:j=(toB m).length-1-k
      ·rw[e];exact HC.out
      exact L.out j (by omega) D
     have:=HC.out
     rwa [show (toB m).length-1-k=0 by omega] at this
    simp[intOf];omega
   have u:=z7v g;have l:cmpN m n=1:=z7v (by
    have:=y5i (z0x n) s.out.symm ((toB m).length-1-k) (fun i C D=>(L.out i C (by rw[s.out];exact D)).symm) g
    rwa [z0y,z0y] at this)
   clear g;have E:=qh l;clear l;have H:=qh u;clear u
   go_wp2_with fail
   go_quiet ((go_at_call 231;exact Calls.quiet_of_same ((x3c _ _ _).mono fun e O h=>⟨by rw[h.1,H.out],h.2.symm⟩)))
   go_wp2;go_ret;exact⟨z5p E.out.symm,below_drewN B.out _⟩
  go_wp2;go_ret;have l:cmpN m n=0:=y1p (by
   have e:toB m=toB n:=y1x s.out (fun j hj=>by
    by_cases h0:j=0
    ·subst h0;exact P.out (by omega) (by omega)
    exact L.out j (by omega) hj)
   rw[<- z0y m,e,z0y])
  exact⟨z5p l.symm,B.out⟩
 have I:(((toB m).length:Int) != ((toB n).length:Int))=true:=by rw[bne_iff_ne];omega
 have l:cmpN (toB m).length (toB n).length=cmpN m n:=by
  rcases Nat.lt_or_ge (toB m).length (toB n).length with h|h
  ·rw[z7y h,z7y (y9a h)]
  rw[z7v (show (toB n).length<(toB m).length by omega),z7v (y9a (by omega))]
 have E:=qh l;clear l;clear K z A c d
 go_enter func220,ntmps220
 go_wp2_with (go_at_call 230;refine(cmpint _ _ _).mono ?_;rintro e O ⟨rfl,rfl⟩)
 go_ret;exact⟨z5p E.out,blr⟩
end
section
def padj:Nat->Nat->List UInt8|0,_=>[] | j+1,b=>padj j (b / 10)++[UInt8.ofNat (48+b % 10)]
theorem u0u (j:Nat):∀ (n b:Nat),1<=n->b<10 ^ j->dec (n*10 ^ j+b)=dec n++padj j b:=by
 induction j with
 | zero=>intro n b _ hb;simp at hb;subst hb;simp[padj]
 | succ j ih =>
  intro n b c hb;have h:10<=n*10 ^ (j+1)+b:=by
   have:1*10 ^ (j+1)<=n*10 ^ (j+1):=Nat.mul_le_mul_right _ c;have:1<=10 ^ j:=Nat.pow_pos (by omega);rw[Nat.pow_succ] at *;omega
  rw[y1k (by omega)];have g:(n*10 ^ (j+1)+b) / 10=n*10 ^ j+b / 10:=by rw[Nat.pow_succ,<- Nat.mul_assoc];omega
  have d:(n*10 ^ (j+1)+b) % 10=b % 10:=by rw[Nat.pow_succ,<- Nat.mul_assoc];omega
  rw[g,d,ih n (b / 10) c (by rw[Nat.pow_succ] at hb;omega)];simp[padj]
theorem v1z (j:Nat):padj j 0=List.replicate j 48:=by
 induction j with
 | zero=>rfl
 | succ j ih=>simp only[padj,Nat.zero_div,Nat.zero_mod,ih];rw[List.replicate_succ'];rfl
theorem u0c (j:Nat):∀ b,1<=j->b<10 ^ j->padj j b=List.replicate (j-(dec b).length) 48++dec b:=by
 induction j with
 | zero=>intro b h;omega
 | succ j ih =>
  intro b _ hb;by_cases h:b<10
  ·simp only[padj];rw[z2r h,Nat.div_eq_of_lt h,v1z,Nat.mod_eq_of_lt h];simp
  have d:1<=j:=by
   rcases Nat.eq_zero_or_pos j with c|c
   ·subst c;simp at hb;omega
   exact c
  simp only[padj];rw[ih (b / 10) d (by rw[Nat.pow_succ] at hb;omega),y1k h];simp
theorem x9r {n b:Nat} (hn:1<=n) (hb:b<BB):dec (b+BB*n)=dec n++(List.replicate (9-(dec b).length) 48++dec b):=by
 rw[z0s] at *;have h:b+1000000000*n=n*10 ^ 9+b:=by omega
 rw[h,u0u 9 n b hn (by omega),u0c 9 b (by omega) (by omega)]
theorem v6t {b:Nat} (hb:b<BB):(dec b).length<=9:=by rw[z0s] at hb;exact z3p.2 ⟨by omega,by omega⟩
noncomputable def topB (n k:Nat):List UInt8:=if k=0 then [] else dec (bval ((toB n).drop ((toB n).length-k)))
theorem x0r (n:Nat):topB n 0=[]:=rfl
theorem y3j (xs:List Nat) (k:Nat) (c:k<xs.length):bval (xs.drop (xs.length-(k+1)))=nth xs (xs.length-1-k)+BB*bval (xs.drop (xs.length-k)):=by
 rw[List.drop_eq_getElem_cons (by omega),show xs.length-(k+1)+1=xs.length-k by omega];simp only[bval];rw[y0x xs _ (by omega)]
 congr 2
 omega
theorem v4s (n:Nat) (h:n≠0):topB n 1=dec (nth (toB n) ((toB n).length-1)):=by
 have:=y2b h;unfold topB;rw[if_neg (by omega),y3j (toB n) 0 (by omega),Nat.sub_zero,Nat.sub_zero,List.drop_length];simp[bval]
theorem v3n (n:Nat) (h:n≠0) (k:Nat) (g:1<=k) (d:k<=(toB n).length):1<=bval ((toB n).drop ((toB n).length-k)):=by
 induction k with
 | zero=>omega
 | succ k ih =>
  rw[y3j (toB n) k d]
  rcases Nat.eq_zero_or_pos k with c|c
  ·subst c;rw[Nat.sub_zero];have:=y7t h;omega
  have:=ih c (by omega);have:BB*1<=BB*bval ((toB n).drop ((toB n).length-k)):=Nat.mul_le_mul_left _ this;have:=z1w;omega
theorem x7h (n:Nat) (h:n≠0) (k:Nat) (c:1<=k) (d:k<(toB n).length) :
  topB n (k+1)=topB n k++(List.replicate (9-(dec (nth (toB n) ((toB n).length-1-k))).length) 48++dec (nth (toB n) ((toB n).length-1-k))):=by
 unfold topB;rw[if_neg (by omega),if_neg (by omega),y3j (toB n) k d,x9r (v3n n h k c (by omega)) (z0x n _)]
theorem x4i (n:Nat) (h:n≠0):topB n (toB n).length=dec n:=by
 have:=y2b h;unfold topB;rw[if_neg (by omega),Nat.sub_self,List.drop_zero,z0y]
theorem x4m (n k:Nat):(topB n k).length<=9*k:=by
 unfold topB
 split
 ·simp
 have d:Small ((toB n).drop ((toB n).length-k)):=fun i=>by rw[y2s];exact z0x n _
 have c:=z3w d;refine z3p.2 ⟨Nat.lt_of_lt_of_le c ?_,by omega⟩;rw[pow9];exact Nat.pow_le_pow_right z1w (by rw[List.length_drop];omega)
end
section
open Go.RowKit Go.Sort
def Tab (w:World):Prop:=Lib.TabIs prog w "internal/strconv.uint64pow10" .u64 Lib.pow10Tab
theorem Tab.below {B:Nat} {w c:World} (h:Tab w) (hb:Below B w c) (d:w.heap.size<=B):Tab c:=(Lib.tabBelow_of_tabIs h) c (hb.mono d)
theorem below_grow {B:Nat} {a w:World} (h:Below B a w) (os:Array Obj) (d:B<=w.heap.size):Below B a (grow w os) :=
 h.trans ⟨rfl,rfl,rfl,by simp[grow],fun k c=>by
  show (w.heap++os)[k]?=_;rw[Array.getElem?_append_left (by omega)]⟩
abbrev encB:UInt8->Value:=fun b=>.int .u8 (b.toNat:Int)
theorem holds_zero0 (w:World) (T:TypeId) (c:Nat) (h:c<=24):Holds encB (w.alloc (.cells Lib.zeros24 T)) w.heap.size 0 (Array.replicate c (0:UInt8)):=fun j d=>by
 have g:j<c:=by simpa using d
 refine⟨?_,World.frozen?_alloc_new _ _ _ _⟩;rw[World.cell?_alloc_new,Lib.zeros24_at _ (by omega),getElem!_pos _ j d];simp
theorem v3z (w:World) (o:Obj) (d:Array UInt8) (k:Nat):∃ os,(putRow encB (w.alloc o) w.heap.size 0 d).drewN k=grow (w.drewN k) os:=by
 rw[alloc_eq_grow];obtain⟨c,_,e⟩:=putRow_grow_new encB w #[o] w.heap.size 0 d nlr;exact⟨c,by rw[e];rfl⟩
set_option maxRecDepth 100000 in
theorem x9c (u:Nat) (s:u<18446744073709551616) (w:World) (d:Tab w) :
  Calls prog 243 #[.int .u64 (u:Int),.int .i64 10] w fun e w'=>e=.returned (.string (str (dec u)))/\Below w.heap.size w w':=by
 by_cases E:u<100
 ·go_enter func243,ntmps243
  go_wp2_with (go_at_call 253;refine(Tryz.internal_strconv_small u E _).mono ?_;rintro e w' ⟨rfl,rfl⟩)
  go_ret;exact⟨rfl,blr⟩
 have o:1<=u:=by omega
 have p:Lib.nDigits u<=20:=Lib.nDigits_le20 u s;have i:prog.arrayLen 234=24:=by simp[Program.arrayLen,underlying234]
 have B:∀ W,(Instr.sliceAt 234 (.pointer (some ⟨w.heap.size,0,none⟩)) none (some (.int .i64 (Lib.nDigits u:Int))) none).run prog W=.ok (.slice (some ⟨w.heap.size,0,none⟩) (Lib.nDigits u) 24) W:=fun W=>by
  rw[run_sliceAt_array_h W 234 ⟨w.heap.size,0,none⟩ (by simp[Program.arrayLen,Program.elem,underlying234]) .i64 (Lib.nDigits u:Int) (by omega) (by rw[i];omega)];go_simp
 have g:=holds_zero0 w 234 (Lib.nDigits u) (by omega);have c:=Tryz.internal_strconv_formatBase10 w.heap.size 0 24 u (Array.replicate (Lib.nDigits u) 0) (w.alloc (.cells Lib.zeros24 234)) g (by rw[Array.size_replicate];exact Lib.lt_pow_nDigits u) s (by rw[Array.size_replicate];omega);rw[Array.size_replicate] at c;have A:=qh g;clear g i;have D:=qh d;clear d
 go_enter func243,ntmps243
 go_wp2_with (go_at_call 254;refine(Tryz.internal_strconv_numDigits u o s _ (Lib.tabIs_alloc D.out _)).mono ?_;rintro e w' ⟨rfl,rfl⟩)
 refine c.mono ?_;rintro e w' ⟨rfl,k,G,l,rfl,m⟩;have F:(convert 175 9 (.slice (some ⟨w.heap.size,0,none⟩) (Lib.nDigits u) 24)).run prog ((putRow encB (w.alloc (.cells Lib.zeros24 234)) w.heap.size 0 l).drewN k)=.ok (.string ⟨(Lib.decDigits u).toArray⟩) ((putRow encB (w.alloc (.cells Lib.zeros24 234)) w.heap.size 0 l).drewN k):=by
  have h:=run_convert_bytes_back (P:=prog) ((putRow encB (w.alloc (.cells Lib.zeros24 234)) w.heap.size 0 l).drewN k) 175 9 5 ⟨w.heap.size,0,none⟩ 24 (Lib.decDigits u) underlying175 underlying5 underlying9 (fun j z=>by
   rw[Lib.row_is_numeral m j z,Lib.add_plain,World.cell?_drewN];exact cell?_putRow encB _ w.heap.size 0 _ l A.out (by rw[m.size,Array.size_replicate]) j (by rw[m.size];rw[Lib.decDigits_length] at z;exact z))
  rw[Lib.decDigits_length] at h;exact h
 have H:=qh m;clear m;go_wp2;go_ret;obtain⟨os,C⟩:=v3z w (.cells Lib.zeros24 234) l k;refine⟨rfl,?_⟩;have:=below_grow (below_drewN (Below.refl w.heap.size w) k) os nlr;rw[<- C] at this;exact this
theorem v8i (u:Nat) (d:u<18446744073709551616) (w:World) (c:Tab w) :
  Calls prog 232 #[.int .u64 (u:Int),.int .i64 10] w fun e w'=>e=.returned (.string (str (dec u)))/\Below w.heap.size w w':=by
 have g:=qh c;clear c
 go_enter func232,ntmps232
 go_wp2_with fail
 refine(x9c u d w g.out).mono ?_;rintro e w' ⟨rfl,hb⟩;have h:=qh hb;clear hb;go_wp2;go_ret;exact⟨rfl,h.out⟩
end
section
open Go.RowKit
abbrev TB:TypeId:=220
abbrev TU8:TypeId:=5
theorem y4d {B b o:Nat} {p:Value} {s:List Value} {w m:World} (h:Lib.BuilderAt TB TU8 B b p s w) (hb:Below o w m) (E:w.heap.size<=o):Lib.BuilderAt TB TU8 B b p s m:=by
 obtain⟨C,v,u,c,k⟩:=h;have D:=(Array.getElem?_eq_some_iff.1 u).1;refine⟨C,v,by rw[hb.block b (by omega)];exact u,⟨c.1,?_⟩,k⟩
 rcases c.2 with z|⟨g,j,l,rfl,A,i,d⟩
 ·exact .inl z
 have:=(Array.getElem?_eq_some_iff.1 i).1;exact .inr ⟨g,j,l,rfl,A,by rw[hb.block g (by omega)];exact i,d⟩
theorem z9a {B b g:Nat} {d:List Value} {w c:World} (h:Lib.IsBuilder TB TU8 B b d w) (hb:Below g w c) (i:w.heap.size<=g):Lib.IsBuilder TB TU8 B b d c:=by
 rcases h with h|h
 ·exact .inl (y4d h hb i)
 exact .inr (y4d h hb i)
theorem byteCells_append (l r:List UInt8):Lib.byteCells l++Lib.byteCells r=Lib.byteCells (l++r):=by simp[Lib.byteCells]
theorem z5x (l:List UInt8):Lib.strCells (str l)=Lib.byteCells l:=by simp[Lib.strCells,Lib.byteCells,str]
def TextEnd (n:Nat) (w:World) (e:Ending) (w':World):Prop:=e=.returned (.string (str (dec n)))/\Below w.heap.size w w'
theorem v0b (c:Value) (w:World) (d:Sl w .u64 c (toB 0)):Calls prog 221 #[c] w (TextEnd 0 w):=by
 obtain⟨i,h,rfl⟩:=d.shape;have g:(toB 0).length=0:=rfl;rw[g];clear g d
 go_enter func221,ntmps221
 go_wp2;go_ret;exact⟨x9s (by rw[z2r (by omega)];rfl),blr⟩
theorem x8k (w:World):Lib.IsBuilder TB TU8 w.heap.size w.heap.size (Lib.byteCells []) (w.alloc (.cells #[.pointer none,.slice none 0 0] TB)) :=
 .inl ⟨nlr,.slice none 0 0,Go.heap_alloc_new w _,World.ownsRow_nil _ _ _ _,by simp[Value.ownBlock]⟩
theorem rep48 (c:Nat):(⟨(Lib.repeatL (⟨#[48]⟩:ByteArray).data.toList c).toArray⟩:ByteArray)=str (List.replicate c 48):=by
 have:=Lib.repeatL_replicate 48 1 c;simp at this;show str (Lib.repeatL [48] c)=_;rw[this]
theorem v3i (vx:Value) (n:Nat) (h0:n≠0) (w:World) (G:Sl w .u64 vx (toB n)) (lx:(toB n).length<=100000) (ht:Tab w):Calls prog 221 #[vx] w (TextEnd n w):=by
 obtain⟨ax,cx,bx,ox,rfl,J,a9,N,R,g⟩:=G.open;have hl:=y2b h0;obtain rfl:=J hl;have H:=R hl;have a3:(((toB n).length:Int)==0)=false:=by rw[beq_eq_false_iff_ne];omega
 have HT:=qh ht;clear ht;have Y:=qh h0;clear h0;unfold maxLen at N;clear G J R
 go_enter func221,ntmps221
 go_wp2;clear a3
 go_loopw [11] (fun i wr=>∃ k:Nat,k<=(toB n).length/\i=.int .i64 k/\Lib.IsBuilder TB TU8 w.heap.size w.heap.size (Lib.byteCells (topB n k)) wr/\Below w.heap.size w wr) (fun i _=>(toB n).length-(intOf i).toNat)
 case atStart=>exact⟨0,Nat.zero_le _,rfl,x8k w,blr.alloc nlr _⟩
 obtain⟨k,hk,rfl,z,hb⟩:=hrel;have HW:=qh z;clear z;have F:=qh hb;clear hb;have D:=F.out.size;by_cases a4:k<(toB n).length
 ·have c1:=(F.out.cell (p:=⟨bx,ox+((toB n).length-1-k),none⟩) H).trans (g ((toB n).length-1-k) (by omega));have u:=z0x n ((toB n).length-1-k);have B:=v6t u;have A:=y8d (nth (toB n) ((toB n).length-1-k));have S:0<=(((toB n).length:Int)-1-(k:Int)):=by omega
  obtain⟨x,G⟩:=exq (nth (toB n) ((toB n).length-1-k));rw[<- G] at c1 u B A;have L:=v8i x (by rw[z0s] at u;omega) wr (HT.out.below F.out nlr);have O:=qh L;clear L;have b1:=x4m n k;have a8:(str (dec x)).size<=9:=by rw[z1g];exact B
  have b0:1<=(str (dec x)).size:=by rw[z1g];exact A
  have HX:=qh G;clear G;clear g u A B;by_cases U:k=0
  ·subst U;rw[Nat.sub_zero] at c1;clear S
   go_wp2_with fail
   refine O.out.mono ?_;rintro e X ⟨rfl,c⟩;have l:=z9a HW.out c nlr;have C:=qh l;clear l;have d:=qh c;clear c;have T:=d.out.size
   go_wp2_with fail
   refine(Tryz.Builder_WriteString w.heap.size w.heap.size _ (str (dec x)) X C.out (by rw[x0r];simp[Lib.byteCells];omega) (by omega)).mono ?_;rintro e w2 ⟨rfl,o,h⟩;have E:=qh o;clear o;have s:=qh h;clear h;go_wp2;go_roundw
   case rel =>
    refine⟨1,by omega,rfl,.inr ?_,F.out.trans ((d.out.mono D).trans s.out)⟩;have:=E.out;rw[x0r,z5x,byteCells_append,HX.out,Nat.sub_zero,List.nil_append] at this;rw[v4s n Y.out];exact this
   simp[intOf];omega
  have b2:0<k:=by omega
  clear U
  go_wp2_with fail
  refine O.out.mono ?_;rintro e X ⟨rfl,c⟩;have l:=z9a HW.out c nlr;have C:=qh l;clear l;have d:=qh c;clear c;have T:=d.out.size
  go_wp2_with fail
  have e9:(9-((str (dec x)).size:Int))=((9-(str (dec x)).size:Nat):Int):=by omega
  rw[e9];clear e9;refine(Tryz.strings_Repeat ⟨#[48]⟩ (9-(str (dec x)).size) X (by omega) (by show 1*(9-(str (dec x)).size)<=140737488355328;omega)).mono ?_;rintro e w2 ⟨rfl,h⟩;rw[rep48];have K:=z9a C.out h nlr;have E:=qh K;clear K;have s:=qh h;clear h;have a6:=s.out.size
  go_wp2_with fail
  refine(Tryz.Builder_WriteString w.heap.size w.heap.size _ (str (List.replicate (9-(str (dec x)).size) 48)) w2 E.out (by rw[Lib.byteCells_length,z1g,List.length_replicate];omega) (by omega)).mono ?_;rintro e w3 ⟨rfl,m,Q⟩;have a1:=qh m;clear m;have P:=qh Q;clear Q;have a7:=P.out.size
  go_wp2_with fail
  refine(Tryz.Builder_WriteString w.heap.size w.heap.size _ (str (dec x)) w3 (.inr a1.out) (by rw[List.length_append,Lib.byteCells_length,z5x,Lib.byteCells_length,List.length_replicate];omega) (by omega)).mono ?_;rintro e w4 ⟨rfl,j,I⟩;have a2:=qh j;clear j;have a5:=qh I;clear I;go_wp2;go_roundw
  case rel =>
   refine⟨k+1,by omega,by go_num,.inr ?_,F.out.trans ((d.out.mono D).trans ((s.out.mono (by omega)).trans (P.out.trans a5.out)))⟩;have:=a2.out;rw[z5x,z5x,byteCells_append,byteCells_append,z1g,List.append_assoc,HX.out] at this;rw[x7h n Y.out k (by omega) a4];exact this
  simp[intOf];omega
 go_wp2_with fail
 have W:k=(toB n).length:=by omega
 refine(Tryz.Builder_String_any w.heap.size w.heap.size (topB n k) wr HW.out D).mono ?_;rintro e X ⟨rfl,c⟩;have Z:=qh W;clear W;have d:=qh c;clear c;go_wp2;go_ret;exact⟨x9s (by rw[Z.out,x4i n Y.out];rfl),F.out.trans d.out⟩
theorem y0j (c:Value) (n:Nat) (w:World) (d:Sl w .u64 c (toB n)) (i:(toB n).length<=100000) (h:Tab w):Calls prog 221 #[c] w (TextEnd n w):=by
 by_cases g:n=0
 ·subst g;exact v0b c w d
 exact v3i c n g w d i h
end
section
open Go.RowKit
theorem z8s (s:ByteArray) (h:0<s.size):s.toList.isEmpty=false:=by
 rw[Lib.toList_data];cases c:s.data.toList with
 | nil =>
      have:s.size=0:=by rw[<- z1m,bts,c];rfl
      omega
 | cons a l=>rfl
theorem y0z (s:ByteArray) (h:0<s.size):¬ s.toList=[]:=by
 have:=z8s s h;intro e;rw[e] at this;simp at this
theorem u2s (s:ByteArray) (h:s.size=0):s.toList=[]:=by
 rw[Lib.toList_data];exact List.length_eq_zero_iff.1 (by have:=z1m s;unfold bts at this;omega)
theorem v8t (c:UInt8) (h:c≠48):((c.toNat:Int)==48)=false:=by
 rw[beq_eq_false_iff_ne];intro e;apply h;apply UInt8.toNat_inj.1;show c.toNat=48;omega
theorem v2z {c:UInt8} (g:(48:Int)<=(c.toNat:Int)) (d:(c.toNat:Int)<=57):dgt c=true:=by
 simp[dgt];omega
theorem u4e {c:UInt8} (d:(c.toNat:Int)<48):dgt c=false:=by simp[dgt];omega
theorem u3n {c:UInt8} (d:(57:Int)<(c.toNat:Int)):dgt c=false:=by simp[dgt];omega
theorem x7c (s:ByteArray) (w:World) (j:1<=s.size) (G:s.size<=1000) (C:s.size=1\/(bts s).headD 0≠48) :
  Calls prog 204 #[.string s] w fun e w'=>e=.returned (.bool (dgts (bts s)))/\w=w':=by
 have u:s.toList.isEmpty=false:=z8s s j;have A:¬ s.toList=[]:=y0z s j;have B:0<s.size:=by omega
 have p:decide ((1000:Int)<(s.size:Int))=false:=by simp;omega
 by_cases D:s.size=1
 all_goals
  have g:1<s.size->((s[0].toNat:Int)==48)=false:=fun h=>v8t _ (by
                                            rw[<- x0g s B];rcases C with l|l;· omega
                                            exact l)
  try have E:=g (by omega)
  clear g
  go_enter func204,ntmps204
  go_wp2;clear A u p
  go_loop [23] (fun i=>∃ k:Nat,k<=s.size/\i=.int .i64 k/\dgts ((bts s).take k)=true) (fun i=>s.size-(intOf i).toNat)
  case atStart=>exact⟨0,Nat.zero_le _,rfl,rfl⟩
  obtain⟨k,F,rfl,o⟩:=hrel;have m:=qh o;clear o;by_cases c:k<s.size
  ·go_wp2
   ·have d:(57:Int)<(s[k].toNat:Int):=by omega
    go_ret;exact⟨z0v (y6h s k c (u3n d)).symm,rfl⟩
   ·have d:(48:Int)<=(s[k].toNat:Int):=by omega
    have z:(s[k].toNat:Int)<=57:=by omega
    go_round
    case rel=>exact⟨k+1,by omega,by go_num,by rw[x0x s k c,z7h,m.out,v2z d z];rfl⟩
    simp[intOf];omega
   have d:(s[k].toNat:Int)<48:=by assumption
   go_ret;exact⟨z0v (y6h s k c (u4e d)).symm,rfl⟩
  go_wp2;go_ret;exact⟨z0v (by rw[<- m.out,List.take_of_length_le (by rw[z1m];omega)]),rfl⟩
theorem v0i (s:ByteArray) (w:World) (u:s.size<=maxLen) :
  Calls prog 204 #[.string s] w fun e w'=>e=.returned (.bool (z1s (bts s)))/\w=w':=by
 unfold maxLen at u;by_cases i:s.size=0
 ·have c:z1s (bts s)=false:=by simp[z1s,z1m,i]
  have j:=u2s s i;have g:=qh c;clear c
  go_enter func204,ntmps204
  go_wp2;go_ret;exact⟨z0v g.out.symm,rfl⟩
 by_cases C:1000<s.size
 ·have c:z1s (bts s)=false:=by simp[z1s,z1m];intros;omega
  have g:=qh c;clear c;have c:s.toList.isEmpty=false:=z8s s (by omega);have j:¬ s.toList=[]:=y0z s (by omega)
  go_enter func204,ntmps204
  go_wp2;go_ret;exact⟨z0v g.out.symm,rfl⟩
 by_cases d:s.size=1\/(bts s).headD 0≠48
 ·refine(x7c s w (by omega) (by omega) d).mono fun e w' ⟨l,m⟩=>⟨?_,m⟩;rw[l];have:z1s (bts s)=dgts (bts s):=by
   cases k:dgts (bts s) with
   | false=>simp[z1s,k]
   | true=>exact x4w (by rw[z1m];omega) (by rw[z1m];omega) (by rw[z1m];exact d) k
  rw[this]
 have c:z1s (bts s)=false:=by
  cases p:z1s (bts s) with
  | false=>rfl
  | true=>exact absurd (by have:=(z4m p).2.2.1;rw[z1m] at this;exact this) d
 have g:=qh c;clear c;have o:0<s.size:=by omega
 have c:s.toList.isEmpty=false:=z8s s (by omega);have j:¬ s.toList=[]:=y0z s (by omega);have B:((s[0].toNat:Int)==48)=true:=by
  have:(bts s).headD 0=48:=by
   by_cases h:(bts s).headD 0=48
   ·exact h
   exact absurd (Or.inr h) d
  rw[x0g s o] at this;rw[this];rfl
 have z:1<s.size:=by
  by_cases h:s.size=1
  ·exact absurd (Or.inl h) d
  omega
 have A:decide ((1000:Int)<(s.size:Int))=false:=by simp;omega
 clear d
 go_enter func204,ntmps204
 go_wp2;go_ret;exact⟨z0v g.out.symm,rfl⟩
end
section
open Go.RowKit
def PairEnd (r:ByteArray × Nat) (w:World) (e:Ending) (w':World):Prop:=e=.returned (.tuple #[.string r.1,.int .i64 (r.2:Int)])/\Below w.heap.size w w'
def limS (n:Nat):ByteArray × Nat:=if (dec n).length<=1000 then (str (dec n),0) else (str [],2)
def vld (s:ByteArray):Bool:=z1s (bts s)
def val (s:ByteArray):Nat:=num (bts s)
def addF (s t:ByteArray):ByteArray × Nat:=if vld s&&vld t then limS (val s+val t) else (str [],1)
def subF (s t:ByteArray):ByteArray × Nat:=if vld s&&vld t then (if val s<val t then (str [],4) else (str (dec (val s-val t)),0)) else (str [],1)
def mulF (s t:ByteArray):ByteArray × Nat:=if vld s&&vld t then limS (val s*val t) else (str [],1)
def cmpF (s t:ByteArray):Int:=if vld s&&vld t then cmpN (val s) (val t) else 0
theorem u3u {s c:ByteArray} {a b:Int} (h:s=c) (d:a=b):Ending.returned (.tuple #[.string s,.int .i64 a])=.returned (.tuple #[.string c,.int .i64 b]):=by rw[h,d]
theorem x3t {s:ByteArray} (h:vld s=true):1<=s.size/\s.size<=1000:=by
 obtain⟨d,c,_⟩:=z4m h;rw[z1m] at d c;exact⟨d,c⟩
theorem x4v {s:ByteArray} (h:vld s=true):dgts (bts s)=true:=(z4m h).2.2.2
theorem x6q {l:List UInt8} (h:dgts l=true) (k:Nat) (d:l.length<=9*k):num l<BB ^ k:=by
 have c:10 ^ l.length<=10 ^ (9*k):=Nat.pow_le_pow_right (by omega) d;rw[pow9] at c;exact Nat.lt_of_lt_of_le (v7h _ h) c
theorem v1d {s:ByteArray} (h:vld s=true):val s<BB ^ 112:=x6q (x4v h) 112 (by rw[z1m];have:=x3t h;omega)
theorem z1r {s:ByteArray} (h:vld s=true):(toB (val s)).length<=112:=z6m (v1d h)
theorem z3t (s:ByteArray) (w:World) (c:s.size<=maxLen) :
  Calls prog 204 #[.string s] w fun e w'=>e=.returned (.bool (vld s))/\w=w':=v0i s w c
theorem z4v (s:ByteArray) (w:World) (h:vld s=true):Calls prog 205 #[.string s] w (BlocksEnd (val s) w):=x6a s w (x3t h).2 (x4v h)
theorem y3y (i:Value) (n:Nat) (w:World) (l:Sl w .u64 i (toB n)) (p:(toB n).length<=100000) (o:Tab w) :
  Calls prog 206 #[i] w (PairEnd (limS n) w):=by
 have g:=x4m n (toB n).length;have k:(dec n).length<=900000\/n=0:=by
  by_cases m:n=0
  ·exact .inr m
  rw[x4i n m] at g;exact .inl (by omega)
 have c:(dec n).length<=900000:=by
  rcases k with h|h
  ·exact h
  subst h;rw[z2r (by omega)];simp
 clear g k;have z:(str (dec n)).size<=900000:=by rw[z1g];exact c
 have s:=y0j i n w l p o;have u:=qh s;clear s l o p;by_cases h:(dec n).length<=1000
 ·have d:limS n=(str (dec n),0):=by unfold limS;rw[if_pos h]
  have A:(str (dec n)).size<=1000:=by rw[z1g];exact h
  rw[d];clear d h c
  go_enter func206,ntmps206
  go_wp2_with fail
  refine u.out.mono ?_;rintro e B ⟨rfl,hb⟩;have j:=qh hb;clear hb;go_wp2;go_ret2;exact⟨rfl,j.out⟩
 have d:limS n=(str [],2):=by unfold limS;rw[if_neg h]
 have A:1000<(str (dec n)).size:=by rw[z1g];omega
 rw[d];clear d h c
 go_enter func206,ntmps206
 go_wp2_with fail
 refine u.out.mono ?_;rintro e B ⟨rfl,hb⟩;have j:=qh hb;clear hb;go_wp2;go_ret2;exact⟨rfl,j.out⟩
theorem v8e (s t:ByteArray) (w:World) (N:s.size<=maxLen) (P:t.size<=maxLen) (h:Tab w) :
  Calls prog 201 #[.string s,.string t] w (PairEnd (addF s t) w):=by
 have J:=qh h;clear h;have c1:=z3t s w N;have c2:=z3t t w P;clear N P;cases c:vld s with
 | false =>
  have i:addF s t=(str [],1):=by unfold addF;rw[c];rfl
  rw[i];rw[c] at c1;clear i c c2 J;have p:=qh c1;clear c1
  go_enter func201,ntmps201
  go_wp2_with fail
  refine p.out.mono ?_;rintro e D ⟨rfl,rfl⟩;go_wp2;go_ret2;exact⟨rfl,blr⟩
 | true =>
  cases d:vld t with
  | false =>
   have i:addF s t=(str [],1):=by unfold addF;rw[c,d];rfl
   rw[i];rw[c] at c1;rw[d] at c2;clear i c d J;have p:=qh c1;clear c1;have H:=qh c2;clear c2
   go_enter func201,ntmps201
   go_wp2_with fail
   refine p.out.mono ?_;rintro e D ⟨rfl,rfl⟩
   go_wp2_with fail
   refine H.out.mono ?_;rintro e D ⟨rfl,rfl⟩;go_wp2;go_ret2;exact⟨rfl,blr⟩
  | true =>
   rw[c] at c1;rw[d] at c2;have p:=qh c1;clear c1;have H:=qh c2;clear c2;have lm:=z1r c;have ln:=z1r d;have O:=z4v s w c;have W:=qh O;clear O;have R:=fun w=>z4v t w d;have B2:=qh R;clear R;have T:=qh c;clear c;have S:=qh d;clear d;have i:addF s t=limS (val s+val t):=by unfold addF;rw[T.out,S.out];rfl
   rw[i];clear i
   go_enter func201,ntmps201
   go_wp2_with fail
   refine p.out.mono ?_;rintro e D ⟨rfl,rfl⟩
   go_wp2_with fail
   refine H.out.mono ?_;rintro e D ⟨rfl,rfl⟩
   go_wp2_with fail
   refine W.out.mono ?_;rintro e U ⟨v1,rfl,z,C⟩;have I:=qh z;clear z;have m:=qh C;clear C;have E:=m.out.size
   go_wp2_with fail
   refine(B2.out U).mono ?_;rintro e w2 ⟨Y,rfl,l,u⟩;have F:=qh l;clear l;have j:=qh u;clear u;have X:=j.out.size;have K:=qh (I.out.sl.below j.out nlr)
   go_wp2_with fail
   refine(v3v v1 Y (val s) (val t) w2 K.out F.out.sl (by omega) (by omega)).mono ?_;rintro e w3 ⟨Z,rfl,o,B⟩;have G:=qh o;clear o;have A:=qh B;clear B;have Q:=qh (m.out.trans ((j.out.mono E).trans (A.out.mono (by omega))));have g:=y3y Z (val s+val t) w3 G.out.sl (by
    have c:=v1d T.out;have d:=v1d S.out;have:val s+val t<BB ^ 113:=by
     have e:BB ^ 113=BB ^ 112*BB:=Nat.pow_succ ..;rw[e];have:BB ^ 112*2<=BB ^ 112*BB:=Nat.mul_le_mul_left _ y5p;omega
    have:=z6m this;omega) (J.out.below Q.out nlr)
   have HL:=qh g;clear g
   go_wp2_with fail
   refine HL.out.mono ?_;rintro e w4 ⟨rfl,k⟩;have L:=qh k;clear k;have a1:=A.out.size;go_wp2;go_ret2;exact⟨rfl,Q.out.trans (L.out.mono (by omega))⟩
theorem v8u (s t:ByteArray) (w:World) (hs:s.size<=maxLen) (ht:t.size<=maxLen) (C:Tab w) :
  Calls prog 203 #[.string s,.string t] w (PairEnd (subF s t) w):=by
 have X:=qh C;clear C;have c1:=z3t s w hs;have c2:=z3t t w ht;clear hs ht;cases j:vld s with
 | false =>
  have i:subF s t=(str [],1):=by unfold subF;rw[j];rfl
  rw[i];rw[j] at c1;clear i j c2 X;have I:=qh c1;clear c1
  go_enter func203,ntmps203
  go_wp2_with fail
  refine I.out.mono ?_;rintro e H ⟨rfl,rfl⟩;go_wp2;go_ret2;exact⟨rfl,blr⟩
 | true =>
  cases D:vld t with
  | false =>
   have i:subF s t=(str [],1):=by unfold subF;rw[j,D];rfl
   rw[i];rw[j] at c1;rw[D] at c2;clear i j D X;have I:=qh c1;clear c1;have T:=qh c2;clear c2
   go_enter func203,ntmps203
   go_wp2_with fail
   refine I.out.mono ?_;rintro e H ⟨rfl,rfl⟩
   go_wp2_with fail
   refine T.out.mono ?_;rintro e H ⟨rfl,rfl⟩;go_wp2;go_ret2;exact⟨rfl,blr⟩
  | true =>
   rw[j] at c1;rw[D] at c2;have I:=qh c1;clear c1;have T:=qh c2;clear c2;have lm:=z1r j;have ln:=z1r D;have b1:=z4v s w j;have B1:=qh b1;clear b1;have b2:=fun w=>z4v t w D;have B2:=qh b2;clear b2;have H1:=qh j;clear j;have H2:=qh D;clear D;by_cases p:val s<val t
   ·have i:subF s t=(str [],4):=by unfold subF;rw[H1.out,H2.out,if_pos p];rfl
    have L:cmpN (val s) (val t)=-1:=z7y p;rw[i];clear i p;have HC:=qh L;clear L
    go_enter func203,ntmps203
    go_wp2_with fail
    refine I.out.mono ?_;rintro e H ⟨rfl,rfl⟩
    go_wp2_with fail
    refine T.out.mono ?_;rintro e H ⟨rfl,rfl⟩
    go_wp2_with fail
    refine B1.out.mono ?_;rintro e w1 ⟨v1,rfl,k,z⟩;have G:=qh k;clear k;have o:=qh z;clear z;have F:=o.out.size
    go_wp2_with fail
    refine(B2.out w1).mono ?_;rintro e Y ⟨S,rfl,m,u⟩;have A:=qh m;clear m;have d:=qh u;clear u;have a1:=d.out.size;have B:=qh (G.out.sl.below d.out nlr);have c:=z5m v1 S (val s) (val t) Y B.out A.out.sl;unfold CmpEnd at c;rw[HC.out] at c;have E:=qh c;clear c
    go_wp2_with fail
    refine E.out.mono ?_;rintro e w3 ⟨rfl,l⟩;have g:=qh l;clear l;go_wp2;go_ret2;exact⟨rfl,o.out.trans ((d.out.mono F).trans (g.out.mono (by omega)))⟩
   have i:subF s t=(str (dec (val s-val t)),0):=by unfold subF;rw[H1.out,H2.out,if_neg p];rfl
   have L:cmpN (val s) (val t)=0\/cmpN (val s) (val t)=1:=by
    rcases Nat.lt_or_ge (val t) (val s) with h|h
    ·exact .inr (z7v h)
    exact .inl (y1p (by omega))
   have R:val t<=val s:=by omega
   have W:=qh R;clear R;rw[i];clear i p;have U:∃ q:Int,cmpN (val s) (val t)=q/\0<=q:=by
    rcases L with h|h
    ·exact⟨0,h,by omega⟩
    exact⟨1,h,by omega⟩
   obtain⟨q,hq,a6⟩:=U;clear L;have HC:=qh hq;clear hq
   go_enter func203,ntmps203
   go_wp2_with fail
   refine I.out.mono ?_;rintro e H ⟨rfl,rfl⟩
   go_wp2_with fail
   refine T.out.mono ?_;rintro e H ⟨rfl,rfl⟩
   go_wp2_with fail
   refine B1.out.mono ?_;rintro e w1 ⟨v1,rfl,k,z⟩;have G:=qh k;clear k;have o:=qh z;clear z;have F:=o.out.size
   go_wp2_with fail
   refine(B2.out w1).mono ?_;rintro e Y ⟨S,rfl,m,u⟩;have A:=qh m;clear m;have d:=qh u;clear u;have a1:=d.out.size;have B:=qh (G.out.sl.below d.out nlr);have c:=z5m v1 S (val s) (val t) Y B.out A.out.sl;unfold CmpEnd at c;rw[HC.out] at c;have E:=qh c;clear c
   go_wp2_with fail
   refine E.out.mono ?_;rintro e w3 ⟨rfl,l⟩;have g:=qh l;clear l;have a5:=g.out.size;have N:=v1q v1 S (val s) (val t) w3 (B.out.below g.out nlr) (A.out.sl.below g.out nlr) (by omega) (by omega) W.out;have a3:=qh N;clear N
   go_wp2_with fail
   refine a3.out.mono ?_;rintro e w4 ⟨v4,rfl,P,J⟩;have a2:=qh P;clear P;have O:=qh J;clear J;have a7:=O.out.size;have HB:=qh (o.out.trans ((d.out.mono F).trans ((g.out.mono (by omega)).trans (O.out.mono (by omega)))));have K:=y0j v4 (val s-val t) w4 a2.out.sl (by have:=z2f (Nat.sub_le (val s) (val t));omega) (X.out.below HB.out nlr);have Z:=qh K;clear K
   go_wp2_with fail
   refine Z.out.mono ?_;rintro e w5 ⟨rfl,Q⟩;have a4:=qh Q;clear Q;go_wp2;go_ret2;exact⟨rfl,HB.out.trans (a4.out.mono (by omega))⟩
def IntEnd (q:Int) (w:World) (e:Ending) (w':World):Prop:=e=.returned (.int .i64 q)/\Below w.heap.size w w'
theorem v9d (s t:ByteArray) (w:World) (H:s.size<=maxLen) (J:t.size<=maxLen) :
  Calls prog 202 #[.string s,.string t] w (IntEnd (cmpF s t) w):=by
 have c1:=z3t s w H;have c2:=z3t t w J;clear H J;cases c:vld s with
 | false =>
  have d:cmpF s t=0:=by unfold cmpF;rw[c];rfl
  rw[d];rw[c] at c1;clear d c c2;have l:=qh c1;clear c1
  go_enter func202,ntmps202
  go_wp2_with fail
  refine l.out.mono ?_;rintro e z ⟨rfl,rfl⟩;go_wp2;go_ret;exact⟨rfl,blr⟩
 | true =>
  cases g:vld t with
  | false =>
   have d:cmpF s t=0:=by unfold cmpF;rw[c,g];rfl
   rw[d];rw[c] at c1;rw[g] at c2;clear d c g;have l:=qh c1;clear c1;have D:=qh c2;clear c2
   go_enter func202,ntmps202
   go_wp2_with fail
   refine l.out.mono ?_;rintro e z ⟨rfl,rfl⟩
   go_wp2_with fail
   refine D.out.mono ?_;rintro e z ⟨rfl,rfl⟩;go_wp2;go_ret;exact⟨rfl,blr⟩
  | true =>
   rw[c] at c1;rw[g] at c2;have l:=qh c1;clear c1;have D:=qh c2;clear c2;have U:=z1r c;have W:=z1r g;have I:=z4v s w c;have N:=qh I;clear I;have K:=fun w=>z4v t w g;have R:=qh K;clear K;have T:=qh c;clear c;have S:=qh g;clear g;have d:cmpF s t=cmpN (val s) (val t):=by unfold cmpF;rw[T.out,S.out];rfl
   rw[d];clear d
   go_enter func202,ntmps202
   go_wp2_with fail
   refine l.out.mono ?_;rintro e z ⟨rfl,rfl⟩
   go_wp2_with fail
   refine D.out.mono ?_;rintro e z ⟨rfl,rfl⟩
   go_wp2_with fail
   refine N.out.mono ?_;rintro e L ⟨v1,rfl,o,u⟩;have E:=qh o;clear o;have k:=qh u;clear u;have A:=k.out.size
   go_wp2_with fail
   refine(R.out L).mono ?_;rintro e Q ⟨P,rfl,j,m⟩;have C:=qh j;clear j;have i:=qh m;clear m;have O:=i.out.size;have F:=qh (E.out.sl.below i.out nlr);have h:=z5m v1 P (val s) (val t) Q F.out C.out.sl;unfold CmpEnd at h;have B:=qh h;clear h
   go_wp2_with fail
   refine B.out.mono ?_;rintro e X ⟨rfl,p⟩;have G:=qh p;clear p;go_wp2;go_ret;exact⟨rfl,k.out.trans ((i.out.mono A).trans (G.out.mono (by omega)))⟩
end
section
open Go.RowKit
theorem y1f (L:List Nat) (j v i:Nat) (h:j<L.length):nth (L.set j v) i=if i=j then v else nth L i:=by
 unfold nth;simp only[List.getD_eq_getElem?_getD,List.getElem?_set];by_cases e:j=i
 ·subst e;simp[h]
 rw[if_neg e,if_neg (fun c=>e c.symm)]
theorem z7m {L:List Nat} (h:Small L) (j v:Nat) (d:v<BB):Small (L.set j v):=fun i=>by
 by_cases c:j<L.length
 ·rw[y1f L j v i c];split
  ·exact d
  exact h i
 rw[List.set_eq_of_length_le (by omega)];exact h i
theorem v2x (L:List Nat):∀ (j v:Nat),j<L.length->bval (L.set j v)+BB ^ j*nth L j=bval L+BB ^ j*v:=by
 induction L with
 | nil=>intro j v h;simp at h
 | cons x L ih =>
  intro j v h;cases j with
  | zero=>simp only[List.set_cons_zero,bval,z6x,Nat.pow_zero];omega
  | succ j =>
   have:=ih j v (by simpa using h);simp only[List.set_cons_succ,bval,z5b,Nat.pow_succ];have e:BB*(bval (L.set j v)+BB ^ j*nth L j)=BB*(bval L+BB ^ j*v):=by rw[this]
   rw[Nat.mul_add,Nat.mul_add,<- Nat.mul_assoc,<- Nat.mul_assoc,Nat.mul_comm BB (BB ^ j)] at e;omega
theorem y5g (k:Nat):bval (List.replicate k 0)=0:=x1c (fun i=>by unfold nth;simp[List.getD_eq_getElem?_getD,List.getElem?_replicate];split<;>rfl)
theorem z7q (k:Nat):Small (List.replicate k 0):=fun i=>by
 have:nth (List.replicate k 0) i=0:=by unfold nth;simp[List.getD_eq_getElem?_getD,List.getElem?_replicate];split<;>rfl
 rw[this];exact z1w
structure MulIn (xs ys L:List Nat) (i k c:Nat):Prop where
 small:Small L
 carry:c<BB
 len:L.length=xs.length+ys.length+1
 val:bval L+BB ^ (i+k)*c=bval (xs.take i)*bval ys+BB ^ i*(nth xs i*bval (ys.take k))
structure MulOut (xs ys L:List Nat) (i:Nat):Prop where
 small:Small L
 len:L.length=xs.length+ys.length+1
 val:bval L=bval (xs.take i)*bval ys
theorem MulOut.start (xs c:List Nat):MulOut xs c (List.replicate (xs.length+c.length+1) 0) 0 :=
 ⟨z7q _,by simp,by rw[y5g];simp[bval]⟩
theorem MulOut.inner {xs c L:List Nat} {i:Nat} (h:MulOut xs c L i):MulIn xs c L i 0 0 :=
 ⟨h.small,z1w,h.len,by rw[h.val];simp[bval]⟩
theorem z9m {l c x y:Nat} (h:l<BB) (g:c<BB) (i:x<BB) (d:y<BB):l+c+x*y<1000000000*1000000000:=by
 rw[z0s] at *;have:x*y<=999999999*999999999:=Nat.mul_le_mul (by omega) (by omega);omega
theorem MulIn.step {xs d L:List Nat} {i k c:Nat} (h:MulIn xs d L i k c) (z:Small xs) (u:Small d) (hi:i<xs.length) (A:k<d.length+1) :
  MulIn xs d (L.set (i+k) ((nth L (i+k)+c+nth xs i*nth d k) % 1000000000)) i (k+1) ((nth L (i+k)+c+nth xs i*nth d k) / 1000000000):=by
 have hb:=z9m (h.small (i+k)) h.carry (z i) (u k);have g:i+k<L.length:=by rw[h.len];omega
 have m:=v2x L (i+k) ((nth L (i+k)+c+nth xs i*nth d k) % 1000000000) g;have l:=h.val;have j:=z0k d k;generalize hp:nth L (i+k)+c+nth xs i*nth d k=p at *;have s:BB ^ (i+k)*nth L (i+k)+BB ^ (i+k)*c+BB ^ (i+k)*(nth xs i*nth d k)=BB ^ (i+k)*p:=by rw[<- hp,Nat.mul_add,Nat.mul_add]
 have o:BB ^ (i+k)*p=BB ^ (i+k)*(p % 1000000000)+BB ^ (i+k)*BB*(p / 1000000000):=by
  rw[Nat.mul_assoc,<- Nat.mul_add,z0s,Nat.mod_add_div]
 refine⟨z7m h.small _ _ (by rw[z0s];exact Nat.mod_lt _ (by omega)),by rw[z0s];omega,by simp[h.len],?_⟩;rw[j,Nat.mul_add,Nat.mul_add,show i+(k+1)=i+k+1 by omega,Nat.pow_succ BB (i+k)];have e:BB ^ i*(nth xs i*(BB ^ k*nth d k))=BB ^ (i+k)*(nth xs i*nth d k):=by
  rw[Nat.pow_add,Nat.mul_left_comm (nth xs i),Nat.mul_assoc]
 rw[e];omega
theorem MulIn.done {xs d L:List Nat} {i c:Nat} (h:MulIn xs d L i (d.length+1) c) (l:Small xs) (m:Small d) (hi:i<xs.length):MulOut xs d L (i+1):=by
 refine⟨h.small,h.len,?_⟩;have g:=h.val;rw[z2m (by omega:d.length<=d.length+1)] at g;have e:bval (xs.take i)*bval d+BB ^ i*(nth xs i*bval d)=bval (xs.take (i+1))*bval d:=by
  rw[z0k,Nat.add_mul,Nat.mul_assoc]
 rw[e] at g;have k:bval (xs.take (i+1))<BB ^ (i+1):=by
  have:=z3w (z4h l (i+1));rw[List.length_take,Nat.min_eq_left (by omega)] at this;exact this
 have u:=z3w m;have o:bval (xs.take (i+1))*bval d<BB ^ (i+1)*BB ^ d.length:=by
  have p:bval (xs.take (i+1))*bval d<=bval (xs.take (i+1))*BB ^ d.length:=Nat.mul_le_mul_left _ (by omega);have s:bval (xs.take (i+1))*BB ^ d.length<BB ^ (i+1)*BB ^ d.length:=Nat.mul_lt_mul_of_pos_right k (Nat.pow_pos z1w);omega
 rw[<- Nat.pow_add,show i+1+d.length=i+(d.length+1) by omega] at o
 rcases Nat.eq_zero_or_pos c with j|j
 ·subst j;rw[Nat.mul_zero,Nat.add_zero] at g;exact g
 have:BB ^ (i+(d.length+1))*1<=BB ^ (i+(d.length+1))*c:=Nat.mul_le_mul_left _ j;omega
theorem MulOut.done {xs c L:List Nat} (h:MulOut xs c L xs.length):bval L=bval xs*bval c:=by rw[h.val,List.take_length]
theorem Own.set {w:World} {B:Nat} {e:TypeId} {k:IntKind} {g n cap:Nat} {L:List Nat} (h:Own w B e k (.slice (some ⟨g,0,none⟩) n cap) L) (hn:L.length=n) (j v:Nat) :
  Own (w.setCell ⟨g,j,none⟩ (.int k (v:Int))) B e k (.slice (some ⟨g,0,none⟩) n cap) (L.set j v):=by
 subst hn;have:=(World.ownsRow.stored h j (.int k (v:Int))).1;have c:(vals k L).set j (.int k (v:Int))=vals k (L.set j v):=by unfold vals;rw[List.map_set]
 rw[c] at this;unfold Own;rw[List.length_set];exact this
theorem Own.base {w:World} {B:Nat} {e:TypeId} {k:IntKind} {g n cap:Nat} {c:Nat} {L:List Nat} (h:Own w B e k (.slice (some ⟨g,c,none⟩) n cap) L):B<=g/\g<w.heap.size:=by
 have:=World.ownsRow.lt h g (by simp[Value.ownBlock]);exact this
theorem Own.cell {w:World} {B:Nat} {e:TypeId} {k:IntKind} {g n cap:Nat} {L:List Nat} (h:Own w B e k (.slice (some ⟨g,0,none⟩) n cap) L) (hn:L.length=n) (j:Nat) (c:j<n):w.cell? ⟨g,j,none⟩=some (.int k ((nth L j:Nat):Int)):=by
 subst hn;rw[World.ownsRow.cellAt h j (by omega),x3j k L j c]
theorem Own.free {w:World} {B:Nat} {e:TypeId} {k:IntKind} {g n cap:Nat} {L:List Nat} (h:Own w B e k (.slice (some ⟨g,0,none⟩) n cap) L) (hn:L.length=n) (j:Nat):w.frozen? ⟨g,j,none⟩=false:=by
 subst hn;exact World.ownsRow.frozenAt h j
theorem z8y (k:IntKind) (n:Nat):vals k (List.replicate n 0)=List.replicate n (.int k 0):=by simp[vals]
end
section
open Go.RowKit
set_option maxRecDepth 100000 in
theorem v8k (s t:ByteArray) (w:World) (hs:s.size<=maxLen) (ht:t.size<=maxLen) (U:Tab w) :
  Calls prog 189 #[.string s,.string t] w (PairEnd (mulF s t) w):=by
 have HT:=qh U;clear U;have c1:=z3t s w hs;have c2:=z3t t w ht;clear hs ht;cases o:vld s with
 | false =>
  have T:mulF s t=(str [],1):=by unfold mulF;rw[o];rfl
  rw[T];rw[o] at c1;clear T o c2 HT;have C1:=qh c1;clear c1
  go_enter func189,ntmps189
  go_wp2_with fail
  refine C1.out.mono ?_;rintro e w' ⟨rfl,rfl⟩;go_wp2;go_ret2;exact⟨rfl,blr⟩
 | true =>
  cases N:vld t with
  | false =>
   have T:mulF s t=(str [],1):=by unfold mulF;rw[o,N];rfl
   rw[T];rw[o] at c1;rw[N] at c2;clear T o N HT;have C1:=qh c1;clear c1;have C2:=qh c2;clear c2
   go_enter func189,ntmps189
   go_wp2_with fail
   refine C1.out.mono ?_;rintro e w' ⟨rfl,rfl⟩
   go_wp2_with fail
   refine C2.out.mono ?_;rintro e w' ⟨rfl,rfl⟩;go_wp2;go_ret2;exact⟨rfl,blr⟩
  | true =>
   rw[o] at c1;rw[N] at c2;have C1:=qh c1;clear c1;have C2:=qh c2;clear c2;have lm:=z1r o;have ln:=z1r N;have b1:=z4v s w o;have B1:=qh b1;clear b1;have b2:=fun w=>z4v t w N;have B2:=qh b2;clear b2;have H1:=qh o;clear o;have H2:=qh N;clear N;have T:mulF s t=limS (val s*val t):=by unfold mulF;rw[H1.out,H2.out];rfl
   rw[T];clear T
   go_enter func189,ntmps189
   go_wp2_with fail
   refine C1.out.mono ?_;rintro e w' ⟨rfl,rfl⟩
   go_wp2_with fail
   refine C2.out.mono ?_;rintro e w' ⟨rfl,rfl⟩
   go_wp2_with fail
   refine B1.out.mono ?_;rintro e w1 ⟨v1,rfl,b3,e4⟩;have c7:=qh b3;clear b3;have b6:=qh e4;clear e4;have f5:=b6.out.size
   go_wp2_with fail
   refine(B2.out w1).mono ?_;rintro e G ⟨v2,rfl,b5,c9⟩;have d3:=qh b5;clear b5;have a7:=qh c9;clear c9;have h6:=a7.out.size;have e0:=qh (c7.out.sl.below a7.out nlr);obtain⟨i0,g4,f3,g8,e8⟩:=info_parts z9t;have e6:=fun x=>z0x (val s) x;have a2:Small (toB (val s)):=z0x _;have a3:Small (toB (val t)):=z0x _;obtain⟨g,a1⟩:=exq (toB (val s));obtain⟨d,a9⟩:=exq (toB (val t));rw[<- a1] at e0 lm a2;rw[<- a9] at d3 ln a3;have HX:=qh a1;clear a1;have HY:=qh a9;clear a9;have P:=qh a2;clear a2;have O:=qh a3;clear a3;clear e6 c7;obtain⟨ax,cx,bx,ox,rfl,d4,h4,d6,R,B⟩:=e0.out.open;obtain⟨ay,cy,e5,oy,rfl,b4,g9,d7,S,F⟩:=d3.out.sl.open;unfold maxLen at d6 d7;have g1:=qh B;clear B;have g5:=qh F;clear F;have f7:=qh d4;clear d4;have f8:=qh b4;clear b4;have e7:=qh R;clear R;have f1:=qh S;clear S;obtain⟨wm,d5,h,a8⟩:=run_make_full G w.heap.size 199 179 i0 (.int .u64 0) 1 underlying199 g4 f3 g8 .i64 .i64 (g.length+d.length+1) (by rw[e8];omega) (by unfold maxLen;omega) (by omega);rw[show ((g.length+d.length+1:Nat):Int)=(g.length:Int)+(d.length:Int)+1 by omega] at d5;have d8:Below w.heap.size w wm:=b6.out.trans ((a7.out.mono f5).trans (blr.grown a8 (by omega) (by simp)));have Z:Below G.heap.size G wm:=blr.grown a8 nlr (by simp);have d1:Own wm w.heap.size 179 .u64 (.slice (some ⟨G.heap.size,0,none⟩) (g.length+d.length+1) (g.length+d.length+1)) (List.replicate (g.length+d.length+1) 0):=by
    unfold Own;rw[z8y,List.length_replicate];have:=h;rw[Nat.mul_one,show (Value.int .u64 0).cells=#[Value.int .u64 0] from rfl,toList_madeCells_one] at this;exact this
   have HM:=qh d8;clear d8;have g7:=qh Z;clear Z;have f2:=qh d1;clear d1 h a8;go_wp2;clear d5
   go_loopw [34] (fun i wr=>∃ (k:Nat) (L:List Nat),k<=g.length/\i=.int .i64 k/\MulOut g d L k/\Own wr w.heap.size 179 .u64 (.slice (some ⟨G.heap.size,0,none⟩) (g.length+d.length+1) (g.length+d.length+1)) L/\Below w.heap.size w wr/\Below G.heap.size G wr)
    (fun i _=>g.length-(intOf i).toNat)
   case atStart=>exact⟨0,_,Nat.zero_le _,rfl,MulOut.start g d,f2.out,HM.out,g7.out⟩
   obtain⟨i,L,h8,rfl,l,h,K,m⟩:=hrel;have d2:=qh l;clear l;have HO:=qh h;clear h;have Q:=qh K;clear K;have e3:=qh m;clear m;obtain⟨wo,rfl⟩:∃ wo:World,wo=wr:=⟨_,rfl⟩;by_cases a5:i<g.length
   ·obtain rfl:=f7.out (by omega);have R:=e7.out (by omega);go_wp2
    go_loopw [10,40] (fun c q wr=>∃ (k W:Nat) (L:List Nat),k<=d.length+1/\q=.int .i64 k/\c=.int .u64 W/\MulIn g d L i k W/\Own wr w.heap.size 179 .u64 (.slice (some ⟨G.heap.size,0,none⟩) (g.length+d.length+1) (g.length+d.length+1)) L/\Below w.heap.size w wr/\Below G.heap.size G wr)
     (fun _ q _=>d.length+1-(intOf q).toNat)
    case atStart=>exact⟨0,0,L,Nat.zero_le _,rfl,rfl,d2.out.inner,HO.out,Q.out,e3.out⟩
    obtain⟨k,W,L',h5,rfl,rfl,e1,h,K,m⟩:=hrel;have A:=qh e1;clear e1;have u:=qh h;clear h;have I:=qh K;clear K;have j:=qh m;clear m;by_cases b0:k<d.length+1
    ·have J:=A.out.step P.out O.out a5 b0;have C:=A.out.len;have a6:=qh J;clear J;have cl:=u.out.cell C (i+k) (by omega);have fl:=u.out.free C (i+k);have b7:=z9m (A.out.small (i+k)) A.out.carry (P.out i) (O.out k);have Y:=qh C;clear C
     rcases Nat.lt_or_ge k d.length with a4|a4
     ·obtain rfl:=f8.out (by omega);have S:=f1.out (by omega);have c1:=(j.out.cell (p:=⟨bx,ox+i,none⟩) R).trans (g1.out i a5);have c2:=(j.out.cell (p:=⟨e5,oy+k,none⟩) S).trans (g5.out k a4);have D:(((nth g i:Nat):Int)*((nth d k:Nat):Int))=((nth g i*nth d k:Nat):Int):=by simp
      have h0:((nth g i:Nat):Int)*((nth d k:Nat):Int)<=999999998000000001:=by
       have o:=P.out i;have N:=O.out k;rw[z0s] at o N;have:nth g i*nth d k<=999999999*999999999:=Nat.mul_le_mul (by omega) (by omega);rw[D];omega
      have h7:nth L' (i+k)<=999999999:=by have:=A.out.small (i+k);rw[z0s] at this;omega
      have h9:W<=999999999:=by have:=A.out.carry;rw[z0s] at this;omega
      have h3:0<=((nth g i:Nat):Int)*((nth d k:Nat):Int):=by rw[D];omega
      have g3:=qh D;clear D b7
      go_wp2_with fail
      go_quiet (fail)
      go_wp2;go_roundw
      case rel =>
       have em:((nth L' (i+k):Nat):Int)+(W:Int)+((nth g i:Nat):Int)*((nth d k:Nat):Int)=((nth L' (i+k)+W+nth g i*nth d k:Nat):Int):=by rw[g3.out];omega
       rw[em];have ho:=(u.out.kept (below_drewN (Below.refl _ wr) nq) nlr).set Y.out (i+k) ((nth L' (i+k)+W+nth g i*nth d k) % 1000000000);exact⟨k+1,_,_,by omega,by go_num,by go_num,a6.out,ho,(below_drewN I.out nq).setCell u.out.base.1 _,(below_drewN j.out nq).setCell nlr _⟩
      simp[intOf];omega
     have hz:nth d k=0:=z1q d k a4;have H:=a6.out;rw[hz,Nat.mul_zero,Nat.add_zero] at H;rw[hz,Nat.mul_zero,Nat.add_zero] at b7;have e9:=qh H;clear H hz a6;go_wp2;go_roundw
     case rel =>
      have ho:=u.out.set Y.out (i+k) ((nth L' (i+k)+W) % 1000000000);exact⟨k+1,_,_,by omega,by go_num,by go_num,e9.out,ho,I.out.setCell u.out.base.1 _,j.out.setCell nlr _⟩
     simp[intOf];omega
    have d9:k=d.length+1:=by omega
    have g2:=qh d9;clear d9;go_wp2;go_roundw
    case rel =>
     have o:=A.out;rw[g2.out] at o;exact⟨i+1,L',by omega,by go_num,o.done P.out O.out a5,u.out,I.out,j.out⟩
    simp[intOf];omega
   have b8:i=g.length:=by omega
   have f0:=qh b8;clear b8;have l:=d2.out;rw[f0.out] at l;have g6:=Q.out.size;have c8:=z6v (some ⟨G.heap.size,0,none⟩) (g.length+d.length+1) L wo (by rw[l.len];exact HO.out.sl);rw[l.len] at c8;have E:=qh l;clear l
   go_wp2_with fail
   refine c8.mono ?_;rintro e w4 ⟨kk,hk,rfl,rfl⟩;have HK:=qh hk;clear hk;have hb:=E.out.done;have z:(toB (val s*val t))=L.take kk:=by
    rw[z4g E.out.small HK.out.1 HK.out.2.1 HK.out.2.2,hb,HX.out,HY.out,z0y,z0y]
   have f4:kk<=g.length+d.length+1:=by have:=HK.out.1;rw[E.out.len] at this;exact this
   have d0:Sl wo .u64 (.slice (some ⟨G.heap.size,0,none⟩) kk (g.length+d.length+1)) (toB (val s*val t)):=by
    rw[z];exact HO.out.sl.take (by rw[E.out.len];exact f4)
   have b9:(toB (val s*val t)).length<=100000:=by rw[z,List.length_take];omega
   have X:=y3y _ (val s*val t) wo d0 b9 (HT.out.below Q.out nlr);have f9:=qh X;clear X d0 b9 z hb
   go_wp2_with fail
   refine f9.out.mono ?_;rintro e w5 ⟨rfl,e2⟩;have g0:=qh e2;clear e2;go_wp2;go_ret2;exact⟨rfl,Q.out.trans (g0.out.mono g6)⟩
end
section
open Go.RowKit
structure Est (us vs:List Nat) (n q r:Nat):Prop where
 top:q*nth vs (n-1)+r=nth us n*BB+nth us (n-1)
 ge:bval us / bval vs<=q
structure DivIn (us vs:List Nat) (n:Nat):Prop where
 su:Small us
 sv:Small vs
 n1:1<=n
 lu:us.length=n+1
 lv:vs.length=n
 v1:1<=nth vs (n-1)
 lt:bval us<bval vs*BB
theorem x4y {n:Nat} (h:1<=n):BB ^ n=BB ^ (n-1)*BB:=by
 obtain⟨k,rfl⟩:∃ k,n=k+1:=⟨n-1,by omega⟩;exact Nat.pow_succ ..
theorem y9g {n:Nat} (h:2<=n):BB ^ (n-1)=BB ^ (n-2)*BB:=by
 obtain⟨k,rfl⟩:∃ k,n=k+2:=⟨n-2,by omega⟩;exact Nat.pow_succ ..
theorem z9q {xs:List Nat} {n:Nat} (h:xs.length=n+1) (i:1<=n):bval xs=bval (xs.take (n-1))+BB ^ (n-1)*(nth xs n*BB+nth xs (n-1)):=by
 have d:=z0k xs n;rw[z2m (by omega)] at d;have c:=z0k xs (n-1);rw[show n-1+1=n by omega] at c;have g:BB ^ n=BB ^ (n-1)*BB:=x4y i;rw[d,c,g,Nat.mul_add,<- Nat.mul_assoc,Nat.mul_assoc (BB ^ (n-1)) BB,Nat.mul_comm BB (nth xs n)];rw[Nat.mul_assoc];omega
theorem z9v {xs:List Nat} {n:Nat} (h:xs.length=n) (d:1<=n):bval xs=bval (xs.take (n-1))+BB ^ (n-1)*nth xs (n-1):=by
 have c:=z0k xs (n-1);rw[show n-1+1=n by omega,z2m (by omega)] at c;exact c
theorem y4s {xs:List Nat} (h:Small xs) (k:Nat) (c:k<=xs.length):bval (xs.take k)<BB ^ k:=by
 have:=z3w (z4h h k);rwa [List.length_take,Nat.min_eq_left c] at this
theorem DivIn.vpos {d c:List Nat} {n:Nat} (h:DivIn d c n):BB ^ (n-1)<=bval c:=by
 rw[z9v h.lv h.n1];have:BB ^ (n-1)*1<=BB ^ (n-1)*nth c (n-1):=Nat.mul_le_mul_left _ h.v1;omega
theorem DivIn.vpos' {d c:List Nat} {n:Nat} (h:DivIn d c n):0<bval c:=Nat.lt_of_lt_of_le (Nat.pow_pos z1w) h.vpos
theorem DivIn.qlt {c d:List Nat} {n:Nat} (h:DivIn c d n):bval c / bval d<BB:=Nat.div_lt_of_lt_mul h.lt
theorem Est.start {c d:List Nat} {n:Nat} (h:DivIn c d n) :
  Est c d n ((nth c n*BB+nth c (n-1)) / nth d (n-1)) ((nth c n*BB+nth c (n-1)) % nth d (n-1)):=by
 refine⟨by rw[Nat.mul_comm];exact Nat.div_add_mod _ _,?_⟩;rw[Nat.le_div_iff_mul_le h.v1];have k:=Nat.div_mul_le_self (bval c) (bval d);generalize bval c / bval d=Q at *;have l:=z9q h.lu h.n1;have m:=y4s h.su (n-1) (by rw[h.lu];omega);have i:=z9v h.lv h.n1;have j:Q*(BB ^ (n-1)*nth d (n-1))<=Q*bval d:=Nat.mul_le_mul_left _ (by omega);have g:BB ^ (n-1)*(Q*nth d (n-1))<BB ^ (n-1)*(nth c n*BB+nth c (n-1)+1):=by
  rw[Nat.mul_left_comm,Nat.mul_add];omega
 have:=Nat.lt_of_mul_lt_mul_left g;omega
theorem x0q {xs:List Nat} {n:Nat} (h:xs.length=n+1) (d:2<=n):bval xs=bval (xs.take (n-2))+BB ^ (n-2)*((nth xs n*BB+nth xs (n-1))*BB+nth xs (n-2)):=by
 have c:=z0k xs (n-2);rw[show n-2+1=n-1 by omega] at c;rw[z9q h (by omega),c];have g:BB ^ (n-1)=BB ^ (n-2)*BB:=y9g d;rw[g,Nat.mul_add (BB ^ (n-2)),Nat.mul_assoc,Nat.mul_comm BB (nth xs n*BB+nth xs (n-1))];omega
theorem y5k {xs:List Nat} {n:Nat} (h:xs.length=n) (c:2<=n):bval xs=bval (xs.take (n-2))+BB ^ (n-2)*(nth xs (n-1)*BB+nth xs (n-2)):=by
 have:=z9q (n:=n-1) (xs:=xs) (by omega) (by omega)
 rwa [show n-1-1=n-2 by omega] at this
theorem Est.back {d c:List Nat} {n q r:Nat} (h:DivIn d c n) (k:Est d c n q r) (i:BB<=q\/(2<=n/\r*BB+nth d (n-2)<q*nth c (n-2))) :
  1<=q/\Est d c n (q-1) (r+nth c (n-1)):=by
 have g:bval d / bval c<q:=by
  rcases i with i|⟨l,i⟩
  ·exact Nat.lt_of_lt_of_le h.qlt i
  rw[Nat.div_lt_iff_lt_mul h.vpos'];have s:=x0q h.lu l;have u:=y5k h.lv l;have z:=y4s h.su (n-2) (by rw[h.lu];omega);have m:(nth d n*BB+nth d (n-1))*BB+nth d (n-2)+1<=q*(nth c (n-1)*BB+nth c (n-2)):=by
   rw[<- k.top,Nat.add_mul,Nat.mul_add,Nat.mul_assoc];omega
  have o:BB ^ (n-2)*((nth d n*BB+nth d (n-1))*BB+nth d (n-2)+1)<=BB ^ (n-2)*(q*(nth c (n-1)*BB+nth c (n-2))):=Nat.mul_le_mul_left _ m;have p:BB ^ (n-2)*(q*(nth c (n-1)*BB+nth c (n-2)))<=q*bval c:=by
   rw[Nat.mul_left_comm];exact Nat.mul_le_mul_left _ (by omega)
  rw[Nat.mul_add (BB ^ (n-2)) _ 1,Nat.mul_one] at o;omega
 have j:1<=q:=Nat.lt_of_le_of_lt (Nat.zero_le _) g;refine⟨j,?_,Nat.le_sub_one_of_lt g⟩;clear g;have:=k.top;have e:q*nth c (n-1)=(q-1)*nth c (n-1)+nth c (n-1):=by
  have:q=q-1+1:=by omega
  rw[this,Nat.add_mul,Nat.one_mul,Nat.add_sub_cancel]
 omega
theorem Est.done {d c:List Nat} {n q r:Nat} (h:DivIn d c n) (k:Est d c n q r) (o:q<BB) (m:n=1\/BB<=r\/(2<=n/\q*nth c (n-2)<=r*BB+nth d (n-2))) :
  q*bval c<bval d+bval c:=by
 by_cases p:n=1
 ·subst p;have i:=z9q h.lu (by omega);have j:=z9v h.lv (by omega);simp only[Nat.sub_self,Nat.pow_zero,Nat.one_mul,List.take_zero,show bval []=0 from rfl,Nat.zero_add] at i j;have:=k.top;simp only[Nat.sub_self] at this;have:=h.vpos';rw[j] at *;omega
 have g:2<=n:=by have:=h.n1;omega
 have B:q*nth c (n-2)<=r*BB+nth d (n-2):=by
  rcases m with i|i|i
  ·omega
  ·have j:q*nth c (n-2)<=BB*BB:=Nat.mul_le_mul (by omega) (by have:=h.sv (n-2);omega);have s:BB*BB<=r*BB:=Nat.mul_le_mul_right _ i;omega
  exact i.2
 have i:=x0q h.lu g;have j:=y5k h.lv g;have s:=y4s h.sv (n-2) (by rw[h.lv];omega);have l:q*(nth c (n-1)*BB+nth c (n-2))<=(nth d n*BB+nth d (n-1))*BB+nth d (n-2):=by
  rw[<- k.top,Nat.add_mul,Nat.mul_add,Nat.mul_assoc];omega
 have A:BB ^ (n-2)*(q*(nth c (n-1)*BB+nth c (n-2)))<=BB ^ (n-2)*((nth d n*BB+nth d (n-1))*BB+nth d (n-2)):=Nat.mul_le_mul_left _ l;have z:q*bval c=q*bval (c.take (n-2))+BB ^ (n-2)*(q*(nth c (n-1)*BB+nth c (n-2))):=by
  rw[j,Nat.mul_add,Nat.mul_left_comm]
 have u:q*bval (c.take (n-2))<BB ^ (n-1):=by
  have e:BB ^ (n-1)=BB*BB ^ (n-2):=by rw[Nat.mul_comm];exact y9g g
  rw[e];exact Nat.mul_lt_mul_of_lt_of_le o (by omega) (Nat.pow_pos z1w)
 have:=h.vpos;omega
structure SubIn (us vs us':List Nat) (q i c bo:Nat):Prop where
 len:us'.length=us.length
 small:Small us'
 carry:c<BB
 borrow:bo<=1
 same:∀ j,i<=j->nth us' j=nth us j
 val:bval (us'.take i)+q*bval (vs.take i)=bval (us.take i)+BB ^ i*(c+bo)
theorem SubIn.start (c d:List Nat) (q:Nat) (h:Small c):SubIn c d c q 0 0 0:=⟨rfl,h,z1w,by omega,fun _ _=>rfl,by simp[bval]⟩
theorem take_set (L:List Nat) (i v:Nat):(L.set i v).take i=L.take i:=by
 rw[List.take_set];apply List.set_eq_of_length_le;rw[List.length_take];omega
def dSub (u c b x:Nat):Nat:=u+1000000000-(c+x) % 1000000000-b
theorem x1a {u c b x:Nat} (hb:b<=1):((u:Int)+1000000000-((c:Int)+(x:Int)) % 1000000000-(b:Int))=((dSub u c b x:Nat):Int):=by unfold dSub;omega
theorem SubIn.step {k g m:List Nat} {q i c o:Nat} (h:SubIn k g m q i c o) (A:Small g) (D:q<BB) (hi:i<k.length) :
  SubIn k g (m.set i (dSub (nth k i) c o (q*nth g i) % 1000000000)) q (i+1) ((c+q*nth g i) / 1000000000) (1-dSub (nth k i) c o (q*nth g i) / 1000000000):=by
 have hb:=z9m (l:=0) z1w h.carry D (A i);rw[Nat.zero_add] at hb;have E:nth k i<BB:=by rw[<- h.same i nlr];exact h.small i
 have p:i<m.length:=by rw[h.len];exact hi
 have s:=h.val;have F:=h.carry;have G:=h.borrow;have I:(c+q*nth g i) % 1000000000<1000000000:=Nat.mod_lt _ (by omega);have u:(c+q*nth g i) % 1000000000+1000000000*((c+q*nth g i) / 1000000000)=c+q*nth g i:=Nat.mod_add_div _ _;rw[z0s] at E F;refine⟨by simp[h.len],z7m h.small _ _ (by rw[z0s];exact Nat.mod_lt _ (by omega)),by rw[z0s];omega,by omega,fun j H=>?_,?_⟩
 ·rw[y1f _ _ _ _ p,if_neg (by omega)];exact h.same j (by omega)
 rw[z0k,z0k g,z0k k,take_set,y1f _ _ _ _ p,if_pos rfl,Nat.mul_add,Nat.pow_succ];generalize hd:dSub (nth k i) c o (q*nth g i)=d at *;unfold dSub at hd;generalize hx:q*nth g i=x at *;have z:q*(BB ^ i*nth g i)=BB ^ i*x:=by rw[Nat.mul_left_comm,hx]
 rw[z];have B:d % 1000000000+x+c+o=nth k i+BB*((c+x) / 1000000000+(1-d / 1000000000)):=by rw[z0s];omega
 have C:BB ^ i*(d % 1000000000+x+c+o)=BB ^ i*nth k i+BB ^ i*BB*((c+x) / 1000000000+(1-d / 1000000000)):=by rw[B,Nat.mul_add,Nat.mul_assoc]
 rw[Nat.mul_add,Nat.mul_add,Nat.mul_add] at C;rw[Nat.mul_add (BB ^ i)] at s;omega
theorem SubIn.last {j d g:List Nat} {n q c i:Nat} (h:SubIn j d g q n c i) (k:d.length=n):(c+q*nth d n) / 1000000000=0:=by
 rw[z1q d n (by omega),Nat.mul_zero,Nat.add_zero];have:=h.carry;rw[z0s] at this;exact Nat.div_eq_of_lt this
theorem SubIn.done {i j d:List Nat} {n q k:Nat} (h:SubIn i j d q (n+1) 0 k) (l:i.length=n+1) (m:j.length=n) :
  bval d+q*bval j=bval i+BB ^ (n+1)*k/\bval d<BB ^ (n+1):=by
 have c:=h.val;have g:=h.len;rw[z2m (by omega),z2m (by omega),z2m (by omega),Nat.zero_add] at c;have:=z3w h.small;rw[g,l] at this;exact⟨c,this⟩
theorem SubIn.fits {c d g:List Nat} {n q:Nat} (i:DivIn c d n) (h:SubIn c d g q (n+1) 0 0) (l:bval c / bval d<=q):q=bval c / bval d/\bval g=bval c % bval d:=by
 obtain⟨k,m⟩:=h.done i.lu i.lv;rw[Nat.mul_zero,Nat.add_zero] at k;have o:q<=bval c / bval d:=by rw[Nat.le_div_iff_mul_le i.vpos'];omega
 have j:q=bval c / bval d:=by omega
 refine⟨j,?_⟩;have:=Nat.div_add_mod (bval c) (bval d);rw[<- j,Nat.mul_comm] at this;omega
structure AddIn (us vs us':List Nat) (i c:Nat):Prop where
 len:us'.length=us.length
 small:Small us'
 carry:c<=1
 same:∀ j,i<=j->nth us' j=nth us j
 val:bval (us'.take i)+BB ^ i*c=bval (us.take i)+bval (vs.take i)
theorem AddIn.start (c d:List Nat) (h:Small c):AddIn c d c 0 0:=⟨rfl,h,by omega,fun _ _=>rfl,by simp[bval]⟩
theorem AddIn.step {d k g:List Nat} {i c:Nat} (h:AddIn d k g i c) (z:Small k) (hi:i<d.length) :
  AddIn d k (g.set i ((nth d i+c+nth k i) % 1000000000)) (i+1) ((nth d i+c+nth k i) / 1000000000):=by
 have u:nth d i<BB:=by rw[<- h.same i nlr];exact h.small i
 have m:=z i;have l:i<g.length:=by rw[h.len];exact hi
 have o:=h.val;have B:=h.carry;rw[z0s] at u m;refine⟨by simp[h.len],z7m h.small _ _ (by rw[z0s];exact Nat.mod_lt _ (by omega)),by omega,fun j A=>?_,?_⟩
 ·rw[y1f _ _ _ _ l,if_neg (by omega)];exact h.same j (by omega)
 rw[z0k,z0k k,z0k d,take_set,y1f _ _ _ _ l,if_pos rfl,Nat.pow_succ];generalize nth d i=a at *;generalize nth k i=x at *;have p:(a+c+x) % 1000000000+BB*((a+c+x) / 1000000000)=a+c+x:=by rw[z0s];omega
 have s:BB ^ i*(a+c+x)=BB ^ i*((a+c+x) % 1000000000)+BB ^ i*BB*((a+c+x) / 1000000000):=by rw[Nat.mul_assoc,<- Nat.mul_add,p]
 rw[Nat.mul_add,Nat.mul_add] at s;omega
theorem AddIn.fits {h d m g:List Nat} {n q c:Nat} (j:DivIn h d n) (A:SubIn h d m q (n+1) 0 1) (p:AddIn m d g (n+1) c) (J:bval h / bval d<=q) (F:q*bval d<bval h+bval d) :
  1<=q/\q-1=bval h / bval d/\bval g=bval h % bval d:=by
 obtain⟨B,L⟩:=A.done j.lu j.lv;have o:=p.len;have u:=A.len;have l:=j.lu;have C:=j.lv;have i:=p.val;rw[z2m (by omega),z2m (by omega),z2m (by omega)] at i;have H:=z3w p.small;rw[o,u,l] at H;rw[Nat.mul_one] at B;have s:1<=q:=by
  rcases Nat.eq_zero_or_pos q with k|k
  ·subst k;rw[Nat.zero_mul] at B;have:=z3w j.su;rw[l] at this;omega
  exact k
 have e:q*bval d=(q-1)*bval d+bval d:=by
  have:q=q-1+1:=by omega
  rw[this,Nat.add_mul,Nat.one_mul,Nat.add_sub_cancel]
 have E:c=1:=by
  have:=p.carry
  rcases Nat.eq_zero_or_pos c with k|k
  ·subst k;rw[Nat.mul_zero,Nat.add_zero] at i;omega
  omega
 subst E;rw[Nat.mul_one] at i;have D:(q-1)*bval d<=bval h:=by omega
 have K:bval g=bval h-(q-1)*bval d:=by omega
 have I:bval g<bval d:=by omega
 have z:q-1=bval h / bval d:=by
  have N:q-1<=bval h / bval d:=by rw[Nat.le_div_iff_mul_le j.vpos'];exact D
  have G:bval h / bval d<q:=by rw[Nat.div_lt_iff_lt_mul j.vpos'];omega
  omega
 refine⟨s,z,?_⟩;have:=Nat.div_add_mod (bval h) (bval d);rw[<- z,Nat.mul_comm] at this;omega
end
section
open Go.RowKit
theorem y8r (w:World) (r:Option Nat):w.grownBy w r:=⟨rfl,rfl,rfl,nlr,fun _ _ _=>rfl⟩
theorem x9f {w g i:World} {r:Option Nat} (h:w.grownBy g r) (d:g.grownBy i r):w.grownBy i r :=
 ⟨d.os.trans h.os,d.tape.trans h.tape,d.output.trans h.output,Nat.le_trans h.size d.size,fun k j c=>(d.block k (Nat.lt_of_lt_of_le j h.size) c).trans (h.block k j c)⟩
theorem z3c {w c:World} {r:Option Nat} (h:w.grownBy c r) (n:Nat):w.grownBy (c.drewN n) r:=⟨h.os,h.tape,h.output,h.size,h.block⟩
theorem y1n {w d:World} {g:Nat} (h:w.grownBy d (some g)) (j:Nat) (v:Value):w.grownBy (d.setCell ⟨g,j,none⟩ v) (some g) :=
 x9f h ⟨rfl,rfl,rfl,by simp[World.setCell],fun k _ c=>Below.heap_setCell _ _ _ _ (by intro e;apply c;rw[e])⟩
theorem y4e (A c C:List Nat) (i:Nat) (h:i<c.length):nth (A++c++C) (A.length+i)=nth c i:=by
 rw[z3v _ _ _ (by rw[List.length_append];omega),z3g _ _ _ (by omega),Nat.add_sub_cancel_left]
theorem set_mid (A c C:List Nat) (i v:Nat) (h:i<c.length):(A++c++C).set (A.length+i) v=A++c.set i v++C:=by
 rw[List.set_append_left _ _ (by rw[List.length_append];omega),List.set_append_right _ _ (by omega),Nat.add_sub_cancel_left]
def DigEnd (B g N cap:Nat) (A us C vs:List Nat) (w:World) (e:Ending) (w':World):Prop :=
 ∃ us':List Nat,e=.returned (.int .u64 ((bval us / bval vs:Nat):Int))/\us'.length=us.length/\Small us'/\bval us'=bval us % bval vs /\
  Own w' B 179 .u64 (.slice (some ⟨g,0,none⟩) N cap) (A++us'++C)/\w.grownBy w' (some g)
set_option maxRecDepth 100000 in
theorem v2a (B g N cap e5 bv ov cv n:Nat) (A p C j:List Nat) (w:World) (hN:(A++p++C).length=N) (d1:Own w B 179 .u64 (.slice (some ⟨g,0,none⟩) N cap) (A++p++C))
  (hd:DivIn p j n) (hn:n<=100000) (c8:bv≠g) (hv:∀ i,i<n->w.cell? ⟨bv,ov+i,none⟩=some (.int .u64 ((nth j i:Nat):Int))) :
  Calls prog 238 #[.slice (some ⟨g,A.length,none⟩) (n+1) e5,.slice (some ⟨bv,ov,none⟩) n cv] w (DigEnd B g N cap A p C j w):=by
 have z:=qh hd;clear hd;have HN:=qh hN;clear hN;have HO:=qh d1;clear d1;have HV:=qh hv;clear hv;have h1:=z.out.n1;have f0:=z.out.lu;have F:=qh f0;clear f0;have un:w.cell? ⟨g,A.length+n,none⟩=some (.int .u64 ((nth p n:Nat):Int)):=by
  have h:=HO.out.cell HN.out (A.length+n) (by rw[<- HN.out,List.length_append,List.length_append,F.out];omega)
  rwa [y4e _ _ _ _ (by rw[F.out];omega)] at h
 have i5:w.cell? ⟨g,A.length+(n-1),none⟩=some (.int .u64 ((nth p (n-1):Nat):Int)):=by
  have h:=HO.out.cell HN.out (A.length+(n-1)) (by rw[<- HN.out,List.length_append,List.length_append,F.out];omega)
  rwa [y4e _ _ _ _ (by rw[F.out];omega)] at h
 have e8:=HV.out (n-1) (by omega);have g9:=z.out.v1;have g3:=z.out.su n;have d0:=z.out.su (n-1);rw[z0s] at g3 d0
 go_enter func238,ntmps238
 go_wp2_with fail
 go_quiet (fail)
 go_wp2_with fail
 go_quiet (fail)
 go_upto_block 0 with (fail)
 generalize hw2:(World.drewN _ _)=w2;have m:w.grownBy w2 (some g):=by rw[<- hw2];exact z3c (z3c (y8r _ _) _) _
 have a9:Below w.heap.size w w2:=by rw[<- hw2];exact below_drewN (below_drewN blr _) _
 have o:Own w2 B 179 .u64 (.slice (some ⟨g,0,none⟩) N cap) (A++p++C):=HO.out.kept a9 nlr;have d9:=qh m;clear m;have f9:=qh o;clear o;clear hw2 a9 un i5 e8 HO
 go_cut [7,8] from 43 (fun q r wx=>∃ d K:Nat,q=.int .u64 (d:Int)/\r=.int .u64 (K:Int)/\d<BB/\bval p / bval j<=d/\d*bval j<bval p+bval j /\
   Own wx B 179 .u64 (.slice (some ⟨g,0,none⟩) N cap) (A++p++C)/\w.grownBy wx (some g))
 case first =>
  go_wp2_with fail
  go_loopw [7,8] (fun q r wr=>∃ d K:Nat,q=.int .u64 (d:Int)/\r=.int .u64 (K:Int)/\Est p j n d K /\
    Own wr B 179 .u64 (.slice (some ⟨g,0,none⟩) N cap) (A++p++C)/\w.grownBy wr (some g)) (fun q _ _=>(intOf q).toNat)
  case atStart =>
   have he:=Est.start z.out;rw[z0s] at he;exact⟨_,_,by go_num,by go_num,he,f9.out,d9.out⟩
  obtain⟨d,K,rfl,rfl,he,o,m⟩:=hrel;have d2:=he.top;have f4:=z.out.su (n-2);have e6:=z.out.sv (n-2);have h5:=z.out.sv (n-1);rw[z0s] at d2 f4 e6 h5;have j6:d<=999999999999999999:=by
   have:d*1<=d*nth j (n-1):=Nat.mul_le_mul_left _ g9;omega
  have j2:K<=999999999999999999:=by omega
  have e7:(((n:Int)-1).toNat)=n-1:=by omega
  have e8:wr.cell? ⟨bv,ov+(n-1),none⟩=some (.int .u64 ((nth j (n-1):Nat):Int)):=m.cell (HV.out (n-1) (by omega)) (by simpa using c8);have c7:2<=n->wr.cell? ⟨g,A.length+(n-2),none⟩=some (.int .u64 ((nth p (n-2):Nat):Int)):=fun h2=>by
   have h:=o.cell HN.out (A.length+(n-2)) (by rw[<- HN.out,List.length_append,List.length_append,F.out];omega)
   rwa [y4e _ _ _ _ (by rw[F.out];omega)] at h
  have b9:2<=n->wr.cell? ⟨bv,ov+(n-2),none⟩=some (.int .u64 ((nth j (n-2):Nat):Int)):=fun h2=>m.cell (HV.out (n-2) (by omega)) (by simpa using c8);have HE:=qh he;clear he d2 e7;have D:=qh o;clear o;have E:=qh m;clear m;by_cases hA:BB<=d
  ·have a2:=HE.out.back z.out (.inl hA);have H:=qh a2;clear a2;rw[z0s] at hA;have g4:(1000000000:Int)<=(d:Int):=by omega
   clear c7 b9
   go_wp2_with fail
   go_quiet (fail)
   go_wp2_with fail
   ·have b7:(1000000000:Int)<=(K:Int)+((nth j (n-1):Nat):Int):=by assumption
    have j5:(d:Int)-1<1000000000:=by assumption
    go_meet
    refine⟨d-1,K+nth j (n-1),by go_num,by go_num,by rw[z0s];omega,H.out.2.ge,H.out.2.done z.out (by rw[z0s];omega) (.inr (.inl (by rw[z0s];omega))),D.out.kept (below_drewN (Below.refl _ wr) _) nlr,z3c E.out _⟩
   ·go_roundw
    case rel=>exact⟨d-1,K+nth j (n-1),by go_num,by go_num,H.out.2,D.out.kept (below_drewN (Below.refl _ wr) _) nlr,z3c E.out _⟩
    have:=H.out.1;simp[intOf];omega
   go_roundw
   case rel=>exact⟨d-1,K+nth j (n-1),by go_num,by go_num,H.out.2,D.out.kept (below_drewN (Below.refl _ wr) _) nlr,z3c E.out _⟩
   have:=H.out.1;simp[intOf];omega
  have d8:d<BB:=by omega
  have a3:=qh d8;clear d8;rw[z0s] at hA;have g4:decide ((1000000000:Int)<=(d:Int))=false:=by simp;omega
  by_cases b1:2<=n
  ·have g1:=c7 b1;have f3:=b9 b1;clear c7 b9;have J:((d:Int)*((nth j (n-2):Nat):Int))=((d*nth j (n-2):Nat):Int):=by simp
   obtain⟨P,hP⟩:=exq (d*nth j (n-2));have i6:(P:Int)<=999999998000000001:=by
    have:d*nth j (n-2)<=999999999*999999999:=Nat.mul_le_mul (by omega) (by omega);omega
   have hw:IntKind.u64.wrap ((d:Int)*((nth j (n-2):Nat):Int))=(P:Int):=by
    rw[J,<- hP];exact IntWalk.u64_in _ ⟨by omega,by omega⟩
   have HP:=qh hP;clear hP J;have f8:(1:Int)<(n:Int):=by omega
   by_cases i3:K<1000000000
   ·have c9:(K:Int)<1000000000:=by omega
    by_cases ht:K*1000000000+nth p (n-2)<P
    ·have a2:=HE.out.back z.out (.inr ⟨b1,by rw[z0s,<- HP.out];exact ht⟩);have g2:(K:Int)*1000000000+((nth p (n-2):Nat):Int)<(P:Int):=by omega
     have b4:(1:Int)<=(d:Int):=by have:=a2.1;omega
     have H:=qh a2;clear a2 ht
     go_wp2_with fail
     go_quiet (fail)
     clear g2 hw i6;have i9:(d:Int)<=999999999:=by omega
     clear hA g4 i3 c9 f4 e6 g1 f3 b1 f8
     go_wp2_with fail
     ·have b7:(1000000000:Int)<=(K:Int)+((nth j (n-1):Nat):Int):=by assumption
      go_meet
      refine⟨d-1,K+nth j (n-1),by go_num,by go_num,by rw[z0s];omega,H.out.2.ge,H.out.2.done z.out (by rw[z0s];omega) (.inr (.inl (by rw[z0s];omega))),D.out.kept (below_drewN (Below.refl _ wr) _) nlr,z3c E.out _⟩
     go_roundw
     case rel=>exact⟨d-1,K+nth j (n-1),by go_num,by go_num,H.out.2,D.out.kept (below_drewN (Below.refl _ wr) _) nlr,z3c E.out _⟩
     have:=H.out.1;simp[intOf];omega
    have g2:decide ((K:Int)*1000000000+((nth p (n-2):Nat):Int)<(P:Int))=false:=by simp;omega
    have g6:=qh ht;clear ht
    go_wp2_with fail
    go_quiet (fail)
    go_wp2_with fail
    go_meet
    exact⟨d,K,rfl,rfl,a3.out,HE.out.ge,HE.out.done z.out a3.out (.inr (.inr ⟨b1,by have:=g6.out;rw[z0s,<- HP.out];omega⟩)),D.out.kept (below_drewN (Below.refl _ wr) _) nlr,z3c E.out _⟩
   have c9:decide ((K:Int)<1000000000)=false:=by simp;omega
   go_wp2_with fail
   go_quiet (fail)
   go_wp2_with fail
   go_meet
   exact⟨d,K,rfl,rfl,a3.out,HE.out.ge,HE.out.done z.out a3.out (.inr (.inl (by rw[z0s];omega))),D.out.kept (below_drewN (Below.refl _ wr) _) nlr,z3c E.out _⟩
  have f8:decide ((1:Int)<(n:Int))=false:=by simp;omega
  clear c7 b9
  go_wp2_with fail
  go_quiet (fail)
  go_wp2_with fail
  go_meet
  exact⟨d,K,rfl,rfl,a3.out,HE.out.ge,HE.out.done z.out a3.out (.inl (by omega)),D.out.kept (below_drewN (Below.refl _ wr) _) nlr,z3c E.out _⟩
 case rest =>
  obtain⟨d,K,rfl,rfl,b4,f1,f2,o,m⟩:=hcut;have d8:(d:Int)<=999999999:=by rw[z0s] at b4;omega
  have i8:=qh b4;clear b4;have e4:=qh f1;clear f1;have g8:=qh f2;clear f2;have h6:=qh o;clear o;have h4:=qh m;clear m;clear f9 d9 g3 d0
  go_wp2_with fail
  go_loopw [9,10,88] (fun b c i wr=>∃ (k R Y:Nat) (u:List Nat),k<=n+1/\i=.int .i64 (k:Int)/\c=.int .u64 (R:Int)/\b=.int .u64 (Y:Int)/\SubIn p j u d k R Y/\(k=n+1->R=0) /\
    Own wr B 179 .u64 (.slice (some ⟨g,0,none⟩) N cap) (A++u++C)/\w.grownBy wr (some g)) (fun _ _ i _=>n+1-(intOf i).toNat)
  case atStart=>exact⟨0,0,0,p,Nat.zero_le _,rfl,rfl,rfl,SubIn.start p j d z.out.su,fun _=>rfl,h6.out,h4.out⟩
  obtain⟨k,R,Y,u,hk,rfl,rfl,rfl,I,a4,o,m⟩:=hrel;have s:=I.len;rw[F.out] at s;have a8:(A++u++C).length=N:=by rw[<- HN.out,List.length_append,List.length_append,List.length_append,List.length_append,s,F.out]
  have W:=qh s;clear s;have b0:=qh a8;clear a8;have g5:=qh a4;clear a4;have S:=qh I;clear I;have Z:=qh o;clear o;have b2:=qh m;clear m;by_cases d7:k<n+1
  ·have h9:(R:Int)<=999999999:=by have:=S.out.carry;rw[z0s] at this;omega
   have j3:(Y:Int)<=1:=by have:=S.out.borrow;omega
   have i4:((nth p k:Nat):Int)<=999999999:=by have:=z.out.su k;rw[z0s] at this;omega
   have uc:wr.cell? ⟨g,A.length+k,none⟩=some (.int .u64 ((nth p k:Nat):Int)):=by
    have h:=Z.out.cell b0.out (A.length+k) (by rw[<- b0.out,List.length_append,List.length_append,W.out];omega)
    rwa [y4e _ _ _ _ (by rw[W.out];omega),S.out.same k nlr] at h
   have uf:wr.frozen? ⟨g,A.length+k,none⟩=false:=Z.out.free b0.out _;have L:=S.out.step z.out.sv i8.out (by rw[F.out];exact d7);have a1:=qh L;clear L;by_cases d6:k<n
   ·have vc:wr.cell? ⟨bv,ov+k,none⟩=some (.int .u64 ((nth j k:Nat):Int)):=b2.out.cell (HV.out k d6) (by simpa using c8);have J:((d:Int)*((nth j k:Nat):Int))=((d*nth j k:Nat):Int):=by simp
    have j0:(d:Int)*((nth j k:Nat):Int)<=999999998000000001:=by
     have h2:=z.out.sv k;rw[z0s] at h2;have:d*nth j k<=999999999*999999999:=Nat.mul_le_mul (by omega) (by omega);rw[J];omega
    have j1:0<=(d:Int)*((nth j k:Nat):Int):=by rw[J];omega
    have i2:=qh J;clear J;go_wp2;go_roundw
    case rel =>
     have i7:dSub (nth p k) R Y (d*nth j k)<=1999999999:=by unfold dSub;omega
     rw[i2.out,x1a S.out.borrow];have l:=Z.out.set b0.out (A.length+k) (dSub (nth p k) R Y (d*nth j k) % 1000000000);rw[set_mid _ _ _ _ _ (by rw[W.out];exact d7)] at l;exact⟨k+1,_,_,_,by omega,by go_num,by go_num,by go_num,a1.out,fun h=>by omega,l,y1n b2.out _ _⟩
    simp[intOf];omega
   have O:k=n:=by omega
   have b5:nth j k=0:=z1q j k (by have:=z.out.lv;omega);have f5:(R+d*nth j k) / 1000000000=0:=by
    have h:=S.out;rw[O] at h ⊢;exact h.last z.out.lv
   have h8:=qh O;clear O;have e3:=qh b5;clear b5;have g7:=qh f5;clear f5;go_wp2;go_roundw
   case rel =>
    have e0:(R:Int)=(R:Int)+((d*nth j k:Nat):Int):=by rw[e3.out];simp
    have e1:(R:Int) / 1000000000=((R+d*nth j k) / 1000000000:Nat):=by rw[e3.out,Nat.mul_zero];omega
    have e2:((nth p k:Nat):Int)+1000000000-(R:Int) % 1000000000-(Y:Int)=((dSub (nth p k) R Y (d*nth j k):Nat):Int):=by
     rw[<- x1a S.out.borrow,<- e0]
    have i7:dSub (nth p k) R Y (d*nth j k)<=1999999999:=by unfold dSub;omega
    rw[e1,e2];have l:=Z.out.set b0.out (A.length+k) (dSub (nth p k) R Y (d*nth j k) % 1000000000);rw[set_mid _ _ _ _ _ (by rw[W.out];exact d7)] at l;exact⟨k+1,_,_,_,by omega,by go_num,rfl,by go_num,a1.out,fun _=>g7.out,l,y1n b2.out _ _⟩
   simp[intOf];omega
  have O:k=n+1:=by omega
  have f7:=g5.out O;have I:=S.out;rw[O,f7] at I;have T:=qh I;clear I;clear S g5 O f7
  rcases Nat.eq_zero_or_pos Y with h0|h0
  ·have h7:(((Y:Nat):Int)==0)=true:=by rw[beq_iff_eq];omega
   have Q:d=bval p / bval j/\bval u=bval p % bval j:=by
    have h:=T.out;rw[h0] at h;exact h.fits z.out e4.out
   have HF:=qh Q;clear Q;have h3:=qh h0;clear h0;go_wp2;go_ret;exact⟨u,z5p (by rw[<- HF.out.1]),by rw[W.out,F.out],T.out.small,HF.out.2,Z.out,b2.out⟩
  have h7:(((Y:Nat):Int)==0)=false:=by rw[beq_eq_false_iff_ne];omega
  have b7:Y=1:=by have:=T.out.borrow;omega
  have I:=T.out;rw[b7] at I;have d4:=qh I;clear I T;have h3:=qh b7;clear b7 h0;obtain⟨wo,rfl⟩:∃ wo:World,wo=wr:=⟨_,rfl⟩
  go_wp2_with fail
  go_loopw [10,129] (fun c i wr=>∃ (k R:Nat) (U:List Nat),k<=n+1/\i=.int .i64 (k:Int)/\c=.int .u64 (R:Int)/\AddIn u j U k R /\
   Own wr B 179 .u64 (.slice (some ⟨g,0,none⟩) N cap) (A++U++C)/\w.grownBy wr (some g)) (fun _ i _=>n+1-(intOf i).toNat)
  case atStart=>exact⟨0,0,u,Nat.zero_le _,rfl,rfl,AddIn.start u j d4.out.small,Z.out,b2.out⟩
  obtain⟨G,d5,U,j4,rfl,rfl,X,o,m⟩:=hrel;have s:=X.len;rw[W.out] at s;have a8:(A++U++C).length=N:=by rw[<- HN.out,List.length_append,List.length_append,List.length_append,List.length_append,s,F.out]
  have a6:=qh s;clear s;have a7:=qh a8;clear a8;have b6:=qh X;clear X;have b3:=qh o;clear o;have b8:=qh m;clear m;by_cases a5:G<n+1
  ·have h9:(d5:Int)<=1:=by have:=b6.out.carry;omega
   have i4:((nth u G:Nat):Int)<=999999999:=by have:=d4.out.small G;rw[z0s] at this;omega
   have g0:((nth j G:Nat):Int)<=999999999:=by have:=z.out.sv G;rw[z0s] at this;omega
   have uc:wr.cell? ⟨g,A.length+G,none⟩=some (.int .u64 ((nth u G:Nat):Int)):=by
    have h:=b3.out.cell a7.out (A.length+G) (by rw[<- a7.out,List.length_append,List.length_append,a6.out];omega)
    rwa [y4e _ _ _ _ (by rw[a6.out];omega),b6.out.same G nlr] at h
   have uf:wr.frozen? ⟨g,A.length+G,none⟩=false:=b3.out.free a7.out _;have L:=b6.out.step z.out.sv (by rw[W.out];exact a5);have a1:=qh L;clear L;by_cases d6:G<n
   ·have vc:wr.cell? ⟨bv,ov+G,none⟩=some (.int .u64 ((nth j G:Nat):Int)):=b8.out.cell (HV.out G d6) (by simpa using c8);go_wp2;go_roundw
    case rel =>
     have l:=b3.out.set a7.out (A.length+G) ((nth u G+d5+nth j G) % 1000000000);rw[set_mid _ _ _ _ _ (by rw[a6.out];exact a5)] at l;exact⟨G+1,_,_,by omega,by go_num,by go_num,a1.out,l,y1n b8.out _ _⟩
    simp[intOf];omega
   have b5:nth j G=0:=z1q j G (by have:=z.out.lv;omega);have d3:=a1.out;rw[b5,Nat.add_zero] at d3;have e9:=qh d3;clear d3 a1 b5 g0;go_wp2;go_roundw
   case rel =>
    have l:=b3.out.set a7.out (A.length+G) ((nth u G+d5) % 1000000000);rw[set_mid _ _ _ _ _ (by rw[a6.out];exact a5)] at l;exact⟨G+1,_,_,by omega,by go_num,by go_num,e9.out,l,y1n b8.out _ _⟩
   simp[intOf];omega
  have O:G=n+1:=by omega
  have X:=b6.out;rw[O] at X;have Q:=X.fits z.out d4.out e4.out g8.out;have b4:(1:Int)<=(d:Int):=by have:=Q.1;omega
  have HF:=qh Q;clear Q X;have h8:=qh O;clear O;go_wp2;go_ret;exact⟨U,z5p (by rw[<- HF.out.2.1];omega),by rw[a6.out,F.out],b6.out.small,HF.out.2.2,b3.out,b8.out⟩
end
end Go.Proofs.YteappjogmnogcaaGreatDoor
