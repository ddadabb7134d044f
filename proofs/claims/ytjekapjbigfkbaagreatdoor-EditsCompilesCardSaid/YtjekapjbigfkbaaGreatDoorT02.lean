/- Parts of a proof: Shelf MC Fmt Text Valid Ops MM MD. -/
import Derived.Shelf.Strings.Builder1
import Derived.Shelf.Strings.Builder2
import Derived.Shelf.Small.Wraps
import Derived.Shelf.Strings.BuilderF
import Derived.Shelf.Strings.BuilderK
import Derived.Shelf.Strings.Builder2Cap
import Derived.Shelf.Strconv.Itoa0
import Derived.Shelf.Strconv.Itoa1
import Derived.Shelf.LaysM
import Derived.Shelf.Strconv.Itoa2
import Derived.Shelf.Strings.Search1
import Derived.Shelf.Strings.Search2
import Derived.Shelf.Strings.Cut
import Derived.Shelf.Strings.Shaped
import Derived.Shelf.Strings.Prefix
import Derived.Shelf.Bits.Mul64
import Derived.Shelf.Strings.Repeat
import Derived.Shelf.Strings.BuilderCap
import Derived.Test.YtjekapjbigfkbaaGreatDoorProg
import Derived.Test.YtjekapjbigfkbaaGreatDoorT01
import Derived.Deep.QuietTactic
import Derived.BigQuiet
import Derived.Test.YtjekapjbigfkbaaGreatDoorT00
import Derived.Lib.ItoaMem
import Derived.Lib.AppendIntMem
import Derived.BigCall
import Derived.BigGuard
import Derived.Lib.Repeat
import Derived.WalkKit
import Derived.WalkSpells
import Derived.WalkLawsBesides
import Derived.Lib.Hide
import Derived.Lib.Strings
import Derived.Deep.Cut
import Derived.Deep.DeepCutAuto
namespace Go.Proofs.YtjekapjbigfkbaaGreatDoor
set_option maxRecDepth 100000
set_option linter.unusedSimpArgs false
set_option linter.unusedVariables false
set_option linter.unusedSectionVars false
set_option maxHeartbeats 16000000
open Go Tryz
end Go.Proofs.YtjekapjbigfkbaaGreatDoor
namespace Go.Proofs
open Go.Shelf
def Tryz.lays169_ren:Go.Shelf.Ren:=⟨fun | 169=>189 | n=>n,fun | 70=>198 | 9=>9 | 0=>0 | 72=>200 | 37=>191 | 127=>223 | 3=>3 | 5=>5 | n=>n,fun | n=>n⟩
theorem Tryz.lays169:Go.Proofs.Lays.n169 Tryz.prog Tryz.lays169_ren:={
 mixed:=by kernel_rfl
 f169:=Tryz.func189.trans (congrArg some (by kernel_rfl))
 t0:=Tryz.underlying0
 a0:=Tryz.isAgg0
 z0:=Tryz.sizeOf0
 v0:=Tryz.zeroValue0
 t3:=Tryz.underlying3
 a3:=Tryz.isAgg3
 z3:=Tryz.sizeOf3
 v3:=Tryz.zeroValue3
 t9:=Tryz.underlying9
 a9:=Tryz.isAgg9
 z9:=Tryz.sizeOf9
 v9:=Tryz.zeroValue9
 t37:=Tryz.underlying191
 a37:=Tryz.isAgg191
 z37:=Tryz.sizeOf191
 v37:=Tryz.zeroValue191
 t70:=Tryz.underlying198
 a70:=Tryz.isAgg198
 z70:=Tryz.sizeOf198
 v70:=Tryz.zeroValue198
 t72:=Tryz.underlying200
 a72:=Tryz.isAgg200
 z72:=Tryz.sizeOf200
 v72:=Tryz.zeroValue200
 t127:=Tryz.underlying223
 a127:=Tryz.isAgg223
 z127:=Tryz.sizeOf223
 v127:=Tryz.zeroValue223 }
theorem Tryz.Builder_Extra_169:Builder.Extra Tryz.prog Tryz.lays169_ren:={
 sizeBuilder:=by kernel_rfl
 liesBuilder:=by kernel_rfl
 t5:=Tryz.underlying5
 a5:=Tryz.isAgg5
 z5:=Tryz.sizeOf5
 v5:=Tryz.zeroValue5
 infoByte:=by kernel_rfl
 cellsByte:=by kernel_rfl
 sizeByte:=by kernel_rfl
 neB5:=by decide }
open Go.RowKit in
theorem Tryz.Builder_String_any (B b:Nat) (l:List UInt8) (w:World) (h:Lib.IsBuilder 200 5 B b (Lib.byteCells l) w) (hBw:B≤w.heap.size) :
  Calls Tryz.prog 189 #[.pointer (some ⟨b,0,none⟩)] w fun e w'=>e=.returned (.string ⟨l.toArray⟩)∧Below B w w':=Any.Builder_String_any Tryz.lays169 Tryz.Builder_Extra_169 B b l w h hBw
def Tryz.lays103_ren:Go.Shelf.Ren:=⟨fun | 103=>132 | 210=>168 | 206=>201 | n=>n,fun | 9=>9 | 4=>4 | 24=>161 | 3=>3 | n=>n,fun | n=>n⟩
theorem Tryz.lays103:Go.Proofs.Lays.n103 Tryz.prog Tryz.lays103_ren:={
 mixed:=by kernel_rfl
 f103:=Tryz.func132.trans (congrArg some (by kernel_rfl))
 f206:=Tryz.func201.trans (congrArg some (by kernel_rfl))
 f210:=Tryz.func168.trans (congrArg some (by kernel_rfl))
 t3:=Tryz.underlying3
 a3:=Tryz.isAgg3
 z3:=Tryz.sizeOf3
 v3:=Tryz.zeroValue3
 t4:=Tryz.underlying4
 a4:=Tryz.isAgg4
 z4:=Tryz.sizeOf4
 v4:=Tryz.zeroValue4
 t9:=Tryz.underlying9
 a9:=Tryz.isAgg9
 z9:=Tryz.sizeOf9
 v9:=Tryz.zeroValue9
 t24:=Tryz.underlying161
 a24:=Tryz.isAgg161
 z24:=Tryz.sizeOf161
 v24:=Tryz.zeroValue161 }
open Go.RowKit in
theorem Tryz.strings_CutPrefix (s p:ByteArray) (w:World) :
  Calls Tryz.prog 132 #[.string s,.string p] w fun e w'=>e=.returned (.tuple #[.string ⟨(Lib.trimPrefix s.data.toList p.data.toList).toArray⟩,.bool (Lib.hasPrefix s.data.toList p.data.toList)])∧w'=w:=Any.strings_CutPrefix Tryz.lays103 s p w
def Tryz.lays215_ren:Go.Shelf.Ren:=⟨fun | 215=>205 | n=>n,fun | 3=>3 | 4=>4 | n=>n,fun | n=>n⟩
def Tryz.lays122_ren:Go.Shelf.Ren:=⟨fun | 122=>184 | 215=>205 | n=>n,fun | 3=>3 | 4=>4 | n=>n,fun | n=>n⟩
theorem Tryz.lays122:Go.Proofs.Lays.n122 Tryz.prog Tryz.lays122_ren:={
 mixed:=by kernel_rfl
 f122:=Tryz.func184.trans (congrArg some (by kernel_rfl))
 f215:=Tryz.func205.trans (congrArg some (by kernel_rfl))
 t3:=Tryz.underlying3
 a3:=Tryz.isAgg3
 z3:=Tryz.sizeOf3
 v3:=Tryz.zeroValue3
 t4:=Tryz.underlying4
 a4:=Tryz.isAgg4
 z4:=Tryz.sizeOf4
 v4:=Tryz.zeroValue4 }
open Go.RowKit in
theorem Tryz.cmp_Compare_int (x y:Int) (w:World) :
  Calls Tryz.prog 184 #[.int .i64 x,.int .i64 y] w fun e w'=>e=.returned (.int .i64 (Lib.compareInt x y))∧w'=w:=Any.cmp_Compare_int Tryz.lays122 x y w
def Tryz.lays283_ren:Go.Shelf.Ren:=⟨fun | 283=>224 | n=>n,fun | 3=>3 | 9=>9 | 4=>4 | n=>n,fun | n=>n⟩
theorem Tryz.lays283:Go.Proofs.Lays.n283 Tryz.prog Tryz.lays283_ren:={
 mixed:=by kernel_rfl
 f283:=Tryz.func224.trans (congrArg some (by kernel_rfl))
 t3:=Tryz.underlying3
 a3:=Tryz.isAgg3
 z3:=Tryz.sizeOf3
 v3:=Tryz.zeroValue3
 t4:=Tryz.underlying4
 a4:=Tryz.isAgg4
 z4:=Tryz.sizeOf4
 v4:=Tryz.zeroValue4
 t9:=Tryz.underlying9
 a9:=Tryz.isAgg9
 z9:=Tryz.sizeOf9
 v9:=Tryz.zeroValue9 }
open Go.Lib in
theorem Tryz.internal_strconv_small (i:Nat) (h:i < 100) (w:World) :
  Calls Tryz.prog 224 #[.int .i64 i] w fun e w'=>e=.returned (.string ⟨(Lib.decDigits i).toArray⟩)∧w'=w:=Any.internal_strconv_small Tryz.lays283 i h w
def Tryz.laysM284_ren:Go.Shelf.Ren:=⟨fun | 284=>225 | 129=>235 | 317=>234 | 318=>236 | n=>n,fun | 53=>153 | 3=>3 | 212=>234 | 0=>0 | 4=>4 | 46=>95 | 5=>5 | 9=>9 | n=>n,fun | 17=>1 | n=>n⟩
theorem Tryz.laysM284:Go.Proofs.LaysM.n284 Tryz.prog Tryz.laysM284_ren:={
 mixed:=by kernel_rfl
 f129:=Tryz.func235.trans (congrArg some (by kernel_rfl))
 f284:=Tryz.func225.trans (congrArg some (by kernel_rfl))
 f317:=Tryz.func234.trans (congrArg some (by kernel_rfl))
 f318:=Tryz.func236.trans (congrArg some (by kernel_rfl))
 t0:=Tryz.underlying0
 a0:=Tryz.isAgg0
 z0:=Tryz.sizeOf0
 v0:=Tryz.zeroValue0
 t3:=Tryz.underlying3
 a3:=Tryz.isAgg3
 z3:=Tryz.sizeOf3
 v3:=Tryz.zeroValue3
 t4:=Tryz.underlying4
 a4:=Tryz.isAgg4
 z4:=Tryz.sizeOf4
 v4:=Tryz.zeroValue4
 t5:=Tryz.underlying5
 a5:=Tryz.isAgg5
 z5:=Tryz.sizeOf5
 v5:=Tryz.zeroValue5
 t9:=Tryz.underlying9
 a9:=Tryz.isAgg9
 z9:=Tryz.sizeOf9
 v9:=Tryz.zeroValue9
 t46:=Tryz.underlying95
 a46:=Tryz.isAgg95
 z46:=Tryz.sizeOf95
 v46:=Tryz.zeroValue95
 t53:=Tryz.underlying153
 a53:=Tryz.isAgg153
 z53:=Tryz.sizeOf153
 v53:=Tryz.zeroValue153
 t212:=Tryz.underlying234
 a212:=Tryz.isAgg234
 z212:=Tryz.sizeOf234
 v212:=Tryz.zeroValue234
 g17:=by kernel_rfl
 i0:=by kernel_rfl
 i3:=by kernel_rfl
 i4:=by kernel_rfl
 i5:=by kernel_rfl
 i9:=by kernel_rfl
 i46:=by kernel_rfl
 i53:=by kernel_rfl
 i212:=by kernel_rfl
 m17:=by kernel_rfl }
open Go.Lib in
theorem Tryz.internal_strconv_numDigits (u:Nat) (h1:1≤u) (h2:u < 18446744073709551616) (w:World) (htab:Lib.TabIs Tryz.prog w "internal/strconv.uint64pow10" .u64 Lib.pow10Tab) :
  Calls Tryz.prog 225 #[.int .u64 u] w fun e w'=>e=.returned (.int .i64 (Lib.nDigits u))∧w'=w:=Any.internal_strconv_numDigits Tryz.laysM284 u h1 h2 w htab
def Tryz.lays285_ren:Go.Shelf.Ren:=⟨fun | 285=>226 | n=>n,fun | 37=>191 | 53=>153 | 3=>3 | 4=>4 | 51=>209 | 9=>9 | 5=>5 | 0=>0 | n=>n,fun | n=>n⟩
theorem Tryz.lays285:Go.Proofs.Lays.n285 Tryz.prog Tryz.lays285_ren:={
 mixed:=by kernel_rfl
 f285:=Tryz.func226.trans (congrArg some (by kernel_rfl))
 t0:=Tryz.underlying0
 a0:=Tryz.isAgg0
 z0:=Tryz.sizeOf0
 v0:=Tryz.zeroValue0
 t3:=Tryz.underlying3
 a3:=Tryz.isAgg3
 z3:=Tryz.sizeOf3
 v3:=Tryz.zeroValue3
 t4:=Tryz.underlying4
 a4:=Tryz.isAgg4
 z4:=Tryz.sizeOf4
 v4:=Tryz.zeroValue4
 t5:=Tryz.underlying5
 a5:=Tryz.isAgg5
 z5:=Tryz.sizeOf5
 v5:=Tryz.zeroValue5
 t9:=Tryz.underlying9
 a9:=Tryz.isAgg9
 z9:=Tryz.sizeOf9
 v9:=Tryz.zeroValue9
 t37:=Tryz.underlying191
 a37:=Tryz.isAgg191
 z37:=Tryz.sizeOf191
 v37:=Tryz.zeroValue191
 t51:=Tryz.underlying209
 a51:=Tryz.isAgg209
 z51:=Tryz.sizeOf209
 v51:=Tryz.zeroValue209
 t53:=Tryz.underlying153
 a53:=Tryz.isAgg153
 z53:=Tryz.sizeOf153
 v53:=Tryz.zeroValue153 }
open Go.RowKit Go.Sort Go.Lib in
theorem Tryz.internal_strconv_formatBase10 (blk off cap:Nat) (u:Nat) (d:Array UInt8) (w:World) (hH:Holds (fun (b:UInt8)=>Value.int .u8 (b.toNat:Int)) w blk off d) (hu:u < 10 ^ d.size) (hu64:u < 18446744073709551616) (hsz:d.size < 4611686018427387904) :
  Calls Tryz.prog 226 #[.slice (some ⟨blk,off,none⟩) d.size cap,.int .u64 u] w fun e w' =>
   e=.returned (.tuple #[])∧∃ (n v':Nat) (dk:Array UInt8),w'=(putRow (fun (b:UInt8)=>Value.int .u8 (b.toNat:Int)) w blk off dk).drewN n∧FmtInv d.size u 0 v' dk:=Any.internal_strconv_formatBase10 Tryz.lays285 blk off cap u d w hH hu hu64 hsz
def Tryz.lays217_ren:Go.Shelf.Ren:=⟨fun | 217=>218 | 266=>231 | n=>n,fun | 9=>9 | 5=>5 | 3=>3 | n=>n,fun | n=>n⟩
theorem Tryz.lays217:Go.Proofs.Lays.n217 Tryz.prog Tryz.lays217_ren:={
 mixed:=by kernel_rfl
 f217:=Tryz.func218.trans (congrArg some (by kernel_rfl))
 f266:=Tryz.func231.trans (congrArg some (by kernel_rfl))
 t3:=Tryz.underlying3
 a3:=Tryz.isAgg3
 z3:=Tryz.sizeOf3
 v3:=Tryz.zeroValue3
 t5:=Tryz.underlying5
 a5:=Tryz.isAgg5
 z5:=Tryz.sizeOf5
 v5:=Tryz.zeroValue5
 t9:=Tryz.underlying9
 a9:=Tryz.isAgg9
 z9:=Tryz.sizeOf9
 v9:=Tryz.zeroValue9 }
open Go.RowKit Go.Lib in
theorem Tryz.stringslite_IndexByte (s:ByteArray) (c:Int) (w:World) :
  Calls Tryz.prog 218 #[.string s,.int .u8 c] w fun e w'=>e=.returned (.int .i64 (Lib.indexByte s.data.toList c.toNat.toUInt8))∧w'=w:=Any.stringslite_IndexByte Tryz.lays217 s c w
def Tryz.lays105_ren:Go.Shelf.Ren:=⟨fun | 105=>188 | 212=>163 | 99=>209 | 165=>210 | 166=>187 | 170=>211 | 169=>189 | 263=>196 | 264=>197 | 206=>201 | 240=>208 | 241=>229 | 276=>228 | 277=>239 | n=>n,fun | 9=>9 | 3=>3 | 4=>4 | 20=>20 | 0=>0 | 46=>95 | 109=>181 | 5=>5 | 72=>200 | 76=>204 | 51=>209 | 146=>210 | 53=>153 | 148=>212 | 70=>198 | 37=>191 | 75=>203 | 127=>223 | 164=>230 | 80=>175 | n=>n,fun | n=>n⟩
theorem Tryz.lays105:Go.Proofs.Lays.n105 Tryz.prog Tryz.lays105_ren:={
 mixed:=by kernel_rfl
 f99:=Tryz.func209.trans (congrArg some (by kernel_rfl))
 f105:=Tryz.func188.trans (congrArg some (by kernel_rfl))
 f165:=Tryz.func210.trans (congrArg some (by kernel_rfl))
 f166:=Tryz.func187.trans (congrArg some (by kernel_rfl))
 f169:=Tryz.func189.trans (congrArg some (by kernel_rfl))
 f170:=Tryz.func211.trans (congrArg some (by kernel_rfl))
 f206:=Tryz.func201.trans (congrArg some (by kernel_rfl))
 f212:=Tryz.func163.trans (congrArg some (by kernel_rfl))
 f240:=Tryz.func208.trans (congrArg some (by kernel_rfl))
 f241:=Tryz.func229.trans (congrArg some (by kernel_rfl))
 f263:=Tryz.func196.trans (congrArg some (by kernel_rfl))
 f264:=Tryz.func197.trans (congrArg some (by kernel_rfl))
 f276:=Tryz.func228.trans (congrArg some (by kernel_rfl))
 f277:=Tryz.func239.trans (congrArg some (by kernel_rfl))
 t0:=Tryz.underlying0
 a0:=Tryz.isAgg0
 z0:=Tryz.sizeOf0
 v0:=Tryz.zeroValue0
 t3:=Tryz.underlying3
 a3:=Tryz.isAgg3
 z3:=Tryz.sizeOf3
 v3:=Tryz.zeroValue3
 t4:=Tryz.underlying4
 a4:=Tryz.isAgg4
 z4:=Tryz.sizeOf4
 v4:=Tryz.zeroValue4
 t5:=Tryz.underlying5
 a5:=Tryz.isAgg5
 z5:=Tryz.sizeOf5
 v5:=Tryz.zeroValue5
 t9:=Tryz.underlying9
 a9:=Tryz.isAgg9
 z9:=Tryz.sizeOf9
 v9:=Tryz.zeroValue9
 t20:=Tryz.underlying20
 a20:=Tryz.isAgg20
 z20:=Tryz.sizeOf20
 v20:=Tryz.zeroValue20
 t37:=Tryz.underlying191
 a37:=Tryz.isAgg191
 z37:=Tryz.sizeOf191
 v37:=Tryz.zeroValue191
 t46:=Tryz.underlying95
 a46:=Tryz.isAgg95
 z46:=Tryz.sizeOf95
 v46:=Tryz.zeroValue95
 t51:=Tryz.underlying209
 a51:=Tryz.isAgg209
 z51:=Tryz.sizeOf209
 v51:=Tryz.zeroValue209
 t53:=Tryz.underlying153
 a53:=Tryz.isAgg153
 z53:=Tryz.sizeOf153
 v53:=Tryz.zeroValue153
 t70:=Tryz.underlying198
 a70:=Tryz.isAgg198
 z70:=Tryz.sizeOf198
 v70:=Tryz.zeroValue198
 t72:=Tryz.underlying200
 a72:=Tryz.isAgg200
 z72:=Tryz.sizeOf200
 v72:=Tryz.zeroValue200
 t75:=Tryz.underlying203
 a75:=Tryz.isAgg203
 z75:=Tryz.sizeOf203
 v75:=Tryz.zeroValue203
 t76:=Tryz.underlying204
 a76:=Tryz.isAgg204
 z76:=Tryz.sizeOf204
 v76:=Tryz.zeroValue204
 t109:=Tryz.underlying181
 a109:=Tryz.isAgg181
 z109:=Tryz.sizeOf181
 v109:=Tryz.zeroValue181
 t127:=Tryz.underlying223
 a127:=Tryz.isAgg223
 z127:=Tryz.sizeOf223
 v127:=Tryz.zeroValue223
 t146:=Tryz.underlying210
 a146:=Tryz.isAgg210
 z146:=Tryz.sizeOf210
 v146:=Tryz.zeroValue210
 t148:=Tryz.underlying212
 a148:=Tryz.isAgg212
 z148:=Tryz.sizeOf212
 v148:=Tryz.zeroValue212
 t164:=Tryz.underlying230
 a164:=Tryz.isAgg230
 z164:=Tryz.sizeOf230
 v164:=Tryz.zeroValue230 }
theorem Tryz.Builder_Extra_105:Builder.Extra Tryz.prog Tryz.lays105_ren:={
 sizeBuilder:=by kernel_rfl
 liesBuilder:=by kernel_rfl
 t5:=Tryz.underlying5
 a5:=Tryz.isAgg5
 z5:=Tryz.sizeOf5
 v5:=Tryz.zeroValue5
 infoByte:=by kernel_rfl
 cellsByte:=by kernel_rfl
 sizeByte:=by kernel_rfl
 neB5:=by decide }
open Go.RowKit Go.Lib in
theorem Tryz.strings_Repeat (s:ByteArray) (c:Nat) (w:World) (hc:c≤9223372036854775807) (hlen:s.size*c≤140737488355328) :
  Calls Tryz.prog 188 #[.string s,.int .i64 c] w fun e w'=>e=.returned (.string ⟨(Lib.repeatL s.data.toList c).toArray⟩)∧Below w.heap.size w w':=Any.strings_Repeat Tryz.lays105 Tryz.Builder_Extra_105 s c w hc hlen
open Go.RowKit Go.Lib in
theorem Tryz.lays166:Go.Proofs.Lays.n166 Tryz.prog Tryz.lays105_ren:={ Tryz.lays105 with }
open Go.RowKit in
theorem Tryz.Builder_WriteString (B b:Nat) (bs:List Value) (s:ByteArray) (w:World) (h:Lib.IsBuilder 200 5 B b bs w) (hlen:bs.length+s.size≤140737488355328) (hBw:B≤w.heap.size) :
  Calls Tryz.prog 187 #[.pointer (some ⟨b,0,none⟩),.string s] w fun e w'=>e=.returned (.tuple #[.int .i64 s.size,.nilIface])∧(Lib.BuilderAt 200 5 B b (.pointer (some ⟨b,0,none⟩)) (bs++Lib.strCells s) w'∧Below B w w') :=
 Any.Builder_WriteString Tryz.lays166 Tryz.Builder_Extra_105 B b bs s w h hlen hBw
end Go.Proofs
namespace Go.Proofs.YtjekapjbigfkbaaGreatDoor
set_option maxRecDepth 100000
set_option linter.unusedSimpArgs false
set_option linter.unusedVariables false
set_option linter.unusedSectionVars false
set_option maxHeartbeats 16000000
open Go Tryz
section
open Go.RowKit
def cmpN (m n:Nat):Int:=if m<n then -1 else if n<m then 1 else 0
theorem z4k {m n:Nat} (h:m<n):cmpN m n=-1:=by unfold cmpN;rw[if_pos h]
theorem z6k {m n:Nat} (h:n<m):cmpN m n=1:=by unfold cmpN;rw[if_neg (by omega),if_pos h]
theorem z8k {m n:Nat} (h:m=n):cmpN m n=0:=by unfold cmpN;rw[if_neg (by omega),if_neg (by omega)]
theorem y6q (x:Int) (w:World):Calls prog 206 #[.int .u64 x] w fun e w'=>e=.returned (.bool false)/\w=w':=by
 have h:(x != x)=false:=by simp
 go_enter func206,ntmps206
 go_wp2;go_ret;exact⟨rfl,rfl⟩
theorem x4g (x y:Nat) (w:World):Calls prog 185 #[.int .u64 (x:Int),.int .u64 (y:Int)] w fun e w'=>e=.returned (.int .i64 (cmpN x y))/\w=w':=by
 rcases Nat.lt_trichotomy x y with h|h|h
 ·have c:=z4k h;have d:=qh c;clear c
  go_enter func185,ntmps185
  go_wp2_with (go_at_call 206;refine(y6q _ _).mono ?_;rintro e w' ⟨rfl,rfl⟩)
  go_ret;exact⟨z4x d.out.symm,rfl⟩
 ·subst h;have c:=z8k (rfl:x=x);have d:=qh c;clear c
  go_enter func185,ntmps185
  go_wp2_with (go_at_call 206;refine(y6q _ _).mono ?_;rintro e w' ⟨rfl,rfl⟩)
  go_ret;exact⟨z4x d.out.symm,rfl⟩
 have c:=z6k h;have d:=qh c;clear c
 go_enter func185,ntmps185
 go_wp2_with (go_at_call 206;refine(y6q _ _).mono ?_;rintro e w' ⟨rfl,rfl⟩)
 go_ret;exact⟨z4x d.out.symm,rfl⟩
theorem y1t (xs:List Nat) (k i:Nat):nth (xs.drop k) i=nth xs (k+i):=by simp[nth,List.getD_eq_getElem?_getD]
theorem y7t (xs:List Nat) (j:Nat):bval xs=bval (xs.take j)+BB ^ j*nth xs j+BB ^ (j+1)*bval (xs.drop (j+1)):=by
 rw[<- z0n];by_cases h:j+1<=xs.length
 ·have:=z5f (xs.take (j+1)) (xs.drop (j+1));rw[List.take_append_drop,List.length_take,Nat.min_eq_left h] at this;exact this
 rw[List.take_of_length_le (by omega),List.drop_of_length_le (by omega)];simp[bval]
theorem y3p {xs c:List Nat} (g:xs.length=c.length) (h:∀ j,j<xs.length->nth xs j=nth c j):xs=c:=by
 apply List.ext_getElem g
 intro i d k;have:=h i d;rw[z5u xs i d,z5u c i k] at this;exact this
theorem y7j {xs c:List Nat} (g:Small xs) (h:xs.length=c.length) (j:Nat) (k:∀ i,j<i->i<xs.length->nth xs i=nth c i) (d:nth xs j<nth c j):bval xs<bval c:=by
 rw[y7t xs j,y7t c j];have e:xs.drop (j+1)=c.drop (j+1):=y3p (by simp[h]) (fun i hi=>by
  rw[y1t,y1t];rw[List.length_drop] at hi;exact k _ (by omega) (by omega))
 rw[e];have o:bval (xs.take j)<BB ^ j:=Nat.lt_of_lt_of_le (z4e (z5b g j)) (Nat.pow_le_pow_right z2e (by rw[List.length_take];omega));have l:BB ^ j*(nth xs j+1)<=BB ^ j*nth c j:=Nat.mul_le_mul_left _ d;rw[Nat.mul_add] at l;omega
theorem x0n {m n:Nat} (h:(toB m).length<(toB n).length):m<n:=by
 rcases Nat.lt_or_ge m n with c|c
 ·exact c
 have:=z2t c;omega
def CmpEnd (m n:Nat) (w:World) (e:Ending) (w':World):Prop:=e=.returned (.int .i64 (cmpN m n))/\Below w.heap.size w w'
theorem cmpint (x y:Nat) (w:World):Calls prog 184 #[.int .i64 (x:Int),.int .i64 (y:Int)] w fun e w'=>e=.returned (.int .i64 (cmpN x y))/\w=w':=by
 refine(Tryz.cmp_Compare_int x y w).mono fun e w' h=>⟨?_,h.2.symm⟩;rw[h.1]
 apply z4x
 unfold Lib.compareInt cmpN
 repeat' split
 all_goals first|rfl|omega
theorem z6f (Q X:Value) (m n:Nat) (w:World) (T:Sl w .u64 Q (toB m)) (Y:Sl w .u64 X (toB n)) :
  Calls prog 150 #[Q,X] w (CmpEnd m n w):=by
 obtain⟨ax,cx,bx,ox,rfl,u,W,G,K,c⟩:=T.open;obtain⟨ay,cy,O,oy,rfl,v,S,H,P,d⟩:=Y.open;unfold maxLen at G H;clear T Y;by_cases J:(toB m).length=(toB n).length
 ·have E:(((toB m).length:Int) != ((toB n).length:Int))=false:=by rw[J];simp
  go_enter func150,ntmps150
  have s:=qh J;clear J;go_wp2;clear E
  go_loopw [19] (fun i wr=>∃ k:Nat,k<=(toB m).length/\i=.int .i64 k/\(∀ j,(toB m).length-1-k<j->j<(toB m).length->nth (toB m) j=nth (toB n) j)/\(k=(toB m).length->0<k->nth (toB m) 0=nth (toB n) 0)/\Below w.heap.size w wr) (fun i _=>(toB m).length-(intOf i).toNat)
  case atStart=>exact⟨0,Nat.zero_le _,rfl,fun j z A=>by omega,fun _ h=>absurd h (Nat.lt_irrefl _),Below.refl _ _⟩
  obtain⟨k,hk,rfl,D,o,hb⟩:=hrel;have I:=qh D;clear D;have N:=qh o;clear o;have B:=qh hb;clear hb;by_cases a1:k<(toB m).length
  ·obtain rfl:=u (by omega);obtain rfl:=v (by have:=s.out;omega);have c1:=(B.out.cell (p:=⟨bx,ox+((toB m).length-1-k),none⟩) (K (by omega))).trans (c ((toB m).length-1-k) (by omega));have c2:=(B.out.cell (p:=⟨O,oy+((toB m).length-1-k),none⟩) (P (by have:=s.out;omega))).trans (d ((toB m).length-1-k) (by have:=s.out;omega));have U:(((toB m).length:Int)-1-(k:Int))<((toB n).length:Int):=by have:=s.out;omega
   have R:0<=(((toB m).length:Int)-1-(k:Int)):=by omega
   clear u v c d
   rcases Nat.lt_trichotomy (nth (toB m) ((toB m).length-1-k)) (nth (toB n) ((toB m).length-1-k)) with g|g|g
   ·have r:=z4k g;have l:cmpN m n=-1:=z4k (by
     have:=y7j (z1b m) s.out ((toB m).length-1-k) (fun i z A=>I.out i z A) g
     rwa [z1h,z1h] at this)
    clear g;have C:=qh l;clear l;have F:=qh r;clear r
    go_wp2_with fail
    go_quiet ((go_at_call 185;exact Calls.quiet_of_same ((x4g _ _ _).mono fun e L h=>⟨by rw[h.1,F.out],h.2.symm⟩)))
    go_wp2;go_ret;exact⟨z4x C.out.symm,below_drewN B.out _⟩
   ·have r:=z8k g;have Z:=qh g;clear g;have F:=qh r;clear r
    go_wp2_with fail
    go_quiet ((go_at_call 185;exact Calls.quiet_of_same ((x4g _ _ _).mono fun e L h=>⟨by rw[h.1,F.out],h.2.symm⟩)))
    go_wp2;go_roundw
    case rel =>
     refine⟨k+1,by omega,by go_num,fun j z A=>?_,fun z _=>?_,below_drewN B.out _⟩
     ·by_cases e:j=(toB m).length-1-k
      ·rw[e];exact Z.out
      exact I.out j (by omega) A
     have:=Z.out
     rwa [show (toB m).length-1-k=0 by omega] at this
    simp[intOf];omega
   have r:=z6k g;have l:cmpN m n=1:=z6k (by
    have:=y7j (z1b n) s.out.symm ((toB m).length-1-k) (fun i z A=>(I.out i z (by rw[s.out];exact A)).symm) g
    rwa [z1h,z1h] at this)
   clear g;have C:=qh l;clear l;have F:=qh r;clear r
   go_wp2_with fail
   go_quiet ((go_at_call 185;exact Calls.quiet_of_same ((x4g _ _ _).mono fun e L h=>⟨by rw[h.1,F.out],h.2.symm⟩)))
   go_wp2;go_ret;exact⟨z4x C.out.symm,below_drewN B.out _⟩
  go_wp2_with fail
  go_ret;have l:cmpN m n=0:=z8k (by
   have e:toB m=toB n:=y3p s.out (fun j hj=>by
    by_cases h0:j=0
    ·subst h0;exact N.out (by omega) (by omega)
    exact I.out j (by omega) hj)
   rw[<- z1h m,e,z1h])
  exact⟨z4x l.symm,B.out⟩
 have E:(((toB m).length:Int) != ((toB n).length:Int))=true:=by rw[bne_iff_ne];omega
 have l:cmpN (toB m).length (toB n).length=cmpN m n:=by
  rcases Nat.lt_or_ge (toB m).length (toB n).length with h|h
  ·rw[z4k h,z4k (x0n h)]
  rw[z6k (show (toB n).length<(toB m).length by omega),z6k (x0n (by omega))]
 have C:=qh l;clear l;clear J u v c d
 go_enter func150,ntmps150
 go_wp2_with (go_at_call 184;refine(cmpint _ _ _).mono ?_;rintro e L ⟨rfl,rfl⟩)
 go_ret;exact⟨z4x C.out,Below.refl _ _⟩
end
section
def padj:Nat->Nat->List UInt8|0,_=>[] | j+1,b=>padj j (b / 10)++[UInt8.ofNat (48+b % 10)]
theorem u2q (j:Nat):∀ (n b:Nat),1<=n->b<10 ^ j->dec (n*10 ^ j+b)=dec n++padj j b:=by
 induction j with
 | zero=>intro n b _ hb;simp at hb;subst hb;simp[padj]
 | succ j ih =>
  intro n b c hb;have g:10<=n*10 ^ (j+1)+b:=by
   have:1*10 ^ (j+1)<=n*10 ^ (j+1):=Nat.mul_le_mul_right _ c;have:1<=10 ^ j:=Nat.pow_pos (by omega);rw[Nat.pow_succ] at *;omega
  rw[y0k (by omega)];have d:(n*10 ^ (j+1)+b) / 10=n*10 ^ j+b / 10:=by rw[Nat.pow_succ,<- Nat.mul_assoc];omega
  have e2:(n*10 ^ (j+1)+b) % 10=b % 10:=by rw[Nat.pow_succ,<- Nat.mul_assoc];omega
  rw[d,e2,ih n (b / 10) c (by rw[Nat.pow_succ] at hb;omega)];simp[padj]
theorem v1a (j:Nat):padj j 0=List.replicate j 48:=by
 induction j with
 | zero=>rfl
 | succ j ih=>simp only[padj,Nat.zero_div,Nat.zero_mod,ih];rw[List.replicate_succ'];rfl
theorem u1g (j:Nat):∀ b,1<=j->b<10 ^ j->padj j b=List.replicate (j-(dec b).length) 48++dec b:=by
 induction j with
 | zero=>intro b h;omega
 | succ j ih =>
  intro b _ hb;by_cases h:b<10
  ·simp only[padj];rw[z1m h,Nat.div_eq_of_lt h,v1a,Nat.mod_eq_of_lt h];simp
  have d:1<=j:=by
   rcases Nat.eq_zero_or_pos j with c|c
   ·subst c;simp at hb;omega
   exact c
  simp only[padj];rw[ih (b / 10) d (by rw[Nat.pow_succ] at hb;omega),y0k h];simp
theorem v2x {n b:Nat} (hn:1<=n) (hb:b<BB):dec (b+BB*n)=dec n++(List.replicate (9-(dec b).length) 48++dec b):=by
 rw[z0u] at *;have h:b+1000000000*n=n*10 ^ 9+b:=by omega
 rw[h,u2q 9 n b hn (by omega),u1g 9 b (by omega) (by omega)]
theorem v5y {b:Nat} (hb:b<BB):(dec b).length<=9:=by rw[z0u] at hb;exact z1p.2 ⟨by omega,by omega⟩
noncomputable def topB (n k:Nat):List UInt8:=if k=0 then [] else dec (bval ((toB n).drop ((toB n).length-k)))
theorem x1c (n:Nat):topB n 0=[]:=rfl
theorem y5d (xs:List Nat) (k:Nat) (c:k<xs.length):bval (xs.drop (xs.length-(k+1)))=nth xs (xs.length-1-k)+BB*bval (xs.drop (xs.length-k)):=by
 rw[List.drop_eq_getElem_cons (by omega),show xs.length-(k+1)+1=xs.length-k by omega];simp only[bval];rw[z5u xs _ (by omega)]
 congr 2
 omega
theorem v8h (n:Nat) (h:n≠0):topB n 1=dec (nth (toB n) ((toB n).length-1)):=by
 have:=y3v h;unfold topB;rw[if_neg (by omega),y5d (toB n) 0 (by omega),Nat.sub_zero,Nat.sub_zero,List.drop_length];simp[bval]
theorem v6n (n:Nat) (h:n≠0) (k:Nat) (g:1<=k) (d:k<=(toB n).length):1<=bval ((toB n).drop ((toB n).length-k)):=by
 induction k with
 | zero=>omega
 | succ k ih =>
  rw[y5d (toB n) k d]
  rcases Nat.eq_zero_or_pos k with c|c
  ·subst c;rw[Nat.sub_zero];have:=y9v h;omega
  have:=ih c (by omega);have:BB*1<=BB*bval ((toB n).drop ((toB n).length-k)):=Nat.mul_le_mul_left _ this;have:=z2e;omega
theorem v1q (n:Nat) (h:n≠0) (k:Nat) (d:1<=k) (c:k<(toB n).length) :
  topB n (k+1)=topB n k++(List.replicate (9-(dec (nth (toB n) ((toB n).length-1-k))).length) 48++dec (nth (toB n) ((toB n).length-1-k))):=by
 unfold topB;rw[if_neg (by omega),if_neg (by omega),y5d (toB n) k c,v2x (v6n n h k d (by omega)) (z1b n _)]
theorem x5z (n:Nat) (h:n≠0):topB n (toB n).length=dec n:=by
 have:=y3v h;unfold topB;rw[if_neg (by omega),Nat.sub_self,List.drop_zero,z1h]
theorem x4v (n k:Nat):(topB n k).length<=9*k:=by
 unfold topB
 split
 ·simp
 have d:Small ((toB n).drop ((toB n).length-k)):=fun i=>by rw[y1t];exact z1b n _
 have c:=z4e d;refine z1p.2 ⟨Nat.lt_of_lt_of_le c ?_,by omega⟩;rw[pow9];exact Nat.pow_le_pow_right z2e (by rw[List.length_drop];omega)
end
section
open Go.RowKit Go.Sort
def Tab (w:World):Prop:=Lib.TabIs prog w "internal/strconv.uint64pow10" .u64 Lib.pow10Tab
theorem Tab.below {B:Nat} {w c:World} (h:Tab w) (hb:Below B w c) (d:w.heap.size<=B):Tab c:=(Lib.tabBelow_of_tabIs h) c (hb.mono d)
theorem below_grow {B:Nat} {a w:World} (h:Below B a w) (os:Array Obj) (d:B<=w.heap.size):Below B a (grow w os) :=
 h.trans ⟨rfl,rfl,rfl,by simp[grow],fun k c=>by
  show (w.heap++os)[k]?=_;rw[Array.getElem?_append_left (by omega)]⟩
abbrev encB:UInt8->Value:=fun b=>.int .u8 (b.toNat:Int)
theorem holds_zero0 (w:World) (T:TypeId) (c:Nat) (h:c<=24):Holds encB (w.alloc (.cells Lib.zeros24 T)) w.heap.size 0 (Array.replicate c (0:UInt8)):=fun j d=>by
 have g:j<c:=by simpa using d
 refine⟨?_,World.frozen?_alloc_new _ _ _ _⟩;rw[World.cell?_alloc_new,Lib.zeros24_at _ (by omega),getElem!_pos _ j d];simp
theorem v7y (w:World) (o:Obj) (d:Array UInt8) (k:Nat):∃ os,(putRow encB (w.alloc o) w.heap.size 0 d).drewN k=grow (w.drewN k) os:=by
 rw[alloc_eq_grow];obtain⟨c,_,e⟩:=putRow_grow_new encB w #[o] w.heap.size 0 d (Nat.le_refl _);exact⟨c,by rw[e];rfl⟩
set_option maxRecDepth 100000 in
theorem v2v (u:Nat) (v:u<18446744073709551616) (w:World) (d:Tab w) :
  Calls prog 207 #[.int .u64 (u:Int),.int .i64 10] w fun e w'=>e=.returned (.string (str (dec u)))/\Below w.heap.size w w':=by
 by_cases D:u<100
 ·go_enter func207,ntmps207
  go_wp2_with (go_at_call 224;refine(Tryz.internal_strconv_small u D _).mono ?_;rintro e w' ⟨rfl,rfl⟩)
  go_ret;exact⟨rfl,Below.refl _ _⟩
 have p:1<=u:=by omega
 have r:Lib.nDigits u<=20:=Lib.nDigits_le20 u v;have i:prog.arrayLen 225=24:=by simp[Program.arrayLen,underlying225]
 have A:∀ W,(Instr.sliceAt 225 (.pointer (some ⟨w.heap.size,0,none⟩)) none (some (.int .i64 (Lib.nDigits u:Int))) none).run prog W=.ok (.slice (some ⟨w.heap.size,0,none⟩) (Lib.nDigits u) 24) W:=fun W=>by
  rw[run_sliceAt_array_h W 225 ⟨w.heap.size,0,none⟩ (by simp[Program.arrayLen,Program.elem,underlying225]) .i64 (Lib.nDigits u:Int) (by omega) (by rw[i];omega)];go_simp
 have g:=holds_zero0 w 225 (Lib.nDigits u) (by omega);have c:=Tryz.internal_strconv_formatBase10 w.heap.size 0 24 u (Array.replicate (Lib.nDigits u) 0) (w.alloc (.cells Lib.zeros24 225)) g (by rw[Array.size_replicate];exact Lib.lt_pow_nDigits u) v (by rw[Array.size_replicate];omega);rw[Array.size_replicate] at c;have s:=qh g;clear g i;have C:=qh d;clear d
 go_enter func207,ntmps207
 go_wp2_with (go_at_call 225;refine(Tryz.internal_strconv_numDigits u p v _ (Lib.tabIs_alloc C.out _)).mono ?_;rintro e w' ⟨rfl,rfl⟩)
 refine c.mono ?_;rintro e w' ⟨rfl,k,F,l,rfl,o⟩;have B:(convert 191 9 (.slice (some ⟨w.heap.size,0,none⟩) (Lib.nDigits u) 24)).run prog ((putRow encB (w.alloc (.cells Lib.zeros24 225)) w.heap.size 0 l).drewN k)=.ok (.string ⟨(Lib.decDigits u).toArray⟩) ((putRow encB (w.alloc (.cells Lib.zeros24 225)) w.heap.size 0 l).drewN k):=by
  have h:=run_convert_bytes_back (P:=prog) ((putRow encB (w.alloc (.cells Lib.zeros24 225)) w.heap.size 0 l).drewN k) 191 9 5 ⟨w.heap.size,0,none⟩ 24 (Lib.decDigits u) underlying191 underlying5 underlying9 (fun j z=>by
   rw[Lib.row_is_numeral o j z,Lib.add_plain,World.cell?_drewN];exact cell?_putRow encB _ w.heap.size 0 _ l s.out (by rw[o.size,Array.size_replicate]) j (by rw[o.size];rw[Lib.decDigits_length] at z;exact z))
  rw[Lib.decDigits_length] at h;exact h
 have G:=qh o;clear o;go_wp2;go_ret;obtain⟨os,E⟩:=v7y w (.cells Lib.zeros24 225) l k;refine⟨rfl,?_⟩;have:=below_grow (below_drewN (Below.refl w.heap.size w) k) os (Nat.le_refl _);rw[<- E] at this;exact this
theorem u0e (u:Nat) (g:u<18446744073709551616) (w:World) (c:Tab w) :
  Calls prog 186 #[.int .u64 (u:Int),.int .i64 10] w fun e w'=>e=.returned (.string (str (dec u)))/\Below w.heap.size w w':=by
 have d:=qh c;clear c
 go_enter func186,ntmps186
 go_wp2_with fail
 refine(v2v u g w d.out).mono ?_;rintro e w' ⟨rfl,hb⟩;have h:=qh hb;clear hb;go_wp2;go_ret;exact⟨rfl,h.out⟩
end
section
open Go.RowKit
abbrev TB:TypeId:=200
abbrev TU8:TypeId:=5
theorem y5w {B b r:Nat} {p:Value} {s:List Value} {w o:World} (h:Lib.BuilderAt TB TU8 B b p s w) (hb:Below r w o) (E:w.heap.size<=r):Lib.BuilderAt TB TU8 B b p s o:=by
 obtain⟨z,v,u,c,k⟩:=h;have C:=(Array.getElem?_eq_some_iff.1 u).1;refine⟨z,v,by rw[hb.block b (by omega)];exact u,⟨c.1,?_⟩,k⟩
 rcases c.2 with A|⟨g,l,j,rfl,D,i,d⟩
 ·exact .inl A
 have:=(Array.getElem?_eq_some_iff.1 i).1;exact .inr ⟨g,l,j,rfl,D,by rw[hb.block g (by omega)];exact i,d⟩
theorem y1b {B b g:Nat} {i:List Value} {w d:World} (h:Lib.IsBuilder TB TU8 B b i w) (hb:Below g w d) (c:w.heap.size<=g):Lib.IsBuilder TB TU8 B b i d:=by
 rcases h with h|h
 ·exact .inl (y5w h hb c)
 exact .inr (y5w h hb c)
theorem byteCells_append (l r:List UInt8):Lib.byteCells l++Lib.byteCells r=Lib.byteCells (l++r):=by simp[Lib.byteCells]
theorem z6w (l:List UInt8):Lib.strCells (str l)=Lib.byteCells l:=by simp[Lib.strCells,Lib.byteCells,str]
def TextEnd (n:Nat) (w:World) (e:Ending) (w':World):Prop:=e=.returned (.string (str (dec n)))/\Below w.heap.size w w'
theorem v1v (c:Value) (w:World) (d:Sl w .u64 c (toB 0)):Calls prog 151 #[c] w (TextEnd 0 w):=by
 obtain⟨i,h,rfl⟩:=d.shape;have g:(toB 0).length=0:=rfl;rw[g];clear g d
 go_enter func151,ntmps151
 go_wp2;go_ret;exact⟨y2k (by rw[z1m (by omega)];rfl),Below.refl _ _⟩
theorem v2z (w:World):Lib.IsBuilder TB TU8 w.heap.size w.heap.size (Lib.byteCells []) (w.alloc (.cells #[.pointer none,.slice none 0 0] TB)) :=
 .inl ⟨Nat.le_refl _,.slice none 0 0,Go.heap_alloc_new w _,World.ownsRow_nil _ _ _ _,by simp[Value.ownBlock]⟩
theorem rep48 (c:Nat):(⟨(Lib.repeatL (⟨#[48]⟩:ByteArray).data.toList c).toArray⟩:ByteArray)=str (List.replicate c 48):=by
 have:=Lib.repeatL_replicate 48 1 c;simp at this;show str (Lib.repeatL [48] c)=_;rw[this]
theorem v7r (vx:Value) (n:Nat) (Y:n≠0) (w:World) (E:Sl w .u64 vx (toB n)) (lx:(toB n).length<=100000) (ht:Tab w):Calls prog 151 #[vx] w (TextEnd n w):=by
 obtain⟨ax,cx,bx,ox,rfl,H,a7,T,P,g⟩:=E.open;have hl:=y3v Y;obtain rfl:=H hl;have N:=P hl;have a2:(((toB n).length:Int)==0)=false:=by rw[beq_eq_false_iff_ne];omega
 have HT:=qh ht;clear ht;have H0:=qh Y;clear Y;unfold maxLen at T;clear E H P
 go_enter func151,ntmps151
 go_wp2;clear a2
 go_loopw [11] (fun i wr=>∃ k:Nat,k<=(toB n).length/\i=.int .i64 k/\Lib.IsBuilder TB TU8 w.heap.size w.heap.size (Lib.byteCells (topB n k)) wr/\Below w.heap.size w wr) (fun i _=>(toB n).length-(intOf i).toNat)
 case atStart=>exact⟨0,Nat.zero_le _,rfl,v2z w,(Below.refl _ _).alloc (Nat.le_refl _) _⟩
 obtain⟨k,hk,rfl,v,hb⟩:=hrel;have Z:=qh v;clear v;have F:=qh hb;clear hb;have D:=F.out.size;by_cases a4:k<(toB n).length
 ·have c1:=(F.out.cell (p:=⟨bx,ox+((toB n).length-1-k),none⟩) N).trans (g ((toB n).length-1-k) (by omega));have s:=z1b n ((toB n).length-1-k);have z:=v5y s;have B:=y8t (nth (toB n) ((toB n).length-1-k));have I:0<=(((toB n).length:Int)-1-(k:Int)):=by omega
  obtain⟨x,E⟩:=exq (nth (toB n) ((toB n).length-1-k));rw[<- E] at c1 s z B;have J:=u0e x (by rw[z0u] at s;omega) wr (HT.out.below F.out (Nat.le_refl _));have O:=qh J;clear J;have b1:=x4v n k;have a6:(str (dec x)).size<=9:=by rw[z0s];exact z
  have a8:1<=(str (dec x)).size:=by rw[z0s];exact B
  have HX:=qh E;clear E;clear g s B z;by_cases K:k=0
  ·subst K;rw[Nat.sub_zero] at c1;clear I
   go_wp2_with fail
   refine O.out.mono ?_;rintro e W ⟨rfl,c⟩;have j:=y1b Z.out c (Nat.le_refl _);have A:=qh j;clear j;have d:=qh c;clear c;have L:=d.out.size
   go_wp2_with fail
   refine(Tryz.Builder_WriteString w.heap.size w.heap.size _ (str (dec x)) W A.out (by rw[x1c];simp[Lib.byteCells];omega) (by omega)).mono ?_;rintro e w2 ⟨rfl,o,h⟩;have C:=qh o;clear o;have u:=qh h;clear h;go_wp2;go_roundw
   case rel =>
    refine⟨1,by omega,rfl,.inr ?_,F.out.trans ((d.out.mono D).trans u.out)⟩;have:=C.out;rw[x1c,z6w,byteCells_append,HX.out,Nat.sub_zero,List.nil_append] at this;rw[v8h n H0.out];exact this
   simp[intOf];omega
  have b2:0<k:=by omega
  clear K
  go_wp2_with fail
  refine O.out.mono ?_;rintro e W ⟨rfl,c⟩;have j:=y1b Z.out c (Nat.le_refl _);have A:=qh j;clear j;have d:=qh c;clear c;have L:=d.out.size
  go_wp2_with fail
  have e9:(9-((str (dec x)).size:Int))=((9-(str (dec x)).size:Nat):Int):=by omega
  rw[e9];clear e9;refine(Tryz.strings_Repeat ⟨#[48]⟩ (9-(str (dec x)).size) W (by omega) (by show 1*(9-(str (dec x)).size)<=140737488355328;omega)).mono ?_;rintro e w2 ⟨rfl,h⟩;rw[rep48];have R:=y1b A.out h (Nat.le_refl _);have C:=qh R;clear R;have u:=qh h;clear h;have a9:=u.out.size
  go_wp2_with fail
  refine(Tryz.Builder_WriteString w.heap.size w.heap.size _ (str (List.replicate (9-(str (dec x)).size) 48)) w2 C.out (by rw[Lib.byteCells_length,z0s,List.length_replicate];omega) (by omega)).mono ?_;rintro e w3 ⟨rfl,l,U⟩;have X:=qh l;clear l;have Q:=qh U;clear U;have b0:=Q.out.size
  go_wp2_with fail
  refine(Tryz.Builder_WriteString w.heap.size w.heap.size _ (str (dec x)) w3 (.inr X.out) (by rw[List.length_append,Lib.byteCells_length,z6w,Lib.byteCells_length,List.length_replicate];omega) (by omega)).mono ?_;rintro e w4 ⟨rfl,r,S⟩;have a3:=qh r;clear r;have a1:=qh S;clear S;go_wp2;go_roundw
  case rel =>
   refine⟨k+1,by omega,by go_num,.inr ?_,F.out.trans ((d.out.mono D).trans ((u.out.mono (by omega)).trans (Q.out.trans a1.out)))⟩;have:=a3.out;rw[z6w,z6w,byteCells_append,byteCells_append,z0s,List.append_assoc,HX.out] at this;rw[v1q n H0.out k (by omega) a4];exact this
  simp[intOf];omega
 go_wp2_with fail
 have G:k=(toB n).length:=by omega
 refine(Tryz.Builder_String_any w.heap.size w.heap.size (topB n k) wr Z.out D).mono ?_;rintro e W ⟨rfl,c⟩;have a5:=qh G;clear G;have d:=qh c;clear c;go_wp2;go_ret;exact⟨y2k (by rw[a5.out,x5z n H0.out];rfl),F.out.trans d.out⟩
theorem y1s (c:Value) (n:Nat) (w:World) (d:Sl w .u64 c (toB n)) (lx:(toB n).length<=100000) (h:Tab w):Calls prog 151 #[c] w (TextEnd n w):=by
 by_cases g:n=0
 ·subst g;exact v1v c w d
 exact v7r c n g w d lx h
end
section
open Go.RowKit
theorem z9n (s:ByteArray) (h:0<s.size):s.toList.isEmpty=false:=by
 rw[Lib.toList_data];cases c:s.data.toList with
 | nil =>
      have:s.size=0:=by rw[<- z0j,bts,c];rfl
      omega
 | cons a l=>rfl
theorem y2n (s:ByteArray) (h:0<s.size):¬ s.toList=[]:=by
 have:=z9n s h;intro e;rw[e] at this;simp at this
theorem u4x (s:ByteArray) (h:s.size=0):s.toList=[]:=by
 rw[Lib.toList_data];exact List.length_eq_zero_iff.1 (by have:=z0j s;unfold bts at this;omega)
theorem v1f (c:UInt8) (h:c≠48):((c.toNat:Int)==48)=false:=by
 rw[beq_eq_false_iff_ne];intro e;apply h;apply UInt8.toNat_inj.1;show c.toNat=48;omega
theorem x5k {c:UInt8} (g:(48:Int)<=(c.toNat:Int)) (d:(c.toNat:Int)<=57):dgt c=true:=by
 simp[dgt];omega
theorem v9d {c:UInt8} (d:(c.toNat:Int)<48):dgt c=false:=by simp[dgt];omega
theorem v9w {c:UInt8} (d:(57:Int)<(c.toNat:Int)):dgt c=false:=by simp[dgt];omega
theorem x7s (s:ByteArray) (w:World) (l:1<=s.size) (C:s.size<=1000) (u:s.size=1\/(bts s).headD 0≠48) :
  Calls prog 114 #[.string s] w fun e w'=>e=.returned (.bool (dgts (bts s)))/\w=w':=by
 have v:s.toList.isEmpty=false:=z9n s l;have A:¬ s.toList=[]:=y2n s l;have r:0<s.size:=by omega
 have B:decide ((1000:Int)<(s.size:Int))=false:=by simp;omega
 by_cases D:s.size=1
 all_goals
  have g:1<s.size->((s[0].toNat:Int)==48)=false:=fun h=>v1f _ (by
                                            rw[<- z9c s r];rcases u with p|p;· omega
                                            exact p)
  try have E:=g (by omega)
  clear g
  go_enter func114,ntmps114
  go_wp2;clear A v B
  go_loop [23] (fun i=>∃ k:Nat,k<=s.size/\i=.int .i64 k/\dgts ((bts s).take k)=true) (fun i=>s.size-(intOf i).toNat)
  case atStart=>exact⟨0,Nat.zero_le _,rfl,rfl⟩
  obtain⟨k,F,rfl,j⟩:=hrel;have o:=qh j;clear j;by_cases c:k<s.size
  ·go_wp2
   ·have d:(57:Int)<(s[k].toNat:Int):=by omega
    go_ret;exact⟨z0k (z9w s k c (v9w d)).symm,rfl⟩
   ·have d:(48:Int)<=(s[k].toNat:Int):=by omega
    have z:(s[k].toNat:Int)<=57:=by omega
    go_round
    case rel=>exact⟨k+1,by omega,by go_num,by rw[z7r s k c,z5j,o.out,x5k d z];rfl⟩
    simp[intOf];omega
   have d:(s[k].toNat:Int)<48:=by assumption
   go_ret;exact⟨z0k (z9w s k c (v9d d)).symm,rfl⟩
  go_wp2;go_ret;exact⟨z0k (by rw[<- o.out,List.take_of_length_le (by rw[z0j];omega)]),rfl⟩
theorem x9s (s:ByteArray) (w:World) (r:s.size<=maxLen) :
  Calls prog 114 #[.string s] w fun e w'=>e=.returned (.bool (z0w (bts s)))/\w=w':=by
 unfold maxLen at r;by_cases k:s.size=0
 ·have c:z0w (bts s)=false:=by simp[z0w,z0j,k]
  have j:=u4x s k;have g:=qh c;clear c
  go_enter func114,ntmps114
  go_wp2;go_ret;exact⟨z0k g.out.symm,rfl⟩
 by_cases v:1000<s.size
 ·have c:z0w (bts s)=false:=by simp[z0w,z0j];intros;omega
  have g:=qh c;clear c;have c:s.toList.isEmpty=false:=z9n s (by omega);have j:¬ s.toList=[]:=y2n s (by omega)
  go_enter func114,ntmps114
  go_wp2;go_ret;exact⟨z0k g.out.symm,rfl⟩
 by_cases d:s.size=1\/(bts s).headD 0≠48
 ·refine(x7s s w (by omega) (by omega) d).mono fun e w' ⟨p,o⟩=>⟨?_,o⟩;rw[p];have:z0w (bts s)=dgts (bts s):=by
   cases i:dgts (bts s) with
   | false=>simp[z0w,i]
   | true=>exact y4u (by rw[z0j];omega) (by rw[z0j];omega) (by rw[z0j];exact d) i
  rw[this]
 have c:z0w (bts s)=false:=by
  cases u:z0w (bts s) with
  | false=>rfl
  | true=>exact absurd (by have:=(z0m u).2.2.1;rw[z0j] at this;exact this) d
 have g:=qh c;clear c;have l:0<s.size:=by omega
 have c:s.toList.isEmpty=false:=z9n s (by omega);have j:¬ s.toList=[]:=y2n s (by omega);have z:((s[0].toNat:Int)==48)=true:=by
  have:(bts s).headD 0=48:=by
   by_cases h:(bts s).headD 0=48
   ·exact h
   exact absurd (Or.inr h) d
  rw[z9c s l] at this;rw[this];rfl
 have A:1<s.size:=by
  by_cases h:s.size=1
  ·exact absurd (Or.inl h) d
  omega
 have B:decide ((1000:Int)<(s.size:Int))=false:=by simp;omega
 clear d
 go_enter func114,ntmps114
 go_wp2;go_ret;exact⟨z0k g.out.symm,rfl⟩
end
section
open Go.RowKit
def PairEnd (r:ByteArray × Nat) (w:World) (e:Ending) (w':World):Prop:=e=.returned (.tuple #[.string r.1,.int .i64 (r.2:Int)])/\Below w.heap.size w w'
def limS (n:Nat):ByteArray × Nat:=if (dec n).length<=1000 then (str (dec n),0) else (str [],2)
def vld (s:ByteArray):Bool:=z0w (bts s)
def val (s:ByteArray):Nat:=num (bts s)
def addF (s t:ByteArray):ByteArray × Nat:=if vld s&&vld t then limS (val s+val t) else (str [],1)
def subF (s t:ByteArray):ByteArray × Nat:=if vld s&&vld t then (if val s<val t then (str [],4) else (str (dec (val s-val t)),0)) else (str [],1)
def mulF (s t:ByteArray):ByteArray × Nat:=if vld s&&vld t then limS (val s*val t) else (str [],1)
def cmpF (s t:ByteArray):Int:=if vld s&&vld t then cmpN (val s) (val t) else 0
theorem x4u {s c:ByteArray} {a b:Int} (h:s=c) (d:a=b):Ending.returned (.tuple #[.string s,.int .i64 a])=.returned (.tuple #[.string c,.int .i64 b]):=by rw[h,d]
theorem z2d {s:ByteArray} (h:vld s=true):1<=s.size/\s.size<=1000:=by
 obtain⟨d,c,_⟩:=z0m h;rw[z0j] at d c;exact⟨d,c⟩
theorem x6e {s:ByteArray} (h:vld s=true):dgts (bts s)=true:=(z0m h).2.2.2
theorem x8y {l:List UInt8} (h:dgts l=true) (k:Nat) (d:l.length<=9*k):num l<BB ^ k:=by
 have c:10 ^ l.length<=10 ^ (9*k):=Nat.pow_le_pow_right (by omega) d;rw[pow9] at c;exact Nat.lt_of_lt_of_le (v4t _ h) c
theorem v3v {s:ByteArray} (h:vld s=true):val s<BB ^ 112:=x8y (x6e h) 112 (by rw[z0j];have:=z2d h;omega)
theorem z2a {s:ByteArray} (h:vld s=true):(toB (val s)).length<=112:=z7d (v3v h)
theorem z4g (s:ByteArray) (w:World) (c:s.size<=maxLen) :
  Calls prog 114 #[.string s] w fun e w'=>e=.returned (.bool (vld s))/\w=w':=x9s s w c
theorem z5s (s:ByteArray) (w:World) (h:vld s=true):Calls prog 115 #[.string s] w (BlocksEnd (val s) w):=x8v s w (z2d h).2 (x6e h)
theorem y6j (i:Value) (n:Nat) (w:World) (p:Sl w .u64 i (toB n)) (lx:(toB n).length<=100000) (r:Tab w) :
  Calls prog 116 #[i] w (PairEnd (limS n) w):=by
 have d:=x4v n (toB n).length;have o:(dec n).length<=900000\/n=0:=by
  by_cases l:n=0
  ·exact .inr l
  rw[x5z n l] at d;exact .inl (by omega)
 have c:(dec n).length<=900000:=by
  rcases o with h|h
  ·exact h
  subst h;rw[z1m (by omega)];simp
 clear d o;have z:(str (dec n)).size<=900000:=by rw[z0s];exact c
 have k:=y1s i n w p lx r;have s:=qh k;clear k p r lx;by_cases h:(dec n).length<=1000
 ·have g:limS n=(str (dec n),0):=by unfold limS;rw[if_pos h]
  have v:(str (dec n)).size<=1000:=by rw[z0s];exact h
  rw[g];clear g h c
  go_enter func116,ntmps116
  go_wp2_with fail
  refine s.out.mono ?_;rintro e u ⟨rfl,hb⟩;have j:=qh hb;clear hb;go_wp2;go_ret2;exact⟨rfl,j.out⟩
 have g:limS n=(str [],2):=by unfold limS;rw[if_neg h]
 have v:1000<(str (dec n)).size:=by rw[z0s];omega
 rw[g];clear g h c
 go_enter func116,ntmps116
 go_wp2_with fail
 refine s.out.mono ?_;rintro e u ⟨rfl,hb⟩;have j:=qh hb;clear hb;go_wp2;go_ret2;exact⟨rfl,j.out⟩
theorem u0i (s t:ByteArray) (w:World) (L:s.size<=maxLen) (P:t.size<=maxLen) (h:Tab w) :
  Calls prog 111 #[.string s,.string t] w (PairEnd (addF s t) w):=by
 have E:=qh h;clear h;have c1:=z4g s w L;have c2:=z4g t w P;clear L P;cases c:vld s with
 | false =>
  have i:addF s t=(str [],1):=by unfold addF;rw[c];rfl
  rw[i];rw[c] at c1;clear i c c2 E;have k:=qh c1;clear c1
  go_enter func111,ntmps111
  go_wp2_with fail
  refine k.out.mono ?_;rintro e C ⟨rfl,rfl⟩;go_wp2;go_ret2;exact⟨rfl,Below.refl _ _⟩
 | true =>
  cases d:vld t with
  | false =>
   have i:addF s t=(str [],1):=by unfold addF;rw[c,d];rfl
   rw[i];rw[c] at c1;rw[d] at c2;clear i c d E;have k:=qh c1;clear c1;have I:=qh c2;clear c2
   go_enter func111,ntmps111
   go_wp2_with fail
   refine k.out.mono ?_;rintro e C ⟨rfl,rfl⟩
   go_wp2_with fail
   refine I.out.mono ?_;rintro e C ⟨rfl,rfl⟩;go_wp2;go_ret2;exact⟨rfl,Below.refl _ _⟩
  | true =>
   rw[c] at c1;rw[d] at c2;have k:=qh c1;clear c1;have I:=qh c2;clear c2;have lm:=z2a c;have ln:=z2a d;have N:=z5s s w c;have B1:=qh N;clear N;have R:=fun w=>z5s t w d;have Y:=qh R;clear R;have Q:=qh c;clear c;have O:=qh d;clear d;have i:addF s t=limS (val s+val t):=by unfold addF;rw[Q.out,O.out];rfl
   rw[i];clear i
   go_enter func111,ntmps111
   go_wp2_with fail
   refine k.out.mono ?_;rintro e C ⟨rfl,rfl⟩
   go_wp2_with fail
   refine I.out.mono ?_;rintro e C ⟨rfl,rfl⟩
   go_wp2_with fail
   refine B1.out.mono ?_;rintro e w1 ⟨v1,rfl,u,A⟩;have F:=qh u;clear u;have v:=qh A;clear A;have G:=v.out.size
   go_wp2_with fail
   refine(Y.out w1).mono ?_;rintro e w2 ⟨W,rfl,p,r⟩;have D:=qh p;clear p;have j:=qh r;clear r;have Z:=j.out.size;have J:=qh (F.out.sl.below j.out (Nat.le_refl _))
   go_wp2_with fail
   refine(v5u v1 W (val s) (val t) w2 J.out D.out.sl (by omega) (by omega)).mono ?_;rintro e X ⟨T,rfl,l,B⟩;have K:=qh l;clear l;have o:=qh B;clear B;have S:=qh (v.out.trans ((j.out.mono G).trans (o.out.mono (by omega))));have g:=y6j T (val s+val t) X K.out.sl (by
    have c:=v3v Q.out;have d:=v3v O.out;have:val s+val t<BB ^ 113:=by
     have e:BB ^ 113=BB ^ 112*BB:=Nat.pow_succ ..;rw[e];have:BB ^ 112*2<=BB ^ 112*BB:=Nat.mul_le_mul_left _ y7s;omega
    have:=z7d this;omega) (E.out.below S.out (Nat.le_refl _))
   have HL:=qh g;clear g
   go_wp2_with fail
   refine HL.out.mono ?_;rintro e w4 ⟨rfl,z⟩;have H:=qh z;clear z;have U:=o.out.size;go_wp2;go_ret2;exact⟨rfl,S.out.trans (H.out.mono (by omega))⟩
theorem u1d (s t:ByteArray) (w:World) (hs:s.size<=maxLen) (ht:t.size<=maxLen) (B:Tab w) :
  Calls prog 113 #[.string s,.string t] w (PairEnd (subF s t) w):=by
 have T:=qh B;clear B;have c1:=z4g s w hs;have c2:=z4g t w ht;clear hs ht;cases i:vld s with
 | false =>
  have l:subF s t=(str [],1):=by unfold subF;rw[i];rfl
  rw[l];rw[i] at c1;clear l i c2 T;have G:=qh c1;clear c1
  go_enter func113,ntmps113
  go_wp2_with fail
  refine G.out.mono ?_;rintro e H ⟨rfl,rfl⟩;go_wp2;go_ret2;exact⟨rfl,Below.refl _ _⟩
 | true =>
  cases C:vld t with
  | false =>
   have l:subF s t=(str [],1):=by unfold subF;rw[i,C];rfl
   rw[l];rw[i] at c1;rw[C] at c2;clear l i C T;have G:=qh c1;clear c1;have S:=qh c2;clear c2
   go_enter func113,ntmps113
   go_wp2_with fail
   refine G.out.mono ?_;rintro e H ⟨rfl,rfl⟩
   go_wp2_with fail
   refine S.out.mono ?_;rintro e H ⟨rfl,rfl⟩;go_wp2;go_ret2;exact⟨rfl,Below.refl _ _⟩
  | true =>
   rw[i] at c1;rw[C] at c2;have G:=qh c1;clear c1;have S:=qh c2;clear c2;have lm:=z2a i;have ln:=z2a C;have b1:=z5s s w i;have B1:=qh b1;clear b1;have b2:=fun w=>z5s t w C;have B2:=qh b2;clear b2;have H1:=qh i;clear i;have H2:=qh C;clear C;by_cases u:val s<val t
   ·have l:subF s t=(str [],4):=by unfold subF;rw[H1.out,H2.out,if_pos u];rfl
    have I:cmpN (val s) (val t)=-1:=z4k u;rw[l];clear l u;have HC:=qh I;clear I
    go_enter func113,ntmps113
    go_wp2_with fail
    refine G.out.mono ?_;rintro e H ⟨rfl,rfl⟩
    go_wp2_with fail
    refine S.out.mono ?_;rintro e H ⟨rfl,rfl⟩
    go_wp2_with fail
    refine B1.out.mono ?_;rintro e w1 ⟨v1,rfl,r,k⟩;have F:=qh r;clear r;have j:=qh k;clear k;have E:=j.out.size
    go_wp2_with fail
    refine(B2.out w1).mono ?_;rintro e w2 ⟨R,rfl,o,p⟩;have z:=qh o;clear o;have d:=qh p;clear p;have W:=d.out.size;have A:=qh (F.out.sl.below d.out (Nat.le_refl _));have c:=z6f v1 R (val s) (val t) w2 A.out z.out.sl;unfold CmpEnd at c;rw[HC.out] at c;have D:=qh c;clear c
    go_wp2_with fail
    refine D.out.mono ?_;rintro e w3 ⟨rfl,v⟩;have g:=qh v;clear v;go_wp2;go_ret2;exact⟨rfl,j.out.trans ((d.out.mono E).trans (g.out.mono (by omega)))⟩
   have l:subF s t=(str (dec (val s-val t)),0):=by unfold subF;rw[H1.out,H2.out,if_neg u];rfl
   have I:cmpN (val s) (val t)=0\/cmpN (val s) (val t)=1:=by
    rcases Nat.lt_or_ge (val t) (val s) with h|h
    ·exact .inr (z6k h)
    exact .inl (z8k (by omega))
   have Q:val t<=val s:=by omega
   have X:=qh Q;clear Q;rw[l];clear l u;have a1:∃ q:Int,cmpN (val s) (val t)=q/\0<=q:=by
    rcases I with h|h
    ·exact⟨0,h,by omega⟩
    exact⟨1,h,by omega⟩
   obtain⟨q,hq,a4⟩:=a1;clear I;have HC:=qh hq;clear hq
   go_enter func113,ntmps113
   go_wp2_with fail
   refine G.out.mono ?_;rintro e H ⟨rfl,rfl⟩
   go_wp2_with fail
   refine S.out.mono ?_;rintro e H ⟨rfl,rfl⟩
   go_wp2_with fail
   refine B1.out.mono ?_;rintro e w1 ⟨v1,rfl,r,k⟩;have F:=qh r;clear r;have j:=qh k;clear k;have E:=j.out.size
   go_wp2_with fail
   refine(B2.out w1).mono ?_;rintro e w2 ⟨R,rfl,o,p⟩;have z:=qh o;clear o;have d:=qh p;clear p;have W:=d.out.size;have A:=qh (F.out.sl.below d.out (Nat.le_refl _));have c:=z6f v1 R (val s) (val t) w2 A.out z.out.sl;unfold CmpEnd at c;rw[HC.out] at c;have D:=qh c;clear c
   go_wp2_with fail
   refine D.out.mono ?_;rintro e w3 ⟨rfl,v⟩;have g:=qh v;clear v;have a3:=g.out.size;have L:=v5g v1 R (val s) (val t) w3 (A.out.below g.out (Nat.le_refl _)) (z.out.sl.below g.out (Nat.le_refl _)) (by omega) (by omega) X.out;have U:=qh L;clear L
   go_wp2_with fail
   refine U.out.mono ?_;rintro e w4 ⟨v4,rfl,J,O⟩;have Y:=qh J;clear J;have N:=qh O;clear O;have a5:=N.out.size;have HB:=qh (j.out.trans ((d.out.mono E).trans ((g.out.mono (by omega)).trans (N.out.mono (by omega)))));have K:=y1s v4 (val s-val t) w4 Y.out.sl (by have:=z2t (Nat.sub_le (val s) (val t));omega) (T.out.below HB.out (Nat.le_refl _));have a2:=qh K;clear K
   go_wp2_with fail
   refine a2.out.mono ?_;rintro e w5 ⟨rfl,P⟩;have Z:=qh P;clear P;go_wp2;go_ret2;exact⟨rfl,HB.out.trans (Z.out.mono (by omega))⟩
def IntEnd (q:Int) (w:World) (e:Ending) (w':World):Prop:=e=.returned (.int .i64 q)/\Below w.heap.size w w'
theorem u0n (s t:ByteArray) (w:World) (G:s.size<=maxLen) (I:t.size<=maxLen) :
  Calls prog 112 #[.string s,.string t] w (IntEnd (cmpF s t) w):=by
 have c1:=z4g s w G;have c2:=z4g t w I;clear G I;cases c:vld s with
 | false =>
  have g:cmpF s t=0:=by unfold cmpF;rw[c];rfl
  rw[g];rw[c] at c1;clear g c c2;have j:=qh c1;clear c1
  go_enter func112,ntmps112
  go_wp2_with fail
  refine j.out.mono ?_;rintro e v ⟨rfl,rfl⟩;go_wp2;go_ret;exact⟨rfl,Below.refl _ _⟩
 | true =>
  cases d:vld t with
  | false =>
   have g:cmpF s t=0:=by unfold cmpF;rw[c,d];rfl
   rw[g];rw[c] at c1;rw[d] at c2;clear g c d;have j:=qh c1;clear c1;have C:=qh c2;clear c2
   go_enter func112,ntmps112
   go_wp2_with fail
   refine j.out.mono ?_;rintro e v ⟨rfl,rfl⟩
   go_wp2_with fail
   refine C.out.mono ?_;rintro e v ⟨rfl,rfl⟩;go_wp2;go_ret;exact⟨rfl,Below.refl _ _⟩
  | true =>
   rw[c] at c1;rw[d] at c2;have j:=qh c1;clear c1;have C:=qh c2;clear c2;have lm:=z2a c;have T:=z2a d;have H:=z5s s w c;have P:=qh H;clear H;have J:=fun w=>z5s t w d;have N:=qh J;clear J;have R:=qh c;clear c;have L:=qh d;clear d;have g:cmpF s t=cmpN (val s) (val t):=by unfold cmpF;rw[R.out,L.out];rfl
   rw[g];clear g
   go_enter func112,ntmps112
   go_wp2_with fail
   refine j.out.mono ?_;rintro e v ⟨rfl,rfl⟩
   go_wp2_with fail
   refine C.out.mono ?_;rintro e v ⟨rfl,rfl⟩
   go_wp2_with fail
   refine P.out.mono ?_;rintro e S ⟨v1,rfl,o,r⟩;have B:=qh o;clear o;have p:=qh r;clear r;have A:=p.out.size
   go_wp2_with fail
   refine(N.out S).mono ?_;rintro e Q ⟨K,rfl,k,l⟩;have z:=qh k;clear k;have i:=qh l;clear l;have O:=i.out.size;have E:=qh (B.out.sl.below i.out (Nat.le_refl _));have h:=z6f v1 K (val s) (val t) Q E.out z.out.sl;unfold CmpEnd at h;have F:=qh h;clear h
   go_wp2_with fail
   refine F.out.mono ?_;rintro e U ⟨rfl,u⟩;have D:=qh u;clear u;go_wp2;go_ret;exact⟨rfl,p.out.trans ((i.out.mono A).trans (D.out.mono (by omega)))⟩
end
section
open Go.RowKit
theorem y3d (L:List Nat) (j v i:Nat) (h:j<L.length):nth (L.set j v) i=if i=j then v else nth L i:=by
 unfold nth;simp only[List.getD_eq_getElem?_getD,List.getElem?_set];by_cases e:j=i
 ·subst e;simp[h]
 rw[if_neg e,if_neg (fun c=>e c.symm)]
theorem z8r {L:List Nat} (h:Small L) (j v:Nat) (c:v<BB):Small (L.set j v):=fun i=>by
 by_cases d:j<L.length
 ·rw[y3d L j v i d];split
  ·exact c
  exact h i
 rw[List.set_eq_of_length_le (by omega)];exact h i
theorem v8q (L:List Nat):∀ (j v:Nat),j<L.length->bval (L.set j v)+BB ^ j*nth L j=bval L+BB ^ j*v:=by
 induction L with
 | nil=>intro j v h;simp at h
 | cons x L ih =>
  intro j v h;cases j with
  | zero=>simp only[List.set_cons_zero,bval,z7z,Nat.pow_zero];omega
  | succ j =>
   have:=ih j v (by simpa using h);simp only[List.set_cons_succ,bval,z5w,Nat.pow_succ];have e:BB*(bval (L.set j v)+BB ^ j*nth L j)=BB*(bval L+BB ^ j*v):=by rw[this]
   rw[Nat.mul_add,Nat.mul_add,<- Nat.mul_assoc,<- Nat.mul_assoc,Nat.mul_comm BB (BB ^ j)] at e;omega
theorem y6x (k:Nat):bval (List.replicate k 0)=0:=x1u (fun i=>by unfold nth;simp[List.getD_eq_getElem?_getD,List.getElem?_replicate];split<;>rfl)
theorem z8w (k:Nat):Small (List.replicate k 0):=fun i=>by
 have:nth (List.replicate k 0) i=0:=by unfold nth;simp[List.getD_eq_getElem?_getD,List.getElem?_replicate];split<;>rfl
 rw[this];exact z2e
structure MulIn (xs ys L:List Nat) (i k c:Nat):Prop where
 small:Small L
 carry:c<BB
 len:L.length=xs.length+ys.length+1
 val:bval L+BB ^ (i+k)*c=bval (xs.take i)*bval ys+BB ^ i*(nth xs i*bval (ys.take k))
structure MulOut (xs ys L:List Nat) (i:Nat):Prop where
 small:Small L
 len:L.length=xs.length+ys.length+1
 val:bval L=bval (xs.take i)*bval ys
theorem MulOut.start (xs c:List Nat):MulOut xs c (List.replicate (xs.length+c.length+1) 0) 0 :=
 ⟨z8w _,by simp,by rw[y6x];simp[bval]⟩
theorem MulOut.inner {xs c L:List Nat} {i:Nat} (h:MulOut xs c L i):MulIn xs c L i 0 0 :=
 ⟨h.small,z2e,h.len,by rw[h.val];simp[bval]⟩
theorem y1a {l c x y:Nat} (i:l<BB) (g:c<BB) (h:x<BB) (d:y<BB):l+c+x*y<1000000000*1000000000:=by
 rw[z0u] at *;have:x*y<=999999999*999999999:=Nat.mul_le_mul (by omega) (by omega);omega
theorem MulIn.step {xs d L:List Nat} {i k c:Nat} (h:MulIn xs d L i k c) (u:Small xs) (s:Small d) (hi:i<xs.length) (z:k<d.length+1) :
  MulIn xs d (L.set (i+k) ((nth L (i+k)+c+nth xs i*nth d k) % 1000000000)) i (k+1) ((nth L (i+k)+c+nth xs i*nth d k) / 1000000000):=by
 have hb:=y1a (h.small (i+k)) h.carry (u i) (s k);have g:i+k<L.length:=by rw[h.len];omega
 have o:=v8q L (i+k) ((nth L (i+k)+c+nth xs i*nth d k) % 1000000000) g;have l:=h.val;have j:=z0n d k;generalize hp:nth L (i+k)+c+nth xs i*nth d k=p at *;have v:BB ^ (i+k)*nth L (i+k)+BB ^ (i+k)*c+BB ^ (i+k)*(nth xs i*nth d k)=BB ^ (i+k)*p:=by rw[<- hp,Nat.mul_add,Nat.mul_add]
 have r:BB ^ (i+k)*p=BB ^ (i+k)*(p % 1000000000)+BB ^ (i+k)*BB*(p / 1000000000):=by
  rw[Nat.mul_assoc,<- Nat.mul_add,z0u,Nat.mod_add_div]
 refine⟨z8r h.small _ _ (by rw[z0u];exact Nat.mod_lt _ (by omega)),by rw[z0u];omega,by simp[h.len],?_⟩;rw[j,Nat.mul_add,Nat.mul_add,show i+(k+1)=i+k+1 by omega,Nat.pow_succ BB (i+k)];have e:BB ^ i*(nth xs i*(BB ^ k*nth d k))=BB ^ (i+k)*(nth xs i*nth d k):=by
  rw[Nat.pow_add,Nat.mul_left_comm (nth xs i),Nat.mul_assoc]
 rw[e];omega
theorem MulIn.done {xs d L:List Nat} {i c:Nat} (h:MulIn xs d L i (d.length+1) c) (l:Small xs) (k:Small d) (hi:i<xs.length):MulOut xs d L (i+1):=by
 refine⟨h.small,h.len,?_⟩;have g:=h.val;rw[z3a (by omega:d.length<=d.length+1)] at g;have e:bval (xs.take i)*bval d+BB ^ i*(nth xs i*bval d)=bval (xs.take (i+1))*bval d:=by
  rw[z0n,Nat.add_mul,Nat.mul_assoc]
 rw[e] at g;have p:bval (xs.take (i+1))<BB ^ (i+1):=by
  have:=z4e (z5b l (i+1));rw[List.length_take,Nat.min_eq_left (by omega)] at this;exact this
 have s:=z4e k;have o:bval (xs.take (i+1))*bval d<BB ^ (i+1)*BB ^ d.length:=by
  have r:bval (xs.take (i+1))*bval d<=bval (xs.take (i+1))*BB ^ d.length:=Nat.mul_le_mul_left _ (by omega);have u:bval (xs.take (i+1))*BB ^ d.length<BB ^ (i+1)*BB ^ d.length:=Nat.mul_lt_mul_of_pos_right p (Nat.pow_pos z2e);omega
 rw[<- Nat.pow_add,show i+1+d.length=i+(d.length+1) by omega] at o
 rcases Nat.eq_zero_or_pos c with j|j
 ·subst j;rw[Nat.mul_zero,Nat.add_zero] at g;exact g
 have:BB ^ (i+(d.length+1))*1<=BB ^ (i+(d.length+1))*c:=Nat.mul_le_mul_left _ j;omega
theorem MulOut.done {xs c L:List Nat} (h:MulOut xs c L xs.length):bval L=bval xs*bval c:=by rw[h.val,List.take_length]
theorem Own.set {w:World} {B:Nat} {e:TypeId} {k:IntKind} {g n cap:Nat} {L:List Nat} (h:Own w B e k (.slice (some ⟨g,0,none⟩) n cap) L) (hn:L.length=n) (j v:Nat) :
  Own (w.setCell ⟨g,j,none⟩ (.int k (v:Int))) B e k (.slice (some ⟨g,0,none⟩) n cap) (L.set j v):=by
 subst hn;have:=(World.ownsRow.stored h j (.int k (v:Int))).1;have c:(vals k L).set j (.int k (v:Int))=vals k (L.set j v):=by unfold vals;rw[List.map_set]
 rw[c] at this;unfold Own;rw[List.length_set];exact this
theorem Own.base {w:World} {B:Nat} {e:TypeId} {k:IntKind} {g n cap:Nat} {c:Nat} {L:List Nat} (h:Own w B e k (.slice (some ⟨g,c,none⟩) n cap) L):B<=g/\g<w.heap.size:=by
 have:=World.ownsRow.lt h g (by simp[Value.ownBlock]);exact this
theorem Own.cell {w:World} {B:Nat} {e:TypeId} {k:IntKind} {g n cap:Nat} {L:List Nat} (h:Own w B e k (.slice (some ⟨g,0,none⟩) n cap) L) (hn:L.length=n) (j:Nat) (c:j<n):w.cell? ⟨g,j,none⟩=some (.int k ((nth L j:Nat):Int)):=by
 subst hn;rw[World.ownsRow.cellAt h j (by omega),x6u k L j c]
theorem Own.free {w:World} {B:Nat} {e:TypeId} {k:IntKind} {g n cap:Nat} {L:List Nat} (h:Own w B e k (.slice (some ⟨g,0,none⟩) n cap) L) (hn:L.length=n) (j:Nat):w.frozen? ⟨g,j,none⟩=false:=by
 subst hn;exact World.ownsRow.frozenAt h j
theorem z7c (k:IntKind) (n:Nat):vals k (List.replicate n 0)=List.replicate n (.int k 0):=by simp[vals]
end
section
open Go.RowKit
set_option maxRecDepth 100000 in
theorem u3i (s t:ByteArray) (w:World) (hs:s.size<=maxLen) (ht:t.size<=maxLen) (S:Tab w) :
  Calls prog 71 #[.string s,.string t] w (PairEnd (mulF s t) w):=by
 have HT:=qh S;clear S;have c1:=z4g s w hs;have c2:=z4g t w ht;clear hs ht;cases r:vld s with
 | false =>
  have X:mulF s t=(str [],1):=by unfold mulF;rw[r];rfl
  rw[X];rw[r] at c1;clear X r c2 HT;have C1:=qh c1;clear c1
  go_enter func71,ntmps71
  go_wp2_with fail
  refine C1.out.mono ?_;rintro e w' ⟨rfl,rfl⟩;go_wp2;go_ret2;exact⟨rfl,Below.refl _ _⟩
 | true =>
  cases K:vld t with
  | false =>
   have X:mulF s t=(str [],1):=by unfold mulF;rw[r,K];rfl
   rw[X];rw[r] at c1;rw[K] at c2;clear X r K HT;have C1:=qh c1;clear c1;have C2:=qh c2;clear c2
   go_enter func71,ntmps71
   go_wp2_with fail
   refine C1.out.mono ?_;rintro e w' ⟨rfl,rfl⟩
   go_wp2_with fail
   refine C2.out.mono ?_;rintro e w' ⟨rfl,rfl⟩;go_wp2;go_ret2;exact⟨rfl,Below.refl _ _⟩
  | true =>
   rw[r] at c1;rw[K] at c2;have C1:=qh c1;clear c1;have C2:=qh c2;clear c2;have lm:=z2a r;have ln:=z2a K;have b1:=z5s s w r;have B1:=qh b1;clear b1;have b2:=fun w=>z5s t w K;have B2:=qh b2;clear b2;have H1:=qh r;clear r;have H2:=qh K;clear K;have X:mulF s t=limS (val s*val t):=by unfold mulF;rw[H1.out,H2.out];rfl
   rw[X];clear X
   go_enter func71,ntmps71
   go_wp2_with fail
   refine C1.out.mono ?_;rintro e w' ⟨rfl,rfl⟩
   go_wp2_with fail
   refine C2.out.mono ?_;rintro e w' ⟨rfl,rfl⟩
   go_wp2_with fail
   refine B1.out.mono ?_;rintro e w1 ⟨v1,rfl,d9,d4⟩;have d6:=qh d9;clear d9;have b5:=qh d4;clear d4;have e8:=b5.out.size
   go_wp2_with fail
   refine(B2.out w1).mono ?_;rintro e F ⟨v2,rfl,d7,d8⟩;have a9:=qh d7;clear d7;have a1:=qh d8;clear d8;have h7:=a1.out.size;have b9:=qh (d6.out.sl.below a1.out (Nat.le_refl _));obtain⟨i0,g4,g1,g3,g0⟩:=info_parts y1x;have f9:=fun x=>z1b (val s) x;have a6:Small (toB (val s)):=z1b _;have a7:Small (toB (val t)):=z1b _;obtain⟨g,a3⟩:=exq (toB (val s));obtain⟨d,a4⟩:=exq (toB (val t));rw[<- a3] at b9 lm a6;rw[<- a4] at a9 ln a7;have HX:=qh a3;clear a3;have HY:=qh a4;clear a4;have O:=qh a6;clear a6;have P:=qh a7;clear a7;clear f9 d6;obtain⟨ax,cx,bx,ox,rfl,d0,h4,c6,N,D⟩:=b9.out.open;obtain⟨ay,cy,f2,oy,rfl,b8,g9,d3,Q,A⟩:=a9.out.sl.open;unfold maxLen at c6 d3;have g5:=qh D;clear D;have g6:=qh A;clear A;have f4:=qh d0;clear d0;have e7:=qh b8;clear b8;have g8:=qh N;clear N;have f5:=qh Q;clear Q;obtain⟨wm,e3,h,a5⟩:=run_make_full F w.heap.size 151 153 i0 (.int .u64 0) 1 underlying151 g4 g1 g3 .i64 .i64 (g.length+d.length+1) (by rw[g0];omega) (by unfold maxLen;omega) (by omega);rw[show ((g.length+d.length+1:Nat):Int)=(g.length:Int)+(d.length:Int)+1 by omega] at e3;have b7:Below w.heap.size w wm:=b5.out.trans ((a1.out.mono e8).trans ((Below.refl _ _).grown a5 (by omega) (by simp)));have T:Below F.heap.size F wm:=(Below.refl _ _).grown a5 (Nat.le_refl _) (by simp);have d1:Own wm w.heap.size 153 .u64 (.slice (some ⟨F.heap.size,0,none⟩) (g.length+d.length+1) (g.length+d.length+1)) (List.replicate (g.length+d.length+1) 0):=by
    unfold Own;rw[z7c,List.length_replicate];have:=h;rw[Nat.mul_one,show (Value.int .u64 0).cells=#[Value.int .u64 0] from rfl,toList_madeCells_one] at this;exact this
   have HM:=qh b7;clear b7;have e9:=qh T;clear T;have e6:=qh d1;clear d1 h a5;go_wp2;clear e3
   go_loopw [34] (fun i wr=>∃ (k:Nat) (L:List Nat),k<=g.length/\i=.int .i64 k/\MulOut g d L k/\Own wr w.heap.size 153 .u64 (.slice (some ⟨F.heap.size,0,none⟩) (g.length+d.length+1) (g.length+d.length+1)) L/\Below w.heap.size w wr/\Below F.heap.size F wr)
    (fun i _=>g.length-(intOf i).toNat)
   case atStart=>exact⟨0,_,Nat.zero_le _,rfl,MulOut.start g d,e6.out,HM.out,e9.out⟩
   obtain⟨i,L,h9,rfl,o,h,G,l⟩:=hrel;have c7:=qh o;clear o;have HO:=qh h;clear h;have R:=qh G;clear G;have c9:=qh l;clear l;obtain⟨wo,rfl⟩:∃ wo:World,wo=wr:=⟨_,rfl⟩;by_cases a2:i<g.length
   ·obtain rfl:=f4.out (by omega);have N:=g8.out (by omega);go_wp2
    go_loopw [10,40] (fun c q wr=>∃ (k Y:Nat) (L:List Nat),k<=d.length+1/\q=.int .i64 k/\c=.int .u64 Y/\MulIn g d L i k Y/\Own wr w.heap.size 153 .u64 (.slice (some ⟨F.heap.size,0,none⟩) (g.length+d.length+1) (g.length+d.length+1)) L/\Below w.heap.size w wr/\Below F.heap.size F wr)
     (fun _ q _=>d.length+1-(intOf q).toNat)
    case atStart=>exact⟨0,0,L,Nat.zero_le _,rfl,rfl,c7.out.inner,HO.out,R.out,c9.out⟩
    obtain⟨k,Y,L',h8,rfl,rfl,b6,h,G,l⟩:=hrel;have v:=qh b6;clear b6;have u:=qh h;clear h;have J:=qh G;clear G;have j:=qh l;clear l;by_cases d2:k<d.length+1
    ·have I:=v.out.step O.out P.out a2 d2;have B:=v.out.len;have a8:=qh I;clear I;have cl:=u.out.cell B (i+k) (by omega);have fl:=u.out.free B (i+k);have c8:=y1a (v.out.small (i+k)) v.out.carry (O.out i) (P.out k);have U:=qh B;clear B
     rcases Nat.lt_or_ge k d.length with Z|Z
     ·obtain rfl:=e7.out (by omega);have Q:=f5.out (by omega);have c1:=(j.out.cell (p:=⟨bx,ox+i,none⟩) N).trans (g5.out i a2);have c2:=(j.out.cell (p:=⟨f2,oy+k,none⟩) Q).trans (g6.out k Z);have E:(((nth g i:Nat):Int)*((nth d k:Nat):Int))=((nth g i*nth d k:Nat):Int):=by simp
      have h0:((nth g i:Nat):Int)*((nth d k:Nat):Int)<=999999998000000001:=by
       have r:=O.out i;have K:=P.out k;rw[z0u] at r K;have:nth g i*nth d k<=999999999*999999999:=Nat.mul_le_mul (by omega) (by omega);rw[E];omega
      have h6:nth L' (i+k)<=999999999:=by have:=v.out.small (i+k);rw[z0u] at this;omega
      have h5:Y<=999999999:=by have:=v.out.carry;rw[z0u] at this;omega
      have h3:0<=((nth g i:Nat):Int)*((nth d k:Nat):Int):=by rw[E];omega
      have f8:=qh E;clear E c8
      go_wp2_with fail
      go_quiet (fail)
      go_wp2;go_roundw
      case rel =>
       have em:((nth L' (i+k):Nat):Int)+(Y:Int)+((nth g i:Nat):Int)*((nth d k:Nat):Int)=((nth L' (i+k)+Y+nth g i*nth d k:Nat):Int):=by rw[f8.out];omega
       rw[em];have ho:=(u.out.kept (below_drewN (Below.refl _ wr) nq) (Nat.le_refl _)).set U.out (i+k) ((nth L' (i+k)+Y+nth g i*nth d k) % 1000000000);exact⟨k+1,_,_,by omega,by go_num,by go_num,a8.out,ho,(below_drewN J.out nq).setCell u.out.base.1 _,(below_drewN j.out nq).setCell (Nat.le_refl _) _⟩
      simp[intOf];omega
     have hz:nth d k=0:=z1n d k Z;have H:=a8.out;rw[hz,Nat.mul_zero,Nat.add_zero] at H;rw[hz,Nat.mul_zero,Nat.add_zero] at c8;have f0:=qh H;clear H hz a8;go_wp2;go_roundw
     case rel =>
      have ho:=u.out.set U.out (i+k) ((nth L' (i+k)+Y) % 1000000000);exact⟨k+1,_,_,by omega,by go_num,by go_num,f0.out,ho,J.out.setCell u.out.base.1 _,j.out.setCell (Nat.le_refl _) _⟩
     simp[intOf];omega
    have b0:k=d.length+1:=by omega
    have g7:=qh b0;clear b0;go_wp2;go_roundw
    case rel =>
     have r:=v.out;rw[g7.out] at r;exact⟨i+1,L',by omega,by go_num,r.done O.out P.out a2,u.out,J.out,j.out⟩
    simp[intOf];omega
   have e0:i=g.length:=by omega
   have g2:=qh e0;clear e0;have o:=c7.out;rw[g2.out] at o;have f1:=R.out.size;have d5:=z8d (some ⟨F.heap.size,0,none⟩) (g.length+d.length+1) L wo (by rw[o.len];exact HO.out.sl);rw[o.len] at d5;have C:=qh o;clear o
   go_wp2_with fail
   refine d5.mono ?_;rintro e w4 ⟨kk,hk,rfl,rfl⟩;have HK:=qh hk;clear hk;have hb:=C.out.done;have z:(toB (val s*val t))=L.take kk:=by
    rw[z4z C.out.small HK.out.1 HK.out.2.1 HK.out.2.2,hb,HX.out,HY.out,z1h,z1h]
   have e4:kk<=g.length+d.length+1:=by have:=HK.out.1;rw[C.out.len] at this;exact this
   have b4:Sl wo .u64 (.slice (some ⟨F.heap.size,0,none⟩) kk (g.length+d.length+1)) (toB (val s*val t)):=by
    rw[z];exact HO.out.sl.take (by rw[C.out.len];exact e4)
   have b3:(toB (val s*val t)).length<=100000:=by rw[z,List.length_take];omega
   have W:=y6j _ (val s*val t) wo b4 b3 (HT.out.below R.out (Nat.le_refl _));have e5:=qh W;clear W b4 b3 z hb
   go_wp2_with fail
   refine e5.out.mono ?_;rintro e w5 ⟨rfl,e1⟩;have f7:=qh e1;clear e1;go_wp2;go_ret2;exact⟨rfl,R.out.trans (f7.out.mono f1)⟩
end
section
open Go.RowKit
structure Est (us vs:List Nat) (n q r:Nat):Prop where
 top:q*nth vs (n-1)+r=nth us n*BB+nth us (n-1)
 ge:bval us / bval vs<=q
structure DivIn (us vs:List Nat) (n:Nat):Prop where
 su:Small us
 sv:Small vs
 n1:1<=n
 lu:us.length=n+1
 lv:vs.length=n
 v1:1<=nth vs (n-1)
 lt:bval us<bval vs*BB
theorem x4y {n:Nat} (h:1<=n):BB ^ n=BB ^ (n-1)*BB:=by
 obtain⟨k,rfl⟩:∃ k,n=k+1:=⟨n-1,by omega⟩;exact Nat.pow_succ ..
theorem x0u {n:Nat} (h:2<=n):BB ^ (n-1)=BB ^ (n-2)*BB:=by
 obtain⟨k,rfl⟩:∃ k,n=k+2:=⟨n-2,by omega⟩;exact Nat.pow_succ ..
theorem y2a {xs:List Nat} {n:Nat} (h:xs.length=n+1) (d:1<=n):bval xs=bval (xs.take (n-1))+BB ^ (n-1)*(nth xs n*BB+nth xs (n-1)):=by
 have c:=z0n xs n;rw[z3a (by omega)] at c;have e2:=z0n xs (n-1);rw[show n-1+1=n by omega] at e2;have g:BB ^ n=BB ^ (n-1)*BB:=x4y d;rw[c,e2,g,Nat.mul_add,<- Nat.mul_assoc,Nat.mul_assoc (BB ^ (n-1)) BB,Nat.mul_comm BB (nth xs n)];rw[Nat.mul_assoc];omega
theorem y1i {xs:List Nat} {n:Nat} (h:xs.length=n) (c:1<=n):bval xs=bval (xs.take (n-1))+BB ^ (n-1)*nth xs (n-1):=by
 have e2:=z0n xs (n-1);rw[show n-1+1=n by omega,z3a (by omega)] at e2;exact e2
theorem y5f {xs:List Nat} (h:Small xs) (k:Nat) (c:k<=xs.length):bval (xs.take k)<BB ^ k:=by
 have:=z4e (z5b h k);rwa [List.length_take,Nat.min_eq_left c] at this
theorem DivIn.vpos {d c:List Nat} {n:Nat} (h:DivIn d c n):BB ^ (n-1)<=bval c:=by
 rw[y1i h.lv h.n1];have:BB ^ (n-1)*1<=BB ^ (n-1)*nth c (n-1):=Nat.mul_le_mul_left _ h.v1;omega
theorem DivIn.vpos' {d c:List Nat} {n:Nat} (h:DivIn d c n):0<bval c:=Nat.lt_of_lt_of_le (Nat.pow_pos z2e) h.vpos
theorem DivIn.qlt {c d:List Nat} {n:Nat} (h:DivIn c d n):bval c / bval d<BB:=Nat.div_lt_of_lt_mul h.lt
theorem Est.start {c d:List Nat} {n:Nat} (h:DivIn c d n) :
  Est c d n ((nth c n*BB+nth c (n-1)) / nth d (n-1)) ((nth c n*BB+nth c (n-1)) % nth d (n-1)):=by
 refine⟨by rw[Nat.mul_comm];exact Nat.div_add_mod _ _,?_⟩;rw[Nat.le_div_iff_mul_le h.v1];have k:=Nat.div_mul_le_self (bval c) (bval d);generalize bval c / bval d=Q at *;have l:=y2a h.lu h.n1;have j:=y5f h.su (n-1) (by rw[h.lu];omega);have i:=y1i h.lv h.n1;have o:Q*(BB ^ (n-1)*nth d (n-1))<=Q*bval d:=Nat.mul_le_mul_left _ (by omega);have g:BB ^ (n-1)*(Q*nth d (n-1))<BB ^ (n-1)*(nth c n*BB+nth c (n-1)+1):=by
  rw[Nat.mul_left_comm,Nat.mul_add];omega
 have:=Nat.lt_of_mul_lt_mul_left g;omega
theorem x0z {xs:List Nat} {n:Nat} (h:xs.length=n+1) (d:2<=n):bval xs=bval (xs.take (n-2))+BB ^ (n-2)*((nth xs n*BB+nth xs (n-1))*BB+nth xs (n-2)):=by
 have e2:=z0n xs (n-2);rw[show n-2+1=n-1 by omega] at e2;rw[y2a h (by omega),e2];have c:BB ^ (n-1)=BB ^ (n-2)*BB:=x0u d;rw[c,Nat.mul_add (BB ^ (n-2)),Nat.mul_assoc,Nat.mul_comm BB (nth xs n*BB+nth xs (n-1))];omega
theorem y8j {xs:List Nat} {n:Nat} (h:xs.length=n) (c:2<=n):bval xs=bval (xs.take (n-2))+BB ^ (n-2)*(nth xs (n-1)*BB+nth xs (n-2)):=by
 have:=y2a (n:=n-1) (xs:=xs) (by omega) (by omega)
 rwa [show n-1-1=n-2 by omega] at this
theorem Est.back {d c:List Nat} {n q r:Nat} (h:DivIn d c n) (l:Est d c n q r) (i:BB<=q\/(2<=n/\r*BB+nth d (n-2)<q*nth c (n-2))) :
  1<=q/\Est d c n (q-1) (r+nth c (n-1)):=by
 have g:bval d / bval c<q:=by
  rcases i with i|⟨k,i⟩
  ·exact Nat.lt_of_lt_of_le h.qlt i
  rw[Nat.div_lt_iff_lt_mul h.vpos'];have u:=x0z h.lu k;have v:=y8j h.lv k;have s:=y5f h.su (n-2) (by rw[h.lu];omega);have o:(nth d n*BB+nth d (n-1))*BB+nth d (n-2)+1<=q*(nth c (n-1)*BB+nth c (n-2)):=by
   rw[<- l.top,Nat.add_mul,Nat.mul_add,Nat.mul_assoc];omega
  have p:BB ^ (n-2)*((nth d n*BB+nth d (n-1))*BB+nth d (n-2)+1)<=BB ^ (n-2)*(q*(nth c (n-1)*BB+nth c (n-2))):=Nat.mul_le_mul_left _ o;have z:BB ^ (n-2)*(q*(nth c (n-1)*BB+nth c (n-2)))<=q*bval c:=by
   rw[Nat.mul_left_comm];exact Nat.mul_le_mul_left _ (by omega)
  rw[Nat.mul_add (BB ^ (n-2)) _ 1,Nat.mul_one] at p;omega
 have j:1<=q:=Nat.lt_of_le_of_lt (Nat.zero_le _) g;refine⟨j,?_,Nat.le_sub_one_of_lt g⟩;clear g;have:=l.top;have e:q*nth c (n-1)=(q-1)*nth c (n-1)+nth c (n-1):=by
  have:q=q-1+1:=by omega
  rw[this,Nat.add_mul,Nat.one_mul,Nat.add_sub_cancel]
 omega
theorem Est.done {d c:List Nat} {n q r:Nat} (h:DivIn d c n) (k:Est d c n q r) (s:q<BB) (p:n=1\/BB<=r\/(2<=n/\q*nth c (n-2)<=r*BB+nth d (n-2))) :
  q*bval c<bval d+bval c:=by
 by_cases o:n=1
 ·subst o;have i:=y2a h.lu (by omega);have j:=y1i h.lv (by omega);simp only[Nat.sub_self,Nat.pow_zero,Nat.one_mul,List.take_zero,show bval []=0 from rfl,Nat.zero_add] at i j;have:=k.top;simp only[Nat.sub_self] at this;have:=h.vpos';rw[j] at *;omega
 have g:2<=n:=by have:=h.n1;omega
 have B:q*nth c (n-2)<=r*BB+nth d (n-2):=by
  rcases p with i|i|i
  ·omega
  ·have j:q*nth c (n-2)<=BB*BB:=Nat.mul_le_mul (by omega) (by have:=h.sv (n-2);omega);have u:BB*BB<=r*BB:=Nat.mul_le_mul_right _ i;omega
  exact i.2
 have i:=x0z h.lu g;have j:=y8j h.lv g;have u:=y5f h.sv (n-2) (by rw[h.lv];omega);have l:q*(nth c (n-1)*BB+nth c (n-2))<=(nth d n*BB+nth d (n-1))*BB+nth d (n-2):=by
  rw[<- k.top,Nat.add_mul,Nat.mul_add,Nat.mul_assoc];omega
 have z:BB ^ (n-2)*(q*(nth c (n-1)*BB+nth c (n-2)))<=BB ^ (n-2)*((nth d n*BB+nth d (n-1))*BB+nth d (n-2)):=Nat.mul_le_mul_left _ l;have A:q*bval c=q*bval (c.take (n-2))+BB ^ (n-2)*(q*(nth c (n-1)*BB+nth c (n-2))):=by
  rw[j,Nat.mul_add,Nat.mul_left_comm]
 have v:q*bval (c.take (n-2))<BB ^ (n-1):=by
  have e:BB ^ (n-1)=BB*BB ^ (n-2):=by rw[Nat.mul_comm];exact x0u g
  rw[e];exact Nat.mul_lt_mul_of_lt_of_le s (by omega) (Nat.pow_pos z2e)
 have:=h.vpos;omega
structure SubIn (us vs us':List Nat) (q i c bo:Nat):Prop where
 len:us'.length=us.length
 small:Small us'
 carry:c<BB
 borrow:bo<=1
 same:∀ j,i<=j->nth us' j=nth us j
 val:bval (us'.take i)+q*bval (vs.take i)=bval (us.take i)+BB ^ i*(c+bo)
theorem SubIn.start (c d:List Nat) (q:Nat) (h:Small c):SubIn c d c q 0 0 0:=⟨rfl,h,z2e,by omega,fun _ _=>rfl,by simp[bval]⟩
theorem take_set (L:List Nat) (i v:Nat):(L.set i v).take i=L.take i:=by
 rw[List.take_set];apply List.set_eq_of_length_le;rw[List.length_take];omega
def dSub (u c b x:Nat):Nat:=u+1000000000-(c+x) % 1000000000-b
theorem x1w {u c b x:Nat} (hb:b<=1):((u:Int)+1000000000-((c:Int)+(x:Int)) % 1000000000-(b:Int))=((dSub u c b x:Nat):Int):=by unfold dSub;omega
theorem SubIn.step {k g o:List Nat} {q i c p:Nat} (h:SubIn k g o q i c p) (E:Small g) (A:q<BB) (hi:i<k.length) :
  SubIn k g (o.set i (dSub (nth k i) c p (q*nth g i) % 1000000000)) q (i+1) ((c+q*nth g i) / 1000000000) (1-dSub (nth k i) c p (q*nth g i) / 1000000000):=by
 have hb:=y1a (l:=0) z2e h.carry A (E i);rw[Nat.zero_add] at hb;have C:nth k i<BB:=by rw[<- h.same i (Nat.le_refl _)];exact h.small i
 have s:i<o.length:=by rw[h.len];exact hi
 have r:=h.val;have u:=h.carry;have v:=h.borrow;have F:(c+q*nth g i) % 1000000000<1000000000:=Nat.mod_lt _ (by omega);have z:(c+q*nth g i) % 1000000000+1000000000*((c+q*nth g i) / 1000000000)=c+q*nth g i:=Nat.mod_add_div _ _;rw[z0u] at C u;refine⟨by simp[h.len],z8r h.small _ _ (by rw[z0u];exact Nat.mod_lt _ (by omega)),by rw[z0u];omega,by omega,fun j G=>?_,?_⟩
 ·rw[y3d _ _ _ _ s,if_neg (by omega)];exact h.same j (by omega)
 rw[z0n,z0n g,z0n k,take_set,y3d _ _ _ _ s,if_pos rfl,Nat.mul_add,Nat.pow_succ];generalize hd:dSub (nth k i) c p (q*nth g i)=d at *;unfold dSub at hd;generalize hx:q*nth g i=x at *;have B:q*(BB ^ i*nth g i)=BB ^ i*x:=by rw[Nat.mul_left_comm,hx]
 rw[B];have e2:d % 1000000000+x+c+p=nth k i+BB*((c+x) / 1000000000+(1-d / 1000000000)):=by rw[z0u];omega
 have D:BB ^ i*(d % 1000000000+x+c+p)=BB ^ i*nth k i+BB ^ i*BB*((c+x) / 1000000000+(1-d / 1000000000)):=by rw[e2,Nat.mul_add,Nat.mul_assoc]
 rw[Nat.mul_add,Nat.mul_add,Nat.mul_add] at D;rw[Nat.mul_add (BB ^ i)] at r;omega
theorem SubIn.last {i d g:List Nat} {n q c j:Nat} (h:SubIn i d g q n c j) (k:d.length=n):(c+q*nth d n) / 1000000000=0:=by
 rw[z1n d n (by omega),Nat.mul_zero,Nat.add_zero];have:=h.carry;rw[z0u] at this;exact Nat.div_eq_of_lt this
theorem SubIn.done {j i d:List Nat} {n q k:Nat} (h:SubIn j i d q (n+1) 0 k) (l:j.length=n+1) (o:i.length=n) :
  bval d+q*bval i=bval j+BB ^ (n+1)*k/\bval d<BB ^ (n+1):=by
 have c:=h.val;have g:=h.len;rw[z3a (by omega),z3a (by omega),z3a (by omega),Nat.zero_add] at c;have:=z4e h.small;rw[g,l] at this;exact⟨c,this⟩
theorem SubIn.fits {d c g:List Nat} {n q:Nat} (i:DivIn d c n) (h:SubIn d c g q (n+1) 0 0) (l:bval d / bval c<=q):q=bval d / bval c/\bval g=bval d % bval c:=by
 obtain⟨k,p⟩:=h.done i.lu i.lv;rw[Nat.mul_zero,Nat.add_zero] at k;have o:q<=bval d / bval c:=by rw[Nat.le_div_iff_mul_le i.vpos'];omega
 have j:q=bval d / bval c:=by omega
 refine⟨j,?_⟩;have:=Nat.div_add_mod (bval d) (bval c);rw[<- j,Nat.mul_comm] at this;omega
structure AddIn (us vs us':List Nat) (i c:Nat):Prop where
 len:us'.length=us.length
 small:Small us'
 carry:c<=1
 same:∀ j,i<=j->nth us' j=nth us j
 val:bval (us'.take i)+BB ^ i*c=bval (us.take i)+bval (vs.take i)
theorem AddIn.start (c d:List Nat) (h:Small c):AddIn c d c 0 0:=⟨rfl,h,by omega,fun _ _=>rfl,by simp[bval]⟩
theorem AddIn.step {d k g:List Nat} {i c:Nat} (h:AddIn d k g i c) (u:Small k) (hi:i<d.length) :
  AddIn d k (g.set i ((nth d i+c+nth k i) % 1000000000)) (i+1) ((nth d i+c+nth k i) / 1000000000):=by
 have r:nth d i<BB:=by rw[<- h.same i (Nat.le_refl _)];exact h.small i
 have o:=u i;have l:i<g.length:=by rw[h.len];exact hi
 have p:=h.val;have v:=h.carry;rw[z0u] at r o;refine⟨by simp[h.len],z8r h.small _ _ (by rw[z0u];exact Nat.mod_lt _ (by omega)),by omega,fun j z=>?_,?_⟩
 ·rw[y3d _ _ _ _ l,if_neg (by omega)];exact h.same j (by omega)
 rw[z0n,z0n k,z0n d,take_set,y3d _ _ _ _ l,if_pos rfl,Nat.pow_succ];generalize nth d i=a at *;generalize nth k i=x at *;have e2:(a+c+x) % 1000000000+BB*((a+c+x) / 1000000000)=a+c+x:=by rw[z0u];omega
 have s:BB ^ i*(a+c+x)=BB ^ i*((a+c+x) % 1000000000)+BB ^ i*BB*((a+c+x) / 1000000000):=by rw[Nat.mul_assoc,<- Nat.mul_add,e2]
 rw[Nat.mul_add,Nat.mul_add] at s;omega
theorem AddIn.fits {h d p g:List Nat} {n q c:Nat} (j:DivIn h d n) (z:SubIn h d p q (n+1) 0 1) (r:AddIn p d g (n+1) c) (H:bval h / bval d<=q) (C:q*bval d<bval h+bval d) :
  1<=q/\q-1=bval h / bval d/\bval g=bval h % bval d:=by
 obtain⟨A,I⟩:=z.done j.lu j.lv;have o:=r.len;have u:=z.len;have l:=j.lu;have E:=j.lv;have i:=r.val;rw[z3a (by omega),z3a (by omega),z3a (by omega)] at i;have D:=z4e r.small;rw[o,u,l] at D;rw[Nat.mul_one] at A;have s:1<=q:=by
  rcases Nat.eq_zero_or_pos q with k|k
  ·subst k;rw[Nat.zero_mul] at A;have:=z4e j.su;rw[l] at this;omega
  exact k
 have e:q*bval d=(q-1)*bval d+bval d:=by
  have:q=q-1+1:=by omega
  rw[this,Nat.add_mul,Nat.one_mul,Nat.add_sub_cancel]
 have B:c=1:=by
  have:=r.carry
  rcases Nat.eq_zero_or_pos c with k|k
  ·subst k;rw[Nat.mul_zero,Nat.add_zero] at i;omega
  omega
 subst B;rw[Nat.mul_one] at i;have F:(q-1)*bval d<=bval h:=by omega
 have K:bval g=bval h-(q-1)*bval d:=by omega
 have L:bval g<bval d:=by omega
 have v:q-1=bval h / bval d:=by
  have J:q-1<=bval h / bval d:=by rw[Nat.le_div_iff_mul_le j.vpos'];exact F
  have G:bval h / bval d<q:=by rw[Nat.div_lt_iff_lt_mul j.vpos'];omega
  omega
 refine⟨s,v,?_⟩;have:=Nat.div_add_mod (bval h) (bval d);rw[<- v,Nat.mul_comm] at this;omega
end
section
open Go.RowKit
theorem y8r (w:World) (r:Option Nat):w.grownBy w r:=⟨rfl,rfl,rfl,Nat.le_refl _,fun _ _ _=>rfl⟩
theorem v3k {w j g:World} {r:Option Nat} (h:w.grownBy j r) (d:j.grownBy g r):w.grownBy g r :=
 ⟨d.os.trans h.os,d.tape.trans h.tape,d.output.trans h.output,Nat.le_trans h.size d.size,fun k i c=>(d.block k (Nat.lt_of_lt_of_le i h.size) c).trans (h.block k i c)⟩
theorem z3r {w c:World} {r:Option Nat} (h:w.grownBy c r) (n:Nat):w.grownBy (c.drewN n) r:=⟨h.os,h.tape,h.output,h.size,h.block⟩
theorem y2y {w d:World} {g:Nat} (h:w.grownBy d (some g)) (j:Nat) (v:Value):w.grownBy (d.setCell ⟨g,j,none⟩ v) (some g) :=
 v3k h ⟨rfl,rfl,rfl,by simp[World.setCell],fun k _ c=>Below.heap_setCell _ _ _ _ (by intro e;apply c;rw[e])⟩
theorem y5q (A c C:List Nat) (i:Nat) (h:i<c.length):nth (A++c++C) (A.length+i)=nth c i:=by
 rw[z3e _ _ _ (by rw[List.length_append];omega),z2x _ _ _ (by omega),Nat.add_sub_cancel_left]
theorem set_mid (A c C:List Nat) (i v:Nat) (h:i<c.length):(A++c++C).set (A.length+i) v=A++c.set i v++C:=by
 rw[List.set_append_left _ _ (by rw[List.length_append];omega),List.set_append_right _ _ (by omega),Nat.add_sub_cancel_left]
def DigEnd (B g N cap:Nat) (A us C vs:List Nat) (w:World) (e:Ending) (w':World):Prop :=
 ∃ us':List Nat,e=.returned (.int .u64 ((bval us / bval vs:Nat):Int))/\us'.length=us.length/\Small us'/\bval us'=bval us % bval vs /\
  Own w' B 153 .u64 (.slice (some ⟨g,0,none⟩) N cap) (A++us'++C)/\w.grownBy w' (some g)
set_option maxRecDepth 100000 in
theorem x9p (B g N cap e5 bv ov cv n:Nat) (A u C j:List Nat) (w:World) (hN:(A++u++C).length=N) (c8:Own w B 153 .u64 (.slice (some ⟨g,0,none⟩) N cap) (A++u++C))
  (hd:DivIn u j n) (hn:n<=100000) (b8:bv≠g) (hv:∀ i,i<n->w.cell? ⟨bv,ov+i,none⟩=some (.int .u64 ((nth j i:Nat):Int))) :
  Calls prog 192 #[.slice (some ⟨g,A.length,none⟩) (n+1) e5,.slice (some ⟨bv,ov,none⟩) n cv] w (DigEnd B g N cap A u C j w):=by
 have z:=qh hd;clear hd;have HN:=qh hN;clear hN;have HO:=qh c8;clear c8;have HV:=qh hv;clear hv;have h1:=z.out.n1;have g0:=z.out.lu;have F:=qh g0;clear g0;have un:w.cell? ⟨g,A.length+n,none⟩=some (.int .u64 ((nth u n:Nat):Int)):=by
  have h:=HO.out.cell HN.out (A.length+n) (by rw[<- HN.out,List.length_append,List.length_append,F.out];omega)
  rwa [y5q _ _ _ _ (by rw[F.out];omega)] at h
 have i6:w.cell? ⟨g,A.length+(n-1),none⟩=some (.int .u64 ((nth u (n-1):Nat):Int)):=by
  have h:=HO.out.cell HN.out (A.length+(n-1)) (by rw[<- HN.out,List.length_append,List.length_append,F.out];omega)
  rwa [y5q _ _ _ _ (by rw[F.out];omega)] at h
 have f7:=HV.out (n-1) (by omega);have h8:=z.out.v1;have f5:=z.out.su n;have d1:=z.out.su (n-1);rw[z0u] at f5 d1
 go_enter func192,ntmps192
 go_wp2_with fail
 go_quiet (fail)
 go_wp2_with fail
 go_quiet (fail)
 go_upto_block 0 with (fail)
 generalize hw2:(World.drewN _ _)=w2;have o:w.grownBy w2 (some g):=by rw[<- hw2];exact z3r (z3r (y8r _ _) _) _
 have a7:Below w.heap.size w w2:=by rw[<- hw2];exact below_drewN (below_drewN (Below.refl _ _) _) _
 have p:Own w2 B 153 .u64 (.slice (some ⟨g,0,none⟩) N cap) (A++u++C):=HO.out.kept a7 (Nat.le_refl _);have e6:=qh o;clear o;have e3:=qh p;clear p;clear hw2 a7 un i6 f7 HO
 go_cut [7,8] from 43 (fun q r wx=>∃ d O:Nat,q=.int .u64 (d:Int)/\r=.int .u64 (O:Int)/\d<BB/\bval u / bval j<=d/\d*bval j<bval u+bval j /\
   Own wx B 153 .u64 (.slice (some ⟨g,0,none⟩) N cap) (A++u++C)/\w.grownBy wx (some g))
 case first =>
  go_wp2_with fail
  go_loopw [7,8] (fun q r wr=>∃ d O:Nat,q=.int .u64 (d:Int)/\r=.int .u64 (O:Int)/\Est u j n d O /\
    Own wr B 153 .u64 (.slice (some ⟨g,0,none⟩) N cap) (A++u++C)/\w.grownBy wr (some g)) (fun q _ _=>(intOf q).toNat)
  case atStart =>
   have he:=Est.start z.out;rw[z0u] at he;exact⟨_,_,by go_num,by go_num,he,e3.out,e6.out⟩
  obtain⟨d,O,rfl,rfl,he,p,o⟩:=hrel;have c9:=he.top;have g4:=z.out.su (n-2);have g3:=z.out.sv (n-2);have g6:=z.out.sv (n-1);rw[z0u] at c9 g4 g3 g6;have j2:d<=999999999999999999:=by
   have:d*1<=d*nth j (n-1):=Nat.mul_le_mul_left _ h8;omega
  have j6:O<=999999999999999999:=by omega
  have g2:(((n:Int)-1).toNat)=n-1:=by omega
  have f7:wr.cell? ⟨bv,ov+(n-1),none⟩=some (.int .u64 ((nth j (n-1):Nat):Int)):=o.cell (HV.out (n-1) (by omega)) (by simpa using b8);have c6:2<=n->wr.cell? ⟨g,A.length+(n-2),none⟩=some (.int .u64 ((nth u (n-2):Nat):Int)):=fun h2=>by
   have h:=p.cell HN.out (A.length+(n-2)) (by rw[<- HN.out,List.length_append,List.length_append,F.out];omega)
   rwa [y5q _ _ _ _ (by rw[F.out];omega)] at h
  have b9:2<=n->wr.cell? ⟨bv,ov+(n-2),none⟩=some (.int .u64 ((nth j (n-2):Nat):Int)):=fun h2=>o.cell (HV.out (n-2) (by omega)) (by simpa using b8);have HE:=qh he;clear he c9 g2;have D:=qh p;clear p;have E:=qh o;clear o;by_cases hA:BB<=d
  ·have a2:=HE.out.back z.out (.inl hA);have I:=qh a2;clear a2;rw[z0u] at hA;have f4:(1000000000:Int)<=(d:Int):=by omega
   clear c6 b9
   go_wp2_with fail
   go_quiet (fail)
   go_wp2_with fail
   ·have b3:(1000000000:Int)<=(O:Int)+((nth j (n-1):Nat):Int):=by assumption
    have j5:(d:Int)-1<1000000000:=by assumption
    go_meet
    refine⟨d-1,O+nth j (n-1),by go_num,by go_num,by rw[z0u];omega,I.out.2.ge,I.out.2.done z.out (by rw[z0u];omega) (.inr (.inl (by rw[z0u];omega))),D.out.kept (below_drewN (Below.refl _ wr) _) (Nat.le_refl _),z3r E.out _⟩
   ·go_roundw
    case rel=>exact⟨d-1,O+nth j (n-1),by go_num,by go_num,I.out.2,D.out.kept (below_drewN (Below.refl _ wr) _) (Nat.le_refl _),z3r E.out _⟩
    have:=I.out.1;simp[intOf];omega
   go_roundw
   case rel=>exact⟨d-1,O+nth j (n-1),by go_num,by go_num,I.out.2,D.out.kept (below_drewN (Below.refl _ wr) _) (Nat.le_refl _),z3r E.out _⟩
   have:=I.out.1;simp[intOf];omega
  have d5:d<BB:=by omega
  have a1:=qh d5;clear d5;rw[z0u] at hA;have f4:decide ((1000000000:Int)<=(d:Int))=false:=by simp;omega
  by_cases b2:2<=n
  ·have d8:=c6 b2;have e8:=b9 b2;clear c6 b9;have L:((d:Int)*((nth j (n-2):Nat):Int))=((d*nth j (n-2):Nat):Int):=by simp
   obtain⟨P,hP⟩:=exq (d*nth j (n-2));have i3:(P:Int)<=999999998000000001:=by
    have:d*nth j (n-2)<=999999999*999999999:=Nat.mul_le_mul (by omega) (by omega);omega
   have hw:IntKind.u64.wrap ((d:Int)*((nth j (n-2):Nat):Int))=(P:Int):=by
    rw[L,<- hP];exact IntWalk.u64_in _ ⟨by omega,by omega⟩
   have HP:=qh hP;clear hP L;have e7:(1:Int)<(n:Int):=by omega
   by_cases h3:O<1000000000
   ·have d0:(O:Int)<1000000000:=by omega
    by_cases ht:O*1000000000+nth u (n-2)<P
    ·have a2:=HE.out.back z.out (.inr ⟨b2,by rw[z0u,<- HP.out];exact ht⟩);have g5:(O:Int)*1000000000+((nth u (n-2):Nat):Int)<(P:Int):=by omega
     have b4:(1:Int)<=(d:Int):=by have:=a2.1;omega
     have I:=qh a2;clear a2 ht
     go_wp2_with fail
     go_quiet (fail)
     clear g5 hw i3;have j1:(d:Int)<=999999999:=by omega
     clear hA f4 h3 d0 g4 g3 d8 e8 b2 e7
     go_wp2_with fail
     ·have b3:(1000000000:Int)<=(O:Int)+((nth j (n-1):Nat):Int):=by assumption
      go_meet
      refine⟨d-1,O+nth j (n-1),by go_num,by go_num,by rw[z0u];omega,I.out.2.ge,I.out.2.done z.out (by rw[z0u];omega) (.inr (.inl (by rw[z0u];omega))),D.out.kept (below_drewN (Below.refl _ wr) _) (Nat.le_refl _),z3r E.out _⟩
     go_roundw
     case rel=>exact⟨d-1,O+nth j (n-1),by go_num,by go_num,I.out.2,D.out.kept (below_drewN (Below.refl _ wr) _) (Nat.le_refl _),z3r E.out _⟩
     have:=I.out.1;simp[intOf];omega
    have g5:decide ((O:Int)*1000000000+((nth u (n-2):Nat):Int)<(P:Int))=false:=by simp;omega
    have g7:=qh ht;clear ht
    go_wp2_with fail
    go_quiet (fail)
    go_wp2_with fail
    go_meet
    exact⟨d,O,rfl,rfl,a1.out,HE.out.ge,HE.out.done z.out a1.out (.inr (.inr ⟨b2,by have:=g7.out;rw[z0u,<- HP.out];omega⟩)),D.out.kept (below_drewN (Below.refl _ wr) _) (Nat.le_refl _),z3r E.out _⟩
   have d0:decide ((O:Int)<1000000000)=false:=by simp;omega
   go_wp2_with fail
   go_quiet (fail)
   go_wp2_with fail
   go_meet
   exact⟨d,O,rfl,rfl,a1.out,HE.out.ge,HE.out.done z.out a1.out (.inr (.inl (by rw[z0u];omega))),D.out.kept (below_drewN (Below.refl _ wr) _) (Nat.le_refl _),z3r E.out _⟩
  have e7:decide ((1:Int)<(n:Int))=false:=by simp;omega
  clear c6 b9
  go_wp2_with fail
  go_quiet (fail)
  go_wp2_with fail
  go_meet
  exact⟨d,O,rfl,rfl,a1.out,HE.out.ge,HE.out.done z.out a1.out (.inl (by omega)),D.out.kept (below_drewN (Below.refl _ wr) _) (Nat.le_refl _),z3r E.out _⟩
 case rest =>
  obtain⟨d,O,rfl,rfl,b4,g1,e9,p,o⟩:=hcut;have d5:(d:Int)<=999999999:=by rw[z0u] at b4;omega
  have i5:=qh b4;clear b4;have f2:=qh g1;clear g1;have i2:=qh e9;clear e9;have h4:=qh p;clear p;have g8:=qh o;clear o;clear e3 e6 f5 d1
  go_wp2_with fail
  go_loopw [9,10,88] (fun b c i wr=>∃ (k S Y:Nat) (v:List Nat),k<=n+1/\i=.int .i64 (k:Int)/\c=.int .u64 (S:Int)/\b=.int .u64 (Y:Int)/\SubIn u j v d k S Y/\(k=n+1->S=0) /\
    Own wr B 153 .u64 (.slice (some ⟨g,0,none⟩) N cap) (A++v++C)/\w.grownBy wr (some g)) (fun _ _ i _=>n+1-(intOf i).toNat)
  case atStart=>exact⟨0,0,0,u,Nat.zero_le _,rfl,rfl,rfl,SubIn.start u j d z.out.su,fun _=>rfl,h4.out,g8.out⟩
  obtain⟨k,S,Y,v,hk,rfl,rfl,rfl,K,a8,p,o⟩:=hrel;have s:=K.len;rw[F.out] at s;have b6:(A++v++C).length=N:=by rw[<- HN.out,List.length_append,List.length_append,List.length_append,List.length_append,s,F.out]
  have W:=qh s;clear s;have a5:=qh b6;clear b6;have f9:=qh a8;clear a8;have R:=qh K;clear K;have Z:=qh p;clear p;have b5:=qh o;clear o;by_cases d4:k<n+1
  ·have h5:(S:Int)<=999999999:=by have:=R.out.carry;rw[z0u] at this;omega
   have j4:(Y:Int)<=1:=by have:=R.out.borrow;omega
   have h7:((nth u k:Nat):Int)<=999999999:=by have:=z.out.su k;rw[z0u] at this;omega
   have uc:wr.cell? ⟨g,A.length+k,none⟩=some (.int .u64 ((nth u k:Nat):Int)):=by
    have h:=Z.out.cell a5.out (A.length+k) (by rw[<- a5.out,List.length_append,List.length_append,W.out];omega)
    rwa [y5q _ _ _ _ (by rw[W.out];omega),R.out.same k (Nat.le_refl _)] at h
   have uf:wr.frozen? ⟨g,A.length+k,none⟩=false:=Z.out.free a5.out _;have J:=R.out.step z.out.sv i5.out (by rw[F.out];exact d4);have a3:=qh J;clear J;by_cases d7:k<n
   ·have vc:wr.cell? ⟨bv,ov+k,none⟩=some (.int .u64 ((nth j k:Nat):Int)):=b5.out.cell (HV.out k d7) (by simpa using b8);have L:((d:Int)*((nth j k:Nat):Int))=((d*nth j k:Nat):Int):=by simp
    have i9:(d:Int)*((nth j k:Nat):Int)<=999999998000000001:=by
     have h2:=z.out.sv k;rw[z0u] at h2;have:d*nth j k<=999999999*999999999:=Nat.mul_le_mul (by omega) (by omega);rw[L];omega
    have j0:0<=(d:Int)*((nth j k:Nat):Int):=by rw[L];omega
    have i4:=qh L;clear L
    go_wp2_with fail
    go_roundw
    case rel =>
     have h9:dSub (nth u k) S Y (d*nth j k)<=1999999999:=by unfold dSub;omega
     rw[i4.out,x1w R.out.borrow];have l:=Z.out.set a5.out (A.length+k) (dSub (nth u k) S Y (d*nth j k) % 1000000000);rw[set_mid _ _ _ _ _ (by rw[W.out];exact d4)] at l;exact⟨k+1,_,_,_,by omega,by go_num,by go_num,by go_num,a3.out,fun h=>by omega,l,y2y b5.out _ _⟩
    simp[intOf];omega
   have H:k=n:=by omega
   have b1:nth j k=0:=z1n j k (by have:=z.out.lv;omega);have f0:(S+d*nth j k) / 1000000000=0:=by
    have h:=R.out;rw[H] at h ⊢;exact h.last z.out.lv
   have i8:=qh H;clear H;have e4:=qh b1;clear b1;have g9:=qh f0;clear f0
   go_wp2_with fail
   go_roundw
   case rel =>
    have e0:(S:Int)=(S:Int)+((d*nth j k:Nat):Int):=by rw[e4.out];simp
    have e1:(S:Int) / 1000000000=((S+d*nth j k) / 1000000000:Nat):=by rw[e4.out,Nat.mul_zero];omega
    have e2:((nth u k:Nat):Int)+1000000000-(S:Int) % 1000000000-(Y:Int)=((dSub (nth u k) S Y (d*nth j k):Nat):Int):=by
     rw[<- x1w R.out.borrow,<- e0]
    have h9:dSub (nth u k) S Y (d*nth j k)<=1999999999:=by unfold dSub;omega
    rw[e1,e2];have l:=Z.out.set a5.out (A.length+k) (dSub (nth u k) S Y (d*nth j k) % 1000000000);rw[set_mid _ _ _ _ _ (by rw[W.out];exact d4)] at l;exact⟨k+1,_,_,_,by omega,by go_num,rfl,by go_num,a3.out,fun _=>g9.out,l,y2y b5.out _ _⟩
   simp[intOf];omega
  have H:k=n+1:=by omega
  have d9:=f9.out H;have K:=R.out;rw[H,d9] at K;have U:=qh K;clear K;clear R f9 H d9
  rcases Nat.eq_zero_or_pos Y with h0|h0
  ·have i7:(((Y:Nat):Int)==0)=true:=by rw[beq_iff_eq];omega
   have Q:d=bval u / bval j/\bval v=bval u % bval j:=by
    have h:=U.out;rw[h0] at h;exact h.fits z.out f2.out
   have HF:=qh Q;clear Q;have h6:=qh h0;clear h0
   go_wp2_with fail
   go_ret;exact⟨v,z4x (by rw[<- HF.out.1]),by rw[W.out,F.out],U.out.small,HF.out.2,Z.out,b5.out⟩
  have i7:(((Y:Nat):Int)==0)=false:=by rw[beq_eq_false_iff_ne];omega
  have b3:Y=1:=by have:=U.out.borrow;omega
  have K:=U.out;rw[b3] at K;have d2:=qh K;clear K U;have h6:=qh b3;clear b3 h0;obtain⟨wo,rfl⟩:∃ wo:World,wo=wr:=⟨_,rfl⟩
  go_wp2_with fail
  go_loopw [10,129] (fun c i wr=>∃ (k S:Nat) (T:List Nat),k<=n+1/\i=.int .i64 (k:Int)/\c=.int .u64 (S:Int)/\AddIn v j T k S /\
   Own wr B 153 .u64 (.slice (some ⟨g,0,none⟩) N cap) (A++T++C)/\w.grownBy wr (some g)) (fun _ i _=>n+1-(intOf i).toNat)
  case atStart=>exact⟨0,0,v,Nat.zero_le _,rfl,rfl,AddIn.start v j d2.out.small,Z.out,b5.out⟩
  obtain⟨G,d3,T,j3,rfl,rfl,X,p,o⟩:=hrel;have s:=X.len;rw[W.out] at s;have b6:(A++T++C).length=N:=by rw[<- HN.out,List.length_append,List.length_append,List.length_append,List.length_append,s,F.out]
  have a9:=qh s;clear s;have b7:=qh b6;clear b6;have a6:=qh X;clear X;have a4:=qh p;clear p;have c7:=qh o;clear o;by_cases b0:G<n+1
  ·have h5:(d3:Int)<=1:=by have:=a6.out.carry;omega
   have h7:((nth v G:Nat):Int)<=999999999:=by have:=d2.out.small G;rw[z0u] at this;omega
   have f8:((nth j G:Nat):Int)<=999999999:=by have:=z.out.sv G;rw[z0u] at this;omega
   have uc:wr.cell? ⟨g,A.length+G,none⟩=some (.int .u64 ((nth v G:Nat):Int)):=by
    have h:=a4.out.cell b7.out (A.length+G) (by rw[<- b7.out,List.length_append,List.length_append,a9.out];omega)
    rwa [y5q _ _ _ _ (by rw[a9.out];omega),a6.out.same G (Nat.le_refl _)] at h
   have uf:wr.frozen? ⟨g,A.length+G,none⟩=false:=a4.out.free b7.out _;have J:=a6.out.step z.out.sv (by rw[W.out];exact b0);have a3:=qh J;clear J;by_cases d7:G<n
   ·have vc:wr.cell? ⟨bv,ov+G,none⟩=some (.int .u64 ((nth j G:Nat):Int)):=c7.out.cell (HV.out G d7) (by simpa using b8)
    go_wp2_with fail
    go_roundw
    case rel =>
     have l:=a4.out.set b7.out (A.length+G) ((nth v G+d3+nth j G) % 1000000000);rw[set_mid _ _ _ _ _ (by rw[a9.out];exact b0)] at l;exact⟨G+1,_,_,by omega,by go_num,by go_num,a3.out,l,y2y c7.out _ _⟩
    simp[intOf];omega
   have b1:nth j G=0:=z1n j G (by have:=z.out.lv;omega);have d6:=a3.out;rw[b1,Nat.add_zero] at d6;have f1:=qh d6;clear d6 a3 b1 f8
   go_wp2_with fail
   go_roundw
   case rel =>
    have l:=a4.out.set b7.out (A.length+G) ((nth v G+d3) % 1000000000);rw[set_mid _ _ _ _ _ (by rw[a9.out];exact b0)] at l;exact⟨G+1,_,_,by omega,by go_num,by go_num,f1.out,l,y2y c7.out _ _⟩
   simp[intOf];omega
  have H:G=n+1:=by omega
  have X:=a6.out;rw[H] at X;have Q:=X.fits z.out d2.out f2.out i2.out;have b4:(1:Int)<=(d:Int):=by have:=Q.1;omega
  have HF:=qh Q;clear Q X;have i8:=qh H;clear H
  go_wp2_with fail
  go_ret;exact⟨T,z4x (by rw[<- HF.out.2.1];omega),by rw[a9.out,F.out],a6.out.small,HF.out.2.2,a4.out,c7.out⟩
end
end Go.Proofs.YtjekapjbigfkbaaGreatDoor
